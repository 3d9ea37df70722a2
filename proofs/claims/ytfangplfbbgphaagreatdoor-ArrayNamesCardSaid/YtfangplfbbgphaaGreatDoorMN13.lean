/- Several texts in one. -/
import Derived.Laws.EntriesVeiled
import Derived.Lib.Builder
import Derived.Lib.AppendStr
import Derived.Lib.UnsafeStr
import Derived.Lib.Strings
import Derived.Lib.Walk
import Derived.WalkKit
import Derived.Laws.Externs
import Derived.Test.YtfangplfbbgphaaGreatDoorMN00
import Derived.Test.YtfangplfbbgphaaGreatDoorMN06
import Derived.Test.YtfangplfbbgphaaGreatDoorMN11
import Derived.Test.YtfangplfbbgphaaGreatDoorMN12
namespace Go.Proofs.YtfangplfbbgphaaGreatDoor
open Go.ChangeShapes Go.WideShapes Go.ChangeAt Go.RowKit
set_option linter.unusedVariables false
set_option maxRecDepth 100000
set_option linter.unusedSimpArgs false
attribute [local go_sem ↓] Go.wp_at_zero Go.wp_at_succ
attribute [local go_sem] Oper.semAt_some
def clsF (R : List (St × V6)) (cs : List Cl) (p : Nat × Nat) : List Cl := match R[p.1]?, R[p.2]? with
 | some a, some b => putC p (subV b.2 a.2) (subV a.2 b.2) cs
 | _, _ => cs
def clsK (R : List (St × V6)) (n k : Nat) : List Cl := ((prs n).take k).foldl (clsF R) []
theorem clsK_zero (R : List (St × V6)) (n : Nat) : clsK R n 0 = [] := by unfold clsK; rw [List.take_zero]; rfl
theorem clsK_step {R : List (St × V6)} {n k i j : Nat} {a b : St × V6} (hp : (prs n)[k]? = some (i, j)) (ha : R[i]? = some a) (hb : R[j]? = some b) : clsK R n (k + 1) = putC (i, j) (subV b.2 a.2) (subV a.2 b.2) (clsK R n k) := by
 unfold clsK
 rw [prs_take hp, List.foldl_append]
 show clsF R _ (i, j) = _
 unfold clsF
 simp only [ha, hb]
theorem clsK_size {R : List (St × V6)} {n : Nat} : ∀ k, (clsK R n k).length ≤ k ∧ ∀ c ∈ clsK R n k, c.2.length ≤ k
 | 0 => by rw [clsK_zero]; simp
 | k + 1 => by
  obtain ⟨h1, h2⟩ := clsK_size (R := R) (n := n) k
  cases hp : (prs n)[k]? with
  | none =>
   have hk : (prs n).length ≤ k := by
    rcases Nat.lt_or_ge k (prs n).length with h | h
    ·rw [List.getElem?_eq_getElem h] at hp; cases hp
    ·exact h
   have e : clsK R n (k + 1) = clsK R n k := by unfold clsK; rw [List.take_of_length_le (by omega), List.take_of_length_le hk]
   rw [e]
   exact ⟨by omega, fun c hc => by have := h2 c hc; omega⟩
  | some p =>
   have e : clsK R n (k + 1) = clsF R (clsK R n k) p := by unfold clsK; rw [prs_take hp, List.foldl_append]; rfl
   rw [e]
   unfold clsF
   split
   ·exact ⟨Nat.le_trans putC_len (by omega), putC_size h2⟩
   ·exact ⟨by omega, fun c hc => by have := h2 c hc; omega⟩
def clsL (A B : Int) (l : List St) : List Cl := clsK (pls A B l) l.length (prs l.length).length
theorem own_OC {B B' : Nat} {β : Type} (v : β → Value) (cs : β → List Cl) (hs : β → List Value) : OwnFrom B (fun k W => OC B' W (v k) (cs k) (hs k)) := by
 intro s W W' row h hg hr
 exact ⟨h.len, own_rowG (β := Unit) _ 7 (fun _ => v s) (fun _ => (cs s).length) (fun _ => (hdC (cs s) (hs s)).flatMap cl7) () W W' row h.row hg hr,
  fun k c u hc hu => own_rowG (β := Unit) _ 2 (fun _ => u) (fun _ => c.2.length) (fun _ => c.2.flatMap pr2) () W W' row (h.inn k c u hc hu) hg hr, h.sep⟩
theorem OC.mono {B B' : Nat} {W : World} {v : Value} {cs : List Cl} {hs : List Value} (h : OC B W v cs hs) (hB : B' ≤ B) : OC B' W v cs hs :=
 ⟨h.len, own_mono h.row hB, fun k c u hc hu => own_mono (h.inn k c u hc hu) hB, h.sep⟩
theorem OC.putObj {B : Nat} {W : World} {v : Value} {cs : List Cl} {hs : List Value} (h : OC B W v cs hs) {D : Nat} {o : Obj} (o' : Obj) (hD : W.heap[D]? = some o) (hc : o.isCells = false) : OC B (W.putObj D o') v cs hs :=
 ⟨h.len, ownsRow_putObj h.row _ hD hc, fun k c u hc' hu => ownsRow_putObj (h.inn k c u hc' hu) _ hD hc, h.sep⟩
set_option maxRecDepth 100000 in
set_option maxHeartbeats 16000000 in
theorem aclasses_calls {A B : Int} {a : Option Addr} {c : Nat} {l : List St} {w : World} (hl : RSt w a l) (hc : l.length ≤ c) (hc' : c ≤ 9223372036854775807) (hn : ∀ x ∈ l, x.nm.size ≤ 9223372036854775807) : Calls Tryz.prog 10 #[Gv A B, .slice a l.length c] w fun e w' =>
  ∃ v, e = .returned (.tuple #[v, .int .i64 (plE A B l)]) ∧ Below w.heap.size w w' ∧ (plE A B l ≠ 0 → v = .slice none 0 0) ∧ (plE A B l = 0 → ∃ hs, OC w.heap.size w' v (clsL A B l) hs) := by
 have NN := Lib.hid (Below.refl w.heap.size w)
 have PC := Lib.hid (fun (W : World) (hb : Below w.heap.size w W) => place_calls (A := A) (B := B) (hl.next hb) hc hc' hn)
 have L8 := Lib.hid (fun (h : plE A B l = 0) => (stsE_ok (plE_ok h).2.1).1)
 have LO := Lib.hid (fun (h : plE A B l = 0) (s t : St) (hs : s ∈ l) (ht : t ∈ l) => line_ok h hs ht)
 clear hl hn
 obtain ⟨pe, hpe⟩ : ∃ pe, plE A B l = pe := ⟨_, rfl⟩
 simp only [hpe] at PC L8 LO ⊢
 clear hpe
 refine (callsIn_wide (n := 0)).1 ?_
 refine callsIn_of_wp_marks Tryz.func10 rfl trivial ?_ rfl
 simp only [Tryz.ntmps10, List.size_toArray, List.length_cons, List.length_nil, Nat.reduceAdd, Nat.reduceSub, Array.replicate_succ, Array.replicate_zero, List.push_toArray, List.append_toArray, List.nil_append, List.cons_append]
 refine wpIn_wide.2 ?_
 go_wp2_with fail
 have G : Hid ((((w.alloc (.cells #[.int .i64 A, .int .i64 B] 23)).alloc (.cells #[.slice none 0 0] 27)).alloc (.cells #[.int .i64 0] 28)).heap[w.heap.size]? = some (.cells #[.int .i64 A, .int .i64 B] 23)) := Lib.hid (blk_alloc (blk_alloc (blk_new w _) _) _)
 have R4 : Hid ((((w.alloc (.cells #[.int .i64 A, .int .i64 B] 23)).alloc (.cells #[.slice none 0 0] 27)).alloc (.cells #[.int .i64 0] 28)).heap[w.heap.size + 1]? = some (.cells #[.slice none 0 0] 27)) := Lib.hid (blk_alloc (blk_at _ (by simp)) _)
 have R5 : Hid ((((w.alloc (.cells #[.int .i64 A, .int .i64 B] 23)).alloc (.cells #[.slice none 0 0] 27)).alloc (.cells #[.int .i64 0] 28)).heap[w.heap.size + 1 + 1]? = some (.cells #[.int .i64 0] 28)) := Lib.hid (blk_at _ (by simp))
 replace NN : Hid (Below w.heap.size w (((w.alloc (.cells #[.int .i64 A, .int .i64 B] 23)).alloc (.cells #[.slice none 0 0] 27)).alloc (.cells #[.int .i64 0] 28))) := Lib.hid (Bal (Bal (Bal NN.out _) _) _)
 generalize (((w.alloc (.cells #[.int .i64 A, .int .i64 B] 23)).alloc (.cells #[.slice none 0 0] 27)).alloc (.cells #[.int .i64 0] 28)) = W1 at *
 have LW1 := Lib.hid NN.out.size
 refine (PC.out _ NN.out).mono ?_
 rintro e w2 ⟨v, rfl, hb, hv0, hv1⟩
 replace NN := Lib.hid (Bgo NN.out hb)
 replace G := Lib.hid (blk_next hb G.out)
 replace R4 := Lib.hid (blk_next hb R4.out)
 replace R5 := Lib.hid (blk_next hb R5.out)
 clear hb
 have V0 := Lib.hid hv0
 have V1 := Lib.hid hv1
 clear hv0 hv1 PC
 by_cases he : pe ≠ 0
 ·have q1 : (pe != 0) = true := by simpa using he
  have HE := Lib.hid he
  obtain rfl := V0.out he
  clear he V0 V1 L8 LO
  have HB := Lib.hid (show Below w2.heap.size w2 (w2.alloc (.cells #[.slice none 0 0] 80)) from (Bal (Below.refl _ _) _))
  have S6 : Hid ((w2.alloc (.cells #[.slice none 0 0] 80)).heap[w2.heap.size]? = some (.cells #[.slice none 0 0] 80)) := Lib.hid (blk_new w2 _)
  have LT_S6 : Hid (w.heap.size < w2.heap.size ∧ w.heap.size + 1 < w2.heap.size ∧ w.heap.size + 1 + 1 < w2.heap.size ∧ w.heap.size ≤ w2.heap.size) := Lib.hid ⟨blk_lt G.out, blk_lt R4.out, blk_lt R5.out, NN.out.size⟩
  replace NN := Lib.hid (Bgo NN.out HB.out)
  replace G := Lib.hid (blk_next HB.out G.out)
  replace R4 := Lib.hid (blk_next HB.out R4.out)
  replace R5 := Lib.hid (blk_next HB.out R5.out)
  clear HB
  have c_R4_0 := blk_cell R4.out 0 _ rfl
  have f_R4_0 := blk_frozen R4.out 0
  have l_R4 := blk_lt R4.out
  have c_R5_0 := blk_cell R5.out 0 _ rfl
  have f_R5_0 := blk_frozen R5.out 0
  have l_R5 := blk_lt R5.out
  go_wp2_with fail
  clear c_R4_0 f_R4_0 l_R4 c_R5_0 f_R5_0 l_R5
  generalize (w2.alloc (.cells #[.slice none 0 0] 80)) = W3 at *
  generalize w2.heap.size = g6 at *
  replace G : Hid (((W3.setCell ⟨w.heap.size + 1, 0, none⟩ (.slice none 0 0)).setCell ⟨w.heap.size + 1 + 1, 0, none⟩ (.int .i64 pe)).heap[w.heap.size]? = some (.cells #[.int .i64 A, .int .i64 B] 23)) := Lib.hid (blk_set_other (b' := w.heap.size + 1 + 1) (blk_set_other (b' := w.heap.size + 1) (G.out) (by omega) 0 (.slice none 0 0)) (by omega) 0 (.int .i64 pe))
  replace R4 : Hid (((W3.setCell ⟨w.heap.size + 1, 0, none⟩ (.slice none 0 0)).setCell ⟨w.heap.size + 1 + 1, 0, none⟩ (.int .i64 pe)).heap[w.heap.size + 1]? = some (.cells #[.slice none 0 0] 27)) := Lib.hid (blk_set_other (b' := w.heap.size + 1 + 1) (blk_set (R4.out) 0 (.slice none 0 0)) (by omega) 0 (.int .i64 pe))
  replace R5 : Hid (((W3.setCell ⟨w.heap.size + 1, 0, none⟩ (.slice none 0 0)).setCell ⟨w.heap.size + 1 + 1, 0, none⟩ (.int .i64 pe)).heap[w.heap.size + 1 + 1]? = some (.cells #[.int .i64 pe] 28)) := Lib.hid (blk_set (blk_set_other (b' := w.heap.size + 1) (R5.out) (by omega) 0 (.slice none 0 0)) 0 (.int .i64 pe))
  replace S6 : Hid (((W3.setCell ⟨w.heap.size + 1, 0, none⟩ (.slice none 0 0)).setCell ⟨w.heap.size + 1 + 1, 0, none⟩ (.int .i64 pe)).heap[g6]? = some (.cells #[.slice none 0 0] 80)) := Lib.hid (blk_set_other (b' := w.heap.size + 1 + 1) (blk_set_other (b' := w.heap.size + 1) (S6.out) (by have := LT_S6.out; omega) 0 (.slice none 0 0)) (by have := LT_S6.out; omega) 0 (.int .i64 pe))
  replace NN := Lib.hid (Bset1 (Bset1 (NN.out) (show w.heap.size ≤ w.heap.size + 1 by omega) 0 (.slice none 0 0)) (show w.heap.size ≤ w.heap.size + 1 + 1 by omega) 0 (.int .i64 pe))
  generalize ((W3.setCell ⟨w.heap.size + 1, 0, none⟩ (.slice none 0 0)).setCell ⟨w.heap.size + 1 + 1, 0, none⟩ (.int .i64 pe)) = W4 at *
  have c_R4_0 := blk_cell R4.out 0 _ rfl
  have f_R4_0 := blk_frozen R4.out 0
  have l_R4 := blk_lt R4.out
  have c_R5_0 := blk_cell R5.out 0 _ rfl
  have f_R5_0 := blk_frozen R5.out 0
  have l_R5 := blk_lt R5.out
  go_wp2_with fail
  exact ⟨.tuple #[.slice none 0 0, .int .i64 pe], by simp [results, Tryz.results10, go_sem, c_R4_0, c_R5_0], ⟨_, rfl, NN.out, fun _ => rfl, fun h => absurd h HE.out⟩⟩
 have he0 : pe = 0 := by omega
 subst he0
 clear he
 obtain ⟨gR, rfl, hg, hr⟩ := V1.out rfl
 have l8 := L8.out rfl
 replace LO := Lib.hid (LO.out rfl)
 clear V0 V1 L8
 have RB := Lib.hid hr
 have LG := Lib.hid hg
 clear hr hg
 clear G
 go_wp2_with fail
 refine (pairs_calls _ _).mono ?_
 rintro e w9 ⟨rfl, rfl⟩
 have LR : Hid (w.heap.size + 1 + 1 < w2.heap.size ∧ gR < w2.heap.size ∧ w.heap.size ≤ gR) := Lib.hid ⟨blk_lt R5.out, blk_lt RB.out, Nat.le_trans LW1.out LG.out⟩
 have SZ9 : Hid (((((w2.alloc (.cells #[.slice (some ⟨gR, 0, none⟩) l.length l.length] 80)).alloc (.cells #[.slice none 0 0] 27)).alloc (.cells #[.func (.func 37) #[] #[.pointer (some ⟨w2.heap.size + 1, 0, none⟩)]] 84)).alloc (.cells #[.int .i64 (l.length : Int)] 3)).heap.size = w2.heap.size + 1 + 1 + 1 + 1) := Lib.hid (by simp)
 have HB := Lib.hid (show Below w2.heap.size w2 ((((w2.alloc (.cells #[.slice (some ⟨gR, 0, none⟩) l.length l.length] 80)).alloc (.cells #[.slice none 0 0] 27)).alloc (.cells #[.func (.func 37) #[] #[.pointer (some ⟨w2.heap.size + 1, 0, none⟩)]] 84)).alloc (.cells #[.int .i64 (l.length : Int)] 3)) from (Bal (Bal (Bal (Bal (Below.refl _ _) _) _) _) _))
 have S6 : Hid (((((w2.alloc (.cells #[.slice (some ⟨gR, 0, none⟩) l.length l.length] 80)).alloc (.cells #[.slice none 0 0] 27)).alloc (.cells #[.func (.func 37) #[] #[.pointer (some ⟨w2.heap.size + 1, 0, none⟩)]] 84)).alloc (.cells #[.int .i64 (l.length : Int)] 3)).heap[w2.heap.size]? = some (.cells #[.slice (some ⟨gR, 0, none⟩) l.length l.length] 80)) := Lib.hid (blk_alloc (blk_alloc (blk_alloc (blk_new w2 _) _) _) _)
 have V8 : Hid (((((w2.alloc (.cells #[.slice (some ⟨gR, 0, none⟩) l.length l.length] 80)).alloc (.cells #[.slice none 0 0] 27)).alloc (.cells #[.func (.func 37) #[] #[.pointer (some ⟨w2.heap.size + 1, 0, none⟩)]] 84)).alloc (.cells #[.int .i64 (l.length : Int)] 3)).heap[w2.heap.size + 1]? = some (.cells #[.slice none 0 0] 27)) := Lib.hid (blk_alloc (blk_alloc (blk_at _ (by simp)) _) _)
 have F9 : Hid (((((w2.alloc (.cells #[.slice (some ⟨gR, 0, none⟩) l.length l.length] 80)).alloc (.cells #[.slice none 0 0] 27)).alloc (.cells #[.func (.func 37) #[] #[.pointer (some ⟨w2.heap.size + 1, 0, none⟩)]] 84)).alloc (.cells #[.int .i64 (l.length : Int)] 3)).heap[w2.heap.size + 1 + 1]? = some (.cells #[.func (.func 37) #[] #[.pointer (some ⟨w2.heap.size + 1, 0, none⟩)]] 84)) := Lib.hid (blk_alloc (blk_at _ (by simp)) _)
 have VT : Hid (((((w2.alloc (.cells #[.slice (some ⟨gR, 0, none⟩) l.length l.length] 80)).alloc (.cells #[.slice none 0 0] 27)).alloc (.cells #[.func (.func 37) #[] #[.pointer (some ⟨w2.heap.size + 1, 0, none⟩)]] 84)).alloc (.cells #[.int .i64 (l.length : Int)] 3)).heap[w2.heap.size + 1 + 1 + 1]? = some (.cells #[.int .i64 (l.length : Int)] 3)) := Lib.hid (blk_at _ (by simp))
 have LT_S6 : Hid (w.heap.size + 1 < w2.heap.size ∧ w.heap.size + 1 + 1 < w2.heap.size ∧ w.heap.size ≤ w2.heap.size) := Lib.hid ⟨blk_lt R4.out, blk_lt R5.out, NN.out.size⟩
 replace NN := Lib.hid (Bgo NN.out HB.out)
 replace RB := Lib.hid (blk_next HB.out RB.out)
 replace R4 := Lib.hid (blk_next HB.out R4.out)
 replace R5 := Lib.hid (blk_next HB.out R5.out)
 clear HB
 go_wp2_with fail
 generalize ((((w2.alloc (.cells #[.slice (some ⟨gR, 0, none⟩) l.length l.length] 80)).alloc (.cells #[.slice none 0 0] 27)).alloc (.cells #[.func (.func 37) #[] #[.pointer (some ⟨w2.heap.size + 1, 0, none⟩)]] 84)).alloc (.cells #[.int .i64 (l.length : Int)] 3)) = W5 at *
 generalize w2.heap.size = g6 at *
 have SZ : Hid (W5.heap.size = g6 + 1 + 1 + 1 + 1) := Lib.hid SZ9.out
 clear SZ9 LW1
 refine wpIn_wide.1 (range_k 66 #[.pointer (some ⟨g6 + 1 + 1 + 1, 0, none⟩)] rfl (enters_of Tryz.func66 (by kernel_rfl) rfl) (encP l.length) w.heap.size (prs l.length).length (fun W => W.heap[g6 + 1 + 1 + 1]? = some (.cells #[.int .i64 (l.length : Int)] 3))
  (pairs_seq (by omega) (by have := SZ.out; have := LR.out; omega)) (by have := SZ.out; have := LR.out; omega) (fun _ => rfl)
  (fun k W => (W.heap[w.heap.size + 1]? = some (.cells #[.slice none 0 0] 27)) ∧ (W.heap[w.heap.size + 1 + 1]? = some (.cells #[.int .i64 0] 28)) ∧ (W.heap[g6]? = some (.cells #[.slice (some ⟨gR, 0, none⟩) l.length l.length] 80)) ∧ (W.heap[g6 + 1 + 1]? = some (.cells #[.func (.func 37) #[] #[.pointer (some ⟨g6 + 1, 0, none⟩)]] 84)) ∧ (W.heap[g6 + 1 + 1 + 1]? = some (.cells #[.int .i64 (l.length : Int)] 3)) ∧ (W.heap[gR]? = some (.cells ((pls A B l).flatMap pl11).toArray 89)) ∧ (Below w.heap.size w W) ∧ (W5.heap.size ≤ W.heap.size) ∧ (∃ v hs, W.heap[g6 + 1]? = some (.cells #[v] 27) ∧ OC W5.heap.size W v (clsK (pls A B l) l.length k) hs))
  (fun cd k W => False)
  (fun k a' W => ∃ Bx : Nat, (a' = { tmps := #[Gv A B, .slice a l.length c, .pointer (some ⟨w.heap.size, 0, none⟩), undef, .pointer (some ⟨w.heap.size + 1, 0, none⟩), .pointer (some ⟨w.heap.size + 1 + 1, 0, none⟩), .pointer (some ⟨g6, 0, none⟩), .int .i64 0, .pointer (some ⟨g6 + 1, 0, none⟩), .pointer (some ⟨g6 + 1 + 1, 0, none⟩), .pointer (some ⟨Bx, 0, none⟩), undef, undef, undef, .tuple #[.slice (some ⟨gR, 0, none⟩) l.length l.length, .int .i64 0], Gv A B, .slice a l.length c, .tuple #[.slice (some ⟨gR, 0, none⟩) l.length l.length, .int .i64 0], .slice (some ⟨gR, 0, none⟩) l.length l.length, .int .i64 0, .int .i64 0, .bool false, undef, .func (.func 37) #[] #[.pointer (some ⟨g6 + 1, 0, none⟩)], .slice (some ⟨gR, 0, none⟩) l.length l.length, .int .i64 (l.length : Int), .func (.func 66) #[] #[.pointer (some ⟨g6 + 1 + 1 + 1, 0, none⟩)], .agg #[.int .i64 ((prAt l.length k).1 : Int), .int .i64 ((prAt l.length k).2 : Int)], undef, undef, undef, undef, undef, undef, undef, undef, undef, undef, undef, undef, undef, undef, undef, undef, undef, undef, undef, undef, undef, undef, undef, undef, undef, undef, undef, undef, undef, undef, undef, undef, undef, undef, undef, undef, undef, undef, undef, undef, undef, undef, undef, undef], defers := [] }) ∧ (W5.heap.size ≤ Bx) ∧ (W.heap[Bx]? = some (.cells #[.int .i64 ((prAt l.length k).1 : Int), .int .i64 ((prAt l.length k).2 : Int)] 43)) ∧ (W.heap[w.heap.size + 1]? = some (.cells #[.slice none 0 0] 27)) ∧ (W.heap[w.heap.size + 1 + 1]? = some (.cells #[.int .i64 0] 28)) ∧ (W.heap[g6]? = some (.cells #[.slice (some ⟨gR, 0, none⟩) l.length l.length] 80)) ∧ (W.heap[g6 + 1 + 1]? = some (.cells #[.func (.func 37) #[] #[.pointer (some ⟨g6 + 1, 0, none⟩)]] 84)) ∧ (W.heap[g6 + 1 + 1 + 1]? = some (.cells #[.int .i64 (l.length : Int)] 3)) ∧ (W.heap[gR]? = some (.cells ((pls A B l).flatMap pl11).toArray 89)) ∧ (Below w.heap.size w W) ∧ (W5.heap.size ≤ W.heap.size) ∧ (∃ v hs, W.heap[g6 + 1]? = some (.cells #[v] 27) ∧ OC W5.heap.size W v (clsK (pls A B l) l.length k) hs))
  ((own_blk _ _ _).and ((own_blk _ _ _).and ((own_blk _ _ _).and ((own_blk _ _ _).and ((own_blk _ _ _).and ((own_blk _ _ _).and ((ownFrom_below (Nat.le_refl _) (by have := SZ.out; have := LR.out; omega)).and ((own_size _).and (own_ex fun _ => own_ex fun _ => (own_blk _ _ _).and (own_OC _ _ _))))))))))
  (fun _ => own_pure _)
  (fun _ => own_ex fun _ => ((own_pure _).and ((own_pure _).and ((own_blk _ _ _).and ((own_blk _ _ _).and ((own_blk _ _ _).and ((own_blk _ _ _).and ((own_blk _ _ _).and ((own_blk _ _ _).and ((own_blk _ _ _).and ((ownFrom_below (Nat.le_refl _) (by have := SZ.out; have := LR.out; omega)).and ((own_size _).and (own_ex fun _ => own_ex fun _ => (own_blk _ _ _).and (own_OC _ _ _))))))))))))))
  (fun k W h => h.2.2.2.2.1)
  ⟨R4.out, R5.out, S6.out, F9.out, VT.out, RB.out, NN.out, Nat.le_refl _, ⟨_, [], V8.out, by rw [clsK_zero]; exact OC.nil _ _⟩⟩ ?assign ?body ?done ?stop)
 case assign =>
  rintro lp k W K ⟨r4, r5, s6, f9, vt, rb, nn, sz, ⟨v, hs, v8, oc⟩⟩ hlt hK
  gi_wp2
  exact hK _ _ (keeps_of_below (Bal (Below.refl _ _) _)) ((Below.refl _ W).alloc nn.size _) ⟨W.heap.size, rfl, sz, blk_new W _, blk_alloc r4 _, blk_alloc r5 _, blk_alloc s6 _, blk_alloc f9 _, blk_alloc vt _, blk_alloc rb _, Bal nn _, by rw [World.size_alloc]; omega, v, hs, blk_alloc v8 _, oc.next (Bal (Below.refl _ _) _)⟩
 case body =>
  rintro lp k a' W ⟨Bx, rfl, lx, vx, r4, r5, s6, f9, vt, rb, nn, sz, ⟨v, hs, v8, oc⟩⟩ hlt
  obtain ⟨i, j, hij⟩ : ∃ i j, prAt l.length k = (i, j) := ⟨_, _, rfl⟩
  have hpk : (prs l.length)[k]? = some (i, j) := by rw [← hij]; unfold prAt; rw [List.getD_eq_getElem?_getD, List.getElem?_eq_getElem hlt]; rfl
  obtain ⟨h1, h2⟩ := prs_lt (by omega) (List.mem_of_getElem? hpk)
  obtain ⟨s, hs'⟩ := get_some (show i < l.length by omega)
  obtain ⟨t, ht⟩ := get_some (show j < l.length by omega)
  have HS := Lib.hid (pls_get (A := A) (B := B) hs')
  have HT := Lib.hid (pls_get (A := A) (B := B) ht)
  have ST := Lib.hid (clsK_step hpk HS.out HT.out)
  have SK := Lib.hid (LO.out s t (List.mem_of_getElem? hs') (List.mem_of_getElem? ht))
  have SB := Lib.hid (LO.out t s (List.mem_of_getElem? ht) (List.mem_of_getElem? hs'))
  rw [hij] at vx ⊢
  simp only at vx ⊢
  have k1 : (0 : Int) ≤ (i : Int) := by omega
  have k2 : i < l.length := by omega
  have k3 : (0 : Int) ≤ (j : Int) := by omega
  have k4 : j < l.length := by omega
  have KL : Hid (k < 28) := Lib.hid (by have := prs_len8 (n := l.length) (by omega); omega)
  have BX := Lib.hid vx
  have R4 := Lib.hid r4
  have R5 := Lib.hid r5
  have S6 := Lib.hid s6
  have F9 := Lib.hid f9
  have VT := Lib.hid vt
  have RB := Lib.hid rb
  have N0 := Lib.hid nn
  have SZk := Lib.hid sz
  have LX := Lib.hid lx
  have V8 := Lib.hid v8
  have OX := Lib.hid oc
  have LW : Hid (W5.heap.size ≤ W.heap.size ∧ Bx < W.heap.size ∧ gR < W.heap.size ∧ g6 + 1 + 1 + 1 < W.heap.size) := Lib.hid ⟨sz, blk_lt vx, blk_lt rb, blk_lt vt⟩
  have NN := Lib.hid (Below.refl W.heap.size W)
  have S60 := S6
  have F90 := F9
  have RB0 := RB
  clear hij hpk vx r4 r5 s6 f9 vt rb nn sz lx v8 oc hs' ht h1 h2 l8 hlt
  simp only at ST
  generalize plV A B s = sv at *
  generalize plV A B t = tv at *
  have CS := Lib.hid (fun W => vsub_calls tv sv SK.out W)
  have CT := Lib.hid (fun W => vsub_calls sv tv SB.out W)
  generalize subV tv sv = rv at *
  generalize subV sv tv = rb at *
  gi_wp2_with fail
  have HDRW := Lib.hid (Below.drew (Below.refl W.heap.size W))
  replace NN := Lib.hid (Bgo NN.out HDRW.out)
  replace RB := Lib.hid (blk_next HDRW.out RB.out)
  replace S6 := Lib.hid (blk_next HDRW.out S6.out)
  replace BX := Lib.hid (blk_next HDRW.out BX.out)
  clear HDRW
  have HAL : Hid (∀ kx9 : Nat, GK [(0, g6, .cells #[.slice (some ⟨gR, 0, none⟩) l.length l.length] 80), (2, Bx, .cells #[.int .i64 (i : Int), .int .i64 (j : Int)] 43), (5, gR, .cells ((pls A B l).flatMap pl11).toArray 89), (6, g6, .cells #[.slice (some ⟨gR, 0, none⟩) l.length l.length] 80), (8, Bx, .cells #[.int .i64 (i : Int), .int .i64 (j : Int)] 43), (11, gR, .cells ((pls A B l).flatMap pl11).toArray 89)] kx9 W.drew) := Lib.hid (fun kx9 => fun px9 hp e => by
   simp only [List.mem_cons, List.not_mem_nil, or_false] at hp
   rcases hp with rfl | rfl | rfl | rfl | rfl | rfl
   ·exact S6.out
   ·exact BX.out
   ·exact RB.out
   ·exact S6.out
   ·exact BX.out
   ·exact RB.out
  )
  refine region_G_round (S := GK [(0, g6, .cells #[.slice (some ⟨gR, 0, none⟩) l.length l.length] 80), (2, Bx, .cells #[.int .i64 (i : Int), .int .i64 (j : Int)] 43), (5, gR, .cells ((pls A B l).flatMap pl11).toArray 89), (6, g6, .cells #[.slice (some ⟨gR, 0, none⟩) l.length l.length] 80), (8, Bx, .cells #[.int .i64 (i : Int), .int .i64 (j : Int)] 43), (11, gR, .cells ((pls A B l).flatMap pl11).toArray 89)]) ?_ ?_ ?_ ?_
  ·kernel_rfl
  ·kernel_rfl
  ·rintro ⟨_, _, h⟩
   exact h
  refine tG 0 (.slice (some ⟨gR, 0, none⟩) l.length l.length) (some 29) (GK.grow _) rfl (YieldsIf.toG (Or.inl ⟨by rfl, ?_⟩)) (HAL.out 0) ?_
  ·intro X hX
   have hh := hX (0, g6, .cells #[.slice (some ⟨gR, 0, none⟩) l.length l.length] 80) (List.Mem.head _) rfl
   have hh0 := blk_cell hh 0 _ rfl
   have hhl := blk_lt hh
   clear hh
   clear hX
   go_simp
  try simp only [Act.put, zA, zB, zC]
  refine tG 1 (.pointer (some ⟨Bx, 1, none⟩)) (some 30) (GK.grow _) rfl (YieldsIf.toG (Or.inl ⟨by rfl, ?_⟩)) (GK.drop (by simp)) ?_
  ·intro X hX
   clear hX
   go_simp
  try simp only [Act.put, zA, zB, zC]
  refine tG 2 (.int .i64 (j : Int)) (some 31) (GK.grow _) rfl (YieldsIf.toG (Or.inl ⟨by rfl, ?_⟩)) (HAL.out 2) ?_
  ·intro X hX
   have hh := hX (2, Bx, .cells #[.int .i64 (i : Int), .int .i64 (j : Int)] 43) (List.Mem.tail _ (List.Mem.head _)) rfl
   have hh0 := blk_cell hh 1 _ rfl
   have hhl := blk_lt hh
   clear hh
   clear hX
   go_simp
  try simp only [Act.put, zA, zB, zC]
  refine tG 3 (.pointer (some ⟨gR, j * 11, none⟩)) (some 32) (GK.grow _) rfl (YieldsIf.toG (Or.inl ⟨by rfl, ?_⟩)) (GK.drop (by simp)) ?_
  ·intro X hX
   clear hX
   go_simp
  try simp only [Act.put, zA, zB, zC]
  refine tG 4 (.pointer (some ⟨gR, j * 11 + 5, none⟩)) (some 33) (GK.grow _) rfl (YieldsIf.toG (Or.inl ⟨by rfl, ?_⟩)) (GK.drop (by simp)) ?_
  ·intro X hX
   clear hX
   go_simp
  try simp only [Act.put, zA, zB, zC]
  refine tG 5 (.agg #[.int .i64 (t, tv).2.x1, .int .i64 (t, tv).2.x2, .int .i64 (t, tv).2.y1, .int .i64 (t, tv).2.y2, .int .i64 (t, tv).2.z1, .int .i64 (t, tv).2.z2]) (some 34) (GK.grow _) rfl (YieldsIf.toG (Or.inl ⟨by rfl, ?_⟩)) (HAL.out 5) ?_
  ·intro X hX
   have hh := hX (5, gR, .cells ((pls A B l).flatMap pl11).toArray 89) (List.Mem.tail _ (List.Mem.tail _ (List.Mem.head _))) rfl
   have hh0 := rec_cell pl11_len hh HT.out 5 _ rfl
   have hh1 := rec_cell pl11_len hh HT.out 6 _ rfl
   have hh2 := rec_cell pl11_len hh HT.out 7 _ rfl
   have hh3 := rec_cell pl11_len hh HT.out 8 _ rfl
   have hh4 := rec_cell pl11_len hh HT.out 9 _ rfl
   have hh5 := rec_cell pl11_len hh HT.out 10 _ rfl
   have hhl := blk_lt hh
   clear hh
   clear hX
   go_simp
  try simp only [Act.put, zA, zB, zC]
  refine tG 6 (.slice (some ⟨gR, 0, none⟩) l.length l.length) (some 35) (GK.grow _) rfl (YieldsIf.toG (Or.inl ⟨by rfl, ?_⟩)) (HAL.out 6) ?_
  ·intro X hX
   have hh := hX (6, g6, .cells #[.slice (some ⟨gR, 0, none⟩) l.length l.length] 80) (List.Mem.tail _ (List.Mem.tail _ (List.Mem.tail _ (List.Mem.head _)))) rfl
   have hh0 := blk_cell hh 0 _ rfl
   have hhl := blk_lt hh
   clear hh
   clear hX
   go_simp
  try simp only [Act.put, zA, zB, zC]
  refine tG 7 (.pointer (some ⟨Bx, 0, none⟩)) (some 36) (GK.grow _) rfl (YieldsIf.toG (Or.inl ⟨by rfl, ?_⟩)) (GK.drop (by simp)) ?_
  ·intro X hX
   clear hX
   go_simp
  try simp only [Act.put, zA, zB, zC]
  refine tG 8 (.int .i64 (i : Int)) (some 37) (GK.grow _) rfl (YieldsIf.toG (Or.inl ⟨by rfl, ?_⟩)) (HAL.out 8) ?_
  ·intro X hX
   have hh := hX (8, Bx, .cells #[.int .i64 (i : Int), .int .i64 (j : Int)] 43) (List.Mem.tail _ (List.Mem.tail _ (List.Mem.tail _ (List.Mem.tail _ (List.Mem.head _))))) rfl
   have hh0 := blk_cell hh 0 _ rfl
   have hhl := blk_lt hh
   clear hh
   clear hX
   go_simp
  try simp only [Act.put, zA, zB, zC]
  refine tG 9 (.pointer (some ⟨gR, i * 11, none⟩)) (some 38) (GK.grow _) rfl (YieldsIf.toG (Or.inl ⟨by rfl, ?_⟩)) (GK.drop (by simp)) ?_
  ·intro X hX
   clear hX
   go_simp
  try simp only [Act.put, zA, zB, zC]
  refine tG 10 (.pointer (some ⟨gR, i * 11 + 5, none⟩)) (some 39) (GK.grow _) rfl (YieldsIf.toG (Or.inl ⟨by rfl, ?_⟩)) (GK.drop (by simp)) ?_
  ·intro X hX
   clear hX
   go_simp
  try simp only [Act.put, zA, zB, zC]
  refine tG 11 (.agg #[.int .i64 (s, sv).2.x1, .int .i64 (s, sv).2.x2, .int .i64 (s, sv).2.y1, .int .i64 (s, sv).2.y2, .int .i64 (s, sv).2.z1, .int .i64 (s, sv).2.z2]) (some 40) (GK.grow _) rfl (YieldsIf.toG (Or.inl ⟨by rfl, ?_⟩)) (HAL.out 11) ?_
  ·intro X hX
   have hh := hX (11, gR, .cells ((pls A B l).flatMap pl11).toArray 89) (List.Mem.tail _ (List.Mem.tail _ (List.Mem.tail _ (List.Mem.tail _ (List.Mem.tail _ (List.Mem.head _)))))) rfl
   have hh0 := rec_cell pl11_len hh HS.out 5 _ rfl
   have hh1 := rec_cell pl11_len hh HS.out 6 _ rfl
   have hh2 := rec_cell pl11_len hh HS.out 7 _ rfl
   have hh3 := rec_cell pl11_len hh HS.out 8 _ rfl
   have hh4 := rec_cell pl11_len hh HS.out 9 _ rfl
   have hh5 := rec_cell pl11_len hh HS.out 10 _ rfl
   have hhl := blk_lt hh
   clear hh
   clear hX
   go_simp
  try simp only [Act.put, zA, zB, zC]
  have CFn : ∀ (args : Array Value) (W : World), Sem.run Tryz.prog (callFunc 39 args) W = .ok (.enter 39 args) W := fun _ _ => by kernel_rfl
  refine tG 12 (.tuple #[.agg #[.int .i64 rv.x1, .int .i64 rv.x2, .int .i64 rv.y1, .int .i64 rv.y2, .int .i64 rv.z1, .int .i64 rv.z2], .int .i64 0]) (some 41) (GK.grow _) rfl (yieldsG_call 39 #[.agg #[.int .i64 (t, tv).2.x1, .int .i64 (t, tv).2.x2, .int .i64 (t, tv).2.y1, .int .i64 (t, tv).2.y2, .int .i64 (t, tv).2.z1, .int .i64 (t, tv).2.z2], .agg #[.int .i64 (s, sv).2.x1, .int .i64 (s, sv).2.x2, .int .i64 (s, sv).2.y1, .int .i64 (s, sv).2.y2, .int .i64 (s, sv).2.z1, .int .i64 (s, sv).2.z2]] (by rfl) ?_ (fun X hS => CS.out X)) (GK.drop (by simp)) ?_
  ·intro X hX
   clear hX
   go_simp
  clear CFn
  try simp only [Act.put, zA, zB, zC]
  refine tG 13 (.tuple #[.agg #[.int .i64 rv.x1, .int .i64 rv.x2, .int .i64 rv.y1, .int .i64 rv.y2, .int .i64 rv.z1, .int .i64 rv.z2], .int .i64 0]) (some 28) (GK.grow _) rfl (YieldsIf.toG (Or.inl ⟨by rfl, ?_⟩)) (GK.drop (by simp)) ?_
  ·intro X hX
   clear hX
   go_simp
  try simp only [Act.put, zA, zB, zC]
  refine tG 14 (.agg #[.int .i64 rv.x1, .int .i64 rv.x2, .int .i64 rv.y1, .int .i64 rv.y2, .int .i64 rv.z1, .int .i64 rv.z2]) (some 42) (GK.grow _) rfl (YieldsIf.toG (Or.inl ⟨by rfl, ?_⟩)) (GK.drop (by simp)) ?_
  ·intro X hX
   clear hX
   go_simp
  try simp only [Act.put, zA, zB, zC]
  refine tG 15 (.int .i64 0) (some 43) (GK.grow _) rfl (YieldsIf.toG (Or.inl ⟨by rfl, ?_⟩)) (GK.drop (by simp)) ?_
  ·intro X hX
   clear hX
   go_simp
  try simp only [Act.put, zA, zB, zC]
  refine only_G 16 (by kernel_rfl) rfl (fun X6 hX K' hK' => ?_)
  replace NN := Lib.hid (Bgo NN.out hX)
  replace RB := Lib.hid (blk_next hX RB.out)
  replace S6 := Lib.hid (blk_next hX S6.out)
  replace BX := Lib.hid (blk_next hX BX.out)
  replace HAL := Lib.hid (fun kx9 => GK.grow _ _ _ _ (HAL.out kx9) hX)
  clear hX
  go_simp
  refine hK'.out _ _ (fun _ _ h => h.alloc _) ?_
  clear hK' K'
  try simp only [Act.put, zA, zB, zC]
  have HB := Lib.hid (Bal (Below.refl X6.heap.size X6) (.cells #[.int .i64 0, .int .i64 0, .int .i64 0, .int .i64 0, .int .i64 0, .int .i64 0] 38))
  have T : Hid ((X6.alloc (.cells #[.int .i64 0, .int .i64 0, .int .i64 0, .int .i64 0, .int .i64 0, .int .i64 0] 38)).heap[X6.heap.size]? = some (.cells #[.int .i64 0, .int .i64 0, .int .i64 0, .int .i64 0, .int .i64 0, .int .i64 0] 38)) := Lib.hid (blk_new X6 (.cells #[.int .i64 0, .int .i64 0, .int .i64 0, .int .i64 0, .int .i64 0, .int .i64 0] 38))
  have LT_T : Hid (g6 < X6.heap.size ∧ Bx < X6.heap.size ∧ W.heap.size ≤ X6.heap.size) := Lib.hid ⟨blk_lt S6.out, blk_lt BX.out, NN.out.size⟩
  replace NN := Lib.hid (Bgo NN.out HB.out)
  replace RB := Lib.hid (blk_next HB.out RB.out)
  replace S6 := Lib.hid (blk_next HB.out S6.out)
  replace BX := Lib.hid (blk_next HB.out BX.out)
  replace HAL := Lib.hid (fun kx9 => GK.grow _ _ _ _ (HAL.out kx9) HB.out)
  clear HB
  generalize X6.alloc (.cells #[.int .i64 0, .int .i64 0, .int .i64 0, .int .i64 0, .int .i64 0, .int .i64 0] 38) = W7 at *
  generalize X6.heap.size = gT at *
  refine only_G 17 (by kernel_rfl) rfl (fun X8 hX K' hK' => ?_)
  replace NN := Lib.hid (Bgo NN.out hX)
  replace RB := Lib.hid (blk_next hX RB.out)
  replace S6 := Lib.hid (blk_next hX S6.out)
  replace BX := Lib.hid (blk_next hX BX.out)
  replace T := Lib.hid (blk_next hX T.out)
  replace HAL := Lib.hid (fun kx9 => GK.grow _ _ _ _ (HAL.out kx9) hX)
  clear hX
  have c_T_0 := blk_cell T.out 0 _ rfl
  have f_T_0 := blk_frozen T.out 0
  have c_T_1 := blk_cell T.out 1 _ rfl
  have f_T_1 := blk_frozen T.out 1
  have c_T_2 := blk_cell T.out 2 _ rfl
  have f_T_2 := blk_frozen T.out 2
  have c_T_3 := blk_cell T.out 3 _ rfl
  have f_T_3 := blk_frozen T.out 3
  have c_T_4 := blk_cell T.out 4 _ rfl
  have f_T_4 := blk_frozen T.out 4
  have c_T_5 := blk_cell T.out 5 _ rfl
  have f_T_5 := blk_frozen T.out 5
  have l_T := blk_lt T.out
  go_simp
  clear c_T_0 f_T_0 c_T_1 f_T_1 c_T_2 f_T_2 c_T_3 f_T_3 c_T_4 f_T_4 c_T_5 f_T_5 l_T
  refine hK'.out _ _ (fun kk hk hS => ?_) ?_
  ·have HN : ∀ px9 ∈ ([(0, g6, .cells #[.slice (some ⟨gR, 0, none⟩) l.length l.length] 80), (2, Bx, .cells #[.int .i64 (i : Int), .int .i64 (j : Int)] 43), (5, gR, .cells ((pls A B l).flatMap pl11).toArray 89), (6, g6, .cells #[.slice (some ⟨gR, 0, none⟩) l.length l.length] 80), (8, Bx, .cells #[.int .i64 (i : Int), .int .i64 (j : Int)] 43), (11, gR, .cells ((pls A B l).flatMap pl11).toArray 89)] : List (Nat × Nat × Obj)), px9.1 = kk → px9.2.1 ≠ gT := fun px9 hp e => by
    simp only [List.mem_cons, List.not_mem_nil, or_false] at hp
    rcases hp with rfl | rfl | rfl | rfl | rfl | rfl
    ·subst e
     exact bfl (by kernel_rfl) hk
    ·subst e
     exact bfl (by kernel_rfl) hk
    ·subst e
     exact bfl (by kernel_rfl) hk
    ·subst e
     exact bfl (by kernel_rfl) hk
    ·subst e
     exact bfl (by kernel_rfl) hk
    ·subst e
     exact bfl (by kernel_rfl) hk
   exact GK.set (GK.set (GK.set (GK.set (GK.set (GK.set hS HN) HN) HN) HN) HN) HN
  clear hK' K'
  try simp only [Act.put, zA, zB, zC]
  clear HAL
  replace RB := Lib.hid (blk_set_other (b' := gT) (blk_set_other (b' := gT) (blk_set_other (b' := gT) (blk_set_other (b' := gT) (blk_set_other (b' := gT) (blk_set_other (b' := gT) (RB.out) (by have := LT_T.out; have := LW.out; omega) 0 (.int .i64 rv.x1)) (by have := LT_T.out; have := LW.out; omega) 1 (.int .i64 rv.x2)) (by have := LT_T.out; have := LW.out; omega) 2 (.int .i64 rv.y1)) (by have := LT_T.out; have := LW.out; omega) 3 (.int .i64 rv.y2)) (by have := LT_T.out; have := LW.out; omega) 4 (.int .i64 rv.z1)) (by have := LT_T.out; have := LW.out; omega) 5 (.int .i64 rv.z2))
  replace S6 : Hid (((((((X8.setCell ⟨gT, 0, none⟩ (.int .i64 rv.x1)).setCell ⟨gT, 1, none⟩ (.int .i64 rv.x2)).setCell ⟨gT, 2, none⟩ (.int .i64 rv.y1)).setCell ⟨gT, 3, none⟩ (.int .i64 rv.y2)).setCell ⟨gT, 4, none⟩ (.int .i64 rv.z1)).setCell ⟨gT, 5, none⟩ (.int .i64 rv.z2)).heap[g6]? = some (.cells #[.slice (some ⟨gR, 0, none⟩) l.length l.length] 80)) := Lib.hid (blk_set_other (b' := gT) (blk_set_other (b' := gT) (blk_set_other (b' := gT) (blk_set_other (b' := gT) (blk_set_other (b' := gT) (blk_set_other (b' := gT) (S6.out) (by have := LT_T.out; omega) 0 (.int .i64 rv.x1)) (by have := LT_T.out; omega) 1 (.int .i64 rv.x2)) (by have := LT_T.out; omega) 2 (.int .i64 rv.y1)) (by have := LT_T.out; omega) 3 (.int .i64 rv.y2)) (by have := LT_T.out; omega) 4 (.int .i64 rv.z1)) (by have := LT_T.out; omega) 5 (.int .i64 rv.z2))
  replace BX : Hid (((((((X8.setCell ⟨gT, 0, none⟩ (.int .i64 rv.x1)).setCell ⟨gT, 1, none⟩ (.int .i64 rv.x2)).setCell ⟨gT, 2, none⟩ (.int .i64 rv.y1)).setCell ⟨gT, 3, none⟩ (.int .i64 rv.y2)).setCell ⟨gT, 4, none⟩ (.int .i64 rv.z1)).setCell ⟨gT, 5, none⟩ (.int .i64 rv.z2)).heap[Bx]? = some (.cells #[.int .i64 (i : Int), .int .i64 (j : Int)] 43)) := Lib.hid (blk_set_other (b' := gT) (blk_set_other (b' := gT) (blk_set_other (b' := gT) (blk_set_other (b' := gT) (blk_set_other (b' := gT) (blk_set_other (b' := gT) (BX.out) (by have := LT_T.out; omega) 0 (.int .i64 rv.x1)) (by have := LT_T.out; omega) 1 (.int .i64 rv.x2)) (by have := LT_T.out; omega) 2 (.int .i64 rv.y1)) (by have := LT_T.out; omega) 3 (.int .i64 rv.y2)) (by have := LT_T.out; omega) 4 (.int .i64 rv.z1)) (by have := LT_T.out; omega) 5 (.int .i64 rv.z2))
  replace T : Hid (((((((X8.setCell ⟨gT, 0, none⟩ (.int .i64 rv.x1)).setCell ⟨gT, 1, none⟩ (.int .i64 rv.x2)).setCell ⟨gT, 2, none⟩ (.int .i64 rv.y1)).setCell ⟨gT, 3, none⟩ (.int .i64 rv.y2)).setCell ⟨gT, 4, none⟩ (.int .i64 rv.z1)).setCell ⟨gT, 5, none⟩ (.int .i64 rv.z2)).heap[gT]? = some (.cells #[.int .i64 rv.x1, .int .i64 rv.x2, .int .i64 rv.y1, .int .i64 rv.y2, .int .i64 rv.z1, .int .i64 rv.z2] 38)) := Lib.hid (blk_set (blk_set (blk_set (blk_set (blk_set (blk_set (T.out) 0 (.int .i64 rv.x1)) 1 (.int .i64 rv.x2)) 2 (.int .i64 rv.y1)) 3 (.int .i64 rv.y2)) 4 (.int .i64 rv.z1)) 5 (.int .i64 rv.z2))
  replace NN := Lib.hid (Bset1 (Bset1 (Bset1 (Bset1 (Bset1 (Bset1 (NN.out) (show W.heap.size ≤ gT by have := LT_T.out; omega) 0 (.int .i64 rv.x1)) (show W.heap.size ≤ gT by have := LT_T.out; omega) 1 (.int .i64 rv.x2)) (show W.heap.size ≤ gT by have := LT_T.out; omega) 2 (.int .i64 rv.y1)) (show W.heap.size ≤ gT by have := LT_T.out; omega) 3 (.int .i64 rv.y2)) (show W.heap.size ≤ gT by have := LT_T.out; omega) 4 (.int .i64 rv.z1)) (show W.heap.size ≤ gT by have := LT_T.out; omega) 5 (.int .i64 rv.z2))
  generalize ((((((X8.setCell ⟨gT, 0, none⟩ (.int .i64 rv.x1)).setCell ⟨gT, 1, none⟩ (.int .i64 rv.x2)).setCell ⟨gT, 2, none⟩ (.int .i64 rv.y1)).setCell ⟨gT, 3, none⟩ (.int .i64 rv.y2)).setCell ⟨gT, 4, none⟩ (.int .i64 rv.z1)).setCell ⟨gT, 5, none⟩ (.int .i64 rv.z2)) = W9 at *
  refine tG 18 (.int .i64 0) (some 12) (GK.grow _) rfl (YieldsIf.toG (Or.inl ⟨by rfl, ?_⟩)) (GK.drop (by simp)) ?_
  ·intro X hX
   clear hX
   go_simp
  try simp only [Act.put, zA, zB, zC]
  refine done_G (by kernel_rfl) (fun X10 hX => ?_) _
  replace NN := Lib.hid (Bgo NN.out hX)
  replace RB := Lib.hid (blk_next hX RB.out)
  replace S6 := Lib.hid (blk_next hX S6.out)
  replace BX := Lib.hid (blk_next hX BX.out)
  replace T := Lib.hid (blk_next hX T.out)
  clear hX
  gi_wp2_with fail
  have HDRW := Lib.hid (Below.drew (Below.refl X10.heap.size X10))
  replace NN := Lib.hid (Bgo NN.out HDRW.out)
  replace RB := Lib.hid (blk_next HDRW.out RB.out)
  replace S6 := Lib.hid (blk_next HDRW.out S6.out)
  replace BX := Lib.hid (blk_next HDRW.out BX.out)
  replace T := Lib.hid (blk_next HDRW.out T.out)
  clear HDRW
  have HAL : Hid (∀ kx9 : Nat, GK [(0, g6, .cells #[.slice (some ⟨gR, 0, none⟩) l.length l.length] 80), (2, Bx, .cells #[.int .i64 (i : Int), .int .i64 (j : Int)] 43), (5, gR, .cells ((pls A B l).flatMap pl11).toArray 89), (6, g6, .cells #[.slice (some ⟨gR, 0, none⟩) l.length l.length] 80), (8, Bx, .cells #[.int .i64 (i : Int), .int .i64 (j : Int)] 43), (11, gR, .cells ((pls A B l).flatMap pl11).toArray 89)] kx9 X10.drew) := Lib.hid (fun kx9 => fun px9 hp e => by
   simp only [List.mem_cons, List.not_mem_nil, or_false] at hp
   rcases hp with rfl | rfl | rfl | rfl | rfl | rfl
   ·exact S6.out
   ·exact BX.out
   ·exact RB.out
   ·exact S6.out
   ·exact BX.out
   ·exact RB.out
  )
  refine region_G_round (S := GK [(0, g6, .cells #[.slice (some ⟨gR, 0, none⟩) l.length l.length] 80), (2, Bx, .cells #[.int .i64 (i : Int), .int .i64 (j : Int)] 43), (5, gR, .cells ((pls A B l).flatMap pl11).toArray 89), (6, g6, .cells #[.slice (some ⟨gR, 0, none⟩) l.length l.length] 80), (8, Bx, .cells #[.int .i64 (i : Int), .int .i64 (j : Int)] 43), (11, gR, .cells ((pls A B l).flatMap pl11).toArray 89)]) ?_ ?_ ?_ ?_
  ·kernel_rfl
  ·kernel_rfl
  ·rintro ⟨_, _, h⟩
   exact h
  refine tG 0 (.slice (some ⟨gR, 0, none⟩) l.length l.length) (some 48) (GK.grow _) rfl (YieldsIf.toG (Or.inl ⟨by rfl, ?_⟩)) (HAL.out 0) ?_
  ·intro X hX
   have hh := hX (0, g6, .cells #[.slice (some ⟨gR, 0, none⟩) l.length l.length] 80) (List.Mem.head _) rfl
   have hh0 := blk_cell hh 0 _ rfl
   have hhl := blk_lt hh
   clear hh
   clear hX
   go_simp
  try simp only [Act.put, zA, zB, zC]
  refine tG 1 (.pointer (some ⟨Bx, 0, none⟩)) (some 49) (GK.grow _) rfl (YieldsIf.toG (Or.inl ⟨by rfl, ?_⟩)) (GK.drop (by simp)) ?_
  ·intro X hX
   clear hX
   go_simp
  try simp only [Act.put, zA, zB, zC]
  refine tG 2 (.int .i64 (i : Int)) (some 50) (GK.grow _) rfl (YieldsIf.toG (Or.inl ⟨by rfl, ?_⟩)) (HAL.out 2) ?_
  ·intro X hX
   have hh := hX (2, Bx, .cells #[.int .i64 (i : Int), .int .i64 (j : Int)] 43) (List.Mem.tail _ (List.Mem.head _)) rfl
   have hh0 := blk_cell hh 0 _ rfl
   have hhl := blk_lt hh
   clear hh
   clear hX
   go_simp
  try simp only [Act.put, zA, zB, zC]
  refine tG 3 (.pointer (some ⟨gR, i * 11, none⟩)) (some 51) (GK.grow _) rfl (YieldsIf.toG (Or.inl ⟨by rfl, ?_⟩)) (GK.drop (by simp)) ?_
  ·intro X hX
   clear hX
   go_simp
  try simp only [Act.put, zA, zB, zC]
  refine tG 4 (.pointer (some ⟨gR, i * 11 + 5, none⟩)) (some 52) (GK.grow _) rfl (YieldsIf.toG (Or.inl ⟨by rfl, ?_⟩)) (GK.drop (by simp)) ?_
  ·intro X hX
   clear hX
   go_simp
  try simp only [Act.put, zA, zB, zC]
  refine tG 5 (.agg #[.int .i64 (s, sv).2.x1, .int .i64 (s, sv).2.x2, .int .i64 (s, sv).2.y1, .int .i64 (s, sv).2.y2, .int .i64 (s, sv).2.z1, .int .i64 (s, sv).2.z2]) (some 53) (GK.grow _) rfl (YieldsIf.toG (Or.inl ⟨by rfl, ?_⟩)) (HAL.out 5) ?_
  ·intro X hX
   have hh := hX (5, gR, .cells ((pls A B l).flatMap pl11).toArray 89) (List.Mem.tail _ (List.Mem.tail _ (List.Mem.head _))) rfl
   have hh0 := rec_cell pl11_len hh HS.out 5 _ rfl
   have hh1 := rec_cell pl11_len hh HS.out 6 _ rfl
   have hh2 := rec_cell pl11_len hh HS.out 7 _ rfl
   have hh3 := rec_cell pl11_len hh HS.out 8 _ rfl
   have hh4 := rec_cell pl11_len hh HS.out 9 _ rfl
   have hh5 := rec_cell pl11_len hh HS.out 10 _ rfl
   have hhl := blk_lt hh
   clear hh
   clear hX
   go_simp
  try simp only [Act.put, zA, zB, zC]
  refine tG 6 (.slice (some ⟨gR, 0, none⟩) l.length l.length) (some 54) (GK.grow _) rfl (YieldsIf.toG (Or.inl ⟨by rfl, ?_⟩)) (HAL.out 6) ?_
  ·intro X hX
   have hh := hX (6, g6, .cells #[.slice (some ⟨gR, 0, none⟩) l.length l.length] 80) (List.Mem.tail _ (List.Mem.tail _ (List.Mem.tail _ (List.Mem.head _)))) rfl
   have hh0 := blk_cell hh 0 _ rfl
   have hhl := blk_lt hh
   clear hh
   clear hX
   go_simp
  try simp only [Act.put, zA, zB, zC]
  refine tG 7 (.pointer (some ⟨Bx, 1, none⟩)) (some 55) (GK.grow _) rfl (YieldsIf.toG (Or.inl ⟨by rfl, ?_⟩)) (GK.drop (by simp)) ?_
  ·intro X hX
   clear hX
   go_simp
  try simp only [Act.put, zA, zB, zC]
  refine tG 8 (.int .i64 (j : Int)) (some 56) (GK.grow _) rfl (YieldsIf.toG (Or.inl ⟨by rfl, ?_⟩)) (HAL.out 8) ?_
  ·intro X hX
   have hh := hX (8, Bx, .cells #[.int .i64 (i : Int), .int .i64 (j : Int)] 43) (List.Mem.tail _ (List.Mem.tail _ (List.Mem.tail _ (List.Mem.tail _ (List.Mem.head _))))) rfl
   have hh0 := blk_cell hh 1 _ rfl
   have hhl := blk_lt hh
   clear hh
   clear hX
   go_simp
  try simp only [Act.put, zA, zB, zC]
  refine tG 9 (.pointer (some ⟨gR, j * 11, none⟩)) (some 57) (GK.grow _) rfl (YieldsIf.toG (Or.inl ⟨by rfl, ?_⟩)) (GK.drop (by simp)) ?_
  ·intro X hX
   clear hX
   go_simp
  try simp only [Act.put, zA, zB, zC]
  refine tG 10 (.pointer (some ⟨gR, j * 11 + 5, none⟩)) (some 58) (GK.grow _) rfl (YieldsIf.toG (Or.inl ⟨by rfl, ?_⟩)) (GK.drop (by simp)) ?_
  ·intro X hX
   clear hX
   go_simp
  try simp only [Act.put, zA, zB, zC]
  refine tG 11 (.agg #[.int .i64 (t, tv).2.x1, .int .i64 (t, tv).2.x2, .int .i64 (t, tv).2.y1, .int .i64 (t, tv).2.y2, .int .i64 (t, tv).2.z1, .int .i64 (t, tv).2.z2]) (some 59) (GK.grow _) rfl (YieldsIf.toG (Or.inl ⟨by rfl, ?_⟩)) (HAL.out 11) ?_
  ·intro X hX
   have hh := hX (11, gR, .cells ((pls A B l).flatMap pl11).toArray 89) (List.Mem.tail _ (List.Mem.tail _ (List.Mem.tail _ (List.Mem.tail _ (List.Mem.tail _ (List.Mem.head _)))))) rfl
   have hh0 := rec_cell pl11_len hh HT.out 5 _ rfl
   have hh1 := rec_cell pl11_len hh HT.out 6 _ rfl
   have hh2 := rec_cell pl11_len hh HT.out 7 _ rfl
   have hh3 := rec_cell pl11_len hh HT.out 8 _ rfl
   have hh4 := rec_cell pl11_len hh HT.out 9 _ rfl
   have hh5 := rec_cell pl11_len hh HT.out 10 _ rfl
   have hhl := blk_lt hh
   clear hh
   clear hX
   go_simp
  try simp only [Act.put, zA, zB, zC]
  have CFn : ∀ (args : Array Value) (W : World), Sem.run Tryz.prog (callFunc 39 args) W = .ok (.enter 39 args) W := fun _ _ => by kernel_rfl
  refine tG 12 (.tuple #[.agg #[.int .i64 rb.x1, .int .i64 rb.x2, .int .i64 rb.y1, .int .i64 rb.y2, .int .i64 rb.z1, .int .i64 rb.z2], .int .i64 0]) (some 60) (GK.grow _) rfl (yieldsG_call 39 #[.agg #[.int .i64 (s, sv).2.x1, .int .i64 (s, sv).2.x2, .int .i64 (s, sv).2.y1, .int .i64 (s, sv).2.y2, .int .i64 (s, sv).2.z1, .int .i64 (s, sv).2.z2], .agg #[.int .i64 (t, tv).2.x1, .int .i64 (t, tv).2.x2, .int .i64 (t, tv).2.y1, .int .i64 (t, tv).2.y2, .int .i64 (t, tv).2.z1, .int .i64 (t, tv).2.z2]] (by rfl) ?_ (fun X hS => CT.out X)) (GK.drop (by simp)) ?_
  ·intro X hX
   clear hX
   go_simp
  clear CFn
  try simp only [Act.put, zA, zB, zC]
  refine tG 13 (.tuple #[.agg #[.int .i64 rb.x1, .int .i64 rb.x2, .int .i64 rb.y1, .int .i64 rb.y2, .int .i64 rb.z1, .int .i64 rb.z2], .int .i64 0]) (some 47) (GK.grow _) rfl (YieldsIf.toG (Or.inl ⟨by rfl, ?_⟩)) (GK.drop (by simp)) ?_
  ·intro X hX
   clear hX
   go_simp
  try simp only [Act.put, zA, zB, zC]
  refine tG 14 (.agg #[.int .i64 rb.x1, .int .i64 rb.x2, .int .i64 rb.y1, .int .i64 rb.y2, .int .i64 rb.z1, .int .i64 rb.z2]) (some 61) (GK.grow _) rfl (YieldsIf.toG (Or.inl ⟨by rfl, ?_⟩)) (GK.drop (by simp)) ?_
  ·intro X hX
   clear hX
   go_simp
  try simp only [Act.put, zA, zB, zC]
  refine tG 15 (.int .i64 0) (some 62) (GK.grow _) rfl (YieldsIf.toG (Or.inl ⟨by rfl, ?_⟩)) (GK.drop (by simp)) ?_
  ·intro X hX
   clear hX
   go_simp
  try simp only [Act.put, zA, zB, zC]
  refine only_G 16 (by kernel_rfl) rfl (fun X11 hX K' hK' => ?_)
  replace NN := Lib.hid (Bgo NN.out hX)
  replace RB := Lib.hid (blk_next hX RB.out)
  replace S6 := Lib.hid (blk_next hX S6.out)
  replace BX := Lib.hid (blk_next hX BX.out)
  replace T := Lib.hid (blk_next hX T.out)
  replace HAL := Lib.hid (fun kx9 => GK.grow _ _ _ _ (HAL.out kx9) hX)
  clear hX
  go_simp
  refine hK'.out _ _ (fun _ _ h => h.alloc _) ?_
  clear hK' K'
  try simp only [Act.put, zA, zB, zC]
  have HB := Lib.hid (Bal (Below.refl X11.heap.size X11) (.cells #[.int .i64 0, .int .i64 0, .int .i64 0, .int .i64 0, .int .i64 0, .int .i64 0] 38))
  have U : Hid ((X11.alloc (.cells #[.int .i64 0, .int .i64 0, .int .i64 0, .int .i64 0, .int .i64 0, .int .i64 0] 38)).heap[X11.heap.size]? = some (.cells #[.int .i64 0, .int .i64 0, .int .i64 0, .int .i64 0, .int .i64 0, .int .i64 0] 38)) := Lib.hid (blk_new X11 (.cells #[.int .i64 0, .int .i64 0, .int .i64 0, .int .i64 0, .int .i64 0, .int .i64 0] 38))
  have LT_U : Hid (g6 < X11.heap.size ∧ Bx < X11.heap.size ∧ gT < X11.heap.size ∧ W.heap.size ≤ X11.heap.size) := Lib.hid ⟨blk_lt S6.out, blk_lt BX.out, blk_lt T.out, NN.out.size⟩
  replace NN := Lib.hid (Bgo NN.out HB.out)
  replace RB := Lib.hid (blk_next HB.out RB.out)
  replace S6 := Lib.hid (blk_next HB.out S6.out)
  replace BX := Lib.hid (blk_next HB.out BX.out)
  replace T := Lib.hid (blk_next HB.out T.out)
  replace HAL := Lib.hid (fun kx9 => GK.grow _ _ _ _ (HAL.out kx9) HB.out)
  clear HB
  generalize X11.alloc (.cells #[.int .i64 0, .int .i64 0, .int .i64 0, .int .i64 0, .int .i64 0, .int .i64 0] 38) = W12 at *
  generalize X11.heap.size = gU at *
  refine only_G 17 (by kernel_rfl) rfl (fun X13 hX K' hK' => ?_)
  replace NN := Lib.hid (Bgo NN.out hX)
  replace RB := Lib.hid (blk_next hX RB.out)
  replace S6 := Lib.hid (blk_next hX S6.out)
  replace BX := Lib.hid (blk_next hX BX.out)
  replace T := Lib.hid (blk_next hX T.out)
  replace U := Lib.hid (blk_next hX U.out)
  replace HAL := Lib.hid (fun kx9 => GK.grow _ _ _ _ (HAL.out kx9) hX)
  clear hX
  have c_U_0 := blk_cell U.out 0 _ rfl
  have f_U_0 := blk_frozen U.out 0
  have c_U_1 := blk_cell U.out 1 _ rfl
  have f_U_1 := blk_frozen U.out 1
  have c_U_2 := blk_cell U.out 2 _ rfl
  have f_U_2 := blk_frozen U.out 2
  have c_U_3 := blk_cell U.out 3 _ rfl
  have f_U_3 := blk_frozen U.out 3
  have c_U_4 := blk_cell U.out 4 _ rfl
  have f_U_4 := blk_frozen U.out 4
  have c_U_5 := blk_cell U.out 5 _ rfl
  have f_U_5 := blk_frozen U.out 5
  have l_U := blk_lt U.out
  go_simp
  clear c_U_0 f_U_0 c_U_1 f_U_1 c_U_2 f_U_2 c_U_3 f_U_3 c_U_4 f_U_4 c_U_5 f_U_5 l_U
  refine hK'.out _ _ (fun kk hk hS => ?_) ?_
  ·have HN : ∀ px9 ∈ ([(0, g6, .cells #[.slice (some ⟨gR, 0, none⟩) l.length l.length] 80), (2, Bx, .cells #[.int .i64 (i : Int), .int .i64 (j : Int)] 43), (5, gR, .cells ((pls A B l).flatMap pl11).toArray 89), (6, g6, .cells #[.slice (some ⟨gR, 0, none⟩) l.length l.length] 80), (8, Bx, .cells #[.int .i64 (i : Int), .int .i64 (j : Int)] 43), (11, gR, .cells ((pls A B l).flatMap pl11).toArray 89)] : List (Nat × Nat × Obj)), px9.1 = kk → px9.2.1 ≠ gU := fun px9 hp e => by
    simp only [List.mem_cons, List.not_mem_nil, or_false] at hp
    rcases hp with rfl | rfl | rfl | rfl | rfl | rfl
    ·subst e
     exact bfl (by kernel_rfl) hk
    ·subst e
     exact bfl (by kernel_rfl) hk
    ·subst e
     exact bfl (by kernel_rfl) hk
    ·subst e
     exact bfl (by kernel_rfl) hk
    ·subst e
     exact bfl (by kernel_rfl) hk
    ·subst e
     exact bfl (by kernel_rfl) hk
   exact GK.set (GK.set (GK.set (GK.set (GK.set (GK.set hS HN) HN) HN) HN) HN) HN
  clear hK' K'
  try simp only [Act.put, zA, zB, zC]
  clear HAL
  replace RB := Lib.hid (blk_set_other (b' := gU) (blk_set_other (b' := gU) (blk_set_other (b' := gU) (blk_set_other (b' := gU) (blk_set_other (b' := gU) (blk_set_other (b' := gU) (RB.out) (by have := LT_U.out; have := LW.out; omega) 0 (.int .i64 rb.x1)) (by have := LT_U.out; have := LW.out; omega) 1 (.int .i64 rb.x2)) (by have := LT_U.out; have := LW.out; omega) 2 (.int .i64 rb.y1)) (by have := LT_U.out; have := LW.out; omega) 3 (.int .i64 rb.y2)) (by have := LT_U.out; have := LW.out; omega) 4 (.int .i64 rb.z1)) (by have := LT_U.out; have := LW.out; omega) 5 (.int .i64 rb.z2))
  replace S6 : Hid (((((((X13.setCell ⟨gU, 0, none⟩ (.int .i64 rb.x1)).setCell ⟨gU, 1, none⟩ (.int .i64 rb.x2)).setCell ⟨gU, 2, none⟩ (.int .i64 rb.y1)).setCell ⟨gU, 3, none⟩ (.int .i64 rb.y2)).setCell ⟨gU, 4, none⟩ (.int .i64 rb.z1)).setCell ⟨gU, 5, none⟩ (.int .i64 rb.z2)).heap[g6]? = some (.cells #[.slice (some ⟨gR, 0, none⟩) l.length l.length] 80)) := Lib.hid (blk_set_other (b' := gU) (blk_set_other (b' := gU) (blk_set_other (b' := gU) (blk_set_other (b' := gU) (blk_set_other (b' := gU) (blk_set_other (b' := gU) (S6.out) (by have := LT_U.out; omega) 0 (.int .i64 rb.x1)) (by have := LT_U.out; omega) 1 (.int .i64 rb.x2)) (by have := LT_U.out; omega) 2 (.int .i64 rb.y1)) (by have := LT_U.out; omega) 3 (.int .i64 rb.y2)) (by have := LT_U.out; omega) 4 (.int .i64 rb.z1)) (by have := LT_U.out; omega) 5 (.int .i64 rb.z2))
  replace BX : Hid (((((((X13.setCell ⟨gU, 0, none⟩ (.int .i64 rb.x1)).setCell ⟨gU, 1, none⟩ (.int .i64 rb.x2)).setCell ⟨gU, 2, none⟩ (.int .i64 rb.y1)).setCell ⟨gU, 3, none⟩ (.int .i64 rb.y2)).setCell ⟨gU, 4, none⟩ (.int .i64 rb.z1)).setCell ⟨gU, 5, none⟩ (.int .i64 rb.z2)).heap[Bx]? = some (.cells #[.int .i64 (i : Int), .int .i64 (j : Int)] 43)) := Lib.hid (blk_set_other (b' := gU) (blk_set_other (b' := gU) (blk_set_other (b' := gU) (blk_set_other (b' := gU) (blk_set_other (b' := gU) (blk_set_other (b' := gU) (BX.out) (by have := LT_U.out; omega) 0 (.int .i64 rb.x1)) (by have := LT_U.out; omega) 1 (.int .i64 rb.x2)) (by have := LT_U.out; omega) 2 (.int .i64 rb.y1)) (by have := LT_U.out; omega) 3 (.int .i64 rb.y2)) (by have := LT_U.out; omega) 4 (.int .i64 rb.z1)) (by have := LT_U.out; omega) 5 (.int .i64 rb.z2))
  replace T : Hid (((((((X13.setCell ⟨gU, 0, none⟩ (.int .i64 rb.x1)).setCell ⟨gU, 1, none⟩ (.int .i64 rb.x2)).setCell ⟨gU, 2, none⟩ (.int .i64 rb.y1)).setCell ⟨gU, 3, none⟩ (.int .i64 rb.y2)).setCell ⟨gU, 4, none⟩ (.int .i64 rb.z1)).setCell ⟨gU, 5, none⟩ (.int .i64 rb.z2)).heap[gT]? = some (.cells #[.int .i64 rv.x1, .int .i64 rv.x2, .int .i64 rv.y1, .int .i64 rv.y2, .int .i64 rv.z1, .int .i64 rv.z2] 38)) := Lib.hid (blk_set_other (b' := gU) (blk_set_other (b' := gU) (blk_set_other (b' := gU) (blk_set_other (b' := gU) (blk_set_other (b' := gU) (blk_set_other (b' := gU) (T.out) (by have := LT_U.out; omega) 0 (.int .i64 rb.x1)) (by have := LT_U.out; omega) 1 (.int .i64 rb.x2)) (by have := LT_U.out; omega) 2 (.int .i64 rb.y1)) (by have := LT_U.out; omega) 3 (.int .i64 rb.y2)) (by have := LT_U.out; omega) 4 (.int .i64 rb.z1)) (by have := LT_U.out; omega) 5 (.int .i64 rb.z2))
  replace U : Hid (((((((X13.setCell ⟨gU, 0, none⟩ (.int .i64 rb.x1)).setCell ⟨gU, 1, none⟩ (.int .i64 rb.x2)).setCell ⟨gU, 2, none⟩ (.int .i64 rb.y1)).setCell ⟨gU, 3, none⟩ (.int .i64 rb.y2)).setCell ⟨gU, 4, none⟩ (.int .i64 rb.z1)).setCell ⟨gU, 5, none⟩ (.int .i64 rb.z2)).heap[gU]? = some (.cells #[.int .i64 rb.x1, .int .i64 rb.x2, .int .i64 rb.y1, .int .i64 rb.y2, .int .i64 rb.z1, .int .i64 rb.z2] 38)) := Lib.hid (blk_set (blk_set (blk_set (blk_set (blk_set (blk_set (U.out) 0 (.int .i64 rb.x1)) 1 (.int .i64 rb.x2)) 2 (.int .i64 rb.y1)) 3 (.int .i64 rb.y2)) 4 (.int .i64 rb.z1)) 5 (.int .i64 rb.z2))
  replace NN := Lib.hid (Bset1 (Bset1 (Bset1 (Bset1 (Bset1 (Bset1 (NN.out) (show W.heap.size ≤ gU by have := LT_U.out; omega) 0 (.int .i64 rb.x1)) (show W.heap.size ≤ gU by have := LT_U.out; omega) 1 (.int .i64 rb.x2)) (show W.heap.size ≤ gU by have := LT_U.out; omega) 2 (.int .i64 rb.y1)) (show W.heap.size ≤ gU by have := LT_U.out; omega) 3 (.int .i64 rb.y2)) (show W.heap.size ≤ gU by have := LT_U.out; omega) 4 (.int .i64 rb.z1)) (show W.heap.size ≤ gU by have := LT_U.out; omega) 5 (.int .i64 rb.z2))
  generalize ((((((X13.setCell ⟨gU, 0, none⟩ (.int .i64 rb.x1)).setCell ⟨gU, 1, none⟩ (.int .i64 rb.x2)).setCell ⟨gU, 2, none⟩ (.int .i64 rb.y1)).setCell ⟨gU, 3, none⟩ (.int .i64 rb.y2)).setCell ⟨gU, 4, none⟩ (.int .i64 rb.z1)).setCell ⟨gU, 5, none⟩ (.int .i64 rb.z2)) = W14 at *
  refine tG 18 (.int .i64 0) (some 12) (GK.grow _) rfl (YieldsIf.toG (Or.inl ⟨by rfl, ?_⟩)) (GK.drop (by simp)) ?_
  ·intro X hX
   clear hX
   go_simp
  try simp only [Act.put, zA, zB, zC]
  refine done_G (by kernel_rfl) (fun X15 hX => ?_) _
  replace NN := Lib.hid (Bgo NN.out hX)
  replace RB := Lib.hid (blk_next hX RB.out)
  replace S6 := Lib.hid (blk_next hX S6.out)
  replace BX := Lib.hid (blk_next hX BX.out)
  replace T := Lib.hid (blk_next hX T.out)
  replace U := Lib.hid (blk_next hX U.out)
  clear hX
  replace F9 := Lib.hid (blk_next NN.out F9.out)
  replace V8 := Lib.hid (blk_next NN.out V8.out)
  replace OX := Lib.hid (OX.out.next NN.out)
  have c_F9_0 := blk_cell F9.out 0 _ rfl
  have f_F9_0 := blk_frozen F9.out 0
  have l_F9 := blk_lt F9.out
  have c_BX_0 := blk_cell BX.out 0 _ rfl
  have f_BX_0 := blk_frozen BX.out 0
  have c_BX_1 := blk_cell BX.out 1 _ rfl
  have f_BX_1 := blk_frozen BX.out 1
  have l_BX := blk_lt BX.out
  have c_T_0 := blk_cell T.out 0 _ rfl
  have f_T_0 := blk_frozen T.out 0
  have c_T_1 := blk_cell T.out 1 _ rfl
  have f_T_1 := blk_frozen T.out 1
  have c_T_2 := blk_cell T.out 2 _ rfl
  have f_T_2 := blk_frozen T.out 2
  have c_T_3 := blk_cell T.out 3 _ rfl
  have f_T_3 := blk_frozen T.out 3
  have c_T_4 := blk_cell T.out 4 _ rfl
  have f_T_4 := blk_frozen T.out 4
  have c_T_5 := blk_cell T.out 5 _ rfl
  have f_T_5 := blk_frozen T.out 5
  have l_T := blk_lt T.out
  have c_U_0 := blk_cell U.out 0 _ rfl
  have f_U_0 := blk_frozen U.out 0
  have c_U_1 := blk_cell U.out 1 _ rfl
  have f_U_1 := blk_frozen U.out 1
  have c_U_2 := blk_cell U.out 2 _ rfl
  have f_U_2 := blk_frozen U.out 2
  have c_U_3 := blk_cell U.out 3 _ rfl
  have f_U_3 := blk_frozen U.out 3
  have c_U_4 := blk_cell U.out 4 _ rfl
  have f_U_4 := blk_frozen U.out 4
  have c_U_5 := blk_cell U.out 5 _ rfl
  have f_U_5 := blk_frozen U.out 5
  have l_U := blk_lt U.out
  gi_wp2_with fail
  clear c_F9_0 f_F9_0 l_F9 c_BX_0 f_BX_0 c_BX_1 f_BX_1 l_BX c_T_0 f_T_0 c_T_1 f_T_1 c_T_2 f_T_2 c_T_3 f_T_3 c_T_4 f_T_4 c_T_5 f_T_5 l_T c_U_0 f_U_0 c_U_1 f_U_1 c_U_2 f_U_2 c_U_3 f_U_3 c_U_4 f_U_4 c_U_5 f_U_5 l_U
  have GZ : Hid (g6 + 1 < W5.heap.size ∧ W5.heap.size ≤ X15.heap.size) := Lib.hid ⟨by have := SZ.out; omega, Nat.le_trans LW.out.1 NN.out.size⟩
  refine ⟨trivial, rfl, (CallsIn.inRound lp (callsIn_wide.2 (put_calls (p := (i, j)) (there := rv) (back := rb) GZ.out.1 GZ.out.2 V8.out OX.out (by have := (clsK_size (R := pls A B l) (n := l.length) k).1; have := KL.out; omega) (fun c hc => by have := (clsK_size (R := pls A B l) (n := l.length) k).2 c hc; have := KL.out; omega)))).mono ?_⟩
  rintro e w5 ⟨⟨ue, rfl⟩, kf, v5, hs5, hb5, hv5, ho5⟩
  have KF := Lib.hid kf
  have HB5 := Lib.hid hb5
  have HV5 := Lib.hid hv5
  have HO5 := Lib.hid ho5
  clear kf hb5 hv5 ho5
  gi_wp2_with fail
  have KB : Hid (∀ (g : Nat) (ob : Obj), g < W5.heap.size → g6 + 1 ≠ g → W.heap[g]? = some ob → w5.heap[g]? = some ob) := Lib.hid (fun g ob hg hne hw => blk_B HB5.out (blk_set_other (b' := g6 + 1) (blk_next NN.out hw) hne 0 v5) hg)
  have N5 : Hid (Below w.heap.size X15 w5) := Lib.hid (((Below.refl w.heap.size X15).setCell (p := ⟨g6 + 1, 0, none⟩) (by have := LR.out; show w.heap.size ≤ g6 + 1; omega) v5).trans (HB5.out.mono (by have := SZ.out; have := LR.out; omega)))
  have NW : Hid (Below w.heap.size W w5) := Lib.hid ((NN.out.mono (by have := LW.out; have := SZ.out; have := LR.out; omega)).trans N5.out)
  exact ⟨(keeps_of_below NN.out).trans KF.out, NW.out, KB.out _ _ (by have := SZ.out; have := LR.out; omega) (by have := SZ.out; have := LR.out; omega) R4.out, KB.out _ _ (by have := SZ.out; have := LR.out; omega) (by have := SZ.out; have := LR.out; omega) R5.out, KB.out _ _ (by have := SZ.out; have := LR.out; omega) (by have := SZ.out; have := LR.out; omega) S60.out, KB.out _ _ (by have := SZ.out; have := LR.out; omega) (by have := SZ.out; have := LR.out; omega) F90.out, KB.out _ _ (by have := SZ.out; have := LR.out; omega) (by have := SZ.out; have := LR.out; omega) VT.out, KB.out _ _ (by have := SZ.out; have := LR.out; omega) (by have := SZ.out; have := LR.out; omega) RB0.out, N0.out.trans NW.out, Nat.le_trans GZ.out.2 (Nat.le_trans (by simp) HB5.out.size), v5, hs5, HV5.out, by rw [ST.out]; exact HO5.out⟩
 case done =>
  rintro D W hD ⟨r4, r5, s6, f9, vt, rb, nn, sz, ⟨v, hs, v8, oc⟩⟩ hK
  obtain ⟨A9, c9, hv9, -, -, -⟩ := Rd.of_own oc.row
  subst hv9
  have R4 := Lib.hid r4
  have R5 := Lib.hid r5
  have V8 := Lib.hid v8
  have OX := Lib.hid oc
  have NN := Lib.hid nn
  have HK := Lib.hid hK
  clear r4 r5 s6 f9 vt rb nn v8 oc hK
  have c_R4_0 := blk_cell R4.out 0 _ rfl
  have f_R4_0 := blk_frozen R4.out 0
  have l_R4 := blk_lt R4.out
  have c_R5_0 := blk_cell R5.out 0 _ rfl
  have f_R5_0 := blk_frozen R5.out 0
  have l_R5 := blk_lt R5.out
  have c_V8_0 := blk_cell V8.out 0 _ rfl
  have f_V8_0 := blk_frozen V8.out 0
  have l_V8 := blk_lt V8.out
  go_wp2_with fail
  clear c_R4_0 f_R4_0 l_R4 c_R5_0 f_R5_0 l_R5 c_V8_0 f_V8_0 l_V8
  replace HK := Lib.hid (blk_set_other (b' := w.heap.size + 1 + 1) (blk_set_other (b' := w.heap.size + 1) (HK.out) (by have := SZ.out; have := LR.out; omega) 0 (.slice A9 (clsK (pls A B l) l.length (prs l.length).length).length c9)) (by have := SZ.out; have := LR.out; omega) 0 (.int .i64 0))
  replace OX := Lib.hid (OC.low (OC.low (OX.out) (b := w.heap.size + 1) (by have := SZ.out; have := LR.out; omega) 0 (.slice A9 (clsK (pls A B l) l.length (prs l.length).length).length c9)) (b := w.heap.size + 1 + 1) (by have := SZ.out; have := LR.out; omega) 0 (.int .i64 0))
  replace R4 : Hid (((W.setCell ⟨w.heap.size + 1, 0, none⟩ (.slice A9 (clsK (pls A B l) l.length (prs l.length).length).length c9)).setCell ⟨w.heap.size + 1 + 1, 0, none⟩ (.int .i64 0)).heap[w.heap.size + 1]? = some (.cells #[.slice A9 (clsK (pls A B l) l.length (prs l.length).length).length c9] 27)) := Lib.hid (blk_set_other (b' := w.heap.size + 1 + 1) (blk_set (R4.out) 0 (.slice A9 (clsK (pls A B l) l.length (prs l.length).length).length c9)) (by have := LR.out; omega) 0 (.int .i64 0))
  replace R5 : Hid (((W.setCell ⟨w.heap.size + 1, 0, none⟩ (.slice A9 (clsK (pls A B l) l.length (prs l.length).length).length c9)).setCell ⟨w.heap.size + 1 + 1, 0, none⟩ (.int .i64 0)).heap[w.heap.size + 1 + 1]? = some (.cells #[.int .i64 0] 28)) := Lib.hid (blk_set (blk_set_other (b' := w.heap.size + 1) (R5.out) (by have := LR.out; omega) 0 (.slice A9 (clsK (pls A B l) l.length (prs l.length).length).length c9)) 0 (.int .i64 0))
  replace V8 : Hid (((W.setCell ⟨w.heap.size + 1, 0, none⟩ (.slice A9 (clsK (pls A B l) l.length (prs l.length).length).length c9)).setCell ⟨w.heap.size + 1 + 1, 0, none⟩ (.int .i64 0)).heap[g6 + 1]? = some (.cells #[.slice A9 (clsK (pls A B l) l.length (prs l.length).length).length c9] 27)) := Lib.hid (blk_set_other (b' := w.heap.size + 1 + 1) (blk_set_other (b' := w.heap.size + 1) (V8.out) (by have := LR.out; omega) 0 (.slice A9 (clsK (pls A B l) l.length (prs l.length).length).length c9)) (by have := LR.out; omega) 0 (.int .i64 0))
  replace NN := Lib.hid (Bset1 (Bset1 (NN.out) (show w.heap.size ≤ w.heap.size + 1 by have := LR.out; omega) 0 (.slice A9 (clsK (pls A B l) l.length (prs l.length).length).length c9)) (show w.heap.size ≤ w.heap.size + 1 + 1 by have := LR.out; omega) 0 (.int .i64 0))
  generalize ((W.setCell ⟨w.heap.size + 1, 0, none⟩ (.slice A9 (clsK (pls A B l) l.length (prs l.length).length).length c9)).setCell ⟨w.heap.size + 1 + 1, 0, none⟩ (.int .i64 0)) = W16 at *
  refine ⟨by simp, .inl ⟨_, _, rfl, run_takeDeferred HK.out, ?_⟩⟩
  have e4 := blk_cell (put_blk (D := D) (o' := .deferred none) R4.out (by have := SZ.out; have := LR.out; omega)) 0 _ rfl
  have e5 := blk_cell (put_blk (D := D) (o' := .deferred none) R5.out (by have := SZ.out; have := LR.out; omega)) 0 _ rfl
  exact ⟨.tuple #[.slice A9 (clsK (pls A B l) l.length (prs l.length).length).length c9, .int .i64 0], by simp [results, Tryz.results10, go_sem, e4, e5], ⟨_, rfl, put_below NN.out (by have := SZ.out; have := LR.out; omega) (Nat.le_refl _) HK.out, hs, (OX.out.mono (by have := SZ.out; have := LR.out; omega)).putObj _ HK.out rfl⟩⟩
 case stop =>
  rintro D cd k W hD hlt h hK
  exact h.elim
end Go.Proofs.YtfangplfbbgphaaGreatDoor
namespace Go.Proofs.YtfangplfbbgphaaGreatDoor
open Go Go.RowKit
set_option linter.unusedVariables false
set_option maxRecDepth 100000
theorem sb_size : (Tryz.prog.info? 110).map (·.size) = some 2 := by kernel_rfl
theorem sb_lies : liesAt Tryz.prog Tryz.prog.depth 110 (2 / Tryz.prog.cellsOf 110) 0 110 1 = true := by kernel_rfl
theorem sb_byte : (Tryz.prog.info? 5).map (fun i => (i.zero, i.size, i.bytes)) = some (some (.int .u8 0), 1, 1) := by kernel_rfl
set_option maxHeartbeats 1000000 in
set_option maxRecDepth 100000 in
theorem sb_used (b : Nat) (w : World) (h0 : w.cell? ⟨b, 0, none⟩ = some (.pointer (some ⟨b, 0, none⟩))) :
  Calls Tryz.prog 77 #[.pointer (some ⟨b, 0, none⟩)] w fun e w' => e = .returned (.tuple #[]) ∧ w' = w := by
 obtain ⟨j, hj, _⟩ := Option.map_eq_some_iff.1 sb_size
 go_enter Tryz.func77, Tryz.ntmps77
 go_wp2
 rw [Lib.run_neq_ptr_same w _ Tryz.underlying107 hj]
 go_wp2
 go_end0
 exact ⟨rfl, rfl⟩
set_option maxHeartbeats 1000000 in
set_option maxRecDepth 100000 in
theorem sb_fresh (b : Nat) (w : World) (h0 : w.cell? ⟨b, 0, none⟩ = some (.pointer none)) (hsh : w.shape? b = some (110, 2)) (hfz : w.frozen? ⟨b, 0, none⟩ = false) :
  Calls Tryz.prog 77 #[.pointer (some ⟨b, 0, none⟩)] w fun e w' => e = .returned (.tuple #[]) ∧ w' = w.setCell ⟨b, 0, none⟩ (.pointer (some ⟨b, 0, none⟩)) := by
 obtain ⟨j, hj, hjs⟩ := Option.map_eq_some_iff.1 sb_size
 go_enter Tryz.func77, Tryz.ntmps77
 go_wp2
 rw [Lib.run_to_unsafe w ⟨b, 0, none⟩ Tryz.underlying107 Tryz.underlying171 hj (by rw [hjs]; decide) hsh (Nat.zero_lt_succ 1)]
 simp only [Result.andThen]
 rw [Oper.upon_value]
 go_wp2
 rw [run_callFunc_extern Tryz.func112 (by kernel_rfl) (by kernel_rfl) (by kernel_rfl) (e := Extern.AbiNoEscape.same) (by kernel_rfl)]
 rw [Lib.run_noEscape]
 simp only [Result.andThen]
 rw [Oper.upon_value]
 go_wp2
 rw [Lib.run_from_unsafe w ⟨b, 0, none⟩ Tryz.underlying171 Tryz.underlying107 hj hsh sb_lies]
 simp only [Result.andThen]
 rw [Oper.upon_value]
 go_wp2
 go_end0
 exact ⟨rfl, rfl⟩
abbrev SB (B b : Nat) (bs : List Value) (w : World) : Prop := Lib.IsBuilder 110 5 B b bs w
abbrev SBU (B b : Nat) (bs : List Value) (w : World) : Prop := Lib.BuilderAt 110 5 B b (.pointer (some ⟨b, 0, none⟩)) bs w
theorem sb_check (B b : Nat) (bs : List Value) (w : World) (h : SB B b bs w) :
  Calls Tryz.prog 77 #[.pointer (some ⟨b, 0, none⟩)] w fun e w' => e = .returned (.tuple #[]) ∧ SBU B b bs w' ∧ Below B w w' := by
 rcases h with h | h
 ·refine (sb_fresh b w h.cell0 h.shape h.frozen0).mono ?_
  rintro e w' ⟨rfl, rfl⟩
  exact ⟨rfl, h.used _, (Below.refl B w).setCell (p := ⟨b, 0, none⟩) h.1 _⟩
 ·refine (sb_used b w h.cell0).mono ?_
  rintro e w' ⟨rfl, rfl⟩
  exact ⟨rfl, h, Below.refl B _⟩
set_option maxHeartbeats 1000000 in
set_option maxRecDepth 100000 in
theorem sb_write (B b : Nat) (bs : List Value) (s : ByteArray) (w : World) (h : SB B b bs w) (hlen : bs.length + s.size ≤ 140737488355328) (hBw : B ≤ w.heap.size) :
  Calls Tryz.prog 52 #[.pointer (some ⟨b, 0, none⟩), .string s] w fun e w' => e = .returned (.tuple #[.int .i64 s.size, .nilIface]) ∧ SBU B b (bs ++ Lib.strCells s) w' ∧ Below B w w' := by
 obtain ⟨i0, hi, hz0, hz1, hz2⟩ := info_parts sb_byte
 go_enter Tryz.func52, Tryz.ntmps52
 go_wp2_with fail
 refine (sb_check B b bs _ h).mono ?_
 rintro e w1 ⟨rfl, h1, hb1⟩
 obtain ⟨hB, v, hbk, hown, hne⟩ := h1
 have c0 : w1.cell? ⟨b, 0, none⟩ = some (.pointer (some ⟨b, 0, none⟩)) := by rw [Lib.cell_of_heap hbk]; rfl
 have c1 : w1.cell? ⟨b, 1, none⟩ = some v := by rw [Lib.cell_of_heap hbk]; rfl
 go_wp2_with (at_builtin; refine Lib.wpList_append_own_string _ rfl _ _ 108 9 rfl B 5 i0 Tryz.underlying108 Tryz.underlying9 hi hz0 hz1 hz2 _ _ _ rfl hown s rfl ?c3 ?c4 ?c5 ?_)
 case c3 => unfold maxLen; omega
 case c4 => omega
 case c5 => have := hb1.size; omega
 intro v' w2 hown' hgrow _
 have hlt : b < w1.heap.size := by
  rcases Nat.lt_or_ge b w1.heap.size with h' | h'
  ·exact h'
  ·simp [Array.getElem?_eq_none h'] at hbk
 have hb2 : w2.heap[b]? = some (.cells #[.pointer (some ⟨b, 0, none⟩), v] 110 (0, 0)) := by
  rw [hgrow.block b hlt (fun e => hne e.symm)]
  exact hbk
 have d0 : w2.cell? ⟨b, 0, none⟩ = some (.pointer (some ⟨b, 0, none⟩)) := by rw [Lib.cell_of_heap hb2]; rfl
 have d1 : w2.cell? ⟨b, 1, none⟩ = some v := by rw [Lib.cell_of_heap hb2]; rfl
 have f1 : w2.frozen? ⟨b, 1, none⟩ = false := Lib.frozen_of_heap hb2 1
 obtain ⟨ao, n', cap, rfl⟩ : ∃ ao n' cap, v' = .slice ao n' cap := by
  rcases hown'.2 with ⟨hv, _⟩ | ⟨g, cap, cur, hv, _⟩
  ·exact ⟨_, _, _, hv⟩
  ·exact ⟨_, _, _, hv⟩
 go_wp2
 go_ret2
 refine ⟨rfl, ?_, ?_⟩
 ·exact Lib.BuilderAt.put (T := 110) (e := 5) hB hb2 (bs' := bs ++ Lib.strCells s) (by simpa [Lib.strCells_length] using hown') (by decide)
 ·exact (hb1.grown hgrow (by have := hb1.size; omega) (fun k hk => (hown.lt k hk).1)).setCell (p := ⟨b, 1, none⟩) hB _
theorem SB.new (w : World) : SB w.heap.size w.heap.size [] (w.alloc (.cells #[.pointer none, .slice none 0 0] 110)) :=
 .inl ⟨Nat.le_refl _, _, blk_new w _, World.ownsRow_nil _ _ _ _, by simp [Value.ownBlock]⟩
end Go.Proofs.YtfangplfbbgphaaGreatDoor
