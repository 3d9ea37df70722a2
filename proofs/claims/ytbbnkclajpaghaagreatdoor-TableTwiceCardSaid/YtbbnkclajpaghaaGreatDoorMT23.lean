/- Several texts in one. -/
import Derived.Test.YtbbnkclajpaghaaGreatDoorMT06
import Derived.Test.YtbbnkclajpaghaaGreatDoorMT12
import Derived.Test.YtbbnkclajpaghaaGreatDoorMT22
namespace Go.Proofs.YtbbnkclajpaghaaGreatDoor
open Go.ChangeShapes Go.WideShapes Go.ChangeAt Go.RowKit
set_option linter.unusedVariables false
set_option linter.unusedSimpArgs false
attribute [local go_sem ↓] Go.wp_at_zero Go.wp_at_succ
theorem ib_run (w : World) : (callFunc 124 #[.string ⟨#[120, 10, 46, 10]⟩, .int .u8 10]).run Tryz.prog w = .ok (.value (.int .i64 1)) w := by kernel_rfl
def bf (b : Bool) : List Value := [.bool b]
theorem tyB : Ty 4 50 1 bf := ⟨⟨.bool false, 1, by kernel_rfl, rfl, by decide⟩, by kernel_rfl, by decide, fun _ => rfl, fun l u hu => by
 obtain ⟨s, _, hs⟩ := List.mem_flatMap.1 hu
 simp [bf] at hs
 rw [hs]; rfl⟩
abbrev OB (B : Nat) (w : World) (v : Value) (l : List Bool) : Prop := OG 4 1 bf B w v l
theorem bf_map (l : List Bool) : l.flatMap bf = l.map Value.bool := by
 induction l with
 | nil => rfl
 | cons b l ih => rw [List.flatMap_cons, ih]; rfl
theorem OB.rb {B : Nat} {w : World} {A : Option Addr} {n c : Nat} {l : List Bool} (h : OB B w (.slice A n c) l) : n = l.length ∧ l.length ≤ c ∧ c ≤ 9223372036854775807 ∧ RB w A l := by
 obtain ⟨A', c', e, h1, h2, h3, -⟩ := h.form
 injection e with e1 e2 e3
 subst e1 e2 e3
 rw [bf_map] at h3
 exact ⟨rfl, h1, h2, h3⟩
theorem Rd.bool {W : World} {b : Nat} {x : Bool} {T : TypeId} (h : W.heap[b]? = some (.cells #[.bool x] T)) : Rd W 1 (some ⟨b, 0, none⟩) [x].length ([x].flatMap bf) := by
 refine ⟨rfl, fun _ => ⟨b, 0, rfl, blk_lt h, fun j u hu => ?_⟩⟩
 refine blk_cell h (0 + j) u ?_
 simpa [bf] using hu
def bl (k : Nat) : List Bool := if k = 0 then [] else if k ≤ 2 then [true] else [true, false]
theorem slib_calls (w : World) : Calls Tryz.prog 98 #[.string ⟨#[120, 10, 46, 10]⟩, .int .u8 10] w fun e w' => e = .returned (.int .i64 1) ∧ Below w.heap.size w w' := by
 have hi := ib_run
 go_enter Tryz.func98, Tryz.ntmps98
 go_wp2_with fail
 go_ret
 exact ⟨rfl, Below.refl _ _⟩
theorem sib_calls (w : World) : Calls Tryz.prog 71 #[.string ⟨#[120, 10, 46, 10]⟩, .int .u8 10] w fun e w' => e = .returned (.int .i64 1) ∧ Below w.heap.size w w' := by
 skip
 go_enter Tryz.func71, Tryz.ntmps71
 go_wp2_with fail
 refine (slib_calls _).mono ?_
 rintro e w1 ⟨rfl, hb⟩
 go_wp2_with fail
 go_ret
 exact ⟨rfl, hb⟩
set_option maxRecDepth 100000 in
set_option maxHeartbeats 8000000 in
theorem fparse_calls (w : World) : Calls Tryz.prog 40 #[.string ⟨#[120, 10, 46, 10]⟩] w fun e w' => ∃ A c, e = .returned (.tuple #[Mv 2 1 A 2 c, .int .i64 0]) ∧ 2 ≤ c ∧ c ≤ 9223372036854775807 ∧ RB w' A [true, false] ∧ Below w.heap.size w w' := by
 have NN := Lib.hid (Below.refl w.heap.size w)
 go_enter Tryz.func40, Tryz.ntmps40
 go_wp2_with fail
 have Z : Hid ((w.alloc (.cells #[.int .i64 0, .int .i64 0, .slice none 0 0] 52)).heap[w.heap.size]? = some (.cells #[.int .i64 0, .int .i64 0, .slice none 0 0] 52)) := Lib.hid (blk_new w _)
 replace NN : Hid (Below w.heap.size w (w.alloc (.cells #[.int .i64 0, .int .i64 0, .slice none 0 0] 52))) := Lib.hid (Bal NN.out _)
 generalize (w.alloc (.cells #[.int .i64 0, .int .i64 0, .slice none 0 0] 52)) = W1 at *
 refine (sib_calls _).mono ?_
 rintro e w2 ⟨rfl, hb⟩
 replace NN := Lib.hid (Bgo NN.out hb)
 replace Z := Lib.hid (blk_next hb Z.out)
 clear hb
 go_upto_region 5 with fail
 have HB := Lib.hid (show Below w2.heap.size w2 (w2.alloc (.cells #[.int .i64 2, .int .i64 1, .slice none 0 0] 52)) from (Bal (Below.refl _ _) _))
 have V : Hid ((w2.alloc (.cells #[.int .i64 2, .int .i64 1, .slice none 0 0] 52)).heap[w2.heap.size]? = some (.cells #[.int .i64 2, .int .i64 1, .slice none 0 0] 52)) := Lib.hid (blk_new w2 _)
 have LT_V : Hid (w.heap.size < w2.heap.size ∧ w.heap.size ≤ w2.heap.size) := Lib.hid ⟨blk_lt Z.out, NN.out.size⟩
 replace NN := Lib.hid (Bgo NN.out HB.out)
 replace Z := Lib.hid (blk_next HB.out Z.out)
 clear HB
 generalize (w2.alloc (.cells #[.int .i64 2, .int .i64 1, .slice none 0 0] 52)) = W3 at *
 generalize w2.heap.size = gV at *
 go_wp2_with fail
 have LG : Hid (w.heap.size < gV) := Lib.hid (by have := LT_V.out; omega)
 clear LT_V
 go_loopw [43] (fun p wr => ∃ (k : Nat) (A : Option Addr) (c : Nat), k ≤ 4 ∧ p = .int .i64 k ∧ Hid (Below w.heap.size w wr) ∧ Hid (wr.heap[w.heap.size]? = some (.cells #[.int .i64 0, .int .i64 0, .slice none 0 0] 52)) ∧ Hid (wr.heap[gV]? = some (.cells #[.int .i64 2, .int .i64 1, .slice A (bl k).length c] 52)) ∧ Hid (OB w.heap.size wr (.slice A (bl k).length c) (bl k))) (fun p _ => 4 - (intOf p).toNat)
 case atStart => exact ⟨0, none, 0, by decide, rfl, NN, Z, V, Lib.hid (OG.nil _ _ _ _ _)⟩
 case round =>
  clear NN Z V
  obtain ⟨k, A, c, hk, rfl, NN, Z, V, OO⟩ := hrel
  rcases (show k = 0 ∨ k = 1 ∨ k = 2 ∨ k = 3 ∨ k = 4 by omega) with rfl | rfl | rfl | rfl | rfl
  ·have s0 : ((((⟨#[120, 10, 46, 10]⟩ : ByteArray)[0]).toNat : Nat) : Int) = 120 := rfl
   replace V : Hid (wr.heap[gV]? = some (.cells #[.int .i64 2, .int .i64 1, .slice A 0 c] 52)) := V
   replace OO : Hid (OB w.heap.size wr (.slice A 0 c) (bl 0)) := OO
   have BE := Lib.hid (Bal (Below.refl wr.heap.size wr) (.cells #[.bool true] 4))
   have WS := Lib.hid NN.out.size
   have NE9 : 52 ≠ 4 := by decide
   have hb9 : (bl 0).length + 1 ≤ 100000 := by decide
   have c_V_0 := blk_cell V.out 0 _ rfl
   have f_V_0 := blk_frozen V.out 0
   have c_V_1 := blk_cell V.out 1 _ rfl
   have f_V_1 := blk_frozen V.out 1
   have c_V_2 := blk_cell V.out 2 _ rfl
   have f_V_2 := blk_frozen V.out 2
   have l_V := blk_lt V.out
   go_wp2_with (at_builtin; refine wpList_gapp tyB rfl _ _ rfl w.heap.size _ (bl 0) rfl (some ⟨wr.heap.size, 0, none⟩) 1 1 [true] rfl (OO.out.next BE.out) rfl (Rd.bool (blk_new wr _)) hb9 ?_ ?_; (rw [World.size_alloc]; have := WS.out; omega); intro v1 w8 o1 q1 t1; obtain ⟨A1, c1, hv1, -, -, -, -⟩ := OG.form o1; subst hv1; have OO1 := Lib.hid o1; have TT := Lib.hid t1; have QQ := Lib.hid q1; have Vn := Lib.hid (t1.blk (blk_next BE.out V.out) NE9); have c9a := blk_cell Vn.out 2 _ rfl; have f9a := blk_frozen Vn.out 2; have l9a := blk_lt Vn.out; clear o1 q1 t1)
   clear c_V_0 f_V_0 c_V_1 f_V_1 c_V_2 f_V_2 l_V
   replace OO1 : Hid (OB w.heap.size w8 (.slice A1 (bl 1).length c1) (bl 1)) := OO1
   have TS := Lib.hid (Oth.set Vn.out 2 (.slice A1 (bl 1).length c1))
   exact ⟨⟨1, A1, c1, by decide, by go_num, Lib.hid (Bset1 ((Bgo NN.out BE.out).trans QQ.out) (show w.heap.size ≤ gV by have := LG.out; omega) 2 _), Lib.hid (blk_set_other (b' := gV) (TT.out.blk (blk_next BE.out Z.out) NE9) (by have := LG.out; omega) 2 _), Lib.hid (blk_set Vn.out 2 _), Lib.hid (OO1.out.oth TS.out (by decide))⟩, by simp [intOf]⟩
  ·have s1 : ((((⟨#[120, 10, 46, 10]⟩ : ByteArray)[1]).toNat : Nat) : Int) = 10 := rfl
   go_wp2_with fail
   exact ⟨⟨2, A, c, by decide, by go_num, NN, Z, V, OO⟩, by simp [intOf]⟩
  ·have s2 : ((((⟨#[120, 10, 46, 10]⟩ : ByteArray)[2]).toNat : Nat) : Int) = 46 := rfl
   replace V : Hid (wr.heap[gV]? = some (.cells #[.int .i64 2, .int .i64 1, .slice A 1 c] 52)) := V
   replace OO : Hid (OB w.heap.size wr (.slice A 1 c) (bl 2)) := OO
   have BE := Lib.hid (Bal (Below.refl wr.heap.size wr) (.cells #[.bool false] 4))
   have WS := Lib.hid NN.out.size
   have NE9 : 52 ≠ 4 := by decide
   have hb9 : (bl 2).length + 1 ≤ 100000 := by decide
   have c_V_0 := blk_cell V.out 0 _ rfl
   have f_V_0 := blk_frozen V.out 0
   have c_V_1 := blk_cell V.out 1 _ rfl
   have f_V_1 := blk_frozen V.out 1
   have c_V_2 := blk_cell V.out 2 _ rfl
   have f_V_2 := blk_frozen V.out 2
   have l_V := blk_lt V.out
   go_wp2_with (at_builtin; refine wpList_gapp tyB rfl _ _ rfl w.heap.size _ (bl 2) rfl (some ⟨wr.heap.size, 0, none⟩) 1 1 [false] rfl (OO.out.next BE.out) rfl (Rd.bool (blk_new wr _)) hb9 ?_ ?_; (rw [World.size_alloc]; have := WS.out; omega); intro v1 w8 o1 q1 t1; obtain ⟨A1, c1, hv1, -, -, -, -⟩ := OG.form o1; subst hv1; have OO1 := Lib.hid o1; have TT := Lib.hid t1; have QQ := Lib.hid q1; have Vn := Lib.hid (t1.blk (blk_next BE.out V.out) NE9); have c9a := blk_cell Vn.out 2 _ rfl; have f9a := blk_frozen Vn.out 2; have l9a := blk_lt Vn.out; clear o1 q1 t1)
   clear c_V_0 f_V_0 c_V_1 f_V_1 c_V_2 f_V_2 l_V
   replace OO1 : Hid (OB w.heap.size w8 (.slice A1 (bl 3).length c1) (bl 3)) := OO1
   have TS := Lib.hid (Oth.set Vn.out 2 (.slice A1 (bl 3).length c1))
   exact ⟨⟨3, A1, c1, by decide, by go_num, Lib.hid (Bset1 ((Bgo NN.out BE.out).trans QQ.out) (show w.heap.size ≤ gV by have := LG.out; omega) 2 _), Lib.hid (blk_set_other (b' := gV) (TT.out.blk (blk_next BE.out Z.out) NE9) (by have := LG.out; omega) 2 _), Lib.hid (blk_set Vn.out 2 _), Lib.hid (OO1.out.oth TS.out (by decide))⟩, by simp [intOf]⟩
  ·have s3 : ((((⟨#[120, 10, 46, 10]⟩ : ByteArray)[3]).toNat : Nat) : Int) = 10 := rfl
   go_wp2_with fail
   exact ⟨⟨4, A, c, by decide, by go_num, NN, Z, V, OO⟩, by simp [intOf]⟩
  ·replace V : Hid (wr.heap[gV]? = some (.cells #[.int .i64 2, .int .i64 1, .slice A 2 c] 52)) := V
   replace OO : Hid (OB w.heap.size wr (.slice A 2 c) [true, false]) := OO
   have c_V_0 := blk_cell V.out 0 _ rfl
   have f_V_0 := blk_frozen V.out 0
   have c_V_1 := blk_cell V.out 1 _ rfl
   have f_V_1 := blk_frozen V.out 1
   have c_V_2 := blk_cell V.out 2 _ rfl
   have f_V_2 := blk_frozen V.out 2
   have l_V := blk_lt V.out
   have c_Z_0 := blk_cell Z.out 0 _ rfl
   have f_Z_0 := blk_frozen Z.out 0
   have c_Z_1 := blk_cell Z.out 1 _ rfl
   have f_Z_1 := blk_frozen Z.out 1
   have c_Z_2 := blk_cell Z.out 2 _ rfl
   have f_Z_2 := blk_frozen Z.out 2
   have l_Z := blk_lt Z.out
   go_wp2_with fail
   clear c_V_0 f_V_0 c_V_1 f_V_1 c_V_2 f_V_2 l_V c_Z_0 f_Z_0 c_Z_1 f_Z_1 c_Z_2 f_Z_2 l_Z
   have OOn : Hid (OB w.heap.size (((wr.setCell ⟨w.heap.size, 0, none⟩ (.int .i64 2)).setCell ⟨w.heap.size, 1, none⟩ (.int .i64 1)).setCell ⟨w.heap.size, 2, none⟩ (.slice A 2 c)) (.slice A 2 c) [true, false]) := Lib.hid (OO.out.oth ((Oth.set Z.out 0 _).trans ((Oth.set (blk_set Z.out 0 _) 1 _).trans (Oth.set (blk_set (blk_set Z.out 0 _) 1 _) 2 _))) (by decide))
   replace Z : Hid ((((wr.setCell ⟨w.heap.size, 0, none⟩ (.int .i64 2)).setCell ⟨w.heap.size, 1, none⟩ (.int .i64 1)).setCell ⟨w.heap.size, 2, none⟩ (.slice A 2 c)).heap[w.heap.size]? = some (.cells #[.int .i64 2, .int .i64 1, .slice A 2 c] 52)) := Lib.hid (blk_set (blk_set (blk_set (Z.out) 0 (.int .i64 2)) 1 (.int .i64 1)) 2 (.slice A 2 c))
   replace V : Hid ((((wr.setCell ⟨w.heap.size, 0, none⟩ (.int .i64 2)).setCell ⟨w.heap.size, 1, none⟩ (.int .i64 1)).setCell ⟨w.heap.size, 2, none⟩ (.slice A 2 c)).heap[gV]? = some (.cells #[.int .i64 2, .int .i64 1, .slice A 2 c] 52)) := Lib.hid (blk_set_other (b' := w.heap.size) (blk_set_other (b' := w.heap.size) (blk_set_other (b' := w.heap.size) (V.out) (by have := LG.out; omega) 0 (.int .i64 2)) (by have := LG.out; omega) 1 (.int .i64 1)) (by have := LG.out; omega) 2 (.slice A 2 c))
   replace NN := Lib.hid (Bset1 (Bset1 (Bset1 (NN.out) (show w.heap.size ≤ w.heap.size by omega) 0 (.int .i64 2)) (show w.heap.size ≤ w.heap.size by omega) 1 (.int .i64 1)) (show w.heap.size ≤ w.heap.size by omega) 2 (.slice A 2 c))
   generalize (((wr.setCell ⟨w.heap.size, 0, none⟩ (.int .i64 2)).setCell ⟨w.heap.size, 1, none⟩ (.int .i64 1)).setCell ⟨w.heap.size, 2, none⟩ (.slice A 2 c)) = W4 at *
   have c_Z_0 := blk_cell Z.out 0 _ rfl
   have c_Z_1 := blk_cell Z.out 1 _ rfl
   have c_Z_2 := blk_cell Z.out 2 _ rfl
   have l_Z := blk_lt Z.out
   exact bodyPost_ret (v := .tuple #[.agg #[.int .i64 2, .int .i64 1, .slice A 2 c], .int .i64 0]) (by simp [results, Tryz.results40, go_sem, c_Z_0, c_Z_1, c_Z_2]) rfl ⟨A, c, rfl, OOn.out.rb.2.1, OOn.out.rb.2.2.1, OOn.out.rb.2.2.2, NN.out⟩
end Go.Proofs.YtbbnkclajpaghaaGreatDoor
namespace Go.Proofs.YtbbnkclajpaghaaGreatDoor
open Go.ChangeShapes Go.WideShapes Go.ChangeAt Go.RowKit
set_option linter.unusedVariables false
set_option linter.unusedSimpArgs false
attribute [local go_sem ↓] Go.wp_at_zero Go.wp_at_succ
def avgX (l : List Vr) (a b : Int) : Int × List Vr := avF (grps (isort (l.map (avT a b))))
theorem avg_closed {l o : List Vr} {a b : Int} (h : chkE l = 0) (ha : 1 ≤ a ∧ a ≤ 64) (hb : 1 ≤ b ∧ b ≤ 16) (hx : avgX l a b = (0, o)) : avgE l a b = 0 ∧ avgL l a b = o := by
 have e : avR a b l = (0, o) := by rw [avR_isort ha.1 hb.1 (goodF_row (chkE_good h).1)]; exact hx
 have e0 : avgE l a b = 0 := by unfold avgE; rw [if_neg (by rw [h]; simp), if_neg (by omega), e]
 exact ⟨e0, by unfold avgL; rw [if_pos e0, e]⟩
theorem avg_of {W : World} {v : Value} {l : List Vr} (h : HR W v l) (a b : Int) : Calls Tryz.prog 16 #[v, .int .i64 a, .int .i64 b] W fun e w' => ∃ u, e = .returned (.tuple #[u, .int .i64 (avgE l a b)]) ∧ HR w' u (avgL l a b) ∧ Below W.heap.size W w' := by
 obtain ⟨A, c, rfl, h2, h3, h4, h5⟩ := h.ex
 exact (average_calls a b h4 h5 h2 h3).mono fun e w' ⟨u, he, ho, hb⟩ => ⟨u, he, OR.hr ho, hb⟩
theorem drop_of {W : World} {v : Value} {l : List Vr} (h : HR W v l) {Am : Option Addr} {cm : Nat} {bits : List Bool} (t c : Int) (hb : RB W Am bits) (hbl : bits.length ≤ 1000000) (hbc : bits.length ≤ cm) : Calls Tryz.prog 22 #[v, Mv t c Am bits.length cm] W fun e w' => ∃ u, e = .returned (.tuple #[u, .int .i64 (drpE l t c bits)]) ∧ HR w' u (drpL l t c bits) ∧ Below W.heap.size W w' := by
 obtain ⟨A, c, rfl, h2, h3, h4, h5⟩ := h.ex
 exact (drop_calls t _ h4 h5 h2 h3 hb hbl hbc).mono fun e w' ⟨u, he, ho, hb⟩ => ⟨u, he, OR.hr ho, hb⟩
theorem parse_of (s : List UInt8) (hs : s.length ≤ 100000) (w : World) (g : GL w) : Calls Tryz.prog 11 #[Str s] w fun e w' => ∃ v, e = .returned (.tuple #[v, .int .i64 (paE s)]) ∧ HR w' v (paL s) ∧ Below w.heap.size w w' :=
 (tparse_calls s hs w g).mono fun e w' ⟨u, he, hb, ho⟩ => ⟨u, he, OR.hr ho, hb⟩
theorem lc_next {W X : World} {b o : Nat} {v : Value} (h : b < W.heap.size ∧ W.cell? ⟨b, o, none⟩ = some v) (hb : Below W.heap.size W X) : b < X.heap.size ∧ X.cell? ⟨b, o, none⟩ = some v :=
 ⟨Nat.lt_of_lt_of_le h.1 hb.size, (hb.cell (p := ⟨b, o, none⟩) h.1).trans h.2⟩
def exT : List Vr := [⟨0, 0, 0, 1, 1, 0, 2, 1⟩, ⟨1, 0, 0, 1, 1, 1, 1, 3⟩]
def exA : List Vr := [⟨0, 0, 0, 1, 7, 6, 8, 4⟩]
def exD : List Vr := [⟨0, 0, 0, 1, 1, 0, 2, 0⟩, ⟨1, 0, 0, 1, 1, 1, 1, 3⟩]
def exB : List Vr := [⟨0, 0, 0, 1, 1, 1, 1, 3⟩]
theorem ex_parse : paE [48, 32, 48, 32, 48, 32, 49, 32, 49, 47, 50, 32, 48, 32, 49, 10, 49, 32, 48, 32, 48, 32, 49, 32, 49, 32, 49, 32, 51, 10] = 0 ∧ paL [48, 32, 48, 32, 48, 32, 49, 32, 49, 47, 50, 32, 48, 32, 49, 10, 49, 32, 48, 32, 48, 32, 49, 32, 49, 32, 49, 32, 51, 10] = exT := ⟨by kernel_rfl, by kernel_rfl⟩
theorem ex_avg : avgE exT 2 1 = 0 ∧ avgL exT 2 1 = exA := avg_closed (by kernel_rfl) (by decide) (by decide) (by kernel_rfl)
theorem ex_text : txE exA = 0 ∧ txO exA = [48, 32, 48, 32, 48, 32, 49, 32, 55, 47, 56, 32, 51, 47, 52, 32, 52, 10] := ⟨by kernel_rfl, by kernel_rfl⟩
theorem ex_drop : drpE exT 2 1 [true, false] = 0 ∧ drpL exT 2 1 [true, false] = exD := ⟨by kernel_rfl, by kernel_rfl⟩
theorem ex_avg2 : avgE exD 2 1 = 0 ∧ avgL exD 2 1 = exB := avg_closed (by kernel_rfl) (by decide) (by decide) (by kernel_rfl)
theorem ex_text2 : txE exB = 0 ∧ txO exB = [48, 32, 48, 32, 48, 32, 49, 32, 49, 32, 49, 32, 51, 10] := ⟨by kernel_rfl, by kernel_rfl⟩
set_option maxRecDepth 100000 in
set_option maxHeartbeats 8000000 in
theorem alive_calls (w : World) (g : GL w) : Calls Tryz.prog 14 #[] w fun e w' => e = .returned (.bool true) ∧ Below w.heap.size w w' := by
 have NN := Lib.hid (Below.refl w.heap.size w)
 have GG := Lib.hid (fun W (h : Below w.heap.size w W) => g.next h)
 clear g
 go_enter Tryz.func14, Tryz.ntmps14
 go_wp2_with fail
 refine (parse_of [48, 32, 48, 32, 48, 32, 49, 32, 49, 47, 50, 32, 48, 32, 49, 10, 49, 32, 48, 32, 48, 32, 49, 32, 49, 32, 49, 32, 51, 10] (by decide) _ (GG.out _ NN.out)).mono ?_
 rintro e w1 ⟨vXT, rfl, hh, hb⟩
 rw [ex_parse.1]
 rw [ex_parse.2] at hh
 have XT := Lib.hid hh
 clear hh
 replace NN := Lib.hid (Bgo NN.out hb)
 clear hb
 go_wp2_with fail
 refine (avg_of XT.out 2 1).mono ?_
 rintro e w2 ⟨vXA, rfl, hh, hb⟩
 rw [ex_avg.1]
 rw [ex_avg.2] at hh
 have XA := Lib.hid hh
 clear hh
 replace NN := Lib.hid (Bgo NN.out hb)
 replace XT := Lib.hid (HR.next XT.out hb)
 clear hb
 go_wp2_with fail
 refine (text_of XA.out (GG.out _ NN.out)).mono ?_
 rintro e w3 ⟨rfl, hb⟩
 rw [ex_text.1, ex_text.2]
 replace NN := Lib.hid (Bgo NN.out hb)
 replace XT := Lib.hid (HR.next XT.out hb)
 replace XA := Lib.hid (HR.next XA.out hb)
 clear hb
 clear XA
 go_wp2_with fail
 refine (fparse_calls _).mono ?_
 rintro e w4 ⟨Am, cm, rfl, hcm, hcm', hrb, hb⟩
 have RBB := Lib.hid hrb
 clear hrb hcm'
 replace NN := Lib.hid (Bgo NN.out hb)
 replace XT := Lib.hid (HR.next XT.out hb)
 clear hb
 go_upto_region 5 with fail
 have HB := Lib.hid (show Below w4.heap.size w4 (w4.alloc (.cells #[.int .i64 2, .int .i64 1, .slice Am 2 cm] 52)) from (Bal (Below.refl _ _) _))
 have VM : Hid ((w4.alloc (.cells #[.int .i64 2, .int .i64 1, .slice Am 2 cm] 52)).heap[w4.heap.size]? = some (.cells #[.int .i64 2, .int .i64 1, .slice Am 2 cm] 52)) := Lib.hid (blk_new w4 _)
 have LT_VM : Hid (w.heap.size ≤ w4.heap.size) := Lib.hid NN.out.size
 replace NN := Lib.hid (Bgo NN.out HB.out)
 replace XT := Lib.hid (HR.next XT.out HB.out)
 replace RBB := Lib.hid (Rd.next HB.out RBB.out)
 clear HB
 generalize (w4.alloc (.cells #[.int .i64 2, .int .i64 1, .slice Am 2 cm] 52)) = W5 at *
 generalize w4.heap.size = gM at *
 have c_VM_0 := blk_cell VM.out 0 _ rfl
 have f_VM_0 := blk_frozen VM.out 0
 have c_VM_1 := blk_cell VM.out 1 _ rfl
 have f_VM_1 := blk_frozen VM.out 1
 have c_VM_2 := blk_cell VM.out 2 _ rfl
 have f_VM_2 := blk_frozen VM.out 2
 have l_VM := blk_lt VM.out
 go_wp2_with fail
 clear c_VM_0 f_VM_0 c_VM_1 f_VM_1 c_VM_2 f_VM_2 l_VM
 refine (drop_of XT.out 2 1 (bits := [true, false]) RBB.out (by decide) hcm).mono ?_
 rintro e w6 ⟨vXD, rfl, hh, hb⟩
 rw [ex_drop.1]
 rw [ex_drop.2] at hh
 have XD := Lib.hid hh
 clear hh
 replace NN := Lib.hid (Bgo NN.out hb)
 replace XT := Lib.hid (HR.next XT.out hb)
 replace RBB := Lib.hid (Rd.next hb RBB.out)
 replace VM := Lib.hid (blk_next hb VM.out)
 clear hb
 go_wp2_with fail
 refine (avg_of XD.out 2 1).mono ?_
 rintro e w7 ⟨vXB, rfl, hh, hb⟩
 rw [ex_avg2.1]
 rw [ex_avg2.2] at hh
 have XB := Lib.hid hh
 clear hh
 replace NN := Lib.hid (Bgo NN.out hb)
 replace XT := Lib.hid (HR.next XT.out hb)
 replace RBB := Lib.hid (Rd.next hb RBB.out)
 replace XD := Lib.hid (HR.next XD.out hb)
 replace VM := Lib.hid (blk_next hb VM.out)
 clear hb
 go_wp2_with fail
 obtain ⟨At, ct, hvt, hct, hct', hrt, -⟩ := XT.out.ex
 subst hvt
 obtain ⟨Ad, cd, hvd, hcd, hcd', hrd, -⟩ := XD.out.ex
 subst hvd
 obtain ⟨bd, od, rfl, lbd, -, -, -, -, -, -, -, d7⟩ := RT.at_ hrd (i := 0) (by decide)
 have D7 := Lib.hid (And.intro lbd d7)
 clear lbd d7 hrt hrd
 refine (text_of XB.out (GG.out _ NN.out)).mono ?_
 rintro e w8 ⟨rfl, hb⟩
 rw [ex_text2.1, ex_text2.2]
 replace NN := Lib.hid (Bgo NN.out hb)
 replace XT := Lib.hid (HR.next XT.out hb)
 replace RBB := Lib.hid (Rd.next hb RBB.out)
 replace XD := Lib.hid (HR.next XD.out hb)
 replace XB := Lib.hid (HR.next XB.out hb)
 replace D7 := Lib.hid (lc_next D7.out hb)
 replace VM := Lib.hid (blk_next hb VM.out)
 clear hb
 obtain ⟨lbd, d7⟩ := D7.out
 simp only [Nat.zero_mul, Nat.add_zero] at d7
 have l1 : ((exT.length : Nat) : Int) = 2 := rfl
 have l2 : ((exD.length : Nat) : Int) = 2 := rfl
 have d7' : exD[0].n = 0 := rfl
 go_wp2_with fail
 go_ret
 exact ⟨rfl, NN.out⟩
end Go.Proofs.YtbbnkclajpaghaaGreatDoor
namespace Go.Proofs.YtbbnkclajpaghaaGreatDoor
open Go.ChangeShapes Go.WideShapes Go.ChangeAt Go.RowKit
set_option linter.unusedVariables false
set_option linter.unusedSimpArgs false
attribute [local go_sem ↓] Go.wp_at_zero Go.wp_at_succ
def fitT (l : List Vr) : Bool := !longB l.length && decide (chkE l = 0)
theorem fitT_ok {l : List Vr} (h : fitT l = true) : chkE l = 0 ∧ l.length ≤ 60 := by
 unfold fitT at h
 rw [Bool.and_eq_true, decide_eq_true_eq] at h
 refine ⟨h.2, ?_⟩
 have h1 := (chkE_good h.2).2
 have h2 := h.1
 unfold longB at h2
 simp at h2
 omega
theorem fit_of {W : World} {v : Value} {l : List Vr} (h : HR W v l) : Calls Tryz.prog 15 #[v] W fun e w' => e = .returned (.bool (fitT l)) ∧ Below W.heap.size W w' := by
 obtain ⟨A, c, rfl, h2, h3, h4, h5⟩ := h.ex
 have NN := Lib.hid (Below.refl W.heap.size W)
 have HL := Lib.hid h4
 have LC := Lib.hid (fun X => long_calls A l.length c X)
 have CC := Lib.hid (fun X (h : RT X A l) => refchk_calls h h2 h3)
 obtain ⟨b, hb⟩ : ∃ b, longB l.length = b := ⟨_, rfl⟩
 obtain ⟨e, he⟩ : ∃ e, chkE l = e := ⟨_, rfl⟩
 have HF : Hid (fitT l = (!b && decide (e = 0))) := Lib.hid (by unfold fitT; rw [hb, he])
 rw [hb] at LC
 rw [he] at CC
 generalize fitT l = r at *
 clear hb he h4 h5
 go_enter Tryz.func15, Tryz.ntmps15
 go_wp2_with fail
 refine (LC.out _).mono ?_
 rintro e1 w1 ⟨rfl, hb⟩
 replace NN := Lib.hid (Bgo NN.out hb)
 clear hb
 cases b
 ·go_wp2_with fail
  refine (CC.out _ (Rd.next NN.out HL.out)).mono ?_
  rintro e1 w2 ⟨rfl, hb⟩
  replace NN := Lib.hid (Bgo NN.out hb)
  clear hb
  go_wp2_with fail
  go_ret
  refine ⟨ret_bool ?_, NN.out⟩
  rw [HF.out]
  show (e == 0) = _
  simp
  rfl
 ·go_wp2_with fail
  go_ret
  exact ⟨ret_bool (by rw [HF.out]; rfl), NN.out⟩
theorem chk_of {W : World} {v : Value} {l : List Vr} (h : HR W v l) : Calls Tryz.prog 17 #[v] W fun e w' => e = .returned (.int .i64 (chkE l)) ∧ Below W.heap.size W w' := by
 obtain ⟨A, c, rfl, h2, h3, h4, h5⟩ := h.ex
 exact refchk_calls h4 h2 h3
theorem HR.len {W : World} {v : Value} {l : List Vr} (h : HR W v l) : ∃ A c, v = .slice A l.length c := by
 obtain ⟨A, c, h1, -⟩ := h.ex
 exact ⟨A, c, h1⟩
theorem chk_zero {l : List Vr} (h : goodB l = true) (hn : l.length ≤ 200) : chkE l = 0 := by
 unfold chkE
 rw [if_neg (by omega), h]
 rfl
theorem avgE_ok {l : List Vr} {a b : Int} (h : chkE l = 0) (ha : 1 ≤ a ∧ a ≤ 64) (hb : 1 ≤ b ∧ b ≤ 16) : avgE l a b = (avR a b l).1 := by
 unfold avgE
 rw [if_neg (by rw [h]; simp), if_neg (by omega)]
theorem avgL_ok {l : List Vr} {a b : Int} (h : avgE l a b = 0) : avgL l a b = (avR a b l).2 := by unfold avgL; rw [if_pos h]
theorem avgL_none {l : List Vr} {a b : Int} (h : avgE l a b ≠ 0) : avgL l a b = [] := by unfold avgL; rw [if_neg h]
theorem avgL_good {l : List Vr} {a b : Int} (h : chkE l = 0) (ha : 1 ≤ a ∧ a ≤ 64) (hb : 1 ≤ b ∧ b ≤ 16) : chkE (avgL l a b) = 0 ∧ (avgL l a b).length ≤ l.length ∧ ∀ m ∈ avgL l a b, 1 ≤ m.n := by
 by_cases h0 : avgE l a b = 0
 ·have e := avgE_ok h ha hb
  have hg := chkE_good h
  have := av_good ha.1 hb.1 (goodF_row hg.1) hg.2 (by rw [← e]; exact h0)
  unfold avgL
  rw [if_pos h0]
  exact ⟨chk_zero this.1 (by omega), this.2.1, this.2.2⟩
 ·rw [avgL_none h0]
  exact ⟨rfl, Nat.zero_le _, by simp⟩
theorem sameL_of {W : World} {v u : Value} {l m : List Vr} (h : HR W v l) (k : HR W u m) (e : l = m) (hn : l.length ≤ 1000000) : Calls Tryz.prog 13 #[v, u] W fun e w' => e = .returned (.bool true) ∧ Below W.heap.size W w' := by
 subst e
 exact same_of h k hn
theorem twice_law {l : List Vr} {a b c d : Int} (h : chkE l = 0) (ha : 1 ≤ a ∧ a ≤ 8) (hb : 1 ≤ b ∧ b ≤ 4) (hc : 1 ≤ c ∧ c ≤ 8) (hd : 1 ≤ d ∧ d ≤ 4) (h1 : avgE l a b = 0) (h2 : avgE (avgL l a b) c d = 0) (h3 : avgE l (a * c) (b * d) = 0) : avgL (avgL l a b) c d = avgL l (a * c) (b * d) := by
 have b1 : 1 ≤ a * c ∧ a * c ≤ 64 := ⟨Int.mul_pos (by omega) (by omega), Int.le_trans (Int.mul_le_mul ha.2 hc.2 (by omega) (by omega)) (by decide)⟩
 have b2 : 1 ≤ b * d ∧ b * d ≤ 16 := ⟨Int.mul_pos (by omega) (by omega), Int.le_trans (Int.mul_le_mul hb.2 hd.2 (by omega) (by omega)) (by decide)⟩
 have g := avgL_good h (show 1 ≤ a ∧ a ≤ 64 by omega) (show 1 ≤ b ∧ b ≤ 16 by omega)
 have e1 := avgE_ok h (show 1 ≤ a ∧ a ≤ 64 by omega) (show 1 ≤ b ∧ b ≤ 16 by omega)
 have e2 := avgE_ok g.1 (show 1 ≤ c ∧ c ≤ 64 by omega) (show 1 ≤ d ∧ d ≤ 16 by omega)
 have e3 := avgE_ok h b1 b2
 have hl := (chkE_good h).2
 have eL := avgL_ok h1
 rw [h1] at e1
 rw [h2] at e2
 rw [h3] at e3
 rw [avgL_ok h2, avgL_ok h3]
 rw [eL] at e2 ⊢
 refine av_twice (by omega) (by omega) (by omega) (by omega) (goodF_row (chkE_good h).1) (by omega) ?_ e1.symm e2.symm e3.symm
 have := g.2.1
 rw [eL] at this
 omega
set_option maxRecDepth 100000 in
set_option maxHeartbeats 16000000 in
theorem ltwice_calls {A : Option Addr} {cp : Nat} {l : List Vr} {w : World} (hl : RT w A l) (hA : ∀ b off, A = some ⟨b, off, none⟩ → b < w.heap.size) (hcp : l.length ≤ cp) (hcp' : cp ≤ 9223372036854775807) (a b c d : Int) (g : GL w) : Calls Tryz.prog 4 #[.slice A l.length cp, .int .i64 a, .int .i64 b, .int .i64 c, .int .i64 d] w fun e w' => e = .returned (.bool true) ∧ Below w.heap.size w w' := by
 have NN := Lib.hid (Below.refl w.heap.size w)
 have AL := Lib.hid (alive_calls w g)
 have H0 : Hid (HR w (.slice A l.length cp) l) := Lib.hid ⟨⟨A, cp, rfl, hcp, hcp', hl, hA⟩⟩
 clear hl hA g
 go_enter Tryz.func4, Tryz.ntmps4
 go_wp2_with fail
 refine (AL.out).mono ?_
 rintro e w1 ⟨rfl, hb⟩
 replace NN := Lib.hid (Bgo NN.out hb)
 replace H0 := Lib.hid (HR.next H0.out hb)
 clear hb
 clear AL
 go_wp2_with fail
 refine (fit_of H0.out).mono ?_
 rintro e w2 ⟨rfl, hb⟩
 replace NN := Lib.hid (Bgo NN.out hb)
 replace H0 := Lib.hid (HR.next H0.out hb)
 clear hb
 cases hf : fitT l
 ·go_wp2_with fail
  go_ret
  exact ⟨rfl, NN.out⟩
 obtain ⟨hck, h60⟩ := fitT_ok hf
 have HCK := Lib.hid hck
 clear hf hck
 by_cases c0 : a < 1
 ·have d0 : decide (a < 1) = true := decide_eq_true c0
  go_wp2_with fail
  go_ret
  exact ⟨rfl, NN.out⟩
 have d0 : decide (a < 1) = false := decide_eq_false c0
 by_cases c1 : 8 < a
 ·have d1 : decide (8 < a) = true := decide_eq_true c1
  go_wp2_with fail
  go_ret
  exact ⟨rfl, NN.out⟩
 have d1 : decide (8 < a) = false := decide_eq_false c1
 by_cases c2 : b < 1
 ·have d2 : decide (b < 1) = true := decide_eq_true c2
  go_wp2_with fail
  go_ret
  exact ⟨rfl, NN.out⟩
 have d2 : decide (b < 1) = false := decide_eq_false c2
 by_cases c3 : 4 < b
 ·have d3 : decide (4 < b) = true := decide_eq_true c3
  go_wp2_with fail
  go_ret
  exact ⟨rfl, NN.out⟩
 have d3 : decide (4 < b) = false := decide_eq_false c3
 by_cases c4 : c < 1
 ·have d4 : decide (c < 1) = true := decide_eq_true c4
  go_wp2_with fail
  go_ret
  exact ⟨rfl, NN.out⟩
 have d4 : decide (c < 1) = false := decide_eq_false c4
 by_cases c5 : 8 < c
 ·have d5 : decide (8 < c) = true := decide_eq_true c5
  go_wp2_with fail
  go_ret
  exact ⟨rfl, NN.out⟩
 have d5 : decide (8 < c) = false := decide_eq_false c5
 by_cases c6 : d < 1
 ·have d6 : decide (d < 1) = true := decide_eq_true c6
  go_wp2_with fail
  go_ret
  exact ⟨rfl, NN.out⟩
 have d6 : decide (d < 1) = false := decide_eq_false c6
 by_cases c7 : 4 < d
 ·have d7 : decide (4 < d) = true := decide_eq_true c7
  go_wp2_with fail
  go_ret
  exact ⟨rfl, NN.out⟩
 have d7 : decide (4 < d) = false := decide_eq_false c7
 go_wp2_with fail
 clear d0 d1 d2 d3 d4 d5 d6 d7
 have ha : 1 ≤ a ∧ a ≤ 8 := by omega
 have hb : 1 ≤ b ∧ b ≤ 4 := by omega
 have hc : 1 ≤ c ∧ c ≤ 8 := by omega
 have hd : 1 ≤ d ∧ d ≤ 4 := by omega
 have b1 : 1 ≤ a * c ∧ a * c ≤ 64 := ⟨Int.mul_pos (by omega) (by omega), Int.le_trans (Int.mul_le_mul ha.2 hc.2 (by omega) (by omega)) (by decide)⟩
 have b2 : 1 ≤ b * d ∧ b * d ≤ 16 := ⟨Int.mul_pos (by omega) (by omega), Int.le_trans (Int.mul_le_mul hb.2 hd.2 (by omega) (by omega)) (by decide)⟩
 have TL := Lib.hid (fun h1 h2 h3 => twice_law HCK.out ha hb hc hd h1 h2 h3)
 have G1 := Lib.hid (avgL_good HCK.out (show 1 ≤ a ∧ a ≤ 64 by omega) (show 1 ≤ b ∧ b ≤ 16 by omega))
 have G3 := Lib.hid (avgL_good HCK.out b1 b2)
 have N1 := Lib.hid (fun h => avgL_none (l := l) (a := a) (b := b) h)
 have HLN := Lib.hid h60
 obtain ⟨ac, hac⟩ : ∃ ac, a * c = ac := ⟨_, rfl⟩
 obtain ⟨bd, hbd⟩ : ∃ bd, b * d = bd := ⟨_, rfl⟩
 rw [hac, hbd] at TL G3
 rw [hac] at b1
 rw [hbd] at b2
 have wac : IntKind.i64.wrap ac = ac := IntWalk.i64_in _ (by omega)
 have wbd : IntKind.i64.wrap bd = bd := IntWalk.i64_in _ (by omega)
 have A1 := Lib.hid (fun (W : World) (h : HR W (.slice A l.length cp) l) => avg_of h a b)
 have A3 := Lib.hid (fun (W : World) (h : HR W (.slice A l.length cp) l) => avg_of h ac bd)
 clear HCK
 generalize avgL l ac bd = L3 at *
 generalize avgE l ac bd = e3 at *
 generalize avgL l a b = L1 at *
 generalize avgE l a b = e1 at *
 have A2 := Lib.hid (fun (W : World) (v : Value) (h : HR W v L1) => avg_of h c d)
 generalize avgL L1 c d = L2 at *
 generalize avgE L1 c d = e2 at *
 refine (A1.out _ H0.out).mono ?_
 rintro e w3 ⟨vX1, rfl, hh, hb⟩
 have X1 := Lib.hid hh
 clear hh
 replace NN := Lib.hid (Bgo NN.out hb)
 replace H0 := Lib.hid (HR.next H0.out hb)
 clear hb
 go_wp2_with fail
 refine (A2.out _ _ X1.out).mono ?_
 rintro e w4 ⟨vX2, rfl, hh, hb⟩
 have X2 := Lib.hid hh
 clear hh
 replace NN := Lib.hid (Bgo NN.out hb)
 replace H0 := Lib.hid (HR.next H0.out hb)
 replace X1 := Lib.hid (HR.next X1.out hb)
 clear hb
 go_wp2_with fail
 refine (A3.out _ H0.out).mono ?_
 rintro e w5 ⟨vX3, rfl, hh, hb⟩
 have X3 := Lib.hid hh
 clear hh
 replace NN := Lib.hid (Bgo NN.out hb)
 replace H0 := Lib.hid (HR.next H0.out hb)
 replace X1 := Lib.hid (HR.next X1.out hb)
 replace X2 := Lib.hid (HR.next X2.out hb)
 clear hb
 clear wac wbd hac hbd
 by_cases h1 : e1 = 0
 rotate_left
 ·have q1 : (e1 != 0) = true := by simpa using h1
  obtain rfl := N1.out h1
  obtain ⟨A4, c4, hv4⟩ := X1.out.len
  subst hv4
  go_wp2_with fail
  go_ret
  exact ⟨rfl, NN.out⟩
 subst h1
 by_cases h2 : e2 = 0
 rotate_left
 ·have q2 : (e2 != 0) = true := by simpa using h2
  go_wp2_with fail
  refine (chk_of X1.out).mono ?_
  rintro e w6 ⟨rfl, hb⟩
  rw [G1.out.1]
  replace NN := Lib.hid (Bgo NN.out hb)
  replace H0 := Lib.hid (HR.next H0.out hb)
  replace X1 := Lib.hid (HR.next X1.out hb)
  replace X2 := Lib.hid (HR.next X2.out hb)
  replace X3 := Lib.hid (HR.next X3.out hb)
  clear hb
  go_wp2_with fail
  go_ret
  exact ⟨rfl, NN.out⟩
 subst h2
 by_cases h3 : e3 = 0
 rotate_left
 ·have q3 : (e3 != 0) = true := by simpa using h3
  go_wp2_with fail
  refine (chk_of X1.out).mono ?_
  rintro e w7 ⟨rfl, hb⟩
  rw [G1.out.1]
  replace NN := Lib.hid (Bgo NN.out hb)
  replace H0 := Lib.hid (HR.next H0.out hb)
  replace X1 := Lib.hid (HR.next X1.out hb)
  replace X2 := Lib.hid (HR.next X2.out hb)
  replace X3 := Lib.hid (HR.next X3.out hb)
  clear hb
  go_wp2_with fail
  go_ret
  exact ⟨rfl, NN.out⟩
 subst h3
 have HE := Lib.hid (TL.out rfl rfl rfl)
 go_wp2_with fail
 refine (sameL_of X2.out X3.out HE.out (by rw [HE.out]; have := G3.out.2.1; have := HLN.out; omega)).mono ?_
 rintro e w8 ⟨rfl, hb⟩
 replace NN := Lib.hid (Bgo NN.out hb)
 replace H0 := Lib.hid (HR.next H0.out hb)
 replace X1 := Lib.hid (HR.next X1.out hb)
 replace X2 := Lib.hid (HR.next X2.out hb)
 replace X3 := Lib.hid (HR.next X3.out hb)
 clear hb
 go_wp2_with fail
 refine (chk_of X3.out).mono ?_
 rintro e w9 ⟨rfl, hb⟩
 rw [G3.out.1]
 replace NN := Lib.hid (Bgo NN.out hb)
 replace H0 := Lib.hid (HR.next H0.out hb)
 replace X1 := Lib.hid (HR.next X1.out hb)
 replace X2 := Lib.hid (HR.next X2.out hb)
 replace X3 := Lib.hid (HR.next X3.out hb)
 clear hb
 go_wp2_with fail
 go_ret
 exact ⟨rfl, NN.out⟩
end Go.Proofs.YtbbnkclajpaghaaGreatDoor
namespace Go.Proofs.YtbbnkclajpaghaaGreatDoor
open Go.ChangeShapes Go.WideShapes Go.ChangeAt Go.RowKit
set_option linter.unusedVariables false
set_option linter.unusedSimpArgs false
attribute [local go_sem ↓] Go.wp_at_zero Go.wp_at_succ
theorem cell_obj {W X : World} {b o : Nat} {ob : Obj} {v : Value} (h : W.heap[b]? = some ob) (h' : X.heap[b]? = some ob) (hc : W.cell? ⟨b, o, none⟩ = some v) : X.cell? ⟨b, o, none⟩ = some v := by
 rw [← hc]
 simp only [World.cell?, h, h']
theorem OG.hr {B : Nat} {W : World} {v : Value} {l : List Vr} (h : OV B W v l) : HR W v l := ⟨by obtain ⟨A, c, h1, h2, h3, h4, h5⟩ := h.form; exact ⟨A, c, h1, h2, h3, h4, h5⟩⟩
theorem sel_of {W : World} {v : Value} {l : List Vr} (h : HR W v l) (i j : Int) : Calls Tryz.prog 18 #[v, .int .i64 i, .int .i64 j] W fun e w' => ∃ u, e = .returned (.tuple #[u, .int .i64 (selE l i j)]) ∧ HR w' u (selL l i j) ∧ Below W.heap.size W w' := by
 obtain ⟨A, c, rfl, h2, h3, h4, h5⟩ := h.ex
 exact (select_calls i j h4 h5 h2 h3).mono fun e w' ⟨u, he, ho, hb⟩ => ⟨u, he, OR.hr ho, hb⟩
theorem avg_one {l : List Vr} (h : chkE l = 0) : avgE l 1 1 = 0 ∧ avgL l 1 1 = l.filter fun r => decide (0 < r.n) := by
 have e := avR_one (chkE_good h).1
 have e0 : avgE l 1 1 = 0 := by rw [avgE_ok h (by decide) (by decide), e]
 exact ⟨e0, by rw [avgL_ok e0, e]⟩
theorem avgE_16 {l : List Vr} {a b : Int} (h : chkE l = 0) (ha : 1 ≤ a ∧ a ≤ 64) (hb : 1 ≤ b ∧ b ≤ 16) : avgE l a b = 0 ∨ avgE l a b = 16 := by
 rw [avgE_ok h ha hb]
 exact avR_err ha.1 hb.1 (goodF_row (chkE_good h).1) (chkE_good h).2
theorem sel_ok {l : List Vr} {i j : Int} (h : chkE l = 0) (hi : 0 ≤ i) (hj : i < j) (h7 : j ≤ 7) : selE l i j = 0 ∧ selL l i j = l.filter (selB i j) := by
 have e : selE l i j = 0 := by unfold selE; rw [if_neg (by rw [h]; simp), if_neg (by omega)]
 exact ⟨e, by unfold selL; rw [if_pos e]⟩
theorem avg_wgt {l : List Vr} {a b i j : Int} (h : chkE l = 0) (ha : 1 ≤ a ∧ a ≤ 64) (hb : 1 ≤ b ∧ b ≤ 16) (h0 : avgE l a b = 0) : wgt ((avgL l a b).filter (selB i j)) = wgt (l.filter (selB i j)) := by
 have g := chkE_good h
 rw [avgL_ok h0]
 exact av_wgt ha.1 hb.1 (goodF_row g.1) g.2 (by rw [← avgE_ok h ha hb]; exact h0)
theorem fil_take {l : List Vr} {p : Vr → Bool} {k : Nat} (h : k < l.length) : (l.take (k + 1)).filter p = (l.take k).filter p ++ bif p (rowAt l k) then [rowAt l k] else [] := by
 rw [List.take_succ_eq_append_getElem h, List.filter_append, rowAt_lt h]
 cases hp : p l[k] <;> simp [hp]
theorem fil_row {l : List Vr} {p : Vr → Bool} (h : chkE l = 0) : (∀ r ∈ l.filter p, rowB r = true) ∧ ((l.filter p).Pairwise fun a b => vkey a < vkey b) :=
 ⟨fun r hr => goodF_row (chkE_good h).1 r (List.mem_filter.1 hr).1, (goodF_srt (chkE_good h).1).filter p⟩
theorem pair_key {l : List Vr} (h : l.Pairwise fun a b => vkey a < vkey b) {k : Nat} (hk : k + 1 < l.length) : vkey (rowAt l k) < vkey (rowAt l (k + 1)) := by
 rw [rowAt_lt (show k < l.length by omega), rowAt_lt hk]
 exact List.pairwise_iff_getElem.1 h k (k + 1) (by omega) hk (by omega)
set_option maxRecDepth 100000 in
set_option maxHeartbeats 16000000 in
theorem lweights_calls {A : Option Addr} {cp : Nat} {l : List Vr} {w : World} (hl : RT w A l) (hA : ∀ b off, A = some ⟨b, off, none⟩ → b < w.heap.size) (hcp : l.length ≤ cp) (hcp' : cp ≤ 9223372036854775807) (a b i j : Int) (g : GL w) : Calls Tryz.prog 5 #[.slice A l.length cp, .int .i64 a, .int .i64 b, .int .i64 i, .int .i64 j] w fun e w' => e = .returned (.bool true) ∧ Below w.heap.size w w' := by
 have NN := Lib.hid (Below.refl w.heap.size w)
 have AL := Lib.hid (alive_calls w g)
 have H0 : Hid (HR w (.slice A l.length cp) l) := Lib.hid ⟨⟨A, cp, rfl, hcp, hcp', hl, hA⟩⟩
 clear hl hA g
 go_enter Tryz.func5, Tryz.ntmps5
 go_wp2_with fail
 refine (AL.out).mono ?_
 rintro e w1 ⟨rfl, hb⟩
 replace NN := Lib.hid (Bgo NN.out hb)
 replace H0 := Lib.hid (HR.next H0.out hb)
 clear hb
 clear AL
 go_wp2_with fail
 refine (fit_of H0.out).mono ?_
 rintro e w2 ⟨rfl, hb⟩
 replace NN := Lib.hid (Bgo NN.out hb)
 replace H0 := Lib.hid (HR.next H0.out hb)
 clear hb
 cases hf : fitT l
 ·go_wp2_with fail
  go_ret
  exact ⟨rfl, NN.out⟩
 obtain ⟨hck, h60⟩ := fitT_ok hf
 have HCK := Lib.hid hck
 clear hf hck
 by_cases c0 : a < 1
 ·have d0 : decide (a < 1) = true := decide_eq_true c0
  go_wp2_with fail
  go_ret
  exact ⟨rfl, NN.out⟩
 have d0 : decide (a < 1) = false := decide_eq_false c0
 by_cases c1 : 64 < a
 ·have d1 : decide (64 < a) = true := decide_eq_true c1
  go_wp2_with fail
  go_ret
  exact ⟨rfl, NN.out⟩
 have d1 : decide (64 < a) = false := decide_eq_false c1
 by_cases c2 : b < 1
 ·have d2 : decide (b < 1) = true := decide_eq_true c2
  go_wp2_with fail
  go_ret
  exact ⟨rfl, NN.out⟩
 have d2 : decide (b < 1) = false := decide_eq_false c2
 by_cases c3 : 16 < b
 ·have d3 : decide (16 < b) = true := decide_eq_true c3
  go_wp2_with fail
  go_ret
  exact ⟨rfl, NN.out⟩
 have d3 : decide (16 < b) = false := decide_eq_false c3
 by_cases c4 : i < 0
 ·have d4 : decide (i < 0) = true := decide_eq_true c4
  go_wp2_with fail
  go_ret
  exact ⟨rfl, NN.out⟩
 have d4 : decide (i < 0) = false := decide_eq_false c4
 by_cases c5 : j ≤ i
 ·have d5 : decide (j ≤ i) = true := decide_eq_true c5
  go_wp2_with fail
  go_ret
  exact ⟨rfl, NN.out⟩
 have d5 : decide (j ≤ i) = false := decide_eq_false c5
 by_cases c6 : 7 < j
 ·have d6 : decide (7 < j) = true := decide_eq_true c6
  go_wp2_with fail
  go_ret
  exact ⟨rfl, NN.out⟩
 have d6 : decide (7 < j) = false := decide_eq_false c6
 go_wp2_with fail
 clear d0 d1 d2 d3 d4 d5 d6
 have ha : 1 ≤ a ∧ a ≤ 64 := by omega
 have hb : 1 ≤ b ∧ b ≤ 16 := by omega
 have HLN := Lib.hid h60
 have E1 := Lib.hid (avg_one HCK.out)
 have E16 := Lib.hid (avgE_16 HCK.out ha hb)
 have S1 := Lib.hid (sel_ok HCK.out (show 0 ≤ i by omega) (show i < j by omega) (show j ≤ 7 by omega))
 have G1 := Lib.hid (avgL_good HCK.out ha hb)
 have S2 := Lib.hid (sel_ok G1.out.1 (show 0 ≤ i by omega) (show i < j by omega) (show j ≤ 7 by omega))
 have WG := Lib.hid (fun h => avg_wgt (i := i) (j := j) HCK.out ha hb h)
 have FA := Lib.hid (fil_row (p := selB i j) HCK.out)
 have FB := Lib.hid (fil_row (p := selB i j) G1.out.1)
 have A1 := Lib.hid (fun (W : World) (h : HR W (.slice A l.length cp) l) => avg_of h a b)
 have A2 := Lib.hid (fun (W : World) (h : HR W (.slice A l.length cp) l) => avg_of h 1 1)
 have A3 := Lib.hid (fun (W : World) (h : HR W (.slice A l.length cp) l) => sel_of h i j)
 rw [E1.out.1, E1.out.2] at A2
 rw [S1.out.1, S1.out.2] at A3
 generalize avgL l a b = X at *
 generalize avgE l a b = e1 at *
 have A4 := Lib.hid (fun (W : World) (v : Value) (h : HR W v X) => sel_of h i j)
 rw [S2.out.1, S2.out.2] at A4
 have HSA := Lib.hid (Nat.le_trans (List.length_filter_le (selB i j) l) h60)
 have HSB := Lib.hid (Nat.le_trans (List.length_filter_le (selB i j) X) (Nat.le_trans G1.out.2.1 h60))
 have HNP : Hid (∀ m ∈ X.filter (selB i j), 1 ≤ m.n) := Lib.hid (fun m hm => G1.out.2.2 m (List.mem_filter.1 hm).1)
 clear E1 S1 S2 HCK G1 c0 c1 c2 c3 c4 c5 c6 ha hb h60
 generalize X.filter (selB i j) = LB at *
 generalize l.filter (selB i j) = LA at *
 refine (A1.out _ H0.out).mono ?_
 rintro e w3 ⟨vX1, rfl, hh, hb⟩
 have X1 := Lib.hid hh
 clear hh
 replace NN := Lib.hid (Bgo NN.out hb)
 replace H0 := Lib.hid (HR.next H0.out hb)
 clear hb
 go_wp2_with fail
 refine (A2.out _ H0.out).mono ?_
 rintro e w4 ⟨vX2, rfl, hh, hb⟩
 have X2 := Lib.hid hh
 clear hh
 replace NN := Lib.hid (Bgo NN.out hb)
 replace H0 := Lib.hid (HR.next H0.out hb)
 replace X1 := Lib.hid (HR.next X1.out hb)
 clear hb
 go_wp2_with fail
 refine (A3.out _ H0.out).mono ?_
 rintro e w5 ⟨vX3, rfl, hh, hb⟩
 have X3 := Lib.hid hh
 clear hh
 replace NN := Lib.hid (Bgo NN.out hb)
 replace H0 := Lib.hid (HR.next H0.out hb)
 replace X1 := Lib.hid (HR.next X1.out hb)
 replace X2 := Lib.hid (HR.next X2.out hb)
 clear hb
 go_wp2_with fail
 clear A1 A2 A3
 obtain ⟨A9, cp9, e9, -, -, hlt, -⟩ := H0.out.ex
 injection e9 with e9 _ _
 subst e9
 have HT : Hid (RT w5 A l) := Lib.hid hlt
 clear hlt
 obtain ⟨w0, hw0⟩ : ∃ z, z = w5 := ⟨_, rfl⟩
 subst hw0
 have N0 := Lib.hid (Below.refl w0.heap.size w0)
 go_loopw [18, 19] (fun p q wr => ∃ (k : Nat) (Ao : Option Addr) (co : Nat) (O : List Vr), k ≤ l.length ∧ q = .int .i64 k ∧ p = .slice Ao O.length co ∧ Hid (O = (l.take k).filter fun r => decide (0 < r.n)) ∧ Hid (OV w0.heap.size wr p O) ∧ Hid (Below w0.heap.size w0 wr)) (fun _ q _ => l.length - (intOf q).toNat)
 case atStart => exact ⟨0, none, 0, [], Nat.zero_le _, rfl, rfl, Lib.hid rfl, Lib.hid (OG.nil _ _ _ _ _), N0⟩
 case round =>
  clear N0
  obtain ⟨k, Ao, co, O, hk, rfl, rfl, HO, OO, N0⟩ := hrel
  by_cases hlt : l.length ≤ k
  ·have e : k = l.length := by omega
   subst e
   rw [List.take_length] at HO
   clear hk hlt HT
   replace NN := Lib.hid (Bgo NN.out N0.out)
   replace X1 := Lib.hid (HR.next X1.out N0.out)
   replace X2 := Lib.hid (HR.next X2.out N0.out)
   replace X3 := Lib.hid (HR.next X3.out N0.out)
   have XR := Lib.hid OO.out.hr
   clear H0 N0 OO
   go_wp2_with fail
   refine (sameL_of X2.out XR.out HO.out.symm (by have := List.length_filter_le (fun r : Vr => decide (0 < r.n)) l; have := HLN.out; omega)).mono ?_
   rintro e w6 ⟨rfl, hb⟩
   replace NN := Lib.hid (Bgo NN.out hb)
   replace X1 := Lib.hid (HR.next X1.out hb)
   replace X2 := Lib.hid (HR.next X2.out hb)
   replace X3 := Lib.hid (HR.next X3.out hb)
   replace XR := Lib.hid (HR.next XR.out hb)
   clear hb
   clear X2 XR HO
   by_cases h1 : e1 = 0
   rotate_left
   ·have h16 : e1 = 16 := by rcases E16.out with h | h; exact absurd h h1; exact h
    subst h16
    go_wp2_with fail
    go_ret
    exact ⟨rfl, NN.out⟩
   subst h1
   replace WG := Lib.hid (WG.out rfl)
   clear E16
   go_wp2_with fail
   refine (A4.out _ _ X1.out).mono ?_
   rintro e w7 ⟨vX4, rfl, hh, hb⟩
   have X4 := Lib.hid hh
   clear hh
   replace NN := Lib.hid (Bgo NN.out hb)
   replace X1 := Lib.hid (HR.next X1.out hb)
   replace X3 := Lib.hid (HR.next X3.out hb)
   clear hb
   obtain ⟨Ax3, cp3, e3, hc3, hm3, ht3, -⟩ := X3.out.ex
   subst e3
   obtain ⟨Ax4, cp4, e4, hc4, hm4, ht4, -⟩ := X4.out.ex
   subst e4
   have T3 := Lib.hid ht3
   have T4 := Lib.hid ht4
   clear ht3 ht4 X1 X3 X4 A4
   go_wp2_with fail
   go_loopw [22, 24] (fun p q wr => ∃ k : Nat, k ≤ LA.length ∧ q = .int .i64 k ∧ p = .int .i64 (wgt (LA.take k)) ∧ w7 = wr) (fun _ q _ => LA.length - (intOf q).toNat)
   case atStart => exact ⟨0, Nat.zero_le _, rfl, rfl, rfl⟩
   case round =>
    obtain ⟨k, hk, rfl, rfl, rfl⟩ := hrel
    by_cases hlt : LA.length ≤ k
    ·have e : k = LA.length := by omega
     subst e
     rw [List.take_length]
     clear hk hlt T3
     go_wp2_with fail
     skip
     have N9 := Lib.hid (Below.refl w7.heap.size w7)
     go_loopw [23, 25] (fun p q wr => ∃ k : Nat, k ≤ LB.length ∧ q = .int .i64 k ∧ p = .int .i64 (wgt (LB.take k)) ∧ Hid (Below w7.heap.size w7 wr)) (fun _ q _ => LB.length - (intOf q).toNat)
     case atStart => exact ⟨0, Nat.zero_le _, rfl, rfl, N9⟩
     case round =>
      clear N9
      obtain ⟨k, hk, rfl, rfl, N9⟩ := hrel
      by_cases hlt : LB.length ≤ k
      ·have e : k = LB.length := by omega
       subst e
       rw [List.take_length]
       clear hk hlt T4
       rw [WG.out]
       go_wp2_with fail
       go_ret
       exact ⟨rfl, Bgo NN.out N9.out⟩
      replace hlt : k < LB.length := by omega
      have HG := Lib.hid (wgt_take hlt)
      have hw1 := wgt_bd (l := LB.take k) (fun r hr => row_vis (FB.out.1 r (List.mem_of_mem_take hr)))
      have hw2 := vis_val (row_vis (FB.out.1 _ (List.getElem_mem hlt)))
      have hnp := HNP.out _ (List.getElem_mem hlt)
      have hrv := FB.out.1 _ (List.getElem_mem hlt)
      rw [← rowAt_lt hlt] at hw2 hnp hrv
      rw [List.length_take] at hw1
      obtain ⟨ba, oa, ea, la, a0, a1, a2, a3, a4, a5, a6, a7⟩ := RT.at_ T4.out hlt
      rw [← rowAt_lt hlt] at a0 a1 a2 a3 a4 a5 a6 a7
      by_cases h0 : k = 0
      ·subst h0
       replace a0 := (N9.out.cell (p := ⟨ba, oa + 0 * 8, none⟩) la).trans a0
       replace a1 := (N9.out.cell (p := ⟨ba, oa + 0 * 8 + 1, none⟩) la).trans a1
       replace a2 := (N9.out.cell (p := ⟨ba, oa + 0 * 8 + 2, none⟩) la).trans a2
       replace a3 := (N9.out.cell (p := ⟨ba, oa + 0 * 8 + 3, none⟩) la).trans a3
       replace a4 := (N9.out.cell (p := ⟨ba, oa + 0 * 8 + 4, none⟩) la).trans a4
       replace a5 := (N9.out.cell (p := ⟨ba, oa + 0 * 8 + 5, none⟩) la).trans a5
       replace a6 := (N9.out.cell (p := ⟨ba, oa + 0 * 8 + 6, none⟩) la).trans a6
       replace a7 := (N9.out.cell (p := ⟨ba, oa + 0 * 8 + 7, none⟩) la).trans a7
       have lw := Nat.lt_of_lt_of_le la N9.out.size
       clear la
       generalize rowAt LB 0 = r at *
       generalize wgt (LB.take 0) = N at *
       subst ea
       have hl9 := HSB.out
       have wN : IntKind.i64.wrap (N + r.n) = N + r.n := IntWalk.i64_in _ (by omega)
       have hkc : 0 < cp4 := by omega
       have d1 : decide (r.n < 1) = false := decide_eq_false (by omega)
       clear hw1 hw2 hl9 hnp hrv
       simp only [Nat.zero_mul, Nat.add_zero] at a0 a1 a2 a3 a4 a5 a6 a7
       go_wp2_with fail
       go_quiet (fail)
       go_wp2_with fail
       exact ⟨⟨1, by omega, by go_num, by rw [HG.out], Lib.hid (below_drewN N9.out _)⟩, by simp [intOf]; omega⟩
      obtain ⟨m, rfl⟩ : ∃ m, k = m + 1 := ⟨k - 1, by omega⟩
      have hml : m < LB.length := by omega
      have hkey := pair_key FB.out.2 hlt
      have hsv := FB.out.1 _ (List.getElem_mem hml)
      rw [← rowAt_lt hml] at hsv
      obtain ⟨b', o', e', l', s0, s1, s2, s3, s4, s5, s6, s7⟩ := RT.at_ T4.out hml
      rw [ea] at e'
      injection e' with e'
      injection e' with e1' e2'
      subst e1' e2'
      rw [← rowAt_lt hml] at s0 s1 s2 s3 s4 s5 s6 s7
      subst ea
      replace a0 := (N9.out.cell (p := ⟨ba, oa + (m + 1) * 8, none⟩) la).trans a0
      replace a1 := (N9.out.cell (p := ⟨ba, oa + (m + 1) * 8 + 1, none⟩) la).trans a1
      replace a2 := (N9.out.cell (p := ⟨ba, oa + (m + 1) * 8 + 2, none⟩) la).trans a2
      replace a3 := (N9.out.cell (p := ⟨ba, oa + (m + 1) * 8 + 3, none⟩) la).trans a3
      replace a4 := (N9.out.cell (p := ⟨ba, oa + (m + 1) * 8 + 4, none⟩) la).trans a4
      replace a5 := (N9.out.cell (p := ⟨ba, oa + (m + 1) * 8 + 5, none⟩) la).trans a5
      replace a6 := (N9.out.cell (p := ⟨ba, oa + (m + 1) * 8 + 6, none⟩) la).trans a6
      replace a7 := (N9.out.cell (p := ⟨ba, oa + (m + 1) * 8 + 7, none⟩) la).trans a7
      replace s0 := (N9.out.cell (p := ⟨ba, oa + m * 8, none⟩) la).trans s0
      replace s1 := (N9.out.cell (p := ⟨ba, oa + m * 8 + 1, none⟩) la).trans s1
      replace s2 := (N9.out.cell (p := ⟨ba, oa + m * 8 + 2, none⟩) la).trans s2
      replace s3 := (N9.out.cell (p := ⟨ba, oa + m * 8 + 3, none⟩) la).trans s3
      replace s4 := (N9.out.cell (p := ⟨ba, oa + m * 8 + 4, none⟩) la).trans s4
      replace s5 := (N9.out.cell (p := ⟨ba, oa + m * 8 + 5, none⟩) la).trans s5
      replace s6 := (N9.out.cell (p := ⟨ba, oa + m * 8 + 6, none⟩) la).trans s6
      replace s7 := (N9.out.cell (p := ⟨ba, oa + m * 8 + 7, none⟩) la).trans s7
      have lw := Nat.lt_of_lt_of_le la N9.out.size
      clear la l'
      obtain ⟨OBJ, hobj⟩ : ∃ ob, wr.heap[ba]? = some ob := ⟨_, Array.getElem?_eq_getElem lw⟩
      have BO := Lib.hid hobj
      have BW := Lib.hid hobj
      clear hobj
      have CR := Lib.hid (key_calls _ hrv)
      have CS := Lib.hid (key_calls _ hsv)
      generalize rowAt LB (m + 1) = r at *
      generalize rowAt LB m = s at *
      generalize vkey r = kr at *
      generalize vkey s = ks at *
      generalize wgt (LB.take (m + 1)) = N at *
      have hl9 := HSB.out
      have wN : IntKind.i64.wrap (N + r.n) = N + r.n := IntWalk.i64_in _ (by omega)
      have hkc : m + 1 < cp4 := by omega
      have hmc : m < cp4 := by omega
      have d1 : decide (r.n < 1) = false := decide_eq_false (by omega)
      have d2 : decide (kr ≤ ks) = false := decide_eq_false (by omega)
      have wm : IntKind.i64.wrap (((m + 1 : Nat) : Int) - 1) = (m : Int) := by rw [IntWalk.i64_in _ (by omega)]; omega
      have K := Lib.hid (And.intro hw1 (And.intro hw2 hl9))
      clear hw1 hw2 hl9 hnp hrv hsv hkey h0
      obtain ⟨k, hkk⟩ : ∃ k, k = m + 1 := ⟨_, rfl⟩
      rw [← hkk] at a0 a1 a2 a3 a4 a5 a6 a7 hlt hkc wm HG ⊢
      have HKK := Lib.hid hkk
      have d3 : decide (0 < k) = true := decide_eq_true (by omega)
      clear hkk
      have NN9 := NN
      clear NN
      have NN := N9
      go_upto_region 29 with fail
      have a0 : wr.cell? ⟨ba, oa + k * 8 + 0, none⟩ = some (.int .i64 r.t) := a0
      have s0 : wr.cell? ⟨ba, oa + m * 8 + 0, none⟩ = some (.int .i64 s.t) := s0
      have HDRW := Lib.hid (Below.drew (Below.refl wr.heap.size wr))
      replace BO := Lib.hid (blk_next HDRW.out BO.out)
      replace N9 := Lib.hid (Bgo N9.out HDRW.out)
      replace NN := Lib.hid (Bgo NN.out HDRW.out)
      clear HDRW
      have HAL : Hid (∀ kx9 : Nat, GK [(5, ba, OBJ), (15, ba, OBJ), (20, ba, OBJ)] kx9 wr.drew) := Lib.hid (fun kx9 => fun px9 hp e => by
       simp only [List.mem_cons, List.not_mem_nil, or_false] at hp
       rcases hp with rfl | rfl | rfl
       ·exact BO.out
       ·exact BO.out
       ·exact BO.out
      )
      refine region_G (S := GK [(5, ba, OBJ), (15, ba, OBJ), (20, ba, OBJ)]) (by kernel_rfl) ?_
      refine tG 0 (.slice (some ⟨ba, oa, none⟩) LB.length cp4) (some 155) (GK.grow _) rfl (YieldsIf.toG (Or.inl ⟨by rfl, ?_⟩)) (GK.drop (by simp)) ?_
      ·intro X hX
       clear hX
       go_simp
      try simp only [Act.put, zA, zB, zC]
      refine tG 1 (.int .i64 (k : Int)) (some 156) (GK.grow _) rfl (YieldsIf.toG (Or.inl ⟨by rfl, ?_⟩)) (GK.drop (by simp)) ?_
      ·intro X hX
       clear hX
       go_simp
      try simp only [Act.put, zA, zB, zC]
      refine tG 2 (.pointer (some ⟨ba, oa + k * 8, none⟩)) (some 157) (GK.grow _) rfl (YieldsIf.toG (Or.inl ⟨by rfl, ?_⟩)) (GK.drop (by simp)) ?_
      ·intro X hX
       clear hX
       go_simp
      try simp only [Act.put, zA, zB, zC]
      refine tG 3 (.pointer (some ⟨ba, oa + k * 8 + 2, none⟩)) (some 158) (GK.grow _) rfl (YieldsIf.toG (Or.inl ⟨by rfl, ?_⟩)) (GK.drop (by simp)) ?_
      ·intro X hX
       clear hX
       go_simp
      try simp only [Act.put, zA, zB, zC]
      refine tG 4 (.pointer (some ⟨ba, oa + k * 8 + 7, none⟩)) (some 159) (GK.grow _) rfl (YieldsIf.toG (Or.inl ⟨by rfl, ?_⟩)) (GK.drop (by simp)) ?_
      ·intro X hX
       clear hX
       go_simp
      try simp only [Act.put, zA, zB, zC]
      refine tG 5 (.int .i64 r.n) (some 160) (GK.grow _) rfl (YieldsIf.toG (Or.inl ⟨by rfl, ?_⟩)) (HAL.out 5) ?_
      ·intro X hX
       have hh := hX (5, ba, OBJ) (List.Mem.head _) rfl
       have hh0 := cell_obj BW.out hh a7
       have hhl := blk_lt hh
       clear hh
       clear hX
       go_simp
      try simp only [Act.put, zA, zB, zC]
      refine tG 6 (.bool false) (some 161) (GK.grow _) rfl (YieldsIf.toG (Or.inl ⟨by rfl, ?_⟩)) (GK.drop (by simp)) ?_
      ·intro X hX
       clear hX
       go_simp
      try simp only [Act.put, zA, zB, zC]
      refine tG 7 (.bool false) (some 162) (GK.grow _) rfl (YieldsIf.toG (Or.inl ⟨by rfl, ?_⟩)) (GK.drop (by simp)) ?_
      ·intro X hX
       clear hX
       go_simp
      try simp only [Act.put, zA, zB, zC]
      refine tG 8 (.int .i64 (k : Int)) (some 163) (GK.grow _) rfl (YieldsIf.toG (Or.inl ⟨by rfl, ?_⟩)) (GK.drop (by simp)) ?_
      ·intro X hX
       clear hX
       go_simp
      try simp only [Act.put, zA, zB, zC]
      refine tG 9 (.bool true) (some 164) (GK.grow _) rfl (YieldsIf.toG (Or.inl ⟨by rfl, ?_⟩)) (GK.drop (by simp)) ?_
      ·intro X hX
       clear hX
       go_simp
      try simp only [Act.put, zA, zB, zC]
      refine tG 10 (.bool true) (some 165) (GK.grow _) rfl (YieldsIf.toG (Or.inl ⟨by rfl, ?_⟩)) (GK.drop (by simp)) ?_
      ·intro X hX
       clear hX
       go_simp
      try simp only [Act.put, zA, zB, zC]
      refine tG 11 (.slice (some ⟨ba, oa, none⟩) LB.length cp4) (some 166) (GK.grow _) rfl (YieldsIf.toG (Or.inl ⟨by rfl, ?_⟩)) (GK.drop (by simp)) ?_
      ·intro X hX
       clear hX
       go_simp
      try simp only [Act.put, zA, zB, zC]
      refine tG 12 (.int .i64 (k : Int)) (some 167) (GK.grow _) rfl (YieldsIf.toG (Or.inl ⟨by rfl, ?_⟩)) (GK.drop (by simp)) ?_
      ·intro X hX
       clear hX
       go_simp
      try simp only [Act.put, zA, zB, zC]
      refine tG 13 (.int .i64 (m : Int)) (some 168) (GK.grow _) rfl (YieldsIf.toG (Or.inl ⟨by rfl, ?_⟩)) (GK.drop (by simp)) ?_
      ·intro X hX
       clear hX
       go_simp
      try simp only [Act.put, zA, zB, zC]
      refine tG 14 (.pointer (some ⟨ba, oa + m * 8, none⟩)) (some 169) (GK.grow _) rfl (YieldsIf.toG (Or.inl ⟨by rfl, ?_⟩)) (GK.drop (by simp)) ?_
      ·intro X hX
       clear hX
       go_simp
      try simp only [Act.put, zA, zB, zC]
      refine tG 15 (.agg #[.int .i64 s.t, .int .i64 s.c, .int .i64 s.i, .int .i64 s.j, .int .i64 s.re, .int .i64 s.im, .int .i64 s.dn, .int .i64 s.n]) (some 170) (GK.grow _) rfl (YieldsIf.toG (Or.inl ⟨by rfl, ?_⟩)) (HAL.out 15) ?_
      ·intro X hX
       have hh := hX (15, ba, OBJ) (List.Mem.tail _ (List.Mem.head _)) rfl
       have hh0 := cell_obj BW.out hh s0
       simp only [Nat.add_zero] at hh0
       have hh1 := cell_obj BW.out hh s1
       have hh2 := cell_obj BW.out hh s2
       have hh3 := cell_obj BW.out hh s3
       have hh4 := cell_obj BW.out hh s4
       have hh5 := cell_obj BW.out hh s5
       have hh6 := cell_obj BW.out hh s6
       have hh7 := cell_obj BW.out hh s7
       have hhl := blk_lt hh
       clear hh
       clear hX
       go_simp
      try simp only [Act.put, zA, zB, zC]
      have CFn : ∀ (args : Array Value) (W : World), Sem.run Tryz.prog (callFunc 19 args) W = .ok (.enter 19 args) W := fun _ _ => by kernel_rfl
      refine tG 16 (.int .i64 ks) (some 171) (GK.grow _) rfl (yieldsG_call 19 #[.agg #[.int .i64 s.t, .int .i64 s.c, .int .i64 s.i, .int .i64 s.j, .int .i64 s.re, .int .i64 s.im, .int .i64 s.dn, .int .i64 s.n]] (by rfl) ?_ (fun X hS => CS.out X)) (GK.drop (by simp)) ?_
      ·intro X hX
       clear hX
       go_simp
      clear CFn
      try simp only [Act.put, zA, zB, zC]
      refine tG 17 (.slice (some ⟨ba, oa, none⟩) LB.length cp4) (some 172) (GK.grow _) rfl (YieldsIf.toG (Or.inl ⟨by rfl, ?_⟩)) (GK.drop (by simp)) ?_
      ·intro X hX
       clear hX
       go_simp
      try simp only [Act.put, zA, zB, zC]
      refine tG 18 (.int .i64 (k : Int)) (some 173) (GK.grow _) rfl (YieldsIf.toG (Or.inl ⟨by rfl, ?_⟩)) (GK.drop (by simp)) ?_
      ·intro X hX
       clear hX
       go_simp
      try simp only [Act.put, zA, zB, zC]
      refine tG 19 (.pointer (some ⟨ba, oa + k * 8, none⟩)) (some 174) (GK.grow _) rfl (YieldsIf.toG (Or.inl ⟨by rfl, ?_⟩)) (GK.drop (by simp)) ?_
      ·intro X hX
       clear hX
       go_simp
      try simp only [Act.put, zA, zB, zC]
      refine tG 20 (.agg #[.int .i64 r.t, .int .i64 r.c, .int .i64 r.i, .int .i64 r.j, .int .i64 r.re, .int .i64 r.im, .int .i64 r.dn, .int .i64 r.n]) (some 175) (GK.grow _) rfl (YieldsIf.toG (Or.inl ⟨by rfl, ?_⟩)) (HAL.out 20) ?_
      ·intro X hX
       have hh := hX (20, ba, OBJ) (List.Mem.tail _ (List.Mem.tail _ (List.Mem.head _))) rfl
       have hh0 := cell_obj BW.out hh a0
       simp only [Nat.add_zero] at hh0
       have hh1 := cell_obj BW.out hh a1
       have hh2 := cell_obj BW.out hh a2
       have hh3 := cell_obj BW.out hh a3
       have hh4 := cell_obj BW.out hh a4
       have hh5 := cell_obj BW.out hh a5
       have hh6 := cell_obj BW.out hh a6
       have hh7 := cell_obj BW.out hh a7
       have hhl := blk_lt hh
       clear hh
       clear hX
       go_simp
      try simp only [Act.put, zA, zB, zC]
      have CFn : ∀ (args : Array Value) (W : World), Sem.run Tryz.prog (callFunc 19 args) W = .ok (.enter 19 args) W := fun _ _ => by kernel_rfl
      refine tG 21 (.int .i64 kr) (some 176) (GK.grow _) rfl (yieldsG_call 19 #[.agg #[.int .i64 r.t, .int .i64 r.c, .int .i64 r.i, .int .i64 r.j, .int .i64 r.re, .int .i64 r.im, .int .i64 r.dn, .int .i64 r.n]] (by rfl) ?_ (fun X hS => CR.out X)) (GK.drop (by simp)) ?_
      ·intro X hX
       clear hX
       go_simp
      clear CFn
      try simp only [Act.put, zA, zB, zC]
      refine tG 22 (.bool false) (some 177) (GK.grow _) rfl (YieldsIf.toG (Or.inl ⟨by rfl, ?_⟩)) (GK.drop (by simp)) ?_
      ·intro X hX
       clear hX
       go_simp
      try simp only [Act.put, zA, zB, zC]
      refine tG 23 (.bool false) (some 178) (GK.grow _) rfl (YieldsIf.toG (Or.inl ⟨by rfl, ?_⟩)) (GK.drop (by simp)) ?_
      ·intro X hX
       clear hX
       go_simp
      try simp only [Act.put, zA, zB, zC]
      refine tG 24 (.bool false) (some 179) (GK.grow _) rfl (YieldsIf.toG (Or.inl ⟨by rfl, ?_⟩)) (GK.drop (by simp)) ?_
      ·intro X hX
       clear hX
       go_simp
      try simp only [Act.put, zA, zB, zC]
      clear HAL
      refine done_G (by kernel_rfl) (fun X8 hX => ?_) _
      replace BO := Lib.hid (blk_next hX BO.out)
      replace N9 := Lib.hid (Bgo N9.out hX)
      replace NN := Lib.hid (Bgo NN.out hX)
      clear hX
      clear BW CR CS wm s0 s1 s2 s3 s4 s5 s6 s7 a0 a1 a2 a3 a4 a5 a6 a7
      go_wp2_with fail
      exact ⟨⟨k + 1, by omega, by go_num, by rw [HG.out], N9⟩, by simp [intOf]; omega⟩
    replace hlt : k < LA.length := by omega
    have HG := Lib.hid (wgt_take hlt)
    have hw1 := wgt_bd (l := LA.take k) (fun r hr => row_vis (FA.out.1 r (List.mem_of_mem_take hr)))
    have hw2 := vis_val (row_vis (FA.out.1 _ (List.getElem_mem hlt)))
    rw [← rowAt_lt hlt] at hw2
    rw [List.length_take] at hw1
    obtain ⟨ba, oa, ea, la, a0, a1, a2, a3, a4, a5, a6, a7⟩ := RT.at_ T3.out hlt
    rw [← rowAt_lt hlt] at a0 a1 a2 a3 a4 a5 a6 a7
    generalize rowAt LA k = r at *
    generalize wgt (LA.take k) = N at *
    subst ea
    have hl9 := HSA.out
    have wN : IntKind.i64.wrap (N + r.n) = N + r.n := IntWalk.i64_in _ (by omega)
    have hkc : k < cp3 := by omega
    clear hw1 hw2 hl9
    go_wp2_with fail
    exact ⟨⟨k + 1, by omega, by go_num, by rw [HG.out], trivial⟩, by simp [intOf]; omega⟩
  replace hlt : k < l.length := by omega
  have HF := Lib.hid (fil_take (p := fun r : Vr => decide (0 < r.n)) hlt)
  obtain ⟨ba, oa, ea, la, a0, a1, a2, a3, a4, a5, a6, a7⟩ := RT.at_ HT.out hlt
  rw [← rowAt_lt hlt] at a0 a1 a2 a3 a4 a5 a6 a7
  generalize rowAt l k = r at *
  subst ea
  replace a0 := (N0.out.cell (p := ⟨ba, oa + k * 8, none⟩) la).trans a0
  replace a1 := (N0.out.cell (p := ⟨ba, oa + k * 8 + 1, none⟩) la).trans a1
  replace a2 := (N0.out.cell (p := ⟨ba, oa + k * 8 + 2, none⟩) la).trans a2
  replace a3 := (N0.out.cell (p := ⟨ba, oa + k * 8 + 3, none⟩) la).trans a3
  replace a4 := (N0.out.cell (p := ⟨ba, oa + k * 8 + 4, none⟩) la).trans a4
  replace a5 := (N0.out.cell (p := ⟨ba, oa + k * 8 + 5, none⟩) la).trans a5
  replace a6 := (N0.out.cell (p := ⟨ba, oa + k * 8 + 6, none⟩) la).trans a6
  replace a7 := (N0.out.cell (p := ⟨ba, oa + k * 8 + 7, none⟩) la).trans a7
  have lw := Nat.lt_of_lt_of_le la N0.out.size
  have hkc : k < cp := by omega
  by_cases hn : 0 < r.n
  ·have d9 : decide (0 < r.n) = true := decide_eq_true hn
   simp only [d9, cond_true] at HF
   have HOL : Hid (O.length ≤ k) := Lib.hid (by rw [HO.out]; exact Nat.le_trans (List.length_filter_le _ _) (by rw [List.length_take]; omega))
   have hb9 : O.length + 1 ≤ 100000 := by have := HOL.out; have := HLN.out; omega
   have WS := Lib.hid N0.out.size
   have BE := Lib.hid (Bal (Below.refl wr.heap.size wr) (.cells #[.int .i64 r.t, .int .i64 r.c, .int .i64 r.i, .int .i64 r.j, .int .i64 r.re, .int .i64 r.im, .int .i64 r.dn, .int .i64 r.n] 44))
   go_wp2_with (at_builtin; refine wpList_gapp tyV rfl _ _ rfl w0.heap.size _ O rfl (some ⟨wr.heap.size, 0, none⟩) 1 1 [r] rfl (OO.out.next BE.out) rfl (RT.one (blk_new wr _)) hb9 ?_ ?_; (rw [World.size_alloc]; have := WS.out; omega); intro v1 w8 o1 q1 t1; have OO1 := Lib.hid o1; have QQ := Lib.hid q1; clear o1 q1 t1)
   obtain ⟨A1, c1, hv1, -, -, -, -⟩ := OO1.out.form
   rw [show (O ++ [r]).length = O.length + 1 by simp] at hv1
   subst hv1
   refine ⟨⟨k + 1, by omega, by omega, A1, c1, O ++ [r], by simp, Lib.hid (by rw [HF.out, HO.out]), OO1, Lib.hid ((Bgo N0.out BE.out).trans QQ.out)⟩, by simp [intOf]; omega⟩
  ·have d9 : decide (0 < r.n) = false := decide_eq_false hn
   simp only [d9, cond_false, List.append_nil] at HF
   go_wp2_with fail
   exact ⟨⟨k + 1, Ao, co, O, by omega, by go_num, rfl, Lib.hid (by rw [HF.out, HO.out]), OO, N0⟩, by simp [intOf]; omega⟩
end Go.Proofs.YtbbnkclajpaghaaGreatDoor
