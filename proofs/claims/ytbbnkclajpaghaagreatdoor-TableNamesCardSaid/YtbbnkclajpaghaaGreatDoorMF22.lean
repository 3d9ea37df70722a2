/- Several texts in one. -/
import Derived.Test.YtbbnkclajpaghaaGreatDoorMF06
import Derived.Test.YtbbnkclajpaghaaGreatDoorMF11
import Derived.Test.YtbbnkclajpaghaaGreatDoorMF21
set_option maxHeartbeats 8000000
set_option maxRecDepth 100000
set_option linter.unusedVariables false
set_option linter.unusedSimpArgs false
namespace Go.Proofs.YtbbnkclajpaghaaGreatDoor
section
open Go.ChangeShapes Go.WideShapes Go.ChangeAt Go.RowKit
attribute [local go_sem ↓] Go.wp_at_zero Go.wp_at_succ
theorem ib_run (w : World) : (callFunc 124 #[.string ⟨#[120, 10, 46, 10]⟩, .int .u8 10]).run Tryz.prog w = .ok (.value (.int .i64 1)) w := by kernel_rfl
def bf (b : Bool) : List Value := [.bool b]
theorem tyB : Ty 4 50 1 bf := ⟨⟨.bool false, 1, by kernel_rfl, rfl, by decide⟩, by kernel_rfl, by decide, fun _ => rfl, fun l u hu => by
 obtain ⟨s, _, hs⟩ := List.mem_flatMap.1 hu
 simp [bf] at hs
 rw [hs]; rfl⟩
abbrev OB (B : Nat) (w : World) (v : Value) (l : List Bool) : Prop := OG 4 1 bf B w v l
theorem bf_map (l : List Bool) : l.flatMap bf = l.map Value.bool := by
 induction l with
 | nil => rfl
 | cons b l ih => rw [List.flatMap_cons, ih]; rfl
theorem OB.rb {B : Nat} {w : World} {A : Option Addr} {n c : Nat} {l : List Bool} (h : OB B w (.slice A n c) l) : n = l.length ∧ l.length ≤ c ∧ c ≤ 9223372036854775807 ∧ RB w A l := by
 obtain ⟨A', c', e, h1, h2, h3, -⟩ := h.form
 injection e with e1 e2 e3
 subst e1 e2 e3
 rw [bf_map] at h3
 exact ⟨rfl, h1, h2, h3⟩
theorem Rd.bool {W : World} {b : Nat} {x : Bool} {T : TypeId} (h : W.heap[b]? = some (.cells #[.bool x] T)) : Rd W 1 (some ⟨b, 0, none⟩) [x].length ([x].flatMap bf) := by
 refine ⟨rfl, fun _ => ⟨b, 0, rfl, blk_lt h, fun j u hu => ?_⟩⟩
 refine blk_cell h (0 + j) u ?_
 simpa [bf] using hu
def bl (k : Nat) : List Bool := if k = 0 then [] else if k ≤ 2 then [true] else [true, false]
theorem slib_calls (w : World) : Calls Tryz.prog 98 #[.string ⟨#[120, 10, 46, 10]⟩, .int .u8 10] w fun e w' => e = .returned (.int .i64 1) ∧ Below w.heap.size w w' := by
 have hi := ib_run
 go_enter Tryz.func98, Tryz.ntmps98
 go_wp2_with fail
 go_ret
 exact ⟨rfl, Below.refl _ _⟩
theorem sib_calls (w : World) : Calls Tryz.prog 71 #[.string ⟨#[120, 10, 46, 10]⟩, .int .u8 10] w fun e w' => e = .returned (.int .i64 1) ∧ Below w.heap.size w w' := by
 skip
 go_enter Tryz.func71, Tryz.ntmps71
 go_wp2_with fail
 refine (slib_calls _).mono ?_
 rintro e w1 ⟨rfl, hb⟩
 go_wp2_with fail
 go_ret
 exact ⟨rfl, hb⟩
theorem fparse_calls (w : World) : Calls Tryz.prog 40 #[.string ⟨#[120, 10, 46, 10]⟩] w fun e w' => ∃ A c, e = .returned (.tuple #[Mv 2 1 A 2 c, .int .i64 0]) ∧ 2 ≤ c ∧ c ≤ 9223372036854775807 ∧ RB w' A [true, false] ∧ Below w.heap.size w w' := by
 have NN := zh (Below.refl w.heap.size w)
 go_enter Tryz.func40, Tryz.ntmps40
 go_wp2_with fail
 have Z : Hid ((w.alloc (.cells #[.int .i64 0, .int .i64 0, .slice none 0 0] 52)).heap[w.heap.size]? = some (.cells #[.int .i64 0, .int .i64 0, .slice none 0 0] 52)) := zh (blk_new w _)
 replace NN : Hid (Below w.heap.size w (w.alloc (.cells #[.int .i64 0, .int .i64 0, .slice none 0 0] 52))) := zh (Bal NN.out _)
 generalize (w.alloc (.cells #[.int .i64 0, .int .i64 0, .slice none 0 0] 52)) = W1 at *
 refine (sib_calls _).mono ?_
 rintro e w2 ⟨rfl, hb⟩
 replace NN := zh (Bgo NN.out hb)
 replace Z := zn hb Z
 clear hb
 go_upto_region 5 with fail
 obtain ⟨HB, V⟩ := zl (w := w2) (.cells #[.int .i64 2, .int .i64 1, .slice none 0 0] 52)
 have LT_V : Hid (w.heap.size < w2.heap.size ∧ w.heap.size ≤ w2.heap.size) := zh ⟨blk_lt Z.out, NN.out.size⟩
 replace NN := zh (Bgo NN.out HB.out)
 replace Z := zn HB Z
 clear HB
 generalize (w2.alloc (.cells #[.int .i64 2, .int .i64 1, .slice none 0 0] 52)) = W3 at *
 generalize w2.heap.size = gV at *
 go_wp2_with fail
 have LG : Hid (w.heap.size < gV) := zh (by have := LT_V.out; omega)
 clear LT_V
 go_loopw [43] (fun p wr => ∃ (k : Nat) (A : Option Addr) (c : Nat), k ≤ 4 ∧ p = .int .i64 k ∧ Hid (Below w.heap.size w wr) ∧ Hid (wr.heap[w.heap.size]? = some (.cells #[.int .i64 0, .int .i64 0, .slice none 0 0] 52)) ∧ Hid (wr.heap[gV]? = some (.cells #[.int .i64 2, .int .i64 1, .slice A (bl k).length c] 52)) ∧ Hid (OB w.heap.size wr (.slice A (bl k).length c) (bl k))) (fun p _ => 4 - (intOf p).toNat)
 case atStart => exact ⟨0, none, 0, by decide, rfl, NN, Z, V, zh (OG.nil _ _ _ _ _)⟩
 case round =>
  clear NN Z V
  obtain ⟨k, A, c, hk, rfl, NN, Z, V, OO⟩ := hrel
  rcases (show k = 0 ∨ k = 1 ∨ k = 2 ∨ k = 3 ∨ k = 4 by omega) with rfl | rfl | rfl | rfl | rfl
  ·have s0 : ((((⟨#[120, 10, 46, 10]⟩ : ByteArray)[0]).toNat : Nat) : Int) = 120 := rfl
   replace V : Hid (wr.heap[gV]? = some (.cells #[.int .i64 2, .int .i64 1, .slice A 0 c] 52)) := V
   replace OO : Hid (OB w.heap.size wr (.slice A 0 c) (bl 0)) := OO
   have BE := zh (Bal (Below.refl wr.heap.size wr) (.cells #[.bool true] 4))
   have WS := zh NN.out.size
   have NE9 : 52 ≠ 4 := by decide
   have hb9 : (bl 0).length + 1 ≤ 100000 := by decide
   obtain ⟨c_V_0, f_V_0, c_V_1, f_V_1, c_V_2, f_V_2, l_V⟩ := zfl3 V
   go_wp2_with (at_builtin; refine wpList_gapp tyB rfl _ _ rfl w.heap.size _ (bl 0) rfl (some ⟨wr.heap.size, 0, none⟩) 1 1 [true] rfl (OO.out.next BE.out) rfl (Rd.bool (blk_new wr _)) hb9 ?_ ?_; (rw [World.size_alloc]; have := WS.out; omega); intro v1 w8 o1 q1 t1; obtain ⟨A1, c1, hv1, -, -, -, -⟩ := OG.form o1; subst hv1; have OO1 := zh o1; have TT := zh t1; have QQ := zh q1; have Vn := zh (t1.blk (blk_next BE.out V.out) NE9); have c9a := blk_cell Vn.out 2 _ rfl; have f9a := blk_frozen Vn.out 2; have l9a := blk_lt Vn.out; clear o1 q1 t1)
   clear c_V_0 f_V_0 c_V_1 f_V_1 c_V_2 f_V_2 l_V
   replace OO1 : Hid (OB w.heap.size w8 (.slice A1 (bl 1).length c1) (bl 1)) := OO1
   have TS := zh (Oth.set Vn.out 2 (.slice A1 (bl 1).length c1))
   exact ⟨⟨1, A1, c1, by decide, by go_num, zh (Bset1 ((Bgo NN.out BE.out).trans QQ.out) (show w.heap.size ≤ gV by have := LG.out; omega) 2 _), zh (blk_set_other (b' := gV) (TT.out.blk (blk_next BE.out Z.out) NE9) (by have := LG.out; omega) 2 _), zh (blk_set Vn.out 2 _), zh (OO1.out.oth TS.out (by decide))⟩, by simp [intOf]⟩
  ·have s1 : ((((⟨#[120, 10, 46, 10]⟩ : ByteArray)[1]).toNat : Nat) : Int) = 10 := rfl
   go_wp2_with fail
   exact ⟨⟨2, A, c, by decide, by go_num, NN, Z, V, OO⟩, by simp [intOf]⟩
  ·have s2 : ((((⟨#[120, 10, 46, 10]⟩ : ByteArray)[2]).toNat : Nat) : Int) = 46 := rfl
   replace V : Hid (wr.heap[gV]? = some (.cells #[.int .i64 2, .int .i64 1, .slice A 1 c] 52)) := V
   replace OO : Hid (OB w.heap.size wr (.slice A 1 c) (bl 2)) := OO
   have BE := zh (Bal (Below.refl wr.heap.size wr) (.cells #[.bool false] 4))
   have WS := zh NN.out.size
   have NE9 : 52 ≠ 4 := by decide
   have hb9 : (bl 2).length + 1 ≤ 100000 := by decide
   obtain ⟨c_V_0, f_V_0, c_V_1, f_V_1, c_V_2, f_V_2, l_V⟩ := zfl3 V
   go_wp2_with (at_builtin; refine wpList_gapp tyB rfl _ _ rfl w.heap.size _ (bl 2) rfl (some ⟨wr.heap.size, 0, none⟩) 1 1 [false] rfl (OO.out.next BE.out) rfl (Rd.bool (blk_new wr _)) hb9 ?_ ?_; (rw [World.size_alloc]; have := WS.out; omega); intro v1 w8 o1 q1 t1; obtain ⟨A1, c1, hv1, -, -, -, -⟩ := OG.form o1; subst hv1; have OO1 := zh o1; have TT := zh t1; have QQ := zh q1; have Vn := zh (t1.blk (blk_next BE.out V.out) NE9); have c9a := blk_cell Vn.out 2 _ rfl; have f9a := blk_frozen Vn.out 2; have l9a := blk_lt Vn.out; clear o1 q1 t1)
   clear c_V_0 f_V_0 c_V_1 f_V_1 c_V_2 f_V_2 l_V
   replace OO1 : Hid (OB w.heap.size w8 (.slice A1 (bl 3).length c1) (bl 3)) := OO1
   have TS := zh (Oth.set Vn.out 2 (.slice A1 (bl 3).length c1))
   exact ⟨⟨3, A1, c1, by decide, by go_num, zh (Bset1 ((Bgo NN.out BE.out).trans QQ.out) (show w.heap.size ≤ gV by have := LG.out; omega) 2 _), zh (blk_set_other (b' := gV) (TT.out.blk (blk_next BE.out Z.out) NE9) (by have := LG.out; omega) 2 _), zh (blk_set Vn.out 2 _), zh (OO1.out.oth TS.out (by decide))⟩, by simp [intOf]⟩
  ·have s3 : ((((⟨#[120, 10, 46, 10]⟩ : ByteArray)[3]).toNat : Nat) : Int) = 10 := rfl
   go_wp2_with fail
   exact ⟨⟨4, A, c, by decide, by go_num, NN, Z, V, OO⟩, by simp [intOf]⟩
  ·replace V : Hid (wr.heap[gV]? = some (.cells #[.int .i64 2, .int .i64 1, .slice A 2 c] 52)) := V
   replace OO : Hid (OB w.heap.size wr (.slice A 2 c) [true, false]) := OO
   obtain ⟨c_V_0, f_V_0, c_V_1, f_V_1, c_V_2, f_V_2, l_V⟩ := zfl3 V
   obtain ⟨c_Z_0, f_Z_0, c_Z_1, f_Z_1, c_Z_2, f_Z_2, l_Z⟩ := zfl3 Z
   go_wp2_with fail
   clear c_V_0 f_V_0 c_V_1 f_V_1 c_V_2 f_V_2 l_V c_Z_0 f_Z_0 c_Z_1 f_Z_1 c_Z_2 f_Z_2 l_Z
   have OOn : Hid (OB w.heap.size (((wr.setCell ⟨w.heap.size, 0, none⟩ (.int .i64 2)).setCell ⟨w.heap.size, 1, none⟩ (.int .i64 1)).setCell ⟨w.heap.size, 2, none⟩ (.slice A 2 c)) (.slice A 2 c) [true, false]) := zh (OO.out.oth ((Oth.set Z.out 0 _).trans ((Oth.set (blk_set Z.out 0 _) 1 _).trans (Oth.set (blk_set (blk_set Z.out 0 _) 1 _) 2 _))) (by decide))
   generalize hW : (((wr.setCell ⟨w.heap.size, 0, none⟩ (.int .i64 2)).setCell ⟨w.heap.size, 1, none⟩ (.int .i64 1)).setCell ⟨w.heap.size, 2, none⟩ (.slice A 2 c)) = W4 at *
   replace Z : Hid (W4.heap[w.heap.size]? = some (.cells #[.int .i64 2, .int .i64 1, .slice A 2 c] 52)) := zs hW (blk_set (blk_set (blk_set (Z.out) 0 (.int .i64 2)) 1 (.int .i64 1)) 2 (.slice A 2 c))
   replace V : Hid (W4.heap[gV]? = some (.cells #[.int .i64 2, .int .i64 1, .slice A 2 c] 52)) := zs hW (blk_set_other (blk_set_other (blk_set_other (V.out) (by have := LG.out; omega) 0 (.int .i64 2)) (by have := LG.out; omega) 1 (.int .i64 1)) (by have := LG.out; omega) 2 (.slice A 2 c))
   replace NN := zt hW (p := Below _ _) (Bset1 (Bset1 (Bset1 (NN.out) (by omega) 0 (.int .i64 2)) (by omega) 1 (.int .i64 1)) (by omega) 2 (.slice A 2 c))
   clear hW
   obtain ⟨c_Z_0, c_Z_1, c_Z_2, l_Z⟩ := zcl3 Z
   exact bodyPost_ret (v := .tuple #[.agg #[.int .i64 2, .int .i64 1, .slice A 2 c], .int .i64 0]) (by simp [results, Tryz.results40, go_sem, c_Z_0, c_Z_1, c_Z_2]) rfl ⟨A, c, rfl, OOn.out.rb.2.1, OOn.out.rb.2.2.1, OOn.out.rb.2.2.2, NN.out⟩
end
section
open Go.ChangeShapes Go.WideShapes Go.ChangeAt Go.RowKit
attribute [local go_sem ↓] Go.wp_at_zero Go.wp_at_succ
def avgX (l : List Vr) (a b : Int) : Int × List Vr := avF (grps (isort (l.map (avT a b))))
theorem avg_closed {l o : List Vr} {a b : Int} (h : chkE l = 0) (ha : 1 ≤ a ∧ a ≤ 64) (hb : 1 ≤ b ∧ b ≤ 16) (hx : avgX l a b = (0, o)) : avgE l a b = 0 ∧ avgL l a b = o := by
 have e : avR a b l = (0, o) := by rw [avR_isort ha.1 hb.1 (goodF_row (chkE_good h).1)]; exact hx
 have e0 : avgE l a b = 0 := by unfold avgE; rw [if_neg (by rw [h]; simp), if_neg (by omega), e]
 exact ⟨e0, by unfold avgL; rw [if_pos e0, e]⟩
theorem avg_of {W : World} {v : Value} {l : List Vr} (h : HR W v l) (a b : Int) : Calls Tryz.prog 16 #[v, .int .i64 a, .int .i64 b] W fun e w' => ∃ u, e = .returned (.tuple #[u, .int .i64 (avgE l a b)]) ∧ HR w' u (avgL l a b) ∧ Below W.heap.size W w' := by
 obtain ⟨A, c, rfl, h2, h3, h4, h5⟩ := h.ex
 exact (average_calls a b h4 h5 h2 h3).mono fun e w' ⟨u, he, ho, hb⟩ => ⟨u, he, OR.hr ho, hb⟩
theorem drop_of {W : World} {v : Value} {l : List Vr} (h : HR W v l) {Am : Option Addr} {cm : Nat} {bits : List Bool} (t c : Int) (hb : RB W Am bits) (hbl : bits.length ≤ 1000000) (hbc : bits.length ≤ cm) : Calls Tryz.prog 22 #[v, Mv t c Am bits.length cm] W fun e w' => ∃ u, e = .returned (.tuple #[u, .int .i64 (drpE l t c bits)]) ∧ HR w' u (drpL l t c bits) ∧ Below W.heap.size W w' := by
 obtain ⟨A, c, rfl, h2, h3, h4, h5⟩ := h.ex
 exact (drop_calls t _ h4 h5 h2 h3 hb hbl hbc).mono fun e w' ⟨u, he, ho, hb⟩ => ⟨u, he, OR.hr ho, hb⟩
theorem parse_of (s : List UInt8) (hs : s.length ≤ 100000) (w : World) (g : GL w) : Calls Tryz.prog 11 #[Str s] w fun e w' => ∃ v, e = .returned (.tuple #[v, .int .i64 (paE s)]) ∧ HR w' v (paL s) ∧ Below w.heap.size w w' :=
 (tparse_calls s hs w g).mono fun e w' ⟨u, he, hb, ho⟩ => ⟨u, he, OR.hr ho, hb⟩
theorem lc_next {W X : World} {b o : Nat} {v : Value} (h : b < W.heap.size ∧ W.cell? ⟨b, o, none⟩ = some v) (hb : Below W.heap.size W X) : b < X.heap.size ∧ X.cell? ⟨b, o, none⟩ = some v :=
 ⟨Nat.lt_of_lt_of_le h.1 hb.size, (hb.cell (p := ⟨b, o, none⟩) h.1).trans h.2⟩
def exT : List Vr := [⟨0, 0, 0, 1, 1, 0, 2, 1⟩, ⟨1, 0, 0, 1, 1, 1, 1, 3⟩]
def exA : List Vr := [⟨0, 0, 0, 1, 7, 6, 8, 4⟩]
def exD : List Vr := [⟨0, 0, 0, 1, 1, 0, 2, 0⟩, ⟨1, 0, 0, 1, 1, 1, 1, 3⟩]
def exB : List Vr := [⟨0, 0, 0, 1, 1, 1, 1, 3⟩]
theorem ex_parse : paE [48, 32, 48, 32, 48, 32, 49, 32, 49, 47, 50, 32, 48, 32, 49, 10, 49, 32, 48, 32, 48, 32, 49, 32, 49, 32, 49, 32, 51, 10] = 0 ∧ paL [48, 32, 48, 32, 48, 32, 49, 32, 49, 47, 50, 32, 48, 32, 49, 10, 49, 32, 48, 32, 48, 32, 49, 32, 49, 32, 49, 32, 51, 10] = exT := ⟨by kernel_rfl, by kernel_rfl⟩
theorem ex_avg : avgE exT 2 1 = 0 ∧ avgL exT 2 1 = exA := avg_closed (by kernel_rfl) (by decide) (by decide) (by kernel_rfl)
theorem ex_text : txE exA = 0 ∧ txO exA = [48, 32, 48, 32, 48, 32, 49, 32, 55, 47, 56, 32, 51, 47, 52, 32, 52, 10] := ⟨by kernel_rfl, by kernel_rfl⟩
theorem ex_drop : drpE exT 2 1 [true, false] = 0 ∧ drpL exT 2 1 [true, false] = exD := ⟨by kernel_rfl, by kernel_rfl⟩
theorem ex_avg2 : avgE exD 2 1 = 0 ∧ avgL exD 2 1 = exB := avg_closed (by kernel_rfl) (by decide) (by decide) (by kernel_rfl)
theorem ex_text2 : txE exB = 0 ∧ txO exB = [48, 32, 48, 32, 48, 32, 49, 32, 49, 32, 49, 32, 51, 10] := ⟨by kernel_rfl, by kernel_rfl⟩
theorem alive_calls (w : World) (g : GL w) : Calls Tryz.prog 14 #[] w fun e w' => e = .returned (.bool true) ∧ Below w.heap.size w w' := by
 have NN := zh (Below.refl w.heap.size w)
 have GG := zh (fun W (h : Below w.heap.size w W) => g.next h)
 clear g
 go_enter Tryz.func14, Tryz.ntmps14
 go_wp2_with fail
 refine (parse_of [48, 32, 48, 32, 48, 32, 49, 32, 49, 47, 50, 32, 48, 32, 49, 10, 49, 32, 48, 32, 48, 32, 49, 32, 49, 32, 49, 32, 51, 10] (by decide) _ (GG.out _ NN.out)).mono ?_
 rintro e w1 ⟨vXT, rfl, hh, hb⟩
 rw [ex_parse.1]
 rw [ex_parse.2] at hh
 have XT := zh hh
 clear hh
 replace NN := zh (Bgo NN.out hb)
 clear hb
 go_wp2_with fail
 refine (avg_of XT.out 2 1).mono ?_
 rintro e w2 ⟨vXA, rfl, hh, hb⟩
 rw [ex_avg.1]
 rw [ex_avg.2] at hh
 have XA := zh hh
 clear hh
 replace NN := zh (Bgo NN.out hb)
 replace XT := zh (HR.next XT.out hb)
 clear hb
 go_wp2_with fail
 refine (text_of XA.out (GG.out _ NN.out)).mono ?_
 rintro e w3 ⟨rfl, hb⟩
 rw [ex_text.1, ex_text.2]
 replace NN := zh (Bgo NN.out hb)
 replace XT := zh (HR.next XT.out hb)
 replace XA := zh (HR.next XA.out hb)
 clear hb
 clear XA
 go_wp2_with fail
 refine (fparse_calls _).mono ?_
 rintro e w4 ⟨Am, cm, rfl, hcm, hcm', hrb, hb⟩
 have RBB := zh hrb
 clear hrb hcm'
 replace NN := zh (Bgo NN.out hb)
 replace XT := zh (HR.next XT.out hb)
 clear hb
 go_upto_region 5 with fail
 obtain ⟨HB, VM⟩ := zl (w := w4) (.cells #[.int .i64 2, .int .i64 1, .slice Am 2 cm] 52)
 have LT_VM : Hid (w.heap.size ≤ w4.heap.size) := zh NN.out.size
 replace NN := zh (Bgo NN.out HB.out)
 replace XT := zh (HR.next XT.out HB.out)
 replace RBB := zh (Rd.next HB.out RBB.out)
 clear HB
 generalize (w4.alloc (.cells #[.int .i64 2, .int .i64 1, .slice Am 2 cm] 52)) = W5 at *
 generalize w4.heap.size = gM at *
 obtain ⟨c_VM_0, f_VM_0, c_VM_1, f_VM_1, c_VM_2, f_VM_2, l_VM⟩ := zfl3 VM
 go_wp2_with fail
 clear c_VM_0 f_VM_0 c_VM_1 f_VM_1 c_VM_2 f_VM_2 l_VM
 refine (drop_of XT.out 2 1 (bits := [true, false]) RBB.out (by decide) hcm).mono ?_
 rintro e w6 ⟨vXD, rfl, hh, hb⟩
 rw [ex_drop.1]
 rw [ex_drop.2] at hh
 have XD := zh hh
 clear hh
 replace NN := zh (Bgo NN.out hb)
 replace XT := zh (HR.next XT.out hb)
 replace RBB := zh (Rd.next hb RBB.out)
 replace VM := zn hb VM
 clear hb
 go_wp2_with fail
 refine (avg_of XD.out 2 1).mono ?_
 rintro e w7 ⟨vXB, rfl, hh, hb⟩
 rw [ex_avg2.1]
 rw [ex_avg2.2] at hh
 have XB := zh hh
 clear hh
 replace NN := zh (Bgo NN.out hb)
 replace XT := zh (HR.next XT.out hb)
 replace RBB := zh (Rd.next hb RBB.out)
 replace XD := zh (HR.next XD.out hb)
 replace VM := zn hb VM
 clear hb
 go_wp2_with fail
 obtain ⟨At, ct, hvt, hct, hct', hrt, -⟩ := XT.out.ex
 subst hvt
 obtain ⟨Ad, cd, hvd, hcd, hcd', hrd, -⟩ := XD.out.ex
 subst hvd
 obtain ⟨bd, od, rfl, lbd, -, -, -, -, -, -, -, d7⟩ := RT.at_ hrd (i := 0) (by decide)
 have D7 := zh (And.intro lbd d7)
 clear lbd d7 hrt hrd
 refine (text_of XB.out (GG.out _ NN.out)).mono ?_
 rintro e w8 ⟨rfl, hb⟩
 rw [ex_text2.1, ex_text2.2]
 replace NN := zh (Bgo NN.out hb)
 replace XT := zh (HR.next XT.out hb)
 replace RBB := zh (Rd.next hb RBB.out)
 replace XD := zh (HR.next XD.out hb)
 replace XB := zh (HR.next XB.out hb)
 replace D7 := zh (lc_next D7.out hb)
 replace VM := zn hb VM
 clear hb
 obtain ⟨lbd, d7⟩ := D7.out
 simp only [Nat.zero_mul, Nat.add_zero] at d7
 have l1 : ((exT.length : Nat) : Int) = 2 := rfl
 have l2 : ((exD.length : Nat) : Int) = 2 := rfl
 have d7' : exD[0].n = 0 := rfl
 go_wp2_with fail
 go_ret
 exact ⟨rfl, NN.out⟩
end
section
open Go.ChangeShapes Go.WideShapes Go.ChangeAt Go.RowKit
attribute [local go_sem ↓] Go.wp_at_zero Go.wp_at_succ
theorem HR.len {W : World} {v : Value} {l : List Vr} (h : HR W v l) : ∃ A c, v = .slice A l.length c := by
 obtain ⟨A, c, h1, -⟩ := h.ex
 exact ⟨A, c, h1⟩
end
section
open Go.ChangeShapes Go.WideShapes Go.ChangeAt Go.RowKit
attribute [local go_sem ↓] Go.wp_at_zero Go.wp_at_succ
theorem OG.hr {B : Nat} {W : World} {v : Value} {l : List Vr} (h : OV B W v l) : HR W v l := ⟨by obtain ⟨A, c, h1, h2, h3, h4, h5⟩ := h.form; exact ⟨A, c, h1, h2, h3, h4, h5⟩⟩
theorem sel_of {W : World} {v : Value} {l : List Vr} (h : HR W v l) (i j : Int) : Calls Tryz.prog 18 #[v, .int .i64 i, .int .i64 j] W fun e w' => ∃ u, e = .returned (.tuple #[u, .int .i64 (selE l i j)]) ∧ HR w' u (selL l i j) ∧ Below W.heap.size W w' := by
 obtain ⟨A, c, rfl, h2, h3, h4, h5⟩ := h.ex
 exact (select_calls i j h4 h5 h2 h3).mono fun e w' ⟨u, he, ho, hb⟩ => ⟨u, he, OR.hr ho, hb⟩
end
section
open Go.ChangeShapes Go.WideShapes Go.ChangeAt Go.RowKit
attribute [local go_sem ↓] Go.wp_at_zero Go.wp_at_succ
theorem Rd.ob {w : World} {A : Option Addr} {n : Nat} {xs : List Value} (h : Rd w 1 A n xs) (hn : 0 < n) : ∃ b off ob, A = some ⟨b, off, none⟩ ∧ b < w.heap.size ∧ w.heap[b]? = some ob ∧ ∀ X : World, X.heap[b]? = some ob → ∀ j u, xs[j]? = some u → X.cell? ⟨b, off + j, none⟩ = some u := by
 obtain ⟨b, off, e, hl, hc⟩ := h.2 hn
 refine ⟨b, off, w.heap[b], e, hl, by simp [hl], fun X hX j u hu => ?_⟩
 rw [World.cell?_of_block (w := w) (w' := X) (a := ⟨b, off + j, none⟩) (by rw [hX]; simp [hl])]
 exact hc j u hu
theorem rd_blk {w : World} {g n : Nat} {xs : List Value} {T : TypeId} (h : w.heap[g]? = some (.cells xs.toArray T)) (hn : xs.length = n * 1) : Rd w 1 (some ⟨g, 0, none⟩) n xs :=
 ⟨hn, fun _ => ⟨g, 0, rfl, blk_lt h, fun j u hu => blk_cell h (0 + j) u (by simpa using hu)⟩⟩
theorem made_bools (n : Nat) : (madeCells #[.bool false] n) = (List.replicate n (.bool false)).toArray := by
 apply Array.ext
 ·simp [madeCells]
 ·intro i h1 h2; simp [madeCells, Nat.mod_one]
theorem make_bools (n : Nat) (hn : n ≤ 1000) (W : World) : (Instr.makeSlice 50 (.int .i64 (n : Int)) (.int .i64 (n : Int))).run Tryz.prog W = .ok (.slice (some ⟨W.heap.size, 0, none⟩) n n) (W.alloc (.cells (List.replicate n (Value.bool false)).toArray 4)) := by
 have hz : (Tryz.prog.info? 4).map (fun i => (i.zero, i.size, i.bytes)) = some (some (.bool false), 1, 1) := by kernel_rfl
 obtain ⟨i, hi, hz, hs, hb⟩ := info_parts hz
 have h1 := run_make (P := Tryz.prog) W 50 4 i _ (by kernel_rfl) hi hz .i64 .i64 (n : Int) (n : Int) (by omega) (by omega) (by rw [hb]; omega) (by omega)
 rw [hs, Int.toNat_natCast, Nat.mul_one] at h1
 rw [← made_bools]
 exact h1
end
end Go.Proofs.YtbbnkclajpaghaaGreatDoor
