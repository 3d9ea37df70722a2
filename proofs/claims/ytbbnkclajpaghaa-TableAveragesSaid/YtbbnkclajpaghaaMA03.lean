/- Several texts in one. -/
import Derived.Test.YtbbnkclajpaghaaMA02
namespace Go.Proofs.Ytbbnkclajpaghaa
open Go.ChangeShapes Go.WideShapes Go.ChangeAt Go.RowKit
set_option linter.unusedVariables false
set_option maxRecDepth 100000
attribute [local go_sem ↓] Go.wp_at_zero Go.wp_at_succ
def tailF (neg : Bool) (X g d1 d2 : Nat) : Int × Int × Int := if X / Nat.gcd (X % g) g = 0 then (0, 1, 0) else lowF neg (X / Nat.gcd (X % g) g) ((d1 / g) * (d2 / Nat.gcd (X % g) g))
def addP (an bn : Int) (P Q g y v : Nat) : Int × Int × Int :=
 if decide (an < 0) = decide (bn < 0) then tailF (decide (an < 0)) (P + Q) g y v else if P < Q then tailF (decide (bn < 0)) (Q - P) g v y else tailF (decide (an < 0)) (P - Q) g y v
def addF (an ad bn bd : Int) : Int × Int × Int :=
 addP an bn (an.natAbs * (bd.natAbs / Nat.gcd ad.natAbs bd.natAbs)) (bn.natAbs * (ad.natAbs / Nat.gcd ad.natAbs bd.natAbs)) (Nat.gcd ad.natAbs bd.natAbs) ad.natAbs bd.natAbs
def addR (an ad bn bd : Int) : Int × Int × Int := if errB an ad bn bd = 0 then addF an ad bn bd else (0, 0, errB an ad bn bd)
theorem eqArr4 (a b c d : Int) (w : World) : (Op.equalIn 9999 108 (.agg #[.int .u64 a, .int .u64 b, .int .u64 c, .int .u64 d]) (.agg #[.int .u64 0, .int .u64 0, .int .u64 0, .int .u64 0])).run Try.prog w = .ok (a == 0 && (b == 0 && (c == 0 && d == 0))) w := by
 have u3 := Try.underlying104
 have a3 := Try.isAgg104
 have z3 := Try.sizeOf104
 rw [show (9999 : Nat) = 9998 + 1 from rfl, Op.equalIn]
 simp only [Sem.run_bind, run_underlying Try.underlying108, Result.andThen_ok]
 simp only [Std.Legacy.Range.forIn_eq_forIn_range', Std.Legacy.Range.size, Nat.sub_zero, Nat.add_sub_cancel, Nat.div_one, List.range'_succ, List.range'_zero, List.forIn_cons, List.forIn_nil]
 go_simp
 by_cases h1 : a = 0 <;> by_cases h2 : b = 0 <;> by_cases h3 : c = 0 <;> by_cases h4 : d = 0 <;> simp [h1, h2, h3, h4]
attribute [local go_sem] eqArr4
theorem dg_all {z : Nat} (hs : sm4 z) (hz : z ≠ 0) : ((dg z 0 : Int) == 0 && ((dg z 1 : Int) == 0 && ((dg z 2 : Int) == 0 && (dg z 3 : Int) == 0))) = false := by
 cases h : ((dg z 0 : Int) == 0 && ((dg z 1 : Int) == 0 && ((dg z 2 : Int) == 0 && (dg z 3 : Int) == 0))) with
 | false => rfl
 | true =>
  exfalso
  simp only [Bool.and_eq_true, beq_iff_eq] at h
  have e := big_dg hs
  rw [show dg z 0 = 0 by omega, show dg z 1 = 0 by omega, show dg z 2 = 0 by omega, show dg z 3 = 0 by omega] at e
  exact hz e.symm
theorem bfl {p : Prop} {b : Bool} (h1 : b = true) (h2 : b = false) : p := by rw [h1] at h2; cases h2
def SK (L : List (Nat × Nat × Obj)) (k : Nat) (X : World) : Prop := ∀ p ∈ L, p.1 = k → X.heap[p.2.1]? = some p.2.2
theorem SK.next {L : List (Nat × Nat × Obj)} {k : Nat} {X Y : World} (h : SK L k X) (hb : Below X.heap.size X Y) : SK L k Y := fun p hp e => blk_next hb (h p hp e)
theorem SK.drop {L : List (Nat × Nat × Obj)} {k : Nat} {Y : World} (h : ∀ p ∈ L, p.1 ≠ k) : SK L k Y := fun p hp e => absurd e (h p hp)
theorem PK.swap {w W : World} {an ad bn bd : Int} (h : PK w W an ad bn bd) (cn cd dn dd : Int) : PK w ((((W.setCell ⟨w.heap.size, 0, none⟩ (.int .i64 cn)).setCell ⟨w.heap.size, 1, none⟩ (.int .i64 cd)).setCell ⟨w.heap.size + 1, 0, none⟩ (.int .i64 dn)).setCell ⟨w.heap.size + 1, 1, none⟩ (.int .i64 dd)) cn cd dn dd :=
 ⟨blk_set_other (blk_set_other (blk_set (blk_set h.a 0 _) 1 _) (by omega) _ _) (by omega) _ _, blk_set (blk_set (blk_set_other (blk_set_other h.b (by omega) _ _) (by omega) _ _) 0 _) 1 _, blk_set_other (blk_set_other (blk_set_other (blk_set_other h.z (by omega) _ _) (by omega) _ _) (by omega) _ _) (by omega) _ _, Bset1 (Bset1 (Bset1 (Bset1 h.n (by omega) _ _) (by omega) _ _) (by omega) _ _) (by omega) _ _⟩
theorem PK.setZ {w W : World} {an ad bn bd : Int} (h : PK w W an ad bn bd) {g : Nat} (hg : w.heap.size + 1 + 1 < g) (i : Nat) (x : Value) : PK w (W.setCell ⟨g, i, none⟩ x) an ad bn bd := ⟨blk_set_other h.a (by omega) _ _, blk_set_other h.b (by omega) _ _, blk_set_other h.z (by omega) _ _, Bset1 h.n (by omega) _ _⟩
theorem PK.set4 {w W : World} {an ad bn bd : Int} (h : PK w W an ad bn bd) {g : Nat} (hg : w.heap.size + 1 + 1 < g) (a b c d : Value) : PK w (set4 W g a b c d) an ad bn bd := (((h.setZ hg 0 a).setZ hg 1 b).setZ hg 2 c).setZ hg 3 d
set_option maxRecDepth 100000 in
set_option maxHeartbeats 8000000 in
theorem refAdd_calls (an ad bn bd : Int) (w : World) :
  Calls Try.prog 57 #[Fv an ad, Fv bn bd] w fun e w' => e = .returned (Rv (addR an ad bn bd)) ∧ Below w.heap.size w w' := by
 have C1 := Lib.hid (fun W => refBoth_calls an ad bn bd W)
 by_cases ck : errB an ad bn bd = 0
 rotate_left
 ·have F : Hid (addR an ad bn bd = (0, 0, errB an ad bn bd)) := Lib.hid (by unfold addR; rw [if_neg ck])
  have ck' : (errB an ad bn bd != 0) = true := by rw [bne_iff_ne]; exact ck
  generalize addR an ad bn bd = res at *
  generalize errB an ad bn bd = er at *
  clear ck
  go_enter Try.func57, Try.ntmps57
  go_wp2_with fail
  refine (C1.out _).mono ?_
  rintro e w1 ⟨rfl, hb⟩
  have K := Lib.hid ((PK.init w an ad bn bd).next hb)
  clear hb
  have a0 := blk_cell K.out.a 0 _ rfl
  have a1 := blk_cell K.out.a 1 _ rfl
  have b0 := blk_cell K.out.b 0 _ rfl
  have b1 := blk_cell K.out.b 1 _ rfl
  go_wp2_with fail
  refine (C1.out _).mono ?_
  rintro e w2 ⟨rfl, hb⟩
  replace K := Lib.hid (K.out.next hb)
  clear hb
  clear a0 a1 b0 b1
  have z0 := blk_cell K.out.z 0 _ rfl
  have z1 := blk_cell K.out.z 1 _ rfl
  have f0 := blk_frozen K.out.z 0
  have f1 := blk_frozen K.out.z 1
  go_wp2_with fail
  have e1 := blk_cell (blk_set (blk_set K.out.z 0 (.int .i64 0)) 1 (.int .i64 0)) 0 _ rfl
  have e2 := blk_cell (blk_set (blk_set K.out.z 0 (.int .i64 0)) 1 (.int .i64 0)) 1 _ rfl
  refine bodyPost_ret (v := .tuple #[Fv 0 0, .int .i64 er]) (by simp [results, Try.results57, go_sem, e1, e2]) rfl ⟨by rw [F.out], Bset1 (Bset1 K.out.n (by omega) _ _) (by omega) _ _⟩
 ·obtain ⟨va, vb⟩ := errB_ok ck
  rw [ck] at C1
  have F : Hid (addR an ad bn bd = addP an bn (an.natAbs * (bd.natAbs / Nat.gcd ad.natAbs bd.natAbs)) (bn.natAbs * (ad.natAbs / Nat.gcd ad.natAbs bd.natAbs)) (Nat.gcd ad.natAbs bd.natAbs) ad.natAbs bd.natAbs) := Lib.hid (by unfold addR; rw [if_pos ck]; rfl)
  generalize addR an ad bn bd = res at *
  have d1 := va.d1
  have d2 := va.d2
  have d3 := vb.d1
  have d4 := vb.d2
  have d5 := va.n1
  have d6 := va.n2
  have d7 := vb.n1
  have d8 := vb.n2
  clear ck va vb
  have S1 := Lib.hid (fun W => abs_calls an W (by omega) (by omega))
  have S3 := Lib.hid (fun W => abs_calls bn W (by omega) (by omega))
  have hx : an.natAbs ≤ 1000000000000000000 := by omega
  have hu : bn.natAbs ≤ 1000000000000000000 := by omega
  have hg0 : 0 < Nat.gcd ad.natAbs bd.natAbs := Nat.gcd_pos_of_pos_right _ (by omega)
  have hg1 : Nat.gcd ad.natAbs bd.natAbs ≤ bd.natAbs := Nat.gcd_le_right _ (by omega)
  obtain ⟨y, rfl⟩ := Int.eq_ofNat_of_zero_le (show 0 ≤ ad by omega)
  obtain ⟨v, rfl⟩ := Int.eq_ofNat_of_zero_le (show 0 ≤ bd by omega)
  simp only [Int.natAbs_natCast] at F hg0 hg1
  generalize an.natAbs = x at *
  generalize bn.natAbs = u at *
  have G1 := Lib.hid (fun W => refGcd_calls y v W (by omega) (by omega))
  generalize Nat.gcd y v = g at *
  have t3 := tdivN y g
  have t4 := tdivN v g
  have l3 : y / g ≤ 1000000000000000000 := Nat.le_trans (Nat.div_le_self _ _) (by omega)
  have l4 : v / g ≤ 1000000000000000000 := Nat.le_trans (Nat.div_le_self _ _) (by omega)
  obtain ⟨y1, hy1⟩ : ∃ y1, y / g = y1 := ⟨_, rfl⟩
  obtain ⟨v1, hv1⟩ : ∃ v1, v / g = v1 := ⟨_, rfl⟩
  rw [hy1] at t3 l3 F
  rw [hv1] at t4 l4 F
  have M1 := Lib.hid (fun W => refProduct_calls x v1 W (by omega) (by omega))
  have M2 := Lib.hid (fun W => refProduct_calls u y1 W (by omega) (by omega))
  have q1 : x * v1 ≤ 1000000000000000000000000000000000000 := Nat.mul_le_mul hx l4
  have q2 : u * y1 ≤ 1000000000000000000000000000000000000 := Nat.mul_le_mul hu l3
  generalize x * v1 = P at *
  generalize u * y1 = Q at *
  have Q1 := Lib.hid q1
  have Q2 := Lib.hid q2
  have HY := Lib.hid hy1
  have HV := Lib.hid hv1
  clear q1 q2 hy1 hv1
  have gp4 : ¬ g = 0 := by omega
  have gb : g < 4611686018427387904 := by omega
  have wy : IntKind.u64.wrap (y1 : Int) = (y1 : Int) := wrapN _ (by omega)
  have wv : IntKind.u64.wrap (v1 : Int) = (v1 : Int) := wrapN _ (by omega)
  have wy' : IntKind.u64.wrap (y : Int) = (y : Int) := wrapN _ (by omega)
  have wv' : IntKind.u64.wrap (v : Int) = (v : Int) := wrapN _ (by omega)
  go_enter Try.func57, Try.ntmps57
  go_wp2_with fail
  refine (C1.out _).mono ?_
  rintro e w1 ⟨rfl, hb⟩
  have K := Lib.hid ((PK.init w an y bn v).next hb)
  clear hb
  have a0 := blk_cell K.out.a 0 _ rfl
  have a1 := blk_cell K.out.a 1 _ rfl
  have b0 := blk_cell K.out.b 0 _ rfl
  have b1 := blk_cell K.out.b 1 _ rfl
  go_wp2_with fail
  refine (G1.out _).mono ?_
  rintro e w2 ⟨rfl, m, rfl⟩
  replace K := Lib.hid (K.out.drewN m)
  clear a0 a1 b0 b1
  generalize w1.drewN m = W at *
  go_upto_region 4 with fail
  go_cut [7, 8] (fun s7 s8 wx => ∃ (g7 g8 : Nat), s7 = .pointer (some ⟨g7, 0, none⟩) ∧ s8 = .pointer (some ⟨g8, 0, none⟩) ∧ Hid (PK w wx an y bn v) ∧ Hid (wx.heap[g7]? = some (.cells #[.int .u64 (dg P 0 : Int), .int .u64 (dg P 1 : Int), .int .u64 (dg P 2 : Int), .int .u64 (dg P 3 : Int)] 110)) ∧ Hid (wx.heap[g8]? = some (.cells #[.int .u64 (dg Q 0 : Int), .int .u64 (dg Q 1 : Int), .int .u64 (dg Q 2 : Int), .int .u64 (dg Q 3 : Int)] 110)) ∧ Hid (w.heap.size + 1 + 1 < g7 ∧ w.heap.size + 1 + 1 < g8 ∧ g7 ≠ g8))
  case first =>
   have KEEP : Hid (∀ X : World, Below W.heap.size W X → X.cell? ⟨w.heap.size, 0, none⟩ = some (.int .i64 an) ∧ X.cell? ⟨w.heap.size, 1, none⟩ = some (.int .i64 y) ∧ X.cell? ⟨w.heap.size + 1, 0, none⟩ = some (.int .i64 bn) ∧ X.cell? ⟨w.heap.size + 1, 1, none⟩ = some (.int .i64 v)) := Lib.hid (fun X hX => ⟨blk_cell (K.out.next hX).a 0 _ rfl, blk_cell (K.out.next hX).a 1 _ rfl, blk_cell (K.out.next hX).b 0 _ rfl, blk_cell (K.out.next hX).b 1 _ rfl⟩)
   obtain ⟨k1, k2, k3, k4⟩ := KEEP.out W (Below.refl _ _)
   have HW1 : Hid (w.heap.size + 1 + 1 < W.heap.size) := Lib.hid (blk_lt K.out.z)
   go_region_held3 (fun X => X.cell? ⟨w.heap.size, 0, none⟩ = some (.int .i64 an) ∧ X.cell? ⟨w.heap.size, 1, none⟩ = some (.int .i64 y) ∧ X.cell? ⟨w.heap.size + 1, 0, none⟩ = some (.int .i64 bn) ∧ X.cell? ⟨w.heap.size + 1, 1, none⟩ = some (.int .i64 v))
    ((refine KEEP.out _ ?_; (repeat (first | (with_reducible exact Below.refl _ _) | (with_reducible exact BQ.out) | (with_reducible exact BP.out) | (with_reducible refine Below.drew ?_) | (with_reducible refine Bal ?_ _) | (with_reducible refine Bset1 ?_ (by first | exact Nat.le_refl _ | exact Nat.le_succ _ | exact BP.out.size | exact Nat.le_succ_of_le BP.out.size | exact BQ.out.size | exact Nat.le_succ_of_le BQ.out.size | (simp; omega)) _ _)))))
    (first
     | (go_at_call 70; (first | (with_reducible refine (S1.out _).mono ?_) | (with_reducible refine (S3.out _).mono ?_)); rintro e wa ⟨rfl, rfl⟩)
     | (go_at_call 74; (with_reducible refine (M1.out _).mono ?_); rintro e wp ⟨rfl, bp⟩; have BP : Hid (Below W.heap.size W wp) := Lib.hid (by refine Bgo ?_ bp; (repeat (first | (with_reducible exact Below.refl _ _) | (with_reducible refine Below.drew ?_) | (with_reducible refine Bal ?_ _)))); (first | (have RA : Hid (wp.heap[W.heap.size]? = some (.cells #[.int .u64 0, .int .u64 0, .int .u64 0, .int .u64 0] 110)) := Lib.hid (by first | (with_reducible exact blk_next bp (blk_new W _)) | (with_reducible exact blk_next (undrewB bp) (blk_new W _)) | (with_reducible exact blk_next bp (blk1 W _ _)) | (with_reducible exact blk_next (undrewB bp) (blk1 W _ _)))) | skip); (first | (have RB : Hid (wp.heap[W.heap.size + 1]? = some (.cells #[.int .u64 0, .int .u64 0, .int .u64 0, .int .u64 0] 110)) := Lib.hid (by first | (with_reducible exact blk_next bp (blk2 W _ _)) | (with_reducible exact blk_next (undrewB bp) (blk2 W _ _)))) | skip); clear bp)
     | (go_at_call 74; (with_reducible refine (M2.out _).mono ?_); rintro e wq ⟨rfl, bq⟩; have BQ : Hid (Below W.heap.size W wq) := Lib.hid (by refine Bgo ?_ bq; (repeat (first | (with_reducible exact BP.out) | (with_reducible refine Below.drew ?_) | (with_reducible refine Bal ?_ _)))); have SQ : Hid (wp.heap.size ≤ wq.heap.size) := Lib.hid (by first | (with_reducible exact bq.size) | (have t9 := bq.size; simp at t9; omega)); (first | (have RA2 : Hid (wq.heap[W.heap.size]? = some (.cells #[.int .u64 0, .int .u64 0, .int .u64 0, .int .u64 0] 110)) := Lib.hid (by first | (with_reducible exact blk_next bq RA.out) | (with_reducible exact blk_next (undrewB bq) RA.out) | (with_reducible exact blk_next bq (blk_alloc RA.out _)) | (with_reducible exact blk_next (undrewB bq) (blk_alloc RA.out _))); have ac0 := blk_cell RA2.out 0 _ rfl; have af0 := blk_frozen RA2.out 0; have ac1 := blk_cell RA2.out 1 _ rfl; have af1 := blk_frozen RA2.out 1; have ac2 := blk_cell RA2.out 2 _ rfl; have af2 := blk_frozen RA2.out 2; have ac3 := blk_cell RA2.out 3 _ rfl; have af3 := blk_frozen RA2.out 3; have al := blk_lt RA2.out) | skip); (first | (have RB2 : Hid (wq.heap[W.heap.size + 1]? = some (.cells #[.int .u64 0, .int .u64 0, .int .u64 0, .int .u64 0] 110)) := Lib.hid (by first | (with_reducible exact blk_next bq RB.out) | (with_reducible exact blk_next (undrewB bq) RB.out)); have bc0 := blk_cell RB2.out 0 _ rfl; have bf0 := blk_frozen RB2.out 0; have bc1 := blk_cell RB2.out 1 _ rfl; have bf1 := blk_frozen RB2.out 1; have bc2 := blk_cell RB2.out 2 _ rfl; have bf2 := blk_frozen RB2.out 2; have bc3 := blk_cell RB2.out 3 _ rfl; have bf3 := blk_frozen RB2.out 3; have bl := blk_lt RB2.out) | skip); (first | (have RC2 : Hid (wq.heap[wp.heap.size]? = some (.cells #[.int .u64 0, .int .u64 0, .int .u64 0, .int .u64 0] 110)) := Lib.hid (by first | (with_reducible exact blk_next bq (blk_new wp _)) | (with_reducible exact blk_next (undrewB bq) (blk_new wp _)) | (with_reducible exact blk_next bq (blk1 wp _ _)) | (with_reducible exact blk_next (undrewB bq) (blk1 wp _ _))); have cc0 := blk_cell RC2.out 0 _ rfl; have cf0 := blk_frozen RC2.out 0; have cc1 := blk_cell RC2.out 1 _ rfl; have cf1 := blk_frozen RC2.out 1; have cc2 := blk_cell RC2.out 2 _ rfl; have cf2 := blk_frozen RC2.out 2; have cc3 := blk_cell RC2.out 3 _ rfl; have cf3 := blk_frozen RC2.out 3; have cl := blk_lt RC2.out) | skip); (first | (have RD2 : Hid (wq.heap[wp.heap.size + 1]? = some (.cells #[.int .u64 0, .int .u64 0, .int .u64 0, .int .u64 0] 110)) := Lib.hid (by first | (with_reducible exact blk_next bq (blk2 wp _ _)) | (with_reducible exact blk_next (undrewB bq) (blk2 wp _ _))); have dc0 := blk_cell RD2.out 0 _ rfl; have df0 := blk_frozen RD2.out 0; have dc1 := blk_cell RD2.out 1 _ rfl; have df1 := blk_frozen RD2.out 1; have dc2 := blk_cell RD2.out 2 _ rfl; have df2 := blk_frozen RD2.out 2; have dc3 := blk_cell RD2.out 3 _ rfl; have df3 := blk_frozen RD2.out 3; have dl := blk_lt RD2.out) | skip); (first | (have nAC : ¬ W.heap.size = wp.heap.size := (by (have t8 := blk_lt RA.out; omega)); have nAC' : ¬ wp.heap.size = W.heap.size := (by (have t8 := blk_lt RA.out; omega))) | skip); (first | (have nBC : ¬ W.heap.size + 1 = wp.heap.size := (by (have t8 := blk_lt RB.out; omega)); have nBC' : ¬ wp.heap.size = W.heap.size + 1 := (by (have t8 := blk_lt RB.out; omega))) | skip); (first | (have nAD : ¬ W.heap.size = wp.heap.size + 1 := (by (have t8 := blk_lt RA.out; omega)); have nAD' : ¬ wp.heap.size + 1 = W.heap.size := (by (have t8 := blk_lt RA.out; omega))) | skip); (first | (have nAQ : ¬ W.heap.size = wq.heap.size := (by (have t8 := blk_lt RA2.out; omega)); have nAQ' : ¬ wq.heap.size = W.heap.size := (by (have t8 := blk_lt RA2.out; omega))) | skip); (first | (have nBQ : ¬ W.heap.size + 1 = wq.heap.size := (by (have t8 := blk_lt RB2.out; omega)); have nBQ' : ¬ wq.heap.size = W.heap.size + 1 := (by (have t8 := blk_lt RB2.out; omega))) | skip); (first | (have nCQ : ¬ wp.heap.size = wq.heap.size := (by (have t8 := blk_lt RC2.out; omega)); have nCQ' : ¬ wq.heap.size = wp.heap.size := (by (have t8 := blk_lt RC2.out; omega))) | skip); (first | (have nDQ : ¬ wp.heap.size + 1 = wq.heap.size := (by (have t8 := blk_lt RD2.out; omega)); have nDQ' : ¬ wq.heap.size = wp.heap.size + 1 := (by (have t8 := blk_lt RD2.out; omega))) | skip); clear bq))
   all_goals go_wp2_with fail
   all_goals go_meet
   all_goals (refine ⟨_, _, rfl, rfl, Lib.hid (K.out.next ?_), Lib.hid ?_, Lib.hid ?_, Lib.hid ?_⟩; (· (repeat (first | (with_reducible exact Below.refl _ _) | (with_reducible exact BQ.out) | (with_reducible exact BP.out) | (with_reducible refine Below.drew ?_) | (with_reducible refine Bal ?_ _) | (with_reducible refine Bset1 ?_ (by first | exact Nat.le_refl _ | exact Nat.le_succ _ | exact BP.out.size | exact Nat.le_succ_of_le BP.out.size | exact BQ.out.size | exact Nat.le_succ_of_le BQ.out.size | (simp; omega)) _ _)))); (· (first | (with_reducible exact blk_put4_other (blk_put4 RA2.out _ _ _ _) (by omega) _ _ _ _) | (with_reducible exact blk_dr (blk_put4_other (blk_put4 RA2.out _ _ _ _) (by omega) _ _ _ _)) | (with_reducible exact blk_put4_other (blk_put4 (blk_alloc RA2.out _) _ _ _ _) (by omega) _ _ _ _) | (with_reducible exact blk_dr (blk_put4_other (blk_put4 (blk_alloc RA2.out _) _ _ _ _) (by omega) _ _ _ _)) | (with_reducible exact blk_put4 (blk_alloc RA2.out _) _ _ _ _) | (with_reducible exact blk_dr (blk_put4 (blk_alloc RA2.out _) _ _ _ _)) | (with_reducible exact blk_alloc (blk_put4 RA2.out _ _ _ _) _) | (with_reducible exact blk_dr (blk_alloc (blk_put4 RA2.out _ _ _ _) _)) | (with_reducible exact blk_put4_other (blk_put4 RB2.out _ _ _ _) (by omega) _ _ _ _) | (with_reducible exact blk_dr (blk_put4_other (blk_put4 RB2.out _ _ _ _) (by omega) _ _ _ _)) | (with_reducible exact blk_put4_other (blk_put4 (blk_alloc RB2.out _) _ _ _ _) (by omega) _ _ _ _) | (with_reducible exact blk_dr (blk_put4_other (blk_put4 (blk_alloc RB2.out _) _ _ _ _) (by omega) _ _ _ _)) | (with_reducible exact blk_put4 (blk_alloc RB2.out _) _ _ _ _) | (with_reducible exact blk_dr (blk_put4 (blk_alloc RB2.out _) _ _ _ _)) | (with_reducible exact blk_alloc (blk_put4 RB2.out _ _ _ _) _) | (with_reducible exact blk_dr (blk_alloc (blk_put4 RB2.out _ _ _ _) _)) | (with_reducible exact blk_put4_other (blk_put4 RC2.out _ _ _ _) (by omega) _ _ _ _) | (with_reducible exact blk_dr (blk_put4_other (blk_put4 RC2.out _ _ _ _) (by omega) _ _ _ _)) | (with_reducible exact blk_put4_other (blk_put4 (blk_alloc RC2.out _) _ _ _ _) (by omega) _ _ _ _) | (with_reducible exact blk_dr (blk_put4_other (blk_put4 (blk_alloc RC2.out _) _ _ _ _) (by omega) _ _ _ _)) | (with_reducible exact blk_put4 (blk_alloc RC2.out _) _ _ _ _) | (with_reducible exact blk_dr (blk_put4 (blk_alloc RC2.out _) _ _ _ _)) | (with_reducible exact blk_alloc (blk_put4 RC2.out _ _ _ _) _) | (with_reducible exact blk_dr (blk_alloc (blk_put4 RC2.out _ _ _ _) _)) | (with_reducible exact blk_put4_other (blk_put4 RD2.out _ _ _ _) (by omega) _ _ _ _) | (with_reducible exact blk_dr (blk_put4_other (blk_put4 RD2.out _ _ _ _) (by omega) _ _ _ _)) | (with_reducible exact blk_put4_other (blk_put4 (blk_alloc RD2.out _) _ _ _ _) (by omega) _ _ _ _) | (with_reducible exact blk_dr (blk_put4_other (blk_put4 (blk_alloc RD2.out _) _ _ _ _) (by omega) _ _ _ _)) | (with_reducible exact blk_put4 (blk_alloc RD2.out _) _ _ _ _) | (with_reducible exact blk_dr (blk_put4 (blk_alloc RD2.out _) _ _ _ _)) | (with_reducible exact blk_alloc (blk_put4 RD2.out _ _ _ _) _) | (with_reducible exact blk_dr (blk_alloc (blk_put4 RD2.out _ _ _ _) _)) | (with_reducible exact blk_put4_other (blk_new wq _) (by omega) _ _ _ _) | (with_reducible exact blk_dr (blk_put4_other (blk_new wq _) (by omega) _ _ _ _)) | (with_reducible exact blk1 wq _ _) | (with_reducible exact blk_dr (blk1 wq _ _)) | (with_reducible exact blk2 wq _ _) | (with_reducible exact blk_dr (blk2 wq _ _)) | (with_reducible exact blk_at _ (sz4 _ _ _ _ _ _).symm) | (with_reducible exact blk_dr (blk_at _ (sz4 _ _ _ _ _ _).symm)))); (· (first | (with_reducible exact blk_put4 (blk_put4_other RA2.out (by omega) _ _ _ _) _ _ _ _) | (with_reducible exact blk_dr (blk_put4 (blk_put4_other RA2.out (by omega) _ _ _ _) _ _ _ _)) | (with_reducible exact blk_put4 (blk_alloc RA2.out _) _ _ _ _) | (with_reducible exact blk_dr (blk_put4 (blk_alloc RA2.out _) _ _ _ _)) | (with_reducible exact blk_put4 (blk_put4_other RB2.out (by omega) _ _ _ _) _ _ _ _) | (with_reducible exact blk_dr (blk_put4 (blk_put4_other RB2.out (by omega) _ _ _ _) _ _ _ _)) | (with_reducible exact blk_put4 (blk_alloc RB2.out _) _ _ _ _) | (with_reducible exact blk_dr (blk_put4 (blk_alloc RB2.out _) _ _ _ _)) | (with_reducible exact blk_put4 (blk_put4_other RC2.out (by omega) _ _ _ _) _ _ _ _) | (with_reducible exact blk_dr (blk_put4 (blk_put4_other RC2.out (by omega) _ _ _ _) _ _ _ _)) | (with_reducible exact blk_put4 (blk_alloc RC2.out _) _ _ _ _) | (with_reducible exact blk_dr (blk_put4 (blk_alloc RC2.out _) _ _ _ _)) | (with_reducible exact blk_put4 (blk_put4_other RD2.out (by omega) _ _ _ _) _ _ _ _) | (with_reducible exact blk_dr (blk_put4 (blk_put4_other RD2.out (by omega) _ _ _ _) _ _ _ _)) | (with_reducible exact blk_put4 (blk_alloc RD2.out _) _ _ _ _) | (with_reducible exact blk_dr (blk_put4 (blk_alloc RD2.out _) _ _ _ _)) | (with_reducible exact blk_put4 (blk_put4_other (blk_new wq _) (by omega) _ _ _ _) _ _ _ _) | (with_reducible exact blk_dr (blk_put4 (blk_put4_other (blk_new wq _) (by omega) _ _ _ _) _ _ _ _)) | (with_reducible exact blk_put4_other (blk_new wq _) (by omega) _ _ _ _) | (with_reducible exact blk_dr (blk_put4_other (blk_new wq _) (by omega) _ _ _ _)) | (with_reducible exact blk_new _ _) | (with_reducible exact blk_dr (blk_new _ _)) | (with_reducible exact blk1 wq _ _) | (with_reducible exact blk_dr (blk1 wq _ _)) | (with_reducible exact blk2 wq _ _) | (with_reducible exact blk_dr (blk2 wq _ _)) | (with_reducible exact blk_at _ (sz4 _ _ _ _ _ _).symm) | (with_reducible exact blk_dr (blk_at _ (sz4 _ _ _ _ _ _).symm)) | (with_reducible exact blk_alloc (blk_put4 RA2.out _ _ _ _) _) | (with_reducible exact blk_dr (blk_alloc (blk_put4 RA2.out _ _ _ _) _)) | (with_reducible exact blk_alloc (blk_put4 RB2.out _ _ _ _) _) | (with_reducible exact blk_dr (blk_alloc (blk_put4 RB2.out _ _ _ _) _)) | (with_reducible exact blk_alloc (blk_put4 RC2.out _ _ _ _) _) | (with_reducible exact blk_dr (blk_alloc (blk_put4 RC2.out _ _ _ _) _)) | (with_reducible exact blk_alloc (blk_put4 RD2.out _ _ _ _) _) | (with_reducible exact blk_dr (blk_alloc (blk_put4 RD2.out _ _ _ _) _)))); (· (have t7 := HW1.out; (first | (have t6 := BP.out.size) | skip); (first | (have t5 := BQ.out.size) | skip); (first | (have t4 := SQ.out) | skip); refine ⟨?_, ?_, ?_⟩ <;> (first | omega | (simp; omega) | (intro t3; simp at t3; omega)))))
  case rest =>
   obtain ⟨g7, g8, rfl, rfl, K2, B7, B8, NG⟩ := hcut
   obtain ⟨n7, n8, n78⟩ := NG.out
   have SUMB : Hid (∀ W, Calls Try.prog 75 #[Dv P, Dv Q] W fun e w' => e = .returned (Dv (P + Q)) ∧ Below W.heap.size W w') := Lib.hid (fun W => refSum_calls P Q W (by have := Q1.out; unfold sm4; omega) (by have := Q2.out; unfold sm4; omega) (by have := Q1.out; have := Q2.out; unfold sm4; omega))
   have LESB : Hid (∀ W, Calls Try.prog 76 #[Dv P, Dv Q] W fun e w' => e = .returned (.bool (decide (P < Q))) ∧ Below W.heap.size W w') := Lib.hid (fun W => refBelow_calls P Q W (by have := Q1.out; unfold sm4; omega) (by have := Q2.out; unfold sm4; omega))
   have RESA : Hid (∀ W, Q ≤ P → Calls Try.prog 77 #[Dv P, Dv Q] W fun e w' => e = .returned (Dv (P - Q)) ∧ Below W.heap.size W w') := Lib.hid (fun W hc => refRest_calls P Q W (by have := Q1.out; unfold sm4; omega) (by have := Q2.out; unfold sm4; omega) hc)
   have RESB : Hid (∀ W, P ≤ Q → Calls Try.prog 77 #[Dv Q, Dv P] W fun e w' => e = .returned (Dv (Q - P)) ∧ Below W.heap.size W w') := Lib.hid (fun W hc => refRest_calls Q P W (by have := Q2.out; unfold sm4; omega) (by have := Q1.out; unfold sm4; omega) hc)
   by_cases cs : decide (an < 0) = decide (bn < 0)
   ·have FE : Hid (res = tailF (decide (an < 0)) (P + Q) g y v) := Lib.hid (by have t := F.out; unfold addP at t; rw [if_pos cs] at t; exact t)
    clear F
    have cs' : (decide (an < 0) == decide (bn < 0)) = true := by rw [cs]; simp
    clear cs
    have a0 := blk_cell K2.out.a 0 _ rfl
    have a1 := blk_cell K2.out.a 1 _ rfl
    have b0 := blk_cell K2.out.b 0 _ rfl
    have b1 := blk_cell K2.out.b 1 _ rfl
    have u0 := blk_cell B7.out 0 _ rfl
    have uf0 := blk_frozen B7.out 0
    have u1 := blk_cell B7.out 1 _ rfl
    have uf1 := blk_frozen B7.out 1
    have u2 := blk_cell B7.out 2 _ rfl
    have uf2 := blk_frozen B7.out 2
    have u3 := blk_cell B7.out 3 _ rfl
    have uf3 := blk_frozen B7.out 3
    have l7 := blk_lt B7.out
    have v0 := blk_cell B8.out 0 _ rfl
    have v1 := blk_cell B8.out 1 _ rfl
    have v2 := blk_cell B8.out 2 _ rfl
    have v3 := blk_cell B8.out 3 _ rfl
    have l8 := blk_lt B8.out
    go_wp2_with fail
    refine (SUMB.out _).mono ?_
    rintro e w3 ⟨rfl, hb⟩
    have K := Lib.hid (K2.out.next hb)
    replace B7 := Lib.hid (blk_next hb B7.out)
    clear hb K2 B8
    clear a0 a1 b0 b1 u0 uf0 u1 uf1 u2 uf2 u3 uf3 l7 v0 v1 v2 v3 l8
    have u0 := blk_cell B7.out 0 _ rfl
    have uf0 := blk_frozen B7.out 0
    have u1 := blk_cell B7.out 1 _ rfl
    have uf1 := blk_frozen B7.out 1
    have u2 := blk_cell B7.out 2 _ rfl
    have uf2 := blk_frozen B7.out 2
    have u3 := blk_cell B7.out 3 _ rfl
    have uf3 := blk_frozen B7.out 3
    have l7 := blk_lt B7.out
    have xb : P + Q ≤ 2000000000000000000000000000000000000 := by have := Q1.out; have := Q2.out; omega
    generalize P + Q = XX at *
    go_upto_region 10 with fail
    have K' : Hid (PK w ((((w3.setCell ⟨g7, 0, none⟩ (.int .u64 (dg XX 0 : Int))).setCell ⟨g7, 1, none⟩ (.int .u64 (dg XX 1 : Int))).setCell ⟨g7, 2, none⟩ (.int .u64 (dg XX 2 : Int))).setCell ⟨g7, 3, none⟩ (.int .u64 (dg XX 3 : Int))) an y bn v) := Lib.hid (K.out.set4 n7 _ _ _ _)
    have B7' : Hid (((((w3.setCell ⟨g7, 0, none⟩ (.int .u64 (dg XX 0 : Int))).setCell ⟨g7, 1, none⟩ (.int .u64 (dg XX 1 : Int))).setCell ⟨g7, 2, none⟩ (.int .u64 (dg XX 2 : Int))).setCell ⟨g7, 3, none⟩ (.int .u64 (dg XX 3 : Int))).heap[g7]? = some (.cells #[.int .u64 (dg XX 0 : Int), .int .u64 (dg XX 1 : Int), .int .u64 (dg XX 2 : Int), .int .u64 (dg XX 3 : Int)] 110)) := Lib.hid (blk_put4 B7.out _ _ _ _)
    clear K B7
    have K := K'
    have B7 := B7'
    clear K' B7'
    clear u0 uf0 u1 uf1 u2 uf2 u3 uf3 l7
    generalize ((((w3.setCell ⟨g7, 0, none⟩ (.int .u64 (dg XX 0 : Int))).setCell ⟨g7, 1, none⟩ (.int .u64 (dg XX 1 : Int))).setCell ⟨g7, 2, none⟩ (.int .u64 (dg XX 2 : Int))).setCell ⟨g7, 3, none⟩ (.int .u64 (dg XX 3 : Int))) = Wc at *
    have FT : Hid (res = if XX / Nat.gcd (XX % g) g = 0 then (0, 1, 0) else lowF (decide (an < 0)) (XX / Nat.gcd (XX % g) g) (y1 * (v / Nat.gcd (XX % g) g))) := Lib.hid (by have t := FE.out; unfold tailF at t; rw [HY.out] at t; exact t)
    clear FE
    have smX : sm4 XX := by unfold sm4; omega
    have O1 := Lib.hid (fun W => refOver_calls XX g W smX (by omega) gb)
    have rl : XX % g < g := Nat.mod_lt _ (by omega)
    have G2 := Lib.hid (fun W => refGcd_calls (XX % g) g W (by omega) (by omega))
    have h0 : 0 < Nat.gcd (XX % g) g := Nat.gcd_pos_of_pos_right _ (by omega)
    have h1 : Nat.gcd (XX % g) g ≤ g := Nat.gcd_le_right _ (by omega)
    have O2 := Lib.hid (fun W => refOver_calls XX (Nat.gcd (XX % g) g) W smX (by omega) (by omega))
    generalize Nat.gcd (XX % g) g = h at *
    generalize XX % g = RR at *
    generalize XX / g = YY at *
    have zl : XX / h ≤ XX := Nat.div_le_self _ _
    have smZ : sm4 (XX / h) := by unfold sm4; omega
    generalize XX / h = ZZ at *
    generalize XX % h = SS at *
    have u0 := blk_cell B7.out 0 _ rfl
    have uf0 := blk_frozen B7.out 0
    have u1 := blk_cell B7.out 1 _ rfl
    have uf1 := blk_frozen B7.out 1
    have u2 := blk_cell B7.out 2 _ rfl
    have uf2 := blk_frozen B7.out 2
    have u3 := blk_cell B7.out 3 _ rfl
    have uf3 := blk_frozen B7.out 3
    have l7 := blk_lt B7.out
    go_wp2_with fail
    refine (O1.out _).mono ?_
    rintro e w4 ⟨rfl, hb⟩
    replace K := Lib.hid (K.out.next hb)
    replace B7 := Lib.hid (blk_next hb B7.out)
    clear hb
    clear u0 uf0 u1 uf1 u2 uf2 u3 uf3 l7
    go_wp2_with fail
    refine (G2.out _).mono ?_
    rintro e w5 ⟨rfl, m, rfl⟩
    replace K := Lib.hid ((K.out.next (Bal (Below.refl _ _) (.cells #[.int .u64 (dg YY 0 : Int), .int .u64 (dg YY 1 : Int), .int .u64 (dg YY 2 : Int), .int .u64 (dg YY 3 : Int)] 110))).drewN m)
    replace B7 := Lib.hid (blk_drewN (blk_alloc B7.out (.cells #[.int .u64 (dg YY 0 : Int), .int .u64 (dg YY 1 : Int), .int .u64 (dg YY 2 : Int), .int .u64 (dg YY 3 : Int)] 110)) m)
    generalize (w4.alloc (.cells #[.int .u64 (dg YY 0 : Int), .int .u64 (dg YY 1 : Int), .int .u64 (dg YY 2 : Int), .int .u64 (dg YY 3 : Int)] 110)).drewN m = W5 at *
    have u0 := blk_cell B7.out 0 _ rfl
    have uf0 := blk_frozen B7.out 0
    have u1 := blk_cell B7.out 1 _ rfl
    have uf1 := blk_frozen B7.out 1
    have u2 := blk_cell B7.out 2 _ rfl
    have uf2 := blk_frozen B7.out 2
    have u3 := blk_cell B7.out 3 _ rfl
    have uf3 := blk_frozen B7.out 3
    have l7 := blk_lt B7.out
    go_wp2_with fail
    refine (O2.out _).mono ?_
    rintro e w6 ⟨rfl, hb⟩
    replace K := Lib.hid (K.out.next hb)
    replace B7 := Lib.hid (blk_next hb B7.out)
    clear hb
    clear u0 uf0 u1 uf1 u2 uf2 u3 uf3 l7
    have u0 := blk_cell B7.out 0 _ rfl
    have uf0 := blk_frozen B7.out 0
    have u1 := blk_cell B7.out 1 _ rfl
    have uf1 := blk_frozen B7.out 1
    have u2 := blk_cell B7.out 2 _ rfl
    have uf2 := blk_frozen B7.out 2
    have u3 := blk_cell B7.out 3 _ rfl
    have uf3 := blk_frozen B7.out 3
    have l7 := blk_lt B7.out
    go_upto_region 13 with fail
    have K' : Hid (PK w ((((w6.setCell ⟨g7, 0, none⟩ (.int .u64 (dg ZZ 0 : Int))).setCell ⟨g7, 1, none⟩ (.int .u64 (dg ZZ 1 : Int))).setCell ⟨g7, 2, none⟩ (.int .u64 (dg ZZ 2 : Int))).setCell ⟨g7, 3, none⟩ (.int .u64 (dg ZZ 3 : Int))) an y bn v) := Lib.hid (K.out.set4 n7 _ _ _ _)
    have B7' : Hid (((((w6.setCell ⟨g7, 0, none⟩ (.int .u64 (dg ZZ 0 : Int))).setCell ⟨g7, 1, none⟩ (.int .u64 (dg ZZ 1 : Int))).setCell ⟨g7, 2, none⟩ (.int .u64 (dg ZZ 2 : Int))).setCell ⟨g7, 3, none⟩ (.int .u64 (dg ZZ 3 : Int))).heap[g7]? = some (.cells #[.int .u64 (dg ZZ 0 : Int), .int .u64 (dg ZZ 1 : Int), .int .u64 (dg ZZ 2 : Int), .int .u64 (dg ZZ 3 : Int)] 110)) := Lib.hid (blk_put4 B7.out _ _ _ _)
    clear K B7
    have K := K'
    have B7 := B7'
    clear K' B7'
    clear u0 uf0 u1 uf1 u2 uf2 u3 uf3 l7
    generalize ((((w6.setCell ⟨g7, 0, none⟩ (.int .u64 (dg ZZ 0 : Int))).setCell ⟨g7, 1, none⟩ (.int .u64 (dg ZZ 1 : Int))).setCell ⟨g7, 2, none⟩ (.int .u64 (dg ZZ 2 : Int))).setCell ⟨g7, 3, none⟩ (.int .u64 (dg ZZ 3 : Int))) = W6 at *
    have u0 := blk_cell B7.out 0 _ rfl
    have uf0 := blk_frozen B7.out 0
    have u1 := blk_cell B7.out 1 _ rfl
    have uf1 := blk_frozen B7.out 1
    have u2 := blk_cell B7.out 2 _ rfl
    have uf2 := blk_frozen B7.out 2
    have u3 := blk_cell B7.out 3 _ rfl
    have uf3 := blk_frozen B7.out 3
    have l7 := blk_lt B7.out
    have z0 := blk_cell K.out.z 0 _ rfl
    have z1 := blk_cell K.out.z 1 _ rfl
    have f0 := blk_frozen K.out.z 0
    have f1 := blk_frozen K.out.z 1
    by_cases cz : ZZ = 0
    ·have F : Hid (res = (0, 1, 0)) := Lib.hid (by rw [FT.out, if_pos cz])
     clear FT
     have z0' : dg ZZ 0 = 0 := by rw [cz]; exact dg_zero 0
     have z1' : dg ZZ 1 = 0 := by rw [cz]; exact dg_zero 1
     have z2' : dg ZZ 2 = 0 := by rw [cz]; exact dg_zero 2
     have z3' : dg ZZ 3 = 0 := by rw [cz]; exact dg_zero 3
     rw [z0'] at u0
     rw [z1'] at u1
     rw [z2'] at u2
     rw [z3'] at u3
     clear cz z0' z1' z2' z3'
     go_wp2_with fail
     have e1 := blk_cell (blk_set (blk_set K.out.z 0 (.int .i64 0)) 1 (.int .i64 1)) 0 _ rfl
     have e2 := blk_cell (blk_set (blk_set K.out.z 0 (.int .i64 0)) 1 (.int .i64 1)) 1 _ rfl
     refine bodyPost_ret (v := .tuple #[Fv 0 1, .int .i64 0]) (by simp [results, Try.results57, go_sem, e1, e2]) rfl ⟨by rw [F.out], Bset1 (Bset1 K.out.n (by omega) _ _) (by omega) _ _⟩
    ·have FT' : Hid (res = lowF (decide (an < 0)) ZZ (y1 * (v / h))) := Lib.hid (by rw [FT.out, if_neg cz])
     clear FT
     have ca := dg_all smZ cz
     clear cz
     have lE : v / h ≤ 1000000000000000000 := Nat.le_trans (Nat.div_le_self _ _) (by omega)
     have t5 := tdivN v h
     generalize v / h = E2 at *
     have wE : IntKind.u64.wrap (E2 : Int) = (E2 : Int) := wrapN _ (by omega)
     have MP := Lib.hid (fun W => refProduct_calls y1 E2 W (by omega) (by omega))
     have q2 : sm4 (y1 * E2) := sm4_prod (by omega) (by omega)
     generalize y1 * E2 = QQ at *
     have LC : Hid (∀ W, Calls Try.prog 71 #[.bool (decide (an < 0)), Dv ZZ, Dv QQ] W fun e w' => e = .returned (Rv (lowF (decide (an < 0)) ZZ QQ)) ∧ Below W.heap.size W w') := Lib.hid (fun W => by
      have := lowest_calls (decide (an < 0)) (dg ZZ 0) (dg ZZ 1) (dg ZZ 2) (dg ZZ 3) (dg QQ 0) (dg QQ 1) (dg QQ 2) (dg QQ 3) W (dg_lt _ _) (dg_lt _ _) (dg_lt _ _) (dg_lt _ _)
      rw [big_dg smZ, big_dg q2] at this
      exact this)
     generalize lowF (decide (an < 0)) ZZ QQ = r at *
     obtain ⟨r1, r2, r3⟩ := r
     clear q2
     have hp4 : ¬ h = 0 := by omega
     go_wp2_with fail
     clear z0 z1 f0 f1 ca smZ u0 uf0 u1 uf1 u2 uf2 u3 uf3 l7
     refine region_I (S := SK [(1, w.heap.size, .cells #[.int .i64 an, .int .i64 y] 80), (5, w.heap.size, .cells #[.int .i64 an, .int .i64 y] 80), (3, g7, .cells #[.int .u64 (dg ZZ 0 : Int), .int .u64 (dg ZZ 1 : Int), .int .u64 (dg ZZ 2 : Int), .int .u64 (dg ZZ 3 : Int)] 110), (10, w.heap.size + 1, .cells #[.int .i64 bn, .int .i64 v] 80)]) (by kernel_rfl) ?_
     have HAL := Lib.hid (fun (k : Nat) => (show SK [(1, w.heap.size, .cells #[.int .i64 an, .int .i64 y] 80), (5, w.heap.size, .cells #[.int .i64 an, .int .i64 y] 80), (3, g7, .cells #[.int .u64 (dg ZZ 0 : Int), .int .u64 (dg ZZ 1 : Int), .int .u64 (dg ZZ 2 : Int), .int .u64 (dg ZZ 3 : Int)] 110), (10, w.heap.size + 1, .cells #[.int .i64 bn, .int .i64 v] 80)] k W6.drew from fun p hp e => by
      simp only [List.mem_cons, List.not_mem_nil, or_false] at hp
      rcases hp with rfl | rfl | rfl | rfl
      ·exact K.out.a
      ·exact K.out.a
      ·exact B7.out
      ·exact K.out.b))
     refine take_I 0 (.pointer (some ⟨w.heap.size, 0, none⟩)) (some 85) rfl (by kernel_rfl) (by kernel_rfl) (by kernel_rfl) rfl (fun _ _ _ h => h) (Or.inl ⟨by rfl, ?_⟩) (HAL.out 0) ?_
     ·intro X hX
      clear hX
      go_simp
     try simp only [Act.put, zA, zB, zC]
     refine take_I 1 (.int .i64 an) (some 86) rfl (by kernel_rfl) (by kernel_rfl) (by kernel_rfl) rfl (fun _ _ _ h => h) (Or.inl ⟨by rfl, ?_⟩) (HAL.out 1) ?_
     ·intro X hX
      have hh := hX (1, w.heap.size, .cells #[.int .i64 an, .int .i64 y] 80) (List.Mem.head _) rfl
      have hh0 := blk_cell hh 0 _ rfl
      have hhl := blk_lt hh
      clear hh
      clear hX
      go_simp
     try simp only [Act.put, zA, zB, zC]
     refine take_I 2 (.bool (decide (an < 0))) (some 87) rfl (by kernel_rfl) (by kernel_rfl) (by kernel_rfl) rfl (fun _ _ _ h => h) (Or.inl ⟨by rfl, ?_⟩) (HAL.out 2) ?_
     ·intro X hX
      clear hX
      go_simp
     try simp only [Act.put, zA, zB, zC]
     refine take_I 3 (Dv ZZ) (some 88) rfl (by kernel_rfl) (by kernel_rfl) (by kernel_rfl) rfl (fun _ _ _ h => h) (Or.inl ⟨by rfl, ?_⟩) (HAL.out 3) ?_
     ·intro X hX
      have hh := hX (3, g7, .cells #[.int .u64 (dg ZZ 0 : Int), .int .u64 (dg ZZ 1 : Int), .int .u64 (dg ZZ 2 : Int), .int .u64 (dg ZZ 3 : Int)] 110) (List.Mem.tail _ (List.Mem.tail _ (List.Mem.head _))) rfl
      have hh0 := blk_cell hh 0 _ rfl
      have hh1 := blk_cell hh 1 _ rfl
      have hh2 := blk_cell hh 2 _ rfl
      have hh3 := blk_cell hh 3 _ rfl
      have hhl := blk_lt hh
      clear hh
      clear hX
      go_simp
     try simp only [Act.put, zA, zB, zC]
     refine take_I 4 (.pointer (some ⟨w.heap.size, 1, none⟩)) (some 89) rfl (by kernel_rfl) (by kernel_rfl) (by kernel_rfl) rfl (fun _ _ _ h => h) (Or.inl ⟨by rfl, ?_⟩) (HAL.out 4) ?_
     ·intro X hX
      clear hX
      go_simp
     try simp only [Act.put, zA, zB, zC]
     refine take_I 5 (.int .i64 y) (some 90) rfl (by kernel_rfl) (by kernel_rfl) (by kernel_rfl) rfl (fun _ _ _ h => h) (Or.inl ⟨by rfl, ?_⟩) (HAL.out 5) ?_
     ·intro X hX
      have hh := hX (5, w.heap.size, .cells #[.int .i64 an, .int .i64 y] 80) (List.Mem.tail _ (List.Mem.head _)) rfl
      have hh1 := blk_cell hh 1 _ rfl
      have hhl := blk_lt hh
      clear hh
      clear hX
      go_simp
     try simp only [Act.put, zA, zB, zC]
     refine take_I 6 (.int .u64 y) (some 91) rfl (by kernel_rfl) (by kernel_rfl) (by kernel_rfl) rfl (fun _ _ _ h => h) (Or.inl ⟨by rfl, ?_⟩) (HAL.out 6) ?_
     ·intro X hX
      clear hX
      go_simp
     try simp only [Act.put, zA, zB, zC]
     refine take_I 7 (.int .u64 g) (some 92) rfl (by kernel_rfl) (by kernel_rfl) (by kernel_rfl) rfl (fun _ _ _ h => h) (Or.inl ⟨by rfl, ?_⟩) (HAL.out 7) ?_
     ·intro X hX
      clear hX
      go_simp
     try simp only [Act.put, zA, zB, zC]
     refine take_I 8 (.int .u64 y1) (some 93) rfl (by kernel_rfl) (by kernel_rfl) (by kernel_rfl) rfl (fun _ _ _ h => h) (Or.inl ⟨by rfl, ?_⟩) (HAL.out 8) ?_
     ·intro X hX
      clear hX
      go_simp
     try simp only [Act.put, zA, zB, zC]
     refine take_I 9 (.pointer (some ⟨w.heap.size + 1, 1, none⟩)) (some 94) rfl (by kernel_rfl) (by kernel_rfl) (by kernel_rfl) rfl (fun _ _ _ h => h) (Or.inl ⟨by rfl, ?_⟩) (HAL.out 9) ?_
     ·intro X hX
      clear hX
      go_simp
     try simp only [Act.put, zA, zB, zC]
     refine take_I 10 (.int .i64 v) (some 95) rfl (by kernel_rfl) (by kernel_rfl) (by kernel_rfl) rfl (fun _ _ _ h => h) (Or.inl ⟨by rfl, ?_⟩) (HAL.out 10) ?_
     ·intro X hX
      have hh := hX (10, w.heap.size + 1, .cells #[.int .i64 bn, .int .i64 v] 80) (List.Mem.tail _ (List.Mem.tail _ (List.Mem.tail _ (List.Mem.head _)))) rfl
      have hh1 := blk_cell hh 1 _ rfl
      have hhl := blk_lt hh
      clear hh
      clear hX
      go_simp
     try simp only [Act.put, zA, zB, zC]
     refine take_I 11 (.int .u64 v) (some 96) rfl (by kernel_rfl) (by kernel_rfl) (by kernel_rfl) rfl (fun _ _ _ h => h) (Or.inl ⟨by rfl, ?_⟩) (HAL.out 11) ?_
     ·intro X hX
      clear hX
      go_simp
     try simp only [Act.put, zA, zB, zC]
     refine take_I 12 (.int .u64 h) (some 97) rfl (by kernel_rfl) (by kernel_rfl) (by kernel_rfl) rfl (fun _ _ _ h => h) (Or.inl ⟨by rfl, ?_⟩) (HAL.out 12) ?_
     ·intro X hX
      clear hX
      go_simp
     try simp only [Act.put, zA, zB, zC]
     refine take_I 13 (.int .u64 E2) (some 98) rfl (by kernel_rfl) (by kernel_rfl) (by kernel_rfl) rfl (fun _ _ _ h => h) (Or.inl ⟨by rfl, ?_⟩) (HAL.out 13) ?_
     ·intro X hX
      clear hX
      go_simp
     try simp only [Act.put, zA, zB, zC]
     refine only_I 14 (by kernel_rfl) rfl (fun K' hK' => ?_)
     go_simp
     go_at_call 74
     refine (MP.out _).mono ?_
     rintro e w7 ⟨rfl, hb⟩
     go_simp
     refine hK'.out _ _ (fun k _ hS => hS.next hb) ?_
     clear hK' K'
     try simp only [Act.put, zA, zB, zC]
     replace K := Lib.hid (K.out.next (undrewB hb))
     clear hb HAL
     refine only_I 15 (by kernel_rfl) rfl (fun K' hK' => ?_)
     go_simp
     go_at_call 71
     refine (LC.out _).mono ?_
     rintro e w8 ⟨rfl, hb⟩
     go_simp
     refine hK'.out _ _ (fun k _ hS => hS.next hb) ?_
     clear hK' K'
     try simp only [Act.put, zA, zB, zC]
     replace K := Lib.hid (K.out.next hb)
     clear hb
     refine take_I 16 (Fv r1 r2) (some 101) rfl (by kernel_rfl) (by kernel_rfl) (by kernel_rfl) rfl (fun _ _ _ h => h) (Or.inl ⟨by rfl, ?_⟩) (SK.drop (by simp)) ?_
     ·intro X hX
      clear hX
      go_simp
     try simp only [Act.put, zA, zB, zC]
     refine take_I 17 (.int .i64 r3) (some 102) rfl (by kernel_rfl) (by kernel_rfl) (by kernel_rfl) rfl (fun _ _ _ h => h) (Or.inl ⟨by rfl, ?_⟩) (SK.drop (by simp)) ?_
     ·intro X hX
      clear hX
      go_simp
     try simp only [Act.put, zA, zB, zC]
     have z0 := blk_cell K.out.z 0 _ rfl
     have z1 := blk_cell K.out.z 1 _ rfl
     have f0 := blk_frozen K.out.z 0
     have f1 := blk_frozen K.out.z 1
     refine only_I 18 (by kernel_rfl) rfl (fun K' hK' => ?_)
     go_simp
     refine hK'.out _ _ (fun k hk hS p hp e => by
      have hq := hS p hp e
      simp only [List.mem_cons, List.not_mem_nil, or_false] at hp
      rcases hp with rfl | rfl | rfl | rfl
      ·subst e; exact bfl (by kernel_rfl) hk
      ·subst e; exact bfl (by kernel_rfl) hk
      ·subst e; exact bfl (by kernel_rfl) hk
      ·subst e; exact bfl (by kernel_rfl) hk
      ) ?_
     clear hK' K'
     try simp only [Act.put, zA, zB, zC]
     refine only_I 19 (by kernel_rfl) rfl (fun K' hK' => ?_)
     go_simp
     refine hK'.out _ _ (fun k hk hS p hp e => by
      have hq := hS p hp e
      simp only [List.mem_cons, List.not_mem_nil, or_false] at hp
      rcases hp with rfl | rfl | rfl | rfl
      ·subst e; exact bfl (by kernel_rfl) hk
      ·subst e; exact bfl (by kernel_rfl) hk
      ·subst e; exact bfl (by kernel_rfl) hk
      ·subst e; exact bfl (by kernel_rfl) hk
      ) ?_
     clear hK' K'
     try simp only [Act.put, zA, zB, zC]
     refine done_I (by kernel_rfl) ?_ _
     have F : Hid (res = (r1, r2, r3)) := FT'
     go_wp2_with fail
     have e1 := blk_cell (blk_set (blk_set K.out.z 0 (.int .i64 r1)) 1 (.int .i64 r2)) 0 _ rfl
     have e2 := blk_cell (blk_set (blk_set K.out.z 0 (.int .i64 r1)) 1 (.int .i64 r2)) 1 _ rfl
     refine bodyPost_ret (v := .tuple #[Fv r1 r2, .int .i64 r3]) (by simp [results, Try.results57, go_sem, e1, e2]) rfl ⟨by rw [F.out], Bset1 (Bset1 K.out.n (by omega) _ _) (by omega) _ _⟩
   ·have cs' : (decide (an < 0) == decide (bn < 0)) = false := by rw [beq_eq_false_iff_ne]; exact cs
    by_cases cp : P < Q
    ·have FE : Hid (res = tailF (decide (bn < 0)) (Q - P) g v y) := Lib.hid (by have t := F.out; unfold addP at t; rw [if_neg cs, if_pos cp] at t; exact t)
     replace LESB : Hid (∀ W, Calls Try.prog 76 #[Dv P, Dv Q] W fun e w' => e = .returned (.bool true) ∧ Below W.heap.size W w') := Lib.hid (fun W => by have t := LESB.out W; rw [decide_eq_true cp] at t; exact t)
     replace RESB := Lib.hid (fun W => RESB.out W (by omega))
     clear F cs cp SUMB RESA
     have a0 := blk_cell K2.out.a 0 _ rfl
     have a1 := blk_cell K2.out.a 1 _ rfl
     have b0 := blk_cell K2.out.b 0 _ rfl
     have b1 := blk_cell K2.out.b 1 _ rfl
     have u0 := blk_cell B7.out 0 _ rfl
     have uf0 := blk_frozen B7.out 0
     have u1 := blk_cell B7.out 1 _ rfl
     have uf1 := blk_frozen B7.out 1
     have u2 := blk_cell B7.out 2 _ rfl
     have uf2 := blk_frozen B7.out 2
     have u3 := blk_cell B7.out 3 _ rfl
     have uf3 := blk_frozen B7.out 3
     have l7 := blk_lt B7.out
     have v0 := blk_cell B8.out 0 _ rfl
     have v1 := blk_cell B8.out 1 _ rfl
     have v2 := blk_cell B8.out 2 _ rfl
     have v3 := blk_cell B8.out 3 _ rfl
     have l8 := blk_lt B8.out
     go_wp2_with fail
     refine (LESB.out _).mono ?_
     rintro e w3 ⟨rfl, hb⟩
     have K := Lib.hid (K2.out.next hb)
     replace B7 := Lib.hid (blk_next hb B7.out)
     replace B8 := Lib.hid (blk_next hb B8.out)
     clear hb K2
     clear a0 a1 b0 b1 u0 uf0 u1 uf1 u2 uf2 u3 uf3 l7 v0 v1 v2 v3 l8
     have xb : Q - P ≤ 2000000000000000000000000000000000000 := by have := Q1.out; have := Q2.out; omega
     generalize Q - P = XX at *
     go_upto_region 8 with fail
     refine region_I (S := SK [(0, g8, .cells #[.int .u64 (dg Q 0 : Int), .int .u64 (dg Q 1 : Int), .int .u64 (dg Q 2 : Int), .int .u64 (dg Q 3 : Int)] 110), (1, g7, .cells #[.int .u64 (dg P 0 : Int), .int .u64 (dg P 1 : Int), .int .u64 (dg P 2 : Int), .int .u64 (dg P 3 : Int)] 110), (3, w.heap.size + 1, .cells #[.int .i64 bn, .int .i64 v] 80), (4, w.heap.size, .cells #[.int .i64 an, .int .i64 y] 80)]) (by kernel_rfl) ?_
     have HAL := Lib.hid (fun (k : Nat) => (show SK [(0, g8, .cells #[.int .u64 (dg Q 0 : Int), .int .u64 (dg Q 1 : Int), .int .u64 (dg Q 2 : Int), .int .u64 (dg Q 3 : Int)] 110), (1, g7, .cells #[.int .u64 (dg P 0 : Int), .int .u64 (dg P 1 : Int), .int .u64 (dg P 2 : Int), .int .u64 (dg P 3 : Int)] 110), (3, w.heap.size + 1, .cells #[.int .i64 bn, .int .i64 v] 80), (4, w.heap.size, .cells #[.int .i64 an, .int .i64 y] 80)] k w3.drew from fun p hp e => by
      simp only [List.mem_cons, List.not_mem_nil, or_false] at hp
      rcases hp with rfl | rfl | rfl | rfl
      ·exact B8.out
      ·exact B7.out
      ·exact K.out.b
      ·exact K.out.a))
     refine take_I 0 (Dv Q) (some 58) rfl (by kernel_rfl) (by kernel_rfl) (by kernel_rfl) rfl (fun _ _ _ h => h) (Or.inl ⟨by rfl, ?_⟩) (HAL.out 0) ?_
     ·intro X hX
      have hh := hX (0, g8, .cells #[.int .u64 (dg Q 0 : Int), .int .u64 (dg Q 1 : Int), .int .u64 (dg Q 2 : Int), .int .u64 (dg Q 3 : Int)] 110) (List.Mem.head _) rfl
      have hh0 := blk_cell hh 0 _ rfl
      have hh1 := blk_cell hh 1 _ rfl
      have hh2 := blk_cell hh 2 _ rfl
      have hh3 := blk_cell hh 3 _ rfl
      have hhl := blk_lt hh
      clear hh
      clear hX
      go_simp
     try simp only [Act.put, zA, zB, zC]
     refine take_I 1 (Dv P) (some 59) rfl (by kernel_rfl) (by kernel_rfl) (by kernel_rfl) rfl (fun _ _ _ h => h) (Or.inl ⟨by rfl, ?_⟩) (HAL.out 1) ?_
     ·intro X hX
      have hh := hX (1, g7, .cells #[.int .u64 (dg P 0 : Int), .int .u64 (dg P 1 : Int), .int .u64 (dg P 2 : Int), .int .u64 (dg P 3 : Int)] 110) (List.Mem.tail _ (List.Mem.head _)) rfl
      have hh0 := blk_cell hh 0 _ rfl
      have hh1 := blk_cell hh 1 _ rfl
      have hh2 := blk_cell hh 2 _ rfl
      have hh3 := blk_cell hh 3 _ rfl
      have hhl := blk_lt hh
      clear hh
      clear hX
      go_simp
     try simp only [Act.put, zA, zB, zC]
     refine take_I 3 (Fv bn v) (some 61) rfl (by kernel_rfl) (by kernel_rfl) (by kernel_rfl) rfl (fun _ _ _ h => h) (Or.inl ⟨by rfl, ?_⟩) (HAL.out 3) ?_
     ·intro X hX
      have hh := hX (3, w.heap.size + 1, .cells #[.int .i64 bn, .int .i64 v] 80) (List.Mem.tail _ (List.Mem.tail _ (List.Mem.head _))) rfl
      have hh0 := blk_cell hh 0 _ rfl
      have hh1 := blk_cell hh 1 _ rfl
      have hhl := blk_lt hh
      clear hh
      clear hX
      go_simp
     try simp only [Act.put, zA, zB, zC]
     refine take_I 4 (Fv an y) (some 62) rfl (by kernel_rfl) (by kernel_rfl) (by kernel_rfl) rfl (fun _ _ _ h => h) (Or.inl ⟨by rfl, ?_⟩) (HAL.out 4) ?_
     ·intro X hX
      have hh := hX (4, w.heap.size, .cells #[.int .i64 an, .int .i64 y] 80) (List.Mem.tail _ (List.Mem.tail _ (List.Mem.tail _ (List.Mem.head _)))) rfl
      have hh0 := blk_cell hh 0 _ rfl
      have hh1 := blk_cell hh 1 _ rfl
      have hhl := blk_lt hh
      clear hh
      clear hX
      go_simp
     try simp only [Act.put, zA, zB, zC]
     refine only_I 2 (by kernel_rfl) rfl (fun K' hK' => ?_)
     go_simp
     go_at_call 77
     refine (RESB.out _).mono ?_
     rintro e w5 ⟨rfl, hb⟩
     go_simp
     refine hK'.out _ _ (fun k _ hS => hS.next hb) ?_
     clear hK' K'
     try simp only [Act.put, zA, zB, zC]
     replace K := Lib.hid (K.out.next (undrewB hb))
     replace B7 := Lib.hid (blk_next (undrewB hb) B7.out)
     clear hb HAL B8
     have u0 := blk_cell B7.out 0 _ rfl
     have uf0 := blk_frozen B7.out 0
     have u1 := blk_cell B7.out 1 _ rfl
     have uf1 := blk_frozen B7.out 1
     have u2 := blk_cell B7.out 2 _ rfl
     have uf2 := blk_frozen B7.out 2
     have u3 := blk_cell B7.out 3 _ rfl
     have uf3 := blk_frozen B7.out 3
     have l7 := blk_lt B7.out
     have a0 := blk_cell K.out.a 0 _ rfl
     have a1 := blk_cell K.out.a 1 _ rfl
     have af0 := blk_frozen K.out.a 0
     have af1 := blk_frozen K.out.a 1
     have al := blk_lt K.out.a
     have b0 := blk_cell K.out.b 0 _ rfl
     have b1 := blk_cell K.out.b 1 _ rfl
     have bf0 := blk_frozen K.out.b 0
     have bf1 := blk_frozen K.out.b 1
     have bl := blk_lt K.out.b
     have x1 : ¬ g7 = w.heap.size := by omega
     have x2 : ¬ w.heap.size = g7 := by omega
     have x3 : ¬ g7 = w.heap.size + 1 := by omega
     have x4 : ¬ w.heap.size + 1 = g7 := by omega
     refine only_I 5 (by kernel_rfl) rfl (fun K' hK' => ?_)
     go_simp
     refine hK'.out _ _ (fun k hk hS p hp e => by
      have hq := hS p hp e
      simp only [List.mem_cons, List.not_mem_nil, or_false] at hp
      rcases hp with rfl | rfl | rfl | rfl
      ·subst e; exact bfl (by kernel_rfl) hk
      ·subst e; exact bfl (by kernel_rfl) hk
      ·exact blk_set_other (blk_set_other (blk_set_other (blk_set_other hq (by omega) _ _) (by omega) _ _) (by omega) _ _) (by omega) _ _
      ·subst e; exact bfl (by kernel_rfl) hk
      ) ?_
     clear hK' K'
     try simp only [Act.put, zA, zB, zC]
     refine only_I 6 (by kernel_rfl) rfl (fun K' hK' => ?_)
     go_simp
     refine hK'.out _ _ (fun k hk hS p hp e => by
      have hq := hS p hp e
      simp only [List.mem_cons, List.not_mem_nil, or_false] at hp
      rcases hp with rfl | rfl | rfl | rfl
      ·subst e; exact bfl (by kernel_rfl) hk
      ·subst e; exact bfl (by kernel_rfl) hk
      ·subst e; exact bfl (by kernel_rfl) hk
      ·subst e; exact bfl (by kernel_rfl) hk
      ) ?_
     clear hK' K'
     try simp only [Act.put, zA, zB, zC]
     refine only_I 7 (by kernel_rfl) rfl (fun K' hK' => ?_)
     go_simp
     refine hK'.out _ _ (fun k hk hS p hp e => by
      have hq := hS p hp e
      simp only [List.mem_cons, List.not_mem_nil, or_false] at hp
      rcases hp with rfl | rfl | rfl | rfl
      ·subst e; exact bfl (by kernel_rfl) hk
      ·subst e; exact bfl (by kernel_rfl) hk
      ·subst e; exact bfl (by kernel_rfl) hk
      ·subst e; exact bfl (by kernel_rfl) hk
      ) ?_
     clear hK' K'
     try simp only [Act.put, zA, zB, zC]
     refine done_I (by kernel_rfl) ?_ _
     go_upto_region 10 with fail
     have K' : Hid (PK w ((((((((w5.setCell ⟨g7, 0, none⟩ (.int .u64 (dg XX 0 : Int))).setCell ⟨g7, 1, none⟩ (.int .u64 (dg XX 1 : Int))).setCell ⟨g7, 2, none⟩ (.int .u64 (dg XX 2 : Int))).setCell ⟨g7, 3, none⟩ (.int .u64 (dg XX 3 : Int))).setCell ⟨w.heap.size, 0, none⟩ (.int .i64 bn)).setCell ⟨w.heap.size, 1, none⟩ (.int .i64 v)).setCell ⟨w.heap.size + 1, 0, none⟩ (.int .i64 an)).setCell ⟨w.heap.size + 1, 1, none⟩ (.int .i64 y)) bn v an y) := Lib.hid ((K.out.set4 n7 _ _ _ _).swap _ _ _ _)
     have B7' : Hid (((((((((w5.setCell ⟨g7, 0, none⟩ (.int .u64 (dg XX 0 : Int))).setCell ⟨g7, 1, none⟩ (.int .u64 (dg XX 1 : Int))).setCell ⟨g7, 2, none⟩ (.int .u64 (dg XX 2 : Int))).setCell ⟨g7, 3, none⟩ (.int .u64 (dg XX 3 : Int))).setCell ⟨w.heap.size, 0, none⟩ (.int .i64 bn)).setCell ⟨w.heap.size, 1, none⟩ (.int .i64 v)).setCell ⟨w.heap.size + 1, 0, none⟩ (.int .i64 an)).setCell ⟨w.heap.size + 1, 1, none⟩ (.int .i64 y)).heap[g7]? = some (.cells #[.int .u64 (dg XX 0 : Int), .int .u64 (dg XX 1 : Int), .int .u64 (dg XX 2 : Int), .int .u64 (dg XX 3 : Int)] 110)) := Lib.hid (blk_set_other (blk_set_other (blk_set_other (blk_set_other (blk_put4 B7.out _ _ _ _) (by omega) _ _) (by omega) _ _) (by omega) _ _) (by omega) _ _)
     clear K B7 a0 a1 b0 b1 af0 af1 bf0 bf1 al bl
     have K := K'
     have B7 := B7'
     clear K' B7'
     clear u0 uf0 u1 uf1 u2 uf2 u3 uf3 l7
     generalize ((((((((w5.setCell ⟨g7, 0, none⟩ (.int .u64 (dg XX 0 : Int))).setCell ⟨g7, 1, none⟩ (.int .u64 (dg XX 1 : Int))).setCell ⟨g7, 2, none⟩ (.int .u64 (dg XX 2 : Int))).setCell ⟨g7, 3, none⟩ (.int .u64 (dg XX 3 : Int))).setCell ⟨w.heap.size, 0, none⟩ (.int .i64 bn)).setCell ⟨w.heap.size, 1, none⟩ (.int .i64 v)).setCell ⟨w.heap.size + 1, 0, none⟩ (.int .i64 an)).setCell ⟨w.heap.size + 1, 1, none⟩ (.int .i64 y)) = Wc at *
     have FT : Hid (res = if XX / Nat.gcd (XX % g) g = 0 then (0, 1, 0) else lowF (decide (bn < 0)) (XX / Nat.gcd (XX % g) g) (v1 * (y / Nat.gcd (XX % g) g))) := Lib.hid (by have t := FE.out; unfold tailF at t; rw [HV.out] at t; exact t)
     clear FE
     have smX : sm4 XX := by unfold sm4; omega
     have O1 := Lib.hid (fun W => refOver_calls XX g W smX (by omega) gb)
     have rl : XX % g < g := Nat.mod_lt _ (by omega)
     have G2 := Lib.hid (fun W => refGcd_calls (XX % g) g W (by omega) (by omega))
     have h0 : 0 < Nat.gcd (XX % g) g := Nat.gcd_pos_of_pos_right _ (by omega)
     have h1 : Nat.gcd (XX % g) g ≤ g := Nat.gcd_le_right _ (by omega)
     have O2 := Lib.hid (fun W => refOver_calls XX (Nat.gcd (XX % g) g) W smX (by omega) (by omega))
     generalize Nat.gcd (XX % g) g = h at *
     generalize XX % g = RR at *
     generalize XX / g = YY at *
     have zl : XX / h ≤ XX := Nat.div_le_self _ _
     have smZ : sm4 (XX / h) := by unfold sm4; omega
     generalize XX / h = ZZ at *
     generalize XX % h = SS at *
     have u0 := blk_cell B7.out 0 _ rfl
     have uf0 := blk_frozen B7.out 0
     have u1 := blk_cell B7.out 1 _ rfl
     have uf1 := blk_frozen B7.out 1
     have u2 := blk_cell B7.out 2 _ rfl
     have uf2 := blk_frozen B7.out 2
     have u3 := blk_cell B7.out 3 _ rfl
     have uf3 := blk_frozen B7.out 3
     have l7 := blk_lt B7.out
     go_wp2_with fail
     refine (O1.out _).mono ?_
     rintro e w4 ⟨rfl, hb⟩
     replace K := Lib.hid (K.out.next hb)
     replace B7 := Lib.hid (blk_next hb B7.out)
     clear hb
     clear u0 uf0 u1 uf1 u2 uf2 u3 uf3 l7
     go_wp2_with fail
     refine (G2.out _).mono ?_
     rintro e w5 ⟨rfl, m, rfl⟩
     replace K := Lib.hid ((K.out.next (Bal (Below.refl _ _) (.cells #[.int .u64 (dg YY 0 : Int), .int .u64 (dg YY 1 : Int), .int .u64 (dg YY 2 : Int), .int .u64 (dg YY 3 : Int)] 110))).drewN m)
     replace B7 := Lib.hid (blk_drewN (blk_alloc B7.out (.cells #[.int .u64 (dg YY 0 : Int), .int .u64 (dg YY 1 : Int), .int .u64 (dg YY 2 : Int), .int .u64 (dg YY 3 : Int)] 110)) m)
     generalize (w4.alloc (.cells #[.int .u64 (dg YY 0 : Int), .int .u64 (dg YY 1 : Int), .int .u64 (dg YY 2 : Int), .int .u64 (dg YY 3 : Int)] 110)).drewN m = W5 at *
     have u0 := blk_cell B7.out 0 _ rfl
     have uf0 := blk_frozen B7.out 0
     have u1 := blk_cell B7.out 1 _ rfl
     have uf1 := blk_frozen B7.out 1
     have u2 := blk_cell B7.out 2 _ rfl
     have uf2 := blk_frozen B7.out 2
     have u3 := blk_cell B7.out 3 _ rfl
     have uf3 := blk_frozen B7.out 3
     have l7 := blk_lt B7.out
     go_wp2_with fail
     refine (O2.out _).mono ?_
     rintro e w6 ⟨rfl, hb⟩
     replace K := Lib.hid (K.out.next hb)
     replace B7 := Lib.hid (blk_next hb B7.out)
     clear hb
     clear u0 uf0 u1 uf1 u2 uf2 u3 uf3 l7
     have u0 := blk_cell B7.out 0 _ rfl
     have uf0 := blk_frozen B7.out 0
     have u1 := blk_cell B7.out 1 _ rfl
     have uf1 := blk_frozen B7.out 1
     have u2 := blk_cell B7.out 2 _ rfl
     have uf2 := blk_frozen B7.out 2
     have u3 := blk_cell B7.out 3 _ rfl
     have uf3 := blk_frozen B7.out 3
     have l7 := blk_lt B7.out
     go_upto_region 13 with fail
     have K' : Hid (PK w ((((w6.setCell ⟨g7, 0, none⟩ (.int .u64 (dg ZZ 0 : Int))).setCell ⟨g7, 1, none⟩ (.int .u64 (dg ZZ 1 : Int))).setCell ⟨g7, 2, none⟩ (.int .u64 (dg ZZ 2 : Int))).setCell ⟨g7, 3, none⟩ (.int .u64 (dg ZZ 3 : Int))) bn v an y) := Lib.hid (K.out.set4 n7 _ _ _ _)
     have B7' : Hid (((((w6.setCell ⟨g7, 0, none⟩ (.int .u64 (dg ZZ 0 : Int))).setCell ⟨g7, 1, none⟩ (.int .u64 (dg ZZ 1 : Int))).setCell ⟨g7, 2, none⟩ (.int .u64 (dg ZZ 2 : Int))).setCell ⟨g7, 3, none⟩ (.int .u64 (dg ZZ 3 : Int))).heap[g7]? = some (.cells #[.int .u64 (dg ZZ 0 : Int), .int .u64 (dg ZZ 1 : Int), .int .u64 (dg ZZ 2 : Int), .int .u64 (dg ZZ 3 : Int)] 110)) := Lib.hid (blk_put4 B7.out _ _ _ _)
     clear K B7
     have K := K'
     have B7 := B7'
     clear K' B7'
     clear u0 uf0 u1 uf1 u2 uf2 u3 uf3 l7
     generalize ((((w6.setCell ⟨g7, 0, none⟩ (.int .u64 (dg ZZ 0 : Int))).setCell ⟨g7, 1, none⟩ (.int .u64 (dg ZZ 1 : Int))).setCell ⟨g7, 2, none⟩ (.int .u64 (dg ZZ 2 : Int))).setCell ⟨g7, 3, none⟩ (.int .u64 (dg ZZ 3 : Int))) = W6 at *
     have u0 := blk_cell B7.out 0 _ rfl
     have uf0 := blk_frozen B7.out 0
     have u1 := blk_cell B7.out 1 _ rfl
     have uf1 := blk_frozen B7.out 1
     have u2 := blk_cell B7.out 2 _ rfl
     have uf2 := blk_frozen B7.out 2
     have u3 := blk_cell B7.out 3 _ rfl
     have uf3 := blk_frozen B7.out 3
     have l7 := blk_lt B7.out
     have z0 := blk_cell K.out.z 0 _ rfl
     have z1 := blk_cell K.out.z 1 _ rfl
     have f0 := blk_frozen K.out.z 0
     have f1 := blk_frozen K.out.z 1
     by_cases cz : ZZ = 0
     ·have F : Hid (res = (0, 1, 0)) := Lib.hid (by rw [FT.out, if_pos cz])
      clear FT
      have z0' : dg ZZ 0 = 0 := by rw [cz]; exact dg_zero 0
      have z1' : dg ZZ 1 = 0 := by rw [cz]; exact dg_zero 1
      have z2' : dg ZZ 2 = 0 := by rw [cz]; exact dg_zero 2
      have z3' : dg ZZ 3 = 0 := by rw [cz]; exact dg_zero 3
      rw [z0'] at u0
      rw [z1'] at u1
      rw [z2'] at u2
      rw [z3'] at u3
      clear cz z0' z1' z2' z3'
      go_wp2_with fail
      have e1 := blk_cell (blk_set (blk_set K.out.z 0 (.int .i64 0)) 1 (.int .i64 1)) 0 _ rfl
      have e2 := blk_cell (blk_set (blk_set K.out.z 0 (.int .i64 0)) 1 (.int .i64 1)) 1 _ rfl
      refine bodyPost_ret (v := .tuple #[Fv 0 1, .int .i64 0]) (by simp [results, Try.results57, go_sem, e1, e2]) rfl ⟨by rw [F.out], Bset1 (Bset1 K.out.n (by omega) _ _) (by omega) _ _⟩
     ·have FT' : Hid (res = lowF (decide (bn < 0)) ZZ (v1 * (y / h))) := Lib.hid (by rw [FT.out, if_neg cz])
      clear FT
      have ca := dg_all smZ cz
      clear cz
      have lE : y / h ≤ 1000000000000000000 := Nat.le_trans (Nat.div_le_self _ _) (by omega)
      have t5 := tdivN y h
      generalize y / h = E2 at *
      have wE : IntKind.u64.wrap (E2 : Int) = (E2 : Int) := wrapN _ (by omega)
      have MP := Lib.hid (fun W => refProduct_calls v1 E2 W (by omega) (by omega))
      have q2 : sm4 (v1 * E2) := sm4_prod (by omega) (by omega)
      generalize v1 * E2 = QQ at *
      have LC : Hid (∀ W, Calls Try.prog 71 #[.bool (decide (bn < 0)), Dv ZZ, Dv QQ] W fun e w' => e = .returned (Rv (lowF (decide (bn < 0)) ZZ QQ)) ∧ Below W.heap.size W w') := Lib.hid (fun W => by
       have := lowest_calls (decide (bn < 0)) (dg ZZ 0) (dg ZZ 1) (dg ZZ 2) (dg ZZ 3) (dg QQ 0) (dg QQ 1) (dg QQ 2) (dg QQ 3) W (dg_lt _ _) (dg_lt _ _) (dg_lt _ _) (dg_lt _ _)
       rw [big_dg smZ, big_dg q2] at this
       exact this)
      generalize lowF (decide (bn < 0)) ZZ QQ = r at *
      obtain ⟨r1, r2, r3⟩ := r
      clear q2
      have hp4 : ¬ h = 0 := by omega
      go_wp2_with fail
      clear z0 z1 f0 f1 ca smZ u0 uf0 u1 uf1 u2 uf2 u3 uf3 l7
      refine region_I (S := SK [(1, w.heap.size, .cells #[.int .i64 bn, .int .i64 v] 80), (5, w.heap.size, .cells #[.int .i64 bn, .int .i64 v] 80), (3, g7, .cells #[.int .u64 (dg ZZ 0 : Int), .int .u64 (dg ZZ 1 : Int), .int .u64 (dg ZZ 2 : Int), .int .u64 (dg ZZ 3 : Int)] 110), (10, w.heap.size + 1, .cells #[.int .i64 an, .int .i64 y] 80)]) (by kernel_rfl) ?_
      have HAL := Lib.hid (fun (k : Nat) => (show SK [(1, w.heap.size, .cells #[.int .i64 bn, .int .i64 v] 80), (5, w.heap.size, .cells #[.int .i64 bn, .int .i64 v] 80), (3, g7, .cells #[.int .u64 (dg ZZ 0 : Int), .int .u64 (dg ZZ 1 : Int), .int .u64 (dg ZZ 2 : Int), .int .u64 (dg ZZ 3 : Int)] 110), (10, w.heap.size + 1, .cells #[.int .i64 an, .int .i64 y] 80)] k W6.drew from fun p hp e => by
       simp only [List.mem_cons, List.not_mem_nil, or_false] at hp
       rcases hp with rfl | rfl | rfl | rfl
       ·exact K.out.a
       ·exact K.out.a
       ·exact B7.out
       ·exact K.out.b))
      refine take_I 0 (.pointer (some ⟨w.heap.size, 0, none⟩)) (some 85) rfl (by kernel_rfl) (by kernel_rfl) (by kernel_rfl) rfl (fun _ _ _ h => h) (Or.inl ⟨by rfl, ?_⟩) (HAL.out 0) ?_
      ·intro X hX
       clear hX
       go_simp
      try simp only [Act.put, zA, zB, zC]
      refine take_I 1 (.int .i64 bn) (some 86) rfl (by kernel_rfl) (by kernel_rfl) (by kernel_rfl) rfl (fun _ _ _ h => h) (Or.inl ⟨by rfl, ?_⟩) (HAL.out 1) ?_
      ·intro X hX
       have hh := hX (1, w.heap.size, .cells #[.int .i64 bn, .int .i64 v] 80) (List.Mem.head _) rfl
       have hh0 := blk_cell hh 0 _ rfl
       have hhl := blk_lt hh
       clear hh
       clear hX
       go_simp
      try simp only [Act.put, zA, zB, zC]
      refine take_I 2 (.bool (decide (bn < 0))) (some 87) rfl (by kernel_rfl) (by kernel_rfl) (by kernel_rfl) rfl (fun _ _ _ h => h) (Or.inl ⟨by rfl, ?_⟩) (HAL.out 2) ?_
      ·intro X hX
       clear hX
       go_simp
      try simp only [Act.put, zA, zB, zC]
      refine take_I 3 (Dv ZZ) (some 88) rfl (by kernel_rfl) (by kernel_rfl) (by kernel_rfl) rfl (fun _ _ _ h => h) (Or.inl ⟨by rfl, ?_⟩) (HAL.out 3) ?_
      ·intro X hX
       have hh := hX (3, g7, .cells #[.int .u64 (dg ZZ 0 : Int), .int .u64 (dg ZZ 1 : Int), .int .u64 (dg ZZ 2 : Int), .int .u64 (dg ZZ 3 : Int)] 110) (List.Mem.tail _ (List.Mem.tail _ (List.Mem.head _))) rfl
       have hh0 := blk_cell hh 0 _ rfl
       have hh1 := blk_cell hh 1 _ rfl
       have hh2 := blk_cell hh 2 _ rfl
       have hh3 := blk_cell hh 3 _ rfl
       have hhl := blk_lt hh
       clear hh
       clear hX
       go_simp
      try simp only [Act.put, zA, zB, zC]
      refine take_I 4 (.pointer (some ⟨w.heap.size, 1, none⟩)) (some 89) rfl (by kernel_rfl) (by kernel_rfl) (by kernel_rfl) rfl (fun _ _ _ h => h) (Or.inl ⟨by rfl, ?_⟩) (HAL.out 4) ?_
      ·intro X hX
       clear hX
       go_simp
      try simp only [Act.put, zA, zB, zC]
      refine take_I 5 (.int .i64 v) (some 90) rfl (by kernel_rfl) (by kernel_rfl) (by kernel_rfl) rfl (fun _ _ _ h => h) (Or.inl ⟨by rfl, ?_⟩) (HAL.out 5) ?_
      ·intro X hX
       have hh := hX (5, w.heap.size, .cells #[.int .i64 bn, .int .i64 v] 80) (List.Mem.tail _ (List.Mem.head _)) rfl
       have hh1 := blk_cell hh 1 _ rfl
       have hhl := blk_lt hh
       clear hh
       clear hX
       go_simp
      try simp only [Act.put, zA, zB, zC]
      refine take_I 6 (.int .u64 v) (some 91) rfl (by kernel_rfl) (by kernel_rfl) (by kernel_rfl) rfl (fun _ _ _ h => h) (Or.inl ⟨by rfl, ?_⟩) (HAL.out 6) ?_
      ·intro X hX
       clear hX
       go_simp
      try simp only [Act.put, zA, zB, zC]
      refine take_I 7 (.int .u64 g) (some 92) rfl (by kernel_rfl) (by kernel_rfl) (by kernel_rfl) rfl (fun _ _ _ h => h) (Or.inl ⟨by rfl, ?_⟩) (HAL.out 7) ?_
      ·intro X hX
       clear hX
       go_simp
      try simp only [Act.put, zA, zB, zC]
      refine take_I 8 (.int .u64 v1) (some 93) rfl (by kernel_rfl) (by kernel_rfl) (by kernel_rfl) rfl (fun _ _ _ h => h) (Or.inl ⟨by rfl, ?_⟩) (HAL.out 8) ?_
      ·intro X hX
       clear hX
       go_simp
      try simp only [Act.put, zA, zB, zC]
      refine take_I 9 (.pointer (some ⟨w.heap.size + 1, 1, none⟩)) (some 94) rfl (by kernel_rfl) (by kernel_rfl) (by kernel_rfl) rfl (fun _ _ _ h => h) (Or.inl ⟨by rfl, ?_⟩) (HAL.out 9) ?_
      ·intro X hX
       clear hX
       go_simp
      try simp only [Act.put, zA, zB, zC]
      refine take_I 10 (.int .i64 y) (some 95) rfl (by kernel_rfl) (by kernel_rfl) (by kernel_rfl) rfl (fun _ _ _ h => h) (Or.inl ⟨by rfl, ?_⟩) (HAL.out 10) ?_
      ·intro X hX
       have hh := hX (10, w.heap.size + 1, .cells #[.int .i64 an, .int .i64 y] 80) (List.Mem.tail _ (List.Mem.tail _ (List.Mem.tail _ (List.Mem.head _)))) rfl
       have hh1 := blk_cell hh 1 _ rfl
       have hhl := blk_lt hh
       clear hh
       clear hX
       go_simp
      try simp only [Act.put, zA, zB, zC]
      refine take_I 11 (.int .u64 y) (some 96) rfl (by kernel_rfl) (by kernel_rfl) (by kernel_rfl) rfl (fun _ _ _ h => h) (Or.inl ⟨by rfl, ?_⟩) (HAL.out 11) ?_
      ·intro X hX
       clear hX
       go_simp
      try simp only [Act.put, zA, zB, zC]
      refine take_I 12 (.int .u64 h) (some 97) rfl (by kernel_rfl) (by kernel_rfl) (by kernel_rfl) rfl (fun _ _ _ h => h) (Or.inl ⟨by rfl, ?_⟩) (HAL.out 12) ?_
      ·intro X hX
       clear hX
       go_simp
      try simp only [Act.put, zA, zB, zC]
      refine take_I 13 (.int .u64 E2) (some 98) rfl (by kernel_rfl) (by kernel_rfl) (by kernel_rfl) rfl (fun _ _ _ h => h) (Or.inl ⟨by rfl, ?_⟩) (HAL.out 13) ?_
      ·intro X hX
       clear hX
       go_simp
      try simp only [Act.put, zA, zB, zC]
      refine only_I 14 (by kernel_rfl) rfl (fun K' hK' => ?_)
      go_simp
      go_at_call 74
      refine (MP.out _).mono ?_
      rintro e w7 ⟨rfl, hb⟩
      go_simp
      refine hK'.out _ _ (fun k _ hS => hS.next hb) ?_
      clear hK' K'
      try simp only [Act.put, zA, zB, zC]
      replace K := Lib.hid (K.out.next (undrewB hb))
      clear hb HAL
      refine only_I 15 (by kernel_rfl) rfl (fun K' hK' => ?_)
      go_simp
      go_at_call 71
      refine (LC.out _).mono ?_
      rintro e w8 ⟨rfl, hb⟩
      go_simp
      refine hK'.out _ _ (fun k _ hS => hS.next hb) ?_
      clear hK' K'
      try simp only [Act.put, zA, zB, zC]
      replace K := Lib.hid (K.out.next hb)
      clear hb
      refine take_I 16 (Fv r1 r2) (some 101) rfl (by kernel_rfl) (by kernel_rfl) (by kernel_rfl) rfl (fun _ _ _ h => h) (Or.inl ⟨by rfl, ?_⟩) (SK.drop (by simp)) ?_
      ·intro X hX
       clear hX
       go_simp
      try simp only [Act.put, zA, zB, zC]
      refine take_I 17 (.int .i64 r3) (some 102) rfl (by kernel_rfl) (by kernel_rfl) (by kernel_rfl) rfl (fun _ _ _ h => h) (Or.inl ⟨by rfl, ?_⟩) (SK.drop (by simp)) ?_
      ·intro X hX
       clear hX
       go_simp
      try simp only [Act.put, zA, zB, zC]
      have z0 := blk_cell K.out.z 0 _ rfl
      have z1 := blk_cell K.out.z 1 _ rfl
      have f0 := blk_frozen K.out.z 0
      have f1 := blk_frozen K.out.z 1
      refine only_I 18 (by kernel_rfl) rfl (fun K' hK' => ?_)
      go_simp
      refine hK'.out _ _ (fun k hk hS p hp e => by
       have hq := hS p hp e
       simp only [List.mem_cons, List.not_mem_nil, or_false] at hp
       rcases hp with rfl | rfl | rfl | rfl
       ·subst e; exact bfl (by kernel_rfl) hk
       ·subst e; exact bfl (by kernel_rfl) hk
       ·subst e; exact bfl (by kernel_rfl) hk
       ·subst e; exact bfl (by kernel_rfl) hk
       ) ?_
      clear hK' K'
      try simp only [Act.put, zA, zB, zC]
      refine only_I 19 (by kernel_rfl) rfl (fun K' hK' => ?_)
      go_simp
      refine hK'.out _ _ (fun k hk hS p hp e => by
       have hq := hS p hp e
       simp only [List.mem_cons, List.not_mem_nil, or_false] at hp
       rcases hp with rfl | rfl | rfl | rfl
       ·subst e; exact bfl (by kernel_rfl) hk
       ·subst e; exact bfl (by kernel_rfl) hk
       ·subst e; exact bfl (by kernel_rfl) hk
       ·subst e; exact bfl (by kernel_rfl) hk
       ) ?_
      clear hK' K'
      try simp only [Act.put, zA, zB, zC]
      refine done_I (by kernel_rfl) ?_ _
      have F : Hid (res = (r1, r2, r3)) := FT'
      go_wp2_with fail
      have e1 := blk_cell (blk_set (blk_set K.out.z 0 (.int .i64 r1)) 1 (.int .i64 r2)) 0 _ rfl
      have e2 := blk_cell (blk_set (blk_set K.out.z 0 (.int .i64 r1)) 1 (.int .i64 r2)) 1 _ rfl
      refine bodyPost_ret (v := .tuple #[Fv r1 r2, .int .i64 r3]) (by simp [results, Try.results57, go_sem, e1, e2]) rfl ⟨by rw [F.out], Bset1 (Bset1 K.out.n (by omega) _ _) (by omega) _ _⟩
    ·have FE : Hid (res = tailF (decide (an < 0)) (P - Q) g y v) := Lib.hid (by have t := F.out; unfold addP at t; rw [if_neg cs, if_neg cp] at t; exact t)
     replace LESB : Hid (∀ W, Calls Try.prog 76 #[Dv P, Dv Q] W fun e w' => e = .returned (.bool false) ∧ Below W.heap.size W w') := Lib.hid (fun W => by have t := LESB.out W; rw [decide_eq_false cp] at t; exact t)
     replace RESA := Lib.hid (fun W => RESA.out W (by omega))
     clear F cs cp SUMB RESB
     have a0 := blk_cell K2.out.a 0 _ rfl
     have a1 := blk_cell K2.out.a 1 _ rfl
     have b0 := blk_cell K2.out.b 0 _ rfl
     have b1 := blk_cell K2.out.b 1 _ rfl
     have u0 := blk_cell B7.out 0 _ rfl
     have uf0 := blk_frozen B7.out 0
     have u1 := blk_cell B7.out 1 _ rfl
     have uf1 := blk_frozen B7.out 1
     have u2 := blk_cell B7.out 2 _ rfl
     have uf2 := blk_frozen B7.out 2
     have u3 := blk_cell B7.out 3 _ rfl
     have uf3 := blk_frozen B7.out 3
     have l7 := blk_lt B7.out
     have v0 := blk_cell B8.out 0 _ rfl
     have v1 := blk_cell B8.out 1 _ rfl
     have v2 := blk_cell B8.out 2 _ rfl
     have v3 := blk_cell B8.out 3 _ rfl
     have l8 := blk_lt B8.out
     go_wp2_with fail
     refine (LESB.out _).mono ?_
     rintro e w3 ⟨rfl, hb⟩
     have K := Lib.hid (K2.out.next hb)
     replace B7 := Lib.hid (blk_next hb B7.out)
     replace B8 := Lib.hid (blk_next hb B8.out)
     clear hb K2
     clear a0 a1 b0 b1 u0 uf0 u1 uf1 u2 uf2 u3 uf3 l7 v0 v1 v2 v3 l8
     have xb : P - Q ≤ 2000000000000000000000000000000000000 := by have := Q1.out; have := Q2.out; omega
     generalize P - Q = XX at *
     have u0 := blk_cell B7.out 0 _ rfl
     have uf0 := blk_frozen B7.out 0
     have u1 := blk_cell B7.out 1 _ rfl
     have uf1 := blk_frozen B7.out 1
     have u2 := blk_cell B7.out 2 _ rfl
     have uf2 := blk_frozen B7.out 2
     have u3 := blk_cell B7.out 3 _ rfl
     have uf3 := blk_frozen B7.out 3
     have l7 := blk_lt B7.out
     have v0 := blk_cell B8.out 0 _ rfl
     have v1 := blk_cell B8.out 1 _ rfl
     have v2 := blk_cell B8.out 2 _ rfl
     have v3 := blk_cell B8.out 3 _ rfl
     have l8 := blk_lt B8.out
     go_wp2_with fail
     refine (RESA.out _).mono ?_
     rintro e w5 ⟨rfl, hb⟩
     replace K := Lib.hid (K.out.next hb)
     replace B7 := Lib.hid (blk_next hb B7.out)
     clear hb B8
     clear u0 uf0 u1 uf1 u2 uf2 u3 uf3 l7 v0 v1 v2 v3 l8
     have u0 := blk_cell B7.out 0 _ rfl
     have uf0 := blk_frozen B7.out 0
     have u1 := blk_cell B7.out 1 _ rfl
     have uf1 := blk_frozen B7.out 1
     have u2 := blk_cell B7.out 2 _ rfl
     have uf2 := blk_frozen B7.out 2
     have u3 := blk_cell B7.out 3 _ rfl
     have uf3 := blk_frozen B7.out 3
     have l7 := blk_lt B7.out
     go_upto_region 10 with fail
     have K' : Hid (PK w ((((w5.setCell ⟨g7, 0, none⟩ (.int .u64 (dg XX 0 : Int))).setCell ⟨g7, 1, none⟩ (.int .u64 (dg XX 1 : Int))).setCell ⟨g7, 2, none⟩ (.int .u64 (dg XX 2 : Int))).setCell ⟨g7, 3, none⟩ (.int .u64 (dg XX 3 : Int))) an y bn v) := Lib.hid (K.out.set4 n7 _ _ _ _)
     have B7' : Hid (((((w5.setCell ⟨g7, 0, none⟩ (.int .u64 (dg XX 0 : Int))).setCell ⟨g7, 1, none⟩ (.int .u64 (dg XX 1 : Int))).setCell ⟨g7, 2, none⟩ (.int .u64 (dg XX 2 : Int))).setCell ⟨g7, 3, none⟩ (.int .u64 (dg XX 3 : Int))).heap[g7]? = some (.cells #[.int .u64 (dg XX 0 : Int), .int .u64 (dg XX 1 : Int), .int .u64 (dg XX 2 : Int), .int .u64 (dg XX 3 : Int)] 110)) := Lib.hid (blk_put4 B7.out _ _ _ _)
     clear K B7
     have K := K'
     have B7 := B7'
     clear K' B7'
     clear u0 uf0 u1 uf1 u2 uf2 u3 uf3 l7
     generalize ((((w5.setCell ⟨g7, 0, none⟩ (.int .u64 (dg XX 0 : Int))).setCell ⟨g7, 1, none⟩ (.int .u64 (dg XX 1 : Int))).setCell ⟨g7, 2, none⟩ (.int .u64 (dg XX 2 : Int))).setCell ⟨g7, 3, none⟩ (.int .u64 (dg XX 3 : Int))) = Wc at *
     have FT : Hid (res = if XX / Nat.gcd (XX % g) g = 0 then (0, 1, 0) else lowF (decide (an < 0)) (XX / Nat.gcd (XX % g) g) (y1 * (v / Nat.gcd (XX % g) g))) := Lib.hid (by have t := FE.out; unfold tailF at t; rw [HY.out] at t; exact t)
     clear FE
     have smX : sm4 XX := by unfold sm4; omega
     have O1 := Lib.hid (fun W => refOver_calls XX g W smX (by omega) gb)
     have rl : XX % g < g := Nat.mod_lt _ (by omega)
     have G2 := Lib.hid (fun W => refGcd_calls (XX % g) g W (by omega) (by omega))
     have h0 : 0 < Nat.gcd (XX % g) g := Nat.gcd_pos_of_pos_right _ (by omega)
     have h1 : Nat.gcd (XX % g) g ≤ g := Nat.gcd_le_right _ (by omega)
     have O2 := Lib.hid (fun W => refOver_calls XX (Nat.gcd (XX % g) g) W smX (by omega) (by omega))
     generalize Nat.gcd (XX % g) g = h at *
     generalize XX % g = RR at *
     generalize XX / g = YY at *
     have zl : XX / h ≤ XX := Nat.div_le_self _ _
     have smZ : sm4 (XX / h) := by unfold sm4; omega
     generalize XX / h = ZZ at *
     generalize XX % h = SS at *
     have u0 := blk_cell B7.out 0 _ rfl
     have uf0 := blk_frozen B7.out 0
     have u1 := blk_cell B7.out 1 _ rfl
     have uf1 := blk_frozen B7.out 1
     have u2 := blk_cell B7.out 2 _ rfl
     have uf2 := blk_frozen B7.out 2
     have u3 := blk_cell B7.out 3 _ rfl
     have uf3 := blk_frozen B7.out 3
     have l7 := blk_lt B7.out
     go_wp2_with fail
     refine (O1.out _).mono ?_
     rintro e w4 ⟨rfl, hb⟩
     replace K := Lib.hid (K.out.next hb)
     replace B7 := Lib.hid (blk_next hb B7.out)
     clear hb
     clear u0 uf0 u1 uf1 u2 uf2 u3 uf3 l7
     go_wp2_with fail
     refine (G2.out _).mono ?_
     rintro e w5 ⟨rfl, m, rfl⟩
     replace K := Lib.hid ((K.out.next (Bal (Below.refl _ _) (.cells #[.int .u64 (dg YY 0 : Int), .int .u64 (dg YY 1 : Int), .int .u64 (dg YY 2 : Int), .int .u64 (dg YY 3 : Int)] 110))).drewN m)
     replace B7 := Lib.hid (blk_drewN (blk_alloc B7.out (.cells #[.int .u64 (dg YY 0 : Int), .int .u64 (dg YY 1 : Int), .int .u64 (dg YY 2 : Int), .int .u64 (dg YY 3 : Int)] 110)) m)
     generalize (w4.alloc (.cells #[.int .u64 (dg YY 0 : Int), .int .u64 (dg YY 1 : Int), .int .u64 (dg YY 2 : Int), .int .u64 (dg YY 3 : Int)] 110)).drewN m = W5 at *
     have u0 := blk_cell B7.out 0 _ rfl
     have uf0 := blk_frozen B7.out 0
     have u1 := blk_cell B7.out 1 _ rfl
     have uf1 := blk_frozen B7.out 1
     have u2 := blk_cell B7.out 2 _ rfl
     have uf2 := blk_frozen B7.out 2
     have u3 := blk_cell B7.out 3 _ rfl
     have uf3 := blk_frozen B7.out 3
     have l7 := blk_lt B7.out
     go_wp2_with fail
     refine (O2.out _).mono ?_
     rintro e w6 ⟨rfl, hb⟩
     replace K := Lib.hid (K.out.next hb)
     replace B7 := Lib.hid (blk_next hb B7.out)
     clear hb
     clear u0 uf0 u1 uf1 u2 uf2 u3 uf3 l7
     have u0 := blk_cell B7.out 0 _ rfl
     have uf0 := blk_frozen B7.out 0
     have u1 := blk_cell B7.out 1 _ rfl
     have uf1 := blk_frozen B7.out 1
     have u2 := blk_cell B7.out 2 _ rfl
     have uf2 := blk_frozen B7.out 2
     have u3 := blk_cell B7.out 3 _ rfl
     have uf3 := blk_frozen B7.out 3
     have l7 := blk_lt B7.out
     go_upto_region 13 with fail
     have K' : Hid (PK w ((((w6.setCell ⟨g7, 0, none⟩ (.int .u64 (dg ZZ 0 : Int))).setCell ⟨g7, 1, none⟩ (.int .u64 (dg ZZ 1 : Int))).setCell ⟨g7, 2, none⟩ (.int .u64 (dg ZZ 2 : Int))).setCell ⟨g7, 3, none⟩ (.int .u64 (dg ZZ 3 : Int))) an y bn v) := Lib.hid (K.out.set4 n7 _ _ _ _)
     have B7' : Hid (((((w6.setCell ⟨g7, 0, none⟩ (.int .u64 (dg ZZ 0 : Int))).setCell ⟨g7, 1, none⟩ (.int .u64 (dg ZZ 1 : Int))).setCell ⟨g7, 2, none⟩ (.int .u64 (dg ZZ 2 : Int))).setCell ⟨g7, 3, none⟩ (.int .u64 (dg ZZ 3 : Int))).heap[g7]? = some (.cells #[.int .u64 (dg ZZ 0 : Int), .int .u64 (dg ZZ 1 : Int), .int .u64 (dg ZZ 2 : Int), .int .u64 (dg ZZ 3 : Int)] 110)) := Lib.hid (blk_put4 B7.out _ _ _ _)
     clear K B7
     have K := K'
     have B7 := B7'
     clear K' B7'
     clear u0 uf0 u1 uf1 u2 uf2 u3 uf3 l7
     generalize ((((w6.setCell ⟨g7, 0, none⟩ (.int .u64 (dg ZZ 0 : Int))).setCell ⟨g7, 1, none⟩ (.int .u64 (dg ZZ 1 : Int))).setCell ⟨g7, 2, none⟩ (.int .u64 (dg ZZ 2 : Int))).setCell ⟨g7, 3, none⟩ (.int .u64 (dg ZZ 3 : Int))) = W6 at *
     have u0 := blk_cell B7.out 0 _ rfl
     have uf0 := blk_frozen B7.out 0
     have u1 := blk_cell B7.out 1 _ rfl
     have uf1 := blk_frozen B7.out 1
     have u2 := blk_cell B7.out 2 _ rfl
     have uf2 := blk_frozen B7.out 2
     have u3 := blk_cell B7.out 3 _ rfl
     have uf3 := blk_frozen B7.out 3
     have l7 := blk_lt B7.out
     have z0 := blk_cell K.out.z 0 _ rfl
     have z1 := blk_cell K.out.z 1 _ rfl
     have f0 := blk_frozen K.out.z 0
     have f1 := blk_frozen K.out.z 1
     by_cases cz : ZZ = 0
     ·have F : Hid (res = (0, 1, 0)) := Lib.hid (by rw [FT.out, if_pos cz])
      clear FT
      have z0' : dg ZZ 0 = 0 := by rw [cz]; exact dg_zero 0
      have z1' : dg ZZ 1 = 0 := by rw [cz]; exact dg_zero 1
      have z2' : dg ZZ 2 = 0 := by rw [cz]; exact dg_zero 2
      have z3' : dg ZZ 3 = 0 := by rw [cz]; exact dg_zero 3
      rw [z0'] at u0
      rw [z1'] at u1
      rw [z2'] at u2
      rw [z3'] at u3
      clear cz z0' z1' z2' z3'
      go_wp2_with fail
      have e1 := blk_cell (blk_set (blk_set K.out.z 0 (.int .i64 0)) 1 (.int .i64 1)) 0 _ rfl
      have e2 := blk_cell (blk_set (blk_set K.out.z 0 (.int .i64 0)) 1 (.int .i64 1)) 1 _ rfl
      refine bodyPost_ret (v := .tuple #[Fv 0 1, .int .i64 0]) (by simp [results, Try.results57, go_sem, e1, e2]) rfl ⟨by rw [F.out], Bset1 (Bset1 K.out.n (by omega) _ _) (by omega) _ _⟩
     ·have FT' : Hid (res = lowF (decide (an < 0)) ZZ (y1 * (v / h))) := Lib.hid (by rw [FT.out, if_neg cz])
      clear FT
      have ca := dg_all smZ cz
      clear cz
      have lE : v / h ≤ 1000000000000000000 := Nat.le_trans (Nat.div_le_self _ _) (by omega)
      have t5 := tdivN v h
      generalize v / h = E2 at *
      have wE : IntKind.u64.wrap (E2 : Int) = (E2 : Int) := wrapN _ (by omega)
      have MP := Lib.hid (fun W => refProduct_calls y1 E2 W (by omega) (by omega))
      have q2 : sm4 (y1 * E2) := sm4_prod (by omega) (by omega)
      generalize y1 * E2 = QQ at *
      have LC : Hid (∀ W, Calls Try.prog 71 #[.bool (decide (an < 0)), Dv ZZ, Dv QQ] W fun e w' => e = .returned (Rv (lowF (decide (an < 0)) ZZ QQ)) ∧ Below W.heap.size W w') := Lib.hid (fun W => by
       have := lowest_calls (decide (an < 0)) (dg ZZ 0) (dg ZZ 1) (dg ZZ 2) (dg ZZ 3) (dg QQ 0) (dg QQ 1) (dg QQ 2) (dg QQ 3) W (dg_lt _ _) (dg_lt _ _) (dg_lt _ _) (dg_lt _ _)
       rw [big_dg smZ, big_dg q2] at this
       exact this)
      generalize lowF (decide (an < 0)) ZZ QQ = r at *
      obtain ⟨r1, r2, r3⟩ := r
      clear q2
      have hp4 : ¬ h = 0 := by omega
      go_wp2_with fail
      clear z0 z1 f0 f1 ca smZ u0 uf0 u1 uf1 u2 uf2 u3 uf3 l7
      refine region_I (S := SK [(1, w.heap.size, .cells #[.int .i64 an, .int .i64 y] 80), (5, w.heap.size, .cells #[.int .i64 an, .int .i64 y] 80), (3, g7, .cells #[.int .u64 (dg ZZ 0 : Int), .int .u64 (dg ZZ 1 : Int), .int .u64 (dg ZZ 2 : Int), .int .u64 (dg ZZ 3 : Int)] 110), (10, w.heap.size + 1, .cells #[.int .i64 bn, .int .i64 v] 80)]) (by kernel_rfl) ?_
      have HAL := Lib.hid (fun (k : Nat) => (show SK [(1, w.heap.size, .cells #[.int .i64 an, .int .i64 y] 80), (5, w.heap.size, .cells #[.int .i64 an, .int .i64 y] 80), (3, g7, .cells #[.int .u64 (dg ZZ 0 : Int), .int .u64 (dg ZZ 1 : Int), .int .u64 (dg ZZ 2 : Int), .int .u64 (dg ZZ 3 : Int)] 110), (10, w.heap.size + 1, .cells #[.int .i64 bn, .int .i64 v] 80)] k W6.drew from fun p hp e => by
       simp only [List.mem_cons, List.not_mem_nil, or_false] at hp
       rcases hp with rfl | rfl | rfl | rfl
       ·exact K.out.a
       ·exact K.out.a
       ·exact B7.out
       ·exact K.out.b))
      refine take_I 0 (.pointer (some ⟨w.heap.size, 0, none⟩)) (some 85) rfl (by kernel_rfl) (by kernel_rfl) (by kernel_rfl) rfl (fun _ _ _ h => h) (Or.inl ⟨by rfl, ?_⟩) (HAL.out 0) ?_
      ·intro X hX
       clear hX
       go_simp
      try simp only [Act.put, zA, zB, zC]
      refine take_I 1 (.int .i64 an) (some 86) rfl (by kernel_rfl) (by kernel_rfl) (by kernel_rfl) rfl (fun _ _ _ h => h) (Or.inl ⟨by rfl, ?_⟩) (HAL.out 1) ?_
      ·intro X hX
       have hh := hX (1, w.heap.size, .cells #[.int .i64 an, .int .i64 y] 80) (List.Mem.head _) rfl
       have hh0 := blk_cell hh 0 _ rfl
       have hhl := blk_lt hh
       clear hh
       clear hX
       go_simp
      try simp only [Act.put, zA, zB, zC]
      refine take_I 2 (.bool (decide (an < 0))) (some 87) rfl (by kernel_rfl) (by kernel_rfl) (by kernel_rfl) rfl (fun _ _ _ h => h) (Or.inl ⟨by rfl, ?_⟩) (HAL.out 2) ?_
      ·intro X hX
       clear hX
       go_simp
      try simp only [Act.put, zA, zB, zC]
      refine take_I 3 (Dv ZZ) (some 88) rfl (by kernel_rfl) (by kernel_rfl) (by kernel_rfl) rfl (fun _ _ _ h => h) (Or.inl ⟨by rfl, ?_⟩) (HAL.out 3) ?_
      ·intro X hX
       have hh := hX (3, g7, .cells #[.int .u64 (dg ZZ 0 : Int), .int .u64 (dg ZZ 1 : Int), .int .u64 (dg ZZ 2 : Int), .int .u64 (dg ZZ 3 : Int)] 110) (List.Mem.tail _ (List.Mem.tail _ (List.Mem.head _))) rfl
       have hh0 := blk_cell hh 0 _ rfl
       have hh1 := blk_cell hh 1 _ rfl
       have hh2 := blk_cell hh 2 _ rfl
       have hh3 := blk_cell hh 3 _ rfl
       have hhl := blk_lt hh
       clear hh
       clear hX
       go_simp
      try simp only [Act.put, zA, zB, zC]
      refine take_I 4 (.pointer (some ⟨w.heap.size, 1, none⟩)) (some 89) rfl (by kernel_rfl) (by kernel_rfl) (by kernel_rfl) rfl (fun _ _ _ h => h) (Or.inl ⟨by rfl, ?_⟩) (HAL.out 4) ?_
      ·intro X hX
       clear hX
       go_simp
      try simp only [Act.put, zA, zB, zC]
      refine take_I 5 (.int .i64 y) (some 90) rfl (by kernel_rfl) (by kernel_rfl) (by kernel_rfl) rfl (fun _ _ _ h => h) (Or.inl ⟨by rfl, ?_⟩) (HAL.out 5) ?_
      ·intro X hX
       have hh := hX (5, w.heap.size, .cells #[.int .i64 an, .int .i64 y] 80) (List.Mem.tail _ (List.Mem.head _)) rfl
       have hh1 := blk_cell hh 1 _ rfl
       have hhl := blk_lt hh
       clear hh
       clear hX
       go_simp
      try simp only [Act.put, zA, zB, zC]
      refine take_I 6 (.int .u64 y) (some 91) rfl (by kernel_rfl) (by kernel_rfl) (by kernel_rfl) rfl (fun _ _ _ h => h) (Or.inl ⟨by rfl, ?_⟩) (HAL.out 6) ?_
      ·intro X hX
       clear hX
       go_simp
      try simp only [Act.put, zA, zB, zC]
      refine take_I 7 (.int .u64 g) (some 92) rfl (by kernel_rfl) (by kernel_rfl) (by kernel_rfl) rfl (fun _ _ _ h => h) (Or.inl ⟨by rfl, ?_⟩) (HAL.out 7) ?_
      ·intro X hX
       clear hX
       go_simp
      try simp only [Act.put, zA, zB, zC]
      refine take_I 8 (.int .u64 y1) (some 93) rfl (by kernel_rfl) (by kernel_rfl) (by kernel_rfl) rfl (fun _ _ _ h => h) (Or.inl ⟨by rfl, ?_⟩) (HAL.out 8) ?_
      ·intro X hX
       clear hX
       go_simp
      try simp only [Act.put, zA, zB, zC]
      refine take_I 9 (.pointer (some ⟨w.heap.size + 1, 1, none⟩)) (some 94) rfl (by kernel_rfl) (by kernel_rfl) (by kernel_rfl) rfl (fun _ _ _ h => h) (Or.inl ⟨by rfl, ?_⟩) (HAL.out 9) ?_
      ·intro X hX
       clear hX
       go_simp
      try simp only [Act.put, zA, zB, zC]
      refine take_I 10 (.int .i64 v) (some 95) rfl (by kernel_rfl) (by kernel_rfl) (by kernel_rfl) rfl (fun _ _ _ h => h) (Or.inl ⟨by rfl, ?_⟩) (HAL.out 10) ?_
      ·intro X hX
       have hh := hX (10, w.heap.size + 1, .cells #[.int .i64 bn, .int .i64 v] 80) (List.Mem.tail _ (List.Mem.tail _ (List.Mem.tail _ (List.Mem.head _)))) rfl
       have hh1 := blk_cell hh 1 _ rfl
       have hhl := blk_lt hh
       clear hh
       clear hX
       go_simp
      try simp only [Act.put, zA, zB, zC]
      refine take_I 11 (.int .u64 v) (some 96) rfl (by kernel_rfl) (by kernel_rfl) (by kernel_rfl) rfl (fun _ _ _ h => h) (Or.inl ⟨by rfl, ?_⟩) (HAL.out 11) ?_
      ·intro X hX
       clear hX
       go_simp
      try simp only [Act.put, zA, zB, zC]
      refine take_I 12 (.int .u64 h) (some 97) rfl (by kernel_rfl) (by kernel_rfl) (by kernel_rfl) rfl (fun _ _ _ h => h) (Or.inl ⟨by rfl, ?_⟩) (HAL.out 12) ?_
      ·intro X hX
       clear hX
       go_simp
      try simp only [Act.put, zA, zB, zC]
      refine take_I 13 (.int .u64 E2) (some 98) rfl (by kernel_rfl) (by kernel_rfl) (by kernel_rfl) rfl (fun _ _ _ h => h) (Or.inl ⟨by rfl, ?_⟩) (HAL.out 13) ?_
      ·intro X hX
       clear hX
       go_simp
      try simp only [Act.put, zA, zB, zC]
      refine only_I 14 (by kernel_rfl) rfl (fun K' hK' => ?_)
      go_simp
      go_at_call 74
      refine (MP.out _).mono ?_
      rintro e w7 ⟨rfl, hb⟩
      go_simp
      refine hK'.out _ _ (fun k _ hS => hS.next hb) ?_
      clear hK' K'
      try simp only [Act.put, zA, zB, zC]
      replace K := Lib.hid (K.out.next (undrewB hb))
      clear hb HAL
      refine only_I 15 (by kernel_rfl) rfl (fun K' hK' => ?_)
      go_simp
      go_at_call 71
      refine (LC.out _).mono ?_
      rintro e w8 ⟨rfl, hb⟩
      go_simp
      refine hK'.out _ _ (fun k _ hS => hS.next hb) ?_
      clear hK' K'
      try simp only [Act.put, zA, zB, zC]
      replace K := Lib.hid (K.out.next hb)
      clear hb
      refine take_I 16 (Fv r1 r2) (some 101) rfl (by kernel_rfl) (by kernel_rfl) (by kernel_rfl) rfl (fun _ _ _ h => h) (Or.inl ⟨by rfl, ?_⟩) (SK.drop (by simp)) ?_
      ·intro X hX
       clear hX
       go_simp
      try simp only [Act.put, zA, zB, zC]
      refine take_I 17 (.int .i64 r3) (some 102) rfl (by kernel_rfl) (by kernel_rfl) (by kernel_rfl) rfl (fun _ _ _ h => h) (Or.inl ⟨by rfl, ?_⟩) (SK.drop (by simp)) ?_
      ·intro X hX
       clear hX
       go_simp
      try simp only [Act.put, zA, zB, zC]
      have z0 := blk_cell K.out.z 0 _ rfl
      have z1 := blk_cell K.out.z 1 _ rfl
      have f0 := blk_frozen K.out.z 0
      have f1 := blk_frozen K.out.z 1
      refine only_I 18 (by kernel_rfl) rfl (fun K' hK' => ?_)
      go_simp
      refine hK'.out _ _ (fun k hk hS p hp e => by
       have hq := hS p hp e
       simp only [List.mem_cons, List.not_mem_nil, or_false] at hp
       rcases hp with rfl | rfl | rfl | rfl
       ·subst e; exact bfl (by kernel_rfl) hk
       ·subst e; exact bfl (by kernel_rfl) hk
       ·subst e; exact bfl (by kernel_rfl) hk
       ·subst e; exact bfl (by kernel_rfl) hk
       ) ?_
      clear hK' K'
      try simp only [Act.put, zA, zB, zC]
      refine only_I 19 (by kernel_rfl) rfl (fun K' hK' => ?_)
      go_simp
      refine hK'.out _ _ (fun k hk hS p hp e => by
       have hq := hS p hp e
       simp only [List.mem_cons, List.not_mem_nil, or_false] at hp
       rcases hp with rfl | rfl | rfl | rfl
       ·subst e; exact bfl (by kernel_rfl) hk
       ·subst e; exact bfl (by kernel_rfl) hk
       ·subst e; exact bfl (by kernel_rfl) hk
       ·subst e; exact bfl (by kernel_rfl) hk
       ) ?_
      clear hK' K'
      try simp only [Act.put, zA, zB, zC]
      refine done_I (by kernel_rfl) ?_ _
      have F : Hid (res = (r1, r2, r3)) := FT'
      go_wp2_with fail
      have e1 := blk_cell (blk_set (blk_set K.out.z 0 (.int .i64 r1)) 1 (.int .i64 r2)) 0 _ rfl
      have e2 := blk_cell (blk_set (blk_set K.out.z 0 (.int .i64 r1)) 1 (.int .i64 r2)) 1 _ rfl
      refine bodyPost_ret (v := .tuple #[Fv r1 r2, .int .i64 r3]) (by simp [results, Try.results57, go_sem, e1, e2]) rfl ⟨by rw [F.out], Bset1 (Bset1 K.out.n (by omega) _ _) (by omega) _ _⟩
end Go.Proofs.Ytbbnkclajpaghaa
