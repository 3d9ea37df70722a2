/- Several texts in one. -/
import Derived.Test.YtapehckcmmompaaM05
import Derived.Test.YtapehckcmmompaaM15
import Derived.Test.YtapehckcmmompaaM17
import Derived.Test.YtapehckcmmompaaM21
namespace Go.Proofs.Ytapehckcmmompaa
open Go.ChangeShapes Go.WideShapes Go.ChangeAt Go.RowKit Go.Deep Go.Joins
set_option linter.unusedVariables false
set_option linter.unusedSimpArgs false
set_option maxRecDepth 100000
attribute [local go_sem ↓] Go.wp_at_zero Go.wp_at_succ
def smallB (os : List Ob) : Bool := os.all fun o => decide (o.name.size ≤ 100)
theorem smallB_lh {os : List Ob} (h : smallB os = true) : ∀ o ∈ os, Lh o.name := fun o ho => by
 have := List.all_eq_true.1 h o ho
 simp only [decide_eq_true_eq] at this
 unfold Lh; omega
theorem alive_facts : ∃ (n p f g : So) (ob : Ob), newS 2 1 = n ∧ newE 2 1 = 0 ∧ smallB n.2.2.2 = true ∧ putS n.1 n.2.1 n.2.2.1 n.2.2.2 ⟨#[97]⟩ (txtL 20) = p ∧ putE n.1 n.2.1 n.2.2.1 n.2.2.2 ⟨#[97]⟩ (txtL 20) = 0 ∧ smallB p.2.2.2 = true ∧
  faiS p.1 p.2.1 p.2.2.1 p.2.2.2 0 = f ∧ faiE p.1 p.2.1 p.2.2.1 p.2.2.2 0 = 0 ∧ smallB f.2.2.2 = true ∧ getR f.1 f.2.1 f.2.2.1 f.2.2.2 ⟨#[97]⟩ = (txtL 20, 0) ∧
  faiS f.1 f.2.1 f.2.2.1 f.2.2.2 1 = g ∧ faiE f.1 f.2.1 f.2.2.1 f.2.2.2 1 = 0 ∧ smallB g.2.2.2 = true ∧ (getR g.1 g.2.1 g.2.2.1 g.2.2.2 ⟨#[97]⟩).2 = 32 ∧ p.2.2.2 = [ob] ∧ ob.many = 2 :=
 ⟨newS 2 1, _, _, _, _, rfl, by kernel_rfl, by kernel_rfl, rfl, by kernel_rfl, by kernel_rfl, rfl, by kernel_rfl, by kernel_rfl, by kernel_rfl, rfl, by kernel_rfl, by kernel_rfl, by kernel_rfl, rfl, by kernel_rfl⟩
theorem dig12 : digL [1, 2] = 517 := by decide
theorem byt12 : Byt [1, 2] := fun x hx => by simp at hx; omega
theorem rba12 (w : World) : RBA 0 (w.alloc (.cells #[.int .u8 1, .int .u8 2] 5)) (some ⟨w.heap.size, 0, none⟩) [1, 2] := by
 refine ⟨byt12, fun j u hu => ?_⟩
 match j with
 | 0 => cases hu; exact ⟨_, 0, rfl, Nat.zero_le _, blk_lt (blk_new _ _), blk_cell (blk_new _ _) 0 _ rfl⟩
 | 1 => cases hu; exact ⟨_, 0, rfl, Nat.zero_le _, blk_lt (blk_new _ _), blk_cell (blk_new _ _) 1 _ rfl⟩
 | j + 2 => simp [bv] at hu
set_option maxHeartbeats 16000000 in
theorem alive_calls (w : World) : Calls Try.prog 23 #[] w fun e w' => e = .returned (.bool true) ∧ Below w.heap.size w w' := by
 obtain ⟨⟨n1, n2, n3, n4⟩, ⟨p1, p2, p3, p4⟩, ⟨f1, f2, f3, f4⟩, ⟨q1, q2, q3, q4⟩, ob, a1, a2, a3, a4, a5, a6, a7, a8, a9, a10, a11, a12, a13, a14, a15, a16⟩ := alive_facts
 simp only at a3 a4 a5 a6 a7 a8 a9 a10 a11 a12 a13 a14 a15
 have NN := Lib.hid (Below.refl w.heap.size w)
 have N1 := Lib.hid (fun (W : World) => new_calls 2 1 W)
 have PU := Lib.hid (fun (D A : Option Addr) (cd ca B : Nat) (W : World) h1 h2 h3 h4 h5 h6 (Ab : Option Addr) (cb Bb : Nat) hb1 hb2 hb3 => put_calls n1 n2 D A cd ca B n3 n4 ⟨#[97]⟩ Ab cb Bb (txtL 20) W h1 h2 h3 h4 h5 h6 (smallB_lh a3) (by decide) hb1 hb2 hb3)
 have FA := Lib.hid (fun (D A : Option Addr) (cd ca B : Nat) (W : World) h1 h2 h3 h4 h5 h6 => fail_calls p1 p2 D A cd ca B p3 p4 0 W h1 h2 h3 h4 h5 h6 (smallB_lh a6))
 have GA := Lib.hid (fun (D A : Option Addr) (cd ca B : Nat) (W : World) h1 h2 h3 h4 h5 h6 => get_calls f1 f2 D A cd ca B f3 f4 ⟨#[97]⟩ W h1 h2 h3 h4 h5 h6 (smallB_lh a9))
 have FB := Lib.hid (fun (D A : Option Addr) (cd ca B : Nat) (W : World) h1 h2 h3 h4 h5 h6 => fail_calls f1 f2 D A cd ca B f3 f4 1 W h1 h2 h3 h4 h5 h6 (smallB_lh a9))
 have GB := Lib.hid (fun (D A : Option Addr) (cd ca B : Nat) (W : World) h1 h2 h3 h4 h5 h6 => get_calls q1 q2 D A cd ca B q3 q4 ⟨#[97]⟩ W h1 h2 h3 h4 h5 h6 (smallB_lh a13))
 rw [a1, a2] at N1
 rw [a4, a5] at PU
 rw [a7, a8] at FA
 rw [a10] at GA
 rw [a11, a12] at FB
 have TX : Hid (∀ W : World, Calls Try.prog 38 #[.int .i64 20] W fun e w' => ∃ v, e = .returned v ∧ OB W.heap.size w' v (txtL 20) ∧ Below W.heap.size W w') := Lib.hid (fun (W : World) => text_calls 20 (by decide) W)
 obtain ⟨⟨gl, ge⟩, hr⟩ : ∃ r, getR q1 q2 q3 q4 ⟨#[97]⟩ = r := ⟨_, rfl⟩
 rw [hr] at GB a14
 simp only at a14
 subst a14
 have EO := Lib.hid a15
 have EM := Lib.hid a16
 have TB := Lib.hid (txtL_byt 20)
 have TL := Lib.hid (txtL_len 20)
 clear a1 a2 a3 a4 a5 a6 a7 a8 a9 a10 a11 a12 a13 a15 a16 hr
 generalize txtL 20 = tx at *
 go_enter Try.func23, Try.ntmps23
 go_wp2_with fail
 refine (N1.out _).mono ?_
 rintro e w1 ⟨v, u, rfl, ht, hu, hb⟩
 try simp only at ht hu
 obtain ⟨A1, c1, rfl, k1a, k1b⟩ := ht.form
 obtain ⟨B1, d1, rfl, k1c, k1d⟩ := hu.form
 have T1 := Lib.hid ht.rd
 have U1 := Lib.hid hu.ro
 clear ht hu
 replace NN := Lib.hid (Bgo NN.out hb)
 clear hb
 have HB : Hid (Below w1.heap.size w1 (w1.alloc (.cells #[.int .i64 n1, .int .i64 n2, .slice A1 n3.length c1, .slice B1 n4.length d1] 25))) := Lib.hid (Bal (Below.refl _ _) _)
 have S1 := Lib.hid (blk_new w1 (.cells #[.int .i64 n1, .int .i64 n2, .slice A1 n3.length c1, .slice B1 n4.length d1] 25))
 have LT_S1 : Hid (w.heap.size ≤ w1.heap.size) := Lib.hid NN.out.size
 replace NN := Lib.hid (Bgo NN.out HB.out)
 replace T1 := Lib.hid (T1.out.next HB.out)
 replace U1 := Lib.hid (U1.out.next HB.out)
 clear HB
 go_wp2_with fail
 generalize w1.alloc (.cells #[.int .i64 n1, .int .i64 n2, .slice A1 n3.length c1, .slice B1 n4.length d1] 25) = W2 at *
 generalize w1.heap.size = g2 at *
 have KEEP : Hid (∀ X : World, Below W2.heap.size W2 X → X.cell? ⟨g2, 0, none⟩ = some (.int .i64 n1) ∧ X.cell? ⟨g2, 1, none⟩ = some (.int .i64 n2) ∧ X.cell? ⟨g2, 2, none⟩ = some (.slice A1 n3.length c1) ∧ X.cell? ⟨g2, 3, none⟩ = some (.slice B1 n4.length d1)) := Lib.hid (fun X hX => ⟨blk_cell (blk_next hX S1.out) 0 _ rfl, blk_cell (blk_next hX S1.out) 1 _ rfl, blk_cell (blk_next hX S1.out) 2 _ rfl, blk_cell (blk_next hX S1.out) 3 _ rfl⟩)
 have PUC : Hid (∀ (W : World), Below W2.heap.size W2 W → ∀ (Ab : Option Addr) (cb Bb : Nat), tx.length ≤ cb → cb ≤ 9223372036854775807 → RBA Bb W Ab tx → Calls Try.prog 14 #[Tv n1 n2 (.slice A1 n3.length c1) (.slice B1 n4.length d1), .string ⟨#[97]⟩, .slice Ab tx.length cb] W (SOPost W (p1, p2, p3, p4) 0)) := Lib.hid (fun W h Ab cb Bb q1 q2 q3 => PU.out A1 B1 c1 d1 _ W k1a k1b k1c k1d (T1.out.next h) (U1.out.next h) Ab cb Bb q1 q2 q3)
 go_cut [3, 4] (fun s3 s4 wx => ∃ (cq : Nat) (A2 B2 : Option Addr) (c2 d2 : Nat), s3 = .pointer (some ⟨cq, 0, none⟩) ∧ s4 = .int .i64 0 ∧ W2.heap.size ≤ cq ∧ Hid (Below W2.heap.size W2 wx) ∧ Hid (wx.heap[cq]? = some (.cells #[.int .i64 p1, .int .i64 p2, .slice A2 p3.length c2, .slice B2 p4.length d2] 25)) ∧ Hid (RD 0 wx A2 p3) ∧ Hid (RO 0 wx B2 p4) ∧ (p3.length ≤ c2 ∧ c2 ≤ 9223372036854775807) ∧ (p4.length ≤ d2 ∧ d2 ≤ 9223372036854775807))
 case first =>
  go_region_held3 (fun X => X.cell? ⟨g2, 0, none⟩ = some (.int .i64 n1) ∧ X.cell? ⟨g2, 1, none⟩ = some (.int .i64 n2) ∧ X.cell? ⟨g2, 2, none⟩ = some (.slice A1 n3.length c1) ∧ X.cell? ⟨g2, 3, none⟩ = some (.slice B1 n4.length d1)) ((refine KEEP.out _ ?_; (repeat (first | (with_reducible exact Below.refl _ _) | (with_reducible exact BQ.out) | (with_reducible exact BT.out) | (with_reducible refine Below.drew ?_) | (with_reducible refine Bal ?_ _) | (with_reducible refine Bset1 ?_ (by first | exact Nat.le_refl _ | exact BQ.out.size | exact BT.out.size | (simp; omega)) _ _))))) (first | (go_at_call 38; (with_reducible refine (TX.out _).mono ?_); rintro e wt ⟨v, rfl, hv, bq⟩; obtain ⟨Av, cv, rfl, va, vb, hv⟩ := OB.rb hv TB.out; have VB := Lib.hid hv; have BT : Hid (Below W2.heap.size W2 wt) := Lib.hid (by refine Bgo ?_ bq; (repeat (first | (with_reducible exact Below.refl _ _) | (with_reducible refine Below.drew ?_) | (with_reducible refine Bal ?_ _) | (with_reducible refine Bset1 ?_ (by first | exact Nat.le_refl _ | exact BQ.out.size | exact BT.out.size | (simp; omega)) _ _)))); (first | (have RA : Hid (wt.heap[W2.heap.size]? = some (.cells #[.int .i64 0, .int .i64 0, .slice none 0 0, .slice none 0 0] 25)) := Lib.hid (by first | (with_reducible exact blk_next bq (blk_new W2 _)) | (with_reducible exact blk_next (undrewB bq) (blk_new W2 _)) | (with_reducible exact blk_next bq (blk_new W2.drew _)) | (with_reducible exact blk_next (undrewB bq) (blk_new W2.drew _))); have y0 := blk_cell RA.out 0 _ rfl; have yf0 := blk_frozen RA.out 0; have y1 := blk_cell RA.out 1 _ rfl; have yf1 := blk_frozen RA.out 1; have y2 := blk_cell RA.out 2 _ rfl; have yf2 := blk_frozen RA.out 2; have y3 := blk_cell RA.out 3 _ rfl; have yf3 := blk_frozen RA.out 3; have yl := blk_lt RA.out) | skip); clear bq hv) | (go_at_call 14; (with_reducible refine (PUC.out _ ?_ Av cv _ va vb (RBA.next ?_ VB.out)).mono ?_); (repeat (first | (with_reducible exact Below.refl _ _) | (with_reducible exact BT.out) | (with_reducible refine Below.drew ?_) | (with_reducible refine Bal ?_ _) | (with_reducible refine Bset1 ?_ (by first | exact Nat.le_refl _ | exact BQ.out.size | exact BT.out.size | (simp; omega)) _ _))); rintro e wq ⟨v, u, rfl, ht, hu, bq⟩; obtain ⟨A2, c2, rfl, k2a, k2b⟩ := ht.form; obtain ⟨B2, d2, rfl, k2c, k2d⟩ := hu.form; have T2 := Lib.hid (ht.rd.mono (Nat.zero_le _)); have U2 := Lib.hid (hu.ro.mono (Nat.zero_le _)); have HT2 := Lib.hid ht; have HU2 := Lib.hid hu; have BQ : Hid (Below W2.heap.size W2 wq) := Lib.hid (by refine Bgo ?_ bq; (repeat (first | (with_reducible exact Below.refl _ _) | (with_reducible exact BT.out) | (with_reducible refine Below.drew ?_) | (with_reducible refine Bal ?_ _) | (with_reducible refine Bset1 ?_ (by first | exact Nat.le_refl _ | exact BQ.out.size | exact BT.out.size | (simp; omega)) _ _)))); (first | (have bq' := blk_next bq RA.out; clear y0 yf0 y1 yf1 y2 yf2 y3 yf3 yl; have RA := Lib.hid bq'; have y0 := blk_cell RA.out 0 _ rfl; have yf0 := blk_frozen RA.out 0; have y1 := blk_cell RA.out 1 _ rfl; have yf1 := blk_frozen RA.out 1; have y2 := blk_cell RA.out 2 _ rfl; have yf2 := blk_frozen RA.out 2; have y3 := blk_cell RA.out 3 _ rfl; have yf3 := blk_frozen RA.out 3; have yl := blk_lt RA.out) | (have bq' := blk_next (undrewB bq) RA.out; clear y0 yf0 y1 yf1 y2 yf2 y3 yf3 yl; have RA := Lib.hid bq'; have y0 := blk_cell RA.out 0 _ rfl; have yf0 := blk_frozen RA.out 0; have y1 := blk_cell RA.out 1 _ rfl; have yf1 := blk_frozen RA.out 1; have y2 := blk_cell RA.out 2 _ rfl; have yf2 := blk_frozen RA.out 2; have y3 := blk_cell RA.out 3 _ rfl; have yf3 := blk_frozen RA.out 3; have yl := blk_lt RA.out) | (have RA : Hid (wq.heap[wt.heap.size]? = some (.cells #[.int .i64 0, .int .i64 0, .slice none 0 0, .slice none 0 0] 25)) := Lib.hid (by first | (with_reducible exact blk_next bq (blk_new wt _)) | (with_reducible exact blk_next (undrewB bq) (blk_new wt _)) | (with_reducible exact blk_next bq (blk_new wt.drew _)) | (with_reducible exact blk_next (undrewB bq) (blk_new wt.drew _))); have y0 := blk_cell RA.out 0 _ rfl; have yf0 := blk_frozen RA.out 0; have y1 := blk_cell RA.out 1 _ rfl; have yf1 := blk_frozen RA.out 1; have y2 := blk_cell RA.out 2 _ rfl; have yf2 := blk_frozen RA.out 2; have y3 := blk_cell RA.out 3 _ rfl; have yf3 := blk_frozen RA.out 3; have yl := blk_lt RA.out) | skip); clear bq ht hu))
  all_goals go_wp2_with fail
  all_goals go_meet
  all_goals (refine ⟨_, A2, B2, c2, d2, rfl, rfl, ?_, Lib.hid ?_, Lib.hid ?_, Lib.hid ?_, Lib.hid ?_, ⟨k2a, k2b⟩, ⟨k2c, k2d⟩⟩; (first | exact Nat.le_refl _ | exact BQ.out.size | exact BT.out.size | (simp; done)); (repeat (first | (with_reducible exact Below.refl _ _) | (with_reducible exact BQ.out) | (with_reducible exact BT.out) | (with_reducible refine Below.drew ?_) | (with_reducible refine Bal ?_ _) | (with_reducible refine Bset1 ?_ (by first | exact Nat.le_refl _ | exact BQ.out.size | exact BT.out.size | (simp; omega)) _ _))); (first | (with_reducible exact blk_new _ _) | (with_reducible exact blk_drew (blk_new _ _)) | exact blk_set (blk_set (blk_set (blk_set RA.out 0 _) 1 _) 2 _) 3 _ | exact blk_drew (blk_set (blk_set (blk_set (blk_set RA.out 0 _) 1 _) 2 _) 3 _)); (first | exact T2.out | exact ((OT.set4_ HT2.out RA.out _ _ _ _).rd.mono (Nat.zero_le _)) | exact RD.next (Below.refl _ _).drew ((OT.set4_ HT2.out RA.out _ _ _ _).rd.mono (Nat.zero_le _)) | exact T2.out.next (by (repeat (first | (with_reducible exact Below.refl _ _) | (with_reducible refine Below.drew ?_) | (with_reducible refine Bal ?_ _) | (with_reducible refine Bset1 ?_ (by first | exact Nat.le_refl _ | exact BQ.out.size | exact BT.out.size | (simp; omega)) _ _))); done)); (first | exact U2.out | exact ((OO.set4_ HU2.out RA.out _ _ _ _).ro.mono (Nat.zero_le _)) | exact RO.next (Below.refl _ _).drew ((OO.set4_ HU2.out RA.out _ _ _ _).ro.mono (Nat.zero_le _)) | exact U2.out.next (by (repeat (first | (with_reducible exact Below.refl _ _) | (with_reducible refine Below.drew ?_) | (with_reducible refine Bal ?_ _) | (with_reducible refine Bset1 ?_ (by first | exact Nat.le_refl _ | exact BQ.out.size | exact BT.out.size | (simp; omega)) _ _))); done)))
 case rest =>
  obtain ⟨cq, A2, B2, c2, d2, rfl, rfl, hcq, B7, S2, T2, U2, ⟨k2a, k2b⟩, ⟨k2c, k2d⟩⟩ := hcut
  replace NN := Lib.hid (Bgo NN.out B7.out)
  clear B7 KEEP PUC T1 U1 S1 k1a k1b k1c k1d
  have c_S2_0 := blk_cell S2.out 0 _ rfl
  have f_S2_0 := blk_frozen S2.out 0
  have c_S2_1 := blk_cell S2.out 1 _ rfl
  have f_S2_1 := blk_frozen S2.out 1
  have c_S2_2 := blk_cell S2.out 2 _ rfl
  have f_S2_2 := blk_frozen S2.out 2
  have c_S2_3 := blk_cell S2.out 3 _ rfl
  have f_S2_3 := blk_frozen S2.out 3
  have l_S2 := blk_lt S2.out
  go_wp2_with fail
  refine (FA.out A2 B2 c2 d2 _ _ k2a k2b k2c k2d T2.out U2.out).mono ?_
  rintro e w3 ⟨v, u, rfl, ht, hu, hb⟩
  try simp only at ht hu
  obtain ⟨A3, c3, rfl, k3a, k3b⟩ := ht.form
  obtain ⟨B3, d3, rfl, k3c, k3d⟩ := hu.form
  have T3 := Lib.hid ht.rd
  have U3 := Lib.hid hu.ro
  clear ht hu
  clear c_S2_0 f_S2_0 c_S2_1 f_S2_1 c_S2_2 f_S2_2 c_S2_3 f_S2_3 l_S2
  replace NN := Lib.hid (Bgo NN.out hb)
  replace T2 := Lib.hid (T2.out.next hb)
  replace U2 := Lib.hid (U2.out.next hb)
  replace S2 := Lib.hid (blk_next hb S2.out)
  clear hb
  have HB : Hid (Below w3.heap.size w3 (w3.alloc (.cells #[.int .i64 f1, .int .i64 f2, .slice A3 f3.length c3, .slice B3 f4.length d3] 25))) := Lib.hid (Bal (Below.refl _ _) _)
  have S3 := Lib.hid (blk_new w3 (.cells #[.int .i64 f1, .int .i64 f2, .slice A3 f3.length c3, .slice B3 f4.length d3] 25))
  have LT_S3 : Hid (cq < w3.heap.size ∧ w.heap.size ≤ w3.heap.size) := Lib.hid ⟨blk_lt S2.out, NN.out.size⟩
  replace NN := Lib.hid (Bgo NN.out HB.out)
  replace T2 := Lib.hid (T2.out.next HB.out)
  replace U2 := Lib.hid (U2.out.next HB.out)
  replace T3 := Lib.hid (T3.out.next HB.out)
  replace U3 := Lib.hid (U3.out.next HB.out)
  replace S2 := Lib.hid (blk_next HB.out S2.out)
  clear HB
  have c_S3_0 := blk_cell S3.out 0 _ rfl
  have f_S3_0 := blk_frozen S3.out 0
  have c_S3_1 := blk_cell S3.out 1 _ rfl
  have f_S3_1 := blk_frozen S3.out 1
  have c_S3_2 := blk_cell S3.out 2 _ rfl
  have f_S3_2 := blk_frozen S3.out 2
  have c_S3_3 := blk_cell S3.out 3 _ rfl
  have f_S3_3 := blk_frozen S3.out 3
  have l_S3 := blk_lt S3.out
  go_wp2_with fail
  clear c_S3_0 f_S3_0 c_S3_1 f_S3_1 c_S3_2 f_S3_2 c_S3_3 f_S3_3 l_S3
  generalize w3.alloc (.cells #[.int .i64 f1, .int .i64 f2, .slice A3 f3.length c3, .slice B3 f4.length d3] 25) = W4 at *
  generalize w3.heap.size = g4 at *
  refine (GA.out A3 B3 c3 d3 _ _ k3a k3b k3c k3d T3.out U3.out).mono ?_
  rintro e w5 ⟨v, rfl, hr, hb⟩
  simp only at hr
  obtain ⟨A5, c5, rfl, k5a, k5b, hr⟩ := hr
  have R5 := Lib.hid hr
  clear hr
  replace NN := Lib.hid (Bgo NN.out hb)
  replace T2 := Lib.hid (T2.out.next hb)
  replace U2 := Lib.hid (U2.out.next hb)
  replace T3 := Lib.hid (T3.out.next hb)
  replace U3 := Lib.hid (U3.out.next hb)
  replace S2 := Lib.hid (blk_next hb S2.out)
  replace S3 := Lib.hid (blk_next hb S3.out)
  clear hb
  have c_S3_0 := blk_cell S3.out 0 _ rfl
  have f_S3_0 := blk_frozen S3.out 0
  have c_S3_1 := blk_cell S3.out 1 _ rfl
  have f_S3_1 := blk_frozen S3.out 1
  have c_S3_2 := blk_cell S3.out 2 _ rfl
  have f_S3_2 := blk_frozen S3.out 2
  have c_S3_3 := blk_cell S3.out 3 _ rfl
  have f_S3_3 := blk_frozen S3.out 3
  have l_S3 := blk_lt S3.out
  go_wp2_with fail
  refine (FB.out A3 B3 c3 d3 _ _ k3a k3b k3c k3d T3.out U3.out).mono ?_
  rintro e w6 ⟨v, u, rfl, ht, hu, hb⟩
  try simp only at ht hu
  obtain ⟨A6, c6, rfl, k6a, k6b⟩ := ht.form
  obtain ⟨B6, d6, rfl, k6c, k6d⟩ := hu.form
  have T6 := Lib.hid ht.rd
  have U6 := Lib.hid hu.ro
  clear ht hu
  clear c_S3_0 f_S3_0 c_S3_1 f_S3_1 c_S3_2 f_S3_2 c_S3_3 f_S3_3 l_S3
  replace NN := Lib.hid (Bgo NN.out hb)
  replace T2 := Lib.hid (T2.out.next hb)
  replace U2 := Lib.hid (U2.out.next hb)
  replace T3 := Lib.hid (T3.out.next hb)
  replace U3 := Lib.hid (U3.out.next hb)
  replace R5 := Lib.hid (RBA.next hb R5.out)
  replace S2 := Lib.hid (blk_next hb S2.out)
  replace S3 := Lib.hid (blk_next hb S3.out)
  clear hb
  have HB : Hid (Below w6.heap.size w6 (w6.alloc (.cells #[.int .i64 q1, .int .i64 q2, .slice A6 q3.length c6, .slice B6 q4.length d6] 25))) := Lib.hid (Bal (Below.refl _ _) _)
  have S6 := Lib.hid (blk_new w6 (.cells #[.int .i64 q1, .int .i64 q2, .slice A6 q3.length c6, .slice B6 q4.length d6] 25))
  have LT_S6 : Hid (cq < w6.heap.size ∧ g4 < w6.heap.size ∧ w.heap.size ≤ w6.heap.size) := Lib.hid ⟨blk_lt S2.out, blk_lt S3.out, NN.out.size⟩
  replace NN := Lib.hid (Bgo NN.out HB.out)
  replace T2 := Lib.hid (T2.out.next HB.out)
  replace U2 := Lib.hid (U2.out.next HB.out)
  replace T3 := Lib.hid (T3.out.next HB.out)
  replace U3 := Lib.hid (U3.out.next HB.out)
  replace R5 := Lib.hid (RBA.next HB.out R5.out)
  replace T6 := Lib.hid (T6.out.next HB.out)
  replace U6 := Lib.hid (U6.out.next HB.out)
  replace S2 := Lib.hid (blk_next HB.out S2.out)
  replace S3 := Lib.hid (blk_next HB.out S3.out)
  clear HB
  have c_S6_0 := blk_cell S6.out 0 _ rfl
  have f_S6_0 := blk_frozen S6.out 0
  have c_S6_1 := blk_cell S6.out 1 _ rfl
  have f_S6_1 := blk_frozen S6.out 1
  have c_S6_2 := blk_cell S6.out 2 _ rfl
  have f_S6_2 := blk_frozen S6.out 2
  have c_S6_3 := blk_cell S6.out 3 _ rfl
  have f_S6_3 := blk_frozen S6.out 3
  have l_S6 := blk_lt S6.out
  go_wp2_with fail
  clear c_S6_0 f_S6_0 c_S6_1 f_S6_1 c_S6_2 f_S6_2 c_S6_3 f_S6_3 l_S6
  generalize w6.alloc (.cells #[.int .i64 q1, .int .i64 q2, .slice A6 q3.length c6, .slice B6 q4.length d6] 25) = W7 at *
  generalize w6.heap.size = g7 at *
  refine (GB.out A6 B6 c6 d6 _ _ k6a k6b k6c k6d T6.out U6.out).mono ?_
  rintro e w8 ⟨v, rfl, hr, hb⟩
  simp only at hr
  obtain ⟨A7, c7, rfl, k7a, k7b, hr⟩ := hr
  have R7 := Lib.hid hr
  clear hr
  replace NN := Lib.hid (Bgo NN.out hb)
  replace T2 := Lib.hid (T2.out.next hb)
  replace U2 := Lib.hid (U2.out.next hb)
  replace T3 := Lib.hid (T3.out.next hb)
  replace U3 := Lib.hid (U3.out.next hb)
  replace R5 := Lib.hid (RBA.next hb R5.out)
  replace T6 := Lib.hid (T6.out.next hb)
  replace U6 := Lib.hid (U6.out.next hb)
  replace S2 := Lib.hid (blk_next hb S2.out)
  replace S3 := Lib.hid (blk_next hb S3.out)
  replace S6 := Lib.hid (blk_next hb S6.out)
  clear hb
  go_wp2_with fail
  clear S3 S6 T3 U3 T6 U6 R7
  refine region_I (S := SX [] 35 35 A5 A5 tx tx) (by kernel_rfl) ?_
  have HAL := Lib.hid (fun (k : Nat) => (show SX [] 35 35 A5 A5 tx tx k w8.drew from ⟨fun p hp e => absurd hp (by simp), fun _ => ⟨R5.out, R5.out⟩⟩))
  have HDRW := Lib.hid (Below.drew (Below.refl w8.heap.size w8))
  replace NN := Lib.hid (Bgo NN.out HDRW.out)
  replace T2 := Lib.hid (T2.out.next HDRW.out)
  replace U2 := Lib.hid (U2.out.next HDRW.out)
  replace R5 := Lib.hid (RBA.next HDRW.out R5.out)
  replace S2 := Lib.hid (blk_next HDRW.out S2.out)
  clear HDRW
  refine only_I 0 (by kernel_rfl) rfl (fun K' hK' => ?_)
  go_simp
  refine hK'.out _ _ (fun k _ hS => hS.next (Bal (Below.refl _ _) _)) ?_
  clear hK' K'
  try simp only [Act.put, zA, zB, zC]
  have HB := Lib.hid (Bal (Below.refl (w8.drew).heap.size (w8.drew)) (.cells #[.int .u8 1, .int .u8 2] 5))
  have RB12 := Lib.hid (rba12 (w8.drew))
  replace NN := Lib.hid (Bgo NN.out HB.out)
  replace T2 := Lib.hid (T2.out.next HB.out)
  replace U2 := Lib.hid (U2.out.next HB.out)
  replace R5 := Lib.hid (RBA.next HB.out R5.out)
  replace S2 := Lib.hid (blk_next HB.out S2.out)
  replace HAL := Lib.hid (fun k => (HAL.out k).next HB.out)
  clear HB
  refine only_I 1 (by kernel_rfl) rfl (fun K' hK' => ?_)
  go_simp
  go_at_call 18
  refine ((calls_below (digest_calls _ _ 0 [1, 2] _ (by decide) (by decide) RB12.out))).mono ?_
  rintro e x9 ⟨rfl, hb⟩
  replace NN := Lib.hid (Bgo NN.out hb)
  replace T2 := Lib.hid (T2.out.next hb)
  replace U2 := Lib.hid (U2.out.next hb)
  replace R5 := Lib.hid (RBA.next hb R5.out)
  replace S2 := Lib.hid (blk_next hb S2.out)
  clear RB12
  rw [dig12]
  go_simp
  refine hK'.out _ _ (fun k _ hS => hS.next hb) ?_
  clear hK' K'
  try simp only [Act.put, zA, zB, zC]
  replace HAL := Lib.hid (fun k => (HAL.out k).next hb)
  refine only_I 2 (by kernel_rfl) rfl (fun K' hK' => ?_)
  go_simp
  refine hK'.out _ _ (fun k _ h => h) ?_
  clear hK' K'
  try simp only [Act.put, zA, zB, zC]
  refine only_I 3 (by kernel_rfl) rfl (fun K' hK' => ?_)
  go_simp
  refine hK'.out _ _ (fun k _ h => h) ?_
  clear hK' K'
  try simp only [Act.put, zA, zB, zC]
  refine only_I 4 (by kernel_rfl) rfl (fun K' hK' => ?_)
  go_simp
  refine hK'.out _ _ (fun k _ h => h) ?_
  clear hK' K'
  try simp only [Act.put, zA, zB, zC]
  refine only_I 5 (by kernel_rfl) rfl (fun K' hK' => ?_)
  go_simp
  refine hK'.out _ _ (fun k _ h => h) ?_
  clear hK' K'
  try simp only [Act.put, zA, zB, zC]
  refine only_I 6 (by kernel_rfl) rfl (fun K' hK' => ?_)
  go_simp
  refine hK'.out _ _ (fun k _ h => h) ?_
  clear hK' K'
  try simp only [Act.put, zA, zB, zC]
  refine only_I 7 (by kernel_rfl) rfl (fun K' hK' => ?_)
  go_simp
  refine hK'.out _ _ (fun k _ h => h) ?_
  clear hK' K'
  try simp only [Act.put, zA, zB, zC]
  refine only_I 8 (by kernel_rfl) rfl (fun K' hK' => ?_)
  go_simp
  refine hK'.out _ _ (fun k _ h => h) ?_
  clear hK' K'
  try simp only [Act.put, zA, zB, zC]
  refine only_I 9 (by kernel_rfl) rfl (fun K' hK' => ?_)
  go_simp
  refine hK'.out _ _ (fun k _ h => h) ?_
  clear hK' K'
  try simp only [Act.put, zA, zB, zC]
  refine only_I 10 (by kernel_rfl) rfl (fun K' hK' => ?_)
  go_simp
  refine hK'.out _ _ (fun k _ h => h) ?_
  clear hK' K'
  try simp only [Act.put, zA, zB, zC]
  refine only_I 11 (by kernel_rfl) rfl (fun K' hK' => ?_)
  go_simp
  refine hK'.out _ _ (fun k _ h => h) ?_
  clear hK' K'
  try simp only [Act.put, zA, zB, zC]
  refine only_I 12 (by kernel_rfl) rfl (fun K' hK' => ?_)
  go_simp
  refine hK'.out _ _ (fun k _ h => h) ?_
  clear hK' K'
  try simp only [Act.put, zA, zB, zC]
  have c_S2_0 := blk_cell S2.out 0 _ rfl
  have f_S2_0 := blk_frozen S2.out 0
  have c_S2_1 := blk_cell S2.out 1 _ rfl
  have f_S2_1 := blk_frozen S2.out 1
  have c_S2_2 := blk_cell S2.out 2 _ rfl
  have f_S2_2 := blk_frozen S2.out 2
  have c_S2_3 := blk_cell S2.out 3 _ rfl
  have f_S2_3 := blk_frozen S2.out 3
  have l_S2 := blk_lt S2.out
  have eo := EO.out
  have em := EM.out
  obtain ⟨bo, oo, rfl, hlo, z0, z1, z2, z3, z4⟩ := U2.out.at_ (show p4[0]? = some ob by rw [eo]; rfl)
  have ln4 : p4.length = 1 := by rw [eo]; rfl
  rw [em] at z3
  clear eo em
  refine only_I 13 (by kernel_rfl) rfl (fun K' hK' => ?_)
  go_simp
  refine hK'.out _ _ (fun k _ h => h) ?_
  clear hK' K'
  try simp only [Act.put, zA, zB, zC]
  refine only_I 14 (by kernel_rfl) rfl (fun K' hK' => ?_)
  go_simp
  refine hK'.out _ _ (fun k _ h => h) ?_
  clear hK' K'
  try simp only [Act.put, zA, zB, zC]
  refine only_I 15 (by kernel_rfl) rfl (fun K' hK' => ?_)
  go_simp
  refine hK'.out _ _ (fun k _ h => h) ?_
  clear hK' K'
  try simp only [Act.put, zA, zB, zC]
  refine only_I 16 (by kernel_rfl) rfl (fun K' hK' => ?_)
  go_simp
  refine hK'.out _ _ (fun k _ h => h) ?_
  clear hK' K'
  try simp only [Act.put, zA, zB, zC]
  refine only_I 17 (by kernel_rfl) rfl (fun K' hK' => ?_)
  go_simp
  refine hK'.out _ _ (fun k _ h => h) ?_
  clear hK' K'
  try simp only [Act.put, zA, zB, zC]
  refine only_I 18 (by kernel_rfl) rfl (fun K' hK' => ?_)
  go_simp
  refine hK'.out _ _ (fun k _ h => h) ?_
  clear hK' K'
  try simp only [Act.put, zA, zB, zC]
  refine only_I 19 (by kernel_rfl) rfl (fun K' hK' => ?_)
  go_simp
  refine hK'.out _ _ (fun k _ h => h) ?_
  clear hK' K'
  try simp only [Act.put, zA, zB, zC]
  refine only_I 20 (by kernel_rfl) rfl (fun K' hK' => ?_)
  go_simp
  refine hK'.out _ _ (fun k _ h => h) ?_
  clear hK' K'
  try simp only [Act.put, zA, zB, zC]
  refine only_I 21 (by kernel_rfl) rfl (fun K' hK' => ?_)
  go_simp
  refine hK'.out _ _ (fun k _ h => h) ?_
  clear hK' K'
  try simp only [Act.put, zA, zB, zC]
  refine only_I 22 (by kernel_rfl) rfl (fun K' hK' => ?_)
  go_simp
  refine hK'.out _ _ (fun k _ h => h) ?_
  clear hK' K'
  try simp only [Act.put, zA, zB, zC]
  refine only_I 23 (by kernel_rfl) rfl (fun K' hK' => ?_)
  go_simp
  refine hK'.out _ _ (fun k _ h => h) ?_
  clear hK' K'
  try simp only [Act.put, zA, zB, zC]
  refine only_I 24 (by kernel_rfl) rfl (fun K' hK' => ?_)
  go_simp
  refine hK'.out _ _ (fun k _ h => h) ?_
  clear hK' K'
  try simp only [Act.put, zA, zB, zC]
  refine only_I 25 (by kernel_rfl) rfl (fun K' hK' => ?_)
  go_simp
  refine hK'.out _ _ (fun k _ h => h) ?_
  clear hK' K'
  try simp only [Act.put, zA, zB, zC]
  refine only_I 26 (by kernel_rfl) rfl (fun K' hK' => ?_)
  go_simp
  refine hK'.out _ _ (fun k _ h => h) ?_
  clear hK' K'
  try simp only [Act.put, zA, zB, zC]
  refine only_I 27 (by kernel_rfl) rfl (fun K' hK' => ?_)
  go_simp
  refine hK'.out _ _ (fun k _ h => h) ?_
  clear hK' K'
  try simp only [Act.put, zA, zB, zC]
  refine only_I 28 (by kernel_rfl) rfl (fun K' hK' => ?_)
  go_simp
  refine hK'.out _ _ (fun k _ h => h) ?_
  clear hK' K'
  try simp only [Act.put, zA, zB, zC]
  refine only_I 29 (by kernel_rfl) rfl (fun K' hK' => ?_)
  go_simp
  refine hK'.out _ _ (fun k _ h => h) ?_
  clear hK' K'
  try simp only [Act.put, zA, zB, zC]
  refine only_I 30 (by kernel_rfl) rfl (fun K' hK' => ?_)
  go_simp
  refine hK'.out _ _ (fun k _ h => h) ?_
  clear hK' K'
  try simp only [Act.put, zA, zB, zC]
  refine only_I 31 (by kernel_rfl) rfl (fun K' hK' => ?_)
  go_simp
  refine hK'.out _ _ (fun k _ h => h) ?_
  clear hK' K'
  try simp only [Act.put, zA, zB, zC]
  refine only_I 32 (by kernel_rfl) rfl (fun K' hK' => ?_)
  go_simp
  refine hK'.out _ _ (fun k _ h => h) ?_
  clear hK' K'
  try simp only [Act.put, zA, zB, zC]
  refine only_I 33 (by kernel_rfl) rfl (fun K' hK' => ?_)
  go_simp
  refine hK'.out _ _ (fun k _ h => h) ?_
  clear hK' K'
  try simp only [Act.put, zA, zB, zC]
  clear c_S2_0 f_S2_0 c_S2_1 f_S2_1 c_S2_2 f_S2_2 c_S2_3 f_S2_3 l_S2
  refine tJ 34 (.slice A5 tx.length c5) (some 77) rfl (SX.drop (by simp) (by decide) (by decide)) (Or.inl ⟨by rfl, ?_⟩) ?_
  ·intro X hX
   clear hX
   go_simp
  try simp only [Act.put, zA, zB, zC]
  refine tJ 35 (.string (bstr tx)) (some 78) rfl (HAL.out 35) (Or.inl ⟨by rfl, ?_⟩) ?_
  ·intro X hX
   have cv1 := fun c => conv_rba c (hX.2 (by decide)).1
   clear hX
   go_simp
  try simp only [Act.put, zA, zB, zC]
  refine only_I 36 (by kernel_rfl) rfl (fun K' hK' => ?_)
  go_simp
  go_at_call 38
  refine (TX.out _).mono ?_
  rintro e x10 ⟨v, rfl, hv, hb⟩
  replace NN := Lib.hid (Bgo NN.out hb)
  replace T2 := Lib.hid (T2.out.next hb)
  replace U2 := Lib.hid (U2.out.next hb)
  replace R5 := Lib.hid (RBA.next hb R5.out)
  replace S2 := Lib.hid (blk_next hb S2.out)
  obtain ⟨Av, cv, rfl, va, vb, hv⟩ := OB.rb hv TB.out
  have cv1 := fun c => conv_rba c hv
  go_simp
  refine hK'.out _ _ (fun k _ hS => hS.next hb) ?_
  clear hK' K'
  try simp only [Act.put, zA, zB, zC]
  replace HAL := Lib.hid (fun k => (HAL.out k).next hb)
  refine only_I 37 (by kernel_rfl) rfl (fun K' hK' => ?_)
  go_simp
  refine hK'.out _ _ (fun k _ h => h) ?_
  clear hK' K'
  try simp only [Act.put, zA, zB, zC]
  refine only_I 38 (by kernel_rfl) rfl (fun K' hK' => ?_)
  go_simp
  refine hK'.out _ _ (fun k _ h => h) ?_
  clear hK' K'
  try simp only [Act.put, zA, zB, zC]
  refine only_I 39 (by kernel_rfl) rfl (fun K' hK' => ?_)
  go_simp
  refine hK'.out _ _ (fun k _ h => h) ?_
  clear hK' K'
  try simp only [Act.put, zA, zB, zC]
  refine only_I 40 (by kernel_rfl) rfl (fun K' hK' => ?_)
  go_simp
  refine hK'.out _ _ (fun k _ h => h) ?_
  clear hK' K'
  try simp only [Act.put, zA, zB, zC]
  refine only_I 41 (by kernel_rfl) rfl (fun K' hK' => ?_)
  go_simp
  refine hK'.out _ _ (fun k _ h => h) ?_
  clear hK' K'
  try simp only [Act.put, zA, zB, zC]
  refine only_I 42 (by kernel_rfl) rfl (fun K' hK' => ?_)
  go_simp
  refine hK'.out _ _ (fun k _ h => h) ?_
  clear hK' K'
  try simp only [Act.put, zA, zB, zC]
  refine only_I 43 (by kernel_rfl) rfl (fun K' hK' => ?_)
  go_simp
  refine hK'.out _ _ (fun k _ h => h) ?_
  clear hK' K'
  try simp only [Act.put, zA, zB, zC]
  refine only_I 44 (by kernel_rfl) rfl (fun K' hK' => ?_)
  go_simp
  refine hK'.out _ _ (fun k _ h => h) ?_
  clear hK' K'
  try simp only [Act.put, zA, zB, zC]
  refine only_I 45 (by kernel_rfl) rfl (fun K' hK' => ?_)
  go_simp
  refine hK'.out _ _ (fun k _ h => h) ?_
  clear hK' K'
  try simp only [Act.put, zA, zB, zC]
  refine only_I 46 (by kernel_rfl) rfl (fun K' hK' => ?_)
  go_simp
  refine hK'.out _ _ (fun k _ h => h) ?_
  clear hK' K'
  try simp only [Act.put, zA, zB, zC]
  refine only_I 47 (by kernel_rfl) rfl (fun K' hK' => ?_)
  go_simp
  refine hK'.out _ _ (fun k _ h => h) ?_
  clear hK' K'
  try simp only [Act.put, zA, zB, zC]
  refine only_I 48 (by kernel_rfl) rfl (fun K' hK' => ?_)
  go_simp
  refine hK'.out _ _ (fun k _ h => h) ?_
  clear hK' K'
  try simp only [Act.put, zA, zB, zC]
  clear HAL
  refine done_I (by kernel_rfl) ?_ _
  go_wp2_with fail
  go_ret
  exact ⟨rfl, NN.out⟩
end Go.Proofs.Ytapehckcmmompaa
namespace Go.Proofs.Ytapehckcmmompaa
open Go.ChangeShapes Go.WideShapes Go.ChangeAt Go.RowKit
set_option linter.unusedVariables false
set_option maxRecDepth 100000
theorem dk_set_same {α : Type} {L : List α} {r : Nat} {l : α} (h : L[r]? = some l) : L.set r l = L := by
 refine List.ext_getElem? fun i => ?_
 rw [List.getElem?_set]
 by_cases e : r = i
 ·subst e; rw [if_pos rfl, if_pos (get_lt h), h]
 ·rw [if_neg e]
structure Wh (D P n : Nat) (T : Nat → List (List Nat)) (ds : List Dk) : Prop where
 len : ds.length = D + P
 p4 : P ≤ 4
 ok : ∀ k, k < n → OkD (T k) 8 ∧ (∀ l ∈ T k, Byt l) ∧ (T k).length = D
 fit : ∀ (i : Nat) (x : Dk), ds[i]? = some x → x.failed = false → x.blocks = (List.range n).map fun k => (enc (T k) P).getD i []
 gone : ∀ (i : Nat) (x : Dk), ds[i]? = some x → x.failed = true → x.blocks = []
theorem Wh.row {D P n : Nat} {T : Nat → List (List Nat)} {ds : List Dk} (h : Wh D P n T ds) {k i : Nat} (hk : k < n) (hi : i < D + P) : ((enc (T k) P).getD i []).length = 8 ∧ Byt ((enc (T k) P).getD i []) := by
 obtain ⟨o, b, e⟩ := h.ok k hk
 have l : i < (enc (T k) P).length := by rw [enc_len, e]; exact hi
 rw [List.getD_eq_getElem?_getD, List.getElem?_eq_getElem l, Option.getD_some]
 exact ⟨enc_rows o P _ (List.getElem_mem l), enc_byt o b h.p4 _ (List.getElem_mem l)⟩
theorem Wh.blk {D P n : Nat} {T : Nat → List (List Nat)} {ds : List Dk} (h : Wh D P n T ds) {k i : Nat} {x : Dk} (hi : ds[i]? = some x) (hf : x.failed = false) (hk : k < n) : x.blocks.getD k [] = (enc (T k) P).getD i [] := by
 rw [h.fit i x hi hf]; simp [List.getD_eq_getElem?_getD, hk]
theorem Wh.fits {D P n : Nat} {T : Nat → List (List Nat)} {ds : List Dk} (h : Wh D P n T ds) {k : Nat} (hk : k < n) : Fit (strp ds k) (enc (T k) P) := by
 obtain ⟨o, b, e⟩ := h.ok k hk
 refine ⟨by rw [strp_len, enc_len, e, h.len], fun i => ?_⟩
 cases hx : ds[i]? with
 | none =>
  left
  have : (strp ds k)[i]? = none := by simp [strp, hx]
  rw [List.getD_eq_getElem?_getD, this]; rfl
 | some x =>
  rw [getD_of (strp_get hx)]
  cases hf : x.failed with
  | true => left; simp
  | false => right; simp only [Bool.false_eq_true, if_false]; exact h.blk hx hf hk
theorem lostN_map {α : Type} (f : α → List Nat) (p : α → Bool) : ∀ (m : List α), (∀ x ∈ m, (f x).length = 0 ↔ p x = true) → lostN (m.map f) = (m.filter p).length
 | [], _ => rfl
 | x :: m, h => by
  have e : lostN ((x :: m).map f) = lostN [f x] + lostN (m.map f) := by rw [← lostN_append]; rfl
  rw [e, lostN_map f p m (fun y hy => h y (List.mem_cons_of_mem _ hy))]
  have h1 := h x List.mem_cons_self
  cases hp : p x with
  | true => rw [List.filter_cons_of_pos hp, List.length_cons]; have := h1.2 hp; simp [lostN, this]; omega
  | false =>
   rw [List.filter_cons_of_neg (by simp [hp])]
   have : (f x).length ≠ 0 := fun e => by rw [h1.1 e] at hp; cases hp
   simp [lostN, this]
theorem Wh.lost {D P n : Nat} {T : Nat → List (List Nat)} {ds : List Dk} (h : Wh D P n T ds) {k : Nat} (hk : k < n) : lostN (strp ds k) = faN ds := by
 refine lostN_map _ _ ds fun x hx => ?_
 obtain ⟨i, hi⟩ := List.mem_iff_getElem?.1 hx
 cases hf : x.failed with
 | true => simp
 | false =>
  simp only [Bool.false_eq_true, if_false, iff_false]
  rw [h.blk hi hf hk, (h.row hk (by rw [← h.len]; exact get_lt hi)).1]
  decide
theorem Wh.data {D P n : Nat} {T : Nat → List (List Nat)} {ds : List Dk} (h : Wh D P n T ds) {k : Nat} (hk : k < n) (hl : faN ds ≤ P) : dataL D P (strp ds k) = T k ∧ rstE D P (strp ds k) = 0 := by
 obtain ⟨o, b, e⟩ := h.ok k hk
 have h1 := data_back o b h.p4 (h.fits hk) (by rw [h.lost hk]; exact hl)
 have h2 := rst_back o b h.p4 (h.fits hk) (by rw [h.lost hk]; exact hl)
 rw [e] at h1 h2
 exact ⟨h1, h2⟩
theorem Wh.chk {D P n : Nat} {T : Nat → List (List Nat)} {ds : List Dk} (h : Wh D P n T ds) {k : Nat} (hk : k < n) (hl : faN ds < D + P) : chkE D P (strp ds k) = 0 := by
 obtain ⟨o, b, e⟩ := h.ok k hk
 have hq := Fit.okq o h.p4 (h.fits hk)
 have hsz : szL (strp ds k) = 8 := by
  have hne : lostN (strp ds k) ≠ (strp ds k).length := by rw [h.lost hk, strp_len, h.len]; omega
  refine Classical.byContradiction fun hn => ?_
  have h0 : szL (strp ds k) = 0 := by
   rcases Nat.eq_zero_or_pos (szL (strp ds k)) with e0 | e0
   ·exact e0
   ·obtain ⟨l, hl, e2⟩ := szL_mem (by omega : szL (strp ds k) ≠ 0)
    obtain ⟨i, hi⟩ := List.mem_iff_getElem?.1 hl
    have h9 : i < ds.length := by have := get_lt hi; rwa [strp_len] at this
    obtain ⟨x, hx⟩ := get_some h9
    rw [strp_get hx] at hi
    injection hi with hi
    cases hf : x.failed with
    | true => rw [hf] at hi; simp at hi; subst hi; simp at e2; omega
    | false =>
     rw [hf] at hi; simp only [Bool.false_eq_true, if_false] at hi
     rw [h.blk hx hf hk] at hi
     have := (h.row hk (by rw [← h.len]; exact h9 : i < D + P)).1
     rw [hi, e2] at this; exact absurd this hn
  refine hne ?_
  have hz := szL_zero h0
  have : ∀ (m : List (List Nat)), (∀ l ∈ m, l.length = 0) → lostN m = m.length := fun m hm => by
   have := lostN_map id (fun _ => true) m (fun x hx => by simp only [id, iff_true]; exact hm x hx)
   rw [List.map_id] at this
   rw [this, List.filter_eq_self.2 (fun _ _ => rfl)]
  exact this _ hz
 refine ok_chkE ?_
 have h1 := o.d1
 have h8 := o.d8
 have hp4 := h.p4
 refine ⟨by omega, by omega, h.p4, by rw [strp_len, h.len], by omega, by omega, fun l hl => ?_⟩
 rw [hsz]
 obtain ⟨i, hi⟩ := List.mem_iff_getElem?.1 hl
 have h9 : i < ds.length := by have := get_lt hi; rwa [strp_len] at this
 obtain ⟨x, hx⟩ := get_some h9
 rw [strp_get hx] at hi
 injection hi with hi
 cases hf : x.failed with
 | true => rw [hf] at hi; simp at hi; subst hi; left; rfl
 | false =>
  rw [hf] at hi; simp only [Bool.false_eq_true, if_false] at hi
  right
  rw [← hi, h.blk hx hf hk]
  exact (h.row hk (by rw [← h.len]; exact h9 : i < D + P)).1
theorem Wh.res {D P n : Nat} {T : Nat → List (List Nat)} {ds : List Dk} (h : Wh D P n T ds) {k : Nat} (hk : k < n) (hl : faN ds ≤ P) : resE D P (strp ds k) = 0 ∧ resS D P (strp ds k) = ((D : Int), (P : Int), enc (T k) P) := by
 obtain ⟨o, b, e⟩ := h.ok k hk
 have h1 := o.d1
 obtain ⟨d1, d2⟩ := h.data hk hl
 have hc := h.chk hk (by omega)
 have he : resE D P (strp ds k) = 0 := by unfold resE; rw [if_pos hc]; exact d2
 refine ⟨he, ?_⟩
 unfold resS
 rw [if_pos he, Int.toNat_natCast, Int.toNat_natCast, d1]
theorem Wh.get {D P n : Nat} {T : Nat → List (List Nat)} {ds : List Dk} (h : Wh D P n T ds) (hl : faN ds ≤ P) {fr : Nat} : ∀ m, fr + m ≤ n → getTo D P ds fr m = (((List.range m).map fun k => (T (fr + k)).flatten).flatten, 0)
 | 0, _ => rfl
 | m + 1, hm => by
  have ih := h.get hl (fr := fr) m (by omega)
  obtain ⟨h1, h2⟩ := h.res (k := fr + m) (by omega) hl
  obtain ⟨o, b, e⟩ := h.ok (fr + m) (by omega)
  have ht := enc_take (T (fr + m)) P
  rw [e] at ht
  rw [getTo, ih, if_pos rfl, if_pos h1, h2]
  simp only [Int.toNat_natCast, ht, List.range_succ, List.map_append, List.map_cons, List.map_nil, List.flatten_append, List.flatten_cons, List.flatten_nil, List.append_nil]
theorem Wh.rep {D P n : Nat} {T : Nat → List (List Nat)} {ds : List Dk} (h : Wh D P n T ds) (hl : faN ds ≤ P) {x : Nat} : ∀ m, m ≤ n → repTo D P ds x m = ((List.range m).map (fun k => (enc (T k) P).getD x []), 0)
 | 0, _ => rfl
 | m + 1, hm => by
  have ih := h.rep hl (x := x) m (by omega)
  obtain ⟨h1, h2⟩ := h.res (k := m) (by omega) hl
  rw [repTo, ih, if_pos rfl, if_pos h1, h2]
  simp only [List.range_succ, List.map_append, List.map_cons, List.map_nil]
theorem Wh.fail {D P n : Nat} {T : Nat → List (List Nat)} {ds : List Dk} (h : Wh D P n T ds) (x : Nat) : Wh D P n T (ds.set x ⟨true, []⟩) :=
 ⟨by rw [List.length_set, h.len], h.p4, h.ok, fun i y hy hf => by
  rcases set_get hy with ⟨_, rfl, _⟩ | ⟨_, hz⟩
  ·cases hf
  ·exact h.fit i y hz hf, fun i y hy hf => by
  rcases set_get hy with ⟨_, rfl, _⟩ | ⟨_, hz⟩
  ·rfl
  ·exact h.gone i y hz hf⟩
theorem Wh.back {D P n : Nat} {T : Nat → List (List Nat)} {ds : List Dk} (h : Wh D P n T ds) (hl : faN ds ≤ P) (x : Nat) : Wh D P n T (ds.set x ⟨false, (repTo D P ds x n).1⟩) :=
 ⟨by rw [List.length_set, h.len], h.p4, h.ok, fun i y hy hf => by
  rcases set_get hy with ⟨e, rfl, _⟩ | ⟨_, hz⟩
  ·subst e; rw [h.rep hl n (Nat.le_refl _)]
  ·exact h.fit i y hz hf, fun i y hy hf => by
  rcases set_get hy with ⟨_, rfl, _⟩ | ⟨_, hz⟩
  ·cases hf
  ·exact h.gone i y hz hf⟩
theorem faN_set {ds : List Dk} {x : Nat} {k y : Dk} (h : ds[x]? = some k) : faN (ds.set x y) + (if k.failed then 1 else 0) = faN ds + (if y.failed then 1 else 0) := by
 induction ds generalizing x with
 | nil => simp at h
 | cons a ds ih =>
  cases x with
  | zero =>
   simp at h; subst h
   simp only [List.set_cons_zero, faN, List.filter_cons]
   cases a.failed <;> cases y.failed <;> simp
  | succ x =>
   simp at h
   have := ih h
   simp only [List.set_cons_succ, faN, List.filter_cons] at this ⊢
   cases a.failed <;> simp at this ⊢ <;> omega
theorem Wh.there {D P n : Nat} {T : Nat → List (List Nat)} {ds : List Dk} (h : Wh D P n T ds) {x : Nat} {k : Dk} (hx : ds[x]? = some k) (hf : k.failed = false) (hl : faN ds + 1 ≤ P) :
  (ds.set x ⟨true, []⟩).set x ⟨false, (repTo D P (ds.set x ⟨true, []⟩) x n).1⟩ = ds := by
 have h1 := faN_set (y := ⟨true, []⟩) hx
 rw [hf] at h1
 simp at h1
 rw [(h.fail x).rep (by omega) n (Nat.le_refl _), List.set_set]
 have e := h.fit x k hx hf
 have : (⟨false, (List.range n).map (fun k => (enc (T k) P).getD x [])⟩ : Dk) = k := by rw [← e]; cases k; simp at hf; subst hf; rfl
 rw [this]
 exact dk_set_same hx
def putT (T : Nat → List (List Nat)) (n D : Nat) (q : List Nat) (k : Nat) : List (List Nat) := if k < n then T k else rowsL D q (k - n)
theorem rowsL_byt {d : Nat} {q : List Nat} {k : Nat} (hq : Byt q) : ∀ l ∈ rowsL d q k, Byt l := fun l hl => by
 obtain ⟨i, hi, rfl⟩ := List.mem_map.1 hl
 exact fun x hx => hq x (List.mem_of_mem_drop (List.mem_of_mem_take hx))
theorem rowsL_ok {d mn k : Nat} {q : List Nat} (h1 : 1 ≤ d) (h8 : d ≤ 8) (hq : q.length = mn * 8 * d) (hk : k < mn) : OkD (rowsL d q k) 8 :=
 ⟨by rw [rowsL_len]; exact h1, by rw [rowsL_len]; exact h8, by omega, by omega, rowsL_each hq hk⟩
theorem Wh.put {D P n : Nat} {T : Nat → List (List Nat)} {ds : List Dk} (h : Wh D P n T ds) (h1 : 1 ≤ D) (h8 : D ≤ 8) {q : List Nat} {mn : Nat} (hq : q.length = mn * 8 * D) (hb : Byt q) : Wh D P (n + mn) (putT T n D q) (putDs D P q mn ds) := by
 refine ⟨by rw [putDs_len, h.len], h.p4, fun k hk => ?_, fun i x hx hf => ?_, fun i x hx hf => ?_⟩
 ·unfold putT
  split
  ·rename_i hk'; exact h.ok k hk'
  ·exact ⟨rowsL_ok h1 h8 hq (by omega), rowsL_byt hb, rowsL_len _ _ _⟩
 ·simp only [putDs, List.getElem?_mapIdx] at hx
  cases hy : ds[i]? with
  | none => rw [hy] at hx; cases hx
  | some y =>
   rw [hy] at hx; simp at hx; subst hx
   rw [putDk_failed] at hf
   simp only [putDk, hf, Bool.false_eq_true, if_false]
   rw [h.fit i y hy hf, List.range_add, List.map_append, List.map_map]
   congr 1
   ·exact List.map_congr_left fun k hk => by simp only [putT, List.mem_range.1 hk, if_true]
   ·refine List.map_congr_left fun k hk => ?_
    have : ¬ (n + k < n) := by omega
    simp only [Function.comp, putT, this, if_false, Nat.add_sub_cancel_left]
 ·simp only [putDs, List.getElem?_mapIdx] at hx
  cases hy : ds[i]? with
  | none => rw [hy] at hx; cases hx
  | some y =>
   rw [hy] at hx; simp at hx; subst hx
   rw [putDk_failed] at hf
   rw [putDk_gone hf]
   exact h.gone i y hy hf
theorem putDs_fa (d p : Nat) (q : List Nat) (k : Nat) (ds : List Dk) : faN (putDs d p q k ds) = faN ds := by
 have : (putDs d p q k ds).map Dk.failed = ds.map Dk.failed := List.ext_getElem? fun i => by
  simp only [putDs, List.getElem?_map, List.getElem?_mapIdx]
  cases ds[i]? with
  | none => rfl
  | some x => simp [putDk_failed]
 have e : ∀ (l : List Dk), faN l = ((l.map Dk.failed).filter id).length := fun l => by
  unfold faN; rw [List.filter_map, List.length_map]; rfl
 rw [e, e, this]
theorem Wh.new {D P : Nat} (hp : P ≤ 4) (T : Nat → List (List Nat)) : Wh D P 0 T (List.replicate (D + P) ⟨false, []⟩) :=
 ⟨by simp, hp, fun k hk => by omega, fun i x hx hf => by
  have := List.mem_replicate.1 (List.mem_of_getElem? hx)
  rw [this.2]; rfl, fun i x hx hf => by
  have := List.mem_replicate.1 (List.mem_of_getElem? hx)
  rw [this.2]⟩
theorem OkS.wh {d p : Int} {ds : List Dk} {os : List Ob} (h : OkS d p ds os) (hb : ∀ k ∈ ds, ∀ b ∈ k.blocks, Byt b) (hs : ∀ k : Nat, (k : Int) < strN os → resE d p (strp ds k) = 0) :
  Wh d.toNat p.toNat (strN os).toNat (fun k => dataL d.toNat p.toNat (strp ds k)) ds := by
 have d1 := h.d1
 have p0 := h.p0
 have p4 := h.p4
 have hl := h.len
 have st := h.str
 have key : ∀ k : Nat, (k : Int) < strN os → OkD (dataL d.toNat p.toNat (strp ds k)) 8 ∧ (∀ l ∈ dataL d.toNat p.toNat (strp ds k), Byt l) ∧ (dataL d.toNat p.toNat (strp ds k)).length = d.toNat ∧ fitB (strp ds k) (enc (dataL d.toNat p.toNat (strp ds k)) p.toNat) = true := fun k hk => by
  have ok := strp_ok h hk
  have h0 := hs k hk
  rw [strp_resE h hk] at h0
  have dr := dataL_rows ok (rstE_zero h0)
  rw [strp_size h hk] at dr
  have dl := dataL_len d.toNat p.toNat (strp ds k)
  refine ⟨⟨by rw [dl]; exact ok.d1, by rw [dl]; exact ok.d8, by omega, by omega, dr⟩, dataL_byt ok (fun l hl => ?_), dl, ?_⟩
  ·obtain ⟨x, hx, rfl⟩ := List.mem_map.1 hl
   split
   ·exact Byt.nil
   ·rw [List.getD_eq_getElem?_getD]
    cases e : x.blocks[k]? with
    | none => exact Byt.nil
    | some b => exact hb x hx b (List.mem_of_getElem? e)
  ·have h9 := rstE_zero h0
   unfold rstE at h0
   rw [if_neg (by omega)] at h0
   split at h0
   ·assumption
   ·cases h0
 refine ⟨by omega, by omega, fun k hk => ?_, fun i x hx hf => ?_, fun i x hx hf => (h.dkl (List.mem_of_getElem? hx)).1 hf⟩
 ·obtain ⟨a, b, c, _⟩ := key k (by omega)
  exact ⟨a, b, c⟩
 ·have h1 := (h.dkl (List.mem_of_getElem? hx)).2 hf
  refine List.ext_getElem? fun k => ?_
  rw [List.getElem?_map]
  by_cases hk : k < (strN os).toNat
  ·rw [List.getElem?_range hk]
   obtain ⟨a, b, c, f⟩ := key k (by omega)
   have hlt : k < x.blocks.length := by omega
   have hg := strp_get (k := k) hx
   rw [hf] at hg
   simp only [Bool.false_eq_true, if_false, List.getD_eq_getElem?_getD, List.getElem?_eq_getElem hlt, Option.getD_some] at hg
   have hi : i < (enc (dataL d.toNat p.toNat (strp ds k)) p.toNat).length := by rw [enc_len, c]; have := get_lt hx; omega
   rw [List.getElem?_eq_getElem hlt]
   simp only [Option.map_some]
   rw [List.getD_eq_getElem?_getD, List.getElem?_eq_getElem hi, Option.getD_some]
   rcases fitB_out f hg (List.getElem?_eq_getElem hi) with e | e
   ·have := h1.2 _ (List.getElem_mem hlt); omega
   ·rw [e]
  ·rw [List.getElem?_eq_none (by omega), List.getElem?_eq_none (by simp; omega)]; rfl
end Go.Proofs.Ytapehckcmmompaa
namespace Go.Proofs.Ytapehckcmmompaa
open Go.ChangeShapes Go.WideShapes Go.ChangeAt Go.RowKit
set_option linter.unusedVariables false
set_option maxRecDepth 100000
theorem strN_append (a b : List Ob) : strN (a ++ b) = strN a + strN b := by unfold strN; rw [List.map_append, List.sum_append]
theorem strN_one (o : Ob) : strN [o] = o.many := by simp [strN]
theorem OkS.chk {d p : Int} {ds : List Dk} {os : List Ob} (h : OkS d p ds os) : chS d p ds os = 0 := by
 have := h.d8; have := h.p4; have := h.len
 rw [chS_in (by omega) h.n16 h.d1 h.d8 h.p0 h.p4 h.len, if_pos ⟨h.des, h.gone, h.dk⟩]
theorem putE_zero {d p : Int} {ds : List Dk} {os : List Ob} {nm : ByteArray} {b : List Nat} (h : putE d p ds os nm b = 0) :
  chS d p ds os = 0 ∧ namB nm.data.toList = true ∧ findL os nm.toList = -1 ∧ os.length < 16 ∧ b.length ≤ 256 ∧ (faN ds : Int) ≤ p := by
 unfold putE at h
 split at h
 ·rename_i h0
  split at h
  ·rename_i h1
   split at h
   ·cases h
   ·rename_i h2
    split at h
    ·cases h
    ·rename_i h3
     split at h
     ·cases h
     ·rename_i h4
      refine ⟨h0, h1, ?_, by omega, by omega, by omega⟩
      rcases findL_nn (os := os) (l := nm.toList) with h5 | h5
      ·exact h5
      ·exact absurd h5 h2
  ·cases h
 ·rename_i h0; exact absurd h h0
theorem Wh.okS {D P n : Nat} {T : Nat → List (List Nat)} {ds : List Dk} (h : Wh D P n T ds) {os : List Ob} (h1 : 1 ≤ D) (h8 : D ≤ 8) (hd : desB D os = true) (h16 : os.length ≤ 16) (hn : strN os = n) (hg : 0 < n → faN ds ≠ ds.length) : OkS D P ds os := by
 have l := h.len
 have p4 := h.p4
 refine ⟨by omega, by omega, by omega, by omega, by omega, h16, hd, des_sm (by omega) (by omega) hd, fun h0 => hg (by omega), fun k hk => ?_⟩
 obtain ⟨i, hi⟩ := List.mem_iff_getElem?.1 hk
 unfold dkB
 cases hf : k.failed with
 | true => rw [if_pos rfl, h.gone i k hi hf]; rfl
 | false =>
  rw [if_neg (by decide), hn, h.fit i k hi hf]
  simp only [List.length_map, List.length_range, beq_self_eq_true, Bool.true_and, List.all_eq_true, decide_eq_true_eq, List.mem_map, List.mem_range]
  rintro b ⟨j, hj, rfl⟩
  exact (h.row hj (by rw [← l]; exact get_lt hi)).1
theorem des_put {d : Int} {os : List Ob} {nm : ByteArray} {b : List Nat} (h : desB d os = true) (h1 : namB nm.data.toList = true) (h2 : findL os nm.toList = -1) (h3 : b.length ≤ 256) : desB d (os ++ [newO d os nm b]) = true := by
 refine desB_iff.2 fun k o hk => ?_
 rcases get_append_one hk with h4 | ⟨h4, rfl⟩
 ·have := desB_iff.1 h k o h4
  unfold oneO at this ⊢
  rwa [List.take_append_of_le_length (by have := get_lt h4; omega)]
 ·have hl := digL_lt b
  subst h4
  unfold oneO
  rw [List.take_append_of_le_length (by omega), List.take_length]
  have g1 : (decide ((0 : Int) ≤ ((b.length : Nat) : Int))) = true := decide_eq_true (by omega)
  have g2 : (decide (((b.length : Nat) : Int) ≤ 256)) = true := decide_eq_true (by omega)
  have g3 : (decide ((0 : Int) ≤ ((digL b : Nat) : Int))) = true := decide_eq_true (by omega)
  have g4 : (decide (((digL b : Nat) : Int) < 1000000007)) = true := decide_eq_true (by omega)
  have an : ∀ {a b : Bool}, a = true → b = true → (a && b) = true := fun h h' => by rw [h, h']; rfl
  have g5 : (findL os (newO d os nm b).name.toList == -1) = true := by
   show (findL os nm.toList == -1) = true
   rw [h2]; rfl
  exact an (an h1 (an g1 (an g2 (an (beq_self_eq_true _) (an (beq_self_eq_true _) (an g3 g4)))))) g5
theorem findL_old {os : List Ob} {o : Ob} {l : List UInt8} (h : 0 ≤ findL os l) : findL (os ++ [o]) l = findL os l := by
 unfold findL at h ⊢
 rw [List.findIdx?_append]
 cases e : os.findIdx? (fun o => nmE o l) with
 | none => rw [e] at h; simp at h
 | some i => simp
theorem pad_fit {D : Nat} {b : List Nat} (h1 : 1 ≤ D) (h8 : D ≤ 8) (hb : b.length ≤ 256) : (padB D b).length = manyL D b * 8 * D ∧ ned b.length D = (manyL D b : Int) ∧ b.length ≤ manyL D b * 8 * D := by
 obtain ⟨mn, e, _, hf⟩ := ned_fit h1 h8 hb
 have : manyL D b = mn := by unfold manyL; rw [e]; rfl
 refine ⟨?_, by rw [this, e], by rw [this]; exact hf⟩
 unfold padB
 rw [this, Int.toNat_natCast, padL_len hf]
structure Gd (D P n : Nat) (T : Nat → List (List Nat)) (ds : List Dk) (os : List Ob) : Prop where
 wh : Wh D P n T ds
 d1 : 1 ≤ D
 d8 : D ≤ 8
 des : desB D os = true
 n16 : os.length ≤ 16
 str : strN os = n
 live : 0 < n → faN ds ≠ ds.length
theorem Gd.ok {D P n : Nat} {T : Nat → List (List Nat)} {ds : List Dk} {os : List Ob} (h : Gd D P n T ds os) : OkS D P ds os := h.wh.okS h.d1 h.d8 h.des h.n16 h.str h.live
theorem Gd.chk {D P n : Nat} {T : Nat → List (List Nat)} {ds : List Dk} {os : List Ob} (h : Gd D P n T ds os) : chS D P ds os = 0 := h.ok.chk
theorem Gd.new {D P : Nat} (h1 : 1 ≤ D) (h8 : D ≤ 8) (hp : P ≤ 4) (T : Nat → List (List Nat)) : Gd D P 0 T (List.replicate (D + P) ⟨false, []⟩) [] :=
 ⟨Wh.new hp T, h1, h8, rfl, by simp, rfl, fun h => by omega⟩
theorem Gd.put {D P n : Nat} {T : Nat → List (List Nat)} {ds : List Dk} {os : List Ob} {nm : ByteArray} {b : List Nat} (h : Gd D P n T ds os) (hb : Byt b) (he : putE D P ds os nm b = 0) :
  Gd D P (n + manyL D b) (putT T n D (padB D b)) (putDs D P (padB D b) (manyL D b) ds) (os ++ [newO D os nm b]) := by
 obtain ⟨_, e1, e2, e3, e4, e5⟩ := putE_zero he
 obtain ⟨p1, p2, p3⟩ := pad_fit h.d1 h.d8 e4
 have d1 := h.d1
 refine ⟨h.wh.put h.d1 h.d8 p1 (padL_byt hb), h.d1, h.d8, des_put h.des e1 e2 e4, by simp; omega, ?_, fun _ => ?_⟩
 ·rw [strN_append, strN_one, h.str]; simp only [newO, p2]; push_cast; rfl
 ·rw [putDs_fa, putDs_len, h.wh.len]; omega
theorem Gd.putS {D P n : Nat} {T : Nat → List (List Nat)} {ds : List Dk} {os : List Ob} {nm : ByteArray} {b : List Nat} (h : Gd D P n T ds os) (he : putE D P ds os nm b = 0) :
  putS D P ds os nm b = ((D : Int), (P : Int), putDs D P (padB D b) (manyL D b) ds, os ++ [newO D os nm b]) := by
 rw [putS_ok he, Int.toNat_natCast, Int.toNat_natCast]
theorem Gd.fail {D P n : Nat} {T : Nat → List (List Nat)} {ds : List Dk} {os : List Ob} (h : Gd D P n T ds os) {x : Nat} {k : Dk} (hx : ds[x]? = some k) (hf : k.failed = false) (hl : 0 < n → faN ds + 1 ≠ ds.length) : Gd D P n T (ds.set x ⟨true, []⟩) os := by
 refine ⟨h.wh.fail x, h.d1, h.d8, h.des, h.n16, h.str, fun h0 => ?_⟩
 have := faN_set (y := ⟨true, []⟩) hx
 rw [hf] at this; simp at this
 rw [List.length_set]
 have := hl h0
 omega
theorem Gd.back {D P n : Nat} {T : Nat → List (List Nat)} {ds : List Dk} {os : List Ob} (h : Gd D P n T ds os) {x : Nat} {k : Dk} (hx : ds[x]? = some k) (hf : k.failed = true) (hl : faN ds ≤ P) : Gd D P n T (ds.set x ⟨false, (repTo D P ds x n).1⟩) os := by
 refine ⟨h.wh.back hl x, h.d1, h.d8, h.des, h.n16, h.str, fun h0 => ?_⟩
 have := faN_set (y := ⟨false, (repTo D P ds x n).1⟩) hx
 rw [hf] at this; simp at this
 rw [List.length_set]
 have := faN_le ds
 omega
end Go.Proofs.Ytapehckcmmompaa
namespace Go.Proofs.Ytapehckcmmompaa
open Go.ChangeShapes Go.WideShapes Go.ChangeAt Go.RowKit
set_option linter.unusedVariables false
set_option maxRecDepth 100000
theorem RD.byt {B : Nat} {w : World} {A : Option Addr} {ds : List Dk} (h : RD B w A ds) : ∀ k ∈ ds, ∀ b ∈ k.blocks, Byt b := fun k hk b hb => by
 obtain ⟨i, hi⟩ := List.mem_iff_getElem?.1 hk
 obtain ⟨_, _, _, _, _, _, _, _, _, _, hr⟩ := h.at_ hi
 exact RMA.byt hr b hb
theorem scr_sound {d p : Int} {ds : List Dk} {os : List Ob} (h : OkS d p ds os) (he : scrE d p ds os = 0) (hr : scrR d p ds os = []) : (0 < strN os → (faN ds : Int) ≤ p) ∧ ∀ k : Nat, (k : Int) < strN os → resE d p (strp ds k) = 0 := by
 unfold scrR at hr
 rw [if_pos he] at hr
 unfold scrE at he
 rw [if_pos h.chk] at he
 constructor
 ·intro h0
  refine Classical.byContradiction fun hn => ?_
  rw [if_pos ⟨h0, by omega⟩] at he
  cases he
 ·intro k hk
  unfold scrL at hr
  have := List.map_eq_nil_iff.1 hr
  have h1 := List.filter_eq_nil_iff.1 this k (List.mem_range.2 (by omega))
  simpa using h1
theorem OkS.gd {d p : Int} {ds : List Dk} {os : List Ob} (h : OkS d p ds os) (hb : ∀ k ∈ ds, ∀ b ∈ k.blocks, Byt b) (he : scrE d p ds os = 0) (hr : scrR d p ds os = []) :
  ∃ (D P n : Nat) (T : Nat → List (List Nat)), d = D ∧ p = P ∧ strN os = n ∧ Gd D P n T ds os ∧ (0 < n → faN ds ≤ P) := by
 obtain ⟨h1, h2⟩ := scr_sound h he hr
 have st := h.str
 have d1 := h.d1
 have d8 := h.d8
 have p0 := h.p0
 refine ⟨d.toNat, p.toNat, (strN os).toNat, _, by omega, by omega, by omega, ⟨h.wh hb h2, by omega, by omega, by rw [Int.toNat_of_nonneg (by omega)]; exact h.des, h.n16, by omega, fun h0 => h.gone (by omega)⟩, fun h0 => ?_⟩
 have := h1 (by omega)
 omega
theorem Gd.find {D P n : Nat} {T : Nat → List (List Nat)} {ds : List Dk} {os : List Ob} (h : Gd D P n T ds os) {i : Nat} {o : Ob} (hi : os[i]? = some o) : findL os o.name.toList = (i : Int) := by
 have h1 := desB_iff.1 h.des i o hi
 unfold oneO at h1
 simp only [Bool.and_eq_true, beq_iff_eq] at h1
 exact (findL_take hi).2 h1.2
theorem Gd.same {D P n : Nat} {T : Nat → List (List Nat)} {ds : List Dk} {os : List Ob} {nm : ByteArray} {b : List Nat} (h : Gd D P n T ds os) (hb : Byt b) (he : putE D P ds os nm b = 0) {i : Nat} {o : Ob} (hi : os[i]? = some o) :
  getR D P (putDs D P (padB D b) (manyL D b) ds) (os ++ [newO D os nm b]) o.name = getR D P ds os o.name := by
 obtain ⟨_, _, _, _, _, hfa⟩ := putE_zero he
 have g2 := h.put hb he
 have ho := h.ok.ob hi
 have hs := h.str
 have f1 := h.find hi
 have hle : o.from_.toNat + o.many.toNat ≤ n := by have := ho.1; have := ho.2.1; have := ho.2.2.2.1; omega
 have t1 := h.wh.get (by omega) (fr := o.from_.toNat) o.many.toNat hle
 have t2 := g2.wh.get (by rw [putDs_fa]; omega) (fr := o.from_.toNat) o.many.toNat (by omega)
 have e : ((List.range o.many.toNat).map fun k => (putT T n D (padB D b) (o.from_.toNat + k)).flatten) = (List.range o.many.toNat).map fun k => (T (o.from_.toNat + k)).flatten := List.map_congr_left fun k hk => by
  have := List.mem_range.1 hk
  simp only [putT, show o.from_.toNat + k < n by omega, if_true]
 rw [e] at t2
 unfold getR
 rw [if_pos g2.chk, if_pos h.chk, findL_old (by omega), f1, Int.toNat_natCast, List.getElem?_append_left (get_lt hi), hi]
 simp only [Int.natCast_nonneg, decide_true, t1, t2]
end Go.Proofs.Ytapehckcmmompaa
