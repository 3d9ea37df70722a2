/- For every input the law FracProducts returns true and leaves its arguments as they were. -/
import Derived.Test.YtpeoecgehdicmaaRows
import Derived.Test.YtpeoecgehdicmaaFrp
import Derived.WalkKit
import Derived.ProofKit
import Derived.OpenShut
import Derived.ShutString
import Derived.ChangeOld
import Derived.Below
import Derived.Lib.SmallJoins
namespace Go.Proofs.Ytpeoecgehdicmaa.fracProducts
open Go.ChangeShapes Go.WideShapes Go.ChangeAt Go.RowKit Go.Joins
open Go.ChangeMaps (open_string shut_string)
set_option linter.unusedVariables false

theorem own : ownKnob Try.prog.godebug = none := by kernel_rfl
theorem laidOut : laidOutB Try.prog = true := by kernel_rfl
set_option maxRecDepth 100000 in
set_option maxHeartbeats 16000000 in
theorem walk (num den an ad bn bd : Int) (w : World) (h1 : -9223372036854775808 ≤ num) (h2 : num ≤ 9223372036854775807) (h3 : -9223372036854775808 ≤ den) (h4 : den ≤ 9223372036854775807) :
    Calls Try.prog 3 #[.int .i64 num, .int .i64 den, Fv an ad, Fv bn bd] w fun e w' => e = .returned (.bool true) ∧ Below w.heap.size w w' := by
  have M1_ := Lib.hid (fun W => make_calls num den W h1 h2 h3 h4)
  have M2_ := Lib.hid (fun W => refMake_calls num den W h1 h2 h3 h4)
  have P1_ := Lib.hid (fun W => mul_calls an ad bn bd W)
  have P2_ := Lib.hid (fun W => refMul_calls an ad bn bd W)
  have D1_ := Lib.hid (fun W => div_calls an ad bn bd W)
  have D2_ := Lib.hid (fun W => refDiv_calls an ad bn bd W)
  have Q1 := Lib.hid (fun W => near_calls an ad num W)
  have Q2 := Lib.hid (fun W => refNear_calls an ad num W)
  have UN : Hid (∀ r r', NearR an ad num r → NearR an ad num r' → r = r') := Lib.hid (fun r r' h k => h.unique k)
  generalize makeF num den = rm at *
  obtain ⟨m1, m2, m3⟩ := rm
  generalize mulR an ad bn bd = rp at *
  obtain ⟨p1, p2, p3⟩ := rp
  generalize divR an ad bn bd = rd at *
  obtain ⟨d1, d2, d3⟩ := rd
  clear h1 h2 h3 h4
  go_enter Try.func3, Try.ntmps3
  go_wp2_with fail
  have BA : Hid (((w.alloc (.cells #[.int .i64 an, .int .i64 ad] 23)).alloc (.cells #[.int .i64 bn, .int .i64 bd] 23)).heap[w.heap.size]? = some (.cells #[.int .i64 an, .int .i64 ad] 23)) := Lib.hid (blk1 w _ _)
  have BB : Hid (((w.alloc (.cells #[.int .i64 an, .int .i64 ad] 23)).alloc (.cells #[.int .i64 bn, .int .i64 bd] 23)).heap[w.heap.size + 1]? = some (.cells #[.int .i64 bn, .int .i64 bd] 23)) := Lib.hid (blk2 w _ _)
  have NN : Hid (Below w.heap.size w ((w.alloc (.cells #[.int .i64 an, .int .i64 ad] 23)).alloc (.cells #[.int .i64 bn, .int .i64 bd] 23))) := Lib.hid (Bal (Bal (Below.refl _ _) _) _)
  generalize (w.alloc (.cells #[.int .i64 an, .int .i64 ad] 23)).alloc (.cells #[.int .i64 bn, .int .i64 bd] 23) = W0 at *
  refine (M1_.out _).mono ?_
  rintro e w1 ⟨rfl, hb⟩
  have HB : Hid (Below W0.heap.size W0 (w1.alloc (.cells #[.int .i64 m1, .int .i64 m2] 23))) := Lib.hid (Bal hb _)
  clear hb
  replace BA := Lib.hid (blk_next HB.out BA.out)
  replace BB := Lib.hid (blk_next HB.out BB.out)
  replace NN := Lib.hid (Bgo NN.out HB.out)
  have Bm1 : Hid ((w1.alloc (.cells #[.int .i64 m1, .int .i64 m2] 23)).heap[w1.heap.size]? = some (.cells #[.int .i64 m1, .int .i64 m2] 23)) := Lib.hid (blk_new w1 _)
  clear HB
  go_wp2_with fail
  generalize w1.alloc (.cells #[.int .i64 m1, .int .i64 m2] 23) = W1 at *
  generalize w1.heap.size = gm1 at *
  refine (M2_.out _).mono ?_
  rintro e w2 ⟨rfl, hb⟩
  have HB : Hid (Below W1.heap.size W1 (w2.alloc (.cells #[.int .i64 m1, .int .i64 m2] 23))) := Lib.hid (Bal hb _)
  have yBA := blk_next hb BA.out
  have lBA := blk_lt yBA
  have cBA0 := blk_cell yBA 0 _ rfl
  have cBA1 := blk_cell yBA 1 _ rfl
  clear yBA
  have yBB := blk_next hb BB.out
  have lBB := blk_lt yBB
  have cBB0 := blk_cell yBB 0 _ rfl
  have cBB1 := blk_cell yBB 1 _ rfl
  clear yBB
  clear hb
  replace BA := Lib.hid (blk_next HB.out BA.out)
  replace BB := Lib.hid (blk_next HB.out BB.out)
  replace Bm1 := Lib.hid (blk_next HB.out Bm1.out)
  replace NN := Lib.hid (Bgo NN.out HB.out)
  have Bm2 : Hid ((w2.alloc (.cells #[.int .i64 m1, .int .i64 m2] 23)).heap[w2.heap.size]? = some (.cells #[.int .i64 m1, .int .i64 m2] 23)) := Lib.hid (blk_new w2 _)
  clear HB
  go_wp2_with fail
  clear lBA cBA0 cBA1 lBB cBB0 cBB1
  generalize w2.alloc (.cells #[.int .i64 m1, .int .i64 m2] 23) = W2 at *
  generalize w2.heap.size = gm2 at *
  refine (P1_.out _).mono ?_
  rintro e w3 ⟨rfl, hb⟩
  have HB : Hid (Below W2.heap.size W2 (w3.alloc (.cells #[.int .i64 p1, .int .i64 p2] 23))) := Lib.hid (Bal hb _)
  have yBA := blk_next hb BA.out
  have lBA := blk_lt yBA
  have cBA0 := blk_cell yBA 0 _ rfl
  have cBA1 := blk_cell yBA 1 _ rfl
  clear yBA
  have yBB := blk_next hb BB.out
  have lBB := blk_lt yBB
  have cBB0 := blk_cell yBB 0 _ rfl
  have cBB1 := blk_cell yBB 1 _ rfl
  clear yBB
  clear hb
  replace BA := Lib.hid (blk_next HB.out BA.out)
  replace BB := Lib.hid (blk_next HB.out BB.out)
  replace Bm1 := Lib.hid (blk_next HB.out Bm1.out)
  replace Bm2 := Lib.hid (blk_next HB.out Bm2.out)
  replace NN := Lib.hid (Bgo NN.out HB.out)
  have Bp1 : Hid ((w3.alloc (.cells #[.int .i64 p1, .int .i64 p2] 23)).heap[w3.heap.size]? = some (.cells #[.int .i64 p1, .int .i64 p2] 23)) := Lib.hid (blk_new w3 _)
  clear HB
  go_wp2_with fail
  clear lBA cBA0 cBA1 lBB cBB0 cBB1
  generalize w3.alloc (.cells #[.int .i64 p1, .int .i64 p2] 23) = W3 at *
  generalize w3.heap.size = gp1 at *
  refine (P2_.out _).mono ?_
  rintro e w4 ⟨rfl, hb⟩
  have HB : Hid (Below W3.heap.size W3 (w4.alloc (.cells #[.int .i64 p1, .int .i64 p2] 23))) := Lib.hid (Bal hb _)
  have yBA := blk_next hb BA.out
  have lBA := blk_lt yBA
  have cBA0 := blk_cell yBA 0 _ rfl
  have cBA1 := blk_cell yBA 1 _ rfl
  clear yBA
  have yBB := blk_next hb BB.out
  have lBB := blk_lt yBB
  have cBB0 := blk_cell yBB 0 _ rfl
  have cBB1 := blk_cell yBB 1 _ rfl
  clear yBB
  clear hb
  replace BA := Lib.hid (blk_next HB.out BA.out)
  replace BB := Lib.hid (blk_next HB.out BB.out)
  replace Bm1 := Lib.hid (blk_next HB.out Bm1.out)
  replace Bm2 := Lib.hid (blk_next HB.out Bm2.out)
  replace Bp1 := Lib.hid (blk_next HB.out Bp1.out)
  replace NN := Lib.hid (Bgo NN.out HB.out)
  have Bp2 : Hid ((w4.alloc (.cells #[.int .i64 p1, .int .i64 p2] 23)).heap[w4.heap.size]? = some (.cells #[.int .i64 p1, .int .i64 p2] 23)) := Lib.hid (blk_new w4 _)
  clear HB
  go_wp2_with fail
  clear lBA cBA0 cBA1 lBB cBB0 cBB1
  generalize w4.alloc (.cells #[.int .i64 p1, .int .i64 p2] 23) = W4 at *
  generalize w4.heap.size = gp2 at *
  refine (D1_.out _).mono ?_
  rintro e w5 ⟨rfl, hb⟩
  have HB : Hid (Below W4.heap.size W4 (w5.alloc (.cells #[.int .i64 d1, .int .i64 d2] 23))) := Lib.hid (Bal hb _)
  have yBA := blk_next hb BA.out
  have lBA := blk_lt yBA
  have cBA0 := blk_cell yBA 0 _ rfl
  have cBA1 := blk_cell yBA 1 _ rfl
  clear yBA
  have yBB := blk_next hb BB.out
  have lBB := blk_lt yBB
  have cBB0 := blk_cell yBB 0 _ rfl
  have cBB1 := blk_cell yBB 1 _ rfl
  clear yBB
  clear hb
  replace BA := Lib.hid (blk_next HB.out BA.out)
  replace BB := Lib.hid (blk_next HB.out BB.out)
  replace Bm1 := Lib.hid (blk_next HB.out Bm1.out)
  replace Bm2 := Lib.hid (blk_next HB.out Bm2.out)
  replace Bp1 := Lib.hid (blk_next HB.out Bp1.out)
  replace Bp2 := Lib.hid (blk_next HB.out Bp2.out)
  replace NN := Lib.hid (Bgo NN.out HB.out)
  have Bd1 : Hid ((w5.alloc (.cells #[.int .i64 d1, .int .i64 d2] 23)).heap[w5.heap.size]? = some (.cells #[.int .i64 d1, .int .i64 d2] 23)) := Lib.hid (blk_new w5 _)
  clear HB
  go_wp2_with fail
  clear lBA cBA0 cBA1 lBB cBB0 cBB1
  generalize w5.alloc (.cells #[.int .i64 d1, .int .i64 d2] 23) = W5 at *
  generalize w5.heap.size = gd1 at *
  refine (D2_.out _).mono ?_
  rintro e w6 ⟨rfl, hb⟩
  have HB : Hid (Below W5.heap.size W5 (w6.alloc (.cells #[.int .i64 d1, .int .i64 d2] 23))) := Lib.hid (Bal hb _)
  have yBA := blk_next hb BA.out
  have lBA := blk_lt yBA
  have cBA0 := blk_cell yBA 0 _ rfl
  have cBA1 := blk_cell yBA 1 _ rfl
  clear yBA
  clear hb
  replace BA := Lib.hid (blk_next HB.out BA.out)
  replace BB := Lib.hid (blk_next HB.out BB.out)
  replace Bm1 := Lib.hid (blk_next HB.out Bm1.out)
  replace Bm2 := Lib.hid (blk_next HB.out Bm2.out)
  replace Bp1 := Lib.hid (blk_next HB.out Bp1.out)
  replace Bp2 := Lib.hid (blk_next HB.out Bp2.out)
  replace Bd1 := Lib.hid (blk_next HB.out Bd1.out)
  replace NN := Lib.hid (Bgo NN.out HB.out)
  have Bd2 : Hid ((w6.alloc (.cells #[.int .i64 d1, .int .i64 d2] 23)).heap[w6.heap.size]? = some (.cells #[.int .i64 d1, .int .i64 d2] 23)) := Lib.hid (blk_new w6 _)
  clear HB
  go_wp2_with fail
  clear lBA cBA0 cBA1
  generalize w6.alloc (.cells #[.int .i64 d1, .int .i64 d2] 23) = W6 at *
  generalize w6.heap.size = gd2 at *
  refine (Q1.out _).mono ?_
  rintro e w7 ⟨⟨n1, n2, n3⟩, rfl, hr, hb⟩
  have HR := Lib.hid hr
  clear hr
  have HB : Hid (Below W6.heap.size W6 (w7.alloc (.cells #[.int .i64 n1, .int .i64 n2] 23))) := Lib.hid (Bal hb _)
  have yBA := blk_next hb BA.out
  have lBA := blk_lt yBA
  have cBA0 := blk_cell yBA 0 _ rfl
  have cBA1 := blk_cell yBA 1 _ rfl
  clear yBA
  clear hb
  replace BA := Lib.hid (blk_next HB.out BA.out)
  replace BB := Lib.hid (blk_next HB.out BB.out)
  replace Bm1 := Lib.hid (blk_next HB.out Bm1.out)
  replace Bm2 := Lib.hid (blk_next HB.out Bm2.out)
  replace Bp1 := Lib.hid (blk_next HB.out Bp1.out)
  replace Bp2 := Lib.hid (blk_next HB.out Bp2.out)
  replace Bd1 := Lib.hid (blk_next HB.out Bd1.out)
  replace Bd2 := Lib.hid (blk_next HB.out Bd2.out)
  replace NN := Lib.hid (Bgo NN.out HB.out)
  have Bn1 : Hid ((w7.alloc (.cells #[.int .i64 n1, .int .i64 n2] 23)).heap[w7.heap.size]? = some (.cells #[.int .i64 n1, .int .i64 n2] 23)) := Lib.hid (blk_new w7 _)
  clear HB
  go_wp2_with fail
  clear lBA cBA0 cBA1
  generalize w7.alloc (.cells #[.int .i64 n1, .int .i64 n2] 23) = W7 at *
  generalize w7.heap.size = gn1 at *
  refine (Q2.out _).mono ?_
  rintro e w8 ⟨r', rfl, hr, hb⟩
  obtain rfl := UN.out _ _ HR.out hr
  clear hr
  have HB : Hid (Below W7.heap.size W7 (w8.alloc (.cells #[.int .i64 n1, .int .i64 n2] 23))) := Lib.hid (Bal hb _)
  have yBm1 := blk_next hb Bm1.out
  have lBm1 := blk_lt yBm1
  have cBm10 := blk_cell yBm1 0 _ rfl
  have cBm11 := blk_cell yBm1 1 _ rfl
  clear yBm1
  have yBm2 := blk_next hb Bm2.out
  have lBm2 := blk_lt yBm2
  have cBm20 := blk_cell yBm2 0 _ rfl
  have cBm21 := blk_cell yBm2 1 _ rfl
  clear yBm2
  have yBp1 := blk_next hb Bp1.out
  have lBp1 := blk_lt yBp1
  have cBp10 := blk_cell yBp1 0 _ rfl
  have cBp11 := blk_cell yBp1 1 _ rfl
  clear yBp1
  have yBp2 := blk_next hb Bp2.out
  have lBp2 := blk_lt yBp2
  have cBp20 := blk_cell yBp2 0 _ rfl
  have cBp21 := blk_cell yBp2 1 _ rfl
  clear yBp2
  have yBd1 := blk_next hb Bd1.out
  have lBd1 := blk_lt yBd1
  have cBd10 := blk_cell yBd1 0 _ rfl
  have cBd11 := blk_cell yBd1 1 _ rfl
  clear yBd1
  have yBd2 := blk_next hb Bd2.out
  have lBd2 := blk_lt yBd2
  have cBd20 := blk_cell yBd2 0 _ rfl
  have cBd21 := blk_cell yBd2 1 _ rfl
  clear yBd2
  have yBn1 := blk_next hb Bn1.out
  have lBn1 := blk_lt yBn1
  have cBn10 := blk_cell yBn1 0 _ rfl
  have cBn11 := blk_cell yBn1 1 _ rfl
  clear yBn1
  clear hb
  replace BA := Lib.hid (blk_next HB.out BA.out)
  replace BB := Lib.hid (blk_next HB.out BB.out)
  replace Bm1 := Lib.hid (blk_next HB.out Bm1.out)
  replace Bm2 := Lib.hid (blk_next HB.out Bm2.out)
  replace Bp1 := Lib.hid (blk_next HB.out Bp1.out)
  replace Bp2 := Lib.hid (blk_next HB.out Bp2.out)
  replace Bd1 := Lib.hid (blk_next HB.out Bd1.out)
  replace Bd2 := Lib.hid (blk_next HB.out Bd2.out)
  replace Bn1 := Lib.hid (blk_next HB.out Bn1.out)
  replace NN := Lib.hid (Bgo NN.out HB.out)
  have Bn2 : Hid ((w8.alloc (.cells #[.int .i64 n1, .int .i64 n2] 23)).heap[w8.heap.size]? = some (.cells #[.int .i64 n1, .int .i64 n2] 23)) := Lib.hid (blk_new w8 _)
  clear HB
  go_wp2_with fail
  clear lBm1 cBm10 cBm11 lBm2 cBm20 cBm21 lBp1 cBp10 cBp11 lBp2 cBp20 cBp21 lBd1 cBd10 cBd11 lBd2 cBd20 cBd21 lBn1 cBn10 cBn11
  generalize w8.alloc (.cells #[.int .i64 n1, .int .i64 n2] 23) = W8 at *
  generalize w8.heap.size = gn2 at *
  go_ret
  exact ⟨by simp, NN.out⟩

set_option maxRecDepth 100000 in
theorem lifted (os : Os) (started : os.Started) (H : Type) (enc : TypeId × Value → H) :
    ReturnsInHanded {} Try.checked os 3 .any (Rows.fracProductsSpec.pre6 enc Try.prog Try.f3 Rows.fracProductsRow.domain false) (Rows.fracProductsSpec.post enc Try.prog Try.f3 false true false false) := by
  refine returnsInHanded_of_change (C := Try.checked) own started (by kernel_rfl) Try.func3
    (ChangeSpec.witness6 (enc := enc) (C := Try.checked) false ⟨#[], #[.int .i64 0, .int .i64 0, .agg #[.int .i64 0, .int .i64 0], .agg #[.int .i64 0, .int .i64 0]], []⟩ 8 (by kernel_rfl) (by kernel_rfl) (by kernel_rfl) (by kernel_rfl)) ?_
  intro W base args ds gs before hval0 hW hcnd _
  have hval : ∀ (j : Nat) t v, Try.f3.params[j]? = some t → args[j]? = some v → Value.okWide Try.prog W .any base t v := hval0
  have hW' := hW
  obtain ⟨p, q, hA0, hV, rfl, hfz, hnd⟩ := hW
  have hA : DataW.TrodAll enc Try.prog W 0 (fun _ => true) true Try.f3.params.toList args.toList ds p := hA0
  rw [Try.params3] at hA hval
  obtain ⟨v0, vs0, d0, ds0, p0, q0, hargs, rfl, rfl, h0, r0⟩ := trodAll_cons hA
  obtain ⟨v1, vs1, d1, ds1, p1, q1, rfl, rfl, rfl, h1, r1⟩ := trodAll_cons r0
  obtain ⟨v2, vs2, d2, ds2, p2, q2, rfl, rfl, rfl, h2, r2⟩ := trodAll_cons r1
  obtain ⟨v3, vs3, d3, ds3, p3, q3, rfl, rfl, rfl, h3, r3⟩ := trodAll_cons r2
  obtain ⟨rfl, rfl, rfl⟩ := trodAll_nil r3
  obtain rfl : args = #[v0, v1, v2, v3] := by cases args; simp_all
  obtain ⟨rfl, rfl⟩ := trodVars_none hV
  have k0 := h0
  have lt0 : ∀ x ∈ p0, x.block < W.heap.size := by obtain ⟨m, hm⟩ := k0; exact DataW.trod_lt m _ _ _ hm
  obtain ⟨num, rfl, _, _, wnum⟩ := open_int Try.underlying2 (hval 0 2 v0 rfl rfl) h0
  have k1 := h1
  have lt1 : ∀ x ∈ p1, x.block < W.heap.size := by obtain ⟨m, hm⟩ := k1; exact DataW.trod_lt m _ _ _ hm
  obtain ⟨den, rfl, _, _, wden⟩ := open_int Try.underlying2 (hval 1 2 v1 rfl rfl) h1
  have k2 := h2
  have lt2 : ∀ x ∈ p2, x.block < W.heap.size := by obtain ⟨m, hm⟩ := k2; exact DataW.trod_lt m _ _ _ hm
  obtain ⟨c0_2, c1_2, y0_2, y1_2, m2, rfl, _, _, t0_2, t1_2⟩ := open_agg2 Try.underlying23 (by kernel_rfl) (show Try.prog.cellsOf 23 = 2 by kernel_rfl) (hval 2 23 v2 rfl rfl) h2
  obtain ⟨an, e0_2, _, wan⟩ := DataW.trod_int Try.underlying2 t0_2
  simp only [List.cons.injEq, and_true] at e0_2
  subst e0_2
  obtain ⟨ad, e1_2, _, wad⟩ := DataW.trod_int Try.underlying2 t1_2
  simp only [List.cons.injEq, and_true] at e1_2
  subst e1_2
  have k3 := h3
  have lt3 : ∀ x ∈ p3, x.block < W.heap.size := by obtain ⟨m, hm⟩ := k3; exact DataW.trod_lt m _ _ _ hm
  obtain ⟨c0_3, c1_3, y0_3, y1_3, m3, rfl, _, _, t0_3, t1_3⟩ := open_agg2 Try.underlying23 (by kernel_rfl) (show Try.prog.cellsOf 23 = 2 by kernel_rfl) (hval 3 23 v3 rfl rfl) h3
  obtain ⟨bn, e0_3, _, wbn⟩ := DataW.trod_int Try.underlying2 t0_3
  simp only [List.cons.injEq, and_true] at e0_3
  subst e0_3
  obtain ⟨bd, e1_3, _, wbd⟩ := DataW.trod_int Try.underlying2 t1_3
  simp only [List.cons.injEq, and_true] at e1_3
  subst e1_3
  clear hA0 hval0
  refine (walk num den an ad bn bd W (bounds_i64 wnum).1 (bounds_i64 wnum).2 (bounds_i64 wden).1 (bounds_i64 wden).2).mono fun e W' ⟨he, bel⟩ => ?_
  subst he
  exact ⟨_, rfl, _, _, _, [], _, [], hW', trodAll_mk1 (shut_bool Try.underlying4 _), (trodAll_cons_mk (Below.trod laidOut (by kernel_rfl) (of_decide_eq_true (by kernel_rfl)) k0 bel lt0) (trodAll_cons_mk (Below.trod laidOut (by kernel_rfl) (of_decide_eq_true (by kernel_rfl)) k1 bel lt1) (trodAll_cons_mk (Below.trod laidOut (by kernel_rfl) (of_decide_eq_true (by kernel_rfl)) k2 bel lt2) (trodAll_cons_mk (Below.trod laidOut (by kernel_rfl) (of_decide_eq_true (by kernel_rfl)) k3 bel lt3) trodAll_mk0)))), rfl, bel.frame _, fun h => by cases h⟩

theorem over : Rows.fracProductsRow.holds Try.pinned (OpenSpec.ofChange Rows.fracProductsSpec) :=
  OpenClaim.holds_of_wide 3 Try.f3 rfl rfl rfl rfl rfl rfl rfl ⟨rfl, rfl, rfl, rfl, rfl⟩ rfl rfl rfl rfl rfl (by kernel_rfl) Try.func3 (by kernel_rfl)
    (of_decide_eq_true (by kernel_rfl)) (by unfold Func.isWrapper; first | (rw [if_pos (by decide +kernel)]; kernel_rfl) | (rw [if_neg (by decide +kernel)]; exact ⟨rfl, rfl⟩))
    (fun os started H enc _ => lifted os started H enc)

theorem proved : Rows.FracProductsSaid := over
#print axioms proved
end Go.Proofs.Ytpeoecgehdicmaa.fracProducts
