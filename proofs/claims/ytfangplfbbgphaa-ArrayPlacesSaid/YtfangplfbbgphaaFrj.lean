/- Contracts of layer 1: Mul and Div, of the program and of the reference. -/
import Derived.Test.YtfangplfbbgphaaFri
namespace Go.Proofs.Ytfangplfbbgphaa
open Go.ChangeShapes Go.WideShapes Go.ChangeAt Go.RowKit
set_option linter.unusedVariables false
set_option maxRecDepth 100000
attribute [local go_sem ↓] Go.wp_at_zero Go.wp_at_succ

theorem PK.keepZ {w W : World} {an ad bn bd : Int} (h : PK w W an ad bn bd) (x y : Value) : ((W.setCell ⟨w.heap.size + 1 + 1, 0, none⟩ x).setCell ⟨w.heap.size + 1 + 1, 1, none⟩ y).cell? ⟨w.heap.size, 0, none⟩ = some (.int .i64 an) ∧ ((W.setCell ⟨w.heap.size + 1 + 1, 0, none⟩ x).setCell ⟨w.heap.size + 1 + 1, 1, none⟩ y).cell? ⟨w.heap.size, 1, none⟩ = some (.int .i64 ad) ∧ ((W.setCell ⟨w.heap.size + 1 + 1, 0, none⟩ x).setCell ⟨w.heap.size + 1 + 1, 1, none⟩ y).cell? ⟨w.heap.size + 1, 0, none⟩ = some (.int .i64 bn) ∧ ((W.setCell ⟨w.heap.size + 1 + 1, 0, none⟩ x).setCell ⟨w.heap.size + 1 + 1, 1, none⟩ y).cell? ⟨w.heap.size + 1, 1, none⟩ = some (.int .i64 bd) :=
  have ha := blk_set_other (blk_set_other h.a (show w.heap.size + 1 + 1 ≠ w.heap.size by omega) 0 x) (show w.heap.size + 1 + 1 ≠ w.heap.size by omega) 1 y
  have hb := blk_set_other (blk_set_other h.b (show w.heap.size + 1 + 1 ≠ w.heap.size + 1 by omega) 0 x) (show w.heap.size + 1 + 1 ≠ w.heap.size + 1 by omega) 1 y
  ⟨blk_cell ha 0 _ rfl, blk_cell ha 1 _ rfl, blk_cell hb 0 _ rfl, blk_cell hb 1 _ rfl⟩
structure VF (n d : Int) : Prop where
  d1 : 1 ≤ d
  d2 : d ≤ 1000000000000000000
  n1 : -1000000000000000000 ≤ n
  n2 : n ≤ 1000000000000000000
  g : Nat.gcd n.natAbs d.natAbs = 1
theorem errF_ok {n d : Int} (h : errF n d = 0) : VF n d := by
  unfold errF at h
  by_cases c : okF n d = true
  · unfold okF at c
    rw [Bool.and_eq_true, decide_eq_true_eq, beq_iff_eq] at c
    exact ⟨c.1.1, c.1.2.1, c.1.2.2.1, c.1.2.2.2, c.2⟩
  · rw [if_neg c] at h; cases h
theorem VF.err {n d : Int} (h : VF n d) : errF n d = 0 := by
  rw [errF_in ⟨h.d1, h.d2, h.n1, h.n2⟩, h.g]; rfl
theorem errB_ok {an ad bn bd : Int} (h : errB an ad bn bd = 0) : VF an ad ∧ VF bn bd := by
  unfold errB at h
  by_cases c : errF an ad ≠ 0
  · rw [if_pos c] at h; exact absurd h c
  · rw [if_neg c] at h
    exact ⟨errF_ok (by simpa using c), errF_ok h⟩
theorem VF.both {an ad bn bd : Int} (h : VF an ad) (k : VF bn bd) : errB an ad bn bd = 0 := by
  unfold errB; rw [if_neg (by rw [h.err]; decide)]; exact k.err
theorem sm4_prod {a b : Nat} (ha : a ≤ 1000000000000000000) (hb : b ≤ 1000000000000000000) : sm4 (a * b) := by
  have h := Nat.mul_le_mul ha hb
  unfold sm4
  generalize a * b = p at *
  omega
def mulR (an ad bn bd : Int) : Int × Int × Int := if errB an ad bn bd = 0 then mulF an ad bn bd else (0, 0, errB an ad bn bd)
def divR (an ad bn bd : Int) : Int × Int × Int := if errB an ad bn bd = 0 then (if bn = 0 then (0, 0, 18) else if bn < 0 then mulF an ad (-bd) (-bn) else mulF an ad bd bn) else (0, 0, errB an ad bn bd)
theorem VF.over {n d : Int} (h : VF n d) : (n < 0 → VF (-d) (-n)) ∧ (0 < n → VF d n) := by
  have g2 : Nat.gcd d.natAbs n.natAbs = 1 := by rw [Nat.gcd_comm]; exact h.g
  have := h.d1
  have := h.d2
  have := h.n1
  have := h.n2
  refine ⟨fun hn => ⟨by omega, by omega, by omega, by omega, ?_⟩, fun hn => ⟨by omega, by omega, by omega, by omega, g2⟩⟩
  rw [Int.natAbs_neg, Int.natAbs_neg]; exact g2
set_option maxRecDepth 100000 in
set_option maxHeartbeats 8000000 in
theorem mul_calls (an ad bn bd : Int) (w : World) :
    Calls Try.prog 44 #[Fv an ad, Fv bn bd] w fun e w' => e = .returned (Rv (mulR an ad bn bd)) ∧ Below w.heap.size w w' := by
  have C1 := Lib.hid (fun W => both_calls an ad bn bd W)
  by_cases ck : errB an ad bn bd = 0
  rotate_left
  · have F : Hid (mulR an ad bn bd = (0, 0, errB an ad bn bd)) := Lib.hid (by unfold mulR; rw [if_neg ck])
    have ck' : (errB an ad bn bd != 0) = true := by rw [bne_iff_ne]; exact ck
    generalize mulR an ad bn bd = res at *
    generalize errB an ad bn bd = er at *
    clear ck
    go_enter Try.func44, Try.ntmps44
    go_wp2_with fail
    refine (C1.out _).mono ?_
    rintro e w1 ⟨rfl, hb⟩
    have K := Lib.hid ((PK.init w an ad bn bd).next hb)
    clear hb
    have z0 := blk_cell K.out.z 0 _ rfl
    have z1 := blk_cell K.out.z 1 _ rfl
    have f0 := blk_frozen K.out.z 0
    have f1 := blk_frozen K.out.z 1
    go_wp2_with fail
    have e1 := blk_cell (blk_set (blk_set K.out.z 0 (.int .i64 0)) 1 (.int .i64 0)) 0 _ rfl
    have e2 := blk_cell (blk_set (blk_set K.out.z 0 (.int .i64 0)) 1 (.int .i64 0)) 1 _ rfl
    refine bodyPost_ret (v := .tuple #[Fv 0 0, .int .i64 er]) (by simp [results, Try.results44, go_sem, e1, e2]) rfl ⟨by rw [F.out], Bset1 (Bset1 K.out.n (by omega) _ _) (by omega) _ _⟩
  · have F : Hid (mulR an ad bn bd = mulF an ad bn bd) := Lib.hid (by unfold mulR; rw [if_pos ck])
    obtain ⟨va, vb⟩ := errB_ok ck
    rw [ck] at C1
    have PC := Lib.hid (fun W => product_calls an ad bn bd W (by have := va.n1; omega) (by have := va.n2; omega) va.d1 (by have := va.d2; omega) (by have := vb.n1; omega) (by have := vb.n2; omega) vb.d1 (by have := vb.d2; omega))
    generalize mulR an ad bn bd = res at *
    generalize mulF an ad bn bd = r at *
    obtain ⟨r1, r2, r3⟩ := r
    clear ck va vb
    go_enter Try.func44, Try.ntmps44
    go_wp2_with fail
    refine (C1.out _).mono ?_
    rintro e w1 ⟨rfl, hb⟩
    have K := Lib.hid ((PK.init w an ad bn bd).next hb)
    clear hb
    have a0 := blk_cell K.out.a 0 _ rfl
    have a1 := blk_cell K.out.a 1 _ rfl
    have b0 := blk_cell K.out.b 0 _ rfl
    have b1 := blk_cell K.out.b 1 _ rfl
    go_wp2_with fail
    refine (PC.out _).mono ?_
    rintro e w2 ⟨rfl, hb⟩
    replace K := Lib.hid (K.out.next hb)
    clear hb
    clear a0 a1 b0 b1
    have z0 := blk_cell K.out.z 0 _ rfl
    have z1 := blk_cell K.out.z 1 _ rfl
    have f0 := blk_frozen K.out.z 0
    have f1 := blk_frozen K.out.z 1
    go_wp2_with fail
    have e1 := blk_cell (blk_set (blk_set K.out.z 0 (.int .i64 r1)) 1 (.int .i64 r2)) 0 _ rfl
    have e2 := blk_cell (blk_set (blk_set K.out.z 0 (.int .i64 r1)) 1 (.int .i64 r2)) 1 _ rfl
    refine bodyPost_ret (v := .tuple #[Fv r1 r2, .int .i64 r3]) (by simp [results, Try.results44, go_sem, e1, e2]) rfl ⟨by rw [F.out], Bset1 (Bset1 K.out.n (by omega) _ _) (by omega) _ _⟩
set_option maxRecDepth 100000 in
set_option maxHeartbeats 8000000 in
theorem refMul_calls (an ad bn bd : Int) (w : World) :
    Calls Try.prog 47 #[Fv an ad, Fv bn bd] w fun e w' => e = .returned (Rv (mulR an ad bn bd)) ∧ Below w.heap.size w w' := by
  have C1 := Lib.hid (fun W => refBoth_calls an ad bn bd W)
  by_cases ck : errB an ad bn bd = 0
  rotate_left
  · have F : Hid (mulR an ad bn bd = (0, 0, errB an ad bn bd)) := Lib.hid (by unfold mulR; rw [if_neg ck])
    have ck' : (errB an ad bn bd != 0) = true := by rw [bne_iff_ne]; exact ck
    generalize mulR an ad bn bd = res at *
    generalize errB an ad bn bd = er at *
    clear ck
    go_enter Try.func47, Try.ntmps47
    go_wp2_with fail
    refine (C1.out _).mono ?_
    rintro e w1 ⟨rfl, hb⟩
    have K := Lib.hid ((PK.init w an ad bn bd).next hb)
    clear hb
    have a0 := blk_cell K.out.a 0 _ rfl
    have a1 := blk_cell K.out.a 1 _ rfl
    have b0 := blk_cell K.out.b 0 _ rfl
    have b1 := blk_cell K.out.b 1 _ rfl
    go_wp2_with fail
    refine (C1.out _).mono ?_
    rintro e w2 ⟨rfl, hb⟩
    replace K := Lib.hid (K.out.next hb)
    clear hb
    clear a0 a1 b0 b1
    have z0 := blk_cell K.out.z 0 _ rfl
    have z1 := blk_cell K.out.z 1 _ rfl
    have f0 := blk_frozen K.out.z 0
    have f1 := blk_frozen K.out.z 1
    go_wp2_with fail
    have e1 := blk_cell (blk_set (blk_set K.out.z 0 (.int .i64 0)) 1 (.int .i64 0)) 0 _ rfl
    have e2 := blk_cell (blk_set (blk_set K.out.z 0 (.int .i64 0)) 1 (.int .i64 0)) 1 _ rfl
    refine bodyPost_ret (v := .tuple #[Fv 0 0, .int .i64 er]) (by simp [results, Try.results47, go_sem, e1, e2]) rfl ⟨by rw [F.out], Bset1 (Bset1 K.out.n (by omega) _ _) (by omega) _ _⟩
  · obtain ⟨va, vb⟩ := errB_ok ck
    rw [ck] at C1
    have F : Hid (mulR an ad bn bd = lowF (decide (an < 0) != decide (bn < 0)) ((an.natAbs / Nat.gcd an.natAbs bd.natAbs) * (bn.natAbs / Nat.gcd bn.natAbs ad.natAbs)) ((ad.natAbs / Nat.gcd bn.natAbs ad.natAbs) * (bd.natAbs / Nat.gcd an.natAbs bd.natAbs))) := Lib.hid (by unfold mulR; rw [if_pos ck]; rfl)
    generalize mulR an ad bn bd = res at *
    have d1 := va.d1
    have d2 := va.d2
    have d3 := vb.d1
    have d4 := vb.d2
    have d5 := va.n1
    have d6 := va.n2
    have d7 := vb.n1
    have d8 := vb.n2
    clear ck va vb
    have S1 := Lib.hid (fun W => abs_calls an W (by omega) (by omega))
    have S3 := Lib.hid (fun W => abs_calls bn W (by omega) (by omega))
    have hx : an.natAbs ≤ 1000000000000000000 := by omega
    have hu : bn.natAbs ≤ 1000000000000000000 := by omega
    have hg0 : 0 < Nat.gcd an.natAbs bd.natAbs := Nat.gcd_pos_of_pos_right _ (by omega)
    have hh0 : 0 < Nat.gcd bn.natAbs ad.natAbs := Nat.gcd_pos_of_pos_right _ (by omega)
    obtain ⟨y, rfl⟩ := Int.eq_ofNat_of_zero_le (show 0 ≤ ad by omega)
    obtain ⟨v, rfl⟩ := Int.eq_ofNat_of_zero_le (show 0 ≤ bd by omega)
    simp only [Int.natAbs_natCast] at F hg0 hh0
    generalize an.natAbs = x at *
    generalize bn.natAbs = u at *
    have G1 := Lib.hid (fun W => refGcd_calls x v W (by omega) (by omega))
    have G2 := Lib.hid (fun W => refGcd_calls u y W (by omega) (by omega))
    generalize Nat.gcd x v = g at *
    generalize Nat.gcd u y = h at *
    have t1 := tdivN x g
    have t2 := tdivN u h
    have t3 := tdivN y h
    have t4 := tdivN v g
    have l1 : x / g ≤ 1000000000000000000 := Nat.le_trans (Nat.div_le_self _ _) hx
    have l2 : u / h ≤ 1000000000000000000 := Nat.le_trans (Nat.div_le_self _ _) hu
    have l3 : y / h ≤ 1000000000000000000 := Nat.le_trans (Nat.div_le_self _ _) (by omega)
    have l4 : v / g ≤ 1000000000000000000 := Nat.le_trans (Nat.div_le_self _ _) (by omega)
    generalize x / g = x1 at *
    generalize u / h = u1 at *
    generalize y / h = y1 at *
    generalize v / g = v1 at *
    have M1 := Lib.hid (fun W => refProduct_calls x1 u1 W (by omega) (by omega))
    have M2 := Lib.hid (fun W => refProduct_calls y1 v1 W (by omega) (by omega))
    have q1 : sm4 (x1 * u1) := sm4_prod l1 l2
    have q2 : sm4 (y1 * v1) := sm4_prod l3 l4
    generalize x1 * u1 = P at *
    generalize y1 * v1 = Q at *
    have LC : Hid (∀ W, Calls Try.prog 68 #[.bool (!(decide (an < 0) == decide (bn < 0))), Dv P, Dv Q] W fun e w' => e = .returned (Rv (lowF (decide (an < 0) != decide (bn < 0)) P Q)) ∧ Below W.heap.size W w') := Lib.hid (fun W => by
      have := lowest_calls (decide (an < 0) != decide (bn < 0)) (dg P 0) (dg P 1) (dg P 2) (dg P 3) (dg Q 0) (dg Q 1) (dg Q 2) (dg Q 3) W (dg_lt _ _) (dg_lt _ _) (dg_lt _ _) (dg_lt _ _)
      rw [big_dg q1, big_dg q2] at this
      exact this)
    generalize lowF (decide (an < 0) != decide (bn < 0)) P Q = r at *
    obtain ⟨r1, r2, r3⟩ := r
    clear q1 q2
    have gp4 : ¬ g = 0 := by omega
    have hp4 : ¬ h = 0 := by omega
    have wx : IntKind.u64.wrap (x1 : Int) = (x1 : Int) := wrapN _ (by omega)
    have wu : IntKind.u64.wrap (u1 : Int) = (u1 : Int) := wrapN _ (by omega)
    have wy : IntKind.u64.wrap (y1 : Int) = (y1 : Int) := wrapN _ (by omega)
    have wv : IntKind.u64.wrap (v1 : Int) = (v1 : Int) := wrapN _ (by omega)
    have wy' : IntKind.u64.wrap (y : Int) = (y : Int) := wrapN _ (by omega)
    have wv' : IntKind.u64.wrap (v : Int) = (v : Int) := wrapN _ (by omega)
    go_enter Try.func47, Try.ntmps47
    go_wp2_with fail
    refine (C1.out _).mono ?_
    rintro e w1 ⟨rfl, hb⟩
    have K := Lib.hid ((PK.init w an y bn v).next hb)
    clear hb
    have a0 := blk_cell K.out.a 0 _ rfl
    have a1 := blk_cell K.out.a 1 _ rfl
    have b0 := blk_cell K.out.b 0 _ rfl
    have b1 := blk_cell K.out.b 1 _ rfl
    go_wp2_with fail
    go_quiet ((first | (go_at_call 67; (with_reducible exact quiet_left (S1.out _))) | (go_at_call 67; (with_reducible exact quiet_left (S3.out _))) | (go_at_call 66; (with_reducible exact quiet_more (G1.out _))) | (go_at_call 66; (with_reducible exact quiet_more (G2.out _)))))
    clear a0 a1 b0 b1
    replace K := Lib.hid (K.out.drewN nq)
    generalize w1.drewN nq = W at *
    go_wp2_with fail
    have KEEP : Hid (∀ X : World, Below W.heap.size W X → X.cell? ⟨w.heap.size, 0, none⟩ = some (.int .i64 an) ∧ X.cell? ⟨w.heap.size, 1, none⟩ = some (.int .i64 y) ∧ X.cell? ⟨w.heap.size + 1, 0, none⟩ = some (.int .i64 bn) ∧ X.cell? ⟨w.heap.size + 1, 1, none⟩ = some (.int .i64 v)) := Lib.hid (fun X hX => ⟨blk_cell (K.out.next hX).a 0 _ rfl, blk_cell (K.out.next hX).a 1 _ rfl, blk_cell (K.out.next hX).b 0 _ rfl, blk_cell (K.out.next hX).b 1 _ rfl⟩)
    obtain ⟨k1, k2, k3, k4⟩ := KEEP.out W (Below.refl _ _)
    go_region_held3 (fun X => X.cell? ⟨w.heap.size, 0, none⟩ = some (.int .i64 an) ∧ X.cell? ⟨w.heap.size, 1, none⟩ = some (.int .i64 y) ∧ X.cell? ⟨w.heap.size + 1, 0, none⟩ = some (.int .i64 bn) ∧ X.cell? ⟨w.heap.size + 1, 1, none⟩ = some (.int .i64 v))
      (first | (with_reducible exact KL.out.keepZ _ _) | (with_reducible exact KEEP.out _ BL.out) | (with_reducible exact KEEP.out _ BL.out.drew) | (with_reducible exact KEEP.out _ BQ.out) | (with_reducible exact KEEP.out _ BQ.out.drew) | (with_reducible exact KEEP.out _ BP.out) | (with_reducible exact KEEP.out _ BP.out.drew) | (with_reducible exact KEEP.out _ (Below.refl _ _)) | (with_reducible exact KEEP.out _ (Below.refl _ _).drew))
      (first
        | (go_at_call 67; (first | (with_reducible refine (S1.out _).mono ?_) | (with_reducible refine (S3.out _).mono ?_)); rintro e wa ⟨rfl, rfl⟩)
        | (go_at_call 69; (with_reducible refine (M1.out _).mono ?_); rintro e wp ⟨rfl, bp⟩; have BP : Hid (Below W.heap.size W wp) := Lib.hid (by first | (with_reducible exact bp) | (with_reducible exact undrewB bp)); clear bp)
        | (go_at_call 69; (with_reducible refine (M2.out _).mono ?_); rintro e wq ⟨rfl, bq⟩; have BQ : Hid (Below W.heap.size W wq) := Lib.hid (by first | (with_reducible exact Bgo BP.out bq) | (with_reducible exact Bgo BP.out (undrewB bq))); clear bq)
        | (go_at_call 68; (with_reducible refine (LC.out _).mono ?_); rintro e wl ⟨rfl, bl⟩; have BL : Hid (Below W.heap.size W wl) := Lib.hid (by first | (with_reducible exact Bgo BQ.out bl) | (with_reducible exact Bgo BQ.out (undrewB bl))); have KL := Lib.hid (K.out.next BL.out); have z0 := blk_cell KL.out.z 0 _ rfl; have z1 := blk_cell KL.out.z 1 _ rfl; have f0 := blk_frozen KL.out.z 0; have f1 := blk_frozen KL.out.z 1; clear bl))
    replace K := KL
    go_wp2_with fail
    have e1 := blk_cell (blk_set (blk_set K.out.z 0 (.int .i64 r1)) 1 (.int .i64 r2)) 0 _ rfl
    have e2 := blk_cell (blk_set (blk_set K.out.z 0 (.int .i64 r1)) 1 (.int .i64 r2)) 1 _ rfl
    refine bodyPost_ret (v := .tuple #[Fv r1 r2, .int .i64 r3]) (by simp [results, Try.results47, go_sem, e1, e2]) rfl ⟨by rw [F.out], Bset1 (Bset1 K.out.n (by omega) _ _) (by omega) _ _⟩
set_option maxRecDepth 100000 in
set_option maxHeartbeats 8000000 in
theorem refDiv_calls (an ad bn bd : Int) (w : World) :
    Calls Try.prog 64 #[Fv an ad, Fv bn bd] w fun e w' => e = .returned (Rv (divR an ad bn bd)) ∧ Below w.heap.size w w' := by
  have C1 := Lib.hid (fun W => refBoth_calls an ad bn bd W)
  by_cases ck : errB an ad bn bd = 0
  rotate_left
  · have F : Hid (divR an ad bn bd = (0, 0, errB an ad bn bd)) := Lib.hid (by unfold divR; rw [if_neg ck])
    have ck' : (errB an ad bn bd != 0) = true := by rw [bne_iff_ne]; exact ck
    generalize divR an ad bn bd = res at *
    generalize errB an ad bn bd = er at *
    clear ck
    go_enter Try.func64, Try.ntmps64
    go_wp2_with fail
    refine (C1.out _).mono ?_
    rintro e w1 ⟨rfl, hb⟩
    have K := Lib.hid ((PK.init w an ad bn bd).next hb)
    clear hb
    have a0 := blk_cell K.out.a 0 _ rfl
    have a1 := blk_cell K.out.a 1 _ rfl
    have b0 := blk_cell K.out.b 0 _ rfl
    have b1 := blk_cell K.out.b 1 _ rfl
    go_wp2_with fail
    refine (C1.out _).mono ?_
    rintro e w2 ⟨rfl, hb⟩
    replace K := Lib.hid (K.out.next hb)
    clear hb
    clear a0 a1 b0 b1
    have z0 := blk_cell K.out.z 0 _ rfl
    have z1 := blk_cell K.out.z 1 _ rfl
    have f0 := blk_frozen K.out.z 0
    have f1 := blk_frozen K.out.z 1
    go_wp2_with fail
    have e1 := blk_cell (blk_set (blk_set K.out.z 0 (.int .i64 0)) 1 (.int .i64 0)) 0 _ rfl
    have e2 := blk_cell (blk_set (blk_set K.out.z 0 (.int .i64 0)) 1 (.int .i64 0)) 1 _ rfl
    refine bodyPost_ret (v := .tuple #[Fv 0 0, .int .i64 er]) (by simp [results, Try.results64, go_sem, e1, e2]) rfl ⟨by rw [F.out], Bset1 (Bset1 K.out.n (by omega) _ _) (by omega) _ _⟩
  · obtain ⟨va, vb⟩ := errB_ok ck
    rw [ck] at C1
    have F0 : Hid (divR an ad bn bd = if bn = 0 then (0, 0, 18) else if bn < 0 then mulF an ad (-bd) (-bn) else mulF an ad bd bn) := Lib.hid (by unfold divR; rw [if_pos ck])
    generalize divR an ad bn bd = res at *
    have d1 := va.d1
    have d2 := va.d2
    have d3 := vb.d1
    have d4 := vb.d2
    have d5 := va.n1
    have d6 := va.n2
    have d7 := vb.n1
    have d8 := vb.n2
    have OV := vb.over
    clear ck
    by_cases bz : bn = 0
    · have F : Hid (res = (0, 0, 18)) := Lib.hid (by rw [F0.out, if_pos bz])
      have bz' : (bn == 0) = true := by rw [bz]; rfl
      clear bz F0 OV va vb
      go_enter Try.func64, Try.ntmps64
      go_wp2_with fail
      refine (C1.out _).mono ?_
      rintro e w1 ⟨rfl, hb⟩
      have K := Lib.hid ((PK.init w an ad bn bd).next hb)
      clear hb
      have a0 := blk_cell K.out.a 0 _ rfl
      have a1 := blk_cell K.out.a 1 _ rfl
      have b0 := blk_cell K.out.b 0 _ rfl
      have b1 := blk_cell K.out.b 1 _ rfl
      have z0 := blk_cell K.out.z 0 _ rfl
      have z1 := blk_cell K.out.z 1 _ rfl
      have f0 := blk_frozen K.out.z 0
      have f1 := blk_frozen K.out.z 1
      go_wp2_with fail
      have e1 := blk_cell (blk_set (blk_set K.out.z 0 (.int .i64 0)) 1 (.int .i64 0)) 0 _ rfl
      have e2 := blk_cell (blk_set (blk_set K.out.z 0 (.int .i64 0)) 1 (.int .i64 0)) 1 _ rfl
      refine bodyPost_ret (v := .tuple #[Fv 0 0, .int .i64 18]) (by simp [results, Try.results64, go_sem, e1, e2]) rfl ⟨by rw [F.out], Bset1 (Bset1 K.out.n (by omega) _ _) (by omega) _ _⟩
    have bz' : (bn == 0) = false := by rw [beq_eq_false_iff_ne]; exact bz
    by_cases bn0 : bn < 0
    · have F : Hid (res = mulF an ad (-bd) (-bn)) := Lib.hid (by rw [F0.out, if_neg bz, if_pos bn0])
      have MR : Hid (mulR an ad (-bd) (-bn) = mulF an ad (-bd) (-bn)) := Lib.hid (by unfold mulR; rw [if_pos (va.both (OV.1 bn0))])
      have PC := Lib.hid (fun W => refMul_calls an ad (-bd) (-bn) W)
      rw [MR.out] at PC
      generalize mulF an ad (-bd) (-bn) = r at *
      obtain ⟨r1, r2, r3⟩ := r
      clear bz F0 OV va vb MR
      go_enter Try.func64, Try.ntmps64
      go_wp2_with fail
      refine (C1.out _).mono ?_
      rintro e w1 ⟨rfl, hb⟩
      have K := Lib.hid ((PK.init w an ad bn bd).next hb)
      clear hb
      have a0 := blk_cell K.out.a 0 _ rfl
      have a1 := blk_cell K.out.a 1 _ rfl
      have b0 := blk_cell K.out.b 0 _ rfl
      have b1 := blk_cell K.out.b 1 _ rfl
      go_wp2_with fail
      refine (PC.out _).mono ?_
      rintro e w2 ⟨rfl, hb⟩
      replace K : Hid (PK w w2 an ad bn bd) := Lib.hid (K.out.next hb)
      clear hb
      clear a0 a1 b0 b1
      have z0 := blk_cell K.out.z 0 _ rfl
      have z1 := blk_cell K.out.z 1 _ rfl
      have f0 := blk_frozen K.out.z 0
      have f1 := blk_frozen K.out.z 1
      go_wp2_with fail
      have e1 := blk_cell (blk_set (blk_set K.out.z 0 (.int .i64 r1)) 1 (.int .i64 r2)) 0 _ rfl
      have e2 := blk_cell (blk_set (blk_set K.out.z 0 (.int .i64 r1)) 1 (.int .i64 r2)) 1 _ rfl
      refine bodyPost_ret (v := .tuple #[Fv r1 r2, .int .i64 r3]) (by simp [results, Try.results64, go_sem, e1, e2]) rfl ⟨by rw [F.out], Bset1 (Bset1 K.out.n (by omega) _ _) (by omega) _ _⟩
    · have F : Hid (res = mulF an ad bd bn) := Lib.hid (by rw [F0.out, if_neg bz, if_neg bn0])
      have MR : Hid (mulR an ad bd bn = mulF an ad bd bn) := Lib.hid (by unfold mulR; rw [if_pos (va.both (OV.2 (by omega)))])
      have PC := Lib.hid (fun W => refMul_calls an ad bd bn W)
      rw [MR.out] at PC
      generalize mulF an ad bd bn = r at *
      obtain ⟨r1, r2, r3⟩ := r
      clear bz F0 OV va vb MR
      go_enter Try.func64, Try.ntmps64
      go_wp2_with fail
      refine (C1.out _).mono ?_
      rintro e w1 ⟨rfl, hb⟩
      have K := Lib.hid ((PK.init w an ad bn bd).next hb)
      clear hb
      have a0 := blk_cell K.out.a 0 _ rfl
      have a1 := blk_cell K.out.a 1 _ rfl
      have b0 := blk_cell K.out.b 0 _ rfl
      have b1 := blk_cell K.out.b 1 _ rfl
      go_wp2_with fail
      refine (PC.out _).mono ?_
      rintro e w2 ⟨rfl, hb⟩
      replace K : Hid (PK w w2 an ad bn bd) := Lib.hid (K.out.next hb)
      clear hb
      clear a0 a1 b0 b1
      have z0 := blk_cell K.out.z 0 _ rfl
      have z1 := blk_cell K.out.z 1 _ rfl
      have f0 := blk_frozen K.out.z 0
      have f1 := blk_frozen K.out.z 1
      go_wp2_with fail
      have e1 := blk_cell (blk_set (blk_set K.out.z 0 (.int .i64 r1)) 1 (.int .i64 r2)) 0 _ rfl
      have e2 := blk_cell (blk_set (blk_set K.out.z 0 (.int .i64 r1)) 1 (.int .i64 r2)) 1 _ rfl
      refine bodyPost_ret (v := .tuple #[Fv r1 r2, .int .i64 r3]) (by simp [results, Try.results64, go_sem, e1, e2]) rfl ⟨by rw [F.out], Bset1 (Bset1 K.out.n (by omega) _ _) (by omega) _ _⟩
end Go.Proofs.Ytfangplfbbgphaa
