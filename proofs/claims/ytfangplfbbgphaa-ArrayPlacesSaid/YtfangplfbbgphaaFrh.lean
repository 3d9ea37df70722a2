/- Contracts of layer 1: product, Mul and Div. -/
import Derived.Test.YtfangplfbbgphaaFrg
namespace Go.Proofs.Ytfangplfbbgphaa
open Go.ChangeShapes Go.WideShapes Go.ChangeAt Go.RowKit
set_option linter.unusedVariables false
set_option maxRecDepth 100000
attribute [local go_sem ↓] Go.wp_at_zero Go.wp_at_succ

def mulF (an ad bn bd : Int) : Int × Int × Int :=
  lowF (decide (an < 0) != decide (bn < 0)) ((an.natAbs / Nat.gcd an.natAbs bd.natAbs) * (bn.natAbs / Nat.gcd bn.natAbs ad.natAbs)) ((ad.natAbs / Nat.gcd bn.natAbs ad.natAbs) * (bd.natAbs / Nat.gcd an.natAbs bd.natAbs))
theorem lowF_great {neg : Bool} {n d : Nat} (h : 1000000000000000000 < n ∨ 1000000000000000000 < d) : lowF neg n d = (0, 0, 16) := by unfold lowF; rw [if_pos h]
theorem tdivN (x g : Nat) : (x : Int).tdiv (g : Int) = ((x / g : Nat) : Int) := by rw [Int.tdiv_eq_ediv_of_nonneg (by omega), Int.natCast_ediv]
/- two fractions in variables of their own, and a variable for the result -/
structure PK (w W : World) (an ad bn bd : Int) : Prop where
  a : W.heap[w.heap.size]? = some (.cells #[.int .i64 an, .int .i64 ad] 34)
  b : W.heap[w.heap.size + 1]? = some (.cells #[.int .i64 bn, .int .i64 bd] 34)
  z : W.heap[w.heap.size + 1 + 1]? = some (.cells #[.int .i64 0, .int .i64 0] 34)
  n : Below w.heap.size w W
theorem PK.next {w W W' : World} {an ad bn bd : Int} (h : PK w W an ad bn bd) (hb : Below W.heap.size W W') : PK w W' an ad bn bd := ⟨blk_next hb h.a, blk_next hb h.b, blk_next hb h.z, Bgo h.n hb⟩
theorem PK.drewN {w W : World} {an ad bn bd : Int} (h : PK w W an ad bn bd) (n : Nat) : PK w (W.drewN n) an ad bn bd := h.next (below_drewN (Below.refl _ _) n)
theorem PK.init (w : World) (an ad bn bd : Int) : PK w (((w.alloc (.cells #[.int .i64 an, .int .i64 ad] 34)).alloc (.cells #[.int .i64 bn, .int .i64 bd] 34)).alloc (.cells #[.int .i64 0, .int .i64 0] 34)) an ad bn bd :=
  ⟨blk_alloc (blk_alloc (blk_new w _) _) _, blk3b w _ _ _, blk3c w _ _ _, Bal (Bal (Bal (Below.refl _ _) _) _) _⟩
theorem undrewB {a b : World} (h : Below a.drew.heap.size a.drew b) : Below a.heap.size a b := ⟨h.os, h.tape, h.output, h.size, h.block⟩
set_option maxRecDepth 100000 in
set_option maxHeartbeats 4000000 in
theorem product_calls (an ad bn bd : Int) (w : World) (h1 : -9223372036854775808 ≤ an) (h2 : an ≤ 9223372036854775807) (h3 : 1 ≤ ad) (h4 : ad ≤ 9223372036854775807) (h5 : -9223372036854775808 ≤ bn) (h6 : bn ≤ 9223372036854775807) (h7 : 1 ≤ bd) (h8 : bd ≤ 9223372036854775807) :
    Calls Try.prog 62 #[Fv an ad, Fv bn bd] w fun e w' => e = .returned (Rv (mulF an ad bn bd)) ∧ Below w.heap.size w w' := by
  have F : Hid (mulF an ad bn bd = lowF (decide (an < 0) != decide (bn < 0)) ((an.natAbs / Nat.gcd an.natAbs bd.natAbs) * (bn.natAbs / Nat.gcd bn.natAbs ad.natAbs)) ((ad.natAbs / Nat.gcd bn.natAbs ad.natAbs) * (bd.natAbs / Nat.gcd an.natAbs bd.natAbs))) := Lib.hid rfl
  generalize mulF an ad bn bd = res at *
  have S1 := Lib.hid (fun W => size_calls an W h1 h2)
  have S2 := Lib.hid (fun W => size_calls ad W (by omega) h4)
  have S3 := Lib.hid (fun W => size_calls bn W h5 h6)
  have S4 := Lib.hid (fun W => size_calls bd W (by omega) h8)
  have hx : an.natAbs ≤ 9223372036854775808 := by omega
  have hy : ad.natAbs ≤ 9223372036854775808 := by omega
  have hu : bn.natAbs ≤ 9223372036854775808 := by omega
  have hv : bd.natAbs ≤ 9223372036854775808 := by omega
  have hg0 : 0 < Nat.gcd an.natAbs bd.natAbs := Nat.gcd_pos_of_pos_right _ (by omega)
  have hh0 : 0 < Nat.gcd bn.natAbs ad.natAbs := Nat.gcd_pos_of_pos_right _ (by omega)
  generalize an.natAbs = x at *
  generalize ad.natAbs = y at *
  generalize bn.natAbs = u at *
  generalize bd.natAbs = v at *
  have G1 := Lib.hid (fun W => gcd_calls x v W (by omega) (by omega))
  have G2 := Lib.hid (fun W => gcd_calls u y W (by omega) (by omega))
  generalize Nat.gcd x v = g at *
  generalize Nat.gcd u y = h at *
  have t1 := tdivN x g
  have t2 := tdivN u h
  have t3 := tdivN y h
  have t4 := tdivN v g
  have l1 : x / g ≤ 9223372036854775808 := Nat.le_trans (Nat.div_le_self _ _) hx
  have l2 : u / h ≤ 9223372036854775808 := Nat.le_trans (Nat.div_le_self _ _) hu
  have l3 : y / h ≤ 9223372036854775808 := Nat.le_trans (Nat.div_le_self _ _) hy
  have l4 : v / g ≤ 9223372036854775808 := Nat.le_trans (Nat.div_le_self _ _) hv
  generalize x / g = x1 at *
  generalize u / h = u1 at *
  generalize y / h = y1 at *
  generalize v / g = v1 at *
  have M1 := Lib.hid (fun W => mul64_calls x1 u1 W (by omega) (by omega))
  have M2 := Lib.hid (fun W => mul64_calls y1 v1 W (by omega) (by omega))
  generalize x1 * u1 = P at *
  generalize y1 * v1 = Q at *
  have hp : P % 18446744073709551616 < 18446744073709551616 := Nat.mod_lt _ (by omega)
  have hq : Q % 18446744073709551616 < 18446744073709551616 := Nat.mod_lt _ (by omega)
  have BC : Hid (∀ W, Calls Try.prog 79 #[.bool (!(decide (an < 0) == decide (bn < 0))), .int .u64 (P % 18446744073709551616 : Nat), .int .u64 (Q % 18446744073709551616 : Nat)] W fun e w' => e = .returned (Rv (lowF (decide (an < 0) != decide (bn < 0)) (P % 18446744073709551616) (Q % 18446744073709551616))) ∧ Below W.heap.size W w') := Lib.hid (fun W => build_calls (decide (an < 0) != decide (bn < 0)) _ _ W hp hq)
  have BIG : Hid (¬ P / 18446744073709551616 = 0 ∨ ¬ Q / 18446744073709551616 = 0 → res = (0, 0, 16)) := Lib.hid (fun hh => by rw [F.out]; exact lowF_great (by omega))
  have SML : Hid (P / 18446744073709551616 = 0 → Q / 18446744073709551616 = 0 → res = lowF (decide (an < 0) != decide (bn < 0)) (P % 18446744073709551616) (Q % 18446744073709551616)) := Lib.hid (fun e1 e2 => by rw [F.out]; congr 1 <;> omega)
  clear F
  generalize P % 18446744073709551616 = p0 at *
  generalize Q % 18446744073709551616 = q0 at *
  generalize P / 18446744073709551616 = p1 at *
  generalize Q / 18446744073709551616 = q1 at *
  have gp4 : ¬ g = 0 := by omega
  have hp4 : ¬ h = 0 := by omega
  have wx : IntKind.u64.wrap (x1 : Int) = (x1 : Int) := wrapN _ (by omega)
  have wu : IntKind.u64.wrap (u1 : Int) = (u1 : Int) := wrapN _ (by omega)
  have wy : IntKind.u64.wrap (y1 : Int) = (y1 : Int) := wrapN _ (by omega)
  have wv : IntKind.u64.wrap (v1 : Int) = (v1 : Int) := wrapN _ (by omega)
  go_enter Try.func62, Try.ntmps62
  go_wp2_with fail
  go_quiet ((first | (go_at_call 71; (with_reducible exact quiet_left (S1.out _))) | (go_at_call 71; (with_reducible exact quiet_left (S2.out _))) | (go_at_call 71; (with_reducible exact quiet_left (S3.out _))) | (go_at_call 71; (with_reducible exact quiet_left (S4.out _)))))
  have K := Lib.hid ((PK.init w an ad bn bd).drewN nq)
  generalize (((w.alloc (.cells #[.int .i64 an, .int .i64 ad] 34)).alloc (.cells #[.int .i64 bn, .int .i64 bd] 34)).alloc (.cells #[.int .i64 0, .int .i64 0] 34)).drewN nq = W0 at *
  go_wp2_with fail
  refine (G1.out _).mono ?_
  rintro e w1 ⟨rfl, n1, rfl⟩
  replace K := Lib.hid (K.out.drewN n1)
  generalize W0.drewN n1 = W1 at *
  go_wp2_with fail
  refine (G2.out _).mono ?_
  rintro e w2 ⟨rfl, n2, rfl⟩
  replace K := Lib.hid (K.out.drewN n2)
  generalize W1.drewN n2 = W2 at *
  go_wp2_with fail
  go_quiet ((go_at_call 73; (with_reducible exact quiet_left (M1.out _))))
  replace K := Lib.hid (K.out.drewN nq)
  generalize W2.drewN nq = W3 at *
  go_wp2_with fail
  go_quiet ((go_at_call 73; (with_reducible exact quiet_left (M2.out _))))
  replace K := Lib.hid (K.out.drewN nq)
  generalize W3.drewN nq = W4 at *
  clear t1 t2 t3 t4 wx wu wy wv
  have a0 := blk_cell K.out.a 0 _ rfl
  have b0 := blk_cell K.out.b 0 _ rfl
  have z0 := blk_cell K.out.z 0 _ rfl
  have z1 := blk_cell K.out.z 1 _ rfl
  have f0 := blk_frozen K.out.z 0
  have f1 := blk_frozen K.out.z 1
  by_cases c1 : p1 = 0
  · have c1' : ((p1 : Int) != 0) = false := by rw [c1]; rfl
    by_cases c2 : q1 = 0
    · have c2' : ((q1 : Int) != 0) = false := by rw [c2]; rfl
      have F2 := Lib.hid (SML.out c1 c2)
      clear SML BIG c1 c2
      generalize lowF (decide (an < 0) != decide (bn < 0)) p0 q0 = r at *
      obtain ⟨r1, r2, r3⟩ := r
      go_wp2_with fail
      refine (BC.out _).mono ?_
      rintro e w4 ⟨rfl, hb⟩
      replace K := Lib.hid (K.out.next hb)
      clear hb a0 b0 z0 z1 f0 f1
      have z0 := blk_cell K.out.z 0 _ rfl
      have z1 := blk_cell K.out.z 1 _ rfl
      have f0 := blk_frozen K.out.z 0
      have f1 := blk_frozen K.out.z 1
      go_wp2_with fail
      have e1 := blk_cell (blk_set (blk_set K.out.z 0 (.int .i64 r1)) 1 (.int .i64 r2)) 0 _ rfl
      have e2 := blk_cell (blk_set (blk_set K.out.z 0 (.int .i64 r1)) 1 (.int .i64 r2)) 1 _ rfl
      refine bodyPost_ret (v := .tuple #[Fv r1 r2, .int .i64 r3]) (by simp [results, Try.results62, go_sem, e1, e2]) rfl ⟨by rw [F2.out], Bset1 (Bset1 K.out.n (by omega) _ _) (by omega) _ _⟩
    · have c2' : ((q1 : Int) != 0) = true := by rw [bne_iff_ne]; omega
      have F2 := Lib.hid (BIG.out (.inr c2))
      clear SML BIG c1 c2
      go_wp2_with fail
      have e1 := blk_cell (blk_set (blk_set K.out.z 0 (.int .i64 0)) 1 (.int .i64 0)) 0 _ rfl
      have e2 := blk_cell (blk_set (blk_set K.out.z 0 (.int .i64 0)) 1 (.int .i64 0)) 1 _ rfl
      refine bodyPost_ret (v := .tuple #[Fv 0 0, .int .i64 16]) (by simp [results, Try.results62, go_sem, e1, e2]) rfl ⟨by rw [F2.out], Bset1 (Bset1 K.out.n (by omega) _ _) (by omega) _ _⟩
  · have c1' : ((p1 : Int) != 0) = true := by rw [bne_iff_ne]; omega
    have F2 := Lib.hid (BIG.out (.inl c1))
    clear SML BIG c1
    go_wp2_with fail
    have e1 := blk_cell (blk_set (blk_set K.out.z 0 (.int .i64 0)) 1 (.int .i64 0)) 0 _ rfl
    have e2 := blk_cell (blk_set (blk_set K.out.z 0 (.int .i64 0)) 1 (.int .i64 0)) 1 _ rfl
    refine bodyPost_ret (v := .tuple #[Fv 0 0, .int .i64 16]) (by simp [results, Try.results62, go_sem, e1, e2]) rfl ⟨by rw [F2.out], Bset1 (Bset1 K.out.n (by omega) _ _) (by omega) _ _⟩
end Go.Proofs.Ytfangplfbbgphaa
