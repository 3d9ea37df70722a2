/- Several texts in one. -/
import Derived.Maps.AppendAt
import Derived.Deep.AppendLies
import Derived.OwnWalk
import Derived.Laws.OwnMore
import Derived.Deep.DeepCutAuto
import Derived.Deep.RegionLaw
import Derived.WalkKit
import Derived.ProofKit
import Derived.Lib.Hide
import Derived.WalkLawsBesides
import Derived.WalkSpells
import Derived.Outline
import Derived.Deep.QuietTactic
import Derived.BigQuiet
import Derived.WalkSmall
import Derived.RegionTactic
import Derived.Deep.DrawnRows
import Derived.Deep.RegionHeld3
import Derived.OpenShut
import Derived.StillTail
import Derived.StillTailTactics
import Derived.Test.YtbbnkclajpaghaaGreatDoorMF00
set_option maxHeartbeats 8000000
set_option maxRecDepth 100000
set_option linter.unusedVariables false
set_option linter.unusedSimpArgs false
namespace Go.Proofs.YtbbnkclajpaghaaGreatDoor
open Go.ChangeShapes Go.WideShapes Go.ChangeAt Go.RowKit
attribute [local go_sem ↓] Go.wp_at_zero Go.wp_at_succ
def mulF (an ad bn bd : Int) : Int × Int × Int :=
 lowF (decide (an < 0) != decide (bn < 0)) ((an.natAbs / Nat.gcd an.natAbs bd.natAbs) * (bn.natAbs / Nat.gcd bn.natAbs ad.natAbs)) ((ad.natAbs / Nat.gcd bn.natAbs ad.natAbs) * (bd.natAbs / Nat.gcd an.natAbs bd.natAbs))
theorem lowF_great {neg : Bool} {n d : Nat} (h : 1000000000000000000 < n ∨ 1000000000000000000 < d) : lowF neg n d = (0, 0, 16) := by unfold lowF; rw [if_pos h]
theorem tdivN (x g : Nat) : (x : Int).tdiv (g : Int) = ((x / g : Nat) : Int) := by rw [Int.tdiv_eq_ediv_of_nonneg (by omega), Int.natCast_ediv]
structure PK (w W : World) (an ad bn bd : Int) : Prop where
 a : W.heap[w.heap.size]? = some (.cells #[.int .i64 an, .int .i64 ad] 83)
 b : W.heap[w.heap.size + 1]? = some (.cells #[.int .i64 bn, .int .i64 bd] 83)
 z : W.heap[w.heap.size + 1 + 1]? = some (.cells #[.int .i64 0, .int .i64 0] 83)
 n : Below w.heap.size w W
theorem PK.next {w W W' : World} {an ad bn bd : Int} (h : PK w W an ad bn bd) (hb : Below W.heap.size W W') : PK w W' an ad bn bd := ⟨blk_next hb h.a, blk_next hb h.b, blk_next hb h.z, Bgo h.n hb⟩
theorem PK.drewN {w W : World} {an ad bn bd : Int} (h : PK w W an ad bn bd) (n : Nat) : PK w (W.drewN n) an ad bn bd := h.next (below_drewN (Below.refl _ _) n)
theorem PK.init (w : World) (an ad bn bd : Int) : PK w (((w.alloc (.cells #[.int .i64 an, .int .i64 ad] 83)).alloc (.cells #[.int .i64 bn, .int .i64 bd] 83)).alloc (.cells #[.int .i64 0, .int .i64 0] 83)) an ad bn bd :=
 ⟨blk_alloc (blk_alloc (blk_new w _) _) _, blk3b w _ _ _, blk3c w _ _ _, Bal (Bal (Bal (Below.refl _ _) _) _) _⟩
theorem product_calls (an ad bn bd : Int) (w : World) (h1 : -9223372036854775808 ≤ an) (h2 : an ≤ 9223372036854775807) (h3 : 1 ≤ ad) (h4 : ad ≤ 9223372036854775807) (h5 : -9223372036854775808 ≤ bn) (h6 : bn ≤ 9223372036854775807) (h7 : 1 ≤ bd) (h8 : bd ≤ 9223372036854775807) :
  Calls Tryz.prog 146 #[Fv an ad, Fv bn bd] w fun e w' => e = .returned (Rv (mulF an ad bn bd)) ∧ Below w.heap.size w w' := by
 have F : Hid (mulF an ad bn bd = lowF (decide (an < 0) != decide (bn < 0)) ((an.natAbs / Nat.gcd an.natAbs bd.natAbs) * (bn.natAbs / Nat.gcd bn.natAbs ad.natAbs)) ((ad.natAbs / Nat.gcd bn.natAbs ad.natAbs) * (bd.natAbs / Nat.gcd an.natAbs bd.natAbs))) := zh rfl
 generalize mulF an ad bn bd = res at *
 have S1 := zh (fun W => size_calls an W h1 h2)
 have S2 := zh (fun W => size_calls ad W (by omega) h4)
 have S3 := zh (fun W => size_calls bn W h5 h6)
 have S4 := zh (fun W => size_calls bd W (by omega) h8)
 have hx : an.natAbs ≤ 9223372036854775808 := by omega
 have hy : ad.natAbs ≤ 9223372036854775808 := by omega
 have hu : bn.natAbs ≤ 9223372036854775808 := by omega
 have hv : bd.natAbs ≤ 9223372036854775808 := by omega
 have hg0 : 0 < Nat.gcd an.natAbs bd.natAbs := Nat.gcd_pos_of_pos_right _ (by omega)
 have hh0 : 0 < Nat.gcd bn.natAbs ad.natAbs := Nat.gcd_pos_of_pos_right _ (by omega)
 generalize an.natAbs = x at *
 generalize ad.natAbs = y at *
 generalize bn.natAbs = u at *
 generalize bd.natAbs = v at *
 have G1 := zh (fun W => gcd_calls x v W (by omega) (by omega))
 have G2 := zh (fun W => gcd_calls u y W (by omega) (by omega))
 generalize Nat.gcd x v = g at *
 generalize Nat.gcd u y = h at *
 have t1 := tdivN x g
 have t2 := tdivN u h
 have t3 := tdivN y h
 have t4 := tdivN v g
 have l1 : x / g ≤ 9223372036854775808 := Nat.le_trans (Nat.div_le_self _ _) hx
 have l2 : u / h ≤ 9223372036854775808 := Nat.le_trans (Nat.div_le_self _ _) hu
 have l3 : y / h ≤ 9223372036854775808 := Nat.le_trans (Nat.div_le_self _ _) hy
 have l4 : v / g ≤ 9223372036854775808 := Nat.le_trans (Nat.div_le_self _ _) hv
 generalize x / g = x1 at *
 generalize u / h = u1 at *
 generalize y / h = y1 at *
 generalize v / g = v1 at *
 have M1 := zh (fun W => mul64_calls x1 u1 W (by omega) (by omega))
 have M2 := zh (fun W => mul64_calls y1 v1 W (by omega) (by omega))
 generalize x1 * u1 = P at *
 generalize y1 * v1 = Q at *
 have hp : P % 18446744073709551616 < 18446744073709551616 := Nat.mod_lt _ (by omega)
 have hq : Q % 18446744073709551616 < 18446744073709551616 := Nat.mod_lt _ (by omega)
 have BC : Hid (∀ W, Calls Tryz.prog 108 #[.bool (!(decide (an < 0) == decide (bn < 0))), .int .u64 (P % 18446744073709551616 : Nat), .int .u64 (Q % 18446744073709551616 : Nat)] W fun e w' => e = .returned (Rv (lowF (decide (an < 0) != decide (bn < 0)) (P % 18446744073709551616) (Q % 18446744073709551616))) ∧ Below W.heap.size W w') := zh (fun W => build_calls (decide (an < 0) != decide (bn < 0)) _ _ W hp hq)
 have BIG : Hid (¬ P / 18446744073709551616 = 0 ∨ ¬ Q / 18446744073709551616 = 0 → res = (0, 0, 16)) := zh (fun hh => by rw [F.out]; exact lowF_great (by omega))
 have SML : Hid (P / 18446744073709551616 = 0 → Q / 18446744073709551616 = 0 → res = lowF (decide (an < 0) != decide (bn < 0)) (P % 18446744073709551616) (Q % 18446744073709551616)) := zh (fun e1 e2 => by rw [F.out]; congr 1 <;> omega)
 clear F
 generalize P % 18446744073709551616 = p0 at *
 generalize Q % 18446744073709551616 = q0 at *
 generalize P / 18446744073709551616 = p1 at *
 generalize Q / 18446744073709551616 = q1 at *
 have gp4 : ¬ g = 0 := by omega
 have hp4 : ¬ h = 0 := by omega
 have wx : IntKind.u64.wrap (x1 : Int) = (x1 : Int) := wrapN _ (by omega)
 have wu : IntKind.u64.wrap (u1 : Int) = (u1 : Int) := wrapN _ (by omega)
 have wy : IntKind.u64.wrap (y1 : Int) = (y1 : Int) := wrapN _ (by omega)
 have wv : IntKind.u64.wrap (v1 : Int) = (v1 : Int) := wrapN _ (by omega)
 go_enter Tryz.func146, Tryz.ntmps146
 go_wp2_with fail
 go_quiet ((first | (go_at_call 106; (with_reducible exact quiet_left (S1.out _))) | (go_at_call 106; (with_reducible exact quiet_left (S2.out _))) | (go_at_call 106; (with_reducible exact quiet_left (S3.out _))) | (go_at_call 106; (with_reducible exact quiet_left (S4.out _)))))
 have K := zh ((PK.init w an ad bn bd).drewN nq)
 generalize (((w.alloc (.cells #[.int .i64 an, .int .i64 ad] 83)).alloc (.cells #[.int .i64 bn, .int .i64 bd] 83)).alloc (.cells #[.int .i64 0, .int .i64 0] 83)).drewN nq = W0 at *
 go_wp2_with fail
 refine (G1.out _).mono ?_
 rintro e w1 ⟨rfl, n1, rfl⟩
 replace K := zh (K.out.drewN n1)
 generalize W0.drewN n1 = W1 at *
 go_wp2_with fail
 refine (G2.out _).mono ?_
 rintro e w2 ⟨rfl, n2, rfl⟩
 replace K := zh (K.out.drewN n2)
 generalize W1.drewN n2 = W2 at *
 go_wp2_with fail
 go_quiet ((go_at_call 157; (with_reducible exact quiet_left (M1.out _))))
 replace K := zh (K.out.drewN nq)
 generalize W2.drewN nq = W3 at *
 go_wp2_with fail
 go_quiet ((go_at_call 157; (with_reducible exact quiet_left (M2.out _))))
 replace K := zh (K.out.drewN nq)
 generalize W3.drewN nq = W4 at *
 clear t1 t2 t3 t4 wx wu wy wv
 have a0 := blk_cell K.out.a 0 _ rfl
 have b0 := blk_cell K.out.b 0 _ rfl
 have z0 := blk_cell K.out.z 0 _ rfl
 have z1 := blk_cell K.out.z 1 _ rfl
 have f0 := blk_frozen K.out.z 0
 have f1 := blk_frozen K.out.z 1
 by_cases c1 : p1 = 0
 ·have c1' : ((p1 : Int) != 0) = false := by rw [c1]; rfl
  by_cases c2 : q1 = 0
  ·have c2' : ((q1 : Int) != 0) = false := by rw [c2]; rfl
   have F2 := zh (SML.out c1 c2)
   clear SML BIG c1 c2
   generalize lowF (decide (an < 0) != decide (bn < 0)) p0 q0 = r at *
   obtain ⟨r1, r2, r3⟩ := r
   go_wp2_with fail
   refine (BC.out _).mono ?_
   rintro e w4 ⟨rfl, hb⟩
   replace K := zh (K.out.next hb)
   clear hb a0 b0 z0 z1 f0 f1
   have z0 := blk_cell K.out.z 0 _ rfl
   have z1 := blk_cell K.out.z 1 _ rfl
   have f0 := blk_frozen K.out.z 0
   have f1 := blk_frozen K.out.z 1
   go_wp2_with fail
   have e1 := blk_cell (blk_set (blk_set K.out.z 0 (.int .i64 r1)) 1 (.int .i64 r2)) 0 _ rfl
   have e2 := blk_cell (blk_set (blk_set K.out.z 0 (.int .i64 r1)) 1 (.int .i64 r2)) 1 _ rfl
   refine bodyPost_ret (v := .tuple #[Fv r1 r2, .int .i64 r3]) (by simp [results, Tryz.results146, go_sem, e1, e2]) rfl ⟨by rw [F2.out], Bset1 (Bset1 K.out.n (by omega) _ _) (by omega) _ _⟩
  ·have c2' : ((q1 : Int) != 0) = true := by rw [bne_iff_ne]; omega
   have F2 := zh (BIG.out (.inr c2))
   clear SML BIG c1 c2
   go_wp2_with fail
   have e1 := blk_cell (blk_set (blk_set K.out.z 0 (.int .i64 0)) 1 (.int .i64 0)) 0 _ rfl
   have e2 := blk_cell (blk_set (blk_set K.out.z 0 (.int .i64 0)) 1 (.int .i64 0)) 1 _ rfl
   refine bodyPost_ret (v := .tuple #[Fv 0 0, .int .i64 16]) (by simp [results, Tryz.results146, go_sem, e1, e2]) rfl ⟨by rw [F2.out], Bset1 (Bset1 K.out.n (by omega) _ _) (by omega) _ _⟩
 ·have c1' : ((p1 : Int) != 0) = true := by rw [bne_iff_ne]; omega
  have F2 := zh (BIG.out (.inl c1))
  clear SML BIG c1
  go_wp2_with fail
  have e1 := blk_cell (blk_set (blk_set K.out.z 0 (.int .i64 0)) 1 (.int .i64 0)) 0 _ rfl
  have e2 := blk_cell (blk_set (blk_set K.out.z 0 (.int .i64 0)) 1 (.int .i64 0)) 1 _ rfl
  refine bodyPost_ret (v := .tuple #[Fv 0 0, .int .i64 16]) (by simp [results, Tryz.results146, go_sem, e1, e2]) rfl ⟨by rw [F2.out], Bset1 (Bset1 K.out.n (by omega) _ _) (by omega) _ _⟩
end Go.Proofs.YtbbnkclajpaghaaGreatDoor
namespace Go.Proofs.YtbbnkclajpaghaaGreatDoor
open Go.ChangeShapes Go.WideShapes Go.ChangeAt Go.RowKit
attribute [local go_sem ↓] Go.wp_at_zero Go.wp_at_succ
def dg : Nat → Nat → Nat
 | n, 0 => n % 4294967296
 | n, i + 1 => dg (n / 4294967296) i
abbrev Dv (n : Nat) : Value := Bv (dg n 0) (dg n 1) (dg n 2) (dg n 3)
end Go.Proofs.YtbbnkclajpaghaaGreatDoor
namespace Go.Proofs.YtbbnkclajpaghaaGreatDoor
open Go.ChangeShapes Go.WideShapes Go.ChangeAt Go.RowKit
attribute [local go_sem ↓] Go.wp_at_zero Go.wp_at_succ
structure VF (n d : Int) : Prop where
 d1 : 1 ≤ d
 d2 : d ≤ 1000000000000000000
 n1 : -1000000000000000000 ≤ n
 n2 : n ≤ 1000000000000000000
 g : Nat.gcd n.natAbs d.natAbs = 1
theorem errF_ok {n d : Int} (h : errF n d = 0) : VF n d := by
 unfold errF at h
 by_cases c : okF n d = true
 ·unfold okF at c
  rw [Bool.and_eq_true, decide_eq_true_eq, beq_iff_eq] at c
  exact ⟨c.1.1, c.1.2.1, c.1.2.2.1, c.1.2.2.2, c.2⟩
 ·rw [if_neg c] at h; cases h
theorem VF.err {n d : Int} (h : VF n d) : errF n d = 0 := by
 rw [errF_in ⟨h.d1, h.d2, h.n1, h.n2⟩, h.g]; rfl
theorem errB_ok {an ad bn bd : Int} (h : errB an ad bn bd = 0) : VF an ad ∧ VF bn bd := by
 unfold errB at h
 by_cases c : errF an ad ≠ 0
 ·rw [if_pos c] at h; exact absurd h c
 ·rw [if_neg c] at h
  exact ⟨errF_ok (by simpa using c), errF_ok h⟩
theorem VF.both {an ad bn bd : Int} (h : VF an ad) (k : VF bn bd) : errB an ad bn bd = 0 := by
 unfold errB; rw [if_neg (by rw [h.err]; decide)]; exact k.err
def mulR (an ad bn bd : Int) : Int × Int × Int := if errB an ad bn bd = 0 then mulF an ad bn bd else (0, 0, errB an ad bn bd)
def divR (an ad bn bd : Int) : Int × Int × Int := if errB an ad bn bd = 0 then (if bn = 0 then (0, 0, 18) else if bn < 0 then mulF an ad (-bd) (-bn) else mulF an ad bd bn) else (0, 0, errB an ad bn bd)
theorem VF.over {n d : Int} (h : VF n d) : (n < 0 → VF (-d) (-n)) ∧ (0 < n → VF d n) := by
 have g2 : Nat.gcd d.natAbs n.natAbs = 1 := by rw [Nat.gcd_comm]; exact h.g
 have := h.d1
 have := h.d2
 have := h.n1
 have := h.n2
 refine ⟨fun hn => ⟨by omega, by omega, by omega, by omega, ?_⟩, fun hn => ⟨by omega, by omega, by omega, by omega, g2⟩⟩
 rw [Int.natAbs_neg, Int.natAbs_neg]; exact g2
theorem mul_calls (an ad bn bd : Int) (w : World) :
  Calls Tryz.prog 127 #[Fv an ad, Fv bn bd] w fun e w' => e = .returned (Rv (mulR an ad bn bd)) ∧ Below w.heap.size w w' := by
 have C1 := zh (fun W => both_calls an ad bn bd W)
 by_cases ck : errB an ad bn bd = 0
 rotate_left
 ·have F : Hid (mulR an ad bn bd = (0, 0, errB an ad bn bd)) := zh (by unfold mulR; rw [if_neg ck])
  have ck' : (errB an ad bn bd != 0) = true := by rw [bne_iff_ne]; exact ck
  generalize mulR an ad bn bd = res at *
  generalize errB an ad bn bd = er at *
  clear ck
  go_enter Tryz.func127, Tryz.ntmps127
  go_wp2_with fail
  refine (C1.out _).mono ?_
  rintro e w1 ⟨rfl, hb⟩
  have K := zh ((PK.init w an ad bn bd).next hb)
  clear hb
  have z0 := blk_cell K.out.z 0 _ rfl
  have z1 := blk_cell K.out.z 1 _ rfl
  have f0 := blk_frozen K.out.z 0
  have f1 := blk_frozen K.out.z 1
  go_wp2_with fail
  have e1 := blk_cell (blk_set (blk_set K.out.z 0 (.int .i64 0)) 1 (.int .i64 0)) 0 _ rfl
  have e2 := blk_cell (blk_set (blk_set K.out.z 0 (.int .i64 0)) 1 (.int .i64 0)) 1 _ rfl
  refine bodyPost_ret (v := .tuple #[Fv 0 0, .int .i64 er]) (by simp [results, Tryz.results127, go_sem, e1, e2]) rfl ⟨by rw [F.out], Bset1 (Bset1 K.out.n (by omega) _ _) (by omega) _ _⟩
 ·have F : Hid (mulR an ad bn bd = mulF an ad bn bd) := zh (by unfold mulR; rw [if_pos ck])
  obtain ⟨va, vb⟩ := errB_ok ck
  rw [ck] at C1
  have PC := zh (fun W => product_calls an ad bn bd W (by have := va.n1; omega) (by have := va.n2; omega) va.d1 (by have := va.d2; omega) (by have := vb.n1; omega) (by have := vb.n2; omega) vb.d1 (by have := vb.d2; omega))
  generalize mulR an ad bn bd = res at *
  generalize mulF an ad bn bd = r at *
  obtain ⟨r1, r2, r3⟩ := r
  clear ck va vb
  go_enter Tryz.func127, Tryz.ntmps127
  go_wp2_with fail
  refine (C1.out _).mono ?_
  rintro e w1 ⟨rfl, hb⟩
  have K := zh ((PK.init w an ad bn bd).next hb)
  clear hb
  have a0 := blk_cell K.out.a 0 _ rfl
  have a1 := blk_cell K.out.a 1 _ rfl
  have b0 := blk_cell K.out.b 0 _ rfl
  have b1 := blk_cell K.out.b 1 _ rfl
  go_wp2_with fail
  refine (PC.out _).mono ?_
  rintro e w2 ⟨rfl, hb⟩
  replace K := zh (K.out.next hb)
  clear hb
  clear a0 a1 b0 b1
  have z0 := blk_cell K.out.z 0 _ rfl
  have z1 := blk_cell K.out.z 1 _ rfl
  have f0 := blk_frozen K.out.z 0
  have f1 := blk_frozen K.out.z 1
  go_wp2_with fail
  have e1 := blk_cell (blk_set (blk_set K.out.z 0 (.int .i64 r1)) 1 (.int .i64 r2)) 0 _ rfl
  have e2 := blk_cell (blk_set (blk_set K.out.z 0 (.int .i64 r1)) 1 (.int .i64 r2)) 1 _ rfl
  refine bodyPost_ret (v := .tuple #[Fv r1 r2, .int .i64 r3]) (by simp [results, Tryz.results127, go_sem, e1, e2]) rfl ⟨by rw [F.out], Bset1 (Bset1 K.out.n (by omega) _ _) (by omega) _ _⟩
theorem div_calls (an ad bn bd : Int) (w : World) :
  Calls Tryz.prog 129 #[Fv an ad, Fv bn bd] w fun e w' => e = .returned (Rv (divR an ad bn bd)) ∧ Below w.heap.size w w' := by
 have C1 := zh (fun W => both_calls an ad bn bd W)
 by_cases ck : errB an ad bn bd = 0
 rotate_left
 ·have F : Hid (divR an ad bn bd = (0, 0, errB an ad bn bd)) := zh (by unfold divR; rw [if_neg ck])
  have ck' : (errB an ad bn bd != 0) = true := by rw [bne_iff_ne]; exact ck
  generalize divR an ad bn bd = res at *
  generalize errB an ad bn bd = er at *
  clear ck
  go_enter Tryz.func129, Tryz.ntmps129
  go_wp2_with fail
  refine (C1.out _).mono ?_
  rintro e w1 ⟨rfl, hb⟩
  have K := zh ((PK.init w an ad bn bd).next hb)
  clear hb
  have z0 := blk_cell K.out.z 0 _ rfl
  have z1 := blk_cell K.out.z 1 _ rfl
  have f0 := blk_frozen K.out.z 0
  have f1 := blk_frozen K.out.z 1
  go_wp2_with fail
  have e1 := blk_cell (blk_set (blk_set K.out.z 0 (.int .i64 0)) 1 (.int .i64 0)) 0 _ rfl
  have e2 := blk_cell (blk_set (blk_set K.out.z 0 (.int .i64 0)) 1 (.int .i64 0)) 1 _ rfl
  refine bodyPost_ret (v := .tuple #[Fv 0 0, .int .i64 er]) (by simp [results, Tryz.results129, go_sem, e1, e2]) rfl ⟨by rw [F.out], Bset1 (Bset1 K.out.n (by omega) _ _) (by omega) _ _⟩
 ·obtain ⟨va, vb⟩ := errB_ok ck
  rw [ck] at C1
  have F0 : Hid (divR an ad bn bd = if bn = 0 then (0, 0, 18) else if bn < 0 then mulF an ad (-bd) (-bn) else mulF an ad bd bn) := zh (by unfold divR; rw [if_pos ck])
  generalize divR an ad bn bd = res at *
  have d1 := va.d1
  have d2 := va.d2
  have d3 := vb.d1
  have d4 := vb.d2
  have d5 := va.n1
  have d6 := va.n2
  have d7 := vb.n1
  have d8 := vb.n2
  clear ck va vb
  by_cases bz : bn = 0
  ·have F : Hid (res = (0, 0, 18)) := zh (by rw [F0.out, if_pos bz])
   have bz' : (bn == 0) = true := by rw [bz]; rfl
   clear bz F0
   go_enter Tryz.func129, Tryz.ntmps129
   go_wp2_with fail
   refine (C1.out _).mono ?_
   rintro e w1 ⟨rfl, hb⟩
   have K := zh ((PK.init w an ad bn bd).next hb)
   clear hb
   have a0 := blk_cell K.out.a 0 _ rfl
   have a1 := blk_cell K.out.a 1 _ rfl
   have b0 := blk_cell K.out.b 0 _ rfl
   have b1 := blk_cell K.out.b 1 _ rfl
   have z0 := blk_cell K.out.z 0 _ rfl
   have z1 := blk_cell K.out.z 1 _ rfl
   have f0 := blk_frozen K.out.z 0
   have f1 := blk_frozen K.out.z 1
   go_wp2_with fail
   have e1 := blk_cell (blk_set (blk_set K.out.z 0 (.int .i64 0)) 1 (.int .i64 0)) 0 _ rfl
   have e2 := blk_cell (blk_set (blk_set K.out.z 0 (.int .i64 0)) 1 (.int .i64 0)) 1 _ rfl
   refine bodyPost_ret (v := .tuple #[Fv 0 0, .int .i64 18]) (by simp [results, Tryz.results129, go_sem, e1, e2]) rfl ⟨by rw [F.out], Bset1 (Bset1 K.out.n (by omega) _ _) (by omega) _ _⟩
  have bz' : (bn == 0) = false := by rw [beq_eq_false_iff_ne]; exact bz
  by_cases bn0 : bn < 0
  ·have F : Hid (res = mulF an ad (-bd) (-bn)) := zh (by rw [F0.out, if_neg bz, if_pos bn0])
   have PC := zh (fun W => product_calls an ad (-bd) (-bn) W (by omega) (by omega) (by omega) (by omega) (by omega) (by omega) (by omega) (by omega))
   generalize mulF an ad (-bd) (-bn) = r at *
   obtain ⟨r1, r2, r3⟩ := r
   clear bz F0
   go_enter Tryz.func129, Tryz.ntmps129
   go_wp2_with fail
   refine (C1.out _).mono ?_
   rintro e w1 ⟨rfl, hb⟩
   have K := zh ((PK.init w an ad bn bd).next hb)
   clear hb
   have a0 := blk_cell K.out.a 0 _ rfl
   have a1 := blk_cell K.out.a 1 _ rfl
   have b0 := blk_cell K.out.b 0 _ rfl
   have b1 := blk_cell K.out.b 1 _ rfl
   have kl := blk_lt K.out.a
   have kl2 := blk_lt K.out.b
   go_wp2_with fail
   refine (PC.out _).mono ?_
   rintro e w2 ⟨rfl, hb⟩
   replace K : Hid (PK w w2 an ad bn bd) := zh (K.out.next (Bgo (Bal (Below.refl _ _) _) hb))
   clear hb kl kl2
   clear a0 a1 b0 b1
   have z0 := blk_cell K.out.z 0 _ rfl
   have z1 := blk_cell K.out.z 1 _ rfl
   have f0 := blk_frozen K.out.z 0
   have f1 := blk_frozen K.out.z 1
   go_wp2_with fail
   have e1 := blk_cell (blk_set (blk_set K.out.z 0 (.int .i64 r1)) 1 (.int .i64 r2)) 0 _ rfl
   have e2 := blk_cell (blk_set (blk_set K.out.z 0 (.int .i64 r1)) 1 (.int .i64 r2)) 1 _ rfl
   refine bodyPost_ret (v := .tuple #[Fv r1 r2, .int .i64 r3]) (by simp [results, Tryz.results129, go_sem, e1, e2]) rfl ⟨by rw [F.out], Bset1 (Bset1 K.out.n (by omega) _ _) (by omega) _ _⟩
  ·have F : Hid (res = mulF an ad bd bn) := zh (by rw [F0.out, if_neg bz, if_neg bn0])
   have PC := zh (fun W => product_calls an ad bd bn W (by omega) (by omega) (by omega) (by omega) (by omega) (by omega) (by omega) (by omega))
   generalize mulF an ad bd bn = r at *
   obtain ⟨r1, r2, r3⟩ := r
   clear bz F0
   go_enter Tryz.func129, Tryz.ntmps129
   go_wp2_with fail
   refine (C1.out _).mono ?_
   rintro e w1 ⟨rfl, hb⟩
   have K := zh ((PK.init w an ad bn bd).next hb)
   clear hb
   have a0 := blk_cell K.out.a 0 _ rfl
   have a1 := blk_cell K.out.a 1 _ rfl
   have b0 := blk_cell K.out.b 0 _ rfl
   have b1 := blk_cell K.out.b 1 _ rfl
   have kl := blk_lt K.out.a
   have kl2 := blk_lt K.out.b
   go_wp2_with fail
   refine (PC.out _).mono ?_
   rintro e w2 ⟨rfl, hb⟩
   replace K : Hid (PK w w2 an ad bn bd) := zh (K.out.next (Bgo (Bal (Below.refl _ _) _) hb))
   clear hb kl kl2
   clear a0 a1 b0 b1
   have z0 := blk_cell K.out.z 0 _ rfl
   have z1 := blk_cell K.out.z 1 _ rfl
   have f0 := blk_frozen K.out.z 0
   have f1 := blk_frozen K.out.z 1
   go_wp2_with fail
   have e1 := blk_cell (blk_set (blk_set K.out.z 0 (.int .i64 r1)) 1 (.int .i64 r2)) 0 _ rfl
   have e2 := blk_cell (blk_set (blk_set K.out.z 0 (.int .i64 r1)) 1 (.int .i64 r2)) 1 _ rfl
   refine bodyPost_ret (v := .tuple #[Fv r1 r2, .int .i64 r3]) (by simp [results, Tryz.results129, go_sem, e1, e2]) rfl ⟨by rw [F.out], Bset1 (Bset1 K.out.n (by omega) _ _) (by omega) _ _⟩
end Go.Proofs.YtbbnkclajpaghaaGreatDoor
namespace Go.Proofs.YtbbnkclajpaghaaGreatDoor
open Go.ChangeShapes Go.WideShapes Go.ChangeAt Go.RowKit
attribute [local go_sem ↓] Go.wp_at_zero Go.wp_at_succ
def cmpI (x y : Int) : Int := if y < x then 1 else if x = y then 0 else -1
theorem cmpI_gt {x y : Int} (h : y < x) : cmpI x y = 1 := by unfold cmpI; rw [if_pos h]
theorem cmpI_eq {x y : Int} (h : x = y) : cmpI x y = 0 := by unfold cmpI; rw [if_neg (by omega), if_pos h]
theorem cmpI_lt {x y : Int} (h : x < y) : cmpI x y = -1 := by unfold cmpI; rw [if_neg (by omega), if_neg (by omega)]
theorem wider_calls (ah al bh bl : Nat) (w : World) (h1 : al < 18446744073709551616) (h2 : bl < 18446744073709551616) :
  Calls Tryz.prog 159 #[.int .u64 ah, .int .u64 al, .int .u64 bh, .int .u64 bl] w fun e w' => e = .returned (.int .i64 (cmpI ((18446744073709551616 * ah + al : Nat) : Int) ((18446744073709551616 * bh + bl : Nat) : Int))) ∧ w = w' := by
 have hc : bh < ah ∨ (ah = bh ∧ bl < al) ∨ (ah = bh ∧ al = bl) ∨ (ah = bh ∧ al < bl) ∨ ah < bh := by omega
 rcases hc with h | ⟨h, h'⟩ | ⟨h, h'⟩ | ⟨h, h'⟩ | h
 ·rw [cmpI_gt (by omega)]
  have q1 : decide ((bh : Int) < (ah : Int)) = true := decide_eq_true (by omega)
  have q2 : ((ah : Int) == (bh : Int)) = false := by rw [beq_eq_false_iff_ne]; omega
  go_enter Tryz.func159, Tryz.ntmps159
  go_wp2_with fail
  go_ret
  exact ⟨rfl, rfl⟩
 ·rw [cmpI_gt (by omega)]
  subst h
  have q0 : ¬ ah < ah := by omega
  go_enter Tryz.func159, Tryz.ntmps159
  go_wp2_with fail
  go_ret
  exact ⟨rfl, rfl⟩
 ·rw [cmpI_eq (by omega)]
  subst h h'
  have q0 : ¬ ah < ah := by omega
  have q1 : ¬ al < al := by omega
  go_enter Tryz.func159, Tryz.ntmps159
  go_wp2_with fail
  go_ret
  exact ⟨rfl, rfl⟩
 ·rw [cmpI_lt (by omega)]
  subst h
  have q0 : ¬ ah < ah := by omega
  have q1 : ¬ bl < al := by omega
  have q2 : ((al : Int) == (bl : Int)) = false := by rw [beq_eq_false_iff_ne]; omega
  go_enter Tryz.func159, Tryz.ntmps159
  go_wp2_with fail
  go_ret
  exact ⟨rfl, rfl⟩
 ·rw [cmpI_lt (by omega)]
  have q0 : ¬ bh < ah := by omega
  have q2 : ((ah : Int) == (bh : Int)) = false := by rw [beq_eq_false_iff_ne]; omega
  go_enter Tryz.func159, Tryz.ntmps159
  go_wp2_with fail
  go_ret
  exact ⟨rfl, rfl⟩
end Go.Proofs.YtbbnkclajpaghaaGreatDoor
namespace Farey
def ex (x y : Int) : List Int := if h : 0 < y then (x / y) :: ex y (x % y) else []
termination_by y.toNat
decreasing_by
  have h1 := Int.emod_lt_of_pos x h
  have h2 := Int.emod_nonneg x (show y ≠ 0 by omega)
  omega
end Farey
namespace Go.Proofs.YtbbnkclajpaghaaGreatDoor
open Go.ChangeShapes Go.WideShapes Go.ChangeAt Go.RowKit
attribute [local go_sem ↓] Go.wp_at_zero Go.wp_at_succ
structure P1 (w W : World) (N D : Int) : Prop where
 a : W.heap[w.heap.size]? = some (.cells #[.int .i64 N, .int .i64 D] 83)
 z : W.heap[w.heap.size + 1]? = some (.cells #[.int .i64 0, .int .i64 0] 83)
 n : Below w.heap.size w W
theorem P1.next {w W W' : World} {N D : Int} (h : P1 w W N D) (hb : Below W.heap.size W W') : P1 w W' N D := ⟨blk_next hb h.a, blk_next hb h.z, Bgo h.n hb⟩
theorem P1.drewN {w W : World} {N D : Int} (h : P1 w W N D) (n : Nat) : P1 w (W.drewN n) N D := h.next (below_drewN (Below.refl _ _) n)
theorem P1.init (w : World) (N D : Int) : P1 w ((w.alloc (.cells #[.int .i64 N, .int .i64 D] 83)).alloc (.cells #[.int .i64 0, .int .i64 0] 83)) N D := ⟨blk1 w _ _, blk2 w _ _, Bal (Bal (Below.refl _ _) _) _⟩
end Go.Proofs.YtbbnkclajpaghaaGreatDoor
namespace Go.Proofs.YtbbnkclajpaghaaGreatDoor
open Go.ChangeShapes Go.WideShapes Go.ChangeAt Go.RowKit
def Rd (w : World) (size : Nat) (A : Option Addr) (n : Nat) (xs : List Value) : Prop :=
 xs.length = n * size ∧ (0 < n → ∃ b off, A = some ⟨b, off, none⟩ ∧ b < w.heap.size ∧ ∀ j u, xs[j]? = some u → w.cell? ⟨b, off + j, none⟩ = some u)
theorem Rd.next {w w' : World} (hb : Below w.heap.size w w') {size n : Nat} {A : Option Addr} {xs : List Value} (h : Rd w size A n xs) : Rd w' size A n xs :=
 ⟨h.1, fun hn => by
  obtain ⟨b, off, e, hl, hc⟩ := h.2 hn
  exact ⟨b, off, e, Nat.lt_of_lt_of_le hl hb.size, fun j u hu => (hb.cell hl).trans (hc j u hu)⟩⟩
theorem Rd.of_own {w : World} {base : Nat} {e : TypeId} {size n : Nat} {v : Value} {xs : List Value} (h : w.ownsRow base e size v n xs) : ∃ A cap, v = .slice A n cap ∧ n ≤ cap ∧ cap ≤ 9223372036854775807 ∧ Rd w size A n xs := by
 have h1 := h.1
 rcases h.2 with ⟨h3, h2⟩ | ⟨g, cap, cur, hv, hb, hg, hc, hm, hs, ht⟩
 ·subst h2; exact ⟨none, 0, h3, by omega, by omega, h1, fun hn => absurd hn (by omega)⟩
 ·refine ⟨_, cap, hv, hc, by simpa [maxLen] using hm, h1, fun hn => ⟨g, 0, rfl, blk_lt hg, fun j u hu => ?_⟩⟩
  refine blk_cell hg (0 + j) u ?_
  rw [← ht, List.getElem?_take] at hu
  split at hu
  ·simpa using hu
  ·simp at hu
section
variable {P : Program} (w : World)
theorem run_append_nilsrc (base : Nat) (t ty e : TypeId) (i : TypeInfo) (size : Nat) (ht : P.underlying t = some (.slice e)) (hi : P.info? e = some i)
  (v : Value) (n : Nat) (xs : List Value) (hown : w.ownsRow base e size v n xs) (c : Nat) : (Builtin.append_ #[t, t] ty #[v, .slice none 0 c]).run P w = .ok v w := by
 rcases hown.2 with ⟨rfl, rfl⟩ | ⟨g, cap, cur, rfl, _, _, hnc, _⟩
 ·simp [Builtin.append_, run_underlying ht, sizeOf, typeInfo, hi, Builtin.lenOf, Builtin.firstCells]
 ·simp [Builtin.append_, run_underlying ht, sizeOf, typeInfo, hi, Builtin.lenOf, Builtin.firstCells, hnc, storeCells]
theorem run_append_rd (base : Nat) (t ty e : TypeId) (i : TypeInfo) (z : Value) (size bytes : Nat) (ht : P.underlying t = some (.slice e)) (hi : P.info? e = some i) (hz : i.zero = some z)
  (hsize : i.size = size) (hby : i.bytes = bytes) (hzs : z.cells.size = size) (hsz : 0 < size)
  (v : Value) (n : Nat) (xs : List Value) (hown : w.ownsRow base e size v n xs)
  (A : Option Addr) (m c : Nat) (news : List Value) (hr : Rd w size A m news) (h1 : ∀ u ∈ news, u.oneCell' = true)
  (h63 : n + m ≤ maxLen) (hbytes : (n + m) * bytes ≤ 140737488355328) (hbase : base ≤ w.heap.size) :
  ∃ v' w', (Builtin.append_ #[t, t] ty #[v, .slice A m c]).run P w = .ok v' w' ∧ w'.ownsRow base e size v' (n + m) (xs ++ news) ∧ w.grownBy w' v.ownBlock ∧
   (v'.ownBlock = v.ownBlock ∨ v'.ownBlock = some w.heap.size) := by
 rcases Nat.eq_zero_or_pos m with h0 | h0
 ·subst h0
  have hn : news = [] := List.eq_nil_of_length_eq_zero (by simpa using hr.1)
  subst hn
  rcases A with _ | ad
  ·exact ⟨v, w, run_append_nilsrc w base t ty e i size ht hi v n xs hown c, by simpa using hown, World.grownBy.refl w _, .inl rfl⟩
  ·obtain ⟨v', w', hrun, h2, h3, _, h5⟩ := run_append_own_at (P := P) w base t ty e i z size bytes ht hi hz hsize hby hzs hsz v n xs hown ad 0 c [] (by simp) (by simp) (by simp) h63 hbytes hbase
   exact ⟨v', w', hrun, h2, h3, h5⟩
 ·obtain ⟨b, off, rfl, hl, hc⟩ := hr.2 h0
  have hcells : ∀ j u, news[j]? = some u → w.cell? ((⟨b, off, none⟩ : Addr).add j) = some u := by
   intro j u hu
   have e : (⟨b, off, none⟩ : Addr).add j = ⟨b, off + j, none⟩ := by
    unfold Addr.add; split
    ·rename_i h; subst h; rfl
    ·rfl
   rw [e]; exact hc j u hu
  obtain ⟨v', w', hrun, h2, h3, _, h5⟩ := run_append_own_at (P := P) w base t ty e i z size bytes ht hi hz hsize hby hzs hsz v n xs hown ⟨b, off, none⟩ m c news hr.1 hcells h1 h63 hbytes hbase
  exact ⟨v', w', hrun, h2, h3, h5⟩
theorem wp_append_rd {o : Oper} {a : Act} {K : Act → World → Prop} {Q : Exit → Act → World → Prop} (s x : Operand) (t : TypeId)
  (ho : o.op = .call { callee := .builtin .append, args := #[s, x], argTypes := #[t, t] })
  (base : Nat) (e : TypeId) (i : TypeInfo) (z : Value) (size bytes : Nat) (ht : P.underlying t = some (.slice e)) (hi : P.info? e = some i) (hz : i.zero = some z)
  (hsize : i.size = size) (hby : i.bytes = bytes) (hzs : z.cells.size = size) (hsz : 0 < size)
  (v : Value) (n : Nat) (xs : List Value) (hs : a.eval s = v) (hown : w.ownsRow base e size v n xs)
  (A : Option Addr) (m c : Nat) (news : List Value) (hx : a.eval x = .slice A m c) (hr : Rd w size A m news) (h1 : ∀ u ∈ news, u.oneCell' = true)
  (h63 : n + m ≤ maxLen) (hbytes : (n + m) * bytes ≤ 140737488355328) (hbase : base ≤ w.heap.size)
  (h : ∀ v' w', w'.ownsRow base e size v' (n + m) (xs ++ news) → w.grownBy w' v.ownBlock → (v'.ownBlock = v.ownBlock ∨ v'.ownBlock = some w.heap.size) → K (a.put o.dst v') w') : o.wp P a w K Q := by
 obtain ⟨v', w', hrun, h2, h3, h4⟩ := run_append_rd (P := P) w base t o.type e i z size bytes ht hi hz hsize hby hzs hsz v n xs hown A m c news hr h1 h63 hbytes hbase
 unfold Oper.wp execOp
 simp only [ho, resolve, invoke, builtin, Sem.run_bind, Sem.run_pure, Result.andThen_ok, List.map_toArray, List.map_cons, List.map_nil, hs, hx, hrun]
 exact h v' w' h2 h3 h4
theorem wpList_append_rd {ops : Array Oper} {rest : List Oper} {o : Oper} {a : Act} {Q : Exit → Act → World → Prop} (hgd : o.guard = none) (s x : Operand) (t : TypeId)
  (ho : o.op = .call { callee := .builtin .append, args := #[s, x], argTypes := #[t, t] })
  (base : Nat) (e : TypeId) (i : TypeInfo) (z : Value) (size bytes : Nat) (ht : P.underlying t = some (.slice e)) (hi : P.info? e = some i) (hz : i.zero = some z)
  (hsize : i.size = size) (hby : i.bytes = bytes) (hzs : z.cells.size = size) (hsz : 0 < size)
  (v : Value) (n : Nat) (xs : List Value) (hs : a.eval s = v) (hown : w.ownsRow base e size v n xs)
  (A : Option Addr) (m c : Nat) (news : List Value) (hx : a.eval x = .slice A m c) (hr : Rd w size A m news) (h1 : ∀ u ∈ news, u.oneCell' = true)
  (h63 : n + m ≤ maxLen) (hbytes : (n + m) * bytes ≤ 140737488355328) (hbase : base ≤ w.heap.size)
  (h : ∀ v' w', w'.ownsRow base e size v' (n + m) (xs ++ news) → w.grownBy w' v.ownBlock → (v'.ownBlock = v.ownBlock ∨ v'.ownBlock = some w.heap.size) → wpList P ops Q rest (a.put o.dst v') w') : wpList P ops Q (o :: rest) a w :=
 wpList_plain hgd fun _ hK => wp_append_rd w s x t ho base e i z size bytes ht hi hz hsize hby hzs hsz v n xs hs hown A m c news hx hr h1 h63 hbytes hbase fun v' w' h2 h3 h4 => hK _ _ (h v' w' h2 h3 h4)
end
theorem own_next {W w1 : World} (hb : Below W.heap.size W w1) {base : Nat} {e : TypeId} {size : Nat} {v : Value} {n : Nat} {xs : List Value} (h : W.ownsRow base e size v n xs) : w1.ownsRow base e size v n xs := by
 obtain ⟨h1, h2 | ⟨g, cap, cur, e1, e2, e3, e4⟩⟩ := h
 ·exact ⟨h1, .inl h2⟩
 ·exact ⟨h1, .inr ⟨g, cap, cur, e1, e2, blk_next hb e3, e4⟩⟩
def lv (l : List Int) : List Value := l.map fun (x : Int) => Value.int .i64 x
theorem lv_get {l : List Int} {k : Nat} {x : Int} (h : l[k]? = some x) : (lv l)[k]? = some (.int .i64 x) := by simp [lv, h]
end Go.Proofs.YtbbnkclajpaghaaGreatDoor
namespace Go.Proofs.YtbbnkclajpaghaaGreatDoor.Cxm
def g2 (a b : Int) : Int := (Int.gcd a b : Nat)
def g3 (a b c : Int) : Int := g2 (g2 a b) c
def fitsB (x : Int) : Bool := decide (-1000000000 ≤ x ∧ x ≤ 1000000000)
def chkB (re im den : Int) : Bool := decide (1 ≤ den ∧ den ≤ 1000000000) && (fitsB re && (fitsB im && decide (g3 re im den = 1)))
def sg (re im den : Int) : Int := if den < 0 then -(g3 re im den) else g3 re im den
theorem g2_nonneg (a b : Int) : 0 ≤ g2 a b := by unfold g2; omega
theorem g2_nat (a b : Int) : (g2 a b).natAbs = Nat.gcd a.natAbs b.natAbs := by unfold g2 Int.gcd; omega
theorem g2_zero (a : Int) : g2 a 0 = a.natAbs := by unfold g2; simp
theorem g2_step (a b : Int) : g2 b (a.tmod b) = g2 a b := by
 unfold g2 Int.gcd
 rw [Int.natAbs_tmod]
 congr 1
 rw [Nat.gcd_comm, ← Nat.gcd_rec, Nat.gcd_comm]
theorem tmod_bd (a b : Int) (hb : b ≠ 0) : (a.tmod b).natAbs < b.natAbs := by
 rw [Int.natAbs_tmod]; exact Nat.mod_lt _ (by omega)
theorem g2_le {a b : Int} (h : b ≠ 0) : g2 a b ≤ b.natAbs := by
 have e := g2_nat a b
 have n := g2_nonneg a b
 have := Nat.le_of_dvd (by omega) (Nat.gcd_dvd_right a.natAbs b.natAbs)
 omega
theorem g2_bd (a b K : Int) (ha : a.natAbs ≤ K) (hb : b.natAbs ≤ K) : g2 a b ≤ K := by
 by_cases h : b = 0
 ·subst h; rw [g2_zero]; exact ha
 ·have := g2_le (a := a) h; omega
def divR (p2 q2 n2 d2 e2 : Int) : Int × Int × Int × Int :=
 if fitsB (p2 * d2) && (fitsB (q2 * d2) && fitsB (n2 * e2)) then (p2 * d2, q2 * d2, n2 * e2, 0) else (0, 0, 0, 16)
end Go.Proofs.YtbbnkclajpaghaaGreatDoor.Cxm
namespace Go.Proofs.YtbbnkclajpaghaaGreatDoor
open Go.ChangeShapes Go.WideShapes Go.ChangeAt Go.RowKit
structure Vr where
 t : Int
 c : Int
 i : Int
 j : Int
 re : Int
 im : Int
 dn : Int
 n : Int
abbrev Cv (r : Vr) : Value := .agg #[.int .i64 r.re, .int .i64 r.im, .int .i64 r.dn]
abbrev Wv (r : Vr) : Value := .agg #[.int .i64 r.i, .int .i64 r.j, .int .i64 r.re, .int .i64 r.im, .int .i64 r.dn, .int .i64 r.n]
abbrev Rwv (r : Vr) : Value := .agg #[.int .i64 r.t, .int .i64 r.c, .int .i64 r.i, .int .i64 r.j, .int .i64 r.re, .int .i64 r.im, .int .i64 r.dn, .int .i64 r.n]
def vr8 (r : Vr) : List Value := [.int .i64 r.t, .int .i64 r.c, .int .i64 r.i, .int .i64 r.j, .int .i64 r.re, .int .i64 r.im, .int .i64 r.dn, .int .i64 r.n]
def vrc (l : List Vr) : List Value := l.flatMap vr8
theorem vr8_len (r : Vr) : (vr8 r).length = 8 := rfl
theorem vrc_append (l m : List Vr) : vrc (l ++ m) = vrc l ++ vrc m := by simp [vrc]
theorem vrc_one (l : List Vr) : ∀ u ∈ vrc l, u.oneCell' = true := by
 intro u hu
 obtain ⟨s, _, hs⟩ := List.mem_flatMap.1 hu
 simp [vr8] at hs
 rcases hs with rfl | rfl | rfl | rfl | rfl | rfl | rfl | rfl <;> rfl
abbrev valB (a b c : Int) : Bool := Cxm.chkB a b c
def visB (r : Vr) : Bool := decide (0 ≤ r.i) && (decide (r.i < r.j) && (decide (r.j < 8) && (valB r.re r.im r.dn && (decide (0 ≤ r.n) && decide (r.n ≤ 1000000)))))
def rowB (r : Vr) : Bool := decide (0 ≤ r.t) && (decide (r.t < 64) && (decide (0 ≤ r.c) && (decide (r.c < 16) && visB r)))
def vkey (r : Vr) : Int := ((r.t * 16 + r.c) * 8 + r.i) * 8 + r.j
def kcmp (x y : Int) : Int := if x < y then -1 else if x = y then 0 else 1
def orI (a b : Int) : Int := if a = 0 then b else a
def rcmp (r s : Vr) : Int := orI (kcmp r.t s.t) (orI (kcmp r.c s.c) (orI (kcmp r.i s.i) (kcmp r.j s.j)))
theorem rowB_facts {r : Vr} (h : rowB r = true) : 0 ≤ r.t ∧ r.t < 64 ∧ 0 ≤ r.c ∧ r.c < 16 ∧ 0 ≤ r.i ∧ r.i < r.j ∧ r.j < 8 := by
 simp only [rowB, visB, Bool.and_eq_true, decide_eq_true_eq] at h
 omega
theorem rcmp_key {r s : Vr} (hr : rowB r = true) (hs : rowB s = true) : rcmp r s = kcmp (vkey r) (vkey s) := by
 have h1 := rowB_facts hr
 have h2 := rowB_facts hs
 unfold rcmp orI kcmp vkey
 repeat' split
 all_goals omega
theorem kcmp_lt {x y : Int} : kcmp x y < 0 ↔ x < y := by
 unfold kcmp
 repeat' split
 all_goals omega
theorem kcmp_eq {x y : Int} : kcmp x y = 0 ↔ x = y := by
 unfold kcmp
 repeat' split
 all_goals omega
theorem kcmp_ge {x y : Int} : 0 ≤ kcmp x y ↔ y ≤ x := by
 unfold kcmp
 repeat' split
 all_goals omega
def goodF : Option Vr → List Vr → Bool
 | _, [] => true
 | none, r :: l => rowB r && goodF (some r) l
 | some q, r :: l => rowB r && (decide (vkey q < vkey r) && goodF (some r) l)
def goodB (l : List Vr) : Bool := goodF none l
def chkE (l : List Vr) : Int := if 200 < l.length then 4 else if goodB l then 0 else 8
theorem goodF_none {q : Option Vr} {l : List Vr} (h : goodF q l = true) : goodF none l = true := by
 cases l with
 | nil => rfl
 | cons r l =>
  cases q with
  | none => exact h
  | some q => simp only [goodF, Bool.and_eq_true] at h ⊢; exact ⟨h.1, h.2.2⟩
theorem goodF_append {q : Option Vr} {l m : List Vr} : goodF q (l ++ m) = (goodF q l && goodF (match l.getLast? with | none => q | some x => some x) m) := by
 induction l generalizing q with
 | nil => simp [goodF]
 | cons r l ih =>
  have hl : (match (r :: l).getLast? with | none => q | some x => some x) = (match l.getLast? with | none => some r | some x => some x) := by
   rw [List.getLast?_cons]; cases l.getLast? <;> rfl
  rw [hl]
  cases q with
  | none => simp only [List.cons_append, goodF, ih, Bool.and_assoc]
  | some q => simp only [List.cons_append, goodF, ih, Bool.and_assoc]
theorem goodF_row {q : Option Vr} {l : List Vr} (h : goodF q l = true) : ∀ r ∈ l, rowB r = true := by
 induction l generalizing q with
 | nil => simp
 | cons r l ih =>
  intro x hx
  have h' := goodF_none h
  simp only [goodF, Bool.and_eq_true] at h'
  rcases List.mem_cons.1 hx with rfl | hx
  ·exact h'.1
  ·exact ih h'.2 x hx
theorem goodF_gt {q : Vr} {l : List Vr} (h : goodF (some q) l = true) : ∀ r ∈ l, vkey q < vkey r := by
 induction l generalizing q with
 | nil => simp
 | cons r l ih =>
  intro x hx
  simp only [goodF, Bool.and_eq_true, decide_eq_true_eq] at h
  rcases List.mem_cons.1 hx with rfl | hx
  ·exact h.2.1
  ·have := ih h.2.2 x hx; omega
theorem good_split {pre rest : List Vr} {x : Vr} (h : goodB (pre ++ x :: rest) = true) : ∀ r ∈ rest, vkey x < vkey r := by
 unfold goodB at h
 rw [goodF_append, Bool.and_eq_true] at h
 have h2 := goodF_none h.2
 simp only [goodF, Bool.and_eq_true] at h2
 exact goodF_gt h2.2
def putE (l : List Vr) (r : Vr) : Int := if chkE l ≠ 0 then chkE l else if rowB r = false then 8 else if (l.any fun x => decide (vkey x = vkey r)) then 14 else if l.length = 200 then 4 else 0
def putL (l : List Vr) (r : Vr) : List Vr := if putE l r = 0 then l.takeWhile (fun x => decide (vkey x < vkey r)) ++ r :: l.dropWhile (fun x => decide (vkey x < vkey r)) else []
theorem chkE_good {l : List Vr} (h : chkE l = 0) : goodB l = true ∧ l.length ≤ 200 := by
 unfold chkE at h
 split at h
 ·omega
 ·split at h
  ·rename_i h1 h2; exact ⟨h2, by omega⟩
  ·omega
theorem tw_split {l pre rest : List Vr} {p : Vr → Bool} (hl : l = pre ++ rest) (h1 : ∀ x ∈ pre, p x = true) (h2 : ∀ x, rest.head? = some x → p x = false) : l.takeWhile p = pre ∧ l.dropWhile p = rest := by
 subst hl
 induction pre with
 | nil =>
  cases rest with
  | nil => simp
  | cons x rest => simp [h2 x rfl]
 | cons y pre ih =>
  have := ih (fun x hx => h1 x (List.mem_cons_of_mem _ hx))
  simp only [List.cons_append, List.takeWhile_cons, List.dropWhile_cons, h1 y (List.mem_cons_self ..), if_true]
  exact ⟨by rw [this.1], this.2⟩
def selE (l : List Vr) (i j : Int) : Int := if chkE l ≠ 0 then chkE l else if i < 0 ∨ j ≤ i ∨ 8 ≤ j then 2 else 0
def selB (i j : Int) (r : Vr) : Bool := decide (r.i = i) && decide (r.j = j)
def selL (l : List Vr) (i j : Int) : List Vr := if selE l i j = 0 then l.filter (selB i j) else []
def mskE (t c : Int) (b : List Bool) : Int := if 32 < t ∨ 16 < c then 4 else if t < 1 ∨ c < 1 ∨ (b.length : Int) ≠ t * c then 8 else 0
def drpR (c : Int) (b : List Bool) (r : Vr) : Vr := if b.getD (r.t * c + r.c).toNat false then { r with n := 0 } else r
def drpE (l : List Vr) (t c : Int) (b : List Bool) : Int := if chkE l ≠ 0 then chkE l else if mskE t c b ≠ 0 then mskE t c b else if (l.any fun r => decide (t ≤ r.t) || decide (c ≤ r.c)) then 2 else 0
def drpL (l : List Vr) (t c : Int) (b : List Bool) : List Vr := if drpE l t c b = 0 then l.map (drpR c b) else []
end Go.Proofs.YtbbnkclajpaghaaGreatDoor
namespace Go.Proofs.YtbbnkclajpaghaaGreatDoor
open Go.ChangeShapes Go.WideShapes Go.ChangeAt Go.RowKit
theorem fm_len {α : Type} (f : α → List Value) (sz : Nat) (hf : ∀ x, (f x).length = sz) (l : List α) : (l.flatMap f).length = l.length * sz := by
 induction l with
 | nil => simp
 | cons x l ih => rw [List.flatMap_cons, List.length_append, ih, hf, List.length_cons, Nat.succ_mul]; omega
theorem fm_get {α : Type} (f : α → List Value) (sz : Nat) (hf : ∀ x, (f x).length = sz) (l : List α) (i j : Nat) (hi : i < l.length) (hj : j < sz) : (l.flatMap f)[i * sz + j]? = (f l[i])[j]? := by
 induction l generalizing i with
 | nil => simp at hi
 | cons x l ih =>
  cases i with
  | zero =>
   rw [List.flatMap_cons, Nat.zero_mul, Nat.zero_add, List.getElem?_append_left (by rw [hf]; exact hj)]; rfl
  | succ i =>
   rw [List.flatMap_cons, List.getElem?_append_right (by rw [hf, Nat.succ_mul]; omega), hf]
   have := ih i (by simpa using hi)
   rw [← show (i * sz + j) = (i + 1) * sz + j - sz by rw [Nat.succ_mul]; omega, this]
   rfl
theorem Rd.at_ {w : World} {size n : Nat} {A : Option Addr} {α : Type} {f : α → List Value} {l : List α} (h : Rd w size A l.length (l.flatMap f)) (hf : ∀ x, (f x).length = size) {i : Nat} (hi : i < l.length) :
  ∃ b off, A = some ⟨b, off, none⟩ ∧ b < w.heap.size ∧ ∀ j u, (f l[i])[j]? = some u → w.cell? ⟨b, off + i * size + j, none⟩ = some u := by
 obtain ⟨b, off, e, hl, hc⟩ := h.2 (by omega)
 refine ⟨b, off, e, hl, fun j u hu => ?_⟩
 have hj : j < size := by
  have := (List.getElem?_eq_some_iff.1 hu).1
  rw [hf] at this; exact this
 rw [Nat.add_assoc]
 exact hc (i * size + j) u (by rw [fm_get f size hf l i j hi hj]; exact hu)
theorem Rd.mk_ {w : World} {size : Nat} {A : Option Addr} {α : Type} {f : α → List Value} {l : List α} (hs : 0 < size) (hf : ∀ x, (f x).length = size)
  (h : ∀ i (hi : i < l.length), ∃ b off, A = some ⟨b, off, none⟩ ∧ b < w.heap.size ∧ ∀ j u, (f l[i])[j]? = some u → w.cell? ⟨b, off + i * size + j, none⟩ = some u) : Rd w size A l.length (l.flatMap f) := by
 refine ⟨fm_len f size hf l, fun hn => ?_⟩
 obtain ⟨b, off, e, hl, _⟩ := h 0 hn
 refine ⟨b, off, e, hl, fun j u hu => ?_⟩
 have hj : j < l.length * size := by
  have := (List.getElem?_eq_some_iff.1 hu).1
  rw [fm_len f size hf l] at this; exact this
 have hd : j / size < l.length := (Nat.div_lt_iff_lt_mul hs).2 hj
 have hm : j % size < size := Nat.mod_lt _ hs
 have hjj : j / size * size + j % size = j := Nat.div_add_mod' j size
 obtain ⟨b', off', e', _, hc⟩ := h (j / size) hd
 rw [e] at e'
 injection e' with e'
 injection e' with e1 e2
 subst e1 e2
 have := hc (j % size) u (by rw [← fm_get f size hf l _ _ hd hm, hjj]; exact hu)
 rwa [Nat.add_assoc, hjj] at this
section
variable {P : Program} (w : World)
end
abbrev RT (w : World) (A : Option Addr) (l : List Vr) : Prop := Rd w 8 A l.length (vrc l)
theorem RT.at_ {w : World} {A : Option Addr} {l : List Vr} (h : RT w A l) {i : Nat} (hi : i < l.length) : ∃ b off, A = some ⟨b, off, none⟩ ∧ b < w.heap.size ∧
  w.cell? ⟨b, off + i * 8, none⟩ = some (.int .i64 l[i].t) ∧ w.cell? ⟨b, off + i * 8 + 1, none⟩ = some (.int .i64 l[i].c) ∧ w.cell? ⟨b, off + i * 8 + 2, none⟩ = some (.int .i64 l[i].i) ∧ w.cell? ⟨b, off + i * 8 + 3, none⟩ = some (.int .i64 l[i].j) ∧
  w.cell? ⟨b, off + i * 8 + 4, none⟩ = some (.int .i64 l[i].re) ∧ w.cell? ⟨b, off + i * 8 + 5, none⟩ = some (.int .i64 l[i].im) ∧ w.cell? ⟨b, off + i * 8 + 6, none⟩ = some (.int .i64 l[i].dn) ∧ w.cell? ⟨b, off + i * 8 + 7, none⟩ = some (.int .i64 l[i].n) := by
 obtain ⟨b, off, e, hl, hc⟩ := Rd.at_ (n := 0) h vr8_len hi
 exact ⟨b, off, e, hl, hc 0 _ rfl, hc 1 _ rfl, hc 2 _ rfl, hc 3 _ rfl, hc 4 _ rfl, hc 5 _ rfl, hc 6 _ rfl, hc 7 _ rfl⟩
end Go.Proofs.YtbbnkclajpaghaaGreatDoor
namespace Go.Proofs.YtbbnkclajpaghaaGreatDoor
open Go.ChangeShapes Go.WideShapes Go.ChangeAt Go.RowKit Cxm
theorem wgcd_calls (a b : Int) (ha : -4000000000000000000 ≤ a) (ha' : a ≤ 4000000000000000000) (hb : -4000000000000000000 ≤ b) (hb' : b ≤ 4000000000000000000) (w : World) :
  Calls Tryz.prog 122 #[.int .i64 a, .int .i64 b] w fun e w' => e = .returned (.int .i64 (g2 a b)) ∧ ∃ m, w' = w.drewN m := by
 generalize hg : g2 a b = g
 have HG := zh hg
 clear hg
 go_enter Tryz.func122, Tryz.ntmps122
 go_wp2
 go_loopw [0, 1] (fun p q wr => ∃ x y : Int, ∃ n : Nat, p = .int .i64 x ∧ q = .int .i64 y ∧ wr = w.drewN n ∧ Hid (g2 x y = g) ∧ -4000000000000000000 ≤ x ∧ x ≤ 4000000000000000000 ∧ -4000000000000000000 ≤ y ∧ y ≤ 4000000000000000000) (fun _ q _ => (intOf q).natAbs)
 case atStart => exact ⟨a, b, 0, rfl, rfl, rfl, HG, by omega, by omega, by omega, by omega⟩
 case round =>
  obtain ⟨x, y, n, rfl, rfl, rfl, HX, h1, h2, h3, h4⟩ := hrel
  by_cases hy : y = 0
  ·have hy' : (y != 0) = false := by simp [hy]
   have HY := zh hy
   clear hy
   go_wp2
   all_goals
    go_ret
    refine ⟨ret_int ?_, n, rfl⟩
    have e := HX.out
    rw [HY.out, g2_zero] at e
    omega
  ·have hy' : (y != 0) = true := by simp [hy]
   have HY := zh hy
   clear hy
   have hb := tmod_bd x y HY.out
   have HS := zh (g2_step x y)
   have hw : IntKind.i64.wrap (x.tmod y) = x.tmod y := IntWalk.i64_in _ (by omega)
   go_wp2
   go_quiet (fail)
   go_wp2
   refine ⟨⟨y, x.tmod y, n + nq, rfl, rfl, by rw [World.drewN_drewN], zh (by rw [HS.out]; exact HX.out), by omega, by omega, by omega, by omega⟩, ?_⟩
   simp only [intOf]; omega
theorem fits_calls (a : Int) (w : World) :
  Calls Tryz.prog 121 #[.int .i64 a] w fun e w' => e = .returned (.bool (fitsB a)) ∧ ∃ m, w' = w.drewN m := by
 by_cases h : -1000000000 ≤ a
 all_goals
  go_enter Tryz.func121, Tryz.ntmps121
  go_wp2
  go_ret
  refine ⟨?_, 0, rfl⟩
  simp [fitsB, h]
  try omega
theorem fits_bd {x : Int} (h : fitsB x = true) : -1000000000 ≤ x ∧ x ≤ 1000000000 := by simpa [fitsB] using h
theorem isWeight_calls (n : Int) (w : World) : Calls Tryz.prog 91 #[.int .i64 n] w fun e w' => e = .returned (.bool (decide (0 ≤ n) && decide (n ≤ 1000000))) ∧ ∃ m, w' = w.drewN m := by
 by_cases h : 0 ≤ n
 all_goals
  go_enter Tryz.func91, Tryz.ntmps91
  go_wp2
  go_ret
  refine ⟨?_, 0, rfl⟩
  simp [h]
  try omega
theorem isValue_calls (re im dn : Int) (w : World) : Calls Tryz.prog 105 #[.agg #[.int .i64 re, .int .i64 im, .int .i64 dn]] w fun e w' => e = .returned (.bool (chkB re im dn)) ∧ Below w.heap.size w w' := by
 generalize hv : chkB re im dn = v
 have hc : dn < 1 ∨ (1 ≤ dn ∧ 1000000000 < dn) ∨ (1 ≤ dn ∧ dn ≤ 1000000000) := by omega
 have FI : Hid (∀ x : Int, ∀ W : World, Calls Tryz.prog 121 #[.int .i64 x] W fun e w' => e = .returned (.bool (fitsB x)) ∧ ∃ m, w' = W.drewN m) := zh fun x W => fits_calls x W
 rcases hc with c | ⟨c, c2⟩ | ⟨c, c2⟩
 ·have F : v = false := by rw [← hv]; unfold chkB; rw [decide_eq_false (by omega)]; rfl
  have HF := zh F
  have d1 : decide (1 ≤ dn) = false := by simpa using c
  clear F hv FI
  go_enter Tryz.func105, Tryz.ntmps105
  go_wp2_with fail
  go_quiet (fail)
  go_wp2_with fail
  go_ret
  exact ⟨ret_bool HF.out.symm, below_drewN (Bal (Below.refl _ _) _) _⟩
 ·have F : v = false := by rw [← hv]; unfold chkB; rw [decide_eq_false (by omega)]; rfl
  have HF := zh F
  have d1 : decide (1 ≤ dn) = true := by simpa using c
  have d2 : decide (dn ≤ 1000000000) = false := by simpa using c2
  clear F hv FI
  go_enter Tryz.func105, Tryz.ntmps105
  go_wp2_with fail
  go_quiet (fail)
  go_wp2_with fail
  go_ret
  exact ⟨ret_bool HF.out.symm, below_drewN (Bal (Below.refl _ _) _) _⟩
 have d1 : decide (1 ≤ dn) = true := by simpa using c
 have d2 : decide (dn ≤ 1000000000) = true := by simpa using c2
 have hv1 : (fitsB re && (fitsB im && decide (g3 re im dn = 1))) = v := by rw [← hv]; unfold chkB; rw [decide_eq_true (by omega : 1 ≤ dn ∧ dn ≤ 1000000000)]; rfl
 clear hv
 have F1 := FI.out re
 cases hr : fitsB re
 ·have HF : Hid (v = false) := zh (by rw [← hv1, hr]; rfl)
  rw [hr] at F1
  have HF1 := zh F1
  clear hv1 FI F1 hr
  go_enter Tryz.func105, Tryz.ntmps105
  go_wp2_with fail
  go_quiet ((go_at_call 121; (with_reducible exact quiet_more (HF1.out _))))
  go_wp2_with fail
  go_ret
  exact ⟨ret_bool HF.out.symm, below_drewN (Bal (Below.refl _ _) _) _⟩
 have F2 := FI.out im
 cases hi : fitsB im
 ·have HF : Hid (v = false) := zh (by rw [← hv1, hr, hi]; rfl)
  rw [hr] at F1
  rw [hi] at F2
  have HF1 := zh F1
  have HF2 := zh F2
  clear hv1 FI F1 F2 hr hi
  go_enter Tryz.func105, Tryz.ntmps105
  go_wp2_with fail
  go_quiet ((first | (go_at_call 121; (with_reducible exact quiet_more (HF1.out _))) | (go_at_call 121; (with_reducible exact quiet_more (HF2.out _)))))
  go_wp2_with fail
  go_ret
  exact ⟨ret_bool HF.out.symm, below_drewN (Bal (Below.refl _ _) _) _⟩
 have b1 := fits_bd hr
 have b2 := fits_bd hi
 have gb := g2_bd re im 1000000000 (by omega) (by omega)
 have gn := g2_nonneg re im
 have G1 : Hid (∀ W : World, Calls Tryz.prog 122 #[.int .i64 re, .int .i64 im] W fun e w' => e = .returned (.int .i64 (g2 re im)) ∧ ∃ m, w' = W.drewN m) := zh fun W => wgcd_calls re im (by omega) (by omega) (by omega) (by omega) W
 have hv2 : decide (g3 re im dn = 1) = v := by rw [← hv1, hr, hi]; rfl
 unfold g3 at hv2
 generalize g2 re im = x at *
 have G2 : Hid (∀ W : World, Calls Tryz.prog 122 #[.int .i64 x, .int .i64 dn] W fun e w' => e = .returned (.int .i64 (g2 x dn)) ∧ ∃ m, w' = W.drewN m) := zh fun W => wgcd_calls x dn (by omega) (by omega) (by omega) (by omega) W
 generalize g2 x dn = y at *
 have HF := zh hv2
 rw [hr] at F1
 rw [hi] at F2
 have HF1 := zh F1
 have HF2 := zh F2
 clear hv1 hv2 FI F1 F2 hr hi b1 b2 gb gn
 go_enter Tryz.func105, Tryz.ntmps105
 go_wp2_with fail
 go_quiet ((first | (go_at_call 121; (with_reducible exact quiet_more (HF1.out _))) | (go_at_call 121; (with_reducible exact quiet_more (HF2.out _))) | (go_at_call 122; (with_reducible exact quiet_more (G1.out _))) | (go_at_call 122; (with_reducible exact quiet_more (G2.out _)))))
 go_wp2_with fail
 go_ret
 exact ⟨ret_bool HF.out, below_drewN (Bal (Below.refl _ _) _) _⟩
end Go.Proofs.YtbbnkclajpaghaaGreatDoor
namespace Go.Proofs.YtbbnkclajpaghaaGreatDoor
open Go.ChangeShapes Go.WideShapes Go.ChangeAt Go.RowKit Cxm
def visE (r : Vr) : Int := bif visB r then 0 else 8
theorem visE_zero (r : Vr) : decide (visE r = 0) = visB r := by unfold visE; cases visB r <;> rfl
theorem wcheck_calls (r : Vr) (w : World) : Calls Tryz.prog 77 #[Wv r] w fun e w' => e = .returned (.int .i64 (visE r)) ∧ Below w.heap.size w w' := by
 obtain ⟨t, c, i, j, re, im, dn, n⟩ := r
 have IV : Hid (∀ W : World, Calls Tryz.prog 105 #[.agg #[.int .i64 re, .int .i64 im, .int .i64 dn]] W fun e w' => e = .returned (.bool (chkB re im dn)) ∧ Below W.heap.size W w') := zh (isValue_calls re im dn)
 have IW : Hid (∀ W : World, Calls Tryz.prog 91 #[.int .i64 n] W fun e w' => e = .returned (.bool (decide (0 ≤ n) && decide (n ≤ 1000000))) ∧ Below W.heap.size W w') := zh (fun W => (isWeight_calls n W).mono fun _ _ ⟨h, m, hm⟩ => ⟨h, hm ▸ below_drewN (Below.refl _ _) _⟩)
 generalize hv : visE ⟨t, c, i, j, re, im, dn, n⟩ = v
 simp only [visE, visB, valB] at hv
 generalize chkB re im dn = b1 at *
 generalize hb2 : (decide (0 ≤ n) && decide (n ≤ 1000000)) = b2 at *
 have HV := zh hv
 have NN := zh (Below.refl w.heap.size w)
 clear hv hb2
 have hc : i < 0 ∨ (0 ≤ i ∧ j ≤ i) ∨ (0 ≤ i ∧ i < j ∧ 8 ≤ j) ∨ (0 ≤ i ∧ i < j ∧ j < 8) := by omega
 rcases hc with h | ⟨h, h'⟩ | ⟨h, h', h''⟩ | ⟨h, h', h''⟩
 ·have F : Hid (v = 8) := zh (by rw [← HV.out, decide_eq_false (by omega : ¬ 0 ≤ i)]; rfl)
  clear HV IV IW
  go_enter Tryz.func77, Tryz.ntmps77
  go_wp2_with fail
  go_ret
  exact ⟨ret_int F.out.symm, Bal NN.out _⟩
 ·have F : Hid (v = 8) := zh (by rw [← HV.out, decide_eq_true h, decide_eq_false (by omega : ¬ i < j)]; rfl)
  clear HV IV IW
  go_enter Tryz.func77, Tryz.ntmps77
  go_wp2_with fail
  go_ret
  exact ⟨ret_int F.out.symm, Bal NN.out _⟩
 ·have F : Hid (v = 8) := zh (by rw [← HV.out, decide_eq_true h, decide_eq_true h', decide_eq_false (by omega : ¬ j < 8)]; rfl)
  clear HV IV IW
  go_enter Tryz.func77, Tryz.ntmps77
  go_wp2_with fail
  go_ret
  exact ⟨ret_int F.out.symm, Bal NN.out _⟩
 ·have F : Hid ((bif b1 && b2 then 0 else 8) = v) := zh (by rw [← HV.out, decide_eq_true h, decide_eq_true h', decide_eq_true h'']; rfl)
  clear HV
  go_enter Tryz.func77, Tryz.ntmps77
  go_wp2_with fail
  have V0 : Hid ((w.alloc (.cells #[.int .i64 i, .int .i64 j, .int .i64 re, .int .i64 im, .int .i64 dn, .int .i64 n] 42)).heap[w.heap.size]? = some (.cells #[.int .i64 i, .int .i64 j, .int .i64 re, .int .i64 im, .int .i64 dn, .int .i64 n] 42)) := zh (blk_new w _)
  replace NN : Hid (Below w.heap.size w (w.alloc (.cells #[.int .i64 i, .int .i64 j, .int .i64 re, .int .i64 im, .int .i64 dn, .int .i64 n] 42))) := zh (Bal NN.out _)
  generalize (w.alloc (.cells #[.int .i64 i, .int .i64 j, .int .i64 re, .int .i64 im, .int .i64 dn, .int .i64 n] 42)) = W1 at *
  obtain ⟨c_V0_0, f_V0_0, c_V0_1, f_V0_1, c_V0_2, f_V0_2, c_V0_3, f_V0_3, c_V0_4, f_V0_4, c_V0_5, f_V0_5, l_V0⟩ := zfl6 V0
  go_wp2_with fail
  refine (IV.out _).mono ?_
  rintro e w2 ⟨rfl, hb⟩
  clear c_V0_0 f_V0_0 c_V0_1 f_V0_1 c_V0_2 f_V0_2 c_V0_3 f_V0_3 c_V0_4 f_V0_4 c_V0_5 f_V0_5 l_V0
  replace NN := zh (Bgo NN.out hb)
  replace V0 := zn hb V0
  clear hb
  obtain ⟨c_V0_0, f_V0_0, c_V0_1, f_V0_1, c_V0_2, f_V0_2, c_V0_3, f_V0_3, c_V0_4, f_V0_4, c_V0_5, f_V0_5, l_V0⟩ := zfl6 V0
  cases b1
  ·clear IV IW
   go_wp2_with fail
   clear c_V0_0 f_V0_0 c_V0_1 f_V0_1 c_V0_2 f_V0_2 c_V0_3 f_V0_3 c_V0_4 f_V0_4 c_V0_5 f_V0_5 l_V0
   go_ret
   exact ⟨ret_int F.out, NN.out⟩
  ·clear IV
   go_wp2_with fail
   refine (IW.out _).mono ?_
   rintro e w3 ⟨rfl, hb⟩
   clear c_V0_0 f_V0_0 c_V0_1 f_V0_1 c_V0_2 f_V0_2 c_V0_3 f_V0_3 c_V0_4 f_V0_4 c_V0_5 f_V0_5 l_V0
   replace NN := zh (Bgo NN.out hb)
   replace V0 := zn hb V0
   clear hb
   cases b2 <;> (clear IW; go_wp2_with fail; go_ret; exact ⟨ret_int F.out, NN.out⟩)
end Go.Proofs.YtbbnkclajpaghaaGreatDoor
