/- Several texts in one. -/
import Derived.Lib.ItoaNum
import Derived.Lib.ItoaMem
import Derived.Lib.ItoaLen
import Derived.Lib.ParseIntB
import Derived.Lib.IndexMore
import Derived.Lib.IndexBytes
import Derived.Lib.IndexLaws
import Derived.Lib.AtoiErrMem
import Derived.Lib.ParseIntBTie
import Derived.Lib.AppendIntMem
import Derived.WalkKit
import Derived.ProofKit
import Derived.Lib.Hide
import Derived.Maps.AppendAt
import Derived.Deep.AppendLies
import Derived.OwnWalk
import Derived.Laws.OwnMore
import Derived.Deep.DeepCutAuto
import Derived.Deep.RegionLaw
import Derived.Test.YtbbnkclajpaghaaMA00
namespace Go.Proofs.Ytbbnkclajpaghaa
open Go.ChangeShapes Go.WideShapes Go.ChangeAt Go.RowKit
set_option linter.unusedVariables false
set_option maxRecDepth 100000
attribute [local go_sem ↓] Go.wp_at_zero Go.wp_at_succ
def dg : Nat → Nat → Nat
 | n, 0 => n % 4294967296
 | n, i + 1 => dg (n / 4294967296) i
theorem dg_lt (n i : Nat) : dg n i < 4294967296 := by
 induction i generalizing n with
 | zero => exact Nat.mod_lt _ (by omega)
 | succ i ih => exact ih _
theorem dg_zero (i : Nat) : dg 0 i = 0 := by
 induction i with
 | zero => rfl
 | succ i ih => exact ih
theorem dg_digits {a b c d : Nat} (ha : a < 4294967296) (hb : b < 4294967296) (hc : c < 4294967296) (hd : d < 4294967296) : dg (bigN a b c d) 0 = a ∧ dg (bigN a b c d) 1 = b ∧ dg (bigN a b c d) 2 = c ∧ dg (bigN a b c d) 3 = d := by
 have e0 : bigN a b c d = a + 4294967296 * bigN b c d 0 := by unfold bigN; omega
 have e1 : bigN b c d 0 = b + 4294967296 * bigN c d 0 0 := by unfold bigN; omega
 have e2 : bigN c d 0 0 = c + 4294967296 * d := by unfold bigN; omega
 have q0 : bigN a b c d / 4294967296 = bigN b c d 0 := by rw [e0]; omega
 have q1 : bigN b c d 0 / 4294967296 = bigN c d 0 0 := by rw [e1]; omega
 have q2 : bigN c d 0 0 / 4294967296 = d := by rw [e2]; omega
 refine ⟨?_, ?_, ?_, ?_⟩
 ·show bigN a b c d % 4294967296 = a
  rw [e0]; omega
 ·show dg (bigN a b c d / 4294967296) 0 = b
  rw [q0]; show bigN b c d 0 % 4294967296 = b
  rw [e1]; omega
 ·show dg (bigN a b c d / 4294967296 / 4294967296) 0 = c
  rw [q0, q1]; show bigN c d 0 0 % 4294967296 = c
  rw [e2]; omega
 ·show dg (bigN a b c d / 4294967296 / 4294967296 / 4294967296) 0 = d
  rw [q0, q1, q2]; show d % 4294967296 = d
  omega
abbrev Dv (n : Nat) : Value := Bv (dg n 0) (dg n 1) (dg n 2) (dg n 3)
theorem dv_of {n a b c d : Nat} (ha : a < 4294967296) (hb : b < 4294967296) (hc : c < 4294967296) (hd : d < 4294967296) (h : n = bigN a b c d) : Bv a b c d = Dv n := by
 obtain ⟨h0, h1, h2, h3⟩ := dg_digits ha hb hc hd
 subst h
 unfold Dv
 rw [h0, h1, h2, h3]
def sm4 (n : Nat) : Prop := n / 4294967296 / 4294967296 / 4294967296 < 4294967296
theorem big_dg {n : Nat} (h : sm4 n) : bigN (dg n 0) (dg n 1) (dg n 2) (dg n 3) = n := by
 unfold sm4 at h
 show bigN (n % 4294967296) (n / 4294967296 % 4294967296) (n / 4294967296 / 4294967296 % 4294967296) (n / 4294967296 / 4294967296 / 4294967296 % 4294967296) = n
 unfold bigN
 omega
theorem refProd_plain {x y x0 x1 y0 y1 a b c d : Nat} (hx : x = 4294967296 * x1 + x0) (hy : y = 4294967296 * y1 + y0) (ha : x0 * y0 = a) (hb : x1 * y0 = b) (hc : x0 * y1 = c) (hd : x1 * y1 = d) : x * y = a + 4294967296 * (b + c + 4294967296 * d) := by
 subst hx hy ha hb hc hd
 grind
set_option maxRecDepth 100000 in
set_option maxHeartbeats 8000000 in
theorem refProduct_calls (x y : Nat) (w : World) (hx : x < 18446744073709551616) (hy : y < 18446744073709551616) :
  Calls Try.prog 74 #[.int .u64 x, .int .u64 y] w fun e w' => e = .returned (Dv (x * y)) ∧ Below w.heap.size w w' := by
 have B1 := Lib.hid (fun W => big_calls x W hx)
 have B2 := Lib.hid (fun W => big_calls y W hy)
 have b0 : x % 4294967296 ≤ 4294967295 := by omega
 have b1 : x / 4294967296 ≤ 4294967295 := by omega
 have b2 : y % 4294967296 ≤ 4294967295 := by omega
 have b3 : y / 4294967296 ≤ 4294967295 := by omega
 have EX : x = 4294967296 * (x / 4294967296) + x % 4294967296 := by omega
 have EY : y = 4294967296 * (y / 4294967296) + y % 4294967296 := by omega
 generalize x % 4294967296 = x0 at *
 generalize x / 4294967296 = x1 at *
 generalize y % 4294967296 = y0 at *
 generalize y / 4294967296 = y1 at *
 have PL := refProd_plain EX EY rfl rfl rfl rfl
 have c1 := prod_lt b0 b2
 have c2 := prod_lt b1 b2
 have c3 := prod_lt b0 b3
 have c4 := prod_lt b1 b3
 have m1 : (x0 : Int) * (y0 : Int) = ((x0 * y0 : Nat) : Int) := (Int.natCast_mul x0 y0).symm
 have m2 : (x1 : Int) * (y0 : Int) = ((x1 * y0 : Nat) : Int) := (Int.natCast_mul x1 y0).symm
 have m3 : (x0 : Int) * (y1 : Int) = ((x0 * y1 : Nat) : Int) := (Int.natCast_mul x0 y1).symm
 have m4 : (x1 : Int) * (y1 : Int) = ((x1 * y1 : Nat) : Int) := (Int.natCast_mul x1 y1).symm
 clear EX EY b0 b1 b2 b3 hx hy
 generalize x * y = xy at *
 generalize x0 * y0 = a at *
 generalize x1 * y0 = b at *
 generalize x0 * y1 = c at *
 generalize x1 * y1 = d at *
 obtain ⟨o0, ho0⟩ : ∃ u, u = a % 4294967296 := ⟨_, rfl⟩
 obtain ⟨k0, hk0⟩ : ∃ u, u = a / 4294967296 := ⟨_, rfl⟩
 obtain ⟨u1, hu1⟩ : ∃ u, u = k0 + c := ⟨_, rfl⟩
 obtain ⟨o1, ho1⟩ : ∃ u, u = u1 % 4294967296 := ⟨_, rfl⟩
 obtain ⟨k1, hk1⟩ : ∃ u, u = u1 / 4294967296 := ⟨_, rfl⟩
 obtain ⟨u2, hu2⟩ : ∃ u, u = o1 + b := ⟨_, rfl⟩
 obtain ⟨p1, hp1⟩ : ∃ u, u = u2 % 4294967296 := ⟨_, rfl⟩
 obtain ⟨k2, hk2⟩ : ∃ u, u = u2 / 4294967296 := ⟨_, rfl⟩
 obtain ⟨v3, hv3⟩ : ∃ u, u = k1 + d := ⟨_, rfl⟩
 obtain ⟨u3, hu3⟩ : ∃ u, u = k2 + v3 := ⟨_, rfl⟩
 obtain ⟨p2, hp2⟩ : ∃ u, u = u3 % 4294967296 := ⟨_, rfl⟩
 obtain ⟨p3, hp3⟩ : ∃ u, u = u3 / 4294967296 := ⟨_, rfl⟩
 have l1 : u1 < 18446744073709551616 := by omega
 have l2 : u2 < 18446744073709551616 := by omega
 have l3 : u3 < 18446744073709551616 := by omega
 have l4 : v3 < 18446744073709551616 := by omega
 have l5 : k1 < 4294967296 := by omega
 have l6 : p3 < 4294967296 := by omega
 have FIN : Hid (Bv o0 p1 p2 p3 = Dv xy) := Lib.hid (dv_of (by omega) (by omega) (by omega) (by omega) (by unfold bigN; omega))
 have r1 : bits .and .u64 (a : Int) 4294967295 = (o0 : Int) := by rw [ho0]; exact and32 a (by omega)
 have r2 : (a : Int) / 4294967296 = (k0 : Int) := by rw [hk0]; exact (Int.natCast_ediv a 4294967296).symm
 have r3 : (k0 : Int) + (c : Int) = (u1 : Int) := by omega
 have r4 : bits .and .u64 (u1 : Int) 4294967295 = (o1 : Int) := by rw [ho1]; exact and32 u1 (by omega)
 have r5 : (u1 : Int) / 4294967296 = (k1 : Int) := by rw [hk1]; exact (Int.natCast_ediv u1 4294967296).symm
 have r6 : (o1 : Int) + (b : Int) = (u2 : Int) := by omega
 have r7 : bits .and .u64 (u2 : Int) 4294967295 = (p1 : Int) := by rw [hp1]; exact and32 u2 (by omega)
 have r8 : (u2 : Int) / 4294967296 = (k2 : Int) := by rw [hk2]; exact (Int.natCast_ediv u2 4294967296).symm
 have r9 : (k1 : Int) + (d : Int) = (v3 : Int) := by omega
 have r10 : (k2 : Int) + (v3 : Int) = (u3 : Int) := by omega
 have r11 : bits .and .u64 (u3 : Int) 4294967295 = (p2 : Int) := by rw [hp2]; exact and32 u3 (by omega)
 have r12 : (u3 : Int) / 4294967296 = (p3 : Int) := by rw [hp3]; exact (Int.natCast_ediv u3 4294967296).symm
 clear PL ho0 hk0 hu1 ho1 hk1 hu2 hp1 hk2 hv3 hu3 hp2 hp3
 go_enter Try.func74, Try.ntmps74
 go_wp2_with fail
 refine (B1.out _).mono ?_
 rintro e w1 ⟨rfl, hb1⟩
 have Z1 : Hid (w1.heap[w.heap.size]? = some (.cells #[.int .u64 0, .int .u64 0, .int .u64 0, .int .u64 0] 110)) := Lib.hid (blk_next hb1 (blk_new w _))
 have N1 : Hid (Below w.heap.size w w1) := Lib.hid (Bgo (Bal (Below.refl _ _) _) hb1)
 clear hb1
 go_wp2_with fail
 refine (B2.out _).mono ?_
 rintro e w2 ⟨rfl, hb2⟩
 replace Z1 := Lib.hid (blk_next hb2 Z1.out)
 replace N1 := Lib.hid (Bgo N1.out hb2)
 have wl : w.heap.size < w2.heap.size := blk_lt Z1.out
 clear hb2
 go_wp2_with fail
 have XB : Hid ((((w2.alloc (.cells #[.int .u64 (x0 : Int), .int .u64 (x1 : Int), .int .u64 0, .int .u64 0] 110)).alloc (.cells #[.int .u64 (y0 : Int), .int .u64 (y1 : Int), .int .u64 0, .int .u64 0] 110)).alloc (.cells #[.int .u64 0, .int .u64 0, .int .u64 0, .int .u64 0] 110)).heap[w2.heap.size]? = some (.cells #[.int .u64 (x0 : Int), .int .u64 (x1 : Int), .int .u64 0, .int .u64 0] 110)) := Lib.hid (blk_alloc (blk_alloc (blk_new w2 _) _) _)
 have YB := Lib.hid (blk3b w2 (.cells #[.int .u64 (x0 : Int), .int .u64 (x1 : Int), .int .u64 0, .int .u64 0] 110) (.cells #[.int .u64 (y0 : Int), .int .u64 (y1 : Int), .int .u64 0, .int .u64 0] 110) (.cells #[.int .u64 0, .int .u64 0, .int .u64 0, .int .u64 0] 110))
 have OB := Lib.hid (blk3c w2 (.cells #[.int .u64 (x0 : Int), .int .u64 (x1 : Int), .int .u64 0, .int .u64 0] 110) (.cells #[.int .u64 (y0 : Int), .int .u64 (y1 : Int), .int .u64 0, .int .u64 0] 110) (.cells #[.int .u64 0, .int .u64 0, .int .u64 0, .int .u64 0] 110))
 have ZB := Lib.hid (blk_alloc (blk_alloc (blk_alloc Z1.out (.cells #[.int .u64 (x0 : Int), .int .u64 (x1 : Int), .int .u64 0, .int .u64 0] 110)) (.cells #[.int .u64 (y0 : Int), .int .u64 (y1 : Int), .int .u64 0, .int .u64 0] 110)) (.cells #[.int .u64 0, .int .u64 0, .int .u64 0, .int .u64 0] 110))
 have NB := Lib.hid (Bal (Bal (Bal N1.out (.cells #[.int .u64 (x0 : Int), .int .u64 (x1 : Int), .int .u64 0, .int .u64 0] 110)) (.cells #[.int .u64 (y0 : Int), .int .u64 (y1 : Int), .int .u64 0, .int .u64 0] 110)) (.cells #[.int .u64 0, .int .u64 0, .int .u64 0, .int .u64 0] 110))
 generalize ((w2.alloc (.cells #[.int .u64 (x0 : Int), .int .u64 (x1 : Int), .int .u64 0, .int .u64 0] 110)).alloc (.cells #[.int .u64 (y0 : Int), .int .u64 (y1 : Int), .int .u64 0, .int .u64 0] 110)).alloc (.cells #[.int .u64 0, .int .u64 0, .int .u64 0, .int .u64 0] 110) = W at *
 have e1 : Hid (w2.heap.size + 1 + 1 ≠ w2.heap.size) := Lib.hid (by omega)
 have e2 : Hid (w2.heap.size + 1 + 1 ≠ w2.heap.size + 1) := Lib.hid (by omega)
 have e3 : Hid (w2.heap.size + 1 + 1 ≠ w.heap.size) := Lib.hid (by omega)
 have e4 : Hid (w.heap.size ≤ w2.heap.size + 1 + 1) := Lib.hid (by omega)
 generalize w2.heap.size + 1 + 1 = go at *
 generalize w2.heap.size + 1 = gy at *
 generalize w2.heap.size = gx at *
 clear Z1 N1 wl
 go_loopw [8] (fun i wr => ∃ r : Nat, i = .int .i64 r ∧ Hid (Below w.heap.size w wr) ∧ Hid (wr.heap[gx]? = some (.cells #[.int .u64 (x0 : Int), .int .u64 (x1 : Int), .int .u64 0, .int .u64 0] 110)) ∧ Hid (wr.heap[gy]? = some (.cells #[.int .u64 (y0 : Int), .int .u64 (y1 : Int), .int .u64 0, .int .u64 0] 110)) ∧ Hid (wr.heap[w.heap.size]? = some (.cells #[.int .u64 0, .int .u64 0, .int .u64 0, .int .u64 0] 110)) ∧ ((r = 0 ∧ Hid (wr.heap[go]? = some (.cells #[.int .u64 0, .int .u64 0, .int .u64 0, .int .u64 0] 110))) ∨ (r = 1 ∧ Hid (wr.heap[go]? = some (.cells #[.int .u64 (o0 : Int), .int .u64 (o1 : Int), .int .u64 (k1 : Int), .int .u64 0] 110))) ∨ (r = 2 ∧ Hid (wr.heap[go]? = some (.cells #[.int .u64 (o0 : Int), .int .u64 (p1 : Int), .int .u64 (p2 : Int), .int .u64 (p3 : Int)] 110))))) (fun i _ => 2 - (intOf i).toNat)
 case atStart => exact ⟨0, rfl, NB, XB, YB, ZB, .inl ⟨rfl, OB⟩⟩
 case round =>
  clear NB XB YB ZB OB
  obtain ⟨r, rfl, NB, XB, YB, ZB, (⟨rfl, OB⟩ | ⟨rfl, OB⟩ | ⟨rfl, OB⟩)⟩ := hrel
  ·obtain ⟨wo, rfl⟩ : ∃ wo : World, wo = wr := ⟨_, rfl⟩
   go_wp2_with fail
   go_loopw [9, 10] (fun c k wr => ∃ s : Nat, k = .int .i64 s ∧ Hid (Below w.heap.size w wr) ∧ Hid (wr.heap[gx]? = some (.cells #[.int .u64 (x0 : Int), .int .u64 (x1 : Int), .int .u64 0, .int .u64 0] 110)) ∧ Hid (wr.heap[gy]? = some (.cells #[.int .u64 (y0 : Int), .int .u64 (y1 : Int), .int .u64 0, .int .u64 0] 110)) ∧ Hid (wr.heap[w.heap.size]? = some (.cells #[.int .u64 0, .int .u64 0, .int .u64 0, .int .u64 0] 110)) ∧ ((s = 0 ∧ c = .int .u64 0 ∧ Hid (wr.heap[go]? = some (.cells #[.int .u64 0, .int .u64 0, .int .u64 0, .int .u64 0] 110))) ∨ (s = 1 ∧ c = .int .u64 (k0 : Int) ∧ Hid (wr.heap[go]? = some (.cells #[.int .u64 (o0 : Int), .int .u64 0, .int .u64 0, .int .u64 0] 110))) ∨ (s = 2 ∧ c = .int .u64 (k1 : Int) ∧ Hid (wr.heap[go]? = some (.cells #[.int .u64 (o0 : Int), .int .u64 (o1 : Int), .int .u64 0, .int .u64 0] 110))))) (fun _ k _ => 2 - (intOf k).toNat)
   case atStart => exact ⟨0, rfl, NB, XB, YB, ZB, .inl ⟨rfl, rfl, OB⟩⟩
   case round =>
    clear NB XB YB ZB OB
    obtain ⟨s, rfl, NB, XB, YB, ZB, (⟨rfl, rfl, OB⟩ | ⟨rfl, rfl, OB⟩ | ⟨rfl, rfl, OB⟩)⟩ := hrel
    ·have ox := blk_cell OB.out 0 _ rfl
     have xx := blk_cell XB.out 0 _ rfl
     have yy := blk_cell YB.out 0 _ rfl
     have og := blk_lt OB.out
     have of_ := blk_frozen OB.out 0
     go_wp2_with fail
     go_quiet (fail)
     go_wp2_with fail
     refine ⟨⟨1, rfl, Lib.hid (Bset1 (below_drewN NB.out nq) e4.out 0 _), Lib.hid (blk_set_other XB.out e1.out 0 _), Lib.hid (blk_set_other YB.out e2.out 0 _), Lib.hid (blk_set_other ZB.out e3.out 0 _), .inr (.inl ⟨rfl, rfl, Lib.hid (blk_set OB.out 0 (.int .u64 (o0 : Int)))⟩)⟩, by simp [intOf]⟩
    ·have ox := blk_cell OB.out 1 _ rfl
     have xx := blk_cell XB.out 0 _ rfl
     have yy := blk_cell YB.out 1 _ rfl
     have og := blk_lt OB.out
     have of_ := blk_frozen OB.out 1
     go_wp2_with fail
     go_quiet (fail)
     go_wp2_with fail
     refine ⟨⟨2, rfl, Lib.hid (Bset1 (below_drewN NB.out nq) e4.out 1 _), Lib.hid (blk_set_other XB.out e1.out 1 _), Lib.hid (blk_set_other YB.out e2.out 1 _), Lib.hid (blk_set_other ZB.out e3.out 1 _), .inr (.inr ⟨rfl, rfl, Lib.hid (blk_set OB.out 1 (.int .u64 (o1 : Int)))⟩)⟩, by simp [intOf]⟩
    ·have ox := blk_cell OB.out 2 _ rfl
     have og := blk_lt OB.out
     have of_ := blk_frozen OB.out 2
     go_wp2_with fail
     go_roundw
     case rel => exact ⟨1, rfl, Lib.hid (Bset1 NB.out e4.out 2 _), Lib.hid (blk_set_other XB.out e1.out 2 _), Lib.hid (blk_set_other YB.out e2.out 2 _), Lib.hid (blk_set_other ZB.out e3.out 2 _), .inr (.inl ⟨rfl, Lib.hid (blk_set OB.out 2 (.int .u64 (k1 : Int)))⟩)⟩
     case measure => simp [intOf]
  ·obtain ⟨wo, rfl⟩ : ∃ wo : World, wo = wr := ⟨_, rfl⟩
   go_wp2_with fail
   go_loopw [9, 10] (fun c k wr => ∃ s : Nat, k = .int .i64 s ∧ Hid (Below w.heap.size w wr) ∧ Hid (wr.heap[gx]? = some (.cells #[.int .u64 (x0 : Int), .int .u64 (x1 : Int), .int .u64 0, .int .u64 0] 110)) ∧ Hid (wr.heap[gy]? = some (.cells #[.int .u64 (y0 : Int), .int .u64 (y1 : Int), .int .u64 0, .int .u64 0] 110)) ∧ Hid (wr.heap[w.heap.size]? = some (.cells #[.int .u64 0, .int .u64 0, .int .u64 0, .int .u64 0] 110)) ∧ ((s = 0 ∧ c = .int .u64 0 ∧ Hid (wr.heap[go]? = some (.cells #[.int .u64 (o0 : Int), .int .u64 (o1 : Int), .int .u64 (k1 : Int), .int .u64 0] 110))) ∨ (s = 1 ∧ c = .int .u64 (k2 : Int) ∧ Hid (wr.heap[go]? = some (.cells #[.int .u64 (o0 : Int), .int .u64 (p1 : Int), .int .u64 (k1 : Int), .int .u64 0] 110))) ∨ (s = 2 ∧ c = .int .u64 (p3 : Int) ∧ Hid (wr.heap[go]? = some (.cells #[.int .u64 (o0 : Int), .int .u64 (p1 : Int), .int .u64 (p2 : Int), .int .u64 0] 110))))) (fun _ k _ => 2 - (intOf k).toNat)
   case atStart => exact ⟨0, rfl, NB, XB, YB, ZB, .inl ⟨rfl, rfl, OB⟩⟩
   case round =>
    clear NB XB YB ZB OB
    obtain ⟨s, rfl, NB, XB, YB, ZB, (⟨rfl, rfl, OB⟩ | ⟨rfl, rfl, OB⟩ | ⟨rfl, rfl, OB⟩)⟩ := hrel
    ·have ox := blk_cell OB.out 1 _ rfl
     have xx := blk_cell XB.out 1 _ rfl
     have yy := blk_cell YB.out 0 _ rfl
     have og := blk_lt OB.out
     have of_ := blk_frozen OB.out 1
     go_wp2_with fail
     go_quiet (fail)
     go_wp2_with fail
     refine ⟨⟨1, rfl, Lib.hid (Bset1 (below_drewN NB.out nq) e4.out 1 _), Lib.hid (blk_set_other XB.out e1.out 1 _), Lib.hid (blk_set_other YB.out e2.out 1 _), Lib.hid (blk_set_other ZB.out e3.out 1 _), .inr (.inl ⟨rfl, rfl, Lib.hid (blk_set OB.out 1 (.int .u64 (p1 : Int)))⟩)⟩, by simp [intOf]⟩
    ·have ox := blk_cell OB.out 2 _ rfl
     have xx := blk_cell XB.out 1 _ rfl
     have yy := blk_cell YB.out 1 _ rfl
     have og := blk_lt OB.out
     have of_ := blk_frozen OB.out 2
     go_wp2_with fail
     go_quiet (fail)
     go_wp2_with fail
     refine ⟨⟨2, rfl, Lib.hid (Bset1 (below_drewN NB.out nq) e4.out 2 _), Lib.hid (blk_set_other XB.out e1.out 2 _), Lib.hid (blk_set_other YB.out e2.out 2 _), Lib.hid (blk_set_other ZB.out e3.out 2 _), .inr (.inr ⟨rfl, rfl, Lib.hid (blk_set OB.out 2 (.int .u64 (p2 : Int)))⟩)⟩, by simp [intOf]⟩
    ·have ox := blk_cell OB.out 3 _ rfl
     have og := blk_lt OB.out
     have of_ := blk_frozen OB.out 3
     go_wp2_with fail
     go_roundw
     case rel => exact ⟨2, rfl, Lib.hid (Bset1 NB.out e4.out 3 _), Lib.hid (blk_set_other XB.out e1.out 3 _), Lib.hid (blk_set_other YB.out e2.out 3 _), Lib.hid (blk_set_other ZB.out e3.out 3 _), .inr (.inr ⟨rfl, Lib.hid (blk_set OB.out 3 (.int .u64 (p3 : Int)))⟩)⟩
     case measure => simp [intOf]
  ·have z0 := blk_cell OB.out 0 _ rfl
   have z1 := blk_cell OB.out 1 _ rfl
   have z2 := blk_cell OB.out 2 _ rfl
   have z3 := blk_cell OB.out 3 _ rfl
   have y0 := blk_cell ZB.out 0 _ rfl
   have f0 := blk_frozen ZB.out 0
   have y1 := blk_cell ZB.out 1 _ rfl
   have f1 := blk_frozen ZB.out 1
   have y2 := blk_cell ZB.out 2 _ rfl
   have f2 := blk_frozen ZB.out 2
   have y3 := blk_cell ZB.out 3 _ rfl
   have f3 := blk_frozen ZB.out 3
   have gl := blk_lt ZB.out
   have ol := blk_lt OB.out
   go_wp2_with fail
   have Z := blk_set (blk_set (blk_set (blk_set ZB.out 0 (.int .u64 (o0 : Int))) 1 (.int .u64 (p1 : Int))) 2 (.int .u64 (p2 : Int))) 3 (.int .u64 (p3 : Int))
   have g0 := blk_cell Z 0 _ rfl
   have g1 := blk_cell Z 1 _ rfl
   have g2 := blk_cell Z 2 _ rfl
   have g3 := blk_cell Z 3 _ rfl
   refine bodyPost_ret (v := Bv o0 p1 p2 p3) (by simp [results, Try.results74, go_sem, g0, g1, g2, g3]) rfl ⟨by rw [FIN.out], Bset1 (Bset1 (Bset1 (Bset1 NB.out (Nat.le_refl _) _ _) (Nat.le_refl _) _ _) (Nat.le_refl _) _ _) (Nat.le_refl _) _ _⟩
end Go.Proofs.Ytbbnkclajpaghaa
namespace Go.Proofs.Ytbbnkclajpaghaa
open Go.ChangeShapes Go.WideShapes Go.ChangeAt Go.RowKit
set_option linter.unusedVariables false
set_option maxRecDepth 100000
attribute [local go_sem ↓] Go.wp_at_zero Go.wp_at_succ
theorem PK.keepZ {w W : World} {an ad bn bd : Int} (h : PK w W an ad bn bd) (x y : Value) : ((W.setCell ⟨w.heap.size + 1 + 1, 0, none⟩ x).setCell ⟨w.heap.size + 1 + 1, 1, none⟩ y).cell? ⟨w.heap.size, 0, none⟩ = some (.int .i64 an) ∧ ((W.setCell ⟨w.heap.size + 1 + 1, 0, none⟩ x).setCell ⟨w.heap.size + 1 + 1, 1, none⟩ y).cell? ⟨w.heap.size, 1, none⟩ = some (.int .i64 ad) ∧ ((W.setCell ⟨w.heap.size + 1 + 1, 0, none⟩ x).setCell ⟨w.heap.size + 1 + 1, 1, none⟩ y).cell? ⟨w.heap.size + 1, 0, none⟩ = some (.int .i64 bn) ∧ ((W.setCell ⟨w.heap.size + 1 + 1, 0, none⟩ x).setCell ⟨w.heap.size + 1 + 1, 1, none⟩ y).cell? ⟨w.heap.size + 1, 1, none⟩ = some (.int .i64 bd) :=
 have ha := blk_set_other (blk_set_other h.a (show w.heap.size + 1 + 1 ≠ w.heap.size by omega) 0 x) (show w.heap.size + 1 + 1 ≠ w.heap.size by omega) 1 y
 have hb := blk_set_other (blk_set_other h.b (show w.heap.size + 1 + 1 ≠ w.heap.size + 1 by omega) 0 x) (show w.heap.size + 1 + 1 ≠ w.heap.size + 1 by omega) 1 y
 ⟨blk_cell ha 0 _ rfl, blk_cell ha 1 _ rfl, blk_cell hb 0 _ rfl, blk_cell hb 1 _ rfl⟩
structure VF (n d : Int) : Prop where
 d1 : 1 ≤ d
 d2 : d ≤ 1000000000000000000
 n1 : -1000000000000000000 ≤ n
 n2 : n ≤ 1000000000000000000
 g : Nat.gcd n.natAbs d.natAbs = 1
theorem errF_ok {n d : Int} (h : errF n d = 0) : VF n d := by
 unfold errF at h
 by_cases c : okF n d = true
 ·unfold okF at c
  rw [Bool.and_eq_true, decide_eq_true_eq, beq_iff_eq] at c
  exact ⟨c.1.1, c.1.2.1, c.1.2.2.1, c.1.2.2.2, c.2⟩
 ·rw [if_neg c] at h; cases h
theorem VF.err {n d : Int} (h : VF n d) : errF n d = 0 := by
 rw [errF_in ⟨h.d1, h.d2, h.n1, h.n2⟩, h.g]; rfl
theorem errB_ok {an ad bn bd : Int} (h : errB an ad bn bd = 0) : VF an ad ∧ VF bn bd := by
 unfold errB at h
 by_cases c : errF an ad ≠ 0
 ·rw [if_pos c] at h; exact absurd h c
 ·rw [if_neg c] at h
  exact ⟨errF_ok (by simpa using c), errF_ok h⟩
theorem VF.both {an ad bn bd : Int} (h : VF an ad) (k : VF bn bd) : errB an ad bn bd = 0 := by
 unfold errB; rw [if_neg (by rw [h.err]; decide)]; exact k.err
theorem sm4_prod {a b : Nat} (ha : a ≤ 1000000000000000000) (hb : b ≤ 1000000000000000000) : sm4 (a * b) := by
 have h := Nat.mul_le_mul ha hb
 unfold sm4
 generalize a * b = p at *
 omega
def mulR (an ad bn bd : Int) : Int × Int × Int := if errB an ad bn bd = 0 then mulF an ad bn bd else (0, 0, errB an ad bn bd)
def divR (an ad bn bd : Int) : Int × Int × Int := if errB an ad bn bd = 0 then (if bn = 0 then (0, 0, 18) else if bn < 0 then mulF an ad (-bd) (-bn) else mulF an ad bd bn) else (0, 0, errB an ad bn bd)
theorem VF.over {n d : Int} (h : VF n d) : (n < 0 → VF (-d) (-n)) ∧ (0 < n → VF d n) := by
 have g2 : Nat.gcd d.natAbs n.natAbs = 1 := by rw [Nat.gcd_comm]; exact h.g
 have := h.d1
 have := h.d2
 have := h.n1
 have := h.n2
 refine ⟨fun hn => ⟨by omega, by omega, by omega, by omega, ?_⟩, fun hn => ⟨by omega, by omega, by omega, by omega, g2⟩⟩
 rw [Int.natAbs_neg, Int.natAbs_neg]; exact g2
set_option maxRecDepth 100000 in
set_option maxHeartbeats 8000000 in
theorem mul_calls (an ad bn bd : Int) (w : World) :
  Calls Try.prog 66 #[Fv an ad, Fv bn bd] w fun e w' => e = .returned (Rv (mulR an ad bn bd)) ∧ Below w.heap.size w w' := by
 have C1 := Lib.hid (fun W => both_calls an ad bn bd W)
 by_cases ck : errB an ad bn bd = 0
 rotate_left
 ·have F : Hid (mulR an ad bn bd = (0, 0, errB an ad bn bd)) := Lib.hid (by unfold mulR; rw [if_neg ck])
  have ck' : (errB an ad bn bd != 0) = true := by rw [bne_iff_ne]; exact ck
  generalize mulR an ad bn bd = res at *
  generalize errB an ad bn bd = er at *
  clear ck
  go_enter Try.func66, Try.ntmps66
  go_wp2_with fail
  refine (C1.out _).mono ?_
  rintro e w1 ⟨rfl, hb⟩
  have K := Lib.hid ((PK.init w an ad bn bd).next hb)
  clear hb
  have z0 := blk_cell K.out.z 0 _ rfl
  have z1 := blk_cell K.out.z 1 _ rfl
  have f0 := blk_frozen K.out.z 0
  have f1 := blk_frozen K.out.z 1
  go_wp2_with fail
  have e1 := blk_cell (blk_set (blk_set K.out.z 0 (.int .i64 0)) 1 (.int .i64 0)) 0 _ rfl
  have e2 := blk_cell (blk_set (blk_set K.out.z 0 (.int .i64 0)) 1 (.int .i64 0)) 1 _ rfl
  refine bodyPost_ret (v := .tuple #[Fv 0 0, .int .i64 er]) (by simp [results, Try.results66, go_sem, e1, e2]) rfl ⟨by rw [F.out], Bset1 (Bset1 K.out.n (by omega) _ _) (by omega) _ _⟩
 ·have F : Hid (mulR an ad bn bd = mulF an ad bn bd) := Lib.hid (by unfold mulR; rw [if_pos ck])
  obtain ⟨va, vb⟩ := errB_ok ck
  rw [ck] at C1
  have PC := Lib.hid (fun W => product_calls an ad bn bd W (by have := va.n1; omega) (by have := va.n2; omega) va.d1 (by have := va.d2; omega) (by have := vb.n1; omega) (by have := vb.n2; omega) vb.d1 (by have := vb.d2; omega))
  generalize mulR an ad bn bd = res at *
  generalize mulF an ad bn bd = r at *
  obtain ⟨r1, r2, r3⟩ := r
  clear ck va vb
  go_enter Try.func66, Try.ntmps66
  go_wp2_with fail
  refine (C1.out _).mono ?_
  rintro e w1 ⟨rfl, hb⟩
  have K := Lib.hid ((PK.init w an ad bn bd).next hb)
  clear hb
  have a0 := blk_cell K.out.a 0 _ rfl
  have a1 := blk_cell K.out.a 1 _ rfl
  have b0 := blk_cell K.out.b 0 _ rfl
  have b1 := blk_cell K.out.b 1 _ rfl
  go_wp2_with fail
  refine (PC.out _).mono ?_
  rintro e w2 ⟨rfl, hb⟩
  replace K := Lib.hid (K.out.next hb)
  clear hb
  clear a0 a1 b0 b1
  have z0 := blk_cell K.out.z 0 _ rfl
  have z1 := blk_cell K.out.z 1 _ rfl
  have f0 := blk_frozen K.out.z 0
  have f1 := blk_frozen K.out.z 1
  go_wp2_with fail
  have e1 := blk_cell (blk_set (blk_set K.out.z 0 (.int .i64 r1)) 1 (.int .i64 r2)) 0 _ rfl
  have e2 := blk_cell (blk_set (blk_set K.out.z 0 (.int .i64 r1)) 1 (.int .i64 r2)) 1 _ rfl
  refine bodyPost_ret (v := .tuple #[Fv r1 r2, .int .i64 r3]) (by simp [results, Try.results66, go_sem, e1, e2]) rfl ⟨by rw [F.out], Bset1 (Bset1 K.out.n (by omega) _ _) (by omega) _ _⟩
set_option maxRecDepth 100000 in
set_option maxHeartbeats 8000000 in
theorem div_calls (an ad bn bd : Int) (w : World) :
  Calls Try.prog 68 #[Fv an ad, Fv bn bd] w fun e w' => e = .returned (Rv (divR an ad bn bd)) ∧ Below w.heap.size w w' := by
 have C1 := Lib.hid (fun W => both_calls an ad bn bd W)
 by_cases ck : errB an ad bn bd = 0
 rotate_left
 ·have F : Hid (divR an ad bn bd = (0, 0, errB an ad bn bd)) := Lib.hid (by unfold divR; rw [if_neg ck])
  have ck' : (errB an ad bn bd != 0) = true := by rw [bne_iff_ne]; exact ck
  generalize divR an ad bn bd = res at *
  generalize errB an ad bn bd = er at *
  clear ck
  go_enter Try.func68, Try.ntmps68
  go_wp2_with fail
  refine (C1.out _).mono ?_
  rintro e w1 ⟨rfl, hb⟩
  have K := Lib.hid ((PK.init w an ad bn bd).next hb)
  clear hb
  have z0 := blk_cell K.out.z 0 _ rfl
  have z1 := blk_cell K.out.z 1 _ rfl
  have f0 := blk_frozen K.out.z 0
  have f1 := blk_frozen K.out.z 1
  go_wp2_with fail
  have e1 := blk_cell (blk_set (blk_set K.out.z 0 (.int .i64 0)) 1 (.int .i64 0)) 0 _ rfl
  have e2 := blk_cell (blk_set (blk_set K.out.z 0 (.int .i64 0)) 1 (.int .i64 0)) 1 _ rfl
  refine bodyPost_ret (v := .tuple #[Fv 0 0, .int .i64 er]) (by simp [results, Try.results68, go_sem, e1, e2]) rfl ⟨by rw [F.out], Bset1 (Bset1 K.out.n (by omega) _ _) (by omega) _ _⟩
 ·obtain ⟨va, vb⟩ := errB_ok ck
  rw [ck] at C1
  have F0 : Hid (divR an ad bn bd = if bn = 0 then (0, 0, 18) else if bn < 0 then mulF an ad (-bd) (-bn) else mulF an ad bd bn) := Lib.hid (by unfold divR; rw [if_pos ck])
  generalize divR an ad bn bd = res at *
  have d1 := va.d1
  have d2 := va.d2
  have d3 := vb.d1
  have d4 := vb.d2
  have d5 := va.n1
  have d6 := va.n2
  have d7 := vb.n1
  have d8 := vb.n2
  clear ck va vb
  by_cases bz : bn = 0
  ·have F : Hid (res = (0, 0, 18)) := Lib.hid (by rw [F0.out, if_pos bz])
   have bz' : (bn == 0) = true := by rw [bz]; rfl
   clear bz F0
   go_enter Try.func68, Try.ntmps68
   go_wp2_with fail
   refine (C1.out _).mono ?_
   rintro e w1 ⟨rfl, hb⟩
   have K := Lib.hid ((PK.init w an ad bn bd).next hb)
   clear hb
   have a0 := blk_cell K.out.a 0 _ rfl
   have a1 := blk_cell K.out.a 1 _ rfl
   have b0 := blk_cell K.out.b 0 _ rfl
   have b1 := blk_cell K.out.b 1 _ rfl
   have z0 := blk_cell K.out.z 0 _ rfl
   have z1 := blk_cell K.out.z 1 _ rfl
   have f0 := blk_frozen K.out.z 0
   have f1 := blk_frozen K.out.z 1
   go_wp2_with fail
   have e1 := blk_cell (blk_set (blk_set K.out.z 0 (.int .i64 0)) 1 (.int .i64 0)) 0 _ rfl
   have e2 := blk_cell (blk_set (blk_set K.out.z 0 (.int .i64 0)) 1 (.int .i64 0)) 1 _ rfl
   refine bodyPost_ret (v := .tuple #[Fv 0 0, .int .i64 18]) (by simp [results, Try.results68, go_sem, e1, e2]) rfl ⟨by rw [F.out], Bset1 (Bset1 K.out.n (by omega) _ _) (by omega) _ _⟩
  have bz' : (bn == 0) = false := by rw [beq_eq_false_iff_ne]; exact bz
  by_cases bn0 : bn < 0
  ·have F : Hid (res = mulF an ad (-bd) (-bn)) := Lib.hid (by rw [F0.out, if_neg bz, if_pos bn0])
   have PC := Lib.hid (fun W => product_calls an ad (-bd) (-bn) W (by omega) (by omega) (by omega) (by omega) (by omega) (by omega) (by omega) (by omega))
   generalize mulF an ad (-bd) (-bn) = r at *
   obtain ⟨r1, r2, r3⟩ := r
   clear bz F0
   go_enter Try.func68, Try.ntmps68
   go_wp2_with fail
   refine (C1.out _).mono ?_
   rintro e w1 ⟨rfl, hb⟩
   have K := Lib.hid ((PK.init w an ad bn bd).next hb)
   clear hb
   have a0 := blk_cell K.out.a 0 _ rfl
   have a1 := blk_cell K.out.a 1 _ rfl
   have b0 := blk_cell K.out.b 0 _ rfl
   have b1 := blk_cell K.out.b 1 _ rfl
   have kl := blk_lt K.out.a
   have kl2 := blk_lt K.out.b
   go_wp2_with fail
   refine (PC.out _).mono ?_
   rintro e w2 ⟨rfl, hb⟩
   replace K : Hid (PK w w2 an ad bn bd) := Lib.hid (K.out.next (Bgo (Bal (Below.refl _ _) _) hb))
   clear hb kl kl2
   clear a0 a1 b0 b1
   have z0 := blk_cell K.out.z 0 _ rfl
   have z1 := blk_cell K.out.z 1 _ rfl
   have f0 := blk_frozen K.out.z 0
   have f1 := blk_frozen K.out.z 1
   go_wp2_with fail
   have e1 := blk_cell (blk_set (blk_set K.out.z 0 (.int .i64 r1)) 1 (.int .i64 r2)) 0 _ rfl
   have e2 := blk_cell (blk_set (blk_set K.out.z 0 (.int .i64 r1)) 1 (.int .i64 r2)) 1 _ rfl
   refine bodyPost_ret (v := .tuple #[Fv r1 r2, .int .i64 r3]) (by simp [results, Try.results68, go_sem, e1, e2]) rfl ⟨by rw [F.out], Bset1 (Bset1 K.out.n (by omega) _ _) (by omega) _ _⟩
  ·have F : Hid (res = mulF an ad bd bn) := Lib.hid (by rw [F0.out, if_neg bz, if_neg bn0])
   have PC := Lib.hid (fun W => product_calls an ad bd bn W (by omega) (by omega) (by omega) (by omega) (by omega) (by omega) (by omega) (by omega))
   generalize mulF an ad bd bn = r at *
   obtain ⟨r1, r2, r3⟩ := r
   clear bz F0
   go_enter Try.func68, Try.ntmps68
   go_wp2_with fail
   refine (C1.out _).mono ?_
   rintro e w1 ⟨rfl, hb⟩
   have K := Lib.hid ((PK.init w an ad bn bd).next hb)
   clear hb
   have a0 := blk_cell K.out.a 0 _ rfl
   have a1 := blk_cell K.out.a 1 _ rfl
   have b0 := blk_cell K.out.b 0 _ rfl
   have b1 := blk_cell K.out.b 1 _ rfl
   have kl := blk_lt K.out.a
   have kl2 := blk_lt K.out.b
   go_wp2_with fail
   refine (PC.out _).mono ?_
   rintro e w2 ⟨rfl, hb⟩
   replace K : Hid (PK w w2 an ad bn bd) := Lib.hid (K.out.next (Bgo (Bal (Below.refl _ _) _) hb))
   clear hb kl kl2
   clear a0 a1 b0 b1
   have z0 := blk_cell K.out.z 0 _ rfl
   have z1 := blk_cell K.out.z 1 _ rfl
   have f0 := blk_frozen K.out.z 0
   have f1 := blk_frozen K.out.z 1
   go_wp2_with fail
   have e1 := blk_cell (blk_set (blk_set K.out.z 0 (.int .i64 r1)) 1 (.int .i64 r2)) 0 _ rfl
   have e2 := blk_cell (blk_set (blk_set K.out.z 0 (.int .i64 r1)) 1 (.int .i64 r2)) 1 _ rfl
   refine bodyPost_ret (v := .tuple #[Fv r1 r2, .int .i64 r3]) (by simp [results, Try.results68, go_sem, e1, e2]) rfl ⟨by rw [F.out], Bset1 (Bset1 K.out.n (by omega) _ _) (by omega) _ _⟩
set_option maxRecDepth 100000 in
set_option maxHeartbeats 8000000 in
theorem refMul_calls (an ad bn bd : Int) (w : World) :
  Calls Try.prog 56 #[Fv an ad, Fv bn bd] w fun e w' => e = .returned (Rv (mulR an ad bn bd)) ∧ Below w.heap.size w w' := by
 have C1 := Lib.hid (fun W => refBoth_calls an ad bn bd W)
 by_cases ck : errB an ad bn bd = 0
 rotate_left
 ·have F : Hid (mulR an ad bn bd = (0, 0, errB an ad bn bd)) := Lib.hid (by unfold mulR; rw [if_neg ck])
  have ck' : (errB an ad bn bd != 0) = true := by rw [bne_iff_ne]; exact ck
  generalize mulR an ad bn bd = res at *
  generalize errB an ad bn bd = er at *
  clear ck
  go_enter Try.func56, Try.ntmps56
  go_wp2_with fail
  refine (C1.out _).mono ?_
  rintro e w1 ⟨rfl, hb⟩
  have K := Lib.hid ((PK.init w an ad bn bd).next hb)
  clear hb
  have a0 := blk_cell K.out.a 0 _ rfl
  have a1 := blk_cell K.out.a 1 _ rfl
  have b0 := blk_cell K.out.b 0 _ rfl
  have b1 := blk_cell K.out.b 1 _ rfl
  go_wp2_with fail
  refine (C1.out _).mono ?_
  rintro e w2 ⟨rfl, hb⟩
  replace K := Lib.hid (K.out.next hb)
  clear hb
  clear a0 a1 b0 b1
  have z0 := blk_cell K.out.z 0 _ rfl
  have z1 := blk_cell K.out.z 1 _ rfl
  have f0 := blk_frozen K.out.z 0
  have f1 := blk_frozen K.out.z 1
  go_wp2_with fail
  have e1 := blk_cell (blk_set (blk_set K.out.z 0 (.int .i64 0)) 1 (.int .i64 0)) 0 _ rfl
  have e2 := blk_cell (blk_set (blk_set K.out.z 0 (.int .i64 0)) 1 (.int .i64 0)) 1 _ rfl
  refine bodyPost_ret (v := .tuple #[Fv 0 0, .int .i64 er]) (by simp [results, Try.results56, go_sem, e1, e2]) rfl ⟨by rw [F.out], Bset1 (Bset1 K.out.n (by omega) _ _) (by omega) _ _⟩
 ·obtain ⟨va, vb⟩ := errB_ok ck
  rw [ck] at C1
  have F : Hid (mulR an ad bn bd = lowF (decide (an < 0) != decide (bn < 0)) ((an.natAbs / Nat.gcd an.natAbs bd.natAbs) * (bn.natAbs / Nat.gcd bn.natAbs ad.natAbs)) ((ad.natAbs / Nat.gcd bn.natAbs ad.natAbs) * (bd.natAbs / Nat.gcd an.natAbs bd.natAbs))) := Lib.hid (by unfold mulR; rw [if_pos ck]; rfl)
  generalize mulR an ad bn bd = res at *
  have d1 := va.d1
  have d2 := va.d2
  have d3 := vb.d1
  have d4 := vb.d2
  have d5 := va.n1
  have d6 := va.n2
  have d7 := vb.n1
  have d8 := vb.n2
  clear ck va vb
  have S1 := Lib.hid (fun W => abs_calls an W (by omega) (by omega))
  have S3 := Lib.hid (fun W => abs_calls bn W (by omega) (by omega))
  have hx : an.natAbs ≤ 1000000000000000000 := by omega
  have hu : bn.natAbs ≤ 1000000000000000000 := by omega
  have hg0 : 0 < Nat.gcd an.natAbs bd.natAbs := Nat.gcd_pos_of_pos_right _ (by omega)
  have hh0 : 0 < Nat.gcd bn.natAbs ad.natAbs := Nat.gcd_pos_of_pos_right _ (by omega)
  obtain ⟨y, rfl⟩ := Int.eq_ofNat_of_zero_le (show 0 ≤ ad by omega)
  obtain ⟨v, rfl⟩ := Int.eq_ofNat_of_zero_le (show 0 ≤ bd by omega)
  simp only [Int.natAbs_natCast] at F hg0 hh0
  generalize an.natAbs = x at *
  generalize bn.natAbs = u at *
  have G1 := Lib.hid (fun W => refGcd_calls x v W (by omega) (by omega))
  have G2 := Lib.hid (fun W => refGcd_calls u y W (by omega) (by omega))
  generalize Nat.gcd x v = g at *
  generalize Nat.gcd u y = h at *
  have t1 := tdivN x g
  have t2 := tdivN u h
  have t3 := tdivN y h
  have t4 := tdivN v g
  have l1 : x / g ≤ 1000000000000000000 := Nat.le_trans (Nat.div_le_self _ _) hx
  have l2 : u / h ≤ 1000000000000000000 := Nat.le_trans (Nat.div_le_self _ _) hu
  have l3 : y / h ≤ 1000000000000000000 := Nat.le_trans (Nat.div_le_self _ _) (by omega)
  have l4 : v / g ≤ 1000000000000000000 := Nat.le_trans (Nat.div_le_self _ _) (by omega)
  generalize x / g = x1 at *
  generalize u / h = u1 at *
  generalize y / h = y1 at *
  generalize v / g = v1 at *
  have M1 := Lib.hid (fun W => refProduct_calls x1 u1 W (by omega) (by omega))
  have M2 := Lib.hid (fun W => refProduct_calls y1 v1 W (by omega) (by omega))
  have q1 : sm4 (x1 * u1) := sm4_prod l1 l2
  have q2 : sm4 (y1 * v1) := sm4_prod l3 l4
  generalize x1 * u1 = P at *
  generalize y1 * v1 = Q at *
  have LC : Hid (∀ W, Calls Try.prog 71 #[.bool (!(decide (an < 0) == decide (bn < 0))), Dv P, Dv Q] W fun e w' => e = .returned (Rv (lowF (decide (an < 0) != decide (bn < 0)) P Q)) ∧ Below W.heap.size W w') := Lib.hid (fun W => by
   have := lowest_calls (decide (an < 0) != decide (bn < 0)) (dg P 0) (dg P 1) (dg P 2) (dg P 3) (dg Q 0) (dg Q 1) (dg Q 2) (dg Q 3) W (dg_lt _ _) (dg_lt _ _) (dg_lt _ _) (dg_lt _ _)
   rw [big_dg q1, big_dg q2] at this
   exact this)
  generalize lowF (decide (an < 0) != decide (bn < 0)) P Q = r at *
  obtain ⟨r1, r2, r3⟩ := r
  clear q1 q2
  have gp4 : ¬ g = 0 := by omega
  have hp4 : ¬ h = 0 := by omega
  have wx : IntKind.u64.wrap (x1 : Int) = (x1 : Int) := wrapN _ (by omega)
  have wu : IntKind.u64.wrap (u1 : Int) = (u1 : Int) := wrapN _ (by omega)
  have wy : IntKind.u64.wrap (y1 : Int) = (y1 : Int) := wrapN _ (by omega)
  have wv : IntKind.u64.wrap (v1 : Int) = (v1 : Int) := wrapN _ (by omega)
  have wy' : IntKind.u64.wrap (y : Int) = (y : Int) := wrapN _ (by omega)
  have wv' : IntKind.u64.wrap (v : Int) = (v : Int) := wrapN _ (by omega)
  go_enter Try.func56, Try.ntmps56
  go_wp2_with fail
  refine (C1.out _).mono ?_
  rintro e w1 ⟨rfl, hb⟩
  have K := Lib.hid ((PK.init w an y bn v).next hb)
  clear hb
  have a0 := blk_cell K.out.a 0 _ rfl
  have a1 := blk_cell K.out.a 1 _ rfl
  have b0 := blk_cell K.out.b 0 _ rfl
  have b1 := blk_cell K.out.b 1 _ rfl
  go_wp2_with fail
  go_quiet ((first | (go_at_call 70; (with_reducible exact quiet_left (S1.out _))) | (go_at_call 70; (with_reducible exact quiet_left (S3.out _))) | (go_at_call 69; (with_reducible exact quiet_more (G1.out _))) | (go_at_call 69; (with_reducible exact quiet_more (G2.out _)))))
  clear a0 a1 b0 b1
  replace K := Lib.hid (K.out.drewN nq)
  generalize w1.drewN nq = W at *
  go_wp2_with fail
  have KEEP : Hid (∀ X : World, Below W.heap.size W X → X.cell? ⟨w.heap.size, 0, none⟩ = some (.int .i64 an) ∧ X.cell? ⟨w.heap.size, 1, none⟩ = some (.int .i64 y) ∧ X.cell? ⟨w.heap.size + 1, 0, none⟩ = some (.int .i64 bn) ∧ X.cell? ⟨w.heap.size + 1, 1, none⟩ = some (.int .i64 v)) := Lib.hid (fun X hX => ⟨blk_cell (K.out.next hX).a 0 _ rfl, blk_cell (K.out.next hX).a 1 _ rfl, blk_cell (K.out.next hX).b 0 _ rfl, blk_cell (K.out.next hX).b 1 _ rfl⟩)
  obtain ⟨k1, k2, k3, k4⟩ := KEEP.out W (Below.refl _ _)
  go_region_held3 (fun X => X.cell? ⟨w.heap.size, 0, none⟩ = some (.int .i64 an) ∧ X.cell? ⟨w.heap.size, 1, none⟩ = some (.int .i64 y) ∧ X.cell? ⟨w.heap.size + 1, 0, none⟩ = some (.int .i64 bn) ∧ X.cell? ⟨w.heap.size + 1, 1, none⟩ = some (.int .i64 v))
   (first | (with_reducible exact KL.out.keepZ _ _) | (with_reducible exact KEEP.out _ BL.out) | (with_reducible exact KEEP.out _ BL.out.drew) | (with_reducible exact KEEP.out _ BQ.out) | (with_reducible exact KEEP.out _ BQ.out.drew) | (with_reducible exact KEEP.out _ BP.out) | (with_reducible exact KEEP.out _ BP.out.drew) | (with_reducible exact KEEP.out _ (Below.refl _ _)) | (with_reducible exact KEEP.out _ (Below.refl _ _).drew))
   (first
    | (go_at_call 70; (first | (with_reducible refine (S1.out _).mono ?_) | (with_reducible refine (S3.out _).mono ?_)); rintro e wa ⟨rfl, rfl⟩)
    | (go_at_call 74; (with_reducible refine (M1.out _).mono ?_); rintro e wp ⟨rfl, bp⟩; have BP : Hid (Below W.heap.size W wp) := Lib.hid (by first | (with_reducible exact bp) | (with_reducible exact undrewB bp)); clear bp)
    | (go_at_call 74; (with_reducible refine (M2.out _).mono ?_); rintro e wq ⟨rfl, bq⟩; have BQ : Hid (Below W.heap.size W wq) := Lib.hid (by first | (with_reducible exact Bgo BP.out bq) | (with_reducible exact Bgo BP.out (undrewB bq))); clear bq)
    | (go_at_call 71; (with_reducible refine (LC.out _).mono ?_); rintro e wl ⟨rfl, bl⟩; have BL : Hid (Below W.heap.size W wl) := Lib.hid (by first | (with_reducible exact Bgo BQ.out bl) | (with_reducible exact Bgo BQ.out (undrewB bl))); have KL := Lib.hid (K.out.next BL.out); have z0 := blk_cell KL.out.z 0 _ rfl; have z1 := blk_cell KL.out.z 1 _ rfl; have f0 := blk_frozen KL.out.z 0; have f1 := blk_frozen KL.out.z 1; clear bl))
  replace K := KL
  go_wp2_with fail
  have e1 := blk_cell (blk_set (blk_set K.out.z 0 (.int .i64 r1)) 1 (.int .i64 r2)) 0 _ rfl
  have e2 := blk_cell (blk_set (blk_set K.out.z 0 (.int .i64 r1)) 1 (.int .i64 r2)) 1 _ rfl
  refine bodyPost_ret (v := .tuple #[Fv r1 r2, .int .i64 r3]) (by simp [results, Try.results56, go_sem, e1, e2]) rfl ⟨by rw [F.out], Bset1 (Bset1 K.out.n (by omega) _ _) (by omega) _ _⟩
set_option maxRecDepth 100000 in
set_option maxHeartbeats 8000000 in
theorem refDiv_calls (an ad bn bd : Int) (w : World) :
  Calls Try.prog 58 #[Fv an ad, Fv bn bd] w fun e w' => e = .returned (Rv (divR an ad bn bd)) ∧ Below w.heap.size w w' := by
 have C1 := Lib.hid (fun W => refBoth_calls an ad bn bd W)
 by_cases ck : errB an ad bn bd = 0
 rotate_left
 ·have F : Hid (divR an ad bn bd = (0, 0, errB an ad bn bd)) := Lib.hid (by unfold divR; rw [if_neg ck])
  have ck' : (errB an ad bn bd != 0) = true := by rw [bne_iff_ne]; exact ck
  generalize divR an ad bn bd = res at *
  generalize errB an ad bn bd = er at *
  clear ck
  go_enter Try.func58, Try.ntmps58
  go_wp2_with fail
  refine (C1.out _).mono ?_
  rintro e w1 ⟨rfl, hb⟩
  have K := Lib.hid ((PK.init w an ad bn bd).next hb)
  clear hb
  have a0 := blk_cell K.out.a 0 _ rfl
  have a1 := blk_cell K.out.a 1 _ rfl
  have b0 := blk_cell K.out.b 0 _ rfl
  have b1 := blk_cell K.out.b 1 _ rfl
  go_wp2_with fail
  refine (C1.out _).mono ?_
  rintro e w2 ⟨rfl, hb⟩
  replace K := Lib.hid (K.out.next hb)
  clear hb
  clear a0 a1 b0 b1
  have z0 := blk_cell K.out.z 0 _ rfl
  have z1 := blk_cell K.out.z 1 _ rfl
  have f0 := blk_frozen K.out.z 0
  have f1 := blk_frozen K.out.z 1
  go_wp2_with fail
  have e1 := blk_cell (blk_set (blk_set K.out.z 0 (.int .i64 0)) 1 (.int .i64 0)) 0 _ rfl
  have e2 := blk_cell (blk_set (blk_set K.out.z 0 (.int .i64 0)) 1 (.int .i64 0)) 1 _ rfl
  refine bodyPost_ret (v := .tuple #[Fv 0 0, .int .i64 er]) (by simp [results, Try.results58, go_sem, e1, e2]) rfl ⟨by rw [F.out], Bset1 (Bset1 K.out.n (by omega) _ _) (by omega) _ _⟩
 ·obtain ⟨va, vb⟩ := errB_ok ck
  rw [ck] at C1
  have F0 : Hid (divR an ad bn bd = if bn = 0 then (0, 0, 18) else if bn < 0 then mulF an ad (-bd) (-bn) else mulF an ad bd bn) := Lib.hid (by unfold divR; rw [if_pos ck])
  generalize divR an ad bn bd = res at *
  have d1 := va.d1
  have d2 := va.d2
  have d3 := vb.d1
  have d4 := vb.d2
  have d5 := va.n1
  have d6 := va.n2
  have d7 := vb.n1
  have d8 := vb.n2
  have OV := vb.over
  clear ck
  by_cases bz : bn = 0
  ·have F : Hid (res = (0, 0, 18)) := Lib.hid (by rw [F0.out, if_pos bz])
   have bz' : (bn == 0) = true := by rw [bz]; rfl
   clear bz F0 OV va vb
   go_enter Try.func58, Try.ntmps58
   go_wp2_with fail
   refine (C1.out _).mono ?_
   rintro e w1 ⟨rfl, hb⟩
   have K := Lib.hid ((PK.init w an ad bn bd).next hb)
   clear hb
   have a0 := blk_cell K.out.a 0 _ rfl
   have a1 := blk_cell K.out.a 1 _ rfl
   have b0 := blk_cell K.out.b 0 _ rfl
   have b1 := blk_cell K.out.b 1 _ rfl
   have z0 := blk_cell K.out.z 0 _ rfl
   have z1 := blk_cell K.out.z 1 _ rfl
   have f0 := blk_frozen K.out.z 0
   have f1 := blk_frozen K.out.z 1
   go_wp2_with fail
   have e1 := blk_cell (blk_set (blk_set K.out.z 0 (.int .i64 0)) 1 (.int .i64 0)) 0 _ rfl
   have e2 := blk_cell (blk_set (blk_set K.out.z 0 (.int .i64 0)) 1 (.int .i64 0)) 1 _ rfl
   refine bodyPost_ret (v := .tuple #[Fv 0 0, .int .i64 18]) (by simp [results, Try.results58, go_sem, e1, e2]) rfl ⟨by rw [F.out], Bset1 (Bset1 K.out.n (by omega) _ _) (by omega) _ _⟩
  have bz' : (bn == 0) = false := by rw [beq_eq_false_iff_ne]; exact bz
  by_cases bn0 : bn < 0
  ·have F : Hid (res = mulF an ad (-bd) (-bn)) := Lib.hid (by rw [F0.out, if_neg bz, if_pos bn0])
   have MR : Hid (mulR an ad (-bd) (-bn) = mulF an ad (-bd) (-bn)) := Lib.hid (by unfold mulR; rw [if_pos (va.both (OV.1 bn0))])
   have PC := Lib.hid (fun W => refMul_calls an ad (-bd) (-bn) W)
   rw [MR.out] at PC
   generalize mulF an ad (-bd) (-bn) = r at *
   obtain ⟨r1, r2, r3⟩ := r
   clear bz F0 OV va vb MR
   go_enter Try.func58, Try.ntmps58
   go_wp2_with fail
   refine (C1.out _).mono ?_
   rintro e w1 ⟨rfl, hb⟩
   have K := Lib.hid ((PK.init w an ad bn bd).next hb)
   clear hb
   have a0 := blk_cell K.out.a 0 _ rfl
   have a1 := blk_cell K.out.a 1 _ rfl
   have b0 := blk_cell K.out.b 0 _ rfl
   have b1 := blk_cell K.out.b 1 _ rfl
   go_wp2_with fail
   refine (PC.out _).mono ?_
   rintro e w2 ⟨rfl, hb⟩
   replace K : Hid (PK w w2 an ad bn bd) := Lib.hid (K.out.next hb)
   clear hb
   clear a0 a1 b0 b1
   have z0 := blk_cell K.out.z 0 _ rfl
   have z1 := blk_cell K.out.z 1 _ rfl
   have f0 := blk_frozen K.out.z 0
   have f1 := blk_frozen K.out.z 1
   go_wp2_with fail
   have e1 := blk_cell (blk_set (blk_set K.out.z 0 (.int .i64 r1)) 1 (.int .i64 r2)) 0 _ rfl
   have e2 := blk_cell (blk_set (blk_set K.out.z 0 (.int .i64 r1)) 1 (.int .i64 r2)) 1 _ rfl
   refine bodyPost_ret (v := .tuple #[Fv r1 r2, .int .i64 r3]) (by simp [results, Try.results58, go_sem, e1, e2]) rfl ⟨by rw [F.out], Bset1 (Bset1 K.out.n (by omega) _ _) (by omega) _ _⟩
  ·have F : Hid (res = mulF an ad bd bn) := Lib.hid (by rw [F0.out, if_neg bz, if_neg bn0])
   have MR : Hid (mulR an ad bd bn = mulF an ad bd bn) := Lib.hid (by unfold mulR; rw [if_pos (va.both (OV.2 (by omega)))])
   have PC := Lib.hid (fun W => refMul_calls an ad bd bn W)
   rw [MR.out] at PC
   generalize mulF an ad bd bn = r at *
   obtain ⟨r1, r2, r3⟩ := r
   clear bz F0 OV va vb MR
   go_enter Try.func58, Try.ntmps58
   go_wp2_with fail
   refine (C1.out _).mono ?_
   rintro e w1 ⟨rfl, hb⟩
   have K := Lib.hid ((PK.init w an ad bn bd).next hb)
   clear hb
   have a0 := blk_cell K.out.a 0 _ rfl
   have a1 := blk_cell K.out.a 1 _ rfl
   have b0 := blk_cell K.out.b 0 _ rfl
   have b1 := blk_cell K.out.b 1 _ rfl
   go_wp2_with fail
   refine (PC.out _).mono ?_
   rintro e w2 ⟨rfl, hb⟩
   replace K : Hid (PK w w2 an ad bn bd) := Lib.hid (K.out.next hb)
   clear hb
   clear a0 a1 b0 b1
   have z0 := blk_cell K.out.z 0 _ rfl
   have z1 := blk_cell K.out.z 1 _ rfl
   have f0 := blk_frozen K.out.z 0
   have f1 := blk_frozen K.out.z 1
   go_wp2_with fail
   have e1 := blk_cell (blk_set (blk_set K.out.z 0 (.int .i64 r1)) 1 (.int .i64 r2)) 0 _ rfl
   have e2 := blk_cell (blk_set (blk_set K.out.z 0 (.int .i64 r1)) 1 (.int .i64 r2)) 1 _ rfl
   refine bodyPost_ret (v := .tuple #[Fv r1 r2, .int .i64 r3]) (by simp [results, Try.results58, go_sem, e1, e2]) rfl ⟨by rw [F.out], Bset1 (Bset1 K.out.n (by omega) _ _) (by omega) _ _⟩
end Go.Proofs.Ytbbnkclajpaghaa
namespace Go.Proofs.Ytbbnkclajpaghaa
open Go
set_option linter.unusedVariables false
set_option maxRecDepth 100000
def textL (n d : Int) : List UInt8 := if d = 1 then Lib.itoa n else Lib.itoa n ++ 47 :: Lib.itoa d
end Go.Proofs.Ytbbnkclajpaghaa
namespace Go.Proofs.Ytbbnkclajpaghaa
open Go.ChangeShapes Go.WideShapes Go.ChangeAt Go.RowKit
set_option linter.unusedVariables false
set_option maxRecDepth 100000
attribute [local go_sem ↓] Go.wp_at_zero Go.wp_at_succ
theorem var_keep {P : Program} {w w' : World} {n : String} {cs : Array Value} (h : w.var? P n = some cs) (hb : Below w.heap.size w w') : w'.var? P n = some cs := by
 unfold World.var? at h ⊢
 cases hg : P.globalNamed n with
 | none => rw [hg] at h; cases h
 | some g =>
  rw [hg] at h
  simp only [Option.bind_some] at h ⊢
  cases hh : w.heap[g]? with
  | none => rw [hh] at h; cases h
  | some o =>
   rw [hh] at h
   rw [blk_next hb hh]
   exact h
structure GL (w : World) : Prop where
 tab : Lib.TabIs Try.prog w "internal/strconv.uint64pow10" .u64 Lib.pow10Tab
 syn : ∃ tp p, w.var? Try.prog "strconv.ErrSyntax" = some #[.iface tp p]
 ran : ∃ tp p, w.var? Try.prog "strconv.ErrRange" = some #[.iface tp p]
 max : ∃ m, w.cell? ⟨0, 0, none⟩ = some (.int .i64 m)
theorem cell_keep {w w' : World} {a : Addr} {v : Value} (h : w.cell? a = some v) (hb : Below w.heap.size w w') : w'.cell? a = some v := by
 have : a.block < w.heap.size := by
  unfold World.cell? at h
  cases hh : w.heap[a.block]? with
  | none => rw [hh] at h; cases h
  | some o => exact blk_lt hh
 exact (hb.cell this).trans h
theorem GL.next {w w' : World} (h : GL w) (hb : Below w.heap.size w w') : GL w' :=
 ⟨var_keep h.tab hb, by obtain ⟨t, p, e⟩ := h.syn; exact ⟨t, p, var_keep e hb⟩, by obtain ⟨t, p, e⟩ := h.ran; exact ⟨t, p, var_keep e hb⟩, by obtain ⟨m, e⟩ := h.max; exact ⟨m, cell_keep e hb⟩⟩
def txR (n d : Int) : List UInt8 := if errF n d = 0 then textL n d else []
end Go.Proofs.Ytbbnkclajpaghaa
namespace Go.Proofs.Ytbbnkclajpaghaa
open Go.ChangeShapes Go.WideShapes Go.ChangeAt Go.RowKit
set_option linter.unusedVariables false
set_option maxRecDepth 100000
attribute [local go_sem ↓] Go.wp_at_zero Go.wp_at_succ
theorem VF.tx {n d : Int} (v : VF n d) : txR n d = textL n d := by unfold txR; rw [if_pos v.err]
end Go.Proofs.Ytbbnkclajpaghaa
namespace Go.Proofs.Ytbbnkclajpaghaa
open Go.ChangeShapes Go.WideShapes Go.ChangeAt Go.RowKit
set_option linter.unusedVariables false
set_option maxRecDepth 100000
structure Vr where
 t : Int
 c : Int
 i : Int
 j : Int
 re : Int
 im : Int
 dn : Int
 n : Int
abbrev Cv (r : Vr) : Value := .agg #[.int .i64 r.re, .int .i64 r.im, .int .i64 r.dn]
abbrev Wv (r : Vr) : Value := .agg #[.int .i64 r.i, .int .i64 r.j, .int .i64 r.re, .int .i64 r.im, .int .i64 r.dn, .int .i64 r.n]
abbrev Rwv (r : Vr) : Value := .agg #[.int .i64 r.t, .int .i64 r.c, .int .i64 r.i, .int .i64 r.j, .int .i64 r.re, .int .i64 r.im, .int .i64 r.dn, .int .i64 r.n]
def vr8 (r : Vr) : List Value := [.int .i64 r.t, .int .i64 r.c, .int .i64 r.i, .int .i64 r.j, .int .i64 r.re, .int .i64 r.im, .int .i64 r.dn, .int .i64 r.n]
def vrc (l : List Vr) : List Value := l.flatMap vr8
theorem vr8_len (r : Vr) : (vr8 r).length = 8 := rfl
theorem vrc_append (l m : List Vr) : vrc (l ++ m) = vrc l ++ vrc m := by simp [vrc]
theorem vrc_one (l : List Vr) : ∀ u ∈ vrc l, u.oneCell' = true := by
 intro u hu
 obtain ⟨s, _, hs⟩ := List.mem_flatMap.1 hu
 simp [vr8] at hs
 rcases hs with rfl | rfl | rfl | rfl | rfl | rfl | rfl | rfl <;> rfl
abbrev valB (a b c : Int) : Bool := Cxm.chkB a b c
def visB (r : Vr) : Bool := decide (0 ≤ r.i) && (decide (r.i < r.j) && (decide (r.j < 8) && (valB r.re r.im r.dn && (decide (0 ≤ r.n) && decide (r.n ≤ 1000000)))))
def rowB (r : Vr) : Bool := decide (0 ≤ r.t) && (decide (r.t < 64) && (decide (0 ≤ r.c) && (decide (r.c < 16) && visB r)))
def vkey (r : Vr) : Int := ((r.t * 16 + r.c) * 8 + r.i) * 8 + r.j
def kcmp (x y : Int) : Int := if x < y then -1 else if x = y then 0 else 1
def orI (a b : Int) : Int := if a = 0 then b else a
def rcmp (r s : Vr) : Int := orI (kcmp r.t s.t) (orI (kcmp r.c s.c) (orI (kcmp r.i s.i) (kcmp r.j s.j)))
theorem rowB_facts {r : Vr} (h : rowB r = true) : 0 ≤ r.t ∧ r.t < 64 ∧ 0 ≤ r.c ∧ r.c < 16 ∧ 0 ≤ r.i ∧ r.i < r.j ∧ r.j < 8 := by
 simp only [rowB, visB, Bool.and_eq_true, decide_eq_true_eq] at h
 omega
theorem rcmp_key {r s : Vr} (hr : rowB r = true) (hs : rowB s = true) : rcmp r s = kcmp (vkey r) (vkey s) := by
 have h1 := rowB_facts hr
 have h2 := rowB_facts hs
 unfold rcmp orI kcmp vkey
 repeat' split
 all_goals omega
theorem kcmp_lt {x y : Int} : kcmp x y < 0 ↔ x < y := by
 unfold kcmp
 repeat' split
 all_goals omega
theorem kcmp_eq {x y : Int} : kcmp x y = 0 ↔ x = y := by
 unfold kcmp
 repeat' split
 all_goals omega
theorem kcmp_ge {x y : Int} : 0 ≤ kcmp x y ↔ y ≤ x := by
 unfold kcmp
 repeat' split
 all_goals omega
def goodF : Option Vr → List Vr → Bool
 | _, [] => true
 | none, r :: l => rowB r && goodF (some r) l
 | some q, r :: l => rowB r && (decide (vkey q < vkey r) && goodF (some r) l)
def goodB (l : List Vr) : Bool := goodF none l
def chkE (l : List Vr) : Int := if 200 < l.length then 4 else if goodB l then 0 else 8
theorem goodF_none {q : Option Vr} {l : List Vr} (h : goodF q l = true) : goodF none l = true := by
 cases l with
 | nil => rfl
 | cons r l =>
  cases q with
  | none => exact h
  | some q => simp only [goodF, Bool.and_eq_true] at h ⊢; exact ⟨h.1, h.2.2⟩
theorem goodF_append {q : Option Vr} {l m : List Vr} : goodF q (l ++ m) = (goodF q l && goodF (match l.getLast? with | none => q | some x => some x) m) := by
 induction l generalizing q with
 | nil => simp [goodF]
 | cons r l ih =>
  have hl : (match (r :: l).getLast? with | none => q | some x => some x) = (match l.getLast? with | none => some r | some x => some x) := by
   rw [List.getLast?_cons]; cases l.getLast? <;> rfl
  rw [hl]
  cases q with
  | none => simp only [List.cons_append, goodF, ih, Bool.and_assoc]
  | some q => simp only [List.cons_append, goodF, ih, Bool.and_assoc]
theorem goodF_row {q : Option Vr} {l : List Vr} (h : goodF q l = true) : ∀ r ∈ l, rowB r = true := by
 induction l generalizing q with
 | nil => simp
 | cons r l ih =>
  intro x hx
  have h' := goodF_none h
  simp only [goodF, Bool.and_eq_true] at h'
  rcases List.mem_cons.1 hx with rfl | hx
  ·exact h'.1
  ·exact ih h'.2 x hx
theorem chkE_good {l : List Vr} (h : chkE l = 0) : goodB l = true ∧ l.length ≤ 200 := by
 unfold chkE at h
 split at h
 ·omega
 ·split at h
  ·rename_i h1 h2; exact ⟨h2, by omega⟩
  ·omega
def selB (i j : Int) (r : Vr) : Bool := decide (r.i = i) && decide (r.j = j)
end Go.Proofs.Ytbbnkclajpaghaa
namespace Go.Proofs.Ytbbnkclajpaghaa
open Go.ChangeShapes Go.WideShapes Go.ChangeAt Go.RowKit
set_option linter.unusedVariables false
set_option maxRecDepth 100000
attribute [local go_sem ↓] Go.wp_at_zero Go.wp_at_succ
def cmpI (x y : Int) : Int := if y < x then 1 else if x = y then 0 else -1
theorem cmpI_gt {x y : Int} (h : y < x) : cmpI x y = 1 := by unfold cmpI; rw [if_pos h]
theorem cmpI_eq {x y : Int} (h : x = y) : cmpI x y = 0 := by unfold cmpI; rw [if_neg (by omega), if_pos h]
theorem cmpI_lt {x y : Int} (h : x < y) : cmpI x y = -1 := by unfold cmpI; rw [if_neg (by omega), if_neg (by omega)]
theorem wider_calls (ah al bh bl : Nat) (w : World) (h1 : al < 18446744073709551616) (h2 : bl < 18446744073709551616) :
  Calls Try.prog 91 #[.int .u64 ah, .int .u64 al, .int .u64 bh, .int .u64 bl] w fun e w' => e = .returned (.int .i64 (cmpI ((18446744073709551616 * ah + al : Nat) : Int) ((18446744073709551616 * bh + bl : Nat) : Int))) ∧ w = w' := by
 have hc : bh < ah ∨ (ah = bh ∧ bl < al) ∨ (ah = bh ∧ al = bl) ∨ (ah = bh ∧ al < bl) ∨ ah < bh := by omega
 rcases hc with h | ⟨h, h'⟩ | ⟨h, h'⟩ | ⟨h, h'⟩ | h
 ·rw [cmpI_gt (by omega)]
  have q1 : decide ((bh : Int) < (ah : Int)) = true := decide_eq_true (by omega)
  have q2 : ((ah : Int) == (bh : Int)) = false := by rw [beq_eq_false_iff_ne]; omega
  go_enter Try.func91, Try.ntmps91
  go_wp2_with fail
  go_ret
  exact ⟨rfl, rfl⟩
 ·rw [cmpI_gt (by omega)]
  subst h
  have q0 : ¬ ah < ah := by omega
  go_enter Try.func91, Try.ntmps91
  go_wp2_with fail
  go_ret
  exact ⟨rfl, rfl⟩
 ·rw [cmpI_eq (by omega)]
  subst h h'
  have q0 : ¬ ah < ah := by omega
  have q1 : ¬ al < al := by omega
  go_enter Try.func91, Try.ntmps91
  go_wp2_with fail
  go_ret
  exact ⟨rfl, rfl⟩
 ·rw [cmpI_lt (by omega)]
  subst h
  have q0 : ¬ ah < ah := by omega
  have q1 : ¬ bl < al := by omega
  have q2 : ((al : Int) == (bl : Int)) = false := by rw [beq_eq_false_iff_ne]; omega
  go_enter Try.func91, Try.ntmps91
  go_wp2_with fail
  go_ret
  exact ⟨rfl, rfl⟩
 ·rw [cmpI_lt (by omega)]
  have q0 : ¬ bh < ah := by omega
  have q2 : ((ah : Int) == (bh : Int)) = false := by rw [beq_eq_false_iff_ne]; omega
  go_enter Try.func91, Try.ntmps91
  go_wp2_with fail
  go_ret
  exact ⟨rfl, rfl⟩
end Go.Proofs.Ytbbnkclajpaghaa
set_option linter.unusedVariables false
set_option maxRecDepth 100000
namespace Farey
def ex (x y : Int) : List Int := if h : 0 < y then (x / y) :: ex y (x % y) else []
termination_by y.toNat
decreasing_by
  have h1 := Int.emod_lt_of_pos x h
  have h2 := Int.emod_nonneg x (show y ≠ 0 by omega)
  omega
end Farey
namespace Go.Proofs.Ytbbnkclajpaghaa
open Go.ChangeShapes Go.WideShapes Go.ChangeAt Go.RowKit
set_option linter.unusedVariables false
set_option maxRecDepth 100000
attribute [local go_sem ↓] Go.wp_at_zero Go.wp_at_succ
structure P1 (w W : World) (N D : Int) : Prop where
 a : W.heap[w.heap.size]? = some (.cells #[.int .i64 N, .int .i64 D] 80)
 z : W.heap[w.heap.size + 1]? = some (.cells #[.int .i64 0, .int .i64 0] 80)
 n : Below w.heap.size w W
theorem P1.next {w W W' : World} {N D : Int} (h : P1 w W N D) (hb : Below W.heap.size W W') : P1 w W' N D := ⟨blk_next hb h.a, blk_next hb h.z, Bgo h.n hb⟩
theorem P1.drewN {w W : World} {N D : Int} (h : P1 w W N D) (n : Nat) : P1 w (W.drewN n) N D := h.next (below_drewN (Below.refl _ _) n)
theorem P1.init (w : World) (N D : Int) : P1 w ((w.alloc (.cells #[.int .i64 N, .int .i64 D] 80)).alloc (.cells #[.int .i64 0, .int .i64 0] 80)) N D := ⟨blk1 w _ _, blk2 w _ _, Bal (Bal (Below.refl _ _) _) _⟩
end Go.Proofs.Ytbbnkclajpaghaa
namespace Go.Proofs.Ytbbnkclajpaghaa
open Go.ChangeShapes Go.WideShapes Go.ChangeAt Go.RowKit
set_option linter.unusedVariables false
set_option maxRecDepth 100000
def Rd (w : World) (size : Nat) (A : Option Addr) (n : Nat) (xs : List Value) : Prop :=
 xs.length = n * size ∧ (0 < n → ∃ b off, A = some ⟨b, off, none⟩ ∧ b < w.heap.size ∧ ∀ j u, xs[j]? = some u → w.cell? ⟨b, off + j, none⟩ = some u)
theorem Rd.next {w w' : World} (hb : Below w.heap.size w w') {size n : Nat} {A : Option Addr} {xs : List Value} (h : Rd w size A n xs) : Rd w' size A n xs :=
 ⟨h.1, fun hn => by
  obtain ⟨b, off, e, hl, hc⟩ := h.2 hn
  exact ⟨b, off, e, Nat.lt_of_lt_of_le hl hb.size, fun j u hu => (hb.cell hl).trans (hc j u hu)⟩⟩
theorem Rd.of_own {w : World} {base : Nat} {e : TypeId} {size n : Nat} {v : Value} {xs : List Value} (h : w.ownsRow base e size v n xs) : ∃ A cap, v = .slice A n cap ∧ n ≤ cap ∧ cap ≤ 9223372036854775807 ∧ Rd w size A n xs := by
 have h1 := h.1
 rcases h.2 with ⟨h3, h2⟩ | ⟨g, cap, cur, hv, hb, hg, hc, hm, hs, ht⟩
 ·subst h2; exact ⟨none, 0, h3, by omega, by omega, h1, fun hn => absurd hn (by omega)⟩
 ·refine ⟨_, cap, hv, hc, by simpa [maxLen] using hm, h1, fun hn => ⟨g, 0, rfl, blk_lt hg, fun j u hu => ?_⟩⟩
  refine blk_cell hg (0 + j) u ?_
  rw [← ht, List.getElem?_take] at hu
  split at hu
  ·simpa using hu
  ·simp at hu
section
variable {P : Program} (w : World)
theorem run_append_nilsrc (base : Nat) (t ty e : TypeId) (i : TypeInfo) (size : Nat) (ht : P.underlying t = some (.slice e)) (hi : P.info? e = some i)
  (v : Value) (n : Nat) (xs : List Value) (hown : w.ownsRow base e size v n xs) (c : Nat) : (Builtin.append_ #[t, t] ty #[v, .slice none 0 c]).run P w = .ok v w := by
 rcases hown.2 with ⟨rfl, rfl⟩ | ⟨g, cap, cur, rfl, _, _, hnc, _⟩
 ·simp [Builtin.append_, run_underlying ht, sizeOf, typeInfo, hi, Builtin.lenOf, Builtin.firstCells]
 ·simp [Builtin.append_, run_underlying ht, sizeOf, typeInfo, hi, Builtin.lenOf, Builtin.firstCells, hnc, storeCells]
theorem run_append_rd (base : Nat) (t ty e : TypeId) (i : TypeInfo) (z : Value) (size bytes : Nat) (ht : P.underlying t = some (.slice e)) (hi : P.info? e = some i) (hz : i.zero = some z)
  (hsize : i.size = size) (hby : i.bytes = bytes) (hzs : z.cells.size = size) (hsz : 0 < size)
  (v : Value) (n : Nat) (xs : List Value) (hown : w.ownsRow base e size v n xs)
  (A : Option Addr) (m c : Nat) (news : List Value) (hr : Rd w size A m news) (h1 : ∀ u ∈ news, u.oneCell' = true)
  (h63 : n + m ≤ maxLen) (hbytes : (n + m) * bytes ≤ 140737488355328) (hbase : base ≤ w.heap.size) :
  ∃ v' w', (Builtin.append_ #[t, t] ty #[v, .slice A m c]).run P w = .ok v' w' ∧ w'.ownsRow base e size v' (n + m) (xs ++ news) ∧ w.grownBy w' v.ownBlock ∧
   (v'.ownBlock = v.ownBlock ∨ v'.ownBlock = some w.heap.size) := by
 rcases Nat.eq_zero_or_pos m with h0 | h0
 ·subst h0
  have hn : news = [] := List.eq_nil_of_length_eq_zero (by simpa using hr.1)
  subst hn
  rcases A with _ | ad
  ·exact ⟨v, w, run_append_nilsrc w base t ty e i size ht hi v n xs hown c, by simpa using hown, World.grownBy.refl w _, .inl rfl⟩
  ·obtain ⟨v', w', hrun, h2, h3, _, h5⟩ := run_append_own_at (P := P) w base t ty e i z size bytes ht hi hz hsize hby hzs hsz v n xs hown ad 0 c [] (by simp) (by simp) (by simp) h63 hbytes hbase
   exact ⟨v', w', hrun, h2, h3, h5⟩
 ·obtain ⟨b, off, rfl, hl, hc⟩ := hr.2 h0
  have hcells : ∀ j u, news[j]? = some u → w.cell? ((⟨b, off, none⟩ : Addr).add j) = some u := by
   intro j u hu
   have e : (⟨b, off, none⟩ : Addr).add j = ⟨b, off + j, none⟩ := by
    unfold Addr.add; split
    ·rename_i h; subst h; rfl
    ·rfl
   rw [e]; exact hc j u hu
  obtain ⟨v', w', hrun, h2, h3, _, h5⟩ := run_append_own_at (P := P) w base t ty e i z size bytes ht hi hz hsize hby hzs hsz v n xs hown ⟨b, off, none⟩ m c news hr.1 hcells h1 h63 hbytes hbase
  exact ⟨v', w', hrun, h2, h3, h5⟩
theorem wp_append_rd {o : Oper} {a : Act} {K : Act → World → Prop} {Q : Exit → Act → World → Prop} (s x : Operand) (t : TypeId)
  (ho : o.op = .call { callee := .builtin .append, args := #[s, x], argTypes := #[t, t] })
  (base : Nat) (e : TypeId) (i : TypeInfo) (z : Value) (size bytes : Nat) (ht : P.underlying t = some (.slice e)) (hi : P.info? e = some i) (hz : i.zero = some z)
  (hsize : i.size = size) (hby : i.bytes = bytes) (hzs : z.cells.size = size) (hsz : 0 < size)
  (v : Value) (n : Nat) (xs : List Value) (hs : a.eval s = v) (hown : w.ownsRow base e size v n xs)
  (A : Option Addr) (m c : Nat) (news : List Value) (hx : a.eval x = .slice A m c) (hr : Rd w size A m news) (h1 : ∀ u ∈ news, u.oneCell' = true)
  (h63 : n + m ≤ maxLen) (hbytes : (n + m) * bytes ≤ 140737488355328) (hbase : base ≤ w.heap.size)
  (h : ∀ v' w', w'.ownsRow base e size v' (n + m) (xs ++ news) → w.grownBy w' v.ownBlock → (v'.ownBlock = v.ownBlock ∨ v'.ownBlock = some w.heap.size) → K (a.put o.dst v') w') : o.wp P a w K Q := by
 obtain ⟨v', w', hrun, h2, h3, h4⟩ := run_append_rd (P := P) w base t o.type e i z size bytes ht hi hz hsize hby hzs hsz v n xs hown A m c news hr h1 h63 hbytes hbase
 unfold Oper.wp execOp
 simp only [ho, resolve, invoke, builtin, Sem.run_bind, Sem.run_pure, Result.andThen_ok, List.map_toArray, List.map_cons, List.map_nil, hs, hx, hrun]
 exact h v' w' h2 h3 h4
theorem wpList_append_rd {ops : Array Oper} {rest : List Oper} {o : Oper} {a : Act} {Q : Exit → Act → World → Prop} (hgd : o.guard = none) (s x : Operand) (t : TypeId)
  (ho : o.op = .call { callee := .builtin .append, args := #[s, x], argTypes := #[t, t] })
  (base : Nat) (e : TypeId) (i : TypeInfo) (z : Value) (size bytes : Nat) (ht : P.underlying t = some (.slice e)) (hi : P.info? e = some i) (hz : i.zero = some z)
  (hsize : i.size = size) (hby : i.bytes = bytes) (hzs : z.cells.size = size) (hsz : 0 < size)
  (v : Value) (n : Nat) (xs : List Value) (hs : a.eval s = v) (hown : w.ownsRow base e size v n xs)
  (A : Option Addr) (m c : Nat) (news : List Value) (hx : a.eval x = .slice A m c) (hr : Rd w size A m news) (h1 : ∀ u ∈ news, u.oneCell' = true)
  (h63 : n + m ≤ maxLen) (hbytes : (n + m) * bytes ≤ 140737488355328) (hbase : base ≤ w.heap.size)
  (h : ∀ v' w', w'.ownsRow base e size v' (n + m) (xs ++ news) → w.grownBy w' v.ownBlock → (v'.ownBlock = v.ownBlock ∨ v'.ownBlock = some w.heap.size) → wpList P ops Q rest (a.put o.dst v') w') : wpList P ops Q (o :: rest) a w :=
 wpList_plain hgd fun _ hK => wp_append_rd w s x t ho base e i z size bytes ht hi hz hsize hby hzs hsz v n xs hs hown A m c news hx hr h1 h63 hbytes hbase fun v' w' h2 h3 h4 => hK _ _ (h v' w' h2 h3 h4)
theorem step_append_rd {ops : Array Oper} {o : Oper} {a : Act} {K : Act → World → Prop} {Q : Exit → Act → World → Prop} {E : Prop} (hgd : o.guard = none) (s x : Operand) (t : TypeId)
  (ho : o.op = .call { callee := .builtin .append, args := #[s, x], argTypes := #[t, t] })
  (base : Nat) (e : TypeId) (i : TypeInfo) (z : Value) (size bytes : Nat) (ht : P.underlying t = some (.slice e)) (hi : P.info? e = some i) (hz : i.zero = some z)
  (hsize : i.size = size) (hby : i.bytes = bytes) (hzs : z.cells.size = size) (hsz : 0 < size)
  (v : Value) (n : Nat) (xs : List Value) (hs : a.eval s = v) (hown : w.ownsRow base e size v n xs)
  (A : Option Addr) (m c : Nat) (news : List Value) (hx : a.eval x = .slice A m c) (hr : Rd w size A m news) (h1 : ∀ u ∈ news, u.oneCell' = true)
  (h63 : n + m ≤ maxLen) (hbytes : (n + m) * bytes ≤ 140737488355328) (hbase : base ≤ w.heap.size)
  (h : ∀ v' w', w'.ownsRow base e size v' (n + m) (xs ++ news) → w.grownBy w' v.ownBlock → (v'.ownBlock = v.ownBlock ∨ v'.ownBlock = some w.heap.size) → K (a.put o.dst v') w') :
  if Region.wanted o (yielded ops a.tmps) = true then Oper.wp P o a w K Q else E := by
 have hw : Region.wanted o (yielded ops a.tmps) = true := by simp [Region.wanted, hgd]
 rw [if_pos hw]
 exact wp_append_rd w s x t ho base e i z size bytes ht hi hz hsize hby hzs hsz v n xs hs hown A m c news hx hr h1 h63 hbytes hbase h
end
def lv (l : List Int) : List Value := l.map fun (x : Int) => Value.int .i64 x
theorem lv_get {l : List Int} {k : Nat} {x : Int} (h : l[k]? = some x) : (lv l)[k]? = some (.int .i64 x) := by simp [lv, h]
end Go.Proofs.Ytbbnkclajpaghaa
