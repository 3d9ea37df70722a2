/- Contracts of layer 1: products of the reference. -/
import Derived.Test.YtfangplfbbgphaaFrh
namespace Go.Proofs.Ytfangplfbbgphaa
open Go.ChangeShapes Go.WideShapes Go.ChangeAt Go.RowKit
set_option linter.unusedVariables false
set_option maxRecDepth 100000
attribute [local go_sem ↓] Go.wp_at_zero Go.wp_at_succ

def dg : Nat → Nat → Nat
  | n, 0 => n % 4294967296
  | n, i + 1 => dg (n / 4294967296) i
theorem dg_lt (n i : Nat) : dg n i < 4294967296 := by
  induction i generalizing n with
  | zero => exact Nat.mod_lt _ (by omega)
  | succ i ih => exact ih _
theorem dg_zero (i : Nat) : dg 0 i = 0 := by
  induction i with
  | zero => rfl
  | succ i ih => exact ih
theorem dg_digits {a b c d : Nat} (ha : a < 4294967296) (hb : b < 4294967296) (hc : c < 4294967296) (hd : d < 4294967296) : dg (bigN a b c d) 0 = a ∧ dg (bigN a b c d) 1 = b ∧ dg (bigN a b c d) 2 = c ∧ dg (bigN a b c d) 3 = d := by
  have e0 : bigN a b c d = a + 4294967296 * bigN b c d 0 := by unfold bigN; omega
  have e1 : bigN b c d 0 = b + 4294967296 * bigN c d 0 0 := by unfold bigN; omega
  have e2 : bigN c d 0 0 = c + 4294967296 * d := by unfold bigN; omega
  have q0 : bigN a b c d / 4294967296 = bigN b c d 0 := by rw [e0]; omega
  have q1 : bigN b c d 0 / 4294967296 = bigN c d 0 0 := by rw [e1]; omega
  have q2 : bigN c d 0 0 / 4294967296 = d := by rw [e2]; omega
  refine ⟨?_, ?_, ?_, ?_⟩
  · show bigN a b c d % 4294967296 = a
    rw [e0]; omega
  · show dg (bigN a b c d / 4294967296) 0 = b
    rw [q0]; show bigN b c d 0 % 4294967296 = b
    rw [e1]; omega
  · show dg (bigN a b c d / 4294967296 / 4294967296) 0 = c
    rw [q0, q1]; show bigN c d 0 0 % 4294967296 = c
    rw [e2]; omega
  · show dg (bigN a b c d / 4294967296 / 4294967296 / 4294967296) 0 = d
    rw [q0, q1, q2]; show d % 4294967296 = d
    omega
/- a number of at most four digits as its digits -/
abbrev Dv (n : Nat) : Value := Bv (dg n 0) (dg n 1) (dg n 2) (dg n 3)
theorem dv_of {n a b c d : Nat} (ha : a < 4294967296) (hb : b < 4294967296) (hc : c < 4294967296) (hd : d < 4294967296) (h : n = bigN a b c d) : Bv a b c d = Dv n := by
  obtain ⟨h0, h1, h2, h3⟩ := dg_digits ha hb hc hd
  subst h
  unfold Dv
  rw [h0, h1, h2, h3]
def sm4 (n : Nat) : Prop := n / 4294967296 / 4294967296 / 4294967296 < 4294967296
theorem big_dg {n : Nat} (h : sm4 n) : bigN (dg n 0) (dg n 1) (dg n 2) (dg n 3) = n := by
  unfold sm4 at h
  show bigN (n % 4294967296) (n / 4294967296 % 4294967296) (n / 4294967296 / 4294967296 % 4294967296) (n / 4294967296 / 4294967296 / 4294967296 % 4294967296) = n
  unfold bigN
  omega
theorem refProd_plain {x y x0 x1 y0 y1 a b c d : Nat} (hx : x = 4294967296 * x1 + x0) (hy : y = 4294967296 * y1 + y0) (ha : x0 * y0 = a) (hb : x1 * y0 = b) (hc : x0 * y1 = c) (hd : x1 * y1 = d) : x * y = a + 4294967296 * (b + c + 4294967296 * d) := by
  subst hx hy ha hb hc hd
  grind
/- WALK -/
set_option maxRecDepth 100000 in
set_option maxHeartbeats 8000000 in
theorem refProduct_calls (x y : Nat) (w : World) (hx : x < 18446744073709551616) (hy : y < 18446744073709551616) :
    Calls Try.prog 69 #[.int .u64 x, .int .u64 y] w fun e w' => e = .returned (Dv (x * y)) ∧ Below w.heap.size w w' := by
  have B1 := Lib.hid (fun W => big_calls x W hx)
  have B2 := Lib.hid (fun W => big_calls y W hy)
  have b0 : x % 4294967296 ≤ 4294967295 := by omega
  have b1 : x / 4294967296 ≤ 4294967295 := by omega
  have b2 : y % 4294967296 ≤ 4294967295 := by omega
  have b3 : y / 4294967296 ≤ 4294967295 := by omega
  have EX : x = 4294967296 * (x / 4294967296) + x % 4294967296 := by omega
  have EY : y = 4294967296 * (y / 4294967296) + y % 4294967296 := by omega
  generalize x % 4294967296 = x0 at *
  generalize x / 4294967296 = x1 at *
  generalize y % 4294967296 = y0 at *
  generalize y / 4294967296 = y1 at *
  have PL := refProd_plain EX EY rfl rfl rfl rfl
  have c1 := prod_lt b0 b2
  have c2 := prod_lt b1 b2
  have c3 := prod_lt b0 b3
  have c4 := prod_lt b1 b3
  have m1 : (x0 : Int) * (y0 : Int) = ((x0 * y0 : Nat) : Int) := (Int.natCast_mul x0 y0).symm
  have m2 : (x1 : Int) * (y0 : Int) = ((x1 * y0 : Nat) : Int) := (Int.natCast_mul x1 y0).symm
  have m3 : (x0 : Int) * (y1 : Int) = ((x0 * y1 : Nat) : Int) := (Int.natCast_mul x0 y1).symm
  have m4 : (x1 : Int) * (y1 : Int) = ((x1 * y1 : Nat) : Int) := (Int.natCast_mul x1 y1).symm
  clear EX EY b0 b1 b2 b3 hx hy
  generalize x * y = xy at *
  generalize x0 * y0 = a at *
  generalize x1 * y0 = b at *
  generalize x0 * y1 = c at *
  generalize x1 * y1 = d at *
  obtain ⟨o0, ho0⟩ : ∃ u, u = a % 4294967296 := ⟨_, rfl⟩
  obtain ⟨k0, hk0⟩ : ∃ u, u = a / 4294967296 := ⟨_, rfl⟩
  obtain ⟨u1, hu1⟩ : ∃ u, u = k0 + c := ⟨_, rfl⟩
  obtain ⟨o1, ho1⟩ : ∃ u, u = u1 % 4294967296 := ⟨_, rfl⟩
  obtain ⟨k1, hk1⟩ : ∃ u, u = u1 / 4294967296 := ⟨_, rfl⟩
  obtain ⟨u2, hu2⟩ : ∃ u, u = o1 + b := ⟨_, rfl⟩
  obtain ⟨p1, hp1⟩ : ∃ u, u = u2 % 4294967296 := ⟨_, rfl⟩
  obtain ⟨k2, hk2⟩ : ∃ u, u = u2 / 4294967296 := ⟨_, rfl⟩
  obtain ⟨v3, hv3⟩ : ∃ u, u = k1 + d := ⟨_, rfl⟩
  obtain ⟨u3, hu3⟩ : ∃ u, u = k2 + v3 := ⟨_, rfl⟩
  obtain ⟨p2, hp2⟩ : ∃ u, u = u3 % 4294967296 := ⟨_, rfl⟩
  obtain ⟨p3, hp3⟩ : ∃ u, u = u3 / 4294967296 := ⟨_, rfl⟩
  have l1 : u1 < 18446744073709551616 := by omega
  have l2 : u2 < 18446744073709551616 := by omega
  have l3 : u3 < 18446744073709551616 := by omega
  have l4 : v3 < 18446744073709551616 := by omega
  have l5 : k1 < 4294967296 := by omega
  have l6 : p3 < 4294967296 := by omega
  have FIN : Hid (Bv o0 p1 p2 p3 = Dv xy) := Lib.hid (dv_of (by omega) (by omega) (by omega) (by omega) (by unfold bigN; omega))
  have r1 : bits .and .u64 (a : Int) 4294967295 = (o0 : Int) := by rw [ho0]; exact and32 a (by omega)
  have r2 : (a : Int) / 4294967296 = (k0 : Int) := by rw [hk0]; exact (Int.natCast_ediv a 4294967296).symm
  have r3 : (k0 : Int) + (c : Int) = (u1 : Int) := by omega
  have r4 : bits .and .u64 (u1 : Int) 4294967295 = (o1 : Int) := by rw [ho1]; exact and32 u1 (by omega)
  have r5 : (u1 : Int) / 4294967296 = (k1 : Int) := by rw [hk1]; exact (Int.natCast_ediv u1 4294967296).symm
  have r6 : (o1 : Int) + (b : Int) = (u2 : Int) := by omega
  have r7 : bits .and .u64 (u2 : Int) 4294967295 = (p1 : Int) := by rw [hp1]; exact and32 u2 (by omega)
  have r8 : (u2 : Int) / 4294967296 = (k2 : Int) := by rw [hk2]; exact (Int.natCast_ediv u2 4294967296).symm
  have r9 : (k1 : Int) + (d : Int) = (v3 : Int) := by omega
  have r10 : (k2 : Int) + (v3 : Int) = (u3 : Int) := by omega
  have r11 : bits .and .u64 (u3 : Int) 4294967295 = (p2 : Int) := by rw [hp2]; exact and32 u3 (by omega)
  have r12 : (u3 : Int) / 4294967296 = (p3 : Int) := by rw [hp3]; exact (Int.natCast_ediv u3 4294967296).symm
  clear PL ho0 hk0 hu1 ho1 hk1 hu2 hp1 hk2 hv3 hu3 hp2 hp3
  go_enter Try.func69, Try.ntmps69
  go_wp2_with fail
  refine (B1.out _).mono ?_
  rintro e w1 ⟨rfl, hb1⟩
  have Z1 : Hid (w1.heap[w.heap.size]? = some (.cells #[.int .u64 0, .int .u64 0, .int .u64 0, .int .u64 0] 117)) := Lib.hid (blk_next hb1 (blk_new w _))
  have N1 : Hid (Below w.heap.size w w1) := Lib.hid (Bgo (Bal (Below.refl _ _) _) hb1)
  clear hb1
  go_wp2_with fail
  refine (B2.out _).mono ?_
  rintro e w2 ⟨rfl, hb2⟩
  replace Z1 := Lib.hid (blk_next hb2 Z1.out)
  replace N1 := Lib.hid (Bgo N1.out hb2)
  have wl : w.heap.size < w2.heap.size := blk_lt Z1.out
  clear hb2
  go_wp2_with fail
  have XB : Hid ((((w2.alloc (.cells #[.int .u64 (x0 : Int), .int .u64 (x1 : Int), .int .u64 0, .int .u64 0] 117)).alloc (.cells #[.int .u64 (y0 : Int), .int .u64 (y1 : Int), .int .u64 0, .int .u64 0] 117)).alloc (.cells #[.int .u64 0, .int .u64 0, .int .u64 0, .int .u64 0] 117)).heap[w2.heap.size]? = some (.cells #[.int .u64 (x0 : Int), .int .u64 (x1 : Int), .int .u64 0, .int .u64 0] 117)) := Lib.hid (blk_alloc (blk_alloc (blk_new w2 _) _) _)
  have YB := Lib.hid (blk3b w2 (.cells #[.int .u64 (x0 : Int), .int .u64 (x1 : Int), .int .u64 0, .int .u64 0] 117) (.cells #[.int .u64 (y0 : Int), .int .u64 (y1 : Int), .int .u64 0, .int .u64 0] 117) (.cells #[.int .u64 0, .int .u64 0, .int .u64 0, .int .u64 0] 117))
  have OB := Lib.hid (blk3c w2 (.cells #[.int .u64 (x0 : Int), .int .u64 (x1 : Int), .int .u64 0, .int .u64 0] 117) (.cells #[.int .u64 (y0 : Int), .int .u64 (y1 : Int), .int .u64 0, .int .u64 0] 117) (.cells #[.int .u64 0, .int .u64 0, .int .u64 0, .int .u64 0] 117))
  have ZB := Lib.hid (blk_alloc (blk_alloc (blk_alloc Z1.out (.cells #[.int .u64 (x0 : Int), .int .u64 (x1 : Int), .int .u64 0, .int .u64 0] 117)) (.cells #[.int .u64 (y0 : Int), .int .u64 (y1 : Int), .int .u64 0, .int .u64 0] 117)) (.cells #[.int .u64 0, .int .u64 0, .int .u64 0, .int .u64 0] 117))
  have NB := Lib.hid (Bal (Bal (Bal N1.out (.cells #[.int .u64 (x0 : Int), .int .u64 (x1 : Int), .int .u64 0, .int .u64 0] 117)) (.cells #[.int .u64 (y0 : Int), .int .u64 (y1 : Int), .int .u64 0, .int .u64 0] 117)) (.cells #[.int .u64 0, .int .u64 0, .int .u64 0, .int .u64 0] 117))
  generalize ((w2.alloc (.cells #[.int .u64 (x0 : Int), .int .u64 (x1 : Int), .int .u64 0, .int .u64 0] 117)).alloc (.cells #[.int .u64 (y0 : Int), .int .u64 (y1 : Int), .int .u64 0, .int .u64 0] 117)).alloc (.cells #[.int .u64 0, .int .u64 0, .int .u64 0, .int .u64 0] 117) = W at *
  have e1 : Hid (w2.heap.size + 1 + 1 ≠ w2.heap.size) := Lib.hid (by omega)
  have e2 : Hid (w2.heap.size + 1 + 1 ≠ w2.heap.size + 1) := Lib.hid (by omega)
  have e3 : Hid (w2.heap.size + 1 + 1 ≠ w.heap.size) := Lib.hid (by omega)
  have e4 : Hid (w.heap.size ≤ w2.heap.size + 1 + 1) := Lib.hid (by omega)
  generalize w2.heap.size + 1 + 1 = go at *
  generalize w2.heap.size + 1 = gy at *
  generalize w2.heap.size = gx at *
  clear Z1 N1 wl
  go_loopw [8] (fun i wr => ∃ r : Nat, i = .int .i64 r ∧ Hid (Below w.heap.size w wr) ∧ Hid (wr.heap[gx]? = some (.cells #[.int .u64 (x0 : Int), .int .u64 (x1 : Int), .int .u64 0, .int .u64 0] 117)) ∧ Hid (wr.heap[gy]? = some (.cells #[.int .u64 (y0 : Int), .int .u64 (y1 : Int), .int .u64 0, .int .u64 0] 117)) ∧ Hid (wr.heap[w.heap.size]? = some (.cells #[.int .u64 0, .int .u64 0, .int .u64 0, .int .u64 0] 117)) ∧ ((r = 0 ∧ Hid (wr.heap[go]? = some (.cells #[.int .u64 0, .int .u64 0, .int .u64 0, .int .u64 0] 117))) ∨ (r = 1 ∧ Hid (wr.heap[go]? = some (.cells #[.int .u64 (o0 : Int), .int .u64 (o1 : Int), .int .u64 (k1 : Int), .int .u64 0] 117))) ∨ (r = 2 ∧ Hid (wr.heap[go]? = some (.cells #[.int .u64 (o0 : Int), .int .u64 (p1 : Int), .int .u64 (p2 : Int), .int .u64 (p3 : Int)] 117))))) (fun i _ => 2 - (intOf i).toNat)
  case atStart => exact ⟨0, rfl, NB, XB, YB, ZB, .inl ⟨rfl, OB⟩⟩
  case round =>
    clear NB XB YB ZB OB
    obtain ⟨r, rfl, NB, XB, YB, ZB, (⟨rfl, OB⟩ | ⟨rfl, OB⟩ | ⟨rfl, OB⟩)⟩ := hrel
    · obtain ⟨wo, rfl⟩ : ∃ wo : World, wo = wr := ⟨_, rfl⟩
      go_wp2_with fail
      go_loopw [9, 10] (fun c k wr => ∃ s : Nat, k = .int .i64 s ∧ Hid (Below w.heap.size w wr) ∧ Hid (wr.heap[gx]? = some (.cells #[.int .u64 (x0 : Int), .int .u64 (x1 : Int), .int .u64 0, .int .u64 0] 117)) ∧ Hid (wr.heap[gy]? = some (.cells #[.int .u64 (y0 : Int), .int .u64 (y1 : Int), .int .u64 0, .int .u64 0] 117)) ∧ Hid (wr.heap[w.heap.size]? = some (.cells #[.int .u64 0, .int .u64 0, .int .u64 0, .int .u64 0] 117)) ∧ ((s = 0 ∧ c = .int .u64 0 ∧ Hid (wr.heap[go]? = some (.cells #[.int .u64 0, .int .u64 0, .int .u64 0, .int .u64 0] 117))) ∨ (s = 1 ∧ c = .int .u64 (k0 : Int) ∧ Hid (wr.heap[go]? = some (.cells #[.int .u64 (o0 : Int), .int .u64 0, .int .u64 0, .int .u64 0] 117))) ∨ (s = 2 ∧ c = .int .u64 (k1 : Int) ∧ Hid (wr.heap[go]? = some (.cells #[.int .u64 (o0 : Int), .int .u64 (o1 : Int), .int .u64 0, .int .u64 0] 117))))) (fun _ k _ => 2 - (intOf k).toNat)
      case atStart => exact ⟨0, rfl, NB, XB, YB, ZB, .inl ⟨rfl, rfl, OB⟩⟩
      case round =>
        clear NB XB YB ZB OB
        obtain ⟨s, rfl, NB, XB, YB, ZB, (⟨rfl, rfl, OB⟩ | ⟨rfl, rfl, OB⟩ | ⟨rfl, rfl, OB⟩)⟩ := hrel
        · have ox := blk_cell OB.out 0 _ rfl
          have xx := blk_cell XB.out 0 _ rfl
          have yy := blk_cell YB.out 0 _ rfl
          have og := blk_lt OB.out
          have of_ := blk_frozen OB.out 0
          go_wp2_with fail
          go_quiet (fail)
          go_wp2_with fail
          refine ⟨⟨1, rfl, Lib.hid (Bset1 (below_drewN NB.out nq) e4.out 0 _), Lib.hid (blk_set_other XB.out e1.out 0 _), Lib.hid (blk_set_other YB.out e2.out 0 _), Lib.hid (blk_set_other ZB.out e3.out 0 _), .inr (.inl ⟨rfl, rfl, Lib.hid (blk_set OB.out 0 (.int .u64 (o0 : Int)))⟩)⟩, by simp [intOf]⟩
        · have ox := blk_cell OB.out 1 _ rfl
          have xx := blk_cell XB.out 0 _ rfl
          have yy := blk_cell YB.out 1 _ rfl
          have og := blk_lt OB.out
          have of_ := blk_frozen OB.out 1
          go_wp2_with fail
          go_quiet (fail)
          go_wp2_with fail
          refine ⟨⟨2, rfl, Lib.hid (Bset1 (below_drewN NB.out nq) e4.out 1 _), Lib.hid (blk_set_other XB.out e1.out 1 _), Lib.hid (blk_set_other YB.out e2.out 1 _), Lib.hid (blk_set_other ZB.out e3.out 1 _), .inr (.inr ⟨rfl, rfl, Lib.hid (blk_set OB.out 1 (.int .u64 (o1 : Int)))⟩)⟩, by simp [intOf]⟩
        · have ox := blk_cell OB.out 2 _ rfl
          have og := blk_lt OB.out
          have of_ := blk_frozen OB.out 2
          go_wp2_with fail
          go_roundw
          case rel => exact ⟨1, rfl, Lib.hid (Bset1 NB.out e4.out 2 _), Lib.hid (blk_set_other XB.out e1.out 2 _), Lib.hid (blk_set_other YB.out e2.out 2 _), Lib.hid (blk_set_other ZB.out e3.out 2 _), .inr (.inl ⟨rfl, Lib.hid (blk_set OB.out 2 (.int .u64 (k1 : Int)))⟩)⟩
          case measure => simp [intOf]
    · obtain ⟨wo, rfl⟩ : ∃ wo : World, wo = wr := ⟨_, rfl⟩
      go_wp2_with fail
      go_loopw [9, 10] (fun c k wr => ∃ s : Nat, k = .int .i64 s ∧ Hid (Below w.heap.size w wr) ∧ Hid (wr.heap[gx]? = some (.cells #[.int .u64 (x0 : Int), .int .u64 (x1 : Int), .int .u64 0, .int .u64 0] 117)) ∧ Hid (wr.heap[gy]? = some (.cells #[.int .u64 (y0 : Int), .int .u64 (y1 : Int), .int .u64 0, .int .u64 0] 117)) ∧ Hid (wr.heap[w.heap.size]? = some (.cells #[.int .u64 0, .int .u64 0, .int .u64 0, .int .u64 0] 117)) ∧ ((s = 0 ∧ c = .int .u64 0 ∧ Hid (wr.heap[go]? = some (.cells #[.int .u64 (o0 : Int), .int .u64 (o1 : Int), .int .u64 (k1 : Int), .int .u64 0] 117))) ∨ (s = 1 ∧ c = .int .u64 (k2 : Int) ∧ Hid (wr.heap[go]? = some (.cells #[.int .u64 (o0 : Int), .int .u64 (p1 : Int), .int .u64 (k1 : Int), .int .u64 0] 117))) ∨ (s = 2 ∧ c = .int .u64 (p3 : Int) ∧ Hid (wr.heap[go]? = some (.cells #[.int .u64 (o0 : Int), .int .u64 (p1 : Int), .int .u64 (p2 : Int), .int .u64 0] 117))))) (fun _ k _ => 2 - (intOf k).toNat)
      case atStart => exact ⟨0, rfl, NB, XB, YB, ZB, .inl ⟨rfl, rfl, OB⟩⟩
      case round =>
        clear NB XB YB ZB OB
        obtain ⟨s, rfl, NB, XB, YB, ZB, (⟨rfl, rfl, OB⟩ | ⟨rfl, rfl, OB⟩ | ⟨rfl, rfl, OB⟩)⟩ := hrel
        · have ox := blk_cell OB.out 1 _ rfl
          have xx := blk_cell XB.out 1 _ rfl
          have yy := blk_cell YB.out 0 _ rfl
          have og := blk_lt OB.out
          have of_ := blk_frozen OB.out 1
          go_wp2_with fail
          go_quiet (fail)
          go_wp2_with fail
          refine ⟨⟨1, rfl, Lib.hid (Bset1 (below_drewN NB.out nq) e4.out 1 _), Lib.hid (blk_set_other XB.out e1.out 1 _), Lib.hid (blk_set_other YB.out e2.out 1 _), Lib.hid (blk_set_other ZB.out e3.out 1 _), .inr (.inl ⟨rfl, rfl, Lib.hid (blk_set OB.out 1 (.int .u64 (p1 : Int)))⟩)⟩, by simp [intOf]⟩
        · have ox := blk_cell OB.out 2 _ rfl
          have xx := blk_cell XB.out 1 _ rfl
          have yy := blk_cell YB.out 1 _ rfl
          have og := blk_lt OB.out
          have of_ := blk_frozen OB.out 2
          go_wp2_with fail
          go_quiet (fail)
          go_wp2_with fail
          refine ⟨⟨2, rfl, Lib.hid (Bset1 (below_drewN NB.out nq) e4.out 2 _), Lib.hid (blk_set_other XB.out e1.out 2 _), Lib.hid (blk_set_other YB.out e2.out 2 _), Lib.hid (blk_set_other ZB.out e3.out 2 _), .inr (.inr ⟨rfl, rfl, Lib.hid (blk_set OB.out 2 (.int .u64 (p2 : Int)))⟩)⟩, by simp [intOf]⟩
        · have ox := blk_cell OB.out 3 _ rfl
          have og := blk_lt OB.out
          have of_ := blk_frozen OB.out 3
          go_wp2_with fail
          go_roundw
          case rel => exact ⟨2, rfl, Lib.hid (Bset1 NB.out e4.out 3 _), Lib.hid (blk_set_other XB.out e1.out 3 _), Lib.hid (blk_set_other YB.out e2.out 3 _), Lib.hid (blk_set_other ZB.out e3.out 3 _), .inr (.inr ⟨rfl, Lib.hid (blk_set OB.out 3 (.int .u64 (p3 : Int)))⟩)⟩
          case measure => simp [intOf]
    · have z0 := blk_cell OB.out 0 _ rfl
      have z1 := blk_cell OB.out 1 _ rfl
      have z2 := blk_cell OB.out 2 _ rfl
      have z3 := blk_cell OB.out 3 _ rfl
      have y0 := blk_cell ZB.out 0 _ rfl
      have f0 := blk_frozen ZB.out 0
      have y1 := blk_cell ZB.out 1 _ rfl
      have f1 := blk_frozen ZB.out 1
      have y2 := blk_cell ZB.out 2 _ rfl
      have f2 := blk_frozen ZB.out 2
      have y3 := blk_cell ZB.out 3 _ rfl
      have f3 := blk_frozen ZB.out 3
      have gl := blk_lt ZB.out
      have ol := blk_lt OB.out
      go_wp2_with fail
      have Z := blk_set (blk_set (blk_set (blk_set ZB.out 0 (.int .u64 (o0 : Int))) 1 (.int .u64 (p1 : Int))) 2 (.int .u64 (p2 : Int))) 3 (.int .u64 (p3 : Int))
      have g0 := blk_cell Z 0 _ rfl
      have g1 := blk_cell Z 1 _ rfl
      have g2 := blk_cell Z 2 _ rfl
      have g3 := blk_cell Z 3 _ rfl
      refine bodyPost_ret (v := Bv o0 p1 p2 p3) (by simp [results, Try.results69, go_sem, g0, g1, g2, g3]) rfl ⟨by rw [FIN.out], Bset1 (Bset1 (Bset1 (Bset1 NB.out (Nat.le_refl _) _ _) (Nat.le_refl _) _ _) (Nat.le_refl _) _ _) (Nat.le_refl _) _ _⟩
end Go.Proofs.Ytfangplfbbgphaa
