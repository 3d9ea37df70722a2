/- Several texts in one. -/
import Derived.Test.YtapehckcmmompaaM18
import Derived.Test.YtapehckcmmompaaM22
import Derived.Test.YtapehckcmmompaaM24
import Derived.Test.YtapehckcmmompaaM25
import Derived.Test.YtapehckcmmompaaM28
namespace Go.Proofs.Ytapehckcmmompaa
open Go.ChangeShapes Go.WideShapes Go.ChangeAt Go.RowKit Go.Deep Go.Joins
set_option linter.unusedVariables false
set_option linter.unusedSimpArgs false
set_option maxRecDepth 100000
attribute [local go_sem ↓] Go.wp_at_zero Go.wp_at_succ
theorem twin_ok {ds : List Dk} {os : List Ob} (h : (decide (ds.length ≤ 20) && (decide (os.length ≤ 20) && ds.all fun d => decide (d.blocks.length ≤ 1000) && d.blocks.all fun b => decide (b.length ≤ 100))) = true) : ds.length ≤ 20 ∧ os.length ≤ 20 ∧ ∀ k ∈ ds, k.blocks.length ≤ 1000 ∧ ∀ b ∈ k.blocks, b.length ≤ 100 := by
 simp only [Bool.and_eq_true, decide_eq_true_eq, List.all_eq_true] at h
 exact h
theorem own_sto {B : Nat} {w : World} {v : Value} {n : Nat} {xs : List Value} (h : w.ownsRow B 3 1 v n xs) {g o : Nat} {cs : Array Value} {fz : Nat × Nat} (hg : w.heap[g]? = some (.cells cs 25 fz)) (x : Value) : (w.setCell ⟨g, o, none⟩ x).ownsRow B 3 1 v n xs :=
 own_same h fun g' cs' _ hh => set_keep hg hh (by decide) x
theorem rba_one (w : World) (x : Nat) (hx : x < 256) : RBA 0 (w.alloc (.cells #[.int .u8 (x : Int)] 5)) (some ⟨w.heap.size, 0, none⟩) [x] := by
 refine ⟨fun y hy => by simp at hy; omega, fun j u hu => ?_⟩
 match j with
 | 0 => cases hu; exact ⟨_, 0, rfl, Nat.zero_le _, blk_lt (blk_new _ _), blk_cell (blk_new _ _) 0 _ rfl⟩
 | j + 1 => simp [bv] at hu
theorem wrong_facts : ∃ (s0 : So) (s1 : So) (s2 : Dk) (s3 : List Nat) (s4 : So) (s7 : So) (s8 : So) (s9 : So) (s10 : So) (s11 : Dk) (s12 : List Nat) (s13 : So), newS (2) (2) = s0 ∧ newE (2) (2) = 0 ∧ smallB s0.2.2.2 = true ∧ putS s0.1 s0.2.1 s0.2.2.1 s0.2.2.2 ⟨#[97]⟩ (txtL 30) = s1 ∧ putE s0.1 s0.2.1 s0.2.2.1 s0.2.2.2 ⟨#[97]⟩ (txtL 30) = 0 ∧ smallB s1.2.2.2 = true ∧ chS s1.1 s1.2.1 s1.2.2.1 s1.2.2.2 = 0 ∧ s1.2.2.1.length = 4 ∧ strN s1.2.2.2 = 2 ∧ faN s1.2.2.1 = 0 ∧ s1.2.2.1[1]? = some s2 ∧ s2.blocks[1]? = some s3 ∧ s3.length = 8 ∧ (s1.1, s1.2.1, s1.2.2.1.set 1 ⟨s2.failed, s2.blocks.set 1 (s3.set 3 (s3.getD 3 0 ^^^ 16))⟩, s1.2.2.2) = s4 ∧ smallB s4.2.2.2 = true ∧ (getR s4.1 s4.2.1 s4.2.2.1 s4.2.2.2 ⟨#[97]⟩).2 = 30 ∧ scrR s4.1 s4.2.1 s4.2.2.1 s4.2.2.2 = [1] ∧ scrE s4.1 s4.2.1 s4.2.2.1 s4.2.2.2 = 0 ∧ menS s4.1 s4.2.1 s4.2.2.1 s4.2.2.2 1 = s7 ∧ menE s4.1 s4.2.1 s4.2.2.1 s4.2.2.2 1 = 0 ∧ menD s4.1 s4.2.1 s4.2.2.1 s4.2.2.2 1 = 1 ∧ s1 = s7 ∧ menS s4.1 s4.2.1 s4.2.2.1 s4.2.2.2 0 = s8 ∧ menE s4.1 s4.2.1 s4.2.2.1 s4.2.2.2 0 = 0 ∧ menD s4.1 s4.2.1 s4.2.2.1 s4.2.2.2 0 = (-1) ∧ s4 = s8 ∧ newS (1) (0) = s9 ∧ newE (1) (0) = 0 ∧ smallB s9.2.2.2 = true ∧ putS s9.1 s9.2.1 s9.2.2.1 s9.2.2.2 ⟨#[97]⟩ [7] = s10 ∧ putE s9.1 s9.2.1 s9.2.2.1 s9.2.2.2 ⟨#[97]⟩ [7] = 0 ∧ smallB s10.2.2.2 = true ∧ chS s10.1 s10.2.1 s10.2.2.1 s10.2.2.2 = 0 ∧ s10.2.2.1[0]? = some s11 ∧ s11.blocks.length = 1 ∧ s11.blocks[0]? = some s12 ∧ s12.length = 8 ∧ (s10.1, s10.2.1, s10.2.2.1.set 0 ⟨s11.failed, s11.blocks.set 0 (s12.set 0 8)⟩, s10.2.2.2) = s13 ∧ smallB s13.2.2.2 = true ∧ (getR s13.1 s13.2.1 s13.2.2.1 s13.2.2.2 ⟨#[97]⟩).2 = 30 ∧ scrR s13.1 s13.2.1 s13.2.2.1 s13.2.2.2 = [] ∧ scrE s13.1 s13.2.1 s13.2.2.1 s13.2.2.2 = 0 ∧ (decide (s1.2.2.1.length ≤ 20) && (decide (s1.2.2.2.length ≤ 20) && s1.2.2.1.all fun d => decide (d.blocks.length ≤ 1000) && d.blocks.all fun b => decide (b.length ≤ 100))) = true ∧ (decide (s10.2.2.1.length ≤ 20) && (decide (s10.2.2.2.length ≤ 20) && s10.2.2.1.all fun d => decide (d.blocks.length ≤ 1000) && d.blocks.all fun b => decide (b.length ≤ 100))) = true :=
 ⟨_, _, _, _, _, _, _, _, _, _, _, _, rfl, by kernel_rfl, by kernel_rfl, rfl, by kernel_rfl, by kernel_rfl, by kernel_rfl, by kernel_rfl, by kernel_rfl, by kernel_rfl, rfl, rfl, by kernel_rfl, rfl, by kernel_rfl, by kernel_rfl, by kernel_rfl, by kernel_rfl, rfl, by kernel_rfl, by kernel_rfl, by kernel_rfl, rfl, by kernel_rfl, by kernel_rfl, by kernel_rfl, rfl, by kernel_rfl, by kernel_rfl, rfl, by kernel_rfl, by kernel_rfl, by kernel_rfl, rfl, by kernel_rfl, rfl, by kernel_rfl, rfl, by kernel_rfl, by kernel_rfl, by kernel_rfl, by kernel_rfl, by kernel_rfl, by kernel_rfl⟩
set_option maxHeartbeats 16000000 in
theorem wrong_calls (w : World) : Calls Try.prog 40 #[] w fun e w' => e = .returned (.bool true) ∧ Below w.heap.size w w' := by
 have NN := Lib.hid (Below.refl w.heap.size w)
 obtain ⟨⟨s0a, s0b, s0c, s0d⟩, ⟨s1a, s1b, s1c, s1d⟩, s2, s3, ⟨s4a, s4b, s4c, s4d⟩, ⟨s7a, s7b, s7c, s7d⟩, ⟨s8a, s8b, s8c, s8d⟩, ⟨s9a, s9b, s9c, s9d⟩, ⟨s10a, s10b, s10c, s10d⟩, s11, s12, ⟨s13a, s13b, s13c, s13d⟩, e0, e1, e2, e3, e4, e5, e6, e7, e8, e9, e10, e11, e12, e13, e14, e15, e16, e17, e18, e19, e20, e21, e22, e23, e24, e25, e26, e27, e28, e29, e30, e31, e32, e33, e34, e35, e36, e37, e38, e39, e40, e41, e42, e43⟩ := wrong_facts
 simp only at e2 e3 e4 e5 e6 e7 e8 e9 e10 e11 e12 e13 e14 e15 e16 e17 e18 e19 e20 e21 e22 e23 e24 e25 e28 e29 e30 e31 e32 e33 e34 e35 e36 e37 e38 e39 e40 e41 e42 e43
 have N0 := Lib.hid (fun (W : World) => new_calls (2) (2) W)
 rw [e0, e1] at N0
 have N9 := Lib.hid (fun (W : World) => new_calls (1) (0) W)
 rw [e26, e27] at N9
 have C1 := Lib.hid (fun (D A : Option Addr) (cd ca B : Nat) (W : World) h1 h2 h3 h4 h5 h6 (Ab : Option Addr) (cb Bb : Nat) hb1 hb2 hb3 => put_calls s0a s0b D A cd ca B s0c s0d ⟨#[97]⟩ Ab cb Bb (txtL 30) W h1 h2 h3 h4 h5 h6 (smallB_lh e2) (by decide) hb1 hb2 hb3)
 rw [e3, e4] at C1
 have C5 := Lib.hid (fun (D A : Option Addr) (cd ca B : Nat) (W : World) h1 h2 h3 h4 h5 h6 => get_calls s4a s4b D A cd ca B s4c s4d ⟨#[97]⟩ W h1 h2 h3 h4 h5 h6 (smallB_lh e14))
 obtain ⟨⟨s5', z5⟩, hz5⟩ : ∃ r, getR s4a s4b s4c s4d ⟨#[97]⟩ = r := ⟨_, rfl⟩
 rw [hz5] at C5 e15
 simp only at e15
 subst e15
 clear hz5
 have s5 := s5'
 have C6 := Lib.hid (fun (D A : Option Addr) (cd ca B : Nat) (W : World) h1 h2 h3 h4 h5 h6 => scrub_calls s4a s4b D A cd ca B s4c s4d W h1 h2 h3 h4 h5 h6 (smallB_lh e14))
 rw [e16, e17] at C6
 have C7 := Lib.hid (fun (D A : Option Addr) (cd ca B : Nat) (W : World) h1 h2 h3 h4 h5 h6 => mend_calls s4a s4b D A cd ca B s4c s4d 1 W h1 h2 h3 h4 h5 h6 (smallB_lh e14))
 rw [e18, e19, e20] at C7
 have C8 := Lib.hid (fun (D A : Option Addr) (cd ca B : Nat) (W : World) h1 h2 h3 h4 h5 h6 => mend_calls s4a s4b D A cd ca B s4c s4d 0 W h1 h2 h3 h4 h5 h6 (smallB_lh e14))
 rw [e22, e23, e24] at C8
 have C10 := Lib.hid (fun (D A : Option Addr) (cd ca B : Nat) (W : World) h1 h2 h3 h4 h5 h6 (Ab : Option Addr) (cb Bb : Nat) hb1 hb2 hb3 => put_calls s9a s9b D A cd ca B s9c s9d ⟨#[97]⟩ Ab cb Bb [7] W h1 h2 h3 h4 h5 h6 (smallB_lh e28) (by decide) hb1 hb2 hb3)
 rw [e29, e30] at C10
 have C14 := Lib.hid (fun (D A : Option Addr) (cd ca B : Nat) (W : World) h1 h2 h3 h4 h5 h6 => get_calls s13a s13b D A cd ca B s13c s13d ⟨#[97]⟩ W h1 h2 h3 h4 h5 h6 (smallB_lh e38))
 obtain ⟨⟨s14', z14⟩, hz14⟩ : ∃ r, getR s13a s13b s13c s13d ⟨#[97]⟩ = r := ⟨_, rfl⟩
 rw [hz14] at C14 e39
 simp only at e39
 subst e39
 clear hz14
 have s14 := s14'
 have C15 := Lib.hid (fun (D A : Option Addr) (cd ca B : Nat) (W : World) h1 h2 h3 h4 h5 h6 => scrub_calls s13a s13b D A cd ca B s13c s13d W h1 h2 h3 h4 h5 h6 (smallB_lh e38))
 rw [e40, e41] at C15
 have CK1 := Lib.hid (fun (D A : Option Addr) (cd ca B : Nat) (W : World) h1 h2 h3 h4 h5 h6 => oRefCheck_calls s1a s1b D A cd ca B s1c s1d W h1 h2 h3 h4 h5 h6 (smallB_lh e5))
 rw [e6] at CK1
 have CF1 := Lib.hid (fun (D : Option Addr) (cd B : Nat) (ov : Value) (W : World) h1 h2 h3 => failed_calls s1a s1b ov D cd B s1c W h1 h2 h3)
 rw [e9] at CF1
 have CS1 := Lib.hid (fun (A : Option Addr) (ca B : Nat) (dv : Value) (W : World) h1 h2 h3 => stripes_calls s1a s1b dv A ca B s1d W h1 h2 h3 (chS_ok e6).sm (by have := (chS_ok e6).n16; omega))
 rw [e8] at CS1
 have CK2 := Lib.hid (fun (D A : Option Addr) (cd ca B : Nat) (W : World) h1 h2 h3 h4 h5 h6 => oRefCheck_calls s10a s10b D A cd ca B s10c s10d W h1 h2 h3 h4 h5 h6 (smallB_lh e31))
 rw [e32] at CK2
 have TW1 := Lib.hid (fun (D A : Option Addr) (cd ca B : Nat) (W : World) h1 h2 h3 h4 h5 h6 => twin_calls s1a s1b D A cd ca B s1c s1d W h1 h2 h3 h4 h5 h6 (twin_ok e42).1 (twin_ok e42).2.1 (twin_ok e42).2.2)
 have TW2 := Lib.hid (fun (D A : Option Addr) (cd ca B : Nat) (W : World) h1 h2 h3 h4 h5 h6 => twin_calls s10a s10b D A cd ca B s10c s10d W h1 h2 h3 h4 h5 h6 (twin_ok e43).1 (twin_ok e43).2.1 (twin_ok e43).2.2)
 have TX : Hid (∀ W : World, Calls Try.prog 38 #[.int .i64 30] W fun e w' => ∃ v, e = .returned v ∧ OB W.heap.size w' v (txtL 30) ∧ Below W.heap.size W w') := Lib.hid (fun (W : World) => text_calls 30 (by decide) W)
 have TB := Lib.hid (txtL_byt 30)
 generalize txtL 30 = tx at *
 have HXa := Lib.hid e10
 have HXb := Lib.hid e11
 have HXc := Lib.hid e12
 have HXd := Lib.hid e33
 have HXe := Lib.hid e35
 have HXf := Lib.hid e36
 have HXg := Lib.hid e34
 simp only [Prod.mk.injEq] at e13 e37 e21 e25
 obtain ⟨rfl, rfl, hT1, rfl⟩ := e13
 obtain ⟨rfl, rfl, hT2, rfl⟩ := e37
 obtain ⟨rfl, rfl, rfl, rfl⟩ := e21
 obtain ⟨rfl, rfl, rfl, rfl⟩ := e25
 have HT1 := Lib.hid hT1
 have HT2 := Lib.hid hT2
 have L4 : ((s1c.length : Nat) : Int) = 4 := by rw [e7]; rfl
 have HL1 := Lib.hid e7
 skip
 clear e0 e1 e2 e3 e4 e5 e6 e7 e8 e9 e10 e11 e12 e14 e16 e17 e18 e19 e20 e22 e23 e24 e26 e27 e28 e29 e30 e31 e32 e33 e34 e35 e36 e38 e40 e41 e42 e43 hT1 hT2
 go_enter Try.func40, Try.ntmps40
 go_wp2_with fail
 refine (N0.out _).mono ?_
 rintro e w1 ⟨v, u, rfl, ht, hu, hb⟩
 try simp only at ht hu
 obtain ⟨A0, c0, rfl, k0a, k0b⟩ := ht.form
 obtain ⟨B0, d0, rfl, k0c, k0d⟩ := hu.form
 have T0 := Lib.hid ht
 have U0 := Lib.hid hu
 clear ht hu
 replace NN := Lib.hid (Bgo NN.out hb)
 clear hb
 have HB : Hid (Below w1.heap.size w1 (w1.alloc (.cells #[.int .i64 s0a, .int .i64 s0b, .slice A0 s0c.length c0, .slice B0 s0d.length d0] 25))) := Lib.hid (Bal (Below.refl _ _) _)
 have V1 := Lib.hid (blk_new w1 (.cells #[.int .i64 s0a, .int .i64 s0b, .slice A0 s0c.length c0, .slice B0 s0d.length d0] 25))
 have LT_V1 : Hid (w.heap.size ≤ w1.heap.size) := Lib.hid NN.out.size
 replace NN := Lib.hid (Bgo NN.out HB.out)
 replace T0 := Lib.hid (T0.out.next HB.out)
 replace U0 := Lib.hid (U0.out.next HB.out)
 clear HB
 go_wp2_with fail
 generalize w1.alloc (.cells #[.int .i64 s0a, .int .i64 s0b, .slice A0 s0c.length c0, .slice B0 s0d.length d0] 25) = W2 at *
 generalize w1.heap.size = g2 at *
 have HDRW := Lib.hid (Below.drew (Below.refl W2.heap.size W2))
 replace NN := Lib.hid (Bgo NN.out HDRW.out)
 replace T0 := Lib.hid (T0.out.next HDRW.out)
 replace U0 := Lib.hid (U0.out.next HDRW.out)
 replace V1 := Lib.hid (blk_next HDRW.out V1.out)
 clear HDRW
 have HAL : Hid (∀ kx9 : Nat, SZ [(0, ⟨g2, 0, none⟩, .int .i64 s0a), (0, ⟨g2, 1, none⟩, .int .i64 s0b), (0, ⟨g2, 2, none⟩, .slice A0 s0c.length c0), (0, ⟨g2, 3, none⟩, .slice B0 s0d.length d0)] [] kx9 W2.drew) := Lib.hid (fun kx9 => by
  constructor
  ·intro p hp e
   simp only [List.mem_cons, List.not_mem_nil, or_false] at hp
   rcases hp with rfl | rfl | rfl | rfl
   ·exact ⟨blk_lt V1.out, blk_cell V1.out 0 _ rfl⟩
   ·exact ⟨blk_lt V1.out, blk_cell V1.out 1 _ rfl⟩
   ·exact ⟨blk_lt V1.out, blk_cell V1.out 2 _ rfl⟩
   ·exact ⟨blk_lt V1.out, blk_cell V1.out 3 _ rfl⟩
  ·intro p hp e
   exact absurd hp (by simp)
  )
 refine region_I (S := SZ [(0, ⟨g2, 0, none⟩, .int .i64 s0a), (0, ⟨g2, 1, none⟩, .int .i64 s0b), (0, ⟨g2, 2, none⟩, .slice A0 s0c.length c0), (0, ⟨g2, 3, none⟩, .slice B0 s0d.length d0)] []) (by kernel_rfl) ?_
 refine tJ 0 (.agg #[.int .i64 s0a, .int .i64 s0b, .slice A0 s0c.length c0, .slice B0 s0d.length d0]) (some 28) rfl (HAL.out 0) (Or.inl ⟨by rfl, ?_⟩) ?_
 ·intro X hX
  obtain ⟨hz0, hc0⟩ := hX.1 (0, ⟨g2, 0, none⟩, .int .i64 s0a) (List.Mem.head _) rfl
  simp only at hz0 hc0
  obtain ⟨hz1, hc1⟩ := hX.1 (0, ⟨g2, 1, none⟩, .int .i64 s0b) (List.Mem.tail _ (List.Mem.head _)) rfl
  simp only at hz1 hc1
  obtain ⟨hz2, hc2⟩ := hX.1 (0, ⟨g2, 2, none⟩, .slice A0 s0c.length c0) (List.Mem.tail _ (List.Mem.tail _ (List.Mem.head _))) rfl
  simp only at hz2 hc2
  obtain ⟨hz3, hc3⟩ := hX.1 (0, ⟨g2, 3, none⟩, .slice B0 s0d.length d0) (List.Mem.tail _ (List.Mem.tail _ (List.Mem.tail _ (List.Mem.head _)))) rfl
  simp only at hz3 hc3
  clear hX
  go_simp
 try simp only [Act.put, zA, zB, zC]
 refine only_I 1 (by kernel_rfl) rfl (fun K' hK' => ?_)
 go_simp
 go_at_call 38
 refine (TX.out _).mono ?_
 rintro e x3 ⟨v, rfl, hv, hb⟩
 obtain ⟨Av, cv, rfl, va, vb, hv⟩ := OB.rb hv TB.out
 have VB := Lib.hid hv
 clear hv
 replace NN := Lib.hid (Bgo NN.out hb)
 replace T0 := Lib.hid (T0.out.next hb)
 replace U0 := Lib.hid (U0.out.next hb)
 replace V1 := Lib.hid (blk_next hb V1.out)
 go_simp
 refine hK'.out _ _ (fun _ _ hS => hS.next hb) ?_
 clear hK' K'
 try simp only [Act.put, zA, zB, zC]
 replace HAL := Lib.hid (fun kx9 => (HAL.out kx9).next hb)
 clear hb
 refine only_I 2 (by kernel_rfl) rfl (fun K' hK' => ?_)
 go_simp
 go_at_call 14
 refine (C1.out A0 B0 c0 d0 _ _ k0a k0b k0c k0d T0.out.rd U0.out.ro Av cv _ va vb VB.out).mono ?_
 rintro e x4 ⟨v, u, rfl, ht, hu, hb⟩
 try simp only at ht hu
 obtain ⟨A1, c1, rfl, k1a, k1b⟩ := ht.form
 obtain ⟨B1, d1, rfl, k1c, k1d⟩ := hu.form
 have T1 := Lib.hid ht
 have U1 := Lib.hid hu
 clear ht hu
 replace NN := Lib.hid (Bgo NN.out hb)
 replace T0 := Lib.hid (T0.out.next hb)
 replace U0 := Lib.hid (U0.out.next hb)
 replace V1 := Lib.hid (blk_next hb V1.out)
 go_simp
 refine hK'.out _ _ (fun _ _ hS => hS.next hb) ?_
 clear hK' K'
 try simp only [Act.put, zA, zB, zC]
 replace HAL := Lib.hid (fun kx9 => (HAL.out kx9).next hb)
 clear hb
 refine tJ 3 (.tuple #[Tv s1a s1b (.slice A1 s1c.length c1) (.slice B1 s1d.length d1), .int .i64 0]) (some 27) rfl (SZ.drop (by simp) (by simp)) (Or.inl ⟨by rfl, ?_⟩) ?_
 ·intro X hX
  clear hX
  go_simp
 try simp only [Act.put, zA, zB, zC]
 refine tJ 4 (Tv s1a s1b (.slice A1 s1c.length c1) (.slice B1 s1d.length d1)) (some 31) rfl (SZ.drop (by simp) (by simp)) (Or.inl ⟨by rfl, ?_⟩) ?_
 ·intro X hX
  clear hX
  go_simp
 try simp only [Act.put, zA, zB, zC]
 refine tJ 5 (.int .i64 0) (some 32) rfl (SZ.drop (by simp) (by simp)) (Or.inl ⟨by rfl, ?_⟩) ?_
 ·intro X hX
  clear hX
  go_simp
 try simp only [Act.put, zA, zB, zC]
 refine only_I 6 (by kernel_rfl) rfl (fun K' hK' => ?_)
 have sc0 := blk_cell V1.out 0 _ rfl
 have sf0 := blk_frozen V1.out 0
 have sc1 := blk_cell V1.out 1 _ rfl
 have sf1 := blk_frozen V1.out 1
 have sc2 := blk_cell V1.out 2 _ rfl
 have sf2 := blk_frozen V1.out 2
 have sc3 := blk_cell V1.out 3 _ rfl
 have sf3 := blk_frozen V1.out 3
 have sl := blk_lt V1.out
 go_simp
 refine hK'.out _ _ (fun kk hk hS => ⟨fun p hp e => ?_, fun p hp e => ?_⟩) ?_
 ·simp only [List.mem_cons, List.not_mem_nil, or_false] at hp
  rcases hp with rfl | rfl | rfl | rfl
  ·subst e; exact bfl (by kernel_rfl) hk
  ·subst e; exact bfl (by kernel_rfl) hk
  ·subst e; exact bfl (by kernel_rfl) hk
  ·subst e; exact bfl (by kernel_rfl) hk
 ·exact absurd hp (by simp)
 clear hK' K'
 try simp only [Act.put, zA, zB, zC]
 refine tJ 7 (.int .i64 0) (some 3) rfl (SZ.drop (by simp) (by simp)) (Or.inl ⟨by rfl, ?_⟩) ?_
 ·intro X hX
  clear hX
  go_simp
 try simp only [Act.put, zA, zB, zC]
 clear HAL
 refine done_I (by kernel_rfl) ?_ _
 clear T0 U0 VB
 replace T1 := Lib.hid (OT.same_ (o := 3) (OT.same_ (o := 2) (OT.same_ (o := 1) (OT.same_ (o := 0) (T1.out) (V1.out) ne_sto_u8 ne_sto_sl ne_sto_dk (.int .i64 s1a)) (blk_set (V1.out) 0 (.int .i64 s1a)) ne_sto_u8 ne_sto_sl ne_sto_dk (.int .i64 s1b)) (blk_set (blk_set (V1.out) 0 (.int .i64 s1a)) 1 (.int .i64 s1b)) ne_sto_u8 ne_sto_sl ne_sto_dk (.slice A1 s1c.length c1)) (blk_set (blk_set (blk_set (V1.out) 0 (.int .i64 s1a)) 1 (.int .i64 s1b)) 2 (.slice A1 s1c.length c1)) ne_sto_u8 ne_sto_sl ne_sto_dk (.slice B1 s1d.length d1))
 replace U1 := Lib.hid (OO.set_ (o := 3) (OO.set_ (o := 2) (OO.set_ (o := 1) (OO.set_ (o := 0) (U1.out) (V1.out) ne_sto_ob (.int .i64 s1a)) (blk_set (V1.out) 0 (.int .i64 s1a)) ne_sto_ob (.int .i64 s1b)) (blk_set (blk_set (V1.out) 0 (.int .i64 s1a)) 1 (.int .i64 s1b)) ne_sto_ob (.slice A1 s1c.length c1)) (blk_set (blk_set (blk_set (V1.out) 0 (.int .i64 s1a)) 1 (.int .i64 s1b)) 2 (.slice A1 s1c.length c1)) ne_sto_ob (.slice B1 s1d.length d1))
 replace V1 : Hid (((((x4.setCell ⟨g2, 0, none⟩ (.int .i64 s1a)).setCell ⟨g2, 1, none⟩ (.int .i64 s1b)).setCell ⟨g2, 2, none⟩ (.slice A1 s1c.length c1)).setCell ⟨g2, 3, none⟩ (.slice B1 s1d.length d1)).heap[g2]? = some (.cells #[.int .i64 s1a, .int .i64 s1b, .slice A1 s1c.length c1, .slice B1 s1d.length d1] 25)) := Lib.hid (blk_set (blk_set (blk_set (blk_set (V1.out) 0 (.int .i64 s1a)) 1 (.int .i64 s1b)) 2 (.slice A1 s1c.length c1)) 3 (.slice B1 s1d.length d1))
 replace NN := Lib.hid (Bset1 (Bset1 (Bset1 (Bset1 (NN.out) (show w.heap.size ≤ g2 by have := LT_V1.out; omega) 0 (.int .i64 s1a)) (show w.heap.size ≤ g2 by have := LT_V1.out; omega) 1 (.int .i64 s1b)) (show w.heap.size ≤ g2 by have := LT_V1.out; omega) 2 (.slice A1 s1c.length c1)) (show w.heap.size ≤ g2 by have := LT_V1.out; omega) 3 (.slice B1 s1d.length d1))
 generalize ((((x4.setCell ⟨g2, 0, none⟩ (.int .i64 s1a)).setCell ⟨g2, 1, none⟩ (.int .i64 s1b)).setCell ⟨g2, 2, none⟩ (.slice A1 s1c.length c1)).setCell ⟨g2, 3, none⟩ (.slice B1 s1d.length d1)) = W5 at *
 have c_V1_0 := blk_cell V1.out 0 _ rfl
 have f_V1_0 := blk_frozen V1.out 0
 have c_V1_1 := blk_cell V1.out 1 _ rfl
 have f_V1_1 := blk_frozen V1.out 1
 have c_V1_2 := blk_cell V1.out 2 _ rfl
 have f_V1_2 := blk_frozen V1.out 2
 have c_V1_3 := blk_cell V1.out 3 _ rfl
 have f_V1_3 := blk_frozen V1.out 3
 have l_V1 := blk_lt V1.out
 have l4a : decide (((s1c.length : Nat) : Int) = 4) = true := decide_eq_true L4
 have l4b : (((s1c.length : Nat) : Int) != 4) = false := by rw [L4]; rfl
 skip
 go_wp2_with fail
 refine (CK1.out A1 B1 c1 d1 _ _ k1a k1b k1c k1d T1.out.rd U1.out.ro).mono ?_
 rintro e w6 ⟨rfl, hb⟩
 clear c_V1_0 f_V1_0 c_V1_1 f_V1_1 c_V1_2 f_V1_2 c_V1_3 f_V1_3 l_V1
 replace NN := Lib.hid (Bgo NN.out hb)
 replace T1 := Lib.hid (T1.out.next hb)
 replace U1 := Lib.hid (U1.out.next hb)
 replace V1 := Lib.hid (blk_next hb V1.out)
 clear hb
 have c_V1_0 := blk_cell V1.out 0 _ rfl
 have f_V1_0 := blk_frozen V1.out 0
 have c_V1_1 := blk_cell V1.out 1 _ rfl
 have f_V1_1 := blk_frozen V1.out 1
 have c_V1_2 := blk_cell V1.out 2 _ rfl
 have f_V1_2 := blk_frozen V1.out 2
 have c_V1_3 := blk_cell V1.out 3 _ rfl
 have f_V1_3 := blk_frozen V1.out 3
 have l_V1 := blk_lt V1.out
 go_wp2_with fail
 refine (CS1.out B1 d1 _ _ _ k1c k1d U1.out.ro).mono ?_
 rintro e w7 ⟨rfl, hb⟩
 clear c_V1_0 f_V1_0 c_V1_1 f_V1_1 c_V1_2 f_V1_2 c_V1_3 f_V1_3 l_V1
 replace NN := Lib.hid (Bgo NN.out hb)
 replace T1 := Lib.hid (T1.out.next hb)
 replace U1 := Lib.hid (U1.out.next hb)
 replace V1 := Lib.hid (blk_next hb V1.out)
 clear hb
 have c_V1_0 := blk_cell V1.out 0 _ rfl
 have f_V1_0 := blk_frozen V1.out 0
 have c_V1_1 := blk_cell V1.out 1 _ rfl
 have f_V1_1 := blk_frozen V1.out 1
 have c_V1_2 := blk_cell V1.out 2 _ rfl
 have f_V1_2 := blk_frozen V1.out 2
 have c_V1_3 := blk_cell V1.out 3 _ rfl
 have f_V1_3 := blk_frozen V1.out 3
 have l_V1 := blk_lt V1.out
 go_wp2_with fail
 refine (CF1.out A1 c1 _ _ _ k1a k1b T1.out.rd).mono ?_
 rintro e w8 ⟨rfl, hb⟩
 clear c_V1_0 f_V1_0 c_V1_1 f_V1_1 c_V1_2 f_V1_2 c_V1_3 f_V1_3 l_V1
 replace NN := Lib.hid (Bgo NN.out hb)
 replace T1 := Lib.hid (T1.out.next hb)
 replace U1 := Lib.hid (U1.out.next hb)
 replace V1 := Lib.hid (blk_next hb V1.out)
 clear hb
 have c_V1_0 := blk_cell V1.out 0 _ rfl
 have f_V1_0 := blk_frozen V1.out 0
 have c_V1_1 := blk_cell V1.out 1 _ rfl
 have f_V1_1 := blk_frozen V1.out 1
 have c_V1_2 := blk_cell V1.out 2 _ rfl
 have f_V1_2 := blk_frozen V1.out 2
 have c_V1_3 := blk_cell V1.out 3 _ rfl
 have f_V1_3 := blk_frozen V1.out 3
 have l_V1 := blk_lt V1.out
 go_wp2_with fail
 have NB := Lib.hid (Below.refl w8.heap.size w8)
 have T1z := T1
 have U1z := U1
 have V1z := V1
 have LT_T : Hid (w.heap.size ≤ w8.heap.size) := Lib.hid NN.out.size
 refine (TW1.out A1 B1 c1 d1 _ _ k1a k1b k1c k1d T1.out.rd U1.out.ro).mono ?_
 rintro e w9 ⟨v, u, rfl, ht, hu, hb⟩
 try simp only at ht hu
 obtain ⟨A20, c20, rfl, k20a, k20b⟩ := ht.form
 obtain ⟨B20, d20, rfl, k20c, k20d⟩ := hu.form
 have T20 := Lib.hid ht
 have U20 := Lib.hid hu
 clear ht hu
 clear c_V1_0 f_V1_0 c_V1_1 f_V1_1 c_V1_2 f_V1_2 c_V1_3 f_V1_3 l_V1
 replace NN := Lib.hid (Bgo NN.out hb)
 replace T1 := Lib.hid (T1.out.next hb)
 replace U1 := Lib.hid (U1.out.next hb)
 replace NB := Lib.hid (Bgo NB.out hb)
 replace V1 := Lib.hid (blk_next hb V1.out)
 clear hb
 have HB : Hid (Below w9.heap.size w9 (w9.alloc (.cells #[.int .i64 s1a, .int .i64 s1b, .slice A20 s1c.length c20, .slice B20 s1d.length d20] 25))) := Lib.hid (Bal (Below.refl _ _) _)
 have V4 := Lib.hid (blk_new w9 (.cells #[.int .i64 s1a, .int .i64 s1b, .slice A20 s1c.length c20, .slice B20 s1d.length d20] 25))
 have LT_V4 : Hid (g2 < w9.heap.size ∧ w.heap.size ≤ w9.heap.size) := Lib.hid ⟨blk_lt V1.out, NN.out.size⟩
 replace NN := Lib.hid (Bgo NN.out HB.out)
 replace T1 := Lib.hid (T1.out.next HB.out)
 replace U1 := Lib.hid (U1.out.next HB.out)
 replace NB := Lib.hid (Bgo NB.out HB.out)
 replace T20 := Lib.hid (T20.out.next HB.out)
 replace U20 := Lib.hid (U20.out.next HB.out)
 replace V1 := Lib.hid (blk_next HB.out V1.out)
 clear HB
 go_upto_region 6 with fail
 generalize (w9.alloc (.cells #[.int .i64 s1a, .int .i64 s1b, .slice A20 s1c.length c20, .slice B20 s1d.length d20] 25)) = WT20 at *
 generalize w9.heap.size = G20 at *
 obtain ⟨hs, us, OSS⟩ := T20.out
 obtain ⟨g20, gt, gr, cy, cr, u, AT⟩ := os_at OSS HXa.out HXb.out (a := 3) (by rw [HXc.out]; decide)
 have ATH := Lib.hid AT
 have OH := Lib.hid OSS
 obtain ⟨rfl, -, z1, l1, z2, l2, z3, f3, l3, b3, -, -, -, -⟩ := AT
 replace z1 : WT20.cell? ⟨g20, 3, none⟩ = _ := z1
 have u2 : (1 : Int) < ((s1c.length : Nat) : Int) := by have := get_lt HXa.out; omega
 have u4 : (1 : Int) < ((s2.blocks.length : Nat) : Int) := by have := get_lt HXb.out; omega
 have u6 : (3 : Int) < ((s3.length : Nat) : Int) := by rw [HXc.out]; decide
 have u2n := get_lt HXa.out
 have u4n := get_lt HXb.out
 have u6n : 3 < s3.length := by rw [HXc.out]; decide
 have LB : Byt s3 := (T20.out.rd.byt _ (List.mem_of_getElem? HXa.out)) _ (List.mem_of_getElem? HXb.out)
 obtain ⟨bt, hbt⟩ : ∃ bt, bt = s3.getD 3 0 := ⟨_, rfl⟩
 rw [← hbt] at z3
 have lbt : bt < 256 := by rw [hbt]; exact LB.getD_ 3
 have X3 : bits BinOp.xor IntKind.u8 (bt : Int) 16 = ((bt ^^^ 16 : Nat) : Int) := u8_xor_nat bt 16 lbt (by decide)
 have HBT := Lib.hid hbt
 clear hbt LB
 clear OSS
 have c_V4_0 := blk_cell V4.out 0 _ rfl
 have f_V4_0 := blk_frozen V4.out 0
 have c_V4_1 := blk_cell V4.out 1 _ rfl
 have f_V4_1 := blk_frozen V4.out 1
 have c_V4_2 := blk_cell V4.out 2 _ rfl
 have f_V4_2 := blk_frozen V4.out 2
 have c_V4_3 := blk_cell V4.out 3 _ rfl
 have f_V4_3 := blk_frozen V4.out 3
 have l_V4 := blk_lt V4.out
 go_upto_region 7 with fail
 clear c_V4_0 f_V4_0 c_V4_1 f_V4_1 c_V4_2 f_V4_2 c_V4_3 f_V4_3 l_V4
 have OS2 := OS.byte (a := 3) (x := bt ^^^ 16) OH.out HXa.out ATH.out.hu ATH.out.hr HXb.out (Nat.xor_lt_two_pow (n := 8) lbt (by decide))
 have T4 : Hid (OT w8.heap.size (WT20.setCell ⟨gr, 3, none⟩ (.int .u8 ((bt ^^^ 16 : Nat) : Int))) (.slice (some ⟨g20, 0, none⟩) s1c.length c20) s4c) := Lib.hid ⟨_, _, by rw [← HT1.out, ← HBT.out]; exact OS2⟩
 have NEB := ATH.out.oth _ _ _ V4.out ne_u8_sto
 replace U20 : Hid (OO w8.heap.size (WT20.setCell ⟨gr, 3, none⟩ (.int .u8 ((bt ^^^ 16 : Nat) : Int))) (.slice B20 s1d.length d20) s1d) := Lib.hid (OO.u8 U20.out ATH.out.row)
 replace V4 : Hid ((WT20.setCell ⟨gr, 3, none⟩ (.int .u8 ((bt ^^^ 16 : Nat) : Int))).heap[G20]? = some (.cells #[.int .i64 s1a, .int .i64 s1b, .slice (some ⟨g20, 0, none⟩) s1c.length c20, .slice B20 s1d.length d20] 25)) := Lib.hid (blk_set_other V4.out NEB _ _)
 replace NB : Hid (Below w8.heap.size w8 (WT20.setCell ⟨gr, 3, none⟩ (.int .u8 ((bt ^^^ 16 : Nat) : Int)))) := Lib.hid (Bset1 NB.out b3 _ _)
 replace NN : Hid (Below w.heap.size w (WT20.setCell ⟨gr, 3, none⟩ (.int .u8 ((bt ^^^ 16 : Nat) : Int)))) := Lib.hid (Bset1 NN.out (Nat.le_trans LT_T.out b3) _ _)
 replace T1 := Lib.hid (T1z.out.next NB.out)
 replace U1 := Lib.hid (U1z.out.next NB.out)
 replace V1 := Lib.hid (blk_next NB.out V1z.out)
 clear z1 l1 z2 l2 z3 f3 l3 b3 u2 u4 u6 u2n u4n u6n NEB ATH OH OS2 NB LT_T X3 HBT lbt T20 T1z U1z V1z
 generalize (WT20.setCell ⟨gr, 3, none⟩ (.int .u8 ((bt ^^^ 16 : Nat) : Int))) = WY20 at *
 have tl : s4c.length = s1c.length := by rw [← HT1.out, List.length_set]
 replace V4 : Hid (WY20.heap[G20]? = some (.cells #[.int .i64 s1a, .int .i64 s1b, .slice (some ⟨g20, 0, none⟩) s4c.length c20, .slice B20 s1d.length d20] 25)) := Lib.hid (by rw [tl]; exact V4.out)
 have k4a : s4c.length ≤ c20 := by rw [tl]; exact k20a
 clear tl
 have c_V4_0 := blk_cell V4.out 0 _ rfl
 have f_V4_0 := blk_frozen V4.out 0
 have c_V4_1 := blk_cell V4.out 1 _ rfl
 have f_V4_1 := blk_frozen V4.out 1
 have c_V4_2 := blk_cell V4.out 2 _ rfl
 have f_V4_2 := blk_frozen V4.out 2
 have c_V4_3 := blk_cell V4.out 3 _ rfl
 have f_V4_3 := blk_frozen V4.out 3
 have l_V4 := blk_lt V4.out
 go_wp2_with fail
 refine (C5.out (some ⟨g20, 0, none⟩) B20 c20 d20 _ _ k4a k20b k20c k20d T4.out.rd U20.out.ro).mono ?_
 rintro e w11 ⟨v, rfl, hr, hb⟩
 simp only at hr
 obtain ⟨A5, c5, rfl, k5a, k5b, hr⟩ := hr
 clear hr
 clear c_V4_0 f_V4_0 c_V4_1 f_V4_1 c_V4_2 f_V4_2 c_V4_3 f_V4_3 l_V4
 replace NN := Lib.hid (Bgo NN.out hb)
 replace T1 := Lib.hid (T1.out.next hb)
 replace U1 := Lib.hid (U1.out.next hb)
 replace U20 := Lib.hid (U20.out.next hb)
 replace T4 := Lib.hid (T4.out.next hb)
 replace V1 := Lib.hid (blk_next hb V1.out)
 replace V4 := Lib.hid (blk_next hb V4.out)
 clear hb
 have c_V4_0 := blk_cell V4.out 0 _ rfl
 have f_V4_0 := blk_frozen V4.out 0
 have c_V4_1 := blk_cell V4.out 1 _ rfl
 have f_V4_1 := blk_frozen V4.out 1
 have c_V4_2 := blk_cell V4.out 2 _ rfl
 have f_V4_2 := blk_frozen V4.out 2
 have c_V4_3 := blk_cell V4.out 3 _ rfl
 have f_V4_3 := blk_frozen V4.out 3
 have l_V4 := blk_lt V4.out
 go_wp2_with fail
 refine (C6.out (some ⟨g20, 0, none⟩) B20 c20 d20 _ _ k4a k20b k20c k20d T4.out.rd U20.out.ro).mono ?_
 rintro e w12 ⟨v, rfl, hr, hb⟩
 obtain ⟨A6, c6, rfl, k6a, k6b, _⟩ := own_form hr
 have O6 := Lib.hid hr
 clear hr
 clear c_V4_0 f_V4_0 c_V4_1 f_V4_1 c_V4_2 f_V4_2 c_V4_3 f_V4_3 l_V4
 replace NN := Lib.hid (Bgo NN.out hb)
 replace T1 := Lib.hid (T1.out.next hb)
 replace U1 := Lib.hid (U1.out.next hb)
 replace U20 := Lib.hid (U20.out.next hb)
 replace T4 := Lib.hid (T4.out.next hb)
 replace V1 := Lib.hid (blk_next hb V1.out)
 replace V4 := Lib.hid (blk_next hb V4.out)
 clear hb
 have c_V4_0 := blk_cell V4.out 0 _ rfl
 have f_V4_0 := blk_frozen V4.out 0
 have c_V4_1 := blk_cell V4.out 1 _ rfl
 have f_V4_1 := blk_frozen V4.out 1
 have c_V4_2 := blk_cell V4.out 2 _ rfl
 have f_V4_2 := blk_frozen V4.out 2
 have c_V4_3 := blk_cell V4.out 3 _ rfl
 have f_V4_3 := blk_frozen V4.out 3
 have l_V4 := blk_lt V4.out
 go_wp2_with fail
 refine (C7.out (some ⟨g20, 0, none⟩) B20 c20 d20 _ _ k4a k20b k20c k20d T4.out.rd U20.out.ro).mono ?_
 rintro e w13 ⟨v, u, rfl, ht, hu, hb⟩
 try simp only at ht hu
 obtain ⟨A7, c7, rfl, k7a, k7b⟩ := ht.form
 obtain ⟨B7, d7, rfl, k7c, k7d⟩ := hu.form
 have T7 := Lib.hid ht
 have U7 := Lib.hid hu
 clear ht hu
 clear c_V4_0 f_V4_0 c_V4_1 f_V4_1 c_V4_2 f_V4_2 c_V4_3 f_V4_3 l_V4
 replace NN := Lib.hid (Bgo NN.out hb)
 replace T1 := Lib.hid (T1.out.next hb)
 replace U1 := Lib.hid (U1.out.next hb)
 replace U20 := Lib.hid (U20.out.next hb)
 replace T4 := Lib.hid (T4.out.next hb)
 replace O6 := Lib.hid (own_next hb O6.out)
 replace V1 := Lib.hid (blk_next hb V1.out)
 replace V4 := Lib.hid (blk_next hb V4.out)
 clear hb
 have HB : Hid (Below w13.heap.size w13 (w13.alloc (.cells #[.int .i64 s1a, .int .i64 s1b, .slice A7 s1c.length c7, .slice B7 s1d.length d7] 25))) := Lib.hid (Bal (Below.refl _ _) _)
 have V9 := Lib.hid (blk_new w13 (.cells #[.int .i64 s1a, .int .i64 s1b, .slice A7 s1c.length c7, .slice B7 s1d.length d7] 25))
 have LT_V9 : Hid (g2 < w13.heap.size ∧ G20 < w13.heap.size ∧ w.heap.size ≤ w13.heap.size) := Lib.hid ⟨blk_lt V1.out, blk_lt V4.out, NN.out.size⟩
 replace NN := Lib.hid (Bgo NN.out HB.out)
 replace T1 := Lib.hid (T1.out.next HB.out)
 replace U1 := Lib.hid (U1.out.next HB.out)
 replace U20 := Lib.hid (U20.out.next HB.out)
 replace T4 := Lib.hid (T4.out.next HB.out)
 replace O6 := Lib.hid (own_next HB.out O6.out)
 replace T7 := Lib.hid (T7.out.next HB.out)
 replace U7 := Lib.hid (U7.out.next HB.out)
 replace V1 := Lib.hid (blk_next HB.out V1.out)
 replace V4 := Lib.hid (blk_next HB.out V4.out)
 clear HB
 have c_V4_0 := blk_cell V4.out 0 _ rfl
 have f_V4_0 := blk_frozen V4.out 0
 have c_V4_1 := blk_cell V4.out 1 _ rfl
 have f_V4_1 := blk_frozen V4.out 1
 have c_V4_2 := blk_cell V4.out 2 _ rfl
 have f_V4_2 := blk_frozen V4.out 2
 have c_V4_3 := blk_cell V4.out 3 _ rfl
 have f_V4_3 := blk_frozen V4.out 3
 have l_V4 := blk_lt V4.out
 go_wp2_with fail
 clear c_V4_0 f_V4_0 c_V4_1 f_V4_1 c_V4_2 f_V4_2 c_V4_3 f_V4_3 l_V4
 generalize w13.alloc (.cells #[.int .i64 s1a, .int .i64 s1b, .slice A7 s1c.length c7, .slice B7 s1d.length d7] 25) = W14 at *
 generalize w13.heap.size = g14 at *
 refine (C8.out (some ⟨g20, 0, none⟩) B20 c20 d20 _ _ k4a k20b k20c k20d T4.out.rd U20.out.ro).mono ?_
 rintro e w15 ⟨v, u, rfl, ht, hu, hb⟩
 try simp only at ht hu
 obtain ⟨A8, c8, rfl, k8a, k8b⟩ := ht.form
 obtain ⟨B8, d8, rfl, k8c, k8d⟩ := hu.form
 have T8 := Lib.hid ht
 have U8 := Lib.hid hu
 clear ht hu
 replace NN := Lib.hid (Bgo NN.out hb)
 replace T1 := Lib.hid (T1.out.next hb)
 replace U1 := Lib.hid (U1.out.next hb)
 replace U20 := Lib.hid (U20.out.next hb)
 replace T4 := Lib.hid (T4.out.next hb)
 replace O6 := Lib.hid (own_next hb O6.out)
 replace T7 := Lib.hid (T7.out.next hb)
 replace U7 := Lib.hid (U7.out.next hb)
 replace V1 := Lib.hid (blk_next hb V1.out)
 replace V4 := Lib.hid (blk_next hb V4.out)
 replace V9 := Lib.hid (blk_next hb V9.out)
 clear hb
 have HB : Hid (Below w15.heap.size w15 (w15.alloc (.cells #[.int .i64 s1a, .int .i64 s1b, .slice A8 s4c.length c8, .slice B8 s1d.length d8] 25))) := Lib.hid (Bal (Below.refl _ _) _)
 have V12 := Lib.hid (blk_new w15 (.cells #[.int .i64 s1a, .int .i64 s1b, .slice A8 s4c.length c8, .slice B8 s1d.length d8] 25))
 have LT_V12 : Hid (g2 < w15.heap.size ∧ G20 < w15.heap.size ∧ g14 < w15.heap.size ∧ w.heap.size ≤ w15.heap.size) := Lib.hid ⟨blk_lt V1.out, blk_lt V4.out, blk_lt V9.out, NN.out.size⟩
 replace NN := Lib.hid (Bgo NN.out HB.out)
 replace T1 := Lib.hid (T1.out.next HB.out)
 replace U1 := Lib.hid (U1.out.next HB.out)
 replace U20 := Lib.hid (U20.out.next HB.out)
 replace T4 := Lib.hid (T4.out.next HB.out)
 replace O6 := Lib.hid (own_next HB.out O6.out)
 replace T7 := Lib.hid (T7.out.next HB.out)
 replace U7 := Lib.hid (U7.out.next HB.out)
 replace T8 := Lib.hid (T8.out.next HB.out)
 replace U8 := Lib.hid (U8.out.next HB.out)
 replace V1 := Lib.hid (blk_next HB.out V1.out)
 replace V4 := Lib.hid (blk_next HB.out V4.out)
 replace V9 := Lib.hid (blk_next HB.out V9.out)
 clear HB
 go_wp2_with fail
 generalize w15.alloc (.cells #[.int .i64 s1a, .int .i64 s1b, .slice A8 s4c.length c8, .slice B8 s1d.length d8] 25) = W16 at *
 generalize w15.heap.size = g16 at *
 refine (N9.out _).mono ?_
 rintro e w17 ⟨v, u, rfl, ht, hu, hb⟩
 try simp only at ht hu
 obtain ⟨A9, c9, rfl, k9a, k9b⟩ := ht.form
 obtain ⟨B9, d9, rfl, k9c, k9d⟩ := hu.form
 have T9 := Lib.hid ht
 have U9 := Lib.hid hu
 clear ht hu
 replace NN := Lib.hid (Bgo NN.out hb)
 replace T1 := Lib.hid (T1.out.next hb)
 replace U1 := Lib.hid (U1.out.next hb)
 replace U20 := Lib.hid (U20.out.next hb)
 replace T4 := Lib.hid (T4.out.next hb)
 replace O6 := Lib.hid (own_next hb O6.out)
 replace T7 := Lib.hid (T7.out.next hb)
 replace U7 := Lib.hid (U7.out.next hb)
 replace T8 := Lib.hid (T8.out.next hb)
 replace U8 := Lib.hid (U8.out.next hb)
 replace V1 := Lib.hid (blk_next hb V1.out)
 replace V4 := Lib.hid (blk_next hb V4.out)
 replace V9 := Lib.hid (blk_next hb V9.out)
 replace V12 := Lib.hid (blk_next hb V12.out)
 clear hb
 have HB : Hid (Below w17.heap.size w17 (w17.alloc (.cells #[.int .i64 s9a, .int .i64 s9b, .slice A9 s9c.length c9, .slice B9 s9d.length d9] 25))) := Lib.hid (Bal (Below.refl _ _) _)
 have V15 := Lib.hid (blk_new w17 (.cells #[.int .i64 s9a, .int .i64 s9b, .slice A9 s9c.length c9, .slice B9 s9d.length d9] 25))
 have LT_V15 : Hid (g2 < w17.heap.size ∧ G20 < w17.heap.size ∧ g14 < w17.heap.size ∧ g16 < w17.heap.size ∧ w.heap.size ≤ w17.heap.size) := Lib.hid ⟨blk_lt V1.out, blk_lt V4.out, blk_lt V9.out, blk_lt V12.out, NN.out.size⟩
 replace NN := Lib.hid (Bgo NN.out HB.out)
 replace T1 := Lib.hid (T1.out.next HB.out)
 replace U1 := Lib.hid (U1.out.next HB.out)
 replace U20 := Lib.hid (U20.out.next HB.out)
 replace T4 := Lib.hid (T4.out.next HB.out)
 replace O6 := Lib.hid (own_next HB.out O6.out)
 replace T7 := Lib.hid (T7.out.next HB.out)
 replace U7 := Lib.hid (U7.out.next HB.out)
 replace T8 := Lib.hid (T8.out.next HB.out)
 replace U8 := Lib.hid (U8.out.next HB.out)
 replace T9 := Lib.hid (T9.out.next HB.out)
 replace U9 := Lib.hid (U9.out.next HB.out)
 replace V1 := Lib.hid (blk_next HB.out V1.out)
 replace V4 := Lib.hid (blk_next HB.out V4.out)
 replace V9 := Lib.hid (blk_next HB.out V9.out)
 replace V12 := Lib.hid (blk_next HB.out V12.out)
 clear HB
 go_upto_region 12 with fail
 generalize (w17.alloc (.cells #[.int .i64 s9a, .int .i64 s9b, .slice A9 s9c.length c9, .slice B9 s9d.length d9] 25)) = WV15 at *
 generalize w17.heap.size = gV15 at *
 have RB7 : Hid (RBA 0 (WV15.alloc (.cells #[.int .u8 7] 5)) (some ⟨WV15.heap.size, 0, none⟩) [7]) := Lib.hid (rba_one WV15 7 (by decide))
 have c_V15_0 := blk_cell V15.out 0 _ rfl
 have f_V15_0 := blk_frozen V15.out 0
 have c_V15_1 := blk_cell V15.out 1 _ rfl
 have f_V15_1 := blk_frozen V15.out 1
 have c_V15_2 := blk_cell V15.out 2 _ rfl
 have f_V15_2 := blk_frozen V15.out 2
 have c_V15_3 := blk_cell V15.out 3 _ rfl
 have f_V15_3 := blk_frozen V15.out 3
 have l_V15 := blk_lt V15.out
 go_wp2_with fail
 clear c_V15_0 f_V15_0 c_V15_1 f_V15_1 c_V15_2 f_V15_2 c_V15_3 f_V15_3 l_V15
 have HB : Hid (Below WV15.heap.size WV15 (WV15.alloc (.cells #[.int .u8 7] 5))) := Lib.hid (Bal (Below.refl _ _) _)
 have IB := Lib.hid (blk_new WV15 (.cells #[.int .u8 7] 5))
 have LT_IB : Hid (g2 < WV15.heap.size ∧ G20 < WV15.heap.size ∧ g14 < WV15.heap.size ∧ g16 < WV15.heap.size ∧ gV15 < WV15.heap.size ∧ w.heap.size ≤ WV15.heap.size) := Lib.hid ⟨blk_lt V1.out, blk_lt V4.out, blk_lt V9.out, blk_lt V12.out, blk_lt V15.out, NN.out.size⟩
 replace NN := Lib.hid (Bgo NN.out HB.out)
 replace T1 := Lib.hid (T1.out.next HB.out)
 replace U1 := Lib.hid (U1.out.next HB.out)
 replace U20 := Lib.hid (U20.out.next HB.out)
 replace T4 := Lib.hid (T4.out.next HB.out)
 replace O6 := Lib.hid (own_next HB.out O6.out)
 replace T7 := Lib.hid (T7.out.next HB.out)
 replace U7 := Lib.hid (U7.out.next HB.out)
 replace T8 := Lib.hid (T8.out.next HB.out)
 replace U8 := Lib.hid (U8.out.next HB.out)
 replace T9 := Lib.hid (T9.out.next HB.out)
 replace U9 := Lib.hid (U9.out.next HB.out)
 replace V1 := Lib.hid (blk_next HB.out V1.out)
 replace V4 := Lib.hid (blk_next HB.out V4.out)
 replace V9 := Lib.hid (blk_next HB.out V9.out)
 replace V12 := Lib.hid (blk_next HB.out V12.out)
 replace V15 := Lib.hid (blk_next HB.out V15.out)
 clear HB
 clear IB LT_IB
 refine (C10.out A9 B9 c9 d9 _ _ k9a k9b k9c k9d T9.out.rd U9.out.ro (some ⟨WV15.heap.size, 0, none⟩) 1 _ (by decide) (by decide) RB7.out).mono ?_
 rintro e w20 ⟨v, u, rfl, ht, hu, hb⟩
 try simp only at ht hu
 obtain ⟨A10, c10, rfl, k10a, k10b⟩ := ht.form
 obtain ⟨B10, d10, rfl, k10c, k10d⟩ := hu.form
 have T10 := Lib.hid ht
 have U10 := Lib.hid hu
 clear ht hu
 clear RB7
 replace NN := Lib.hid (Bgo NN.out hb)
 replace T1 := Lib.hid (T1.out.next hb)
 replace U1 := Lib.hid (U1.out.next hb)
 replace U20 := Lib.hid (U20.out.next hb)
 replace T4 := Lib.hid (T4.out.next hb)
 replace O6 := Lib.hid (own_next hb O6.out)
 replace T7 := Lib.hid (T7.out.next hb)
 replace U7 := Lib.hid (U7.out.next hb)
 replace T8 := Lib.hid (T8.out.next hb)
 replace U8 := Lib.hid (U8.out.next hb)
 replace T9 := Lib.hid (T9.out.next hb)
 replace U9 := Lib.hid (U9.out.next hb)
 replace V1 := Lib.hid (blk_next hb V1.out)
 replace V4 := Lib.hid (blk_next hb V4.out)
 replace V9 := Lib.hid (blk_next hb V9.out)
 replace V12 := Lib.hid (blk_next hb V12.out)
 replace V15 := Lib.hid (blk_next hb V15.out)
 clear hb
 have c_V15_0 := blk_cell V15.out 0 _ rfl
 have f_V15_0 := blk_frozen V15.out 0
 have c_V15_1 := blk_cell V15.out 1 _ rfl
 have f_V15_1 := blk_frozen V15.out 1
 have c_V15_2 := blk_cell V15.out 2 _ rfl
 have f_V15_2 := blk_frozen V15.out 2
 have c_V15_3 := blk_cell V15.out 3 _ rfl
 have f_V15_3 := blk_frozen V15.out 3
 have l_V15 := blk_lt V15.out
 go_wp2_with fail
 clear c_V15_0 f_V15_0 c_V15_1 f_V15_1 c_V15_2 f_V15_2 c_V15_3 f_V15_3 l_V15
 clear T9 U9
 replace T1 := Lib.hid (OT.same_ (o := 3) (OT.same_ (o := 2) (OT.same_ (o := 1) (OT.same_ (o := 0) (T1.out) (V15.out) ne_sto_u8 ne_sto_sl ne_sto_dk (.int .i64 s10a)) (blk_set (V15.out) 0 (.int .i64 s10a)) ne_sto_u8 ne_sto_sl ne_sto_dk (.int .i64 s10b)) (blk_set (blk_set (V15.out) 0 (.int .i64 s10a)) 1 (.int .i64 s10b)) ne_sto_u8 ne_sto_sl ne_sto_dk (.slice A10 s10c.length c10)) (blk_set (blk_set (blk_set (V15.out) 0 (.int .i64 s10a)) 1 (.int .i64 s10b)) 2 (.slice A10 s10c.length c10)) ne_sto_u8 ne_sto_sl ne_sto_dk (.slice B10 s10d.length d10))
 replace U1 := Lib.hid (OO.set_ (o := 3) (OO.set_ (o := 2) (OO.set_ (o := 1) (OO.set_ (o := 0) (U1.out) (V15.out) ne_sto_ob (.int .i64 s10a)) (blk_set (V15.out) 0 (.int .i64 s10a)) ne_sto_ob (.int .i64 s10b)) (blk_set (blk_set (V15.out) 0 (.int .i64 s10a)) 1 (.int .i64 s10b)) ne_sto_ob (.slice A10 s10c.length c10)) (blk_set (blk_set (blk_set (V15.out) 0 (.int .i64 s10a)) 1 (.int .i64 s10b)) 2 (.slice A10 s10c.length c10)) ne_sto_ob (.slice B10 s10d.length d10))
 replace U20 := Lib.hid (OO.set_ (o := 3) (OO.set_ (o := 2) (OO.set_ (o := 1) (OO.set_ (o := 0) (U20.out) (V15.out) ne_sto_ob (.int .i64 s10a)) (blk_set (V15.out) 0 (.int .i64 s10a)) ne_sto_ob (.int .i64 s10b)) (blk_set (blk_set (V15.out) 0 (.int .i64 s10a)) 1 (.int .i64 s10b)) ne_sto_ob (.slice A10 s10c.length c10)) (blk_set (blk_set (blk_set (V15.out) 0 (.int .i64 s10a)) 1 (.int .i64 s10b)) 2 (.slice A10 s10c.length c10)) ne_sto_ob (.slice B10 s10d.length d10))
 replace T4 := Lib.hid (OT.same_ (o := 3) (OT.same_ (o := 2) (OT.same_ (o := 1) (OT.same_ (o := 0) (T4.out) (V15.out) ne_sto_u8 ne_sto_sl ne_sto_dk (.int .i64 s10a)) (blk_set (V15.out) 0 (.int .i64 s10a)) ne_sto_u8 ne_sto_sl ne_sto_dk (.int .i64 s10b)) (blk_set (blk_set (V15.out) 0 (.int .i64 s10a)) 1 (.int .i64 s10b)) ne_sto_u8 ne_sto_sl ne_sto_dk (.slice A10 s10c.length c10)) (blk_set (blk_set (blk_set (V15.out) 0 (.int .i64 s10a)) 1 (.int .i64 s10b)) 2 (.slice A10 s10c.length c10)) ne_sto_u8 ne_sto_sl ne_sto_dk (.slice B10 s10d.length d10))
 replace O6 := Lib.hid (own_sto (o := 3) (own_sto (o := 2) (own_sto (o := 1) (own_sto (o := 0) (O6.out) (V15.out) (.int .i64 s10a)) (blk_set (V15.out) 0 (.int .i64 s10a)) (.int .i64 s10b)) (blk_set (blk_set (V15.out) 0 (.int .i64 s10a)) 1 (.int .i64 s10b)) (.slice A10 s10c.length c10)) (blk_set (blk_set (blk_set (V15.out) 0 (.int .i64 s10a)) 1 (.int .i64 s10b)) 2 (.slice A10 s10c.length c10)) (.slice B10 s10d.length d10))
 replace T7 := Lib.hid (OT.same_ (o := 3) (OT.same_ (o := 2) (OT.same_ (o := 1) (OT.same_ (o := 0) (T7.out) (V15.out) ne_sto_u8 ne_sto_sl ne_sto_dk (.int .i64 s10a)) (blk_set (V15.out) 0 (.int .i64 s10a)) ne_sto_u8 ne_sto_sl ne_sto_dk (.int .i64 s10b)) (blk_set (blk_set (V15.out) 0 (.int .i64 s10a)) 1 (.int .i64 s10b)) ne_sto_u8 ne_sto_sl ne_sto_dk (.slice A10 s10c.length c10)) (blk_set (blk_set (blk_set (V15.out) 0 (.int .i64 s10a)) 1 (.int .i64 s10b)) 2 (.slice A10 s10c.length c10)) ne_sto_u8 ne_sto_sl ne_sto_dk (.slice B10 s10d.length d10))
 replace U7 := Lib.hid (OO.set_ (o := 3) (OO.set_ (o := 2) (OO.set_ (o := 1) (OO.set_ (o := 0) (U7.out) (V15.out) ne_sto_ob (.int .i64 s10a)) (blk_set (V15.out) 0 (.int .i64 s10a)) ne_sto_ob (.int .i64 s10b)) (blk_set (blk_set (V15.out) 0 (.int .i64 s10a)) 1 (.int .i64 s10b)) ne_sto_ob (.slice A10 s10c.length c10)) (blk_set (blk_set (blk_set (V15.out) 0 (.int .i64 s10a)) 1 (.int .i64 s10b)) 2 (.slice A10 s10c.length c10)) ne_sto_ob (.slice B10 s10d.length d10))
 replace T8 := Lib.hid (OT.same_ (o := 3) (OT.same_ (o := 2) (OT.same_ (o := 1) (OT.same_ (o := 0) (T8.out) (V15.out) ne_sto_u8 ne_sto_sl ne_sto_dk (.int .i64 s10a)) (blk_set (V15.out) 0 (.int .i64 s10a)) ne_sto_u8 ne_sto_sl ne_sto_dk (.int .i64 s10b)) (blk_set (blk_set (V15.out) 0 (.int .i64 s10a)) 1 (.int .i64 s10b)) ne_sto_u8 ne_sto_sl ne_sto_dk (.slice A10 s10c.length c10)) (blk_set (blk_set (blk_set (V15.out) 0 (.int .i64 s10a)) 1 (.int .i64 s10b)) 2 (.slice A10 s10c.length c10)) ne_sto_u8 ne_sto_sl ne_sto_dk (.slice B10 s10d.length d10))
 replace U8 := Lib.hid (OO.set_ (o := 3) (OO.set_ (o := 2) (OO.set_ (o := 1) (OO.set_ (o := 0) (U8.out) (V15.out) ne_sto_ob (.int .i64 s10a)) (blk_set (V15.out) 0 (.int .i64 s10a)) ne_sto_ob (.int .i64 s10b)) (blk_set (blk_set (V15.out) 0 (.int .i64 s10a)) 1 (.int .i64 s10b)) ne_sto_ob (.slice A10 s10c.length c10)) (blk_set (blk_set (blk_set (V15.out) 0 (.int .i64 s10a)) 1 (.int .i64 s10b)) 2 (.slice A10 s10c.length c10)) ne_sto_ob (.slice B10 s10d.length d10))
 replace T10 := Lib.hid (OT.same_ (o := 3) (OT.same_ (o := 2) (OT.same_ (o := 1) (OT.same_ (o := 0) (T10.out) (V15.out) ne_sto_u8 ne_sto_sl ne_sto_dk (.int .i64 s10a)) (blk_set (V15.out) 0 (.int .i64 s10a)) ne_sto_u8 ne_sto_sl ne_sto_dk (.int .i64 s10b)) (blk_set (blk_set (V15.out) 0 (.int .i64 s10a)) 1 (.int .i64 s10b)) ne_sto_u8 ne_sto_sl ne_sto_dk (.slice A10 s10c.length c10)) (blk_set (blk_set (blk_set (V15.out) 0 (.int .i64 s10a)) 1 (.int .i64 s10b)) 2 (.slice A10 s10c.length c10)) ne_sto_u8 ne_sto_sl ne_sto_dk (.slice B10 s10d.length d10))
 replace U10 := Lib.hid (OO.set_ (o := 3) (OO.set_ (o := 2) (OO.set_ (o := 1) (OO.set_ (o := 0) (U10.out) (V15.out) ne_sto_ob (.int .i64 s10a)) (blk_set (V15.out) 0 (.int .i64 s10a)) ne_sto_ob (.int .i64 s10b)) (blk_set (blk_set (V15.out) 0 (.int .i64 s10a)) 1 (.int .i64 s10b)) ne_sto_ob (.slice A10 s10c.length c10)) (blk_set (blk_set (blk_set (V15.out) 0 (.int .i64 s10a)) 1 (.int .i64 s10b)) 2 (.slice A10 s10c.length c10)) ne_sto_ob (.slice B10 s10d.length d10))
 replace V1 : Hid (((((w20.setCell ⟨gV15, 0, none⟩ (.int .i64 s10a)).setCell ⟨gV15, 1, none⟩ (.int .i64 s10b)).setCell ⟨gV15, 2, none⟩ (.slice A10 s10c.length c10)).setCell ⟨gV15, 3, none⟩ (.slice B10 s10d.length d10)).heap[g2]? = some (.cells #[.int .i64 s1a, .int .i64 s1b, .slice A1 s1c.length c1, .slice B1 s1d.length d1] 25)) := Lib.hid (blk_set_other (b' := gV15) (blk_set_other (b' := gV15) (blk_set_other (b' := gV15) (blk_set_other (b' := gV15) (V1.out) (by have := LT_V15.out; omega) 0 (.int .i64 s10a)) (by have := LT_V15.out; omega) 1 (.int .i64 s10b)) (by have := LT_V15.out; omega) 2 (.slice A10 s10c.length c10)) (by have := LT_V15.out; omega) 3 (.slice B10 s10d.length d10))
 replace V4 : Hid (((((w20.setCell ⟨gV15, 0, none⟩ (.int .i64 s10a)).setCell ⟨gV15, 1, none⟩ (.int .i64 s10b)).setCell ⟨gV15, 2, none⟩ (.slice A10 s10c.length c10)).setCell ⟨gV15, 3, none⟩ (.slice B10 s10d.length d10)).heap[G20]? = some (.cells #[.int .i64 s1a, .int .i64 s1b, .slice (some ⟨g20, 0, none⟩) s4c.length c20, .slice B20 s1d.length d20] 25)) := Lib.hid (blk_set_other (b' := gV15) (blk_set_other (b' := gV15) (blk_set_other (b' := gV15) (blk_set_other (b' := gV15) (V4.out) (by have := LT_V15.out; omega) 0 (.int .i64 s10a)) (by have := LT_V15.out; omega) 1 (.int .i64 s10b)) (by have := LT_V15.out; omega) 2 (.slice A10 s10c.length c10)) (by have := LT_V15.out; omega) 3 (.slice B10 s10d.length d10))
 replace V9 : Hid (((((w20.setCell ⟨gV15, 0, none⟩ (.int .i64 s10a)).setCell ⟨gV15, 1, none⟩ (.int .i64 s10b)).setCell ⟨gV15, 2, none⟩ (.slice A10 s10c.length c10)).setCell ⟨gV15, 3, none⟩ (.slice B10 s10d.length d10)).heap[g14]? = some (.cells #[.int .i64 s1a, .int .i64 s1b, .slice A7 s1c.length c7, .slice B7 s1d.length d7] 25)) := Lib.hid (blk_set_other (b' := gV15) (blk_set_other (b' := gV15) (blk_set_other (b' := gV15) (blk_set_other (b' := gV15) (V9.out) (by have := LT_V15.out; omega) 0 (.int .i64 s10a)) (by have := LT_V15.out; omega) 1 (.int .i64 s10b)) (by have := LT_V15.out; omega) 2 (.slice A10 s10c.length c10)) (by have := LT_V15.out; omega) 3 (.slice B10 s10d.length d10))
 replace V12 : Hid (((((w20.setCell ⟨gV15, 0, none⟩ (.int .i64 s10a)).setCell ⟨gV15, 1, none⟩ (.int .i64 s10b)).setCell ⟨gV15, 2, none⟩ (.slice A10 s10c.length c10)).setCell ⟨gV15, 3, none⟩ (.slice B10 s10d.length d10)).heap[g16]? = some (.cells #[.int .i64 s1a, .int .i64 s1b, .slice A8 s4c.length c8, .slice B8 s1d.length d8] 25)) := Lib.hid (blk_set_other (b' := gV15) (blk_set_other (b' := gV15) (blk_set_other (b' := gV15) (blk_set_other (b' := gV15) (V12.out) (by have := LT_V15.out; omega) 0 (.int .i64 s10a)) (by have := LT_V15.out; omega) 1 (.int .i64 s10b)) (by have := LT_V15.out; omega) 2 (.slice A10 s10c.length c10)) (by have := LT_V15.out; omega) 3 (.slice B10 s10d.length d10))
 replace V15 : Hid (((((w20.setCell ⟨gV15, 0, none⟩ (.int .i64 s10a)).setCell ⟨gV15, 1, none⟩ (.int .i64 s10b)).setCell ⟨gV15, 2, none⟩ (.slice A10 s10c.length c10)).setCell ⟨gV15, 3, none⟩ (.slice B10 s10d.length d10)).heap[gV15]? = some (.cells #[.int .i64 s10a, .int .i64 s10b, .slice A10 s10c.length c10, .slice B10 s10d.length d10] 25)) := Lib.hid (blk_set (blk_set (blk_set (blk_set (V15.out) 0 (.int .i64 s10a)) 1 (.int .i64 s10b)) 2 (.slice A10 s10c.length c10)) 3 (.slice B10 s10d.length d10))
 replace NN := Lib.hid (Bset1 (Bset1 (Bset1 (Bset1 (NN.out) (show w.heap.size ≤ gV15 by have := LT_V15.out; omega) 0 (.int .i64 s10a)) (show w.heap.size ≤ gV15 by have := LT_V15.out; omega) 1 (.int .i64 s10b)) (show w.heap.size ≤ gV15 by have := LT_V15.out; omega) 2 (.slice A10 s10c.length c10)) (show w.heap.size ≤ gV15 by have := LT_V15.out; omega) 3 (.slice B10 s10d.length d10))
 generalize ((((w20.setCell ⟨gV15, 0, none⟩ (.int .i64 s10a)).setCell ⟨gV15, 1, none⟩ (.int .i64 s10b)).setCell ⟨gV15, 2, none⟩ (.slice A10 s10c.length c10)).setCell ⟨gV15, 3, none⟩ (.slice B10 s10d.length d10)) = W21 at *
 have c_V15_0 := blk_cell V15.out 0 _ rfl
 have f_V15_0 := blk_frozen V15.out 0
 have c_V15_1 := blk_cell V15.out 1 _ rfl
 have f_V15_1 := blk_frozen V15.out 1
 have c_V15_2 := blk_cell V15.out 2 _ rfl
 have f_V15_2 := blk_frozen V15.out 2
 have c_V15_3 := blk_cell V15.out 3 _ rfl
 have f_V15_3 := blk_frozen V15.out 3
 have l_V15 := blk_lt V15.out
 obtain ⟨bq, oq, Aq, cq, eq, lq, _, zq, _, _, _⟩ := T10.out.rd.at_ HXd.out
 have gq := get_lt HXd.out
 have kq := HXg.out
 clear c_V15_0 f_V15_0 c_V15_1 f_V15_1 c_V15_2 f_V15_2 c_V15_3 f_V15_3 l_V15
 subst eq
 simp only [Nat.zero_mul, Nat.add_zero] at zq
 have gqi : (0 : Int) < ((s10c.length : Nat) : Int) := by omega
 have hqi : ((s11.blocks.length : Nat) : Int) = 1 := by rw [kq]; rfl
 have ZQ := Lib.hid zq
 have LQ := Lib.hid lq
 clear zq lq kq
 have c_V15_0 := blk_cell V15.out 0 _ rfl
 have f_V15_0 := blk_frozen V15.out 0
 have c_V15_1 := blk_cell V15.out 1 _ rfl
 have f_V15_1 := blk_frozen V15.out 1
 have c_V15_2 := blk_cell V15.out 2 _ rfl
 have f_V15_2 := blk_frozen V15.out 2
 have c_V15_3 := blk_cell V15.out 3 _ rfl
 have f_V15_3 := blk_frozen V15.out 3
 have l_V15 := blk_lt V15.out
 go_wp2_with fail
 refine (CK2.out (some ⟨bq, oq, none⟩) B10 c10 d10 _ _ k10a k10b k10c k10d T10.out.rd U10.out.ro).mono ?_
 rintro e w22 ⟨rfl, hb⟩
 clear c_V15_0 f_V15_0 c_V15_1 f_V15_1 c_V15_2 f_V15_2 c_V15_3 f_V15_3 l_V15
 replace NN := Lib.hid (Bgo NN.out hb)
 replace T1 := Lib.hid (T1.out.next hb)
 replace U1 := Lib.hid (U1.out.next hb)
 replace U20 := Lib.hid (U20.out.next hb)
 replace T4 := Lib.hid (T4.out.next hb)
 replace O6 := Lib.hid (own_next hb O6.out)
 replace T7 := Lib.hid (T7.out.next hb)
 replace U7 := Lib.hid (U7.out.next hb)
 replace T8 := Lib.hid (T8.out.next hb)
 replace U8 := Lib.hid (U8.out.next hb)
 replace T10 := Lib.hid (T10.out.next hb)
 replace U10 := Lib.hid (U10.out.next hb)
 replace V1 := Lib.hid (blk_next hb V1.out)
 replace V4 := Lib.hid (blk_next hb V4.out)
 replace V9 := Lib.hid (blk_next hb V9.out)
 replace V12 := Lib.hid (blk_next hb V12.out)
 replace V15 := Lib.hid (blk_next hb V15.out)
 clear hb
 have c_V15_0 := blk_cell V15.out 0 _ rfl
 have f_V15_0 := blk_frozen V15.out 0
 have c_V15_1 := blk_cell V15.out 1 _ rfl
 have f_V15_1 := blk_frozen V15.out 1
 have c_V15_2 := blk_cell V15.out 2 _ rfl
 have f_V15_2 := blk_frozen V15.out 2
 have c_V15_3 := blk_cell V15.out 3 _ rfl
 have f_V15_3 := blk_frozen V15.out 3
 have l_V15 := blk_lt V15.out
 obtain ⟨bq', oq', Aq', cq', eq, lq, _, zq, _, _, _⟩ := T10.out.rd.at_ HXd.out
 injection eq with eq
 injection eq with e1 e2 _
 subst e1 e2
 simp only [Nat.zero_mul, Nat.add_zero] at zq
 go_wp2_with fail
 clear zq lq ZQ LQ gqi hqi gq
 have NB := Lib.hid (Below.refl w22.heap.size w22)
 have T1z := T1
 have U1z := U1
 have U20z := U20
 have T4z := T4
 have O6z := O6
 have T7z := T7
 have U7z := U7
 have T8z := T8
 have U8z := U8
 have T10z := T10
 have U10z := U10
 have V1z := V1
 have V4z := V4
 have V9z := V9
 have V12z := V12
 have V15z := V15
 have LT_T : Hid (w.heap.size ≤ w22.heap.size) := Lib.hid NN.out.size
 refine (TW2.out (some ⟨bq, oq, none⟩) B10 c10 d10 _ _ k10a k10b k10c k10d T10.out.rd U10.out.ro).mono ?_
 rintro e w23 ⟨v, u, rfl, ht, hu, hb⟩
 try simp only at ht hu
 obtain ⟨A30, c30, rfl, k30a, k30b⟩ := ht.form
 obtain ⟨B30, d30, rfl, k30c, k30d⟩ := hu.form
 have T30 := Lib.hid ht
 have U30 := Lib.hid hu
 clear ht hu
 clear c_V15_0 f_V15_0 c_V15_1 f_V15_1 c_V15_2 f_V15_2 c_V15_3 f_V15_3 l_V15
 replace NN := Lib.hid (Bgo NN.out hb)
 replace T1 := Lib.hid (T1.out.next hb)
 replace U1 := Lib.hid (U1.out.next hb)
 replace U20 := Lib.hid (U20.out.next hb)
 replace T4 := Lib.hid (T4.out.next hb)
 replace O6 := Lib.hid (own_next hb O6.out)
 replace T7 := Lib.hid (T7.out.next hb)
 replace U7 := Lib.hid (U7.out.next hb)
 replace T8 := Lib.hid (T8.out.next hb)
 replace U8 := Lib.hid (U8.out.next hb)
 replace T10 := Lib.hid (T10.out.next hb)
 replace U10 := Lib.hid (U10.out.next hb)
 replace NB := Lib.hid (Bgo NB.out hb)
 replace V1 := Lib.hid (blk_next hb V1.out)
 replace V4 := Lib.hid (blk_next hb V4.out)
 replace V9 := Lib.hid (blk_next hb V9.out)
 replace V12 := Lib.hid (blk_next hb V12.out)
 replace V15 := Lib.hid (blk_next hb V15.out)
 clear hb
 have HB : Hid (Below w23.heap.size w23 (w23.alloc (.cells #[.int .i64 s10a, .int .i64 s10b, .slice A30 s10c.length c30, .slice B30 s10d.length d30] 25))) := Lib.hid (Bal (Below.refl _ _) _)
 have V18 := Lib.hid (blk_new w23 (.cells #[.int .i64 s10a, .int .i64 s10b, .slice A30 s10c.length c30, .slice B30 s10d.length d30] 25))
 have LT_V18 : Hid (g2 < w23.heap.size ∧ G20 < w23.heap.size ∧ g14 < w23.heap.size ∧ g16 < w23.heap.size ∧ gV15 < w23.heap.size ∧ w.heap.size ≤ w23.heap.size) := Lib.hid ⟨blk_lt V1.out, blk_lt V4.out, blk_lt V9.out, blk_lt V12.out, blk_lt V15.out, NN.out.size⟩
 replace NN := Lib.hid (Bgo NN.out HB.out)
 replace T1 := Lib.hid (T1.out.next HB.out)
 replace U1 := Lib.hid (U1.out.next HB.out)
 replace U20 := Lib.hid (U20.out.next HB.out)
 replace T4 := Lib.hid (T4.out.next HB.out)
 replace O6 := Lib.hid (own_next HB.out O6.out)
 replace T7 := Lib.hid (T7.out.next HB.out)
 replace U7 := Lib.hid (U7.out.next HB.out)
 replace T8 := Lib.hid (T8.out.next HB.out)
 replace U8 := Lib.hid (U8.out.next HB.out)
 replace T10 := Lib.hid (T10.out.next HB.out)
 replace U10 := Lib.hid (U10.out.next HB.out)
 replace NB := Lib.hid (Bgo NB.out HB.out)
 replace T30 := Lib.hid (T30.out.next HB.out)
 replace U30 := Lib.hid (U30.out.next HB.out)
 replace V1 := Lib.hid (blk_next HB.out V1.out)
 replace V4 := Lib.hid (blk_next HB.out V4.out)
 replace V9 := Lib.hid (blk_next HB.out V9.out)
 replace V12 := Lib.hid (blk_next HB.out V12.out)
 replace V15 := Lib.hid (blk_next HB.out V15.out)
 clear HB
 go_upto_region 16 with fail
 generalize (w23.alloc (.cells #[.int .i64 s10a, .int .i64 s10b, .slice A30 s10c.length c30, .slice B30 s10d.length d30] 25)) = WT30 at *
 generalize w23.heap.size = G30 at *
 obtain ⟨hs, us, OSS⟩ := T30.out
 obtain ⟨g30, gt, gr, cy, cr, u, AT⟩ := os_at OSS HXd.out HXe.out (a := 0) (by rw [HXf.out]; decide)
 have ATH := Lib.hid AT
 have OH := Lib.hid OSS
 obtain ⟨rfl, -, z1, l1, z2, l2, z3, f3, l3, b3, -, -, -, -⟩ := AT
 replace z1 : WT30.cell? ⟨g30, 1, none⟩ = _ := z1
 have u2 : (0 : Int) < ((s10c.length : Nat) : Int) := by have := get_lt HXd.out; omega
 have u4 : (0 : Int) < ((s11.blocks.length : Nat) : Int) := by have := get_lt HXe.out; omega
 have u6 : (0 : Int) < ((s12.length : Nat) : Int) := by rw [HXf.out]; decide
 have u2n := get_lt HXd.out
 have u4n := get_lt HXe.out
 have u6n : 0 < s12.length := by rw [HXf.out]; decide
 clear OSS
 have c_V18_0 := blk_cell V18.out 0 _ rfl
 have f_V18_0 := blk_frozen V18.out 0
 have c_V18_1 := blk_cell V18.out 1 _ rfl
 have f_V18_1 := blk_frozen V18.out 1
 have c_V18_2 := blk_cell V18.out 2 _ rfl
 have f_V18_2 := blk_frozen V18.out 2
 have c_V18_3 := blk_cell V18.out 3 _ rfl
 have f_V18_3 := blk_frozen V18.out 3
 have l_V18 := blk_lt V18.out
 go_upto_region 17 with fail
 clear c_V18_0 f_V18_0 c_V18_1 f_V18_1 c_V18_2 f_V18_2 c_V18_3 f_V18_3 l_V18
 have OS2 := OS.byte (a := 0) (x := 8) OH.out HXd.out ATH.out.hu ATH.out.hr HXe.out (by decide)
 have T13 : Hid (OT w22.heap.size (WT30.setCell ⟨gr, 0, none⟩ (.int .u8 8)) (.slice (some ⟨g30, 0, none⟩) s10c.length c30) s13c) := Lib.hid ⟨_, _, by rw [← HT2.out]; exact OS2⟩
 have NEB := ATH.out.oth _ _ _ V18.out ne_u8_sto
 replace U30 : Hid (OO w22.heap.size (WT30.setCell ⟨gr, 0, none⟩ (.int .u8 8)) (.slice B30 s10d.length d30) s10d) := Lib.hid (OO.u8 U30.out ATH.out.row)
 replace V18 : Hid ((WT30.setCell ⟨gr, 0, none⟩ (.int .u8 8)).heap[G30]? = some (.cells #[.int .i64 s10a, .int .i64 s10b, .slice (some ⟨g30, 0, none⟩) s10c.length c30, .slice B30 s10d.length d30] 25)) := Lib.hid (blk_set_other V18.out NEB _ _)
 replace NB : Hid (Below w22.heap.size w22 (WT30.setCell ⟨gr, 0, none⟩ (.int .u8 8))) := Lib.hid (Bset1 NB.out b3 _ _)
 replace NN : Hid (Below w.heap.size w (WT30.setCell ⟨gr, 0, none⟩ (.int .u8 8))) := Lib.hid (Bset1 NN.out (Nat.le_trans LT_T.out b3) _ _)
 replace T1 := Lib.hid (T1z.out.next NB.out)
 replace U1 := Lib.hid (U1z.out.next NB.out)
 replace U20 := Lib.hid (U20z.out.next NB.out)
 replace T4 := Lib.hid (T4z.out.next NB.out)
 replace O6 := Lib.hid (own_next NB.out O6z.out)
 replace T7 := Lib.hid (T7z.out.next NB.out)
 replace U7 := Lib.hid (U7z.out.next NB.out)
 replace T8 := Lib.hid (T8z.out.next NB.out)
 replace U8 := Lib.hid (U8z.out.next NB.out)
 replace T10 := Lib.hid (T10z.out.next NB.out)
 replace U10 := Lib.hid (U10z.out.next NB.out)
 replace V1 := Lib.hid (blk_next NB.out V1z.out)
 replace V4 := Lib.hid (blk_next NB.out V4z.out)
 replace V9 := Lib.hid (blk_next NB.out V9z.out)
 replace V12 := Lib.hid (blk_next NB.out V12z.out)
 replace V15 := Lib.hid (blk_next NB.out V15z.out)
 clear z1 l1 z2 l2 z3 f3 l3 b3 u2 u4 u6 u2n u4n u6n NEB ATH OH OS2 NB LT_T T30 T1z U1z U20z T4z O6z T7z U7z T8z U8z T10z U10z V1z V4z V9z V12z V15z
 generalize (WT30.setCell ⟨gr, 0, none⟩ (.int .u8 8)) = WY30 at *
 have tl : s13c.length = s10c.length := by rw [← HT2.out, List.length_set]
 replace V18 : Hid (WY30.heap[G30]? = some (.cells #[.int .i64 s10a, .int .i64 s10b, .slice (some ⟨g30, 0, none⟩) s13c.length c30, .slice B30 s10d.length d30] 25)) := Lib.hid (by rw [tl]; exact V18.out)
 have k13a : s13c.length ≤ c30 := by rw [tl]; exact k30a
 clear tl
 have c_V18_0 := blk_cell V18.out 0 _ rfl
 have f_V18_0 := blk_frozen V18.out 0
 have c_V18_1 := blk_cell V18.out 1 _ rfl
 have f_V18_1 := blk_frozen V18.out 1
 have c_V18_2 := blk_cell V18.out 2 _ rfl
 have f_V18_2 := blk_frozen V18.out 2
 have c_V18_3 := blk_cell V18.out 3 _ rfl
 have f_V18_3 := blk_frozen V18.out 3
 have l_V18 := blk_lt V18.out
 go_wp2_with fail
 refine (C14.out (some ⟨g30, 0, none⟩) B30 c30 d30 _ _ k13a k30b k30c k30d T13.out.rd U30.out.ro).mono ?_
 rintro e w25 ⟨v, rfl, hr, hb⟩
 simp only at hr
 obtain ⟨A14, c14, rfl, k14a, k14b, hr⟩ := hr
 clear hr
 clear c_V18_0 f_V18_0 c_V18_1 f_V18_1 c_V18_2 f_V18_2 c_V18_3 f_V18_3 l_V18
 replace NN := Lib.hid (Bgo NN.out hb)
 replace T1 := Lib.hid (T1.out.next hb)
 replace U1 := Lib.hid (U1.out.next hb)
 replace U20 := Lib.hid (U20.out.next hb)
 replace T4 := Lib.hid (T4.out.next hb)
 replace O6 := Lib.hid (own_next hb O6.out)
 replace T7 := Lib.hid (T7.out.next hb)
 replace U7 := Lib.hid (U7.out.next hb)
 replace T8 := Lib.hid (T8.out.next hb)
 replace U8 := Lib.hid (U8.out.next hb)
 replace T10 := Lib.hid (T10.out.next hb)
 replace U10 := Lib.hid (U10.out.next hb)
 replace U30 := Lib.hid (U30.out.next hb)
 replace T13 := Lib.hid (T13.out.next hb)
 replace V1 := Lib.hid (blk_next hb V1.out)
 replace V4 := Lib.hid (blk_next hb V4.out)
 replace V9 := Lib.hid (blk_next hb V9.out)
 replace V12 := Lib.hid (blk_next hb V12.out)
 replace V15 := Lib.hid (blk_next hb V15.out)
 replace V18 := Lib.hid (blk_next hb V18.out)
 clear hb
 have c_V18_0 := blk_cell V18.out 0 _ rfl
 have f_V18_0 := blk_frozen V18.out 0
 have c_V18_1 := blk_cell V18.out 1 _ rfl
 have f_V18_1 := blk_frozen V18.out 1
 have c_V18_2 := blk_cell V18.out 2 _ rfl
 have f_V18_2 := blk_frozen V18.out 2
 have c_V18_3 := blk_cell V18.out 3 _ rfl
 have f_V18_3 := blk_frozen V18.out 3
 have l_V18 := blk_lt V18.out
 go_wp2_with fail
 refine (C15.out (some ⟨g30, 0, none⟩) B30 c30 d30 _ _ k13a k30b k30c k30d T13.out.rd U30.out.ro).mono ?_
 rintro e w26 ⟨v, rfl, hr, hb⟩
 obtain ⟨A15, c15, rfl, k15a, k15b, _⟩ := own_form hr
 have O15 := Lib.hid hr
 clear hr
 clear c_V18_0 f_V18_0 c_V18_1 f_V18_1 c_V18_2 f_V18_2 c_V18_3 f_V18_3 l_V18
 replace NN := Lib.hid (Bgo NN.out hb)
 replace T1 := Lib.hid (T1.out.next hb)
 replace U1 := Lib.hid (U1.out.next hb)
 replace U20 := Lib.hid (U20.out.next hb)
 replace T4 := Lib.hid (T4.out.next hb)
 replace O6 := Lib.hid (own_next hb O6.out)
 replace T7 := Lib.hid (T7.out.next hb)
 replace U7 := Lib.hid (U7.out.next hb)
 replace T8 := Lib.hid (T8.out.next hb)
 replace U8 := Lib.hid (U8.out.next hb)
 replace T10 := Lib.hid (T10.out.next hb)
 replace U10 := Lib.hid (U10.out.next hb)
 replace U30 := Lib.hid (U30.out.next hb)
 replace T13 := Lib.hid (T13.out.next hb)
 replace V1 := Lib.hid (blk_next hb V1.out)
 replace V4 := Lib.hid (blk_next hb V4.out)
 replace V9 := Lib.hid (blk_next hb V9.out)
 replace V12 := Lib.hid (blk_next hb V12.out)
 replace V15 := Lib.hid (blk_next hb V15.out)
 replace V18 := Lib.hid (blk_next hb V18.out)
 clear hb
 have RI1 := Lib.hid (ri_one w26 1)
 go_wp2_with fail
 have HB : Hid (Below w26.heap.size w26 (w26.alloc (.cells #[.int .i64 1] 3))) := Lib.hid (Bal (Below.refl _ _) _)
 have IB := Lib.hid (blk_new w26 (.cells #[.int .i64 1] 3))
 have LT_IB : Hid (g2 < w26.heap.size ∧ G20 < w26.heap.size ∧ g14 < w26.heap.size ∧ g16 < w26.heap.size ∧ gV15 < w26.heap.size ∧ G30 < w26.heap.size ∧ w.heap.size ≤ w26.heap.size) := Lib.hid ⟨blk_lt V1.out, blk_lt V4.out, blk_lt V9.out, blk_lt V12.out, blk_lt V15.out, blk_lt V18.out, NN.out.size⟩
 replace NN := Lib.hid (Bgo NN.out HB.out)
 replace T1 := Lib.hid (T1.out.next HB.out)
 replace U1 := Lib.hid (U1.out.next HB.out)
 replace U20 := Lib.hid (U20.out.next HB.out)
 replace T4 := Lib.hid (T4.out.next HB.out)
 replace O6 := Lib.hid (own_next HB.out O6.out)
 replace T7 := Lib.hid (T7.out.next HB.out)
 replace U7 := Lib.hid (U7.out.next HB.out)
 replace T8 := Lib.hid (T8.out.next HB.out)
 replace U8 := Lib.hid (U8.out.next HB.out)
 replace T10 := Lib.hid (T10.out.next HB.out)
 replace U10 := Lib.hid (U10.out.next HB.out)
 replace U30 := Lib.hid (U30.out.next HB.out)
 replace T13 := Lib.hid (T13.out.next HB.out)
 replace O15 := Lib.hid (own_next HB.out O15.out)
 replace V1 := Lib.hid (blk_next HB.out V1.out)
 replace V4 := Lib.hid (blk_next HB.out V4.out)
 replace V9 := Lib.hid (blk_next HB.out V9.out)
 replace V12 := Lib.hid (blk_next HB.out V12.out)
 replace V15 := Lib.hid (blk_next HB.out V15.out)
 replace V18 := Lib.hid (blk_next HB.out V18.out)
 clear HB
 clear IB LT_IB
 refine (ints_self A6 (some ⟨w26.heap.size, 0, none⟩) c6 1 _ 0 [1] _ k6a k6b (ri_own O6.out) (by decide) (by decide) RI1.out).mono ?_
 rintro e w28 ⟨rfl, hb⟩
 clear RI1
 replace NN := Lib.hid (Bgo NN.out hb)
 replace T1 := Lib.hid (T1.out.next hb)
 replace U1 := Lib.hid (U1.out.next hb)
 replace U20 := Lib.hid (U20.out.next hb)
 replace T4 := Lib.hid (T4.out.next hb)
 replace O6 := Lib.hid (own_next hb O6.out)
 replace T7 := Lib.hid (T7.out.next hb)
 replace U7 := Lib.hid (U7.out.next hb)
 replace T8 := Lib.hid (T8.out.next hb)
 replace U8 := Lib.hid (U8.out.next hb)
 replace T10 := Lib.hid (T10.out.next hb)
 replace U10 := Lib.hid (U10.out.next hb)
 replace U30 := Lib.hid (U30.out.next hb)
 replace T13 := Lib.hid (T13.out.next hb)
 replace O15 := Lib.hid (own_next hb O15.out)
 replace V1 := Lib.hid (blk_next hb V1.out)
 replace V4 := Lib.hid (blk_next hb V4.out)
 replace V9 := Lib.hid (blk_next hb V9.out)
 replace V12 := Lib.hid (blk_next hb V12.out)
 replace V15 := Lib.hid (blk_next hb V15.out)
 replace V18 := Lib.hid (blk_next hb V18.out)
 clear hb
 have c_V9_0 := blk_cell V9.out 0 _ rfl
 have f_V9_0 := blk_frozen V9.out 0
 have c_V9_1 := blk_cell V9.out 1 _ rfl
 have f_V9_1 := blk_frozen V9.out 1
 have c_V9_2 := blk_cell V9.out 2 _ rfl
 have f_V9_2 := blk_frozen V9.out 2
 have c_V9_3 := blk_cell V9.out 3 _ rfl
 have f_V9_3 := blk_frozen V9.out 3
 have l_V9 := blk_lt V9.out
 have c_V1_0 := blk_cell V1.out 0 _ rfl
 have f_V1_0 := blk_frozen V1.out 0
 have c_V1_1 := blk_cell V1.out 1 _ rfl
 have f_V1_1 := blk_frozen V1.out 1
 have c_V1_2 := blk_cell V1.out 2 _ rfl
 have f_V1_2 := blk_frozen V1.out 2
 have c_V1_3 := blk_cell V1.out 3 _ rfl
 have f_V1_3 := blk_frozen V1.out 3
 have l_V1 := blk_lt V1.out
 go_wp2_with fail
 refine (same_self s1a s1b A7 B7 c7 d7 _ s1c s1d A1 B1 c1 d1 _ _ k7a k7b k7c k7d T7.out.rd U7.out.ro k1a k1b k1c k1d T1.out.rd U1.out.ro).mono ?_
 rintro e w29 ⟨rfl, hb⟩
 clear c_V9_0 f_V9_0 c_V9_1 f_V9_1 c_V9_2 f_V9_2 c_V9_3 f_V9_3 l_V9 c_V1_0 f_V1_0 c_V1_1 f_V1_1 c_V1_2 f_V1_2 c_V1_3 f_V1_3 l_V1
 replace NN := Lib.hid (Bgo NN.out hb)
 replace T1 := Lib.hid (T1.out.next hb)
 replace U1 := Lib.hid (U1.out.next hb)
 replace U20 := Lib.hid (U20.out.next hb)
 replace T4 := Lib.hid (T4.out.next hb)
 replace O6 := Lib.hid (own_next hb O6.out)
 replace T7 := Lib.hid (T7.out.next hb)
 replace U7 := Lib.hid (U7.out.next hb)
 replace T8 := Lib.hid (T8.out.next hb)
 replace U8 := Lib.hid (U8.out.next hb)
 replace T10 := Lib.hid (T10.out.next hb)
 replace U10 := Lib.hid (U10.out.next hb)
 replace U30 := Lib.hid (U30.out.next hb)
 replace T13 := Lib.hid (T13.out.next hb)
 replace O15 := Lib.hid (own_next hb O15.out)
 replace V1 := Lib.hid (blk_next hb V1.out)
 replace V4 := Lib.hid (blk_next hb V4.out)
 replace V9 := Lib.hid (blk_next hb V9.out)
 replace V12 := Lib.hid (blk_next hb V12.out)
 replace V15 := Lib.hid (blk_next hb V15.out)
 replace V18 := Lib.hid (blk_next hb V18.out)
 clear hb
 have c_V12_0 := blk_cell V12.out 0 _ rfl
 have f_V12_0 := blk_frozen V12.out 0
 have c_V12_1 := blk_cell V12.out 1 _ rfl
 have f_V12_1 := blk_frozen V12.out 1
 have c_V12_2 := blk_cell V12.out 2 _ rfl
 have f_V12_2 := blk_frozen V12.out 2
 have c_V12_3 := blk_cell V12.out 3 _ rfl
 have f_V12_3 := blk_frozen V12.out 3
 have l_V12 := blk_lt V12.out
 have c_V4_0 := blk_cell V4.out 0 _ rfl
 have f_V4_0 := blk_frozen V4.out 0
 have c_V4_1 := blk_cell V4.out 1 _ rfl
 have f_V4_1 := blk_frozen V4.out 1
 have c_V4_2 := blk_cell V4.out 2 _ rfl
 have f_V4_2 := blk_frozen V4.out 2
 have c_V4_3 := blk_cell V4.out 3 _ rfl
 have f_V4_3 := blk_frozen V4.out 3
 have l_V4 := blk_lt V4.out
 go_wp2_with fail
 refine (same_self s1a s1b A8 B8 c8 d8 _ s4c s1d (some ⟨g20, 0, none⟩) B20 c20 d20 _ _ k8a k8b k8c k8d T8.out.rd U8.out.ro k4a k20b k20c k20d T4.out.rd U20.out.ro).mono ?_
 rintro e w30 ⟨rfl, hb⟩
 clear c_V12_0 f_V12_0 c_V12_1 f_V12_1 c_V12_2 f_V12_2 c_V12_3 f_V12_3 l_V12 c_V4_0 f_V4_0 c_V4_1 f_V4_1 c_V4_2 f_V4_2 c_V4_3 f_V4_3 l_V4
 replace NN := Lib.hid (Bgo NN.out hb)
 replace T1 := Lib.hid (T1.out.next hb)
 replace U1 := Lib.hid (U1.out.next hb)
 replace U20 := Lib.hid (U20.out.next hb)
 replace T4 := Lib.hid (T4.out.next hb)
 replace O6 := Lib.hid (own_next hb O6.out)
 replace T7 := Lib.hid (T7.out.next hb)
 replace U7 := Lib.hid (U7.out.next hb)
 replace T8 := Lib.hid (T8.out.next hb)
 replace U8 := Lib.hid (U8.out.next hb)
 replace T10 := Lib.hid (T10.out.next hb)
 replace U10 := Lib.hid (U10.out.next hb)
 replace U30 := Lib.hid (U30.out.next hb)
 replace T13 := Lib.hid (T13.out.next hb)
 replace O15 := Lib.hid (own_next hb O15.out)
 replace V1 := Lib.hid (blk_next hb V1.out)
 replace V4 := Lib.hid (blk_next hb V4.out)
 replace V9 := Lib.hid (blk_next hb V9.out)
 replace V12 := Lib.hid (blk_next hb V12.out)
 replace V15 := Lib.hid (blk_next hb V15.out)
 replace V18 := Lib.hid (blk_next hb V18.out)
 clear hb
 go_wp2_with fail
 go_ret
 exact ⟨rfl, NN.out⟩
end Go.Proofs.Ytapehckcmmompaa
