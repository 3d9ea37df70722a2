/- Several texts in one. -/
import Derived.OpenShut
import Derived.Deep.RegionLaw
import Derived.Laws.IdiomStrings
import Derived.Lib.Builder
import Derived.Lib.AppendStr
import Derived.Lib.UnsafeStr
import Derived.Lib.Strings
import Derived.Lib.Walk
import Derived.WalkKit
import Derived.Laws.Externs
import Derived.Test.YtbbnkclajpaghaaGreatDoorMT00
import Derived.Test.YtbbnkclajpaghaaGreatDoorMT03
import Derived.Test.YtbbnkclajpaghaaGreatDoorMT04
import Derived.Test.YtbbnkclajpaghaaGreatDoorMT05
namespace Go.Proofs.YtbbnkclajpaghaaGreatDoor
open Go.ChangeShapes Go.WideShapes Go.ChangeAt Go.RowKit
set_option linter.unusedVariables false
set_option maxRecDepth 100000
set_option linter.unusedSimpArgs false
set_option maxRecDepth 100000 in
set_option maxHeartbeats 8000000 in
theorem refchk_calls {A : Option Addr} {c : Nat} {l : List Vr} {w : World} (hl : RT w A l) (hc : l.length ≤ c) (hc' : c ≤ 9223372036854775807) : Calls Tryz.prog 17 #[.slice A l.length c] w fun e w' =>
  e = .returned (.int .i64 (chkE l)) ∧ Below w.heap.size w w' := by
 have HL := Lib.hid hl
 have NN := Lib.hid (Below.refl w.heap.size w)
 clear hl
 by_cases h2 : 200 < l.length
 ·have FV : Hid (chkE l = 4) := Lib.hid (by unfold chkE; rw [if_pos h2])
  generalize chkE l = v at *
  go_enter Tryz.func17, Tryz.ntmps17
  go_wp2_with fail
  go_ret
  exact ⟨ret_int FV.out.symm, NN.out⟩
 have FV : Hid (chkE l = if goodB l then 0 else 8) := Lib.hid (by unfold chkE; rw [if_neg h2])
 generalize chkE l = v at *
 go_enter Tryz.func17, Tryz.ntmps17
 go_wp2_with fail
 go_loopw [3] (fun p wr => ∃ k : Nat, k ≤ l.length ∧ p = .int .i64 k ∧ Hid (Below w.heap.size w wr) ∧ Hid (goodB (l.take k) = true)) (fun p _ => l.length - (intOf p).toNat)
 case atStart => exact ⟨0, Nat.zero_le _, rfl, NN, Lib.hid rfl⟩
 case round =>
  clear NN
  obtain ⟨k, hk, rfl, NN, HG⟩ := hrel
  by_cases hlt : l.length ≤ k
  ·have e : k = l.length := by omega
   subst e
   have HR : Hid (v = 0) := Lib.hid (by rw [FV.out, ← List.take_length (l := l), HG.out]; rfl)
   clear hk hlt
   go_wp2_with fail
   go_ret
   exact ⟨ret_int HR.out.symm, NN.out⟩
  replace hlt : k < l.length := by omega
  obtain ⟨b, off, eA, bl, a0, a1, a2, a3, a4, a5, a6, a7⟩ := RT.at_ HL.out hlt
  have HVC := Lib.hid (refvalid_calls (rowAt l k))
  have HGT := Lib.hid (good_take hlt HG.out)
  have HRA := Lib.hid (rowAt_lt hlt)
  rw [← rowAt_lt hlt] at a0 a1 a2 a3 a4 a5 a6 a7
  generalize hr : rowAt l k = r at *
  have BL := Lib.hid bl
  subst eA
  have HC : Hid (∀ X : World, Below w.heap.size w X → b < X.heap.size ∧ X.cell? ⟨b, off + k * 8, none⟩ = some (.int .i64 r.t) ∧ X.cell? ⟨b, off + k * 8 + 1, none⟩ = some (.int .i64 r.c) ∧ X.cell? ⟨b, off + k * 8 + 2, none⟩ = some (.int .i64 r.i) ∧ X.cell? ⟨b, off + k * 8 + 3, none⟩ = some (.int .i64 r.j) ∧ X.cell? ⟨b, off + k * 8 + 4, none⟩ = some (.int .i64 r.re) ∧ X.cell? ⟨b, off + k * 8 + 5, none⟩ = some (.int .i64 r.im) ∧ X.cell? ⟨b, off + k * 8 + 6, none⟩ = some (.int .i64 r.dn) ∧ X.cell? ⟨b, off + k * 8 + 7, none⟩ = some (.int .i64 r.n)) :=
   Lib.hid (fun X hX => ⟨Nat.lt_of_lt_of_le bl hX.size, (hX.cell (p := ⟨b, off + k * 8, none⟩) bl).trans a0, (hX.cell (p := ⟨b, off + k * 8 + 1, none⟩) bl).trans a1, (hX.cell (p := ⟨b, off + k * 8 + 2, none⟩) bl).trans a2, (hX.cell (p := ⟨b, off + k * 8 + 3, none⟩) bl).trans a3, (hX.cell (p := ⟨b, off + k * 8 + 4, none⟩) bl).trans a4, (hX.cell (p := ⟨b, off + k * 8 + 5, none⟩) bl).trans a5, (hX.cell (p := ⟨b, off + k * 8 + 6, none⟩) bl).trans a6, (hX.cell (p := ⟨b, off + k * 8 + 7, none⟩) bl).trans a7⟩)
  clear a0 a1 a2 a3 a4 a5 a6 a7 bl
  have hck : k < c := by omega
  obtain ⟨lb, b0, b1, b2, b3, b4, b5, b6, b7⟩ := HC.out wr NN.out
  go_wp2_with fail
  refine (HVC.out _).mono ?_
  rintro e w1 ⟨rfl, hb⟩
  replace NN := Lib.hid (Bgo NN.out hb)
  clear lb b0 b1 b2 b3 b4 b5 b6 b7 hb
  cases hB : rowB r
  ·have HR : Hid (v = 8) := Lib.hid (by rw [FV.out, good_prefix (k + 1) (by rw [HGT.out, hB]; rfl)]; rfl)
   clear hB
   go_wp2_with fail
   go_ret
   exact ⟨ret_int HR.out.symm, NN.out⟩
  have HRB := Lib.hid hB
  rw [hB, Bool.true_and] at HGT
  clear hB
  go_wp2_with fail
  by_cases h0 : k = 0
  ·have HGN : Hid (goodB (List.take (k + 1) l) = true) := Lib.hid (by rw [HGT.out, h0]; rfl)
   have d0 : decide (0 < k) = false := decide_eq_false (by omega)
   clear HGT h0
   go_quiet (fail)
   go_wp2_with fail
   refine ⟨⟨k + 1, by omega, by go_num, Lib.hid (below_drewN NN.out _), HGN⟩, by simp [intOf]; omega⟩
  obtain ⟨m, hkm⟩ : ∃ m, k = m + 1 := ⟨k - 1, by omega⟩
  have HSB := Lib.hid (good_last (by omega) HG.out (by omega : 0 < k))
  have HS2 : Hid (lastR l k = rowAt l m) := Lib.hid (by rw [hkm]; rfl)
  rw [HS2.out] at HSB HGT
  rw [decide_eq_false h0, Bool.false_or] at HGT
  have hml : m < l.length := by omega
  obtain ⟨b', off', eA, bl', e0, e1, e2, e3, e4, e5, e6, e7⟩ := RT.at_ HL.out hml
  injection eA with eA
  injection eA with eA1 eA2
  subst eA1 eA2
  rw [← rowAt_lt hml] at e0 e1 e2 e3 e4 e5 e6 e7
  generalize hs : rowAt l m = s at *
  have KR : Hid (∀ X : World, Calls Tryz.prog 19 #[Rwv r] X fun e w' => e = .returned (.int .i64 (vkey r)) ∧ Below X.heap.size X w') := Lib.hid (key_calls r HRB.out)
  have KS : Hid (∀ X : World, Calls Tryz.prog 19 #[Rwv s] X fun e w' => e = .returned (.int .i64 (vkey s)) ∧ Below X.heap.size X w') := Lib.hid (key_calls s HSB.out)
  generalize vkey s = ks at *
  generalize vkey r = kr at *
  have BN := NN.out
  obtain ⟨lb, b0, b1, b2, b3, b4, b5, b6, b7⟩ := HC.out w1 BN
  replace e0 := (BN.cell (p := ⟨b, off + m * 8, none⟩) bl').trans e0
  replace e1 := (BN.cell (p := ⟨b, off + m * 8 + 1, none⟩) bl').trans e1
  replace e2 := (BN.cell (p := ⟨b, off + m * 8 + 2, none⟩) bl').trans e2
  replace e3 := (BN.cell (p := ⟨b, off + m * 8 + 3, none⟩) bl').trans e3
  replace e4 := (BN.cell (p := ⟨b, off + m * 8 + 4, none⟩) bl').trans e4
  replace e5 := (BN.cell (p := ⟨b, off + m * 8 + 5, none⟩) bl').trans e5
  replace e6 := (BN.cell (p := ⟨b, off + m * 8 + 6, none⟩) bl').trans e6
  replace e7 := (BN.cell (p := ⟨b, off + m * 8 + 7, none⟩) bl').trans e7
  have d0 : decide (0 < k) = true := decide_eq_true (by omega)
  have d1 : (0 < k) = True := by simp; omega
  have hw : IntKind.i64.wrap ((k : Int) - 1) = (m : Int) := by rw [hkm]; rw [IntWalk.i64_in _ (by omega)]; omega
  have hmc : m < c := by omega
  clear BN hs hr hkm HS2 h0 bl'
  have HHC := HC
  clear HC
  have HDRW := Lib.hid (Below.drew (Below.refl w1.heap.size w1))
  replace NN := Lib.hid (Bgo NN.out HDRW.out)
  clear HDRW
  have HAL : Hid (∀ kx9 : Nat, SZ [(7, ⟨b, off + m * 8, none⟩, .int .i64 s.t), (7, ⟨b, off + m * 8 + 1, none⟩, .int .i64 s.c), (7, ⟨b, off + m * 8 + 2, none⟩, .int .i64 s.i), (7, ⟨b, off + m * 8 + 3, none⟩, .int .i64 s.j), (7, ⟨b, off + m * 8 + 4, none⟩, .int .i64 s.re), (7, ⟨b, off + m * 8 + 5, none⟩, .int .i64 s.im), (7, ⟨b, off + m * 8 + 6, none⟩, .int .i64 s.dn), (7, ⟨b, off + m * 8 + 7, none⟩, .int .i64 s.n), (12, ⟨b, off + k * 8, none⟩, .int .i64 r.t), (12, ⟨b, off + k * 8 + 1, none⟩, .int .i64 r.c), (12, ⟨b, off + k * 8 + 2, none⟩, .int .i64 r.i), (12, ⟨b, off + k * 8 + 3, none⟩, .int .i64 r.j), (12, ⟨b, off + k * 8 + 4, none⟩, .int .i64 r.re), (12, ⟨b, off + k * 8 + 5, none⟩, .int .i64 r.im), (12, ⟨b, off + k * 8 + 6, none⟩, .int .i64 r.dn), (12, ⟨b, off + k * 8 + 7, none⟩, .int .i64 r.n)] [] kx9 w1.drew) := Lib.hid (fun kx9 => by
   constructor
   ·intro p hp e
    simp only [List.mem_cons, List.not_mem_nil, or_false] at hp
    rcases hp with rfl | rfl | rfl | rfl | rfl | rfl | rfl | rfl | rfl | rfl | rfl | rfl | rfl | rfl | rfl | rfl
    ·exact ⟨lb, e0⟩
    ·exact ⟨lb, e1⟩
    ·exact ⟨lb, e2⟩
    ·exact ⟨lb, e3⟩
    ·exact ⟨lb, e4⟩
    ·exact ⟨lb, e5⟩
    ·exact ⟨lb, e6⟩
    ·exact ⟨lb, e7⟩
    ·exact ⟨lb, b0⟩
    ·exact ⟨lb, b1⟩
    ·exact ⟨lb, b2⟩
    ·exact ⟨lb, b3⟩
    ·exact ⟨lb, b4⟩
    ·exact ⟨lb, b5⟩
    ·exact ⟨lb, b6⟩
    ·exact ⟨lb, b7⟩
   ·intro p hp e
    exact absurd hp (by simp)
   )
  refine region_I (S := SZ [(7, ⟨b, off + m * 8, none⟩, .int .i64 s.t), (7, ⟨b, off + m * 8 + 1, none⟩, .int .i64 s.c), (7, ⟨b, off + m * 8 + 2, none⟩, .int .i64 s.i), (7, ⟨b, off + m * 8 + 3, none⟩, .int .i64 s.j), (7, ⟨b, off + m * 8 + 4, none⟩, .int .i64 s.re), (7, ⟨b, off + m * 8 + 5, none⟩, .int .i64 s.im), (7, ⟨b, off + m * 8 + 6, none⟩, .int .i64 s.dn), (7, ⟨b, off + m * 8 + 7, none⟩, .int .i64 s.n), (12, ⟨b, off + k * 8, none⟩, .int .i64 r.t), (12, ⟨b, off + k * 8 + 1, none⟩, .int .i64 r.c), (12, ⟨b, off + k * 8 + 2, none⟩, .int .i64 r.i), (12, ⟨b, off + k * 8 + 3, none⟩, .int .i64 r.j), (12, ⟨b, off + k * 8 + 4, none⟩, .int .i64 r.re), (12, ⟨b, off + k * 8 + 5, none⟩, .int .i64 r.im), (12, ⟨b, off + k * 8 + 6, none⟩, .int .i64 r.dn), (12, ⟨b, off + k * 8 + 7, none⟩, .int .i64 r.n)] []) (by kernel_rfl) ?_
  refine take_I 0 (.int .i64 (k : Int)) (some 19) rfl (by kernel_rfl) (by kernel_rfl) (by kernel_rfl) rfl (fun _ _ _ h => h) (Or.inl ⟨by rfl, ?_⟩) (SZ.drop (by simp) (by simp)) ?_
  ·intro X hX
   clear hX
   go_simp
  try simp only [Act.put, zA, zB, zC]
  refine take_I 1 (.bool true) (some 20) rfl (by kernel_rfl) (by kernel_rfl) (by kernel_rfl) rfl (fun _ _ _ h => h) (Or.inl ⟨by rfl, ?_⟩) (SZ.drop (by simp) (by simp)) ?_
  ·intro X hX
   clear hX
   go_simp
  try simp only [Act.put, zA, zB, zC]
  refine take_I 2 (.bool true) (some 21) rfl (by kernel_rfl) (by kernel_rfl) (by kernel_rfl) rfl (fun _ _ _ h => h) (Or.inl ⟨by rfl, ?_⟩) (SZ.drop (by simp) (by simp)) ?_
  ·intro X hX
   clear hX
   go_simp
  try simp only [Act.put, zA, zB, zC]
  refine take_I 3 (.slice (some ⟨b, off, none⟩) l.length c) (some 22) rfl (by kernel_rfl) (by kernel_rfl) (by kernel_rfl) rfl (fun _ _ _ h => h) (Or.inl ⟨by rfl, ?_⟩) (SZ.drop (by simp) (by simp)) ?_
  ·intro X hX
   clear hX
   go_simp
  try simp only [Act.put, zA, zB, zC]
  refine take_I 4 (.int .i64 (k : Int)) (some 23) rfl (by kernel_rfl) (by kernel_rfl) (by kernel_rfl) rfl (fun _ _ _ h => h) (Or.inl ⟨by rfl, ?_⟩) (SZ.drop (by simp) (by simp)) ?_
  ·intro X hX
   clear hX
   go_simp
  try simp only [Act.put, zA, zB, zC]
  refine take_I 5 (.int .i64 (m : Int)) (some 24) rfl (by kernel_rfl) (by kernel_rfl) (by kernel_rfl) rfl (fun _ _ _ h => h) (Or.inl ⟨by rfl, ?_⟩) (SZ.drop (by simp) (by simp)) ?_
  ·intro X hX
   clear hX
   go_simp
  try simp only [Act.put, zA, zB, zC]
  refine take_I 6 (.pointer (some ⟨b, off + m * 8, none⟩)) (some 25) rfl (by kernel_rfl) (by kernel_rfl) (by kernel_rfl) rfl (fun _ _ _ h => h) (Or.inl ⟨by rfl, ?_⟩) (SZ.drop (by simp) (by simp)) ?_
  ·intro X hX
   clear hX
   go_simp
  try simp only [Act.put, zA, zB, zC]
  refine take_I 7 (.agg #[.int .i64 s.t, .int .i64 s.c, .int .i64 s.i, .int .i64 s.j, .int .i64 s.re, .int .i64 s.im, .int .i64 s.dn, .int .i64 s.n]) (some 26) rfl (by kernel_rfl) (by kernel_rfl) (by kernel_rfl) rfl (fun _ _ _ h => h) (Or.inl ⟨by rfl, ?_⟩) (HAL.out 7) ?_
  ·intro X hX
   obtain ⟨hz0, hc0⟩ := hX.1 (7, ⟨b, off + m * 8, none⟩, .int .i64 s.t) (List.Mem.head _) rfl
   simp only at hz0 hc0
   obtain ⟨hz1, hc1⟩ := hX.1 (7, ⟨b, off + m * 8 + 1, none⟩, .int .i64 s.c) (List.Mem.tail _ (List.Mem.head _)) rfl
   simp only at hz1 hc1
   obtain ⟨hz2, hc2⟩ := hX.1 (7, ⟨b, off + m * 8 + 2, none⟩, .int .i64 s.i) (List.Mem.tail _ (List.Mem.tail _ (List.Mem.head _))) rfl
   simp only at hz2 hc2
   obtain ⟨hz3, hc3⟩ := hX.1 (7, ⟨b, off + m * 8 + 3, none⟩, .int .i64 s.j) (List.Mem.tail _ (List.Mem.tail _ (List.Mem.tail _ (List.Mem.head _)))) rfl
   simp only at hz3 hc3
   obtain ⟨hz4, hc4⟩ := hX.1 (7, ⟨b, off + m * 8 + 4, none⟩, .int .i64 s.re) (List.Mem.tail _ (List.Mem.tail _ (List.Mem.tail _ (List.Mem.tail _ (List.Mem.head _))))) rfl
   simp only at hz4 hc4
   obtain ⟨hz5, hc5⟩ := hX.1 (7, ⟨b, off + m * 8 + 5, none⟩, .int .i64 s.im) (List.Mem.tail _ (List.Mem.tail _ (List.Mem.tail _ (List.Mem.tail _ (List.Mem.tail _ (List.Mem.head _)))))) rfl
   simp only at hz5 hc5
   obtain ⟨hz6, hc6⟩ := hX.1 (7, ⟨b, off + m * 8 + 6, none⟩, .int .i64 s.dn) (List.Mem.tail _ (List.Mem.tail _ (List.Mem.tail _ (List.Mem.tail _ (List.Mem.tail _ (List.Mem.tail _ (List.Mem.head _))))))) rfl
   simp only at hz6 hc6
   obtain ⟨hz7, hc7⟩ := hX.1 (7, ⟨b, off + m * 8 + 7, none⟩, .int .i64 s.n) (List.Mem.tail _ (List.Mem.tail _ (List.Mem.tail _ (List.Mem.tail _ (List.Mem.tail _ (List.Mem.tail _ (List.Mem.tail _ (List.Mem.head _)))))))) rfl
   simp only at hz7 hc7
   clear hX
   go_simp
  try simp only [Act.put, zA, zB, zC]
  refine take_I 9 (.slice (some ⟨b, off, none⟩) l.length c) (some 28) rfl (by kernel_rfl) (by kernel_rfl) (by kernel_rfl) rfl (fun _ _ _ h => h) (Or.inl ⟨by rfl, ?_⟩) (SZ.drop (by simp) (by simp)) ?_
  ·intro X hX
   clear hX
   go_simp
  try simp only [Act.put, zA, zB, zC]
  refine take_I 10 (.int .i64 (k : Int)) (some 29) rfl (by kernel_rfl) (by kernel_rfl) (by kernel_rfl) rfl (fun _ _ _ h => h) (Or.inl ⟨by rfl, ?_⟩) (SZ.drop (by simp) (by simp)) ?_
  ·intro X hX
   clear hX
   go_simp
  try simp only [Act.put, zA, zB, zC]
  refine take_I 11 (.pointer (some ⟨b, off + k * 8, none⟩)) (some 30) rfl (by kernel_rfl) (by kernel_rfl) (by kernel_rfl) rfl (fun _ _ _ h => h) (Or.inl ⟨by rfl, ?_⟩) (SZ.drop (by simp) (by simp)) ?_
  ·intro X hX
   clear hX
   go_simp
  try simp only [Act.put, zA, zB, zC]
  refine take_I 12 (.agg #[.int .i64 r.t, .int .i64 r.c, .int .i64 r.i, .int .i64 r.j, .int .i64 r.re, .int .i64 r.im, .int .i64 r.dn, .int .i64 r.n]) (some 31) rfl (by kernel_rfl) (by kernel_rfl) (by kernel_rfl) rfl (fun _ _ _ h => h) (Or.inl ⟨by rfl, ?_⟩) (HAL.out 12) ?_
  ·intro X hX
   obtain ⟨hz8, hc8⟩ := hX.1 (12, ⟨b, off + k * 8, none⟩, .int .i64 r.t) (List.Mem.tail _ (List.Mem.tail _ (List.Mem.tail _ (List.Mem.tail _ (List.Mem.tail _ (List.Mem.tail _ (List.Mem.tail _ (List.Mem.tail _ (List.Mem.head _))))))))) rfl
   simp only at hz8 hc8
   obtain ⟨hz9, hc9⟩ := hX.1 (12, ⟨b, off + k * 8 + 1, none⟩, .int .i64 r.c) (List.Mem.tail _ (List.Mem.tail _ (List.Mem.tail _ (List.Mem.tail _ (List.Mem.tail _ (List.Mem.tail _ (List.Mem.tail _ (List.Mem.tail _ (List.Mem.tail _ (List.Mem.head _)))))))))) rfl
   simp only at hz9 hc9
   obtain ⟨hz10, hc10⟩ := hX.1 (12, ⟨b, off + k * 8 + 2, none⟩, .int .i64 r.i) (List.Mem.tail _ (List.Mem.tail _ (List.Mem.tail _ (List.Mem.tail _ (List.Mem.tail _ (List.Mem.tail _ (List.Mem.tail _ (List.Mem.tail _ (List.Mem.tail _ (List.Mem.tail _ (List.Mem.head _))))))))))) rfl
   simp only at hz10 hc10
   obtain ⟨hz11, hc11⟩ := hX.1 (12, ⟨b, off + k * 8 + 3, none⟩, .int .i64 r.j) (List.Mem.tail _ (List.Mem.tail _ (List.Mem.tail _ (List.Mem.tail _ (List.Mem.tail _ (List.Mem.tail _ (List.Mem.tail _ (List.Mem.tail _ (List.Mem.tail _ (List.Mem.tail _ (List.Mem.tail _ (List.Mem.head _)))))))))))) rfl
   simp only at hz11 hc11
   obtain ⟨hz12, hc12⟩ := hX.1 (12, ⟨b, off + k * 8 + 4, none⟩, .int .i64 r.re) (List.Mem.tail _ (List.Mem.tail _ (List.Mem.tail _ (List.Mem.tail _ (List.Mem.tail _ (List.Mem.tail _ (List.Mem.tail _ (List.Mem.tail _ (List.Mem.tail _ (List.Mem.tail _ (List.Mem.tail _ (List.Mem.tail _ (List.Mem.head _))))))))))))) rfl
   simp only at hz12 hc12
   obtain ⟨hz13, hc13⟩ := hX.1 (12, ⟨b, off + k * 8 + 5, none⟩, .int .i64 r.im) (List.Mem.tail _ (List.Mem.tail _ (List.Mem.tail _ (List.Mem.tail _ (List.Mem.tail _ (List.Mem.tail _ (List.Mem.tail _ (List.Mem.tail _ (List.Mem.tail _ (List.Mem.tail _ (List.Mem.tail _ (List.Mem.tail _ (List.Mem.tail _ (List.Mem.head _)))))))))))))) rfl
   simp only at hz13 hc13
   obtain ⟨hz14, hc14⟩ := hX.1 (12, ⟨b, off + k * 8 + 6, none⟩, .int .i64 r.dn) (List.Mem.tail _ (List.Mem.tail _ (List.Mem.tail _ (List.Mem.tail _ (List.Mem.tail _ (List.Mem.tail _ (List.Mem.tail _ (List.Mem.tail _ (List.Mem.tail _ (List.Mem.tail _ (List.Mem.tail _ (List.Mem.tail _ (List.Mem.tail _ (List.Mem.tail _ (List.Mem.head _))))))))))))))) rfl
   simp only at hz14 hc14
   obtain ⟨hz15, hc15⟩ := hX.1 (12, ⟨b, off + k * 8 + 7, none⟩, .int .i64 r.n) (List.Mem.tail _ (List.Mem.tail _ (List.Mem.tail _ (List.Mem.tail _ (List.Mem.tail _ (List.Mem.tail _ (List.Mem.tail _ (List.Mem.tail _ (List.Mem.tail _ (List.Mem.tail _ (List.Mem.tail _ (List.Mem.tail _ (List.Mem.tail _ (List.Mem.tail _ (List.Mem.tail _ (List.Mem.head _)))))))))))))))) rfl
   simp only at hz15 hc15
   clear hX
   go_simp
  try simp only [Act.put, zA, zB, zC]
  refine only_I 8 (by kernel_rfl) rfl (fun K' hK' => ?_)
  go_simp
  go_at_call 19
  refine (KS.out _).mono ?_
  rintro e x1 ⟨rfl, hb⟩
  replace NN := Lib.hid (Bgo NN.out hb)
  go_simp
  refine hK'.out _ _ (fun _ _ hS => hS.next hb) ?_
  clear hK' K'
  try simp only [Act.put, zA, zB, zC]
  replace HAL := Lib.hid (fun kx9 => (HAL.out kx9).next hb)
  clear hb
  refine only_I 13 (by kernel_rfl) rfl (fun K' hK' => ?_)
  go_simp
  go_at_call 19
  refine (KR.out _).mono ?_
  rintro e x2 ⟨rfl, hb⟩
  replace NN := Lib.hid (Bgo NN.out hb)
  go_simp
  refine hK'.out _ _ (fun _ _ hS => hS.next hb) ?_
  clear hK' K'
  try simp only [Act.put, zA, zB, zC]
  replace HAL := Lib.hid (fun kx9 => (HAL.out kx9).next hb)
  clear hb
  refine take_I 14 (.bool (decide (kr ≤ ks))) (some 33) rfl (by kernel_rfl) (by kernel_rfl) (by kernel_rfl) rfl (fun _ _ _ h => h) (Or.inl ⟨by rfl, ?_⟩) (SZ.drop (by simp) (by simp)) ?_
  ·intro X hX
   clear hX
   go_simp
  try simp only [Act.put, zA, zB, zC]
  refine take_I 15 (.bool (decide (kr ≤ ks))) (some 34) rfl (by kernel_rfl) (by kernel_rfl) (by kernel_rfl) rfl (fun _ _ _ h => h) (Or.inl ⟨by rfl, ?_⟩) (SZ.drop (by simp) (by simp)) ?_
  ·intro X hX
   clear hX
   go_simp
  try simp only [Act.put, zA, zB, zC]
  clear HAL
  refine done_I (by kernel_rfl) ?_ _
  clear d0 d1 hw
  by_cases hx : ks < kr
  ·have d2 : decide (kr ≤ ks) = false := decide_eq_false (by omega)
   have HGN : Hid (goodB (List.take (k + 1) l) = true) := Lib.hid (by rw [HGT.out]; exact decide_eq_true hx)
   clear HGT
   go_wp2_with fail
   all_goals first | (exfalso; omega; done) | (refine ⟨⟨k + 1, by omega, by go_num, NN, HGN⟩, by simp [intOf]; omega⟩)
  ·have d2 : decide (kr ≤ ks) = true := decide_eq_true (by omega)
   have HR : Hid (v = 8) := Lib.hid (by rw [FV.out, good_prefix (k + 1) (by rw [HGT.out]; exact decide_eq_false hx)]; rfl)
   clear HGT
   go_wp2_with fail
   all_goals first | (exfalso; omega; done) | (go_ret; exact ⟨ret_int HR.out.symm, NN.out⟩)
end Go.Proofs.YtbbnkclajpaghaaGreatDoor
namespace Go.Proofs.YtbbnkclajpaghaaGreatDoor
open Go.ChangeShapes Go.WideShapes Go.ChangeAt Go.RowKit
set_option linter.unusedVariables false
set_option linter.unusedSimpArgs false
attribute [local go_sem ↓] Go.wp_at_zero Go.wp_at_succ
def txE (t : List Vr) : Int := if chkE t ≠ 0 then chkE t else if 20000 < (txT t).length then 4 else 0
def txO (t : List Vr) : List UInt8 := if txE t = 0 then txT t else []
theorem txT_snoc (t : List Vr) (r : Vr) : txT (t ++ [r]) = txT t ++ (lnL r ++ [10]) := by simp [txT]
theorem txT_take {t : List Vr} {k : Nat} {r : Vr} (h : t[k]? = some r) : txT (t.take (k + 1)) = txT (t.take k) ++ (lnL r ++ [10]) := by
 obtain ⟨h1, h2⟩ := List.getElem?_eq_some_iff.1 h
 rw [← List.take_append_getElem h1, h2, txT_snoc]
theorem txT_max {t : List Vr} (h : ∀ r ∈ t, rowB r = true) : (txT t).length ≤ t.length * 201 := by
 induction t with
 | nil => exact Nat.zero_le _
 | cons r t ih =>
  have h1 := lnL_len (h r (List.mem_cons_self ..))
  have h2 := ih fun x hx => h x (List.mem_cons_of_mem _ hx)
  rw [txT_cons, List.length_append, List.length_cons, List.length_cons]; omega
end Go.Proofs.YtbbnkclajpaghaaGreatDoor
namespace Go.Proofs.YtbbnkclajpaghaaGreatDoor
open Go Go.RowKit
set_option linter.unusedVariables false
theorem own_keeps {B : Nat} {w w' : World} {e : TypeId} {sz n : Nat} {v : Value} {xs : List Value} (h : w.ownsRow B e sz v n xs) (hg : w.grownBy w' v.ownBlock) : KeepsOthers w w' := by
 refine KeepsOthers.of_grownBy hg fun j o e hj => ?_
 rcases h.2 with ⟨h5, _⟩ | ⟨g, cap', cur, hv, hb, h3, _⟩
 ·rw [h5] at e; cases e
 ·rw [hv] at e
  simp [Value.ownBlock] at e
  subst e
  rw [h3] at hj
  cases hj
  rfl
theorem sb_size : (Tryz.prog.info? 63).map (·.size) = some 2 := by kernel_rfl
theorem sb_lies : liesAt Tryz.prog Tryz.prog.depth 63 (2 / Tryz.prog.cellsOf 63) 0 63 1 = true := by kernel_rfl
theorem sb_byte : (Tryz.prog.info? 5).map (fun i => (i.zero, i.size, i.bytes)) = some (some (.int .u8 0), 1, 1) := by kernel_rfl
set_option maxHeartbeats 1000000 in
set_option maxRecDepth 100000 in
theorem sb_used (b : Nat) (w : World) (h0 : w.cell? ⟨b, 0, none⟩ = some (.pointer (some ⟨b, 0, none⟩))) :
  Calls Tryz.prog 55 #[.pointer (some ⟨b, 0, none⟩)] w fun e w' => e = .returned (.tuple #[]) ∧ w' = w := by
 obtain ⟨j, hj, _⟩ := Option.map_eq_some_iff.1 sb_size
 go_enter Tryz.func55, Tryz.ntmps55
 go_wp2
 rw [Lib.run_neq_ptr_same w _ Tryz.underlying60 hj]
 go_wp2
 go_end0
 exact ⟨rfl, rfl⟩
set_option maxHeartbeats 1000000 in
set_option maxRecDepth 100000 in
theorem sb_fresh (b : Nat) (w : World) (h0 : w.cell? ⟨b, 0, none⟩ = some (.pointer none)) (hsh : w.shape? b = some (63, 2)) (hfz : w.frozen? ⟨b, 0, none⟩ = false) :
  Calls Tryz.prog 55 #[.pointer (some ⟨b, 0, none⟩)] w fun e w' => e = .returned (.tuple #[]) ∧ w' = w.setCell ⟨b, 0, none⟩ (.pointer (some ⟨b, 0, none⟩)) := by
 obtain ⟨j, hj, hjs⟩ := Option.map_eq_some_iff.1 sb_size
 go_enter Tryz.func55, Tryz.ntmps55
 go_wp2
 rw [Lib.run_to_unsafe w ⟨b, 0, none⟩ Tryz.underlying60 Tryz.underlying136 hj (by rw [hjs]; decide) hsh (Nat.zero_lt_succ 1)]
 simp only [Result.andThen]
 rw [Oper.upon_value]
 go_wp2
 rw [run_callFunc_extern Tryz.func83 (by kernel_rfl) (by kernel_rfl) (by kernel_rfl) (e := Extern.AbiNoEscape.same) (by kernel_rfl)]
 rw [Lib.run_noEscape]
 simp only [Result.andThen]
 rw [Oper.upon_value]
 go_wp2
 rw [Lib.run_from_unsafe w ⟨b, 0, none⟩ Tryz.underlying136 Tryz.underlying60 hj hsh sb_lies]
 simp only [Result.andThen]
 rw [Oper.upon_value]
 go_wp2
 go_end0
 exact ⟨rfl, rfl⟩
abbrev SB (B b : Nat) (bs : List Value) (w : World) : Prop := Lib.IsBuilder 63 5 B b bs w
abbrev SBU (B b : Nat) (bs : List Value) (w : World) : Prop := Lib.BuilderAt 63 5 B b (.pointer (some ⟨b, 0, none⟩)) bs w
theorem sb_check (B b : Nat) (bs : List Value) (w : World) (h : SB B b bs w) :
  Calls Tryz.prog 55 #[.pointer (some ⟨b, 0, none⟩)] w fun e w' => e = .returned (.tuple #[]) ∧ SBU B b bs w' ∧ Below B w w' ∧ KeepsOthers w w' := by
 rcases h with h | h
 ·refine (sb_fresh b w h.cell0 h.shape h.frozen0).mono ?_
  rintro e w' ⟨rfl, rfl⟩
  exact ⟨rfl, h.used _, (Below.refl B w).setCell (p := ⟨b, 0, none⟩) h.1 _, KeepsOthers.setCell _ _ _⟩
 ·refine (sb_used b w h.cell0).mono ?_
  rintro e w' ⟨rfl, rfl⟩
  exact ⟨rfl, h, Below.refl B _, KeepsOthers.refl _⟩
set_option maxHeartbeats 1000000 in
set_option maxRecDepth 100000 in
theorem sb_write (B b : Nat) (bs : List Value) (s : ByteArray) (w : World) (h : SB B b bs w) (hlen : bs.length + s.size ≤ 140737488355328) (hBw : B ≤ w.heap.size) :
  Calls Tryz.prog 29 #[.pointer (some ⟨b, 0, none⟩), .string s] w fun e w' => e = .returned (.tuple #[.int .i64 s.size, .nilIface]) ∧ SBU B b (bs ++ Lib.strCells s) w' ∧ Below B w w' ∧ KeepsOthers w w' := by
 obtain ⟨i0, hi, hz0, hz1, hz2⟩ := info_parts sb_byte
 go_enter Tryz.func29, Tryz.ntmps29
 go_wp2_with fail
 refine (sb_check B b bs _ h).mono ?_
 rintro e w1 ⟨rfl, h1, hb1, hk1⟩
 obtain ⟨hB, v, hbk, hown, hne⟩ := h1
 have c0 : w1.cell? ⟨b, 0, none⟩ = some (.pointer (some ⟨b, 0, none⟩)) := by rw [Lib.cell_of_heap hbk]; rfl
 have c1 : w1.cell? ⟨b, 1, none⟩ = some v := by rw [Lib.cell_of_heap hbk]; rfl
 go_wp2_with (at_builtin; refine Lib.wpList_append_own_string _ rfl _ _ 61 9 rfl B 5 i0 Tryz.underlying61 Tryz.underlying9 hi hz0 hz1 hz2 _ _ _ rfl hown s rfl ?c3 ?c4 ?c5 ?_)
 case c3 => unfold maxLen; omega
 case c4 => omega
 case c5 => have := hb1.size; omega
 intro v' w2 hown' hgrow _
 have hk2 := own_keeps hown hgrow
 have hlt : b < w1.heap.size := by
  rcases Nat.lt_or_ge b w1.heap.size with h' | h'
  ·exact h'
  ·simp [Array.getElem?_eq_none h'] at hbk
 have hb2 : w2.heap[b]? = some (.cells #[.pointer (some ⟨b, 0, none⟩), v] 63 (0, 0)) := by
  rw [hgrow.block b hlt (fun e => hne e.symm)]
  exact hbk
 have d0 : w2.cell? ⟨b, 0, none⟩ = some (.pointer (some ⟨b, 0, none⟩)) := by rw [Lib.cell_of_heap hb2]; rfl
 have d1 : w2.cell? ⟨b, 1, none⟩ = some v := by rw [Lib.cell_of_heap hb2]; rfl
 have f1 : w2.frozen? ⟨b, 1, none⟩ = false := Lib.frozen_of_heap hb2 1
 obtain ⟨ao, n', cap, rfl⟩ : ∃ ao n' cap, v' = .slice ao n' cap := by
  rcases hown'.2 with ⟨hv, _⟩ | ⟨g, cap, cur, hv, _⟩
  ·exact ⟨_, _, _, hv⟩
  ·exact ⟨_, _, _, hv⟩
 go_wp2
 go_ret2
 refine ⟨rfl, ?_, ?_, (hk1.trans hk2).trans (KeepsOthers.setCell _ _ _)⟩
 ·exact Lib.BuilderAt.put (T := 63) (e := 5) hB hb2 (bs' := bs ++ Lib.strCells s) (by simpa [Lib.strCells_length] using hown') (by decide)
 ·exact (hb1.grown hgrow (by have := hb1.size; omega) (fun k hk => (hown.lt k hk).1)).setCell (p := ⟨b, 1, none⟩) hB _
theorem SBU.sb {B b : Nat} {bs : List Value} {W : World} (h : SBU B b bs W) : SB B b bs W := .inr h
theorem SB.next {B b : Nat} {bs : List Value} {W W' : World} (h : SB B b bs W) (hb : Below W.heap.size W W') : SB B b bs W' := by
 rcases h with ⟨h1, v, h2, h3, h4⟩ | ⟨h1, v, h2, h3, h4⟩
 ·exact .inl ⟨h1, v, blk_next hb h2, own_next hb h3, h4⟩
 ·exact .inr ⟨h1, v, blk_next hb h2, own_next hb h3, h4⟩
theorem own_any {B B' : Nat} {e : TypeId} {sz n : Nat} {v : Value} {xs : List Value} {W W' : World} {row : Option Nat} (h : W.ownsRow B' e sz v n xs) (hg : W.grownBy W' row) (hr : ∀ r, row = some r → B ≤ r ∧ ∃ o : Obj, W.heap[r]? = some o ∧ o.isCells = false) : W'.ownsRow B' e sz v n xs := by
 refine ⟨h.1, ?_⟩
 rcases h.2 with h2 | ⟨g, cap, cur, h1, h2, h3, h4⟩
 ·exact .inl h2
 ·refine .inr ⟨g, cap, cur, h1, h2, (hg.block g (blk_lt h3) fun e => ?_).trans h3, h4⟩
  obtain ⟨_, o, ho, hc⟩ := hr g e.symm
  rw [h3] at ho
  cases ho
  cases hc
theorem own_sb {B B' b : Nat} {β : Type} (bs : β → List Value) : OwnFrom B (fun k W => SB B' b (bs k) W) := by
 intro s W W' row h hg hr
 have K : ∀ {cs : Array Value} {T : TypeId}, W.heap[b]? = some (.cells cs T) → W'.heap[b]? = some (.cells cs T) := fun {cs T} h1 => by
  refine (hg.block b (blk_lt h1) fun e => ?_).trans h1
  obtain ⟨_, o, ho, hc⟩ := hr b e.symm
  rw [h1] at ho
  cases ho
  cases hc
 rcases h with ⟨h1, v, h2, h3, h4⟩ | ⟨h1, v, h2, h3, h4⟩
 ·exact .inl ⟨h1, v, K h2, own_any h3 hg hr, h4⟩
 ·exact .inr ⟨h1, v, K h2, own_any h3 hg hr, h4⟩
theorem SB.new (w : World) : SB w.heap.size w.heap.size [] (w.alloc (.cells #[.pointer none, .slice none 0 0] 63)) :=
 .inl ⟨Nat.le_refl _, _, blk_new w _, World.ownsRow_nil _ _ _ _, by simp [Value.ownBlock]⟩
end Go.Proofs.YtbbnkclajpaghaaGreatDoor
namespace Go.Proofs.YtbbnkclajpaghaaGreatDoor
set_option linter.unusedVariables false
theorem cut_less {s : List UInt8} (h : s ≠ []) (c : UInt8) : (Lib.cut s [c]).2.1.length < s.length := by
 have h0 := List.length_pos_iff.2 h
 unfold Lib.cut
 split
 ·rename_i e
  have := Lib.index_room s [c] e
  simp only [List.length_drop, List.length_singleton]
  omega
 ·simpa using h0
theorem cut_part (s : List UInt8) (c : UInt8) : (Lib.cut s [c]).1.length ≤ s.length := by
 unfold Lib.cut
 split
 ·simp only [List.length_take]; omega
 ·exact Nat.le_refl _
theorem linesL_fuel : ∀ (f g : Nat) (s : List UInt8), s.length < f → s.length < g → linesL f s = linesL g s
 | 0, _, s, h, _ => by omega
 | f + 1, 0, s, _, h => by omega
 | f + 1, g + 1, s, h1, h2 => by
  unfold linesL
  by_cases e : s = []
  ·rw [if_pos e, if_pos e]
  ·rw [if_neg e, if_neg e]
   have := cut_less e 10
   rw [linesL_fuel f g _ (by omega) (by omega)]
def linesF (s : List UInt8) : List (List UInt8) := linesL (s.length + 1) s
theorem linesF_nil : linesF [] = [] := rfl
theorem linesF_cons {s : List UInt8} (h : s ≠ []) : linesF s = (Lib.cut s [10]).1 :: linesF (Lib.cut s [10]).2.1 := by
 conv => lhs; unfold linesF linesL
 rw [if_neg h]
 have := cut_less h 10
 unfold linesF
 rw [linesL_fuel s.length _ _ this (Nat.lt_succ_self _)]
theorem linesF_part : ∀ (n : Nat) (s : List UInt8), s.length ≤ n → ∀ x ∈ linesF s, x.length ≤ s.length
 | 0, s, h => by
  have : s = [] := List.length_eq_zero_iff.1 (by omega)
  subst this; intro x hx; cases hx
 | n + 1, s, h => by
  by_cases e : s = []
  ·subst e; intro x hx; cases hx
  ·rw [linesF_cons e]
   have h1 := cut_less e 10
   intro x hx
   rcases List.mem_cons.1 hx with rfl | hx
   ·exact cut_part s 10
   ·exact Nat.le_trans (linesF_part n _ (by omega) x hx) (by omega)
theorem drop_line {L : List (List UInt8)} {k : Nat} {s : List UInt8} (h : L.drop k = linesF s) (hs : s ≠ []) : k < L.length ∧ L.getD k [] = (Lib.cut s [10]).1 ∧ L.drop (k + 1) = linesF (Lib.cut s [10]).2.1 := by
 rw [linesF_cons hs] at h
 have hk : k < L.length := by
  rcases Nat.lt_or_ge k L.length with h' | h'
  ·exact h'
  ·rw [List.drop_eq_nil_of_le h'] at h; cases h
 rw [List.drop_eq_getElem_cons hk] at h
 injection h with h1 h2
 exact ⟨hk, by rw [← h1]; simp [List.getD, hk], h2⟩
theorem drop_end {L : List (List UInt8)} {k : Nat} (h : L.drop k = linesF []) (hk : k ≤ L.length) : k = L.length := by
 rw [linesF_nil] at h
 have := List.drop_eq_nil_iff.1 h
 omega
end Go.Proofs.YtbbnkclajpaghaaGreatDoor
namespace Go.Proofs.YtbbnkclajpaghaaGreatDoor
open Go.ChangeShapes Go.WideShapes Go.ChangeAt Go.RowKit
set_option linter.unusedVariables false
attribute [local go_sem] Oper.semAt_some
theorem lines_calls (s : List UInt8) (w : World) : Calls Tryz.prog 33 #[Str s] w fun e w' =>
  e = .returned (.func (.func 60) #[] #[.pointer (some ⟨w.heap.size, 0, none⟩)]) ∧ w' = w.alloc (.cells #[Str s] 9) := by
 go_enter Tryz.func33, Tryz.ntmps33
 go_wp2
 go_ret
 exact ⟨rfl, rfl⟩
theorem cutN_calls (l : List UInt8) (w : World) (hs : l.length ≤ 100000) (g : GL w) :
  Calls Tryz.prog 61 #[Str l, .string ⟨#[10]⟩] w fun e w' => e = .returned (.tuple #[Str (Lib.cut l [10]).1, Str (Lib.cut l [10]).2.1, .bool (Lib.cut l [10]).2.2]) ∧ ∃ n, w' = w.drewN n := by
 obtain ⟨m, hm⟩ := g.max
 have h := Tryz.strings_Cut ⟨l.toArray⟩ ⟨#[10]⟩ m w (by show l.toArray.size < _; simp; omega) hm
 simpa using h
theorem grown_drewN9 (W : World) (n : Nat) (row : Option Nat) : W.grownBy (W.drewN n) row := ⟨rfl, rfl, rfl, Nat.le_refl _, fun _ _ _ => rfl⟩
abbrev encL (s : List UInt8) (k : Nat) : Array Value := #[Str ((linesF s).getD k [])]
set_option maxRecDepth 100000 in
set_option maxHeartbeats 4000000 in
theorem lines_seq {s : List UInt8} {n₀ Bt : Nat} {w : World} (hs : s.length ≤ 100000) (hG : ∀ W, Below n₀ w W → GL W)
  (hn : n₀ ≤ w.heap.size) (hB : w.heap[Bt]? = some (.cells #[Str s] 9)) :
  SeqN Tryz.prog 60 #[.pointer (some ⟨Bt, 0, none⟩)] (encL s) n₀ (linesF s).length w := by
 intro lp J Jx W hW hJ hJx hY h0
 have VB := blk_next hW hB
 have HG := Lib.hid (fun X (h : Below n₀ W X) => hG X ((hW.mono hn).trans h))
 have cB := blk_cell VB 0 (Str s) rfl
 have lB := blk_lt VB
 have SN : Hid ((linesF s).drop 0 = linesF s) := Lib.hid rfl
 clear hB VB hG
 refine callsIn_of_wp Tryz.func60 rfl trivial ?_ rfl
 simp only [Tryz.ntmps60, List.size_toArray, List.length_cons, List.length_nil, Nat.reduceAdd, Nat.reduceSub, Array.replicate_succ, Array.replicate_zero, List.push_toArray, List.append_toArray, List.nil_append, List.cons_append]
 gi_wp2
 gi_loopw [3] (fun i wr => ∃ (k : Nat) (r : List UInt8), k ≤ (linesF s).length ∧ r.length ≤ s.length ∧ i = Str r ∧ Hid ((linesF s).drop k = linesF r) ∧ Hid (J k wr) ∧ Hid (Below n₀ W wr) ∧ Hid (W.heap.size ≤ wr.heap.size)) (fun i _ => match i with | .string b => b.data.size | _ => 0)
 case atStart => exact ⟨0, s, Nat.zero_le _, Nat.le_refl _, rfl, SN, Lib.hid h0, Lib.hid (Below.refl _ _), Lib.hid (Nat.le_refl _)⟩
 case round =>
  obtain ⟨k, r, hk, hr, rfl, hd, hJs, hnx, hsz⟩ := hrel
  by_cases e : r = []
  ·subst e
   have ek := drop_end hd.out hk
   have q1 : (([] : List UInt8) == []) = true := rfl
   gi_wp2
   go_end0
   exact ⟨⟨_, rfl⟩, .inl (by rw [← ek]; exact hJs.out)⟩
  ·obtain ⟨hlt, hg, hd2⟩ := drop_line hd.out e
   have hl2 := cut_less e 10
   have q1 : (r == []) = false := by rw [beq_eq_false_iff_ne]; exact e
   have HGW := HG.out wr hnx.out
   have CC := Lib.hid (fun W3 (g : GL W3) => cutN_calls r W3 (by omega) g)
   gi_wp2
   refine ⟨trivial, rfl, (callsIn_wide.2 (CC.out wr HGW)).mono ?_⟩
   rintro e W2 ⟨rfl, n2, rfl⟩
   have hb2 : Below n₀ wr (wr.drewN n2) := below_drewN (Below.refl _ _) n2
   obtain ⟨fn, tmps, assign, body, hy, hR⟩ := hY k (wr.drewN n2) (hJ k wr _ none hJs.out (grown_drewN9 wr n2 none) (fun _ e => by cases e)) hlt
   dsimp only [encL] at hy
   rw [hg] at hy
   have HX := Lib.hid (hnx.out.trans hb2)
   have HZ : Hid (W.heap.size ≤ (wr.drewN n2).heap.size) := Lib.hid hsz.out
   have HD2 := Lib.hid hd2
   clear hd hg hb2 hd2 HGW
   generalize (Lib.cut r [10]).1 = c1 at *
   generalize (Lib.cut r [10]).2.1 = c2 at *
   gi_wp2
   refine ⟨rfl, ?_⟩
   refine hR.mono ?_
   rintro e W3 (⟨rfl, hJ3, hk3⟩ | ⟨rfl, hJx3⟩)
   ·gi_wp2
    go_roundw
    case rel => exact ⟨k + 1, c2, by omega, by omega, rfl, HD2, Lib.hid hJ3, Lib.hid (HX.out.trans hk3), Lib.hid (Nat.le_trans HZ.out hk3.size)⟩
    case measure => simpa using hl2
   ·gi_wp2
    refine bodyPost_ret (results_none rfl _ _ _) rfl ?_
    exact ⟨⟨_, rfl⟩, .inr ⟨k, hlt, hJx3⟩⟩
end Go.Proofs.YtbbnkclajpaghaaGreatDoor
namespace Go.Proofs.YtbbnkclajpaghaaGreatDoor
open Go.ChangeShapes Go.WideShapes Go.ChangeAt Go.RowKit
set_option linter.unusedVariables false
set_option maxRecDepth 100000
set_option linter.unusedSimpArgs false
attribute [local go_sem] Oper.semAt_some
theorem filter_take (p : Vr → Bool) {l : List Vr} {k : Nat} (hk : k < l.length) : List.filter p (l.take (k + 1)) = List.filter p (l.take k) ++ bif p (rowAt l k) then [rowAt l k] else [] := by
 rw [List.take_succ_eq_append_getElem hk, List.filter_append, rowAt_lt hk]
 cases h : p l[k] <;> simp [h]
set_option maxRecDepth 100000 in
set_option maxHeartbeats 8000000 in
theorem select_calls {A : Option Addr} {c : Nat} {l : List Vr} {w : World} (i j : Int) (hl : RT w A l) (hA : ∀ b off, A = some ⟨b, off, none⟩ → b < w.heap.size) (hc : l.length ≤ c) (hc' : c ≤ 9223372036854775807) : Calls Tryz.prog 18 #[.slice A l.length c, .int .i64 i, .int .i64 j] w fun e w' =>
  ∃ v, e = .returned (.tuple #[v, .int .i64 (selE l i j)]) ∧ OR w.heap.size w' v (selL l i j) ∧ Below w.heap.size w w' := by
 have CK : Hid (∀ W : World, Below w.heap.size w W → Calls Tryz.prog 20 #[.slice A l.length c] W fun e w' => e = .returned (.int .i64 (chkE l)) ∧ Below W.heap.size W w') := Lib.hid (fun W (hb : Below w.heap.size w W) => chk_calls (w := W) (hl.next hb) (fun b off h => Nat.lt_of_lt_of_le (hA b off h) hb.size) hc hc')
 obtain ⟨pe, hpe⟩ : ∃ pe, selE l i j = pe := ⟨_, rfl⟩
 obtain ⟨pl, hpl⟩ : ∃ pl, selL l i j = pl := ⟨_, rfl⟩
 obtain ⟨E, hE⟩ : ∃ E, chkE l = E := ⟨_, rfl⟩
 have HPE := Lib.hid hpe
 have HPL := Lib.hid hpl
 have HEE := Lib.hid hE
 rw [hpe, hpl]
 rw [hE] at CK
 clear hpe hpl hE
 have HL := Lib.hid hl
 have HA := Lib.hid hA
 have NN := Lib.hid (Below.refl w.heap.size w)
 clear hl hA
 refine (callsIn_wide (n := 0)).1 ?_
 refine callsIn_of_wp_marks Tryz.func18 rfl trivial ?_ rfl
 simp only [Tryz.ntmps18, List.size_toArray, List.length_cons, List.length_nil, Nat.reduceAdd, Nat.reduceSub, Array.replicate_succ, Array.replicate_zero, List.push_toArray, List.append_toArray, List.nil_append, List.cons_append]
 gi_wp2_with fail
 have V4 : Hid (((w.alloc (.cells #[.int .i64 i] 3)).alloc (.cells #[.int .i64 j] 3)).heap[w.heap.size]? = some (.cells #[.int .i64 i] 3)) := Lib.hid (blk_alloc (blk_new w _) _)
 have V5 : Hid (((w.alloc (.cells #[.int .i64 i] 3)).alloc (.cells #[.int .i64 j] 3)).heap[w.heap.size + 1]? = some (.cells #[.int .i64 j] 3)) := Lib.hid (blk_at _ (by simp))
 replace NN : Hid (Below w.heap.size w ((w.alloc (.cells #[.int .i64 i] 3)).alloc (.cells #[.int .i64 j] 3))) := Lib.hid (Bal (Bal NN.out _) _)
 generalize ((w.alloc (.cells #[.int .i64 i] 3)).alloc (.cells #[.int .i64 j] 3)) = W1 at *
 refine ⟨trivial, rfl, ((callsIn_wide (n := 0)).2 (CK.out _ NN.out)).mono ?_⟩
 rintro e w2 ⟨rfl, hb⟩
 replace NN := Lib.hid (Bgo NN.out hb)
 replace V4 := Lib.hid (blk_next hb V4.out)
 replace V5 := Lib.hid (blk_next hb V5.out)
 clear hb
 by_cases h0 : E ≠ 0
 ·have q1 : (E != 0) = true := by simpa using h0
  have HE0 := Lib.hid h0
  clear h0
  have c_V4_0 := blk_cell V4.out 0 _ rfl
  have f_V4_0 := blk_frozen V4.out 0
  have l_V4 := blk_lt V4.out
  have c_V5_0 := blk_cell V5.out 0 _ rfl
  have f_V5_0 := blk_frozen V5.out 0
  have l_V5 := blk_lt V5.out
  gi_wp2_with fail
  clear c_V4_0 f_V4_0 l_V4 c_V5_0 f_V5_0 l_V5
  have h1 : selE l i j = E := by unfold selE; rw [HEE.out, if_pos HE0.out]
  have h2 : selL l i j = [] := by unfold selL; rw [h1]; exact if_neg HE0.out
  exact ⟨.tuple #[.slice none 0 0, .int .i64 E], by simp [results, Tryz.results18, go_sem], ⟨_, by rw [← HPE.out, h1], by rw [← HPL.out, h2]; exact OR.nil _ _, NN.out⟩⟩
 have h0' : E = 0 := by omega
 subst h0'
 clear h0
 obtain ⟨hg, hn⟩ := chkE_good HEE.out
 clear hg
 have hc4 : i < 0 ∨ (0 ≤ i ∧ j ≤ i) ∨ (0 ≤ i ∧ i < j ∧ 8 ≤ j) ∨ (0 ≤ i ∧ i < j ∧ j < 8) := by omega
 rcases hc4 with h | ⟨h, h1⟩ | ⟨h, h1, h2⟩ | ⟨h, h1, h2⟩
 ·have d1 : decide (i < 0) = true := decide_eq_true h
  have c_V4_0 := blk_cell V4.out 0 _ rfl
  have f_V4_0 := blk_frozen V4.out 0
  have l_V4 := blk_lt V4.out
  have c_V5_0 := blk_cell V5.out 0 _ rfl
  have f_V5_0 := blk_frozen V5.out 0
  have l_V5 := blk_lt V5.out
  gi_wp2_with fail
  clear c_V4_0 f_V4_0 l_V4 c_V5_0 f_V5_0 l_V5
  have h1 : selE l i j = 2 := by unfold selE; rw [HEE.out, if_neg (by omega), if_pos (by omega)]
  have h2 : selL l i j = [] := by unfold selL; rw [h1]; exact if_neg (by omega)
  exact ⟨.tuple #[.slice none 0 0, .int .i64 2], by simp [results, Tryz.results18, go_sem], ⟨_, by rw [← HPE.out, h1], by rw [← HPL.out, h2]; exact OR.nil _ _, NN.out⟩⟩
 ·have d1 : decide (i < 0) = false := decide_eq_false (by omega)
  have d2 : decide (j ≤ i) = true := decide_eq_true h1
  have c_V4_0 := blk_cell V4.out 0 _ rfl
  have f_V4_0 := blk_frozen V4.out 0
  have l_V4 := blk_lt V4.out
  have c_V5_0 := blk_cell V5.out 0 _ rfl
  have f_V5_0 := blk_frozen V5.out 0
  have l_V5 := blk_lt V5.out
  gi_wp2_with fail
  clear c_V4_0 f_V4_0 l_V4 c_V5_0 f_V5_0 l_V5
  have h1 : selE l i j = 2 := by unfold selE; rw [HEE.out, if_neg (by omega), if_pos (by omega)]
  have h2 : selL l i j = [] := by unfold selL; rw [h1]; exact if_neg (by omega)
  exact ⟨.tuple #[.slice none 0 0, .int .i64 2], by simp [results, Tryz.results18, go_sem], ⟨_, by rw [← HPE.out, h1], by rw [← HPL.out, h2]; exact OR.nil _ _, NN.out⟩⟩
 ·have d1 : decide (i < 0) = false := decide_eq_false (by omega)
  have d2 : decide (j ≤ i) = false := decide_eq_false (by omega)
  have d3 : decide (8 ≤ j) = true := decide_eq_true h2
  have c_V4_0 := blk_cell V4.out 0 _ rfl
  have f_V4_0 := blk_frozen V4.out 0
  have l_V4 := blk_lt V4.out
  have c_V5_0 := blk_cell V5.out 0 _ rfl
  have f_V5_0 := blk_frozen V5.out 0
  have l_V5 := blk_lt V5.out
  gi_wp2_with fail
  clear c_V4_0 f_V4_0 l_V4 c_V5_0 f_V5_0 l_V5
  have h1 : selE l i j = 2 := by unfold selE; rw [HEE.out, if_neg (by omega), if_pos (by omega)]
  have h2 : selL l i j = [] := by unfold selL; rw [h1]; exact if_neg (by omega)
  exact ⟨.tuple #[.slice none 0 0, .int .i64 2], by simp [results, Tryz.results18, go_sem], ⟨_, by rw [← HPE.out, h1], by rw [← HPL.out, h2]; exact OR.nil _ _, NN.out⟩⟩
 have HSE : Hid (selE l i j = 0) := Lib.hid (by unfold selE; rw [HEE.out, if_neg (by omega), if_neg (by omega)])
 clear HEE CK
 have d1 : decide (i < 0) = false := decide_eq_false (by omega)
 have d2 : decide (j ≤ i) = false := decide_eq_false (by omega)
 have d3 : decide (8 ≤ j) = false := decide_eq_false (by omega)
 have c_V4_0 := blk_cell V4.out 0 _ rfl
 have f_V4_0 := blk_frozen V4.out 0
 have l_V4 := blk_lt V4.out
 have c_V5_0 := blk_cell V5.out 0 _ rfl
 have f_V5_0 := blk_frozen V5.out 0
 have l_V5 := blk_lt V5.out
 gi_wp2_with fail
 clear c_V4_0 f_V4_0 l_V4 c_V5_0 f_V5_0 l_V5
 refine ⟨trivial, rfl, (callsIn_wide.2 (rows_calls A _ c _)).mono ?_⟩
 rintro e w9 ⟨rfl, rfl⟩
 gi_wp2_with fail
 have LG : Hid (w.heap.size + 2 ≤ w2.heap.size) := Lib.hid (by have := blk_lt V5.out; omega)
 clear d1 d2 d3
 replace NN : Hid (Below w.heap.size w ((w2.alloc (.cells #[.slice none 0 0] 22)).alloc (.cells #[.slice A l.length c] 22))) := Lib.hid (Bal (Bal NN.out _) _)
 have SZ : Hid (((w2.alloc (.cells #[.slice none 0 0] 22)).alloc (.cells #[.slice A l.length c] 22)).heap.size = w2.heap.size + 2) := Lib.hid (by simp)
 replace V4 : Hid (((w2.alloc (.cells #[.slice none 0 0] 22)).alloc (.cells #[.slice A l.length c] 22)).heap[w.heap.size]? = some (.cells #[.int .i64 i] 3)) := Lib.hid (blk_alloc (blk_alloc V4.out _) _)
 replace V5 : Hid (((w2.alloc (.cells #[.slice none 0 0] 22)).alloc (.cells #[.slice A l.length c] 22)).heap[w.heap.size + 1]? = some (.cells #[.int .i64 j] 3)) := Lib.hid (blk_alloc (blk_alloc V5.out _) _)
 have V9 : Hid (((w2.alloc (.cells #[.slice none 0 0] 22)).alloc (.cells #[.slice A l.length c] 22)).heap[w2.heap.size]? = some (.cells #[.slice none 0 0] 22)) := Lib.hid (blk_alloc (blk_new w2 _) _)
 have VT : Hid (((w2.alloc (.cells #[.slice none 0 0] 22)).alloc (.cells #[.slice A l.length c] 22)).heap[w2.heap.size + 1]? = some (.cells #[.slice A l.length c] 22)) := Lib.hid (blk_at _ (by simp))
 generalize ((w2.alloc (.cells #[.slice none 0 0] 22)).alloc (.cells #[.slice A l.length c] 22)) = W0 at *
 generalize w2.heap.size = g2 at *
 refine range_n 50 #[.pointer (some ⟨g2 + 1, 0, none⟩)] rfl (enters_of Tryz.func50 (by kernel_rfl) rfl) (encR l) w.heap.size l.length
  (rows_seq (HL.out.next NN.out) HA.out (by omega) (by have := SZ.out; have := LG.out; omega) VT.out) (by have := SZ.out; have := LG.out; omega) (fun _ => rfl)
  (fun k W => (W.heap[w.heap.size]? = some (.cells #[.int .i64 i] 3)) ∧ (W.heap[w.heap.size + 1]? = some (.cells #[.int .i64 j] 3)) ∧ (Below w.heap.size w W) ∧ (g2 + 2 ≤ W.heap.size) ∧ (∃ A9 c9, W.heap[g2]? = some (.cells #[.slice A9 (List.filter (selB i j) (l.take k)).length c9] 22) ∧ OR W0.heap.size W (.slice A9 (List.filter (selB i j) (l.take k)).length c9) (List.filter (selB i j) (l.take k))))
  (fun cd k W => False)
  (fun k a' W => ∃ Bx : Nat, (a' = { tmps := #[.slice A l.length c, .int .i64 i, .int .i64 j, undef, .pointer (some ⟨w.heap.size, 0, none⟩), .pointer (some ⟨w.heap.size + 1, 0, none⟩), .slice none 0 0, .int .i64 0, .int .i64 0, .pointer (some ⟨g2, 0, none⟩), undef, .pointer (some ⟨Bx, 0, none⟩), .slice A l.length c, .int .i64 0, .int .i64 0, .bool false, undef, .int .i64 i, .bool false, .bool false, .int .i64 i, .int .i64 j, .bool false, .bool false, .bool false, .int .i64 j, .bool false, .bool false, .slice A l.length c, .func (.func 50) #[] #[.pointer (some ⟨g2 + 1, 0, none⟩)], .int .i64 (k : Int), Rwv (rowAt l k), undef, undef, undef, undef, undef, undef, undef, undef, undef, undef, undef, undef, undef, undef, undef, undef, undef], defers := [] }) ∧ (g2 + 2 ≤ Bx) ∧ (W.heap[Bx]? = some (.cells #[.int .i64 (rowAt l k).t, .int .i64 (rowAt l k).c, .int .i64 (rowAt l k).i, .int .i64 (rowAt l k).j, .int .i64 (rowAt l k).re, .int .i64 (rowAt l k).im, .int .i64 (rowAt l k).dn, .int .i64 (rowAt l k).n] 67)) ∧ (W.heap[w.heap.size]? = some (.cells #[.int .i64 i] 3)) ∧ (W.heap[w.heap.size + 1]? = some (.cells #[.int .i64 j] 3)) ∧ (Below w.heap.size w W) ∧ (g2 + 2 ≤ W.heap.size) ∧ (∃ A9 c9, W.heap[g2]? = some (.cells #[.slice A9 (List.filter (selB i j) (l.take k)).length c9] 22) ∧ OR W0.heap.size W (.slice A9 (List.filter (selB i j) (l.take k)).length c9) (List.filter (selB i j) (l.take k))))
  ((own_blk _ _ _).and ((own_blk _ _ _).and ((ownFrom_below (Nat.le_refl _) (by have := SZ.out; have := LG.out; omega)).and ((own_size _).and (own_ex fun _ => own_ex fun _ => (own_blk _ _ _).and (own_row _ _))))))
  (fun _ => (own_pure _))
  (fun _ => own_ex fun _ => ((own_pure _).and ((own_pure _).and ((own_blk _ _ _).and ((own_blk _ _ _).and ((own_blk _ _ _).and ((ownFrom_below (Nat.le_refl _) (by have := SZ.out; have := LG.out; omega)).and ((own_size _).and (own_ex fun _ => own_ex fun _ => (own_blk _ _ _).and (own_row _ _))))))))))
  ⟨V4.out, V5.out, NN.out, (by have := SZ.out; have := LG.out; omega), ⟨none, 0, V9.out, OR.nil _ _⟩⟩ ?assign ?body ?done ?stop
 case assign =>
  rintro lp k W K ⟨v4, v5, nn, sz, A9, c9, v9, o9⟩ hlt hK
  gi_wp2
  exact hK _ _ (keeps_of_below (Bal (Below.refl _ _) _)) ((Below.refl _ W).alloc nn.size _) ⟨W.heap.size, rfl, sz, blk_new W _, blk_alloc v4 _, blk_alloc v5 _, Bal nn _, by rw [World.size_alloc]; omega, A9, c9, blk_alloc v9 _, o9.alloc _⟩
 case body =>
  rintro lp k a' W ⟨Bx, rfl, lx, vx, v4, v5, nn, sz, A9, c9, v9, o9⟩ hlt
  have hlen : (List.filter (selB i j) (l.take k)).length ≤ 200 := Nat.le_trans (List.length_filter_le _ _) (by rw [List.length_take]; omega)
  have HF := Lib.hid (filter_take (selB i j) hlt)
  have hz := SZ.out
  have hg := LG.out
  generalize List.filter (selB i j) (l.take k) = L9 at *
  generalize rowAt l k = s at *
  have O9 := Lib.hid o9
  have SW : Hid (W0.heap.size ≤ W.heap.size) := Lib.hid (by omega)
  clear o9
  have NN := Lib.hid nn
  have KF := Lib.hid (KeepsFrom.refl W0.heap.size W)
  have V4 := Lib.hid v4
  have V5 := Lib.hid v5
  have V9 := Lib.hid v9
  have VX := Lib.hid vx
  clear v4 v5 v9 vx
  by_cases h : s.i = i ∧ s.j = j
  ·obtain ⟨h1, h2⟩ := h
   have hs : selB i j s = true := by simp [selB, h1, h2]
   rw [hs] at HF
   have q1 : (s.i == i) = true := by simp [h1]
   have q2 : (s.j == j) = true := by simp [h2]
   clear hs h1 h2
   have c_V4_0 := blk_cell V4.out 0 _ rfl
   have f_V4_0 := blk_frozen V4.out 0
   have l_V4 := blk_lt V4.out
   have c_V5_0 := blk_cell V5.out 0 _ rfl
   have f_V5_0 := blk_frozen V5.out 0
   have l_V5 := blk_lt V5.out
   have c_V9_0 := blk_cell V9.out 0 _ rfl
   have f_V9_0 := blk_frozen V9.out 0
   have l_V9 := blk_lt V9.out
   have c_VX_0 := blk_cell VX.out 0 _ rfl
   have f_VX_0 := blk_frozen VX.out 0
   have c_VX_1 := blk_cell VX.out 1 _ rfl
   have f_VX_1 := blk_frozen VX.out 1
   have c_VX_2 := blk_cell VX.out 2 _ rfl
   have f_VX_2 := blk_frozen VX.out 2
   have c_VX_3 := blk_cell VX.out 3 _ rfl
   have f_VX_3 := blk_frozen VX.out 3
   have c_VX_4 := blk_cell VX.out 4 _ rfl
   have f_VX_4 := blk_frozen VX.out 4
   have c_VX_5 := blk_cell VX.out 5 _ rfl
   have f_VX_5 := blk_frozen VX.out 5
   have c_VX_6 := blk_cell VX.out 6 _ rfl
   have f_VX_6 := blk_frozen VX.out 6
   have c_VX_7 := blk_cell VX.out 7 _ rfl
   have f_VX_7 := blk_frozen VX.out 7
   have l_VX := blk_lt VX.out
   gi_wp2_with (gi_at_builtin; refine wpListIn_app rfl _ _ rfl W0.heap.size _ L9 rfl (some ⟨W.heap.size, 0, none⟩) 1 1 [s] rfl (O9.out.alloc _) rfl (RT.one (blk_new W _)) ?_ ?_ ?_; omega; (rw [World.size_alloc]; have := SW.out; omega); intro v1 w1 o1 q1 k1; obtain ⟨A1, c1, hv1, -⟩ := OR.form o1; rw [show (L9 ++ [s]).length = L9.length + 1 by simp] at hv1; subst hv1; have B1 := Lib.hid (((Below.refl W0.heap.size W).alloc SW.out _).trans q1); have O1 := Lib.hid o1; have K1 := Lib.hid (((KeepsOthers.alloc W _).trans k1).from W0.heap.size); have V91 := Lib.hid (blk_B B1.out V9.out (by omega)); have c9a := blk_cell V91.out 0 (.slice A9 L9.length c9) rfl; have f9a := blk_frozen V91.out 0; have l9a := blk_lt V91.out; clear o1 q1 k1)
   clear c_V4_0 f_V4_0 l_V4 c_V5_0 f_V5_0 l_V5 c_V9_0 f_V9_0 l_V9 c_VX_0 f_VX_0 c_VX_1 f_VX_1 c_VX_2 f_VX_2 c_VX_3 f_VX_3 c_VX_4 f_VX_4 c_VX_5 f_VX_5 c_VX_6 f_VX_6 c_VX_7 f_VX_7 l_VX
   clear c9a f9a l9a V91
   replace V4 := Lib.hid (blk_B B1.out V4.out (by omega))
   replace V5 := Lib.hid (blk_B B1.out V5.out (by omega))
   replace V9 := Lib.hid (blk_B B1.out V9.out (by omega))
   replace NN := Lib.hid (NN.out.trans (B1.out.mono (by omega)))
   replace KF := K1
   clear VX
   replace KF := Lib.hid (keep_set (KF.out) (g2) 0 (.slice A1 (L9.length + 1) c1))
   replace O1 := Lib.hid (OR.set_other (O1.out) (show g2 < W0.heap.size by omega) 0 (.slice A1 (L9.length + 1) c1))
   replace V4 : Hid ((w1.setCell ⟨g2, 0, none⟩ (.slice A1 (L9.length + 1) c1)).heap[w.heap.size]? = some (.cells #[.int .i64 i] 3)) := Lib.hid (blk_set_other (b' := g2) (V4.out) (by omega) 0 (.slice A1 (L9.length + 1) c1))
   replace V5 : Hid ((w1.setCell ⟨g2, 0, none⟩ (.slice A1 (L9.length + 1) c1)).heap[w.heap.size + 1]? = some (.cells #[.int .i64 j] 3)) := Lib.hid (blk_set_other (b' := g2) (V5.out) (by omega) 0 (.slice A1 (L9.length + 1) c1))
   replace V9 : Hid ((w1.setCell ⟨g2, 0, none⟩ (.slice A1 (L9.length + 1) c1)).heap[g2]? = some (.cells #[.slice A1 (L9.length + 1) c1] 22)) := Lib.hid (blk_set (V9.out) 0 (.slice A1 (L9.length + 1) c1))
   replace NN := Lib.hid (Bset1 (NN.out) (show w.heap.size ≤ g2 by omega) 0 (.slice A1 (L9.length + 1) c1))
   generalize (w1.setCell ⟨g2, 0, none⟩ (.slice A1 (L9.length + 1) c1)) = W1 at *
   refine ⟨KF.out, below_mid nn NN.out KF.out.size, V4.out, V5.out, NN.out, by have := KF.out.size; omega, A1, c1, ?_, ?_⟩
   ·rw [HF.out]; simpa using V9.out
   ·rw [HF.out]; simpa using O1.out
  ·have hs : selB i j s = false := by simp [selB]; omega
   rw [hs] at HF
   by_cases h1 : s.i = i
   ·have q1 : (s.i == i) = true := by simp [h1]
    have q2 : (s.j == j) = false := by rw [beq_eq_false_iff_ne]; omega
    clear hs h h1
    have c_V4_0 := blk_cell V4.out 0 _ rfl
    have f_V4_0 := blk_frozen V4.out 0
    have l_V4 := blk_lt V4.out
    have c_V5_0 := blk_cell V5.out 0 _ rfl
    have f_V5_0 := blk_frozen V5.out 0
    have l_V5 := blk_lt V5.out
    have c_V9_0 := blk_cell V9.out 0 _ rfl
    have f_V9_0 := blk_frozen V9.out 0
    have l_V9 := blk_lt V9.out
    have c_VX_0 := blk_cell VX.out 0 _ rfl
    have f_VX_0 := blk_frozen VX.out 0
    have c_VX_1 := blk_cell VX.out 1 _ rfl
    have f_VX_1 := blk_frozen VX.out 1
    have c_VX_2 := blk_cell VX.out 2 _ rfl
    have f_VX_2 := blk_frozen VX.out 2
    have c_VX_3 := blk_cell VX.out 3 _ rfl
    have f_VX_3 := blk_frozen VX.out 3
    have c_VX_4 := blk_cell VX.out 4 _ rfl
    have f_VX_4 := blk_frozen VX.out 4
    have c_VX_5 := blk_cell VX.out 5 _ rfl
    have f_VX_5 := blk_frozen VX.out 5
    have c_VX_6 := blk_cell VX.out 6 _ rfl
    have f_VX_6 := blk_frozen VX.out 6
    have c_VX_7 := blk_cell VX.out 7 _ rfl
    have f_VX_7 := blk_frozen VX.out 7
    have l_VX := blk_lt VX.out
    gi_wp2_with fail
    clear c_V4_0 f_V4_0 l_V4 c_V5_0 f_V5_0 l_V5 c_V9_0 f_V9_0 l_V9 c_VX_0 f_VX_0 c_VX_1 f_VX_1 c_VX_2 f_VX_2 c_VX_3 f_VX_3 c_VX_4 f_VX_4 c_VX_5 f_VX_5 c_VX_6 f_VX_6 c_VX_7 f_VX_7 l_VX
    refine ⟨KF.out, below_mid nn NN.out KF.out.size, V4.out, V5.out, NN.out, by have := KF.out.size; omega, A9, c9, ?_, ?_⟩
    ·rw [HF.out]; simpa using V9.out
    ·rw [HF.out]; simpa using O9.out
   ·have q1 : (s.i == i) = false := by rw [beq_eq_false_iff_ne]; omega
    clear hs h h1
    have c_V4_0 := blk_cell V4.out 0 _ rfl
    have f_V4_0 := blk_frozen V4.out 0
    have l_V4 := blk_lt V4.out
    have c_V5_0 := blk_cell V5.out 0 _ rfl
    have f_V5_0 := blk_frozen V5.out 0
    have l_V5 := blk_lt V5.out
    have c_V9_0 := blk_cell V9.out 0 _ rfl
    have f_V9_0 := blk_frozen V9.out 0
    have l_V9 := blk_lt V9.out
    have c_VX_0 := blk_cell VX.out 0 _ rfl
    have f_VX_0 := blk_frozen VX.out 0
    have c_VX_1 := blk_cell VX.out 1 _ rfl
    have f_VX_1 := blk_frozen VX.out 1
    have c_VX_2 := blk_cell VX.out 2 _ rfl
    have f_VX_2 := blk_frozen VX.out 2
    have c_VX_3 := blk_cell VX.out 3 _ rfl
    have f_VX_3 := blk_frozen VX.out 3
    have c_VX_4 := blk_cell VX.out 4 _ rfl
    have f_VX_4 := blk_frozen VX.out 4
    have c_VX_5 := blk_cell VX.out 5 _ rfl
    have f_VX_5 := blk_frozen VX.out 5
    have c_VX_6 := blk_cell VX.out 6 _ rfl
    have f_VX_6 := blk_frozen VX.out 6
    have c_VX_7 := blk_cell VX.out 7 _ rfl
    have f_VX_7 := blk_frozen VX.out 7
    have l_VX := blk_lt VX.out
    gi_wp2_with fail
    clear c_V4_0 f_V4_0 l_V4 c_V5_0 f_V5_0 l_V5 c_V9_0 f_V9_0 l_V9 c_VX_0 f_VX_0 c_VX_1 f_VX_1 c_VX_2 f_VX_2 c_VX_3 f_VX_3 c_VX_4 f_VX_4 c_VX_5 f_VX_5 c_VX_6 f_VX_6 c_VX_7 f_VX_7 l_VX
    refine ⟨KF.out, below_mid nn NN.out KF.out.size, V4.out, V5.out, NN.out, by have := KF.out.size; omega, A9, c9, ?_, ?_⟩
    ·rw [HF.out]; simpa using V9.out
    ·rw [HF.out]; simpa using O9.out
 case done =>
  rintro D W hD ⟨v4, v5, nn, sz, A9, c9, v9, o9⟩ hK
  have hz := SZ.out
  have hg := LG.out
  rw [List.take_length] at v9 o9
  have HP : Hid (selL l i j = List.filter (selB i j) l) := Lib.hid (by unfold selL; rw [if_pos HSE.out])
  generalize List.filter (selB i j) l = L9 at *
  have O9 := Lib.hid o9
  have HK := Lib.hid hK
  clear o9 hK
  have NN := Lib.hid nn
  have V9 := Lib.hid v9
  clear v4 v5 v9
  have c_V9_0 := blk_cell V9.out 0 _ rfl
  have f_V9_0 := blk_frozen V9.out 0
  have l_V9 := blk_lt V9.out
  gi_wp2_with fail
  clear c_V9_0 f_V9_0 l_V9
  refine ⟨by simp, .inl ⟨_, _, rfl, run_takeDeferred HK.out, ?_⟩⟩
  exact ⟨.tuple #[.slice A9 L9.length c9, .int .i64 0], by simp [results, Tryz.results18, go_sem], ⟨_, by rw [← HPE.out, HSE.out], by rw [← HPL.out, HP.out]; exact ownsRow_putObj (OR.mono O9.out (by omega)) _ HK.out rfl, put_below NN.out (by omega) (Nat.le_refl _) HK.out⟩⟩
 case stop =>
  rintro D cd k W hD hlt h hK
  exact h.elim
end Go.Proofs.YtbbnkclajpaghaaGreatDoor
