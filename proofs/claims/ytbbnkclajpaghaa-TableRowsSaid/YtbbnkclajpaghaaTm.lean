/- Contract of the reference's Check. -/
import Derived.Test.YtbbnkclajpaghaaTg
import Derived.Test.YtbbnkclajpaghaaTz
import Derived.OpenShut
namespace Go.Proofs.Ytbbnkclajpaghaa
open Go.ChangeShapes Go.WideShapes Go.ChangeAt Go.RowKit
set_option linter.unusedVariables false
set_option linter.unusedSimpArgs false
set_option maxRecDepth 100000 in
set_option maxHeartbeats 8000000 in
theorem refchk_calls {A : Option Addr} {c : Nat} {l : List Vr} {w : World} (hl : RT w A l) (hc : l.length ≤ c) (hc' : c ≤ 9223372036854775807) : Calls Try.prog 14 #[.slice A l.length c] w fun e w' =>
    e = .returned (.int .i64 (chkE l)) ∧ Below w.heap.size w w' := by
  have HL := Lib.hid hl
  have NN := Lib.hid (Below.refl w.heap.size w)
  clear hl
  by_cases h2 : 200 < l.length
  · have FV : Hid (chkE l = 4) := Lib.hid (by unfold chkE; rw [if_pos h2])
    generalize chkE l = v at *
    go_enter Try.func14, Try.ntmps14
    go_wp2_with fail
    go_ret
    exact ⟨ret_int FV.out.symm, NN.out⟩
  have FV : Hid (chkE l = if goodB l then 0 else 8) := Lib.hid (by unfold chkE; rw [if_neg h2])
  generalize chkE l = v at *
  go_enter Try.func14, Try.ntmps14
  go_wp2_with fail
  go_loopw [3] (fun p wr => ∃ k : Nat, k ≤ l.length ∧ p = .int .i64 k ∧ Hid (Below w.heap.size w wr) ∧ Hid (goodB (l.take k) = true)) (fun p _ => l.length - (intOf p).toNat)
  case atStart => exact ⟨0, Nat.zero_le _, rfl, NN, Lib.hid rfl⟩
  case round =>
    clear NN
    obtain ⟨k, hk, rfl, NN, HG⟩ := hrel
    by_cases hlt : l.length ≤ k
    · have e : k = l.length := by omega
      subst e
      have HR : Hid (v = 0) := Lib.hid (by rw [FV.out, ← List.take_length (l := l), HG.out]; rfl)
      clear hk hlt
      go_wp2_with fail
      go_ret
      exact ⟨ret_int HR.out.symm, NN.out⟩
    replace hlt : k < l.length := by omega
    obtain ⟨b, off, eA, bl, a0, a1, a2, a3, a4, a5, a6, a7⟩ := RT.at_ HL.out hlt
    have HVC := Lib.hid (refvalid_calls (rowAt l k))
    have HGT := Lib.hid (good_take hlt HG.out)
    have HRA := Lib.hid (rowAt_lt hlt)
    rw [← rowAt_lt hlt] at a0 a1 a2 a3 a4 a5 a6 a7
    generalize hr : rowAt l k = r at *
    have BL := Lib.hid bl
    subst eA
    have HC : Hid (∀ X : World, Below w.heap.size w X → b < X.heap.size ∧ X.cell? ⟨b, off + k * 8, none⟩ = some (.int .i64 r.t) ∧ X.cell? ⟨b, off + k * 8 + 1, none⟩ = some (.int .i64 r.c) ∧ X.cell? ⟨b, off + k * 8 + 2, none⟩ = some (.int .i64 r.i) ∧ X.cell? ⟨b, off + k * 8 + 3, none⟩ = some (.int .i64 r.j) ∧ X.cell? ⟨b, off + k * 8 + 4, none⟩ = some (.int .i64 r.re) ∧ X.cell? ⟨b, off + k * 8 + 5, none⟩ = some (.int .i64 r.im) ∧ X.cell? ⟨b, off + k * 8 + 6, none⟩ = some (.int .i64 r.dn) ∧ X.cell? ⟨b, off + k * 8 + 7, none⟩ = some (.int .i64 r.n)) :=
      Lib.hid (fun X hX => ⟨Nat.lt_of_lt_of_le bl hX.size, (hX.cell (p := ⟨b, off + k * 8, none⟩) bl).trans a0, (hX.cell (p := ⟨b, off + k * 8 + 1, none⟩) bl).trans a1, (hX.cell (p := ⟨b, off + k * 8 + 2, none⟩) bl).trans a2, (hX.cell (p := ⟨b, off + k * 8 + 3, none⟩) bl).trans a3, (hX.cell (p := ⟨b, off + k * 8 + 4, none⟩) bl).trans a4, (hX.cell (p := ⟨b, off + k * 8 + 5, none⟩) bl).trans a5, (hX.cell (p := ⟨b, off + k * 8 + 6, none⟩) bl).trans a6, (hX.cell (p := ⟨b, off + k * 8 + 7, none⟩) bl).trans a7⟩)
    clear a0 a1 a2 a3 a4 a5 a6 a7 bl
    have hck : k < c := by omega
    obtain ⟨lb, b0, b1, b2, b3, b4, b5, b6, b7⟩ := HC.out wr NN.out
    go_wp2_with fail
    refine (HVC.out _).mono ?_
    rintro e w1 ⟨rfl, hb⟩
    replace NN := Lib.hid (Bgo NN.out hb)
    clear lb b0 b1 b2 b3 b4 b5 b6 b7 hb
    cases hB : rowB r
    · have HR : Hid (v = 8) := Lib.hid (by rw [FV.out, good_prefix (k + 1) (by rw [HGT.out, hB]; rfl)]; rfl)
      clear hB
      go_wp2_with fail
      go_ret
      exact ⟨ret_int HR.out.symm, NN.out⟩
    have HRB := Lib.hid hB
    rw [hB, Bool.true_and] at HGT
    clear hB
    go_wp2_with fail
    by_cases h0 : k = 0
    · have HGN : Hid (goodB (List.take (k + 1) l) = true) := Lib.hid (by rw [HGT.out, h0]; rfl)
      have d0 : decide (0 < k) = false := decide_eq_false (by omega)
      clear HGT h0
      go_quiet (fail)
      go_wp2_with fail
      refine ⟨⟨k + 1, by omega, by go_num, Lib.hid (below_drewN NN.out _), HGN⟩, by simp [intOf]; omega⟩
    obtain ⟨m, hkm⟩ : ∃ m, k = m + 1 := ⟨k - 1, by omega⟩
    have HSB := Lib.hid (good_last (by omega) HG.out (by omega : 0 < k))
    have HS2 : Hid (lastR l k = rowAt l m) := Lib.hid (by rw [hkm]; rfl)
    rw [HS2.out] at HSB HGT
    rw [decide_eq_false h0, Bool.false_or] at HGT
    have hml : m < l.length := by omega
    obtain ⟨b', off', eA, bl', e0, e1, e2, e3, e4, e5, e6, e7⟩ := RT.at_ HL.out hml
    injection eA with eA
    injection eA with eA1 eA2
    subst eA1 eA2
    rw [← rowAt_lt hml] at e0 e1 e2 e3 e4 e5 e6 e7
    generalize hs : rowAt l m = s at *
    have KR : Hid (∀ X : World, Calls Try.prog 22 #[Rv r] X fun e w' => e = .returned (.int .i64 (vkey r)) ∧ Below X.heap.size X w') := Lib.hid (key_calls r HRB.out)
    have KS : Hid (∀ X : World, Calls Try.prog 22 #[Rv s] X fun e w' => e = .returned (.int .i64 (vkey s)) ∧ Below X.heap.size X w') := Lib.hid (key_calls s HSB.out)
    generalize vkey s = ks at *
    generalize vkey r = kr at *
    have BN := NN.out
    obtain ⟨lb, b0, b1, b2, b3, b4, b5, b6, b7⟩ := HC.out w1 BN
    replace e0 := (BN.cell (p := ⟨b, off + m * 8, none⟩) bl').trans e0
    replace e1 := (BN.cell (p := ⟨b, off + m * 8 + 1, none⟩) bl').trans e1
    replace e2 := (BN.cell (p := ⟨b, off + m * 8 + 2, none⟩) bl').trans e2
    replace e3 := (BN.cell (p := ⟨b, off + m * 8 + 3, none⟩) bl').trans e3
    replace e4 := (BN.cell (p := ⟨b, off + m * 8 + 4, none⟩) bl').trans e4
    replace e5 := (BN.cell (p := ⟨b, off + m * 8 + 5, none⟩) bl').trans e5
    replace e6 := (BN.cell (p := ⟨b, off + m * 8 + 6, none⟩) bl').trans e6
    replace e7 := (BN.cell (p := ⟨b, off + m * 8 + 7, none⟩) bl').trans e7
    have d0 : decide (0 < k) = true := decide_eq_true (by omega)
    have d1 : (0 < k) = True := by simp; omega
    have hw : IntKind.i64.wrap ((k : Int) - 1) = (m : Int) := by rw [hkm]; rw [IntWalk.i64_in _ (by omega)]; omega
    have hmc : m < c := by omega
    clear BN hs hr hkm HS2 h0 bl'
    have HHC := HC
    clear HC
    have HDRW := Lib.hid (Below.drew (Below.refl w1.heap.size w1))
    replace NN := Lib.hid (Bgo NN.out HDRW.out)
    clear HDRW
    have HAL : Hid (∀ kx9 : Nat, SZ [(7, ⟨b, off + m * 8, none⟩, .int .i64 s.t), (7, ⟨b, off + m * 8 + 1, none⟩, .int .i64 s.c), (7, ⟨b, off + m * 8 + 2, none⟩, .int .i64 s.i), (7, ⟨b, off + m * 8 + 3, none⟩, .int .i64 s.j), (7, ⟨b, off + m * 8 + 4, none⟩, .int .i64 s.re), (7, ⟨b, off + m * 8 + 5, none⟩, .int .i64 s.im), (7, ⟨b, off + m * 8 + 6, none⟩, .int .i64 s.dn), (7, ⟨b, off + m * 8 + 7, none⟩, .int .i64 s.n), (12, ⟨b, off + k * 8, none⟩, .int .i64 r.t), (12, ⟨b, off + k * 8 + 1, none⟩, .int .i64 r.c), (12, ⟨b, off + k * 8 + 2, none⟩, .int .i64 r.i), (12, ⟨b, off + k * 8 + 3, none⟩, .int .i64 r.j), (12, ⟨b, off + k * 8 + 4, none⟩, .int .i64 r.re), (12, ⟨b, off + k * 8 + 5, none⟩, .int .i64 r.im), (12, ⟨b, off + k * 8 + 6, none⟩, .int .i64 r.dn), (12, ⟨b, off + k * 8 + 7, none⟩, .int .i64 r.n)] [] kx9 w1.drew) := Lib.hid (fun kx9 => by
      constructor
      · intro p hp e
        simp only [List.mem_cons, List.not_mem_nil, or_false] at hp
        rcases hp with rfl | rfl | rfl | rfl | rfl | rfl | rfl | rfl | rfl | rfl | rfl | rfl | rfl | rfl | rfl | rfl
        · exact ⟨lb, e0⟩
        · exact ⟨lb, e1⟩
        · exact ⟨lb, e2⟩
        · exact ⟨lb, e3⟩
        · exact ⟨lb, e4⟩
        · exact ⟨lb, e5⟩
        · exact ⟨lb, e6⟩
        · exact ⟨lb, e7⟩
        · exact ⟨lb, b0⟩
        · exact ⟨lb, b1⟩
        · exact ⟨lb, b2⟩
        · exact ⟨lb, b3⟩
        · exact ⟨lb, b4⟩
        · exact ⟨lb, b5⟩
        · exact ⟨lb, b6⟩
        · exact ⟨lb, b7⟩
      · intro p hp e
        exact absurd hp (by simp)
      )
    refine region_I (S := SZ [(7, ⟨b, off + m * 8, none⟩, .int .i64 s.t), (7, ⟨b, off + m * 8 + 1, none⟩, .int .i64 s.c), (7, ⟨b, off + m * 8 + 2, none⟩, .int .i64 s.i), (7, ⟨b, off + m * 8 + 3, none⟩, .int .i64 s.j), (7, ⟨b, off + m * 8 + 4, none⟩, .int .i64 s.re), (7, ⟨b, off + m * 8 + 5, none⟩, .int .i64 s.im), (7, ⟨b, off + m * 8 + 6, none⟩, .int .i64 s.dn), (7, ⟨b, off + m * 8 + 7, none⟩, .int .i64 s.n), (12, ⟨b, off + k * 8, none⟩, .int .i64 r.t), (12, ⟨b, off + k * 8 + 1, none⟩, .int .i64 r.c), (12, ⟨b, off + k * 8 + 2, none⟩, .int .i64 r.i), (12, ⟨b, off + k * 8 + 3, none⟩, .int .i64 r.j), (12, ⟨b, off + k * 8 + 4, none⟩, .int .i64 r.re), (12, ⟨b, off + k * 8 + 5, none⟩, .int .i64 r.im), (12, ⟨b, off + k * 8 + 6, none⟩, .int .i64 r.dn), (12, ⟨b, off + k * 8 + 7, none⟩, .int .i64 r.n)] []) (by kernel_rfl) ?_
    refine take_I 0 (.int .i64 (k : Int)) (some 19) rfl (by kernel_rfl) (by kernel_rfl) (by kernel_rfl) rfl (fun _ _ _ h => h) (Or.inl ⟨by rfl, ?_⟩) (SZ.drop (by simp) (by simp)) ?_
    · intro X hX
      clear hX
      go_simp
    try simp only [Act.put, List.setIfInBounds_toArray, List.set_cons_zero, List.set_cons_succ]
    refine take_I 1 (.bool true) (some 20) rfl (by kernel_rfl) (by kernel_rfl) (by kernel_rfl) rfl (fun _ _ _ h => h) (Or.inl ⟨by rfl, ?_⟩) (SZ.drop (by simp) (by simp)) ?_
    · intro X hX
      clear hX
      go_simp
    try simp only [Act.put, List.setIfInBounds_toArray, List.set_cons_zero, List.set_cons_succ]
    refine take_I 2 (.bool true) (some 21) rfl (by kernel_rfl) (by kernel_rfl) (by kernel_rfl) rfl (fun _ _ _ h => h) (Or.inl ⟨by rfl, ?_⟩) (SZ.drop (by simp) (by simp)) ?_
    · intro X hX
      clear hX
      go_simp
    try simp only [Act.put, List.setIfInBounds_toArray, List.set_cons_zero, List.set_cons_succ]
    refine take_I 3 (.slice (some ⟨b, off, none⟩) l.length c) (some 22) rfl (by kernel_rfl) (by kernel_rfl) (by kernel_rfl) rfl (fun _ _ _ h => h) (Or.inl ⟨by rfl, ?_⟩) (SZ.drop (by simp) (by simp)) ?_
    · intro X hX
      clear hX
      go_simp
    try simp only [Act.put, List.setIfInBounds_toArray, List.set_cons_zero, List.set_cons_succ]
    refine take_I 4 (.int .i64 (k : Int)) (some 23) rfl (by kernel_rfl) (by kernel_rfl) (by kernel_rfl) rfl (fun _ _ _ h => h) (Or.inl ⟨by rfl, ?_⟩) (SZ.drop (by simp) (by simp)) ?_
    · intro X hX
      clear hX
      go_simp
    try simp only [Act.put, List.setIfInBounds_toArray, List.set_cons_zero, List.set_cons_succ]
    refine take_I 5 (.int .i64 (m : Int)) (some 24) rfl (by kernel_rfl) (by kernel_rfl) (by kernel_rfl) rfl (fun _ _ _ h => h) (Or.inl ⟨by rfl, ?_⟩) (SZ.drop (by simp) (by simp)) ?_
    · intro X hX
      clear hX
      go_simp
    try simp only [Act.put, List.setIfInBounds_toArray, List.set_cons_zero, List.set_cons_succ]
    refine take_I 6 (.pointer (some ⟨b, off + m * 8, none⟩)) (some 25) rfl (by kernel_rfl) (by kernel_rfl) (by kernel_rfl) rfl (fun _ _ _ h => h) (Or.inl ⟨by rfl, ?_⟩) (SZ.drop (by simp) (by simp)) ?_
    · intro X hX
      clear hX
      go_simp
    try simp only [Act.put, List.setIfInBounds_toArray, List.set_cons_zero, List.set_cons_succ]
    refine take_I 7 (.agg #[.int .i64 s.t, .int .i64 s.c, .int .i64 s.i, .int .i64 s.j, .int .i64 s.re, .int .i64 s.im, .int .i64 s.dn, .int .i64 s.n]) (some 26) rfl (by kernel_rfl) (by kernel_rfl) (by kernel_rfl) rfl (fun _ _ _ h => h) (Or.inl ⟨by rfl, ?_⟩) (HAL.out 7) ?_
    · intro X hX
      obtain ⟨hz0, hc0⟩ := hX.1 (7, ⟨b, off + m * 8, none⟩, .int .i64 s.t) (List.Mem.head _) rfl
      simp only at hz0 hc0
      obtain ⟨hz1, hc1⟩ := hX.1 (7, ⟨b, off + m * 8 + 1, none⟩, .int .i64 s.c) (List.Mem.tail _ (List.Mem.head _)) rfl
      simp only at hz1 hc1
      obtain ⟨hz2, hc2⟩ := hX.1 (7, ⟨b, off + m * 8 + 2, none⟩, .int .i64 s.i) (List.Mem.tail _ (List.Mem.tail _ (List.Mem.head _))) rfl
      simp only at hz2 hc2
      obtain ⟨hz3, hc3⟩ := hX.1 (7, ⟨b, off + m * 8 + 3, none⟩, .int .i64 s.j) (List.Mem.tail _ (List.Mem.tail _ (List.Mem.tail _ (List.Mem.head _)))) rfl
      simp only at hz3 hc3
      obtain ⟨hz4, hc4⟩ := hX.1 (7, ⟨b, off + m * 8 + 4, none⟩, .int .i64 s.re) (List.Mem.tail _ (List.Mem.tail _ (List.Mem.tail _ (List.Mem.tail _ (List.Mem.head _))))) rfl
      simp only at hz4 hc4
      obtain ⟨hz5, hc5⟩ := hX.1 (7, ⟨b, off + m * 8 + 5, none⟩, .int .i64 s.im) (List.Mem.tail _ (List.Mem.tail _ (List.Mem.tail _ (List.Mem.tail _ (List.Mem.tail _ (List.Mem.head _)))))) rfl
      simp only at hz5 hc5
      obtain ⟨hz6, hc6⟩ := hX.1 (7, ⟨b, off + m * 8 + 6, none⟩, .int .i64 s.dn) (List.Mem.tail _ (List.Mem.tail _ (List.Mem.tail _ (List.Mem.tail _ (List.Mem.tail _ (List.Mem.tail _ (List.Mem.head _))))))) rfl
      simp only at hz6 hc6
      obtain ⟨hz7, hc7⟩ := hX.1 (7, ⟨b, off + m * 8 + 7, none⟩, .int .i64 s.n) (List.Mem.tail _ (List.Mem.tail _ (List.Mem.tail _ (List.Mem.tail _ (List.Mem.tail _ (List.Mem.tail _ (List.Mem.tail _ (List.Mem.head _)))))))) rfl
      simp only at hz7 hc7
      clear hX
      go_simp
    try simp only [Act.put, List.setIfInBounds_toArray, List.set_cons_zero, List.set_cons_succ]
    refine take_I 9 (.slice (some ⟨b, off, none⟩) l.length c) (some 28) rfl (by kernel_rfl) (by kernel_rfl) (by kernel_rfl) rfl (fun _ _ _ h => h) (Or.inl ⟨by rfl, ?_⟩) (SZ.drop (by simp) (by simp)) ?_
    · intro X hX
      clear hX
      go_simp
    try simp only [Act.put, List.setIfInBounds_toArray, List.set_cons_zero, List.set_cons_succ]
    refine take_I 10 (.int .i64 (k : Int)) (some 29) rfl (by kernel_rfl) (by kernel_rfl) (by kernel_rfl) rfl (fun _ _ _ h => h) (Or.inl ⟨by rfl, ?_⟩) (SZ.drop (by simp) (by simp)) ?_
    · intro X hX
      clear hX
      go_simp
    try simp only [Act.put, List.setIfInBounds_toArray, List.set_cons_zero, List.set_cons_succ]
    refine take_I 11 (.pointer (some ⟨b, off + k * 8, none⟩)) (some 30) rfl (by kernel_rfl) (by kernel_rfl) (by kernel_rfl) rfl (fun _ _ _ h => h) (Or.inl ⟨by rfl, ?_⟩) (SZ.drop (by simp) (by simp)) ?_
    · intro X hX
      clear hX
      go_simp
    try simp only [Act.put, List.setIfInBounds_toArray, List.set_cons_zero, List.set_cons_succ]
    refine take_I 12 (.agg #[.int .i64 r.t, .int .i64 r.c, .int .i64 r.i, .int .i64 r.j, .int .i64 r.re, .int .i64 r.im, .int .i64 r.dn, .int .i64 r.n]) (some 31) rfl (by kernel_rfl) (by kernel_rfl) (by kernel_rfl) rfl (fun _ _ _ h => h) (Or.inl ⟨by rfl, ?_⟩) (HAL.out 12) ?_
    · intro X hX
      obtain ⟨hz8, hc8⟩ := hX.1 (12, ⟨b, off + k * 8, none⟩, .int .i64 r.t) (List.Mem.tail _ (List.Mem.tail _ (List.Mem.tail _ (List.Mem.tail _ (List.Mem.tail _ (List.Mem.tail _ (List.Mem.tail _ (List.Mem.tail _ (List.Mem.head _))))))))) rfl
      simp only at hz8 hc8
      obtain ⟨hz9, hc9⟩ := hX.1 (12, ⟨b, off + k * 8 + 1, none⟩, .int .i64 r.c) (List.Mem.tail _ (List.Mem.tail _ (List.Mem.tail _ (List.Mem.tail _ (List.Mem.tail _ (List.Mem.tail _ (List.Mem.tail _ (List.Mem.tail _ (List.Mem.tail _ (List.Mem.head _)))))))))) rfl
      simp only at hz9 hc9
      obtain ⟨hz10, hc10⟩ := hX.1 (12, ⟨b, off + k * 8 + 2, none⟩, .int .i64 r.i) (List.Mem.tail _ (List.Mem.tail _ (List.Mem.tail _ (List.Mem.tail _ (List.Mem.tail _ (List.Mem.tail _ (List.Mem.tail _ (List.Mem.tail _ (List.Mem.tail _ (List.Mem.tail _ (List.Mem.head _))))))))))) rfl
      simp only at hz10 hc10
      obtain ⟨hz11, hc11⟩ := hX.1 (12, ⟨b, off + k * 8 + 3, none⟩, .int .i64 r.j) (List.Mem.tail _ (List.Mem.tail _ (List.Mem.tail _ (List.Mem.tail _ (List.Mem.tail _ (List.Mem.tail _ (List.Mem.tail _ (List.Mem.tail _ (List.Mem.tail _ (List.Mem.tail _ (List.Mem.tail _ (List.Mem.head _)))))))))))) rfl
      simp only at hz11 hc11
      obtain ⟨hz12, hc12⟩ := hX.1 (12, ⟨b, off + k * 8 + 4, none⟩, .int .i64 r.re) (List.Mem.tail _ (List.Mem.tail _ (List.Mem.tail _ (List.Mem.tail _ (List.Mem.tail _ (List.Mem.tail _ (List.Mem.tail _ (List.Mem.tail _ (List.Mem.tail _ (List.Mem.tail _ (List.Mem.tail _ (List.Mem.tail _ (List.Mem.head _))))))))))))) rfl
      simp only at hz12 hc12
      obtain ⟨hz13, hc13⟩ := hX.1 (12, ⟨b, off + k * 8 + 5, none⟩, .int .i64 r.im) (List.Mem.tail _ (List.Mem.tail _ (List.Mem.tail _ (List.Mem.tail _ (List.Mem.tail _ (List.Mem.tail _ (List.Mem.tail _ (List.Mem.tail _ (List.Mem.tail _ (List.Mem.tail _ (List.Mem.tail _ (List.Mem.tail _ (List.Mem.tail _ (List.Mem.head _)))))))))))))) rfl
      simp only at hz13 hc13
      obtain ⟨hz14, hc14⟩ := hX.1 (12, ⟨b, off + k * 8 + 6, none⟩, .int .i64 r.dn) (List.Mem.tail _ (List.Mem.tail _ (List.Mem.tail _ (List.Mem.tail _ (List.Mem.tail _ (List.Mem.tail _ (List.Mem.tail _ (List.Mem.tail _ (List.Mem.tail _ (List.Mem.tail _ (List.Mem.tail _ (List.Mem.tail _ (List.Mem.tail _ (List.Mem.tail _ (List.Mem.head _))))))))))))))) rfl
      simp only at hz14 hc14
      obtain ⟨hz15, hc15⟩ := hX.1 (12, ⟨b, off + k * 8 + 7, none⟩, .int .i64 r.n) (List.Mem.tail _ (List.Mem.tail _ (List.Mem.tail _ (List.Mem.tail _ (List.Mem.tail _ (List.Mem.tail _ (List.Mem.tail _ (List.Mem.tail _ (List.Mem.tail _ (List.Mem.tail _ (List.Mem.tail _ (List.Mem.tail _ (List.Mem.tail _ (List.Mem.tail _ (List.Mem.tail _ (List.Mem.head _)))))))))))))))) rfl
      simp only at hz15 hc15
      clear hX
      go_simp
    try simp only [Act.put, List.setIfInBounds_toArray, List.set_cons_zero, List.set_cons_succ]
    refine only_I 8 (by kernel_rfl) rfl (fun K' hK' => ?_)
    go_simp
    go_at_call 22
    refine (KS.out _).mono ?_
    rintro e x1 ⟨rfl, hb⟩
    replace NN := Lib.hid (Bgo NN.out hb)
    go_simp
    refine hK'.out _ _ (fun _ _ hS => hS.next hb) ?_
    clear hK' K'
    try simp only [Act.put, List.setIfInBounds_toArray, List.set_cons_zero, List.set_cons_succ]
    replace HAL := Lib.hid (fun kx9 => (HAL.out kx9).next hb)
    clear hb
    refine only_I 13 (by kernel_rfl) rfl (fun K' hK' => ?_)
    go_simp
    go_at_call 22
    refine (KR.out _).mono ?_
    rintro e x2 ⟨rfl, hb⟩
    replace NN := Lib.hid (Bgo NN.out hb)
    go_simp
    refine hK'.out _ _ (fun _ _ hS => hS.next hb) ?_
    clear hK' K'
    try simp only [Act.put, List.setIfInBounds_toArray, List.set_cons_zero, List.set_cons_succ]
    replace HAL := Lib.hid (fun kx9 => (HAL.out kx9).next hb)
    clear hb
    refine take_I 14 (.bool (decide (kr ≤ ks))) (some 33) rfl (by kernel_rfl) (by kernel_rfl) (by kernel_rfl) rfl (fun _ _ _ h => h) (Or.inl ⟨by rfl, ?_⟩) (SZ.drop (by simp) (by simp)) ?_
    · intro X hX
      clear hX
      go_simp
    try simp only [Act.put, List.setIfInBounds_toArray, List.set_cons_zero, List.set_cons_succ]
    refine take_I 15 (.bool (decide (kr ≤ ks))) (some 34) rfl (by kernel_rfl) (by kernel_rfl) (by kernel_rfl) rfl (fun _ _ _ h => h) (Or.inl ⟨by rfl, ?_⟩) (SZ.drop (by simp) (by simp)) ?_
    · intro X hX
      clear hX
      go_simp
    try simp only [Act.put, List.setIfInBounds_toArray, List.set_cons_zero, List.set_cons_succ]
    clear HAL
    refine done_I (by kernel_rfl) ?_ _
    clear d0 d1 hw
    by_cases hx : ks < kr
    · have d2 : decide (kr ≤ ks) = false := decide_eq_false (by omega)
      have HGN : Hid (goodB (List.take (k + 1) l) = true) := Lib.hid (by rw [HGT.out]; exact decide_eq_true hx)
      clear HGT
      go_wp2_with fail
      all_goals first | (exfalso; omega; done) | (refine ⟨⟨k + 1, by omega, by go_num, NN, HGN⟩, by simp [intOf]; omega⟩)
    · have d2 : decide (kr ≤ ks) = true := decide_eq_true (by omega)
      have HR : Hid (v = 8) := Lib.hid (by rw [FV.out, good_prefix (k + 1) (by rw [HGT.out]; exact decide_eq_false hx)]; rfl)
      clear HGT
      go_wp2_with fail
      all_goals first | (exfalso; omega; done) | (go_ret; exact ⟨ret_int HR.out.symm, NN.out⟩)
end Go.Proofs.Ytbbnkclajpaghaa
