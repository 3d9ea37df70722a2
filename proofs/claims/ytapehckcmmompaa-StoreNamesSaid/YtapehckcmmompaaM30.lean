/- Several texts in one. -/
import Derived.Test.YtapehckcmmompaaM29
namespace Go.Proofs.Ytapehckcmmompaa
open Go.ChangeShapes Go.WideShapes Go.ChangeAt Go.RowKit Go.Deep Go.Joins
set_option linter.unusedVariables false
set_option linter.unusedSimpArgs false
set_option maxRecDepth 100000
attribute [local go_sem ↓] Go.wp_at_zero Go.wp_at_succ
theorem suff {R : Prop} {G : World → Nat → Nat → Nat → Prop} {F : World → Nat → Nat → Nat → Prop} (h1 : ∀ W a b c, F W a b c → G W a b c) (h2 : (∀ W a b c, F W a b c → G W a b c) → R) : R := h2 h1
section
variable {P : Program} {ops : Array Oper} {Q : Exit → Act → World → Prop} {md : Region.Mode} {S : Nat → World → Prop}
theorem three_I {o1 o2 o3 : Oper} {f : Nat} {done : Array Bool} {a : Act} {w : World} (i j k : Nat) (hr : Region.ready md ops done = [i, j, k]) (h1 : ops[i]? = some o1) (h2 : ops[j]? = some o2) (h3 : ops[k]? = some o3)
  (g1 : ∀ K' : Act → World → Prop, Shut (∀ a' w', (∀ x, Region.waitsFor md ops i x = false → S x w → S x w') → wpAnyI P md ops Q S f (done.setIfInBounds i true) a' w' → K' a' w') → if Region.wanted o1 (yielded ops a.tmps) = true then Oper.wp P o1 a w K' Q else K' (a.put o1.dst undef) w)
  (g2 : ∀ K' : Act → World → Prop, Shut (∀ a' w', (∀ x, Region.waitsFor md ops j x = false → S x w → S x w') → wpAnyI P md ops Q S f (done.setIfInBounds j true) a' w' → K' a' w') → if Region.wanted o2 (yielded ops a.tmps) = true then Oper.wp P o2 a w K' Q else K' (a.put o2.dst undef) w)
  (g3 : ∀ K' : Act → World → Prop, Shut (∀ a' w', (∀ x, Region.waitsFor md ops k x = false → S x w → S x w') → wpAnyI P md ops Q S f (done.setIfInBounds k true) a' w' → K' a' w') → if Region.wanted o3 (yielded ops a.tmps) = true then Oper.wp P o3 a w K' Q else K' (a.put o3.dst undef) w) :
  wpAnyI P md ops Q S (f + 1) done a w :=
 ⟨fun h0 => (by rw [hr] at h0; cases h0), fun n hn => by
  rw [hr] at hn
  simp only [List.mem_cons, List.not_mem_nil, or_false] at hn
  rcases hn with rfl | rfl | rfl
  ·exact wpOp_step h1 (fun K' hK => g1 K' (fun a' w' h1 h2 => hK a' w' ⟨h1, h2⟩))
  ·exact wpOp_step h2 (fun K' hK => g2 K' (fun a' w' h1 h2 => hK a' w' ⟨h1, h2⟩))
  ·exact wpOp_step h3 (fun K' hK => g3 K' (fun a' w' h1 h2 => hK a' w' ⟨h1, h2⟩))⟩
theorem two_I {o1 o2 : Oper} {f : Nat} {done : Array Bool} {a : Act} {w : World} (i j : Nat) (hr : Region.ready md ops done = [i, j]) (h1 : ops[i]? = some o1) (h2 : ops[j]? = some o2)
  (g1 : ∀ K' : Act → World → Prop, Shut (∀ a' w', (∀ x, Region.waitsFor md ops i x = false → S x w → S x w') → wpAnyI P md ops Q S f (done.setIfInBounds i true) a' w' → K' a' w') → if Region.wanted o1 (yielded ops a.tmps) = true then Oper.wp P o1 a w K' Q else K' (a.put o1.dst undef) w)
  (g2 : ∀ K' : Act → World → Prop, Shut (∀ a' w', (∀ x, Region.waitsFor md ops j x = false → S x w → S x w') → wpAnyI P md ops Q S f (done.setIfInBounds j true) a' w' → K' a' w') → if Region.wanted o2 (yielded ops a.tmps) = true then Oper.wp P o2 a w K' Q else K' (a.put o2.dst undef) w) :
  wpAnyI P md ops Q S (f + 1) done a w :=
 ⟨fun h0 => (by rw [hr] at h0; cases h0), fun n hn => by
  rw [hr] at hn
  simp only [List.mem_cons, List.not_mem_nil, or_false] at hn
  rcases hn with rfl | rfl
  ·exact wpOp_step h1 (fun K' hK => g1 K' (fun a' w' h1 h2 => hK a' w' ⟨h1, h2⟩))
  ·exact wpOp_step h2 (fun K' hK => g2 K' (fun a' w' h1 h2 => hK a' w' ⟨h1, h2⟩))⟩
end
theorem make_objs (W : World) (n : Nat) (h : n ≤ 1000) : (Instr.makeSlice 23 (.int .i64 (n : Int)) (.int .i64 (n : Int))).run Try.prog W = .ok (.slice (some ⟨W.heap.size, 0, none⟩) n n) (W.alloc (.cells (madeCells #[.string ⟨#[]⟩, .int .i64 0, .int .i64 0, .int .i64 0, .int .i64 0] (n * 5)) 50)) := by
 obtain ⟨i, hi, hz, hs, hb⟩ := info_parts infoOb
 have := run_make (P := Try.prog) W 23 50 i zO Try.underlying23 hi hz .i64 .i64 n n (by omega) (by omega) (by rw [hb]; omega) (by omega)
 rw [hs] at this
 have e : zO.cells = #[.string ⟨#[]⟩, .int .i64 0, .int .i64 0, .int .i64 0, .int .i64 0] := rfl
 rw [e] at this
 simpa using this
abbrev zob : Ob := ⟨⟨#[]⟩, 0, 0, 0, 0⟩
theorem flatO17 : (madeCells #[.string ⟨#[]⟩, .int .i64 0, .int .i64 0, .int .i64 0, .int .i64 0] (17 * 5)).toList = flatO (List.replicate 17 zob) := by kernel_rfl
theorem nil_objs {B hb : Nat} (W : World) (hB : B ≤ W.heap.size) (he : hb = W.heap.size) : OO B (W.alloc (.cells (madeCells #[.string ⟨#[]⟩, .int .i64 0, .int .i64 0, .int .i64 0, .int .i64 0] (17 * 5)) 50)) (.slice (some ⟨hb, 0, none⟩) 17 17) (List.replicate 17 zob) := by
 subst he
 have := World.ownsRow_lit (base := B) (size := 5) (e := 50) W (madeCells #[.string ⟨#[]⟩, .int .i64 0, .int .i64 0, .int .i64 0, .int .i64 0] (17 * 5)) 17 hB (by simp [maxLen]) (by rw [size_madeCells])
 rw [flatO17] at this
 exact this
def dk1 : Array Value := madeCells #[.bool false, .slice none 0 0] (1 * 2)
def dk13 : Array Value := madeCells #[.bool false, .slice none 0 0] (13 * 2)
def ob17 : Array Value := madeCells #[.string ⟨#[]⟩, .int .i64 0, .int .i64 0, .int .i64 0, .int .i64 0] (17 * 5)
theorem make_dk1 (W : World) : (Instr.makeSlice 22 (.int .i64 1) (.int .i64 1)).run Try.prog W = .ok (.slice (some ⟨W.heap.size, 0, none⟩) 1 1) (W.alloc (.cells dk1 46)) := make_disks W 1 (by omega)
theorem make_dk13 (W : World) : (Instr.makeSlice 22 (.int .i64 13) (.int .i64 13)).run Try.prog W = .ok (.slice (some ⟨W.heap.size, 0, none⟩) 13 13) (W.alloc (.cells dk13 46)) := make_disks W 13 (by omega)
theorem make_ob17 (W : World) : (Instr.makeSlice 23 (.int .i64 17) (.int .i64 17)).run Try.prog W = .ok (.slice (some ⟨W.heap.size, 0, none⟩) 17 17) (W.alloc (.cells ob17 50)) := make_objs W 17 (by omega)
theorem nil_dk1 (W : World) : OT 0 (W.alloc (.cells dk1 46)) (.slice (some ⟨W.heap.size, 0, none⟩) 1 1) (List.replicate 1 ⟨false, []⟩) := nil_disks W 1 (by omega) (Nat.zero_le _) rfl
theorem nil_dk13 (W : World) : OT 0 (W.alloc (.cells dk13 46)) (.slice (some ⟨W.heap.size, 0, none⟩) 13 13) (List.replicate 13 ⟨false, []⟩) := nil_disks W 13 (by omega) (Nat.zero_le _) rfl
def os17 : List Ob := List.replicate 17 zob
theorem nil_ob17 (W : World) : OO 0 (W.alloc (.cells ob17 50)) (.slice (some ⟨W.heap.size, 0, none⟩) 17 17) os17 := nil_objs W (Nat.zero_le _) rfl
theorem lost_facts : ∃ (s0 : So) (s1 : So) (s2 : So) (s3 : So) (s4 : So) (s5 : So) (s6 : So) (s7 : So) (s8 : So) (s9 : So) (s10 : So) (s11 : So) (s12 : List Nat) (s13 : List Nat), newS (1) (0) = s0 ∧ newE (1) (0) = 0 ∧ smallB s0.2.2.2 = true ∧ faiS s0.1 s0.2.1 s0.2.2.1 s0.2.2.2 0 = s1 ∧ faiE s0.1 s0.2.1 s0.2.2.1 s0.2.2.2 0 = 0 ∧ smallB s1.2.2.2 = true ∧ putS s1.1 s1.2.1 s1.2.2.1 s1.2.2.2 ⟨#[97]⟩ [] = s2 ∧ putE s1.1 s1.2.1 s1.2.2.1 s1.2.2.2 ⟨#[97]⟩ [] = 32 ∧ repS s1.1 s1.2.1 s1.2.2.1 s1.2.2.2 0 = s3 ∧ repE s1.1 s1.2.1 s1.2.2.1 s1.2.2.2 0 = 0 ∧ s0 = s3 ∧ putS s0.1 s0.2.1 s0.2.2.1 s0.2.2.2 ⟨#[97]⟩ [7] = s4 ∧ putE s0.1 s0.2.1 s0.2.2.1 s0.2.2.2 ⟨#[97]⟩ [7] = 0 ∧ smallB s4.2.2.2 = true ∧ faiS s4.1 s4.2.1 s4.2.2.1 s4.2.2.2 0 = s5 ∧ faiE s4.1 s4.2.1 s4.2.2.1 s4.2.2.2 0 = 32 ∧ newS (1) (1) = s6 ∧ newE (1) (1) = 0 ∧ smallB s6.2.2.2 = true ∧ putS s6.1 s6.2.1 s6.2.2.1 s6.2.2.2 ⟨#[97]⟩ [7] = s7 ∧ putE s6.1 s6.2.1 s6.2.2.1 s6.2.2.2 ⟨#[97]⟩ [7] = 0 ∧ smallB s7.2.2.2 = true ∧ faiS s7.1 s7.2.1 s7.2.2.1 s7.2.2.2 0 = s8 ∧ faiE s7.1 s7.2.1 s7.2.2.1 s7.2.2.2 0 = 0 ∧ smallB s8.2.2.2 = true ∧ faiS s8.1 s8.2.1 s8.2.2.1 s8.2.2.2 1 = s9 ∧ faiE s8.1 s8.2.1 s8.2.2.1 s8.2.2.2 1 = 32 ∧ putS s8.1 s8.2.1 s8.2.2.1 s8.2.2.2 ⟨#[98]⟩ [8] = s10 ∧ putE s8.1 s8.2.1 s8.2.2.1 s8.2.2.2 ⟨#[98]⟩ [8] = 0 ∧ smallB s10.2.2.2 = true ∧ repS s10.1 s10.2.1 s10.2.2.1 s10.2.2.2 0 = s11 ∧ repE s10.1 s10.2.1 s10.2.2.1 s10.2.2.2 0 = 0 ∧ smallB s11.2.2.2 = true ∧ getR s11.1 s11.2.1 s11.2.2.1 s11.2.2.2 ⟨#[97]⟩ = (s12, 0) ∧ getR s11.1 s11.2.1 s11.2.2.1 s11.2.2.2 ⟨#[98]⟩ = (s13, 0) ∧ s12 = [7] ∧ s13 = [8] :=
 ⟨_, _, _, _, _, _, _, _, _, _, _, _, [7], [8], rfl, by kernel_rfl, by kernel_rfl, rfl, by kernel_rfl, by kernel_rfl, rfl, by kernel_rfl, rfl, by kernel_rfl, by kernel_rfl, rfl, by kernel_rfl, by kernel_rfl, rfl, by kernel_rfl, rfl, by kernel_rfl, by kernel_rfl, rfl, by kernel_rfl, by kernel_rfl, rfl, by kernel_rfl, by kernel_rfl, rfl, by kernel_rfl, rfl, by kernel_rfl, by kernel_rfl, rfl, by kernel_rfl, by kernel_rfl, by kernel_rfl, by kernel_rfl, by kernel_rfl, by kernel_rfl⟩
set_option maxHeartbeats 16000000 in
theorem sLost_calls (w : World) : Calls Try.prog 39 #[] w fun e w' => e = .returned (.bool true) ∧ Below w.heap.size w w' := by
 have NN := Lib.hid (Below.refl w.heap.size w)
 obtain ⟨⟨s0a, s0b, s0c, s0d⟩, ⟨s1a, s1b, s1c, s1d⟩, ⟨s2a, s2b, s2c, s2d⟩, ⟨s3a, s3b, s3c, s3d⟩, ⟨s4a, s4b, s4c, s4d⟩, ⟨s5a, s5b, s5c, s5d⟩, ⟨s6a, s6b, s6c, s6d⟩, ⟨s7a, s7b, s7c, s7d⟩, ⟨s8a, s8b, s8c, s8d⟩, ⟨s9a, s9b, s9c, s9d⟩, ⟨s10a, s10b, s10c, s10d⟩, ⟨s11a, s11b, s11c, s11d⟩, s12, s13, e0, e1, e2, e3, e4, e5, e6, e7, e8, e9, e10, e11, e12, e13, e14, e15, e16, e17, e18, e19, e20, e21, e22, e23, e24, e25, e26, e27, e28, e29, e30, e31, e32, e33, e34, e35, e36⟩ := lost_facts
 simp only at e2 e3 e4 e5 e6 e7 e8 e9 e10 e11 e12 e13 e14 e15 e18 e19 e20 e21 e22 e23 e24 e25 e26 e27 e28 e29 e30 e31 e32 e33 e34 e35 e36
 have N0 := Lib.hid (fun (W : World) => new_calls (1) (0) W)
 rw [e0, e1] at N0
 have N6 := Lib.hid (fun (W : World) => new_calls (1) (1) W)
 rw [e16, e17] at N6
 have C1 := Lib.hid (fun (D A : Option Addr) (cd ca B : Nat) (W : World) h1 h2 h3 h4 h5 h6 => fail_calls s0a s0b D A cd ca B s0c s0d 0 W h1 h2 h3 h4 h5 h6 (smallB_lh e2))
 rw [e3, e4] at C1
 have C2 := Lib.hid (fun (D A : Option Addr) (cd ca B : Nat) (W : World) h1 h2 h3 h4 h5 h6 (Ab : Option Addr) (cb Bb : Nat) hb1 hb2 hb3 => put_calls s1a s1b D A cd ca B s1c s1d ⟨#[97]⟩ Ab cb Bb [] W h1 h2 h3 h4 h5 h6 (smallB_lh e5) (by decide) hb1 hb2 hb3)
 rw [e6, e7] at C2
 have C3 := Lib.hid (fun (D A : Option Addr) (cd ca B : Nat) (W : World) h1 h2 h3 h4 h5 h6 => replace_calls s1a s1b D A cd ca B s1c s1d 0 W h1 h2 h3 h4 h5 h6 (smallB_lh e5))
 rw [e8, e9] at C3
 have C4 := Lib.hid (fun (D A : Option Addr) (cd ca B : Nat) (W : World) h1 h2 h3 h4 h5 h6 (Ab : Option Addr) (cb Bb : Nat) hb1 hb2 hb3 => put_calls s0a s0b D A cd ca B s0c s0d ⟨#[97]⟩ Ab cb Bb [7] W h1 h2 h3 h4 h5 h6 (smallB_lh e2) (by decide) hb1 hb2 hb3)
 rw [e11, e12] at C4
 have C5 := Lib.hid (fun (D A : Option Addr) (cd ca B : Nat) (W : World) h1 h2 h3 h4 h5 h6 => fail_calls s4a s4b D A cd ca B s4c s4d 0 W h1 h2 h3 h4 h5 h6 (smallB_lh e13))
 rw [e14, e15] at C5
 have C7 := Lib.hid (fun (D A : Option Addr) (cd ca B : Nat) (W : World) h1 h2 h3 h4 h5 h6 (Ab : Option Addr) (cb Bb : Nat) hb1 hb2 hb3 => put_calls s6a s6b D A cd ca B s6c s6d ⟨#[97]⟩ Ab cb Bb [7] W h1 h2 h3 h4 h5 h6 (smallB_lh e18) (by decide) hb1 hb2 hb3)
 rw [e19, e20] at C7
 have C8 := Lib.hid (fun (D A : Option Addr) (cd ca B : Nat) (W : World) h1 h2 h3 h4 h5 h6 => fail_calls s7a s7b D A cd ca B s7c s7d 0 W h1 h2 h3 h4 h5 h6 (smallB_lh e21))
 rw [e22, e23] at C8
 have C9 := Lib.hid (fun (D A : Option Addr) (cd ca B : Nat) (W : World) h1 h2 h3 h4 h5 h6 => fail_calls s8a s8b D A cd ca B s8c s8d 1 W h1 h2 h3 h4 h5 h6 (smallB_lh e24))
 rw [e25, e26] at C9
 have C10 := Lib.hid (fun (D A : Option Addr) (cd ca B : Nat) (W : World) h1 h2 h3 h4 h5 h6 (Ab : Option Addr) (cb Bb : Nat) hb1 hb2 hb3 => put_calls s8a s8b D A cd ca B s8c s8d ⟨#[98]⟩ Ab cb Bb [8] W h1 h2 h3 h4 h5 h6 (smallB_lh e24) (by decide) hb1 hb2 hb3)
 rw [e27, e28] at C10
 have C11 := Lib.hid (fun (D A : Option Addr) (cd ca B : Nat) (W : World) h1 h2 h3 h4 h5 h6 => replace_calls s10a s10b D A cd ca B s10c s10d 0 W h1 h2 h3 h4 h5 h6 (smallB_lh e29))
 rw [e30, e31] at C11
 have C12 := Lib.hid (fun (D A : Option Addr) (cd ca B : Nat) (W : World) h1 h2 h3 h4 h5 h6 => get_calls s11a s11b D A cd ca B s11c s11d ⟨#[97]⟩ W h1 h2 h3 h4 h5 h6 (smallB_lh e32))
 rw [e33] at C12
 have C13 := Lib.hid (fun (D A : Option Addr) (cd ca B : Nat) (W : World) h1 h2 h3 h4 h5 h6 => get_calls s11a s11b D A cd ca B s11c s11d ⟨#[98]⟩ W h1 h2 h3 h4 h5 h6 (smallB_lh e32))
 rw [e34] at C13
 simp only [Prod.mk.injEq] at e10
 obtain ⟨rfl, rfl, rfl, rfl⟩ := e10
 subst e35 e36
 clear e0 e1 e2 e3 e4 e5 e6 e7 e8 e9 e11 e12 e13 e14 e15 e16 e17 e18 e19 e20 e21 e22 e23 e24 e25 e26 e27 e28 e29 e30 e31 e32 e33 e34
 go_enter Try.func39, Try.ntmps39
 go_wp2_with fail
 refine (N0.out _).mono ?_
 rintro e w1 ⟨v, u, rfl, ht, hu, hb⟩
 try simp only at ht hu
 obtain ⟨A0, c0, rfl, k0a, k0b⟩ := ht.form
 obtain ⟨B0, d0, rfl, k0c, k0d⟩ := hu.form
 have T0 := Lib.hid ht
 have U0 := Lib.hid hu
 clear ht hu
 replace NN := Lib.hid (Bgo NN.out hb)
 clear hb
 have HB : Hid (Below w1.heap.size w1 (w1.alloc (.cells #[.int .i64 s0a, .int .i64 s0b, .slice A0 s0c.length c0, .slice B0 s0d.length d0] 25))) := Lib.hid (Bal (Below.refl _ _) _)
 have V1 := Lib.hid (blk_new w1 (.cells #[.int .i64 s0a, .int .i64 s0b, .slice A0 s0c.length c0, .slice B0 s0d.length d0] 25))
 have LT_V1 : Hid (w.heap.size ≤ w1.heap.size) := Lib.hid NN.out.size
 replace NN := Lib.hid (Bgo NN.out HB.out)
 replace T0 := Lib.hid (T0.out.next HB.out)
 replace U0 := Lib.hid (U0.out.next HB.out)
 clear HB
 have c_V1_0 := blk_cell V1.out 0 _ rfl
 have f_V1_0 := blk_frozen V1.out 0
 have c_V1_1 := blk_cell V1.out 1 _ rfl
 have f_V1_1 := blk_frozen V1.out 1
 have c_V1_2 := blk_cell V1.out 2 _ rfl
 have f_V1_2 := blk_frozen V1.out 2
 have c_V1_3 := blk_cell V1.out 3 _ rfl
 have f_V1_3 := blk_frozen V1.out 3
 have l_V1 := blk_lt V1.out
 go_wp2_with fail
 clear c_V1_0 f_V1_0 c_V1_1 f_V1_1 c_V1_2 f_V1_2 c_V1_3 f_V1_3 l_V1
 generalize w1.alloc (.cells #[.int .i64 s0a, .int .i64 s0b, .slice A0 s0c.length c0, .slice B0 s0d.length d0] 25) = W2 at *
 generalize w1.heap.size = g2 at *
 refine (C1.out A0 B0 c0 d0 _ _ k0a k0b k0c k0d T0.out.rd U0.out.ro).mono ?_
 rintro e w3 ⟨v, u, rfl, ht, hu, hb⟩
 try simp only at ht hu
 obtain ⟨A1, c1, rfl, k1a, k1b⟩ := ht.form
 obtain ⟨B1, d1, rfl, k1c, k1d⟩ := hu.form
 have T1 := Lib.hid ht
 have U1 := Lib.hid hu
 clear ht hu
 replace NN := Lib.hid (Bgo NN.out hb)
 replace T0 := Lib.hid (T0.out.next hb)
 replace U0 := Lib.hid (U0.out.next hb)
 replace V1 := Lib.hid (blk_next hb V1.out)
 clear hb
 have HB : Hid (Below w3.heap.size w3 (w3.alloc (.cells #[.int .i64 s1a, .int .i64 s1b, .slice A1 s1c.length c1, .slice B1 s1d.length d1] 25))) := Lib.hid (Bal (Below.refl _ _) _)
 have V3 := Lib.hid (blk_new w3 (.cells #[.int .i64 s1a, .int .i64 s1b, .slice A1 s1c.length c1, .slice B1 s1d.length d1] 25))
 have LT_V3 : Hid (g2 < w3.heap.size ∧ w.heap.size ≤ w3.heap.size) := Lib.hid ⟨blk_lt V1.out, NN.out.size⟩
 replace NN := Lib.hid (Bgo NN.out HB.out)
 replace T0 := Lib.hid (T0.out.next HB.out)
 replace U0 := Lib.hid (U0.out.next HB.out)
 replace T1 := Lib.hid (T1.out.next HB.out)
 replace U1 := Lib.hid (U1.out.next HB.out)
 replace V1 := Lib.hid (blk_next HB.out V1.out)
 clear HB
 have c_V3_0 := blk_cell V3.out 0 _ rfl
 have f_V3_0 := blk_frozen V3.out 0
 have c_V3_1 := blk_cell V3.out 1 _ rfl
 have f_V3_1 := blk_frozen V3.out 1
 have c_V3_2 := blk_cell V3.out 2 _ rfl
 have f_V3_2 := blk_frozen V3.out 2
 have c_V3_3 := blk_cell V3.out 3 _ rfl
 have f_V3_3 := blk_frozen V3.out 3
 have l_V3 := blk_lt V3.out
 go_wp2_with fail
 clear c_V3_0 f_V3_0 c_V3_1 f_V3_1 c_V3_2 f_V3_2 c_V3_3 f_V3_3 l_V3
 generalize w3.alloc (.cells #[.int .i64 s1a, .int .i64 s1b, .slice A1 s1c.length c1, .slice B1 s1d.length d1] 25) = W4 at *
 generalize w3.heap.size = g4 at *
 refine (C2.out A1 B1 c1 d1 _ _ k1a k1b k1c k1d T1.out.rd U1.out.ro none 0 0 (by decide) (by decide) ⟨Byt.nil, Hd.nil _ _ _⟩).mono ?_
 rintro e w5 ⟨v, u, rfl, ht, hu, hb⟩
 try simp only at ht hu
 obtain ⟨A2, c2, rfl, k2a, k2b⟩ := ht.form
 obtain ⟨B2, d2, rfl, k2c, k2d⟩ := hu.form
 have T2 := Lib.hid ht
 have U2 := Lib.hid hu
 clear ht hu
 replace NN := Lib.hid (Bgo NN.out hb)
 replace T0 := Lib.hid (T0.out.next hb)
 replace U0 := Lib.hid (U0.out.next hb)
 replace T1 := Lib.hid (T1.out.next hb)
 replace U1 := Lib.hid (U1.out.next hb)
 replace V1 := Lib.hid (blk_next hb V1.out)
 replace V3 := Lib.hid (blk_next hb V3.out)
 clear hb
 have HB : Hid (Below w5.heap.size w5 (w5.alloc (.cells #[.int .i64 s2a, .int .i64 s2b, .slice A2 s2c.length c2, .slice B2 s2d.length d2] 25))) := Lib.hid (Bal (Below.refl _ _) _)
 have V5 := Lib.hid (blk_new w5 (.cells #[.int .i64 s2a, .int .i64 s2b, .slice A2 s2c.length c2, .slice B2 s2d.length d2] 25))
 have LT_V5 : Hid (g2 < w5.heap.size ∧ g4 < w5.heap.size ∧ w.heap.size ≤ w5.heap.size) := Lib.hid ⟨blk_lt V1.out, blk_lt V3.out, NN.out.size⟩
 replace NN := Lib.hid (Bgo NN.out HB.out)
 replace T0 := Lib.hid (T0.out.next HB.out)
 replace U0 := Lib.hid (U0.out.next HB.out)
 replace T1 := Lib.hid (T1.out.next HB.out)
 replace U1 := Lib.hid (U1.out.next HB.out)
 replace T2 := Lib.hid (T2.out.next HB.out)
 replace U2 := Lib.hid (U2.out.next HB.out)
 replace V1 := Lib.hid (blk_next HB.out V1.out)
 replace V3 := Lib.hid (blk_next HB.out V3.out)
 clear HB
 have c_V3_0 := blk_cell V3.out 0 _ rfl
 have f_V3_0 := blk_frozen V3.out 0
 have c_V3_1 := blk_cell V3.out 1 _ rfl
 have f_V3_1 := blk_frozen V3.out 1
 have c_V3_2 := blk_cell V3.out 2 _ rfl
 have f_V3_2 := blk_frozen V3.out 2
 have c_V3_3 := blk_cell V3.out 3 _ rfl
 have f_V3_3 := blk_frozen V3.out 3
 have l_V3 := blk_lt V3.out
 go_wp2_with fail
 clear c_V3_0 f_V3_0 c_V3_1 f_V3_1 c_V3_2 f_V3_2 c_V3_3 f_V3_3 l_V3
 generalize w5.alloc (.cells #[.int .i64 s2a, .int .i64 s2b, .slice A2 s2c.length c2, .slice B2 s2d.length d2] 25) = W6 at *
 generalize w5.heap.size = g6 at *
 clear V5 T2 U2
 refine (C3.out A1 B1 c1 d1 _ _ k1a k1b k1c k1d T1.out.rd U1.out.ro).mono ?_
 rintro e w7 ⟨v, u, rfl, ht, hu, hb⟩
 try simp only at ht hu
 obtain ⟨A3, c3, rfl, k3a, k3b⟩ := ht.form
 obtain ⟨B3, d3, rfl, k3c, k3d⟩ := hu.form
 have T3 := Lib.hid ht
 have U3 := Lib.hid hu
 clear ht hu
 replace NN := Lib.hid (Bgo NN.out hb)
 replace T0 := Lib.hid (T0.out.next hb)
 replace U0 := Lib.hid (U0.out.next hb)
 replace T1 := Lib.hid (T1.out.next hb)
 replace U1 := Lib.hid (U1.out.next hb)
 replace V1 := Lib.hid (blk_next hb V1.out)
 replace V3 := Lib.hid (blk_next hb V3.out)
 clear hb
 have HB : Hid (Below w7.heap.size w7 (w7.alloc (.cells #[.int .i64 s0a, .int .i64 s0b, .slice A3 s0c.length c3, .slice B3 s0d.length d3] 25))) := Lib.hid (Bal (Below.refl _ _) _)
 have V7 := Lib.hid (blk_new w7 (.cells #[.int .i64 s0a, .int .i64 s0b, .slice A3 s0c.length c3, .slice B3 s0d.length d3] 25))
 have LT_V7 : Hid (g2 < w7.heap.size ∧ g4 < w7.heap.size ∧ w.heap.size ≤ w7.heap.size) := Lib.hid ⟨blk_lt V1.out, blk_lt V3.out, NN.out.size⟩
 replace NN := Lib.hid (Bgo NN.out HB.out)
 replace T0 := Lib.hid (T0.out.next HB.out)
 replace U0 := Lib.hid (U0.out.next HB.out)
 replace T1 := Lib.hid (T1.out.next HB.out)
 replace U1 := Lib.hid (U1.out.next HB.out)
 replace T3 := Lib.hid (T3.out.next HB.out)
 replace U3 := Lib.hid (U3.out.next HB.out)
 replace V1 := Lib.hid (blk_next HB.out V1.out)
 replace V3 := Lib.hid (blk_next HB.out V3.out)
 clear HB
 go_upto_region 5 with fail
 generalize (w7.alloc (.cells #[.int .i64 s0a, .int .i64 s0b, .slice A3 s0c.length c3, .slice B3 s0d.length d3] 25)) = WV7 at *
 generalize w7.heap.size = gV7 at *
 clear V3 T1 U1
 have RBL : Hid (RBA 0 (WV7.alloc (.cells #[.int .u8 7] 5)) (some ⟨WV7.heap.size, 0, none⟩) [7]) := Lib.hid (rba_one WV7 7 (by decide))
 have c_V1_0 := blk_cell V1.out 0 _ rfl
 have f_V1_0 := blk_frozen V1.out 0
 have c_V1_1 := blk_cell V1.out 1 _ rfl
 have f_V1_1 := blk_frozen V1.out 1
 have c_V1_2 := blk_cell V1.out 2 _ rfl
 have f_V1_2 := blk_frozen V1.out 2
 have c_V1_3 := blk_cell V1.out 3 _ rfl
 have f_V1_3 := blk_frozen V1.out 3
 have l_V1 := blk_lt V1.out
 go_wp2_with fail
 clear c_V1_0 f_V1_0 c_V1_1 f_V1_1 c_V1_2 f_V1_2 c_V1_3 f_V1_3 l_V1
 have HB : Hid (Below WV7.heap.size WV7 (WV7.alloc (.cells #[.int .u8 7] 5))) := Lib.hid (Bal (Below.refl _ _) _)
 have IB := Lib.hid (blk_new WV7 (.cells #[.int .u8 7] 5))
 have LT_IB : Hid (g2 < WV7.heap.size ∧ gV7 < WV7.heap.size ∧ w.heap.size ≤ WV7.heap.size) := Lib.hid ⟨blk_lt V1.out, blk_lt V7.out, NN.out.size⟩
 replace NN := Lib.hid (Bgo NN.out HB.out)
 replace T0 := Lib.hid (T0.out.next HB.out)
 replace U0 := Lib.hid (U0.out.next HB.out)
 replace T3 := Lib.hid (T3.out.next HB.out)
 replace U3 := Lib.hid (U3.out.next HB.out)
 replace V1 := Lib.hid (blk_next HB.out V1.out)
 replace V7 := Lib.hid (blk_next HB.out V7.out)
 clear HB
 clear IB LT_IB
 refine (C4.out A0 B0 c0 d0 _ _ k0a k0b k0c k0d T0.out.rd U0.out.ro (some ⟨WV7.heap.size, 0, none⟩) 1 _ (by decide) (by decide) RBL.out).mono ?_
 rintro e w10 ⟨v, u, rfl, ht, hu, hb⟩
 try simp only at ht hu
 obtain ⟨A4, c4, rfl, k4a, k4b⟩ := ht.form
 obtain ⟨B4, d4, rfl, k4c, k4d⟩ := hu.form
 have T4 := Lib.hid ht
 have U4 := Lib.hid hu
 clear ht hu
 replace NN := Lib.hid (Bgo NN.out hb)
 replace T0 := Lib.hid (T0.out.next hb)
 replace U0 := Lib.hid (U0.out.next hb)
 replace T3 := Lib.hid (T3.out.next hb)
 replace U3 := Lib.hid (U3.out.next hb)
 replace V1 := Lib.hid (blk_next hb V1.out)
 replace V7 := Lib.hid (blk_next hb V7.out)
 clear hb
 have HB : Hid (Below w10.heap.size w10 (w10.alloc (.cells #[.int .i64 s4a, .int .i64 s4b, .slice A4 s4c.length c4, .slice B4 s4d.length d4] 25))) := Lib.hid (Bal (Below.refl _ _) _)
 have V9 := Lib.hid (blk_new w10 (.cells #[.int .i64 s4a, .int .i64 s4b, .slice A4 s4c.length c4, .slice B4 s4d.length d4] 25))
 have LT_V9 : Hid (g2 < w10.heap.size ∧ gV7 < w10.heap.size ∧ w.heap.size ≤ w10.heap.size) := Lib.hid ⟨blk_lt V1.out, blk_lt V7.out, NN.out.size⟩
 replace NN := Lib.hid (Bgo NN.out HB.out)
 replace T0 := Lib.hid (T0.out.next HB.out)
 replace U0 := Lib.hid (U0.out.next HB.out)
 replace T3 := Lib.hid (T3.out.next HB.out)
 replace U3 := Lib.hid (U3.out.next HB.out)
 replace T4 := Lib.hid (T4.out.next HB.out)
 replace U4 := Lib.hid (U4.out.next HB.out)
 replace V1 := Lib.hid (blk_next HB.out V1.out)
 replace V7 := Lib.hid (blk_next HB.out V7.out)
 clear HB
 have c_V9_0 := blk_cell V9.out 0 _ rfl
 have f_V9_0 := blk_frozen V9.out 0
 have c_V9_1 := blk_cell V9.out 1 _ rfl
 have f_V9_1 := blk_frozen V9.out 1
 have c_V9_2 := blk_cell V9.out 2 _ rfl
 have f_V9_2 := blk_frozen V9.out 2
 have c_V9_3 := blk_cell V9.out 3 _ rfl
 have f_V9_3 := blk_frozen V9.out 3
 have l_V9 := blk_lt V9.out
 go_wp2_with fail
 clear c_V9_0 f_V9_0 c_V9_1 f_V9_1 c_V9_2 f_V9_2 c_V9_3 f_V9_3 l_V9
 generalize w10.alloc (.cells #[.int .i64 s4a, .int .i64 s4b, .slice A4 s4c.length c4, .slice B4 s4d.length d4] 25) = W11 at *
 generalize w10.heap.size = g11 at *
 clear RBL
 refine (C5.out A4 B4 c4 d4 _ _ k4a k4b k4c k4d T4.out.rd U4.out.ro).mono ?_
 rintro e w12 ⟨v, u, rfl, ht, hu, hb⟩
 try simp only at ht hu
 obtain ⟨A5, c5, rfl, k5a, k5b⟩ := ht.form
 obtain ⟨B5, d5, rfl, k5c, k5d⟩ := hu.form
 have T5 := Lib.hid ht
 have U5 := Lib.hid hu
 clear ht hu
 replace NN := Lib.hid (Bgo NN.out hb)
 replace T0 := Lib.hid (T0.out.next hb)
 replace U0 := Lib.hid (U0.out.next hb)
 replace T3 := Lib.hid (T3.out.next hb)
 replace U3 := Lib.hid (U3.out.next hb)
 replace T4 := Lib.hid (T4.out.next hb)
 replace U4 := Lib.hid (U4.out.next hb)
 replace V1 := Lib.hid (blk_next hb V1.out)
 replace V7 := Lib.hid (blk_next hb V7.out)
 replace V9 := Lib.hid (blk_next hb V9.out)
 clear hb
 have HB : Hid (Below w12.heap.size w12 (w12.alloc (.cells #[.int .i64 s5a, .int .i64 s5b, .slice A5 s5c.length c5, .slice B5 s5d.length d5] 25))) := Lib.hid (Bal (Below.refl _ _) _)
 have V11 := Lib.hid (blk_new w12 (.cells #[.int .i64 s5a, .int .i64 s5b, .slice A5 s5c.length c5, .slice B5 s5d.length d5] 25))
 have LT_V11 : Hid (g2 < w12.heap.size ∧ gV7 < w12.heap.size ∧ g11 < w12.heap.size ∧ w.heap.size ≤ w12.heap.size) := Lib.hid ⟨blk_lt V1.out, blk_lt V7.out, blk_lt V9.out, NN.out.size⟩
 replace NN := Lib.hid (Bgo NN.out HB.out)
 replace T0 := Lib.hid (T0.out.next HB.out)
 replace U0 := Lib.hid (U0.out.next HB.out)
 replace T3 := Lib.hid (T3.out.next HB.out)
 replace U3 := Lib.hid (U3.out.next HB.out)
 replace T4 := Lib.hid (T4.out.next HB.out)
 replace U4 := Lib.hid (U4.out.next HB.out)
 replace T5 := Lib.hid (T5.out.next HB.out)
 replace U5 := Lib.hid (U5.out.next HB.out)
 replace V1 := Lib.hid (blk_next HB.out V1.out)
 replace V7 := Lib.hid (blk_next HB.out V7.out)
 replace V9 := Lib.hid (blk_next HB.out V9.out)
 clear HB
 go_wp2_with fail
 generalize w12.alloc (.cells #[.int .i64 s5a, .int .i64 s5b, .slice A5 s5c.length c5, .slice B5 s5d.length d5] 25) = W13 at *
 generalize w12.heap.size = g13 at *
 clear V11 T5 U5
 clear V9 T4 U4
 refine (N6.out _).mono ?_
 rintro e w14 ⟨v, u, rfl, ht, hu, hb⟩
 try simp only at ht hu
 obtain ⟨A6, c6, rfl, k6a, k6b⟩ := ht.form
 obtain ⟨B6, d6, rfl, k6c, k6d⟩ := hu.form
 have T6 := Lib.hid ht
 have U6 := Lib.hid hu
 clear ht hu
 replace NN := Lib.hid (Bgo NN.out hb)
 replace T0 := Lib.hid (T0.out.next hb)
 replace U0 := Lib.hid (U0.out.next hb)
 replace T3 := Lib.hid (T3.out.next hb)
 replace U3 := Lib.hid (U3.out.next hb)
 replace V1 := Lib.hid (blk_next hb V1.out)
 replace V7 := Lib.hid (blk_next hb V7.out)
 clear hb
 have HB : Hid (Below w14.heap.size w14 (w14.alloc (.cells #[.int .i64 s6a, .int .i64 s6b, .slice A6 s6c.length c6, .slice B6 s6d.length d6] 25))) := Lib.hid (Bal (Below.refl _ _) _)
 have V13 := Lib.hid (blk_new w14 (.cells #[.int .i64 s6a, .int .i64 s6b, .slice A6 s6c.length c6, .slice B6 s6d.length d6] 25))
 have LT_V13 : Hid (g2 < w14.heap.size ∧ gV7 < w14.heap.size ∧ w.heap.size ≤ w14.heap.size) := Lib.hid ⟨blk_lt V1.out, blk_lt V7.out, NN.out.size⟩
 replace NN := Lib.hid (Bgo NN.out HB.out)
 replace T0 := Lib.hid (T0.out.next HB.out)
 replace U0 := Lib.hid (U0.out.next HB.out)
 replace T3 := Lib.hid (T3.out.next HB.out)
 replace U3 := Lib.hid (U3.out.next HB.out)
 replace T6 := Lib.hid (T6.out.next HB.out)
 replace U6 := Lib.hid (U6.out.next HB.out)
 replace V1 := Lib.hid (blk_next HB.out V1.out)
 replace V7 := Lib.hid (blk_next HB.out V7.out)
 clear HB
 go_upto_region 8 with fail
 generalize (w14.alloc (.cells #[.int .i64 s6a, .int .i64 s6b, .slice A6 s6c.length c6, .slice B6 s6d.length d6] 25)) = WV13 at *
 generalize w14.heap.size = gV13 at *
 have RBL : Hid (RBA 0 (WV13.alloc (.cells #[.int .u8 7] 5)) (some ⟨WV13.heap.size, 0, none⟩) [7]) := Lib.hid (rba_one WV13 7 (by decide))
 have c_V13_0 := blk_cell V13.out 0 _ rfl
 have f_V13_0 := blk_frozen V13.out 0
 have c_V13_1 := blk_cell V13.out 1 _ rfl
 have f_V13_1 := blk_frozen V13.out 1
 have c_V13_2 := blk_cell V13.out 2 _ rfl
 have f_V13_2 := blk_frozen V13.out 2
 have c_V13_3 := blk_cell V13.out 3 _ rfl
 have f_V13_3 := blk_frozen V13.out 3
 have l_V13 := blk_lt V13.out
 go_wp2_with fail
 clear c_V13_0 f_V13_0 c_V13_1 f_V13_1 c_V13_2 f_V13_2 c_V13_3 f_V13_3 l_V13
 have HB : Hid (Below WV13.heap.size WV13 (WV13.alloc (.cells #[.int .u8 7] 5))) := Lib.hid (Bal (Below.refl _ _) _)
 have IB := Lib.hid (blk_new WV13 (.cells #[.int .u8 7] 5))
 have LT_IB : Hid (g2 < WV13.heap.size ∧ gV7 < WV13.heap.size ∧ gV13 < WV13.heap.size ∧ w.heap.size ≤ WV13.heap.size) := Lib.hid ⟨blk_lt V1.out, blk_lt V7.out, blk_lt V13.out, NN.out.size⟩
 replace NN := Lib.hid (Bgo NN.out HB.out)
 replace T0 := Lib.hid (T0.out.next HB.out)
 replace U0 := Lib.hid (U0.out.next HB.out)
 replace T3 := Lib.hid (T3.out.next HB.out)
 replace U3 := Lib.hid (U3.out.next HB.out)
 replace T6 := Lib.hid (T6.out.next HB.out)
 replace U6 := Lib.hid (U6.out.next HB.out)
 replace V1 := Lib.hid (blk_next HB.out V1.out)
 replace V7 := Lib.hid (blk_next HB.out V7.out)
 replace V13 := Lib.hid (blk_next HB.out V13.out)
 clear HB
 clear IB LT_IB
 refine (C7.out A6 B6 c6 d6 _ _ k6a k6b k6c k6d T6.out.rd U6.out.ro (some ⟨WV13.heap.size, 0, none⟩) 1 _ (by decide) (by decide) RBL.out).mono ?_
 rintro e w17 ⟨v, u, rfl, ht, hu, hb⟩
 try simp only at ht hu
 obtain ⟨A7, c7, rfl, k7a, k7b⟩ := ht.form
 obtain ⟨B7, d7, rfl, k7c, k7d⟩ := hu.form
 have T7 := Lib.hid ht
 have U7 := Lib.hid hu
 clear ht hu
 clear RBL
 replace NN := Lib.hid (Bgo NN.out hb)
 replace T0 := Lib.hid (T0.out.next hb)
 replace U0 := Lib.hid (U0.out.next hb)
 replace T3 := Lib.hid (T3.out.next hb)
 replace U3 := Lib.hid (U3.out.next hb)
 replace T6 := Lib.hid (T6.out.next hb)
 replace U6 := Lib.hid (U6.out.next hb)
 replace V1 := Lib.hid (blk_next hb V1.out)
 replace V7 := Lib.hid (blk_next hb V7.out)
 replace V13 := Lib.hid (blk_next hb V13.out)
 clear hb
 have c_V13_0 := blk_cell V13.out 0 _ rfl
 have f_V13_0 := blk_frozen V13.out 0
 have c_V13_1 := blk_cell V13.out 1 _ rfl
 have f_V13_1 := blk_frozen V13.out 1
 have c_V13_2 := blk_cell V13.out 2 _ rfl
 have f_V13_2 := blk_frozen V13.out 2
 have c_V13_3 := blk_cell V13.out 3 _ rfl
 have f_V13_3 := blk_frozen V13.out 3
 have l_V13 := blk_lt V13.out
 go_wp2_with fail
 clear c_V13_0 f_V13_0 c_V13_1 f_V13_1 c_V13_2 f_V13_2 c_V13_3 f_V13_3 l_V13
 clear T6 U6
 replace T0 := Lib.hid (OT.same_ (o := 3) (OT.same_ (o := 2) (OT.same_ (o := 1) (OT.same_ (o := 0) (T0.out) (V13.out) ne_sto_u8 ne_sto_sl ne_sto_dk (.int .i64 s7a)) (blk_set (V13.out) 0 (.int .i64 s7a)) ne_sto_u8 ne_sto_sl ne_sto_dk (.int .i64 s7b)) (blk_set (blk_set (V13.out) 0 (.int .i64 s7a)) 1 (.int .i64 s7b)) ne_sto_u8 ne_sto_sl ne_sto_dk (.slice A7 s7c.length c7)) (blk_set (blk_set (blk_set (V13.out) 0 (.int .i64 s7a)) 1 (.int .i64 s7b)) 2 (.slice A7 s7c.length c7)) ne_sto_u8 ne_sto_sl ne_sto_dk (.slice B7 s7d.length d7))
 replace U0 := Lib.hid (OO.set_ (o := 3) (OO.set_ (o := 2) (OO.set_ (o := 1) (OO.set_ (o := 0) (U0.out) (V13.out) ne_sto_ob (.int .i64 s7a)) (blk_set (V13.out) 0 (.int .i64 s7a)) ne_sto_ob (.int .i64 s7b)) (blk_set (blk_set (V13.out) 0 (.int .i64 s7a)) 1 (.int .i64 s7b)) ne_sto_ob (.slice A7 s7c.length c7)) (blk_set (blk_set (blk_set (V13.out) 0 (.int .i64 s7a)) 1 (.int .i64 s7b)) 2 (.slice A7 s7c.length c7)) ne_sto_ob (.slice B7 s7d.length d7))
 replace T3 := Lib.hid (OT.same_ (o := 3) (OT.same_ (o := 2) (OT.same_ (o := 1) (OT.same_ (o := 0) (T3.out) (V13.out) ne_sto_u8 ne_sto_sl ne_sto_dk (.int .i64 s7a)) (blk_set (V13.out) 0 (.int .i64 s7a)) ne_sto_u8 ne_sto_sl ne_sto_dk (.int .i64 s7b)) (blk_set (blk_set (V13.out) 0 (.int .i64 s7a)) 1 (.int .i64 s7b)) ne_sto_u8 ne_sto_sl ne_sto_dk (.slice A7 s7c.length c7)) (blk_set (blk_set (blk_set (V13.out) 0 (.int .i64 s7a)) 1 (.int .i64 s7b)) 2 (.slice A7 s7c.length c7)) ne_sto_u8 ne_sto_sl ne_sto_dk (.slice B7 s7d.length d7))
 replace U3 := Lib.hid (OO.set_ (o := 3) (OO.set_ (o := 2) (OO.set_ (o := 1) (OO.set_ (o := 0) (U3.out) (V13.out) ne_sto_ob (.int .i64 s7a)) (blk_set (V13.out) 0 (.int .i64 s7a)) ne_sto_ob (.int .i64 s7b)) (blk_set (blk_set (V13.out) 0 (.int .i64 s7a)) 1 (.int .i64 s7b)) ne_sto_ob (.slice A7 s7c.length c7)) (blk_set (blk_set (blk_set (V13.out) 0 (.int .i64 s7a)) 1 (.int .i64 s7b)) 2 (.slice A7 s7c.length c7)) ne_sto_ob (.slice B7 s7d.length d7))
 replace T7 := Lib.hid (OT.same_ (o := 3) (OT.same_ (o := 2) (OT.same_ (o := 1) (OT.same_ (o := 0) (T7.out) (V13.out) ne_sto_u8 ne_sto_sl ne_sto_dk (.int .i64 s7a)) (blk_set (V13.out) 0 (.int .i64 s7a)) ne_sto_u8 ne_sto_sl ne_sto_dk (.int .i64 s7b)) (blk_set (blk_set (V13.out) 0 (.int .i64 s7a)) 1 (.int .i64 s7b)) ne_sto_u8 ne_sto_sl ne_sto_dk (.slice A7 s7c.length c7)) (blk_set (blk_set (blk_set (V13.out) 0 (.int .i64 s7a)) 1 (.int .i64 s7b)) 2 (.slice A7 s7c.length c7)) ne_sto_u8 ne_sto_sl ne_sto_dk (.slice B7 s7d.length d7))
 replace U7 := Lib.hid (OO.set_ (o := 3) (OO.set_ (o := 2) (OO.set_ (o := 1) (OO.set_ (o := 0) (U7.out) (V13.out) ne_sto_ob (.int .i64 s7a)) (blk_set (V13.out) 0 (.int .i64 s7a)) ne_sto_ob (.int .i64 s7b)) (blk_set (blk_set (V13.out) 0 (.int .i64 s7a)) 1 (.int .i64 s7b)) ne_sto_ob (.slice A7 s7c.length c7)) (blk_set (blk_set (blk_set (V13.out) 0 (.int .i64 s7a)) 1 (.int .i64 s7b)) 2 (.slice A7 s7c.length c7)) ne_sto_ob (.slice B7 s7d.length d7))
 replace V1 : Hid (((((w17.setCell ⟨gV13, 0, none⟩ (.int .i64 s7a)).setCell ⟨gV13, 1, none⟩ (.int .i64 s7b)).setCell ⟨gV13, 2, none⟩ (.slice A7 s7c.length c7)).setCell ⟨gV13, 3, none⟩ (.slice B7 s7d.length d7)).heap[g2]? = some (.cells #[.int .i64 s0a, .int .i64 s0b, .slice A0 s0c.length c0, .slice B0 s0d.length d0] 25)) := Lib.hid (blk_set_other (b' := gV13) (blk_set_other (b' := gV13) (blk_set_other (b' := gV13) (blk_set_other (b' := gV13) (V1.out) (by have := LT_V13.out; omega) 0 (.int .i64 s7a)) (by have := LT_V13.out; omega) 1 (.int .i64 s7b)) (by have := LT_V13.out; omega) 2 (.slice A7 s7c.length c7)) (by have := LT_V13.out; omega) 3 (.slice B7 s7d.length d7))
 replace V7 : Hid (((((w17.setCell ⟨gV13, 0, none⟩ (.int .i64 s7a)).setCell ⟨gV13, 1, none⟩ (.int .i64 s7b)).setCell ⟨gV13, 2, none⟩ (.slice A7 s7c.length c7)).setCell ⟨gV13, 3, none⟩ (.slice B7 s7d.length d7)).heap[gV7]? = some (.cells #[.int .i64 s0a, .int .i64 s0b, .slice A3 s0c.length c3, .slice B3 s0d.length d3] 25)) := Lib.hid (blk_set_other (b' := gV13) (blk_set_other (b' := gV13) (blk_set_other (b' := gV13) (blk_set_other (b' := gV13) (V7.out) (by have := LT_V13.out; omega) 0 (.int .i64 s7a)) (by have := LT_V13.out; omega) 1 (.int .i64 s7b)) (by have := LT_V13.out; omega) 2 (.slice A7 s7c.length c7)) (by have := LT_V13.out; omega) 3 (.slice B7 s7d.length d7))
 replace V13 : Hid (((((w17.setCell ⟨gV13, 0, none⟩ (.int .i64 s7a)).setCell ⟨gV13, 1, none⟩ (.int .i64 s7b)).setCell ⟨gV13, 2, none⟩ (.slice A7 s7c.length c7)).setCell ⟨gV13, 3, none⟩ (.slice B7 s7d.length d7)).heap[gV13]? = some (.cells #[.int .i64 s7a, .int .i64 s7b, .slice A7 s7c.length c7, .slice B7 s7d.length d7] 25)) := Lib.hid (blk_set (blk_set (blk_set (blk_set (V13.out) 0 (.int .i64 s7a)) 1 (.int .i64 s7b)) 2 (.slice A7 s7c.length c7)) 3 (.slice B7 s7d.length d7))
 replace NN := Lib.hid (Bset1 (Bset1 (Bset1 (Bset1 (NN.out) (show w.heap.size ≤ gV13 by have := LT_V13.out; omega) 0 (.int .i64 s7a)) (show w.heap.size ≤ gV13 by have := LT_V13.out; omega) 1 (.int .i64 s7b)) (show w.heap.size ≤ gV13 by have := LT_V13.out; omega) 2 (.slice A7 s7c.length c7)) (show w.heap.size ≤ gV13 by have := LT_V13.out; omega) 3 (.slice B7 s7d.length d7))
 generalize ((((w17.setCell ⟨gV13, 0, none⟩ (.int .i64 s7a)).setCell ⟨gV13, 1, none⟩ (.int .i64 s7b)).setCell ⟨gV13, 2, none⟩ (.slice A7 s7c.length c7)).setCell ⟨gV13, 3, none⟩ (.slice B7 s7d.length d7)) = W18 at *
 refine (C8.out A7 B7 c7 d7 _ _ k7a k7b k7c k7d T7.out.rd U7.out.ro).mono ?_
 rintro e w19 ⟨v, u, rfl, ht, hu, hb⟩
 try simp only at ht hu
 obtain ⟨A8, c8, rfl, k8a, k8b⟩ := ht.form
 obtain ⟨B8, d8, rfl, k8c, k8d⟩ := hu.form
 have T8 := Lib.hid ht
 have U8 := Lib.hid hu
 clear ht hu
 replace NN := Lib.hid (Bgo NN.out hb)
 replace T0 := Lib.hid (T0.out.next hb)
 replace U0 := Lib.hid (U0.out.next hb)
 replace T3 := Lib.hid (T3.out.next hb)
 replace U3 := Lib.hid (U3.out.next hb)
 replace T7 := Lib.hid (T7.out.next hb)
 replace U7 := Lib.hid (U7.out.next hb)
 replace V1 := Lib.hid (blk_next hb V1.out)
 replace V7 := Lib.hid (blk_next hb V7.out)
 replace V13 := Lib.hid (blk_next hb V13.out)
 clear hb
 have HB : Hid (Below w19.heap.size w19 (w19.alloc (.cells #[.int .i64 s8a, .int .i64 s8b, .slice A8 s8c.length c8, .slice B8 s8d.length d8] 25))) := Lib.hid (Bal (Below.refl _ _) _)
 have V16 := Lib.hid (blk_new w19 (.cells #[.int .i64 s8a, .int .i64 s8b, .slice A8 s8c.length c8, .slice B8 s8d.length d8] 25))
 have LT_V16 : Hid (g2 < w19.heap.size ∧ gV7 < w19.heap.size ∧ gV13 < w19.heap.size ∧ w.heap.size ≤ w19.heap.size) := Lib.hid ⟨blk_lt V1.out, blk_lt V7.out, blk_lt V13.out, NN.out.size⟩
 replace NN := Lib.hid (Bgo NN.out HB.out)
 replace T0 := Lib.hid (T0.out.next HB.out)
 replace U0 := Lib.hid (U0.out.next HB.out)
 replace T3 := Lib.hid (T3.out.next HB.out)
 replace U3 := Lib.hid (U3.out.next HB.out)
 replace T7 := Lib.hid (T7.out.next HB.out)
 replace U7 := Lib.hid (U7.out.next HB.out)
 replace T8 := Lib.hid (T8.out.next HB.out)
 replace U8 := Lib.hid (U8.out.next HB.out)
 replace V1 := Lib.hid (blk_next HB.out V1.out)
 replace V7 := Lib.hid (blk_next HB.out V7.out)
 replace V13 := Lib.hid (blk_next HB.out V13.out)
 clear HB
 have c_V16_0 := blk_cell V16.out 0 _ rfl
 have f_V16_0 := blk_frozen V16.out 0
 have c_V16_1 := blk_cell V16.out 1 _ rfl
 have f_V16_1 := blk_frozen V16.out 1
 have c_V16_2 := blk_cell V16.out 2 _ rfl
 have f_V16_2 := blk_frozen V16.out 2
 have c_V16_3 := blk_cell V16.out 3 _ rfl
 have f_V16_3 := blk_frozen V16.out 3
 have l_V16 := blk_lt V16.out
 go_wp2_with fail
 clear c_V16_0 f_V16_0 c_V16_1 f_V16_1 c_V16_2 f_V16_2 c_V16_3 f_V16_3 l_V16
 generalize w19.alloc (.cells #[.int .i64 s8a, .int .i64 s8b, .slice A8 s8c.length c8, .slice B8 s8d.length d8] 25) = W20 at *
 generalize w19.heap.size = g20 at *
 clear V13 T7 U7
 refine (C9.out A8 B8 c8 d8 _ _ k8a k8b k8c k8d T8.out.rd U8.out.ro).mono ?_
 rintro e w21 ⟨v, u, rfl, ht, hu, hb⟩
 try simp only at ht hu
 obtain ⟨A9, c9, rfl, k9a, k9b⟩ := ht.form
 obtain ⟨B9, d9, rfl, k9c, k9d⟩ := hu.form
 have T9 := Lib.hid ht
 have U9 := Lib.hid hu
 clear ht hu
 replace NN := Lib.hid (Bgo NN.out hb)
 replace T0 := Lib.hid (T0.out.next hb)
 replace U0 := Lib.hid (U0.out.next hb)
 replace T3 := Lib.hid (T3.out.next hb)
 replace U3 := Lib.hid (U3.out.next hb)
 replace T8 := Lib.hid (T8.out.next hb)
 replace U8 := Lib.hid (U8.out.next hb)
 replace V1 := Lib.hid (blk_next hb V1.out)
 replace V7 := Lib.hid (blk_next hb V7.out)
 replace V16 := Lib.hid (blk_next hb V16.out)
 clear hb
 have HB : Hid (Below w21.heap.size w21 (w21.alloc (.cells #[.int .i64 s9a, .int .i64 s9b, .slice A9 s9c.length c9, .slice B9 s9d.length d9] 25))) := Lib.hid (Bal (Below.refl _ _) _)
 have V18 := Lib.hid (blk_new w21 (.cells #[.int .i64 s9a, .int .i64 s9b, .slice A9 s9c.length c9, .slice B9 s9d.length d9] 25))
 have LT_V18 : Hid (g2 < w21.heap.size ∧ gV7 < w21.heap.size ∧ g20 < w21.heap.size ∧ w.heap.size ≤ w21.heap.size) := Lib.hid ⟨blk_lt V1.out, blk_lt V7.out, blk_lt V16.out, NN.out.size⟩
 replace NN := Lib.hid (Bgo NN.out HB.out)
 replace T0 := Lib.hid (T0.out.next HB.out)
 replace U0 := Lib.hid (U0.out.next HB.out)
 replace T3 := Lib.hid (T3.out.next HB.out)
 replace U3 := Lib.hid (U3.out.next HB.out)
 replace T8 := Lib.hid (T8.out.next HB.out)
 replace U8 := Lib.hid (U8.out.next HB.out)
 replace T9 := Lib.hid (T9.out.next HB.out)
 replace U9 := Lib.hid (U9.out.next HB.out)
 replace V1 := Lib.hid (blk_next HB.out V1.out)
 replace V7 := Lib.hid (blk_next HB.out V7.out)
 replace V16 := Lib.hid (blk_next HB.out V16.out)
 clear HB
 go_upto_region 11 with fail
 generalize (w21.alloc (.cells #[.int .i64 s9a, .int .i64 s9b, .slice A9 s9c.length c9, .slice B9 s9d.length d9] 25)) = WV18 at *
 generalize w21.heap.size = gV18 at *
 clear V18 T9 U9
 have RBL : Hid (RBA 0 (WV18.alloc (.cells #[.int .u8 8] 5)) (some ⟨WV18.heap.size, 0, none⟩) [8]) := Lib.hid (rba_one WV18 8 (by decide))
 have c_V16_0 := blk_cell V16.out 0 _ rfl
 have f_V16_0 := blk_frozen V16.out 0
 have c_V16_1 := blk_cell V16.out 1 _ rfl
 have f_V16_1 := blk_frozen V16.out 1
 have c_V16_2 := blk_cell V16.out 2 _ rfl
 have f_V16_2 := blk_frozen V16.out 2
 have c_V16_3 := blk_cell V16.out 3 _ rfl
 have f_V16_3 := blk_frozen V16.out 3
 have l_V16 := blk_lt V16.out
 go_wp2_with fail
 clear c_V16_0 f_V16_0 c_V16_1 f_V16_1 c_V16_2 f_V16_2 c_V16_3 f_V16_3 l_V16
 have HB : Hid (Below WV18.heap.size WV18 (WV18.alloc (.cells #[.int .u8 8] 5))) := Lib.hid (Bal (Below.refl _ _) _)
 have IB := Lib.hid (blk_new WV18 (.cells #[.int .u8 8] 5))
 have LT_IB : Hid (g2 < WV18.heap.size ∧ gV7 < WV18.heap.size ∧ g20 < WV18.heap.size ∧ w.heap.size ≤ WV18.heap.size) := Lib.hid ⟨blk_lt V1.out, blk_lt V7.out, blk_lt V16.out, NN.out.size⟩
 replace NN := Lib.hid (Bgo NN.out HB.out)
 replace T0 := Lib.hid (T0.out.next HB.out)
 replace U0 := Lib.hid (U0.out.next HB.out)
 replace T3 := Lib.hid (T3.out.next HB.out)
 replace U3 := Lib.hid (U3.out.next HB.out)
 replace T8 := Lib.hid (T8.out.next HB.out)
 replace U8 := Lib.hid (U8.out.next HB.out)
 replace V1 := Lib.hid (blk_next HB.out V1.out)
 replace V7 := Lib.hid (blk_next HB.out V7.out)
 replace V16 := Lib.hid (blk_next HB.out V16.out)
 clear HB
 clear IB LT_IB
 refine (C10.out A8 B8 c8 d8 _ _ k8a k8b k8c k8d T8.out.rd U8.out.ro (some ⟨WV18.heap.size, 0, none⟩) 1 _ (by decide) (by decide) RBL.out).mono ?_
 rintro e w24 ⟨v, u, rfl, ht, hu, hb⟩
 try simp only at ht hu
 obtain ⟨A10, c10, rfl, k10a, k10b⟩ := ht.form
 obtain ⟨B10, d10, rfl, k10c, k10d⟩ := hu.form
 have T10 := Lib.hid ht
 have U10 := Lib.hid hu
 clear ht hu
 clear RBL
 replace NN := Lib.hid (Bgo NN.out hb)
 replace T0 := Lib.hid (T0.out.next hb)
 replace U0 := Lib.hid (U0.out.next hb)
 replace T3 := Lib.hid (T3.out.next hb)
 replace U3 := Lib.hid (U3.out.next hb)
 replace T8 := Lib.hid (T8.out.next hb)
 replace U8 := Lib.hid (U8.out.next hb)
 replace V1 := Lib.hid (blk_next hb V1.out)
 replace V7 := Lib.hid (blk_next hb V7.out)
 replace V16 := Lib.hid (blk_next hb V16.out)
 clear hb
 have c_V16_0 := blk_cell V16.out 0 _ rfl
 have f_V16_0 := blk_frozen V16.out 0
 have c_V16_1 := blk_cell V16.out 1 _ rfl
 have f_V16_1 := blk_frozen V16.out 1
 have c_V16_2 := blk_cell V16.out 2 _ rfl
 have f_V16_2 := blk_frozen V16.out 2
 have c_V16_3 := blk_cell V16.out 3 _ rfl
 have f_V16_3 := blk_frozen V16.out 3
 have l_V16 := blk_lt V16.out
 go_wp2_with fail
 clear c_V16_0 f_V16_0 c_V16_1 f_V16_1 c_V16_2 f_V16_2 c_V16_3 f_V16_3 l_V16
 clear T8 U8
 replace T0 := Lib.hid (OT.same_ (o := 3) (OT.same_ (o := 2) (OT.same_ (o := 1) (OT.same_ (o := 0) (T0.out) (V16.out) ne_sto_u8 ne_sto_sl ne_sto_dk (.int .i64 s10a)) (blk_set (V16.out) 0 (.int .i64 s10a)) ne_sto_u8 ne_sto_sl ne_sto_dk (.int .i64 s10b)) (blk_set (blk_set (V16.out) 0 (.int .i64 s10a)) 1 (.int .i64 s10b)) ne_sto_u8 ne_sto_sl ne_sto_dk (.slice A10 s10c.length c10)) (blk_set (blk_set (blk_set (V16.out) 0 (.int .i64 s10a)) 1 (.int .i64 s10b)) 2 (.slice A10 s10c.length c10)) ne_sto_u8 ne_sto_sl ne_sto_dk (.slice B10 s10d.length d10))
 replace U0 := Lib.hid (OO.set_ (o := 3) (OO.set_ (o := 2) (OO.set_ (o := 1) (OO.set_ (o := 0) (U0.out) (V16.out) ne_sto_ob (.int .i64 s10a)) (blk_set (V16.out) 0 (.int .i64 s10a)) ne_sto_ob (.int .i64 s10b)) (blk_set (blk_set (V16.out) 0 (.int .i64 s10a)) 1 (.int .i64 s10b)) ne_sto_ob (.slice A10 s10c.length c10)) (blk_set (blk_set (blk_set (V16.out) 0 (.int .i64 s10a)) 1 (.int .i64 s10b)) 2 (.slice A10 s10c.length c10)) ne_sto_ob (.slice B10 s10d.length d10))
 replace T3 := Lib.hid (OT.same_ (o := 3) (OT.same_ (o := 2) (OT.same_ (o := 1) (OT.same_ (o := 0) (T3.out) (V16.out) ne_sto_u8 ne_sto_sl ne_sto_dk (.int .i64 s10a)) (blk_set (V16.out) 0 (.int .i64 s10a)) ne_sto_u8 ne_sto_sl ne_sto_dk (.int .i64 s10b)) (blk_set (blk_set (V16.out) 0 (.int .i64 s10a)) 1 (.int .i64 s10b)) ne_sto_u8 ne_sto_sl ne_sto_dk (.slice A10 s10c.length c10)) (blk_set (blk_set (blk_set (V16.out) 0 (.int .i64 s10a)) 1 (.int .i64 s10b)) 2 (.slice A10 s10c.length c10)) ne_sto_u8 ne_sto_sl ne_sto_dk (.slice B10 s10d.length d10))
 replace U3 := Lib.hid (OO.set_ (o := 3) (OO.set_ (o := 2) (OO.set_ (o := 1) (OO.set_ (o := 0) (U3.out) (V16.out) ne_sto_ob (.int .i64 s10a)) (blk_set (V16.out) 0 (.int .i64 s10a)) ne_sto_ob (.int .i64 s10b)) (blk_set (blk_set (V16.out) 0 (.int .i64 s10a)) 1 (.int .i64 s10b)) ne_sto_ob (.slice A10 s10c.length c10)) (blk_set (blk_set (blk_set (V16.out) 0 (.int .i64 s10a)) 1 (.int .i64 s10b)) 2 (.slice A10 s10c.length c10)) ne_sto_ob (.slice B10 s10d.length d10))
 replace T10 := Lib.hid (OT.same_ (o := 3) (OT.same_ (o := 2) (OT.same_ (o := 1) (OT.same_ (o := 0) (T10.out) (V16.out) ne_sto_u8 ne_sto_sl ne_sto_dk (.int .i64 s10a)) (blk_set (V16.out) 0 (.int .i64 s10a)) ne_sto_u8 ne_sto_sl ne_sto_dk (.int .i64 s10b)) (blk_set (blk_set (V16.out) 0 (.int .i64 s10a)) 1 (.int .i64 s10b)) ne_sto_u8 ne_sto_sl ne_sto_dk (.slice A10 s10c.length c10)) (blk_set (blk_set (blk_set (V16.out) 0 (.int .i64 s10a)) 1 (.int .i64 s10b)) 2 (.slice A10 s10c.length c10)) ne_sto_u8 ne_sto_sl ne_sto_dk (.slice B10 s10d.length d10))
 replace U10 := Lib.hid (OO.set_ (o := 3) (OO.set_ (o := 2) (OO.set_ (o := 1) (OO.set_ (o := 0) (U10.out) (V16.out) ne_sto_ob (.int .i64 s10a)) (blk_set (V16.out) 0 (.int .i64 s10a)) ne_sto_ob (.int .i64 s10b)) (blk_set (blk_set (V16.out) 0 (.int .i64 s10a)) 1 (.int .i64 s10b)) ne_sto_ob (.slice A10 s10c.length c10)) (blk_set (blk_set (blk_set (V16.out) 0 (.int .i64 s10a)) 1 (.int .i64 s10b)) 2 (.slice A10 s10c.length c10)) ne_sto_ob (.slice B10 s10d.length d10))
 replace V1 : Hid (((((w24.setCell ⟨g20, 0, none⟩ (.int .i64 s10a)).setCell ⟨g20, 1, none⟩ (.int .i64 s10b)).setCell ⟨g20, 2, none⟩ (.slice A10 s10c.length c10)).setCell ⟨g20, 3, none⟩ (.slice B10 s10d.length d10)).heap[g2]? = some (.cells #[.int .i64 s0a, .int .i64 s0b, .slice A0 s0c.length c0, .slice B0 s0d.length d0] 25)) := Lib.hid (blk_set_other (b' := g20) (blk_set_other (b' := g20) (blk_set_other (b' := g20) (blk_set_other (b' := g20) (V1.out) (by have := LT_V16.out; omega) 0 (.int .i64 s10a)) (by have := LT_V16.out; omega) 1 (.int .i64 s10b)) (by have := LT_V16.out; omega) 2 (.slice A10 s10c.length c10)) (by have := LT_V16.out; omega) 3 (.slice B10 s10d.length d10))
 replace V7 : Hid (((((w24.setCell ⟨g20, 0, none⟩ (.int .i64 s10a)).setCell ⟨g20, 1, none⟩ (.int .i64 s10b)).setCell ⟨g20, 2, none⟩ (.slice A10 s10c.length c10)).setCell ⟨g20, 3, none⟩ (.slice B10 s10d.length d10)).heap[gV7]? = some (.cells #[.int .i64 s0a, .int .i64 s0b, .slice A3 s0c.length c3, .slice B3 s0d.length d3] 25)) := Lib.hid (blk_set_other (b' := g20) (blk_set_other (b' := g20) (blk_set_other (b' := g20) (blk_set_other (b' := g20) (V7.out) (by have := LT_V16.out; omega) 0 (.int .i64 s10a)) (by have := LT_V16.out; omega) 1 (.int .i64 s10b)) (by have := LT_V16.out; omega) 2 (.slice A10 s10c.length c10)) (by have := LT_V16.out; omega) 3 (.slice B10 s10d.length d10))
 replace V16 : Hid (((((w24.setCell ⟨g20, 0, none⟩ (.int .i64 s10a)).setCell ⟨g20, 1, none⟩ (.int .i64 s10b)).setCell ⟨g20, 2, none⟩ (.slice A10 s10c.length c10)).setCell ⟨g20, 3, none⟩ (.slice B10 s10d.length d10)).heap[g20]? = some (.cells #[.int .i64 s10a, .int .i64 s10b, .slice A10 s10c.length c10, .slice B10 s10d.length d10] 25)) := Lib.hid (blk_set (blk_set (blk_set (blk_set (V16.out) 0 (.int .i64 s10a)) 1 (.int .i64 s10b)) 2 (.slice A10 s10c.length c10)) 3 (.slice B10 s10d.length d10))
 replace NN := Lib.hid (Bset1 (Bset1 (Bset1 (Bset1 (NN.out) (show w.heap.size ≤ g20 by have := LT_V16.out; omega) 0 (.int .i64 s10a)) (show w.heap.size ≤ g20 by have := LT_V16.out; omega) 1 (.int .i64 s10b)) (show w.heap.size ≤ g20 by have := LT_V16.out; omega) 2 (.slice A10 s10c.length c10)) (show w.heap.size ≤ g20 by have := LT_V16.out; omega) 3 (.slice B10 s10d.length d10))
 generalize ((((w24.setCell ⟨g20, 0, none⟩ (.int .i64 s10a)).setCell ⟨g20, 1, none⟩ (.int .i64 s10b)).setCell ⟨g20, 2, none⟩ (.slice A10 s10c.length c10)).setCell ⟨g20, 3, none⟩ (.slice B10 s10d.length d10)) = W25 at *
 refine (C11.out A10 B10 c10 d10 _ _ k10a k10b k10c k10d T10.out.rd U10.out.ro).mono ?_
 rintro e w26 ⟨v, u, rfl, ht, hu, hb⟩
 try simp only at ht hu
 obtain ⟨A11, c11, rfl, k11a, k11b⟩ := ht.form
 obtain ⟨B11, d11, rfl, k11c, k11d⟩ := hu.form
 have T11 := Lib.hid ht
 have U11 := Lib.hid hu
 clear ht hu
 replace NN := Lib.hid (Bgo NN.out hb)
 replace T0 := Lib.hid (T0.out.next hb)
 replace U0 := Lib.hid (U0.out.next hb)
 replace T3 := Lib.hid (T3.out.next hb)
 replace U3 := Lib.hid (U3.out.next hb)
 replace T10 := Lib.hid (T10.out.next hb)
 replace U10 := Lib.hid (U10.out.next hb)
 replace V1 := Lib.hid (blk_next hb V1.out)
 replace V7 := Lib.hid (blk_next hb V7.out)
 replace V16 := Lib.hid (blk_next hb V16.out)
 clear hb
 have HB : Hid (Below w26.heap.size w26 (w26.alloc (.cells #[.int .i64 s11a, .int .i64 s11b, .slice A11 s11c.length c11, .slice B11 s11d.length d11] 25))) := Lib.hid (Bal (Below.refl _ _) _)
 have V21 := Lib.hid (blk_new w26 (.cells #[.int .i64 s11a, .int .i64 s11b, .slice A11 s11c.length c11, .slice B11 s11d.length d11] 25))
 have LT_V21 : Hid (g2 < w26.heap.size ∧ gV7 < w26.heap.size ∧ g20 < w26.heap.size ∧ w.heap.size ≤ w26.heap.size) := Lib.hid ⟨blk_lt V1.out, blk_lt V7.out, blk_lt V16.out, NN.out.size⟩
 replace NN := Lib.hid (Bgo NN.out HB.out)
 replace T0 := Lib.hid (T0.out.next HB.out)
 replace U0 := Lib.hid (U0.out.next HB.out)
 replace T3 := Lib.hid (T3.out.next HB.out)
 replace U3 := Lib.hid (U3.out.next HB.out)
 replace T10 := Lib.hid (T10.out.next HB.out)
 replace U10 := Lib.hid (U10.out.next HB.out)
 replace T11 := Lib.hid (T11.out.next HB.out)
 replace U11 := Lib.hid (U11.out.next HB.out)
 replace V1 := Lib.hid (blk_next HB.out V1.out)
 replace V7 := Lib.hid (blk_next HB.out V7.out)
 replace V16 := Lib.hid (blk_next HB.out V16.out)
 clear HB
 have c_V21_0 := blk_cell V21.out 0 _ rfl
 have f_V21_0 := blk_frozen V21.out 0
 have c_V21_1 := blk_cell V21.out 1 _ rfl
 have f_V21_1 := blk_frozen V21.out 1
 have c_V21_2 := blk_cell V21.out 2 _ rfl
 have f_V21_2 := blk_frozen V21.out 2
 have c_V21_3 := blk_cell V21.out 3 _ rfl
 have f_V21_3 := blk_frozen V21.out 3
 have l_V21 := blk_lt V21.out
 go_wp2_with fail
 clear c_V21_0 f_V21_0 c_V21_1 f_V21_1 c_V21_2 f_V21_2 c_V21_3 f_V21_3 l_V21
 generalize w26.alloc (.cells #[.int .i64 s11a, .int .i64 s11b, .slice A11 s11c.length c11, .slice B11 s11d.length d11] 25) = W27 at *
 generalize w26.heap.size = g27 at *
 clear V16 T10 U10
 refine (C12.out A11 B11 c11 d11 _ _ k11a k11b k11c k11d T11.out.rd U11.out.ro).mono ?_
 rintro e w28 ⟨v, rfl, hr, hb⟩
 simp only at hr
 obtain ⟨A12, c12, rfl, k12a, k12b, hr⟩ := hr
 have R12 := Lib.hid hr
 clear hr
 replace NN := Lib.hid (Bgo NN.out hb)
 replace T0 := Lib.hid (T0.out.next hb)
 replace U0 := Lib.hid (U0.out.next hb)
 replace T3 := Lib.hid (T3.out.next hb)
 replace U3 := Lib.hid (U3.out.next hb)
 replace T11 := Lib.hid (T11.out.next hb)
 replace U11 := Lib.hid (U11.out.next hb)
 replace V1 := Lib.hid (blk_next hb V1.out)
 replace V7 := Lib.hid (blk_next hb V7.out)
 replace V21 := Lib.hid (blk_next hb V21.out)
 clear hb
 have c_V21_0 := blk_cell V21.out 0 _ rfl
 have f_V21_0 := blk_frozen V21.out 0
 have c_V21_1 := blk_cell V21.out 1 _ rfl
 have f_V21_1 := blk_frozen V21.out 1
 have c_V21_2 := blk_cell V21.out 2 _ rfl
 have f_V21_2 := blk_frozen V21.out 2
 have c_V21_3 := blk_cell V21.out 3 _ rfl
 have f_V21_3 := blk_frozen V21.out 3
 have l_V21 := blk_lt V21.out
 go_wp2_with fail
 refine (C13.out A11 B11 c11 d11 _ _ k11a k11b k11c k11d T11.out.rd U11.out.ro).mono ?_
 rintro e w29 ⟨v, rfl, hr, hb⟩
 simp only at hr
 obtain ⟨A13, c13, rfl, k13a, k13b, hr⟩ := hr
 have R13 := Lib.hid hr
 clear hr
 clear c_V21_0 f_V21_0 c_V21_1 f_V21_1 c_V21_2 f_V21_2 c_V21_3 f_V21_3 l_V21
 replace NN := Lib.hid (Bgo NN.out hb)
 replace T0 := Lib.hid (T0.out.next hb)
 replace U0 := Lib.hid (U0.out.next hb)
 replace T3 := Lib.hid (T3.out.next hb)
 replace U3 := Lib.hid (U3.out.next hb)
 replace T11 := Lib.hid (T11.out.next hb)
 replace U11 := Lib.hid (U11.out.next hb)
 replace R12 := Lib.hid (RBA.next hb R12.out)
 replace V1 := Lib.hid (blk_next hb V1.out)
 replace V7 := Lib.hid (blk_next hb V7.out)
 replace V21 := Lib.hid (blk_next hb V21.out)
 clear hb
 go_wp2_with fail
 clear V21 T11 U11
 have mk1 : ∀ W : World, (Instr.makeSlice 22 (.int .i64 1) (.int .i64 1)).run Try.prog W = .ok (.slice (some ⟨W.heap.size, 0, none⟩) 1 1) (W.alloc (.cells dk1 46)) := fun W => make_dk1 W
 have mk17 : ∀ W : World, (Instr.makeSlice 23 (.int .i64 17) (.int .i64 17)).run Try.prog W = .ok (.slice (some ⟨W.heap.size, 0, none⟩) 17 17) (W.alloc (.cells ob17 50)) := fun W => make_ob17 W
 have mk13 : ∀ W : World, (Instr.makeSlice 22 (.int .i64 13) (.int .i64 13)).run Try.prog W = .ok (.slice (some ⟨W.heap.size, 0, none⟩) 13 13) (W.alloc (.cells dk13 46)) := fun W => make_dk13 W
 refine region_I (S := SZ [] []) (by kernel_rfl) ?_
 have HDRW := Lib.hid (Below.drew (Below.refl w29.heap.size w29))
 replace NN := Lib.hid (Bgo NN.out HDRW.out)
 replace T0 := Lib.hid (T0.out.next HDRW.out)
 replace U0 := Lib.hid (U0.out.next HDRW.out)
 replace T3 := Lib.hid (T3.out.next HDRW.out)
 replace U3 := Lib.hid (U3.out.next HDRW.out)
 replace R12 := Lib.hid (RBA.next HDRW.out R12.out)
 replace R13 := Lib.hid (RBA.next HDRW.out R13.out)
 replace V1 := Lib.hid (blk_next HDRW.out V1.out)
 replace V7 := Lib.hid (blk_next HDRW.out V7.out)
 clear HDRW
 generalize w29.drew = WD at *
 refine suff (F := fun WH gD gE gF => Hid (Below WD.heap.size WD WH) ∧ Hid (OT 0 WH (.slice (some ⟨gD, 0, none⟩) 1 1) (List.replicate 1 ⟨false, []⟩)) ∧ Hid (OO 0 WH (.slice (some ⟨gE, 0, none⟩) 17 17) os17) ∧ Hid (WH.heap[gF]? = some (.cells #[.int .i64 1, .int .i64 0, .slice (some ⟨gD, 0, none⟩) 1 1, .slice (some ⟨gE, 0, none⟩) 17 17] 25))) (G := ?G) ?rest (fun REST => ?main)
 case main =>
  have NN := Lib.hid (Below.refl WD.heap.size WD)
  refine three_I 0 1 3 (by kernel_rfl) rfl rfl rfl (fun K' hK' => ?_) (fun K' hK' => ?_) (fun K' hK' => ?_)
  ·go_simp
   refine hK'.out _ _ (fun _ _ _ => ⟨fun p hp e => absurd hp (by simp), fun p hp e => absurd hp (by simp)⟩) ?_
   clear hK' K'
   try simp only [Act.put, zA, zB, zC]
   have HB := Lib.hid (Bal (Below.refl WD.heap.size WD) (.cells dk1 46))
   replace NN := Lib.hid (Bgo NN.out HB.out)
   have FD : Hid (OT 0 (WD.alloc (.cells dk1 46)) (.slice (some ⟨WD.heap.size, 0, none⟩) 1 1) (List.replicate 1 ⟨false, []⟩)) := Lib.hid (nil_dk1 WD)
   clear HB
   generalize WD.alloc (.cells dk1 46) = X30 at *
   obtain ⟨gD, hgx⟩ : ∃ n, n = WD.heap.size := ⟨_, rfl⟩
   rw [← hgx] at FD ⊢
   clear hgx
   refine two_I 1 3 (by kernel_rfl) rfl rfl (fun K' hK' => ?_) (fun K' hK' => ?_)
   ·go_simp
    refine hK'.out _ _ (fun _ _ _ => ⟨fun p hp e => absurd hp (by simp), fun p hp e => absurd hp (by simp)⟩) ?_
    clear hK' K'
    try simp only [Act.put, zA, zB, zC]
    have HB := Lib.hid (Bal (Below.refl X30.heap.size X30) (.cells ob17 50))
    replace NN := Lib.hid (Bgo NN.out HB.out)
    replace FD := Lib.hid (FD.out.next HB.out)
    have FO : Hid (OO 0 (X30.alloc (.cells ob17 50)) (.slice (some ⟨X30.heap.size, 0, none⟩) 17 17) os17) := Lib.hid (nil_ob17 X30)
    clear HB
    generalize X30.alloc (.cells ob17 50) = X31 at *
    generalize X30.heap.size = gE at *
    refine tJ 2 (.agg #[.int .i64 1, .int .i64 0, .slice (some ⟨gD, 0, none⟩) 1 1, .slice (some ⟨gE, 0, none⟩) 17 17]) (some 101) rfl (SZ.drop (by simp) (by simp)) (Or.inl ⟨by rfl, ?_⟩) ?_
    ·intro X hX
     clear hX
     go_simp
    try simp only [Act.put, zA, zB, zC]
    refine only_I 3 (by kernel_rfl) rfl (fun K' hK' => ?_)
    go_simp
    refine hK'.out _ _ (fun _ _ _ => ⟨fun p hp e => absurd hp (by simp), fun p hp e => absurd hp (by simp)⟩) ?_
    clear hK' K'
    try simp only [Act.put, zA, zB, zC]
    have HB := Lib.hid (Bal (Below.refl X31.heap.size X31) (.cells #[.int .i64 0, .int .i64 0, .slice none 0 0, .slice none 0 0] 25))
    have LG27 : Hid (WD.heap.size ≤ X31.heap.size) := Lib.hid NN.out.size
    replace NN := Lib.hid (Bgo NN.out HB.out)
    replace FD := Lib.hid (FD.out.next HB.out)
    replace FO := Lib.hid (FO.out.next HB.out)
    have V27 := Lib.hid (blk_new X31 (.cells #[.int .i64 0, .int .i64 0, .slice none 0 0, .slice none 0 0] 25))
    clear HB
    generalize X31.alloc (.cells #[.int .i64 0, .int .i64 0, .slice none 0 0, .slice none 0 0] 25) = X32 at *
    generalize X31.heap.size = gF at *
    refine only_I 4 (by kernel_rfl) rfl (fun K' hK' => ?_)
    have c_V27_0 := blk_cell V27.out 0 _ rfl
    have f_V27_0 := blk_frozen V27.out 0
    have c_V27_1 := blk_cell V27.out 1 _ rfl
    have f_V27_1 := blk_frozen V27.out 1
    have c_V27_2 := blk_cell V27.out 2 _ rfl
    have f_V27_2 := blk_frozen V27.out 2
    have c_V27_3 := blk_cell V27.out 3 _ rfl
    have f_V27_3 := blk_frozen V27.out 3
    have l_V27 := blk_lt V27.out
    go_simp
    refine hK'.out _ _ (fun _ _ _ => ⟨fun p hp e => absurd hp (by simp), fun p hp e => absurd hp (by simp)⟩) ?_
    clear hK' K'
    try simp only [Act.put, zA, zB, zC]
    clear c_V27_0 f_V27_0 c_V27_1 f_V27_1 c_V27_2 f_V27_2 c_V27_3 f_V27_3 l_V27
    replace FD := Lib.hid (OT.same_ (o := 3) (OT.same_ (o := 2) (OT.same_ (o := 1) (OT.same_ (o := 0) (FD.out) (V27.out) ne_sto_u8 ne_sto_sl ne_sto_dk (.int .i64 1)) (blk_set (V27.out) 0 (.int .i64 1)) ne_sto_u8 ne_sto_sl ne_sto_dk (.int .i64 0)) (blk_set (blk_set (V27.out) 0 (.int .i64 1)) 1 (.int .i64 0)) ne_sto_u8 ne_sto_sl ne_sto_dk (.slice (some ⟨gD, 0, none⟩) 1 1)) (blk_set (blk_set (blk_set (V27.out) 0 (.int .i64 1)) 1 (.int .i64 0)) 2 (.slice (some ⟨gD, 0, none⟩) 1 1)) ne_sto_u8 ne_sto_sl ne_sto_dk (.slice (some ⟨gE, 0, none⟩) 17 17))
    replace FO := Lib.hid (OO.set_ (o := 3) (OO.set_ (o := 2) (OO.set_ (o := 1) (OO.set_ (o := 0) (FO.out) (V27.out) ne_sto_ob (.int .i64 1)) (blk_set (V27.out) 0 (.int .i64 1)) ne_sto_ob (.int .i64 0)) (blk_set (blk_set (V27.out) 0 (.int .i64 1)) 1 (.int .i64 0)) ne_sto_ob (.slice (some ⟨gD, 0, none⟩) 1 1)) (blk_set (blk_set (blk_set (V27.out) 0 (.int .i64 1)) 1 (.int .i64 0)) 2 (.slice (some ⟨gD, 0, none⟩) 1 1)) ne_sto_ob (.slice (some ⟨gE, 0, none⟩) 17 17))
    replace V27 : Hid (((((X32.setCell ⟨gF, 0, none⟩ (.int .i64 1)).setCell ⟨gF, 1, none⟩ (.int .i64 0)).setCell ⟨gF, 2, none⟩ (.slice (some ⟨gD, 0, none⟩) 1 1)).setCell ⟨gF, 3, none⟩ (.slice (some ⟨gE, 0, none⟩) 17 17)).heap[gF]? = some (.cells #[.int .i64 1, .int .i64 0, .slice (some ⟨gD, 0, none⟩) 1 1, .slice (some ⟨gE, 0, none⟩) 17 17] 25)) := Lib.hid (blk_set (blk_set (blk_set (blk_set (V27.out) 0 (.int .i64 1)) 1 (.int .i64 0)) 2 (.slice (some ⟨gD, 0, none⟩) 1 1)) 3 (.slice (some ⟨gE, 0, none⟩) 17 17))
    replace NN := Lib.hid (Bset1 (Bset1 (Bset1 (Bset1 (NN.out) (show WD.heap.size ≤ gF by have := LG27.out; omega) 0 (.int .i64 1)) (show WD.heap.size ≤ gF by have := LG27.out; omega) 1 (.int .i64 0)) (show WD.heap.size ≤ gF by have := LG27.out; omega) 2 (.slice (some ⟨gD, 0, none⟩) 1 1)) (show WD.heap.size ≤ gF by have := LG27.out; omega) 3 (.slice (some ⟨gE, 0, none⟩) 17 17))
    generalize ((((X32.setCell ⟨gF, 0, none⟩ (.int .i64 1)).setCell ⟨gF, 1, none⟩ (.int .i64 0)).setCell ⟨gF, 2, none⟩ (.slice (some ⟨gD, 0, none⟩) 1 1)).setCell ⟨gF, 3, none⟩ (.slice (some ⟨gE, 0, none⟩) 17 17)) = W33 at *
    exact REST W33 gD gE gF ⟨NN, FD, FO, V27⟩
   ·go_simp
    refine hK'.out _ _ (fun _ _ _ => ⟨fun p hp e => absurd hp (by simp), fun p hp e => absurd hp (by simp)⟩) ?_
    clear hK' K'
    try simp only [Act.put, zA, zB, zC]
    have HB := Lib.hid (Bal (Below.refl X30.heap.size X30) (.cells #[.int .i64 0, .int .i64 0, .slice none 0 0, .slice none 0 0] 25))
    have LG27 : Hid (WD.heap.size ≤ X30.heap.size) := Lib.hid NN.out.size
    replace NN := Lib.hid (Bgo NN.out HB.out)
    replace FD := Lib.hid (FD.out.next HB.out)
    have V27 := Lib.hid (blk_new X30 (.cells #[.int .i64 0, .int .i64 0, .slice none 0 0, .slice none 0 0] 25))
    clear HB
    generalize X30.alloc (.cells #[.int .i64 0, .int .i64 0, .slice none 0 0, .slice none 0 0] 25) = X34 at *
    generalize X30.heap.size = gF at *
    refine only_I 1 (by kernel_rfl) rfl (fun K' hK' => ?_)
    go_simp
    refine hK'.out _ _ (fun _ _ _ => ⟨fun p hp e => absurd hp (by simp), fun p hp e => absurd hp (by simp)⟩) ?_
    clear hK' K'
    try simp only [Act.put, zA, zB, zC]
    have HB := Lib.hid (Bal (Below.refl X34.heap.size X34) (.cells ob17 50))
    replace NN := Lib.hid (Bgo NN.out HB.out)
    replace FD := Lib.hid (FD.out.next HB.out)
    replace V27 := Lib.hid (blk_next HB.out V27.out)
    have FO : Hid (OO 0 (X34.alloc (.cells ob17 50)) (.slice (some ⟨X34.heap.size, 0, none⟩) 17 17) os17) := Lib.hid (nil_ob17 X34)
    clear HB
    generalize X34.alloc (.cells ob17 50) = X35 at *
    generalize X34.heap.size = gE at *
    refine tJ 2 (.agg #[.int .i64 1, .int .i64 0, .slice (some ⟨gD, 0, none⟩) 1 1, .slice (some ⟨gE, 0, none⟩) 17 17]) (some 101) rfl (SZ.drop (by simp) (by simp)) (Or.inl ⟨by rfl, ?_⟩) ?_
    ·intro X hX
     clear hX
     go_simp
    try simp only [Act.put, zA, zB, zC]
    refine only_I 4 (by kernel_rfl) rfl (fun K' hK' => ?_)
    have c_V27_0 := blk_cell V27.out 0 _ rfl
    have f_V27_0 := blk_frozen V27.out 0
    have c_V27_1 := blk_cell V27.out 1 _ rfl
    have f_V27_1 := blk_frozen V27.out 1
    have c_V27_2 := blk_cell V27.out 2 _ rfl
    have f_V27_2 := blk_frozen V27.out 2
    have c_V27_3 := blk_cell V27.out 3 _ rfl
    have f_V27_3 := blk_frozen V27.out 3
    have l_V27 := blk_lt V27.out
    go_simp
    refine hK'.out _ _ (fun _ _ _ => ⟨fun p hp e => absurd hp (by simp), fun p hp e => absurd hp (by simp)⟩) ?_
    clear hK' K'
    try simp only [Act.put, zA, zB, zC]
    clear c_V27_0 f_V27_0 c_V27_1 f_V27_1 c_V27_2 f_V27_2 c_V27_3 f_V27_3 l_V27
    replace FD := Lib.hid (OT.same_ (o := 3) (OT.same_ (o := 2) (OT.same_ (o := 1) (OT.same_ (o := 0) (FD.out) (V27.out) ne_sto_u8 ne_sto_sl ne_sto_dk (.int .i64 1)) (blk_set (V27.out) 0 (.int .i64 1)) ne_sto_u8 ne_sto_sl ne_sto_dk (.int .i64 0)) (blk_set (blk_set (V27.out) 0 (.int .i64 1)) 1 (.int .i64 0)) ne_sto_u8 ne_sto_sl ne_sto_dk (.slice (some ⟨gD, 0, none⟩) 1 1)) (blk_set (blk_set (blk_set (V27.out) 0 (.int .i64 1)) 1 (.int .i64 0)) 2 (.slice (some ⟨gD, 0, none⟩) 1 1)) ne_sto_u8 ne_sto_sl ne_sto_dk (.slice (some ⟨gE, 0, none⟩) 17 17))
    replace FO := Lib.hid (OO.set_ (o := 3) (OO.set_ (o := 2) (OO.set_ (o := 1) (OO.set_ (o := 0) (FO.out) (V27.out) ne_sto_ob (.int .i64 1)) (blk_set (V27.out) 0 (.int .i64 1)) ne_sto_ob (.int .i64 0)) (blk_set (blk_set (V27.out) 0 (.int .i64 1)) 1 (.int .i64 0)) ne_sto_ob (.slice (some ⟨gD, 0, none⟩) 1 1)) (blk_set (blk_set (blk_set (V27.out) 0 (.int .i64 1)) 1 (.int .i64 0)) 2 (.slice (some ⟨gD, 0, none⟩) 1 1)) ne_sto_ob (.slice (some ⟨gE, 0, none⟩) 17 17))
    replace V27 : Hid (((((X35.setCell ⟨gF, 0, none⟩ (.int .i64 1)).setCell ⟨gF, 1, none⟩ (.int .i64 0)).setCell ⟨gF, 2, none⟩ (.slice (some ⟨gD, 0, none⟩) 1 1)).setCell ⟨gF, 3, none⟩ (.slice (some ⟨gE, 0, none⟩) 17 17)).heap[gF]? = some (.cells #[.int .i64 1, .int .i64 0, .slice (some ⟨gD, 0, none⟩) 1 1, .slice (some ⟨gE, 0, none⟩) 17 17] 25)) := Lib.hid (blk_set (blk_set (blk_set (blk_set (V27.out) 0 (.int .i64 1)) 1 (.int .i64 0)) 2 (.slice (some ⟨gD, 0, none⟩) 1 1)) 3 (.slice (some ⟨gE, 0, none⟩) 17 17))
    replace NN := Lib.hid (Bset1 (Bset1 (Bset1 (Bset1 (NN.out) (show WD.heap.size ≤ gF by have := LG27.out; omega) 0 (.int .i64 1)) (show WD.heap.size ≤ gF by have := LG27.out; omega) 1 (.int .i64 0)) (show WD.heap.size ≤ gF by have := LG27.out; omega) 2 (.slice (some ⟨gD, 0, none⟩) 1 1)) (show WD.heap.size ≤ gF by have := LG27.out; omega) 3 (.slice (some ⟨gE, 0, none⟩) 17 17))
    generalize ((((X35.setCell ⟨gF, 0, none⟩ (.int .i64 1)).setCell ⟨gF, 1, none⟩ (.int .i64 0)).setCell ⟨gF, 2, none⟩ (.slice (some ⟨gD, 0, none⟩) 1 1)).setCell ⟨gF, 3, none⟩ (.slice (some ⟨gE, 0, none⟩) 17 17)) = W36 at *
    exact REST W36 gD gE gF ⟨NN, FD, FO, V27⟩
  ·go_simp
   refine hK'.out _ _ (fun _ _ _ => ⟨fun p hp e => absurd hp (by simp), fun p hp e => absurd hp (by simp)⟩) ?_
   clear hK' K'
   try simp only [Act.put, zA, zB, zC]
   have HB := Lib.hid (Bal (Below.refl WD.heap.size WD) (.cells ob17 50))
   replace NN := Lib.hid (Bgo NN.out HB.out)
   have FO : Hid (OO 0 (WD.alloc (.cells ob17 50)) (.slice (some ⟨WD.heap.size, 0, none⟩) 17 17) os17) := Lib.hid (nil_ob17 WD)
   clear HB
   generalize WD.alloc (.cells ob17 50) = X37 at *
   obtain ⟨gE, hgx⟩ : ∃ n, n = WD.heap.size := ⟨_, rfl⟩
   rw [← hgx] at FO ⊢
   clear hgx
   refine two_I 0 3 (by kernel_rfl) rfl rfl (fun K' hK' => ?_) (fun K' hK' => ?_)
   ·go_simp
    refine hK'.out _ _ (fun _ _ _ => ⟨fun p hp e => absurd hp (by simp), fun p hp e => absurd hp (by simp)⟩) ?_
    clear hK' K'
    try simp only [Act.put, zA, zB, zC]
    have HB := Lib.hid (Bal (Below.refl X37.heap.size X37) (.cells dk1 46))
    replace NN := Lib.hid (Bgo NN.out HB.out)
    replace FO := Lib.hid (FO.out.next HB.out)
    have FD : Hid (OT 0 (X37.alloc (.cells dk1 46)) (.slice (some ⟨X37.heap.size, 0, none⟩) 1 1) (List.replicate 1 ⟨false, []⟩)) := Lib.hid (nil_dk1 X37)
    clear HB
    generalize X37.alloc (.cells dk1 46) = X38 at *
    generalize X37.heap.size = gD at *
    refine tJ 2 (.agg #[.int .i64 1, .int .i64 0, .slice (some ⟨gD, 0, none⟩) 1 1, .slice (some ⟨gE, 0, none⟩) 17 17]) (some 101) rfl (SZ.drop (by simp) (by simp)) (Or.inl ⟨by rfl, ?_⟩) ?_
    ·intro X hX
     clear hX
     go_simp
    try simp only [Act.put, zA, zB, zC]
    refine only_I 3 (by kernel_rfl) rfl (fun K' hK' => ?_)
    go_simp
    refine hK'.out _ _ (fun _ _ _ => ⟨fun p hp e => absurd hp (by simp), fun p hp e => absurd hp (by simp)⟩) ?_
    clear hK' K'
    try simp only [Act.put, zA, zB, zC]
    have HB := Lib.hid (Bal (Below.refl X38.heap.size X38) (.cells #[.int .i64 0, .int .i64 0, .slice none 0 0, .slice none 0 0] 25))
    have LG27 : Hid (WD.heap.size ≤ X38.heap.size) := Lib.hid NN.out.size
    replace NN := Lib.hid (Bgo NN.out HB.out)
    replace FO := Lib.hid (FO.out.next HB.out)
    replace FD := Lib.hid (FD.out.next HB.out)
    have V27 := Lib.hid (blk_new X38 (.cells #[.int .i64 0, .int .i64 0, .slice none 0 0, .slice none 0 0] 25))
    clear HB
    generalize X38.alloc (.cells #[.int .i64 0, .int .i64 0, .slice none 0 0, .slice none 0 0] 25) = X39 at *
    generalize X38.heap.size = gF at *
    refine only_I 4 (by kernel_rfl) rfl (fun K' hK' => ?_)
    have c_V27_0 := blk_cell V27.out 0 _ rfl
    have f_V27_0 := blk_frozen V27.out 0
    have c_V27_1 := blk_cell V27.out 1 _ rfl
    have f_V27_1 := blk_frozen V27.out 1
    have c_V27_2 := blk_cell V27.out 2 _ rfl
    have f_V27_2 := blk_frozen V27.out 2
    have c_V27_3 := blk_cell V27.out 3 _ rfl
    have f_V27_3 := blk_frozen V27.out 3
    have l_V27 := blk_lt V27.out
    go_simp
    refine hK'.out _ _ (fun _ _ _ => ⟨fun p hp e => absurd hp (by simp), fun p hp e => absurd hp (by simp)⟩) ?_
    clear hK' K'
    try simp only [Act.put, zA, zB, zC]
    clear c_V27_0 f_V27_0 c_V27_1 f_V27_1 c_V27_2 f_V27_2 c_V27_3 f_V27_3 l_V27
    replace FO := Lib.hid (OO.set_ (o := 3) (OO.set_ (o := 2) (OO.set_ (o := 1) (OO.set_ (o := 0) (FO.out) (V27.out) ne_sto_ob (.int .i64 1)) (blk_set (V27.out) 0 (.int .i64 1)) ne_sto_ob (.int .i64 0)) (blk_set (blk_set (V27.out) 0 (.int .i64 1)) 1 (.int .i64 0)) ne_sto_ob (.slice (some ⟨gD, 0, none⟩) 1 1)) (blk_set (blk_set (blk_set (V27.out) 0 (.int .i64 1)) 1 (.int .i64 0)) 2 (.slice (some ⟨gD, 0, none⟩) 1 1)) ne_sto_ob (.slice (some ⟨gE, 0, none⟩) 17 17))
    replace FD := Lib.hid (OT.same_ (o := 3) (OT.same_ (o := 2) (OT.same_ (o := 1) (OT.same_ (o := 0) (FD.out) (V27.out) ne_sto_u8 ne_sto_sl ne_sto_dk (.int .i64 1)) (blk_set (V27.out) 0 (.int .i64 1)) ne_sto_u8 ne_sto_sl ne_sto_dk (.int .i64 0)) (blk_set (blk_set (V27.out) 0 (.int .i64 1)) 1 (.int .i64 0)) ne_sto_u8 ne_sto_sl ne_sto_dk (.slice (some ⟨gD, 0, none⟩) 1 1)) (blk_set (blk_set (blk_set (V27.out) 0 (.int .i64 1)) 1 (.int .i64 0)) 2 (.slice (some ⟨gD, 0, none⟩) 1 1)) ne_sto_u8 ne_sto_sl ne_sto_dk (.slice (some ⟨gE, 0, none⟩) 17 17))
    replace V27 : Hid (((((X39.setCell ⟨gF, 0, none⟩ (.int .i64 1)).setCell ⟨gF, 1, none⟩ (.int .i64 0)).setCell ⟨gF, 2, none⟩ (.slice (some ⟨gD, 0, none⟩) 1 1)).setCell ⟨gF, 3, none⟩ (.slice (some ⟨gE, 0, none⟩) 17 17)).heap[gF]? = some (.cells #[.int .i64 1, .int .i64 0, .slice (some ⟨gD, 0, none⟩) 1 1, .slice (some ⟨gE, 0, none⟩) 17 17] 25)) := Lib.hid (blk_set (blk_set (blk_set (blk_set (V27.out) 0 (.int .i64 1)) 1 (.int .i64 0)) 2 (.slice (some ⟨gD, 0, none⟩) 1 1)) 3 (.slice (some ⟨gE, 0, none⟩) 17 17))
    replace NN := Lib.hid (Bset1 (Bset1 (Bset1 (Bset1 (NN.out) (show WD.heap.size ≤ gF by have := LG27.out; omega) 0 (.int .i64 1)) (show WD.heap.size ≤ gF by have := LG27.out; omega) 1 (.int .i64 0)) (show WD.heap.size ≤ gF by have := LG27.out; omega) 2 (.slice (some ⟨gD, 0, none⟩) 1 1)) (show WD.heap.size ≤ gF by have := LG27.out; omega) 3 (.slice (some ⟨gE, 0, none⟩) 17 17))
    generalize ((((X39.setCell ⟨gF, 0, none⟩ (.int .i64 1)).setCell ⟨gF, 1, none⟩ (.int .i64 0)).setCell ⟨gF, 2, none⟩ (.slice (some ⟨gD, 0, none⟩) 1 1)).setCell ⟨gF, 3, none⟩ (.slice (some ⟨gE, 0, none⟩) 17 17)) = W40 at *
    exact REST W40 gD gE gF ⟨NN, FD, FO, V27⟩
   ·go_simp
    refine hK'.out _ _ (fun _ _ _ => ⟨fun p hp e => absurd hp (by simp), fun p hp e => absurd hp (by simp)⟩) ?_
    clear hK' K'
    try simp only [Act.put, zA, zB, zC]
    have HB := Lib.hid (Bal (Below.refl X37.heap.size X37) (.cells #[.int .i64 0, .int .i64 0, .slice none 0 0, .slice none 0 0] 25))
    have LG27 : Hid (WD.heap.size ≤ X37.heap.size) := Lib.hid NN.out.size
    replace NN := Lib.hid (Bgo NN.out HB.out)
    replace FO := Lib.hid (FO.out.next HB.out)
    have V27 := Lib.hid (blk_new X37 (.cells #[.int .i64 0, .int .i64 0, .slice none 0 0, .slice none 0 0] 25))
    clear HB
    generalize X37.alloc (.cells #[.int .i64 0, .int .i64 0, .slice none 0 0, .slice none 0 0] 25) = X41 at *
    generalize X37.heap.size = gF at *
    refine only_I 0 (by kernel_rfl) rfl (fun K' hK' => ?_)
    go_simp
    refine hK'.out _ _ (fun _ _ _ => ⟨fun p hp e => absurd hp (by simp), fun p hp e => absurd hp (by simp)⟩) ?_
    clear hK' K'
    try simp only [Act.put, zA, zB, zC]
    have HB := Lib.hid (Bal (Below.refl X41.heap.size X41) (.cells dk1 46))
    replace NN := Lib.hid (Bgo NN.out HB.out)
    replace FO := Lib.hid (FO.out.next HB.out)
    replace V27 := Lib.hid (blk_next HB.out V27.out)
    have FD : Hid (OT 0 (X41.alloc (.cells dk1 46)) (.slice (some ⟨X41.heap.size, 0, none⟩) 1 1) (List.replicate 1 ⟨false, []⟩)) := Lib.hid (nil_dk1 X41)
    clear HB
    generalize X41.alloc (.cells dk1 46) = X42 at *
    generalize X41.heap.size = gD at *
    refine tJ 2 (.agg #[.int .i64 1, .int .i64 0, .slice (some ⟨gD, 0, none⟩) 1 1, .slice (some ⟨gE, 0, none⟩) 17 17]) (some 101) rfl (SZ.drop (by simp) (by simp)) (Or.inl ⟨by rfl, ?_⟩) ?_
    ·intro X hX
     clear hX
     go_simp
    try simp only [Act.put, zA, zB, zC]
    refine only_I 4 (by kernel_rfl) rfl (fun K' hK' => ?_)
    have c_V27_0 := blk_cell V27.out 0 _ rfl
    have f_V27_0 := blk_frozen V27.out 0
    have c_V27_1 := blk_cell V27.out 1 _ rfl
    have f_V27_1 := blk_frozen V27.out 1
    have c_V27_2 := blk_cell V27.out 2 _ rfl
    have f_V27_2 := blk_frozen V27.out 2
    have c_V27_3 := blk_cell V27.out 3 _ rfl
    have f_V27_3 := blk_frozen V27.out 3
    have l_V27 := blk_lt V27.out
    go_simp
    refine hK'.out _ _ (fun _ _ _ => ⟨fun p hp e => absurd hp (by simp), fun p hp e => absurd hp (by simp)⟩) ?_
    clear hK' K'
    try simp only [Act.put, zA, zB, zC]
    clear c_V27_0 f_V27_0 c_V27_1 f_V27_1 c_V27_2 f_V27_2 c_V27_3 f_V27_3 l_V27
    replace FO := Lib.hid (OO.set_ (o := 3) (OO.set_ (o := 2) (OO.set_ (o := 1) (OO.set_ (o := 0) (FO.out) (V27.out) ne_sto_ob (.int .i64 1)) (blk_set (V27.out) 0 (.int .i64 1)) ne_sto_ob (.int .i64 0)) (blk_set (blk_set (V27.out) 0 (.int .i64 1)) 1 (.int .i64 0)) ne_sto_ob (.slice (some ⟨gD, 0, none⟩) 1 1)) (blk_set (blk_set (blk_set (V27.out) 0 (.int .i64 1)) 1 (.int .i64 0)) 2 (.slice (some ⟨gD, 0, none⟩) 1 1)) ne_sto_ob (.slice (some ⟨gE, 0, none⟩) 17 17))
    replace FD := Lib.hid (OT.same_ (o := 3) (OT.same_ (o := 2) (OT.same_ (o := 1) (OT.same_ (o := 0) (FD.out) (V27.out) ne_sto_u8 ne_sto_sl ne_sto_dk (.int .i64 1)) (blk_set (V27.out) 0 (.int .i64 1)) ne_sto_u8 ne_sto_sl ne_sto_dk (.int .i64 0)) (blk_set (blk_set (V27.out) 0 (.int .i64 1)) 1 (.int .i64 0)) ne_sto_u8 ne_sto_sl ne_sto_dk (.slice (some ⟨gD, 0, none⟩) 1 1)) (blk_set (blk_set (blk_set (V27.out) 0 (.int .i64 1)) 1 (.int .i64 0)) 2 (.slice (some ⟨gD, 0, none⟩) 1 1)) ne_sto_u8 ne_sto_sl ne_sto_dk (.slice (some ⟨gE, 0, none⟩) 17 17))
    replace V27 : Hid (((((X42.setCell ⟨gF, 0, none⟩ (.int .i64 1)).setCell ⟨gF, 1, none⟩ (.int .i64 0)).setCell ⟨gF, 2, none⟩ (.slice (some ⟨gD, 0, none⟩) 1 1)).setCell ⟨gF, 3, none⟩ (.slice (some ⟨gE, 0, none⟩) 17 17)).heap[gF]? = some (.cells #[.int .i64 1, .int .i64 0, .slice (some ⟨gD, 0, none⟩) 1 1, .slice (some ⟨gE, 0, none⟩) 17 17] 25)) := Lib.hid (blk_set (blk_set (blk_set (blk_set (V27.out) 0 (.int .i64 1)) 1 (.int .i64 0)) 2 (.slice (some ⟨gD, 0, none⟩) 1 1)) 3 (.slice (some ⟨gE, 0, none⟩) 17 17))
    replace NN := Lib.hid (Bset1 (Bset1 (Bset1 (Bset1 (NN.out) (show WD.heap.size ≤ gF by have := LG27.out; omega) 0 (.int .i64 1)) (show WD.heap.size ≤ gF by have := LG27.out; omega) 1 (.int .i64 0)) (show WD.heap.size ≤ gF by have := LG27.out; omega) 2 (.slice (some ⟨gD, 0, none⟩) 1 1)) (show WD.heap.size ≤ gF by have := LG27.out; omega) 3 (.slice (some ⟨gE, 0, none⟩) 17 17))
    generalize ((((X42.setCell ⟨gF, 0, none⟩ (.int .i64 1)).setCell ⟨gF, 1, none⟩ (.int .i64 0)).setCell ⟨gF, 2, none⟩ (.slice (some ⟨gD, 0, none⟩) 1 1)).setCell ⟨gF, 3, none⟩ (.slice (some ⟨gE, 0, none⟩) 17 17)) = W43 at *
    exact REST W43 gD gE gF ⟨NN, FD, FO, V27⟩
  ·go_simp
   refine hK'.out _ _ (fun _ _ _ => ⟨fun p hp e => absurd hp (by simp), fun p hp e => absurd hp (by simp)⟩) ?_
   clear hK' K'
   try simp only [Act.put, zA, zB, zC]
   have HB := Lib.hid (Bal (Below.refl WD.heap.size WD) (.cells #[.int .i64 0, .int .i64 0, .slice none 0 0, .slice none 0 0] 25))
   have LG27 : Hid (WD.heap.size ≤ WD.heap.size) := Lib.hid NN.out.size
   replace NN := Lib.hid (Bgo NN.out HB.out)
   have V27 := Lib.hid (blk_new WD (.cells #[.int .i64 0, .int .i64 0, .slice none 0 0, .slice none 0 0] 25))
   clear HB
   generalize WD.alloc (.cells #[.int .i64 0, .int .i64 0, .slice none 0 0, .slice none 0 0] 25) = X44 at *
   obtain ⟨gF, hgx⟩ : ∃ n, n = WD.heap.size := ⟨_, rfl⟩
   rw [← hgx] at V27 ⊢
   replace LG27 : Hid (WD.heap.size ≤ gF) := Lib.hid (by omega)
   clear hgx
   refine two_I 0 1 (by kernel_rfl) rfl rfl (fun K' hK' => ?_) (fun K' hK' => ?_)
   ·go_simp
    refine hK'.out _ _ (fun _ _ _ => ⟨fun p hp e => absurd hp (by simp), fun p hp e => absurd hp (by simp)⟩) ?_
    clear hK' K'
    try simp only [Act.put, zA, zB, zC]
    have HB := Lib.hid (Bal (Below.refl X44.heap.size X44) (.cells dk1 46))
    replace NN := Lib.hid (Bgo NN.out HB.out)
    replace V27 := Lib.hid (blk_next HB.out V27.out)
    have FD : Hid (OT 0 (X44.alloc (.cells dk1 46)) (.slice (some ⟨X44.heap.size, 0, none⟩) 1 1) (List.replicate 1 ⟨false, []⟩)) := Lib.hid (nil_dk1 X44)
    clear HB
    generalize X44.alloc (.cells dk1 46) = X45 at *
    generalize X44.heap.size = gD at *
    refine only_I 1 (by kernel_rfl) rfl (fun K' hK' => ?_)
    go_simp
    refine hK'.out _ _ (fun _ _ _ => ⟨fun p hp e => absurd hp (by simp), fun p hp e => absurd hp (by simp)⟩) ?_
    clear hK' K'
    try simp only [Act.put, zA, zB, zC]
    have HB := Lib.hid (Bal (Below.refl X45.heap.size X45) (.cells ob17 50))
    replace NN := Lib.hid (Bgo NN.out HB.out)
    replace FD := Lib.hid (FD.out.next HB.out)
    replace V27 := Lib.hid (blk_next HB.out V27.out)
    have FO : Hid (OO 0 (X45.alloc (.cells ob17 50)) (.slice (some ⟨X45.heap.size, 0, none⟩) 17 17) os17) := Lib.hid (nil_ob17 X45)
    clear HB
    generalize X45.alloc (.cells ob17 50) = X46 at *
    generalize X45.heap.size = gE at *
    refine tJ 2 (.agg #[.int .i64 1, .int .i64 0, .slice (some ⟨gD, 0, none⟩) 1 1, .slice (some ⟨gE, 0, none⟩) 17 17]) (some 101) rfl (SZ.drop (by simp) (by simp)) (Or.inl ⟨by rfl, ?_⟩) ?_
    ·intro X hX
     clear hX
     go_simp
    try simp only [Act.put, zA, zB, zC]
    refine only_I 4 (by kernel_rfl) rfl (fun K' hK' => ?_)
    have c_V27_0 := blk_cell V27.out 0 _ rfl
    have f_V27_0 := blk_frozen V27.out 0
    have c_V27_1 := blk_cell V27.out 1 _ rfl
    have f_V27_1 := blk_frozen V27.out 1
    have c_V27_2 := blk_cell V27.out 2 _ rfl
    have f_V27_2 := blk_frozen V27.out 2
    have c_V27_3 := blk_cell V27.out 3 _ rfl
    have f_V27_3 := blk_frozen V27.out 3
    have l_V27 := blk_lt V27.out
    go_simp
    refine hK'.out _ _ (fun _ _ _ => ⟨fun p hp e => absurd hp (by simp), fun p hp e => absurd hp (by simp)⟩) ?_
    clear hK' K'
    try simp only [Act.put, zA, zB, zC]
    clear c_V27_0 f_V27_0 c_V27_1 f_V27_1 c_V27_2 f_V27_2 c_V27_3 f_V27_3 l_V27
    replace FD := Lib.hid (OT.same_ (o := 3) (OT.same_ (o := 2) (OT.same_ (o := 1) (OT.same_ (o := 0) (FD.out) (V27.out) ne_sto_u8 ne_sto_sl ne_sto_dk (.int .i64 1)) (blk_set (V27.out) 0 (.int .i64 1)) ne_sto_u8 ne_sto_sl ne_sto_dk (.int .i64 0)) (blk_set (blk_set (V27.out) 0 (.int .i64 1)) 1 (.int .i64 0)) ne_sto_u8 ne_sto_sl ne_sto_dk (.slice (some ⟨gD, 0, none⟩) 1 1)) (blk_set (blk_set (blk_set (V27.out) 0 (.int .i64 1)) 1 (.int .i64 0)) 2 (.slice (some ⟨gD, 0, none⟩) 1 1)) ne_sto_u8 ne_sto_sl ne_sto_dk (.slice (some ⟨gE, 0, none⟩) 17 17))
    replace FO := Lib.hid (OO.set_ (o := 3) (OO.set_ (o := 2) (OO.set_ (o := 1) (OO.set_ (o := 0) (FO.out) (V27.out) ne_sto_ob (.int .i64 1)) (blk_set (V27.out) 0 (.int .i64 1)) ne_sto_ob (.int .i64 0)) (blk_set (blk_set (V27.out) 0 (.int .i64 1)) 1 (.int .i64 0)) ne_sto_ob (.slice (some ⟨gD, 0, none⟩) 1 1)) (blk_set (blk_set (blk_set (V27.out) 0 (.int .i64 1)) 1 (.int .i64 0)) 2 (.slice (some ⟨gD, 0, none⟩) 1 1)) ne_sto_ob (.slice (some ⟨gE, 0, none⟩) 17 17))
    replace V27 : Hid (((((X46.setCell ⟨gF, 0, none⟩ (.int .i64 1)).setCell ⟨gF, 1, none⟩ (.int .i64 0)).setCell ⟨gF, 2, none⟩ (.slice (some ⟨gD, 0, none⟩) 1 1)).setCell ⟨gF, 3, none⟩ (.slice (some ⟨gE, 0, none⟩) 17 17)).heap[gF]? = some (.cells #[.int .i64 1, .int .i64 0, .slice (some ⟨gD, 0, none⟩) 1 1, .slice (some ⟨gE, 0, none⟩) 17 17] 25)) := Lib.hid (blk_set (blk_set (blk_set (blk_set (V27.out) 0 (.int .i64 1)) 1 (.int .i64 0)) 2 (.slice (some ⟨gD, 0, none⟩) 1 1)) 3 (.slice (some ⟨gE, 0, none⟩) 17 17))
    replace NN := Lib.hid (Bset1 (Bset1 (Bset1 (Bset1 (NN.out) (show WD.heap.size ≤ gF by have := LG27.out; omega) 0 (.int .i64 1)) (show WD.heap.size ≤ gF by have := LG27.out; omega) 1 (.int .i64 0)) (show WD.heap.size ≤ gF by have := LG27.out; omega) 2 (.slice (some ⟨gD, 0, none⟩) 1 1)) (show WD.heap.size ≤ gF by have := LG27.out; omega) 3 (.slice (some ⟨gE, 0, none⟩) 17 17))
    generalize ((((X46.setCell ⟨gF, 0, none⟩ (.int .i64 1)).setCell ⟨gF, 1, none⟩ (.int .i64 0)).setCell ⟨gF, 2, none⟩ (.slice (some ⟨gD, 0, none⟩) 1 1)).setCell ⟨gF, 3, none⟩ (.slice (some ⟨gE, 0, none⟩) 17 17)) = W47 at *
    exact REST W47 gD gE gF ⟨NN, FD, FO, V27⟩
   ·go_simp
    refine hK'.out _ _ (fun _ _ _ => ⟨fun p hp e => absurd hp (by simp), fun p hp e => absurd hp (by simp)⟩) ?_
    clear hK' K'
    try simp only [Act.put, zA, zB, zC]
    have HB := Lib.hid (Bal (Below.refl X44.heap.size X44) (.cells ob17 50))
    replace NN := Lib.hid (Bgo NN.out HB.out)
    replace V27 := Lib.hid (blk_next HB.out V27.out)
    have FO : Hid (OO 0 (X44.alloc (.cells ob17 50)) (.slice (some ⟨X44.heap.size, 0, none⟩) 17 17) os17) := Lib.hid (nil_ob17 X44)
    clear HB
    generalize X44.alloc (.cells ob17 50) = X48 at *
    generalize X44.heap.size = gE at *
    refine only_I 0 (by kernel_rfl) rfl (fun K' hK' => ?_)
    go_simp
    refine hK'.out _ _ (fun _ _ _ => ⟨fun p hp e => absurd hp (by simp), fun p hp e => absurd hp (by simp)⟩) ?_
    clear hK' K'
    try simp only [Act.put, zA, zB, zC]
    have HB := Lib.hid (Bal (Below.refl X48.heap.size X48) (.cells dk1 46))
    replace NN := Lib.hid (Bgo NN.out HB.out)
    replace FO := Lib.hid (FO.out.next HB.out)
    replace V27 := Lib.hid (blk_next HB.out V27.out)
    have FD : Hid (OT 0 (X48.alloc (.cells dk1 46)) (.slice (some ⟨X48.heap.size, 0, none⟩) 1 1) (List.replicate 1 ⟨false, []⟩)) := Lib.hid (nil_dk1 X48)
    clear HB
    generalize X48.alloc (.cells dk1 46) = X49 at *
    generalize X48.heap.size = gD at *
    refine tJ 2 (.agg #[.int .i64 1, .int .i64 0, .slice (some ⟨gD, 0, none⟩) 1 1, .slice (some ⟨gE, 0, none⟩) 17 17]) (some 101) rfl (SZ.drop (by simp) (by simp)) (Or.inl ⟨by rfl, ?_⟩) ?_
    ·intro X hX
     clear hX
     go_simp
    try simp only [Act.put, zA, zB, zC]
    refine only_I 4 (by kernel_rfl) rfl (fun K' hK' => ?_)
    have c_V27_0 := blk_cell V27.out 0 _ rfl
    have f_V27_0 := blk_frozen V27.out 0
    have c_V27_1 := blk_cell V27.out 1 _ rfl
    have f_V27_1 := blk_frozen V27.out 1
    have c_V27_2 := blk_cell V27.out 2 _ rfl
    have f_V27_2 := blk_frozen V27.out 2
    have c_V27_3 := blk_cell V27.out 3 _ rfl
    have f_V27_3 := blk_frozen V27.out 3
    have l_V27 := blk_lt V27.out
    go_simp
    refine hK'.out _ _ (fun _ _ _ => ⟨fun p hp e => absurd hp (by simp), fun p hp e => absurd hp (by simp)⟩) ?_
    clear hK' K'
    try simp only [Act.put, zA, zB, zC]
    clear c_V27_0 f_V27_0 c_V27_1 f_V27_1 c_V27_2 f_V27_2 c_V27_3 f_V27_3 l_V27
    replace FO := Lib.hid (OO.set_ (o := 3) (OO.set_ (o := 2) (OO.set_ (o := 1) (OO.set_ (o := 0) (FO.out) (V27.out) ne_sto_ob (.int .i64 1)) (blk_set (V27.out) 0 (.int .i64 1)) ne_sto_ob (.int .i64 0)) (blk_set (blk_set (V27.out) 0 (.int .i64 1)) 1 (.int .i64 0)) ne_sto_ob (.slice (some ⟨gD, 0, none⟩) 1 1)) (blk_set (blk_set (blk_set (V27.out) 0 (.int .i64 1)) 1 (.int .i64 0)) 2 (.slice (some ⟨gD, 0, none⟩) 1 1)) ne_sto_ob (.slice (some ⟨gE, 0, none⟩) 17 17))
    replace FD := Lib.hid (OT.same_ (o := 3) (OT.same_ (o := 2) (OT.same_ (o := 1) (OT.same_ (o := 0) (FD.out) (V27.out) ne_sto_u8 ne_sto_sl ne_sto_dk (.int .i64 1)) (blk_set (V27.out) 0 (.int .i64 1)) ne_sto_u8 ne_sto_sl ne_sto_dk (.int .i64 0)) (blk_set (blk_set (V27.out) 0 (.int .i64 1)) 1 (.int .i64 0)) ne_sto_u8 ne_sto_sl ne_sto_dk (.slice (some ⟨gD, 0, none⟩) 1 1)) (blk_set (blk_set (blk_set (V27.out) 0 (.int .i64 1)) 1 (.int .i64 0)) 2 (.slice (some ⟨gD, 0, none⟩) 1 1)) ne_sto_u8 ne_sto_sl ne_sto_dk (.slice (some ⟨gE, 0, none⟩) 17 17))
    replace V27 : Hid (((((X49.setCell ⟨gF, 0, none⟩ (.int .i64 1)).setCell ⟨gF, 1, none⟩ (.int .i64 0)).setCell ⟨gF, 2, none⟩ (.slice (some ⟨gD, 0, none⟩) 1 1)).setCell ⟨gF, 3, none⟩ (.slice (some ⟨gE, 0, none⟩) 17 17)).heap[gF]? = some (.cells #[.int .i64 1, .int .i64 0, .slice (some ⟨gD, 0, none⟩) 1 1, .slice (some ⟨gE, 0, none⟩) 17 17] 25)) := Lib.hid (blk_set (blk_set (blk_set (blk_set (V27.out) 0 (.int .i64 1)) 1 (.int .i64 0)) 2 (.slice (some ⟨gD, 0, none⟩) 1 1)) 3 (.slice (some ⟨gE, 0, none⟩) 17 17))
    replace NN := Lib.hid (Bset1 (Bset1 (Bset1 (Bset1 (NN.out) (show WD.heap.size ≤ gF by have := LG27.out; omega) 0 (.int .i64 1)) (show WD.heap.size ≤ gF by have := LG27.out; omega) 1 (.int .i64 0)) (show WD.heap.size ≤ gF by have := LG27.out; omega) 2 (.slice (some ⟨gD, 0, none⟩) 1 1)) (show WD.heap.size ≤ gF by have := LG27.out; omega) 3 (.slice (some ⟨gE, 0, none⟩) 17 17))
    generalize ((((X49.setCell ⟨gF, 0, none⟩ (.int .i64 1)).setCell ⟨gF, 1, none⟩ (.int .i64 0)).setCell ⟨gF, 2, none⟩ (.slice (some ⟨gD, 0, none⟩) 1 1)).setCell ⟨gF, 3, none⟩ (.slice (some ⟨gE, 0, none⟩) 17 17)) = W50 at *
    exact REST W50 gD gE gF ⟨NN, FD, FO, V27⟩
 case rest =>
  intro WH gD gE gF hF
  obtain ⟨NB, FD, FO, V27⟩ := hF
  replace NN := Lib.hid (Bgo NN.out NB.out)
  replace T0 := Lib.hid (T0.out.next NB.out)
  replace U0 := Lib.hid (U0.out.next NB.out)
  replace T3 := Lib.hid (T3.out.next NB.out)
  replace U3 := Lib.hid (U3.out.next NB.out)
  replace R12 := Lib.hid (RBA.next NB.out R12.out)
  replace R13 := Lib.hid (RBA.next NB.out R13.out)
  replace V1 := Lib.hid (blk_next NB.out V1.out)
  replace V7 := Lib.hid (blk_next NB.out V7.out)
  clear NB
  have HAL := Lib.hid (fun (k : Nat) => (show SZ [] [] k WH from ⟨fun p hp e => absurd hp (by simp), fun p hp e => absurd hp (by simp)⟩))
  clear HAL
  refine done_I (by kernel_rfl) ?_ _
  have CKF := Lib.hid (fun (D A : Option Addr) (W : World) h5 h6 => oCheck_calls 1 0 D A 1 17 0 (List.replicate 1 ⟨false, []⟩) os17 W (by decide) (by decide) (by decide) (by decide) h5 h6 (smallB_lh (by kernel_rfl)))
  rw [show chS 1 0 (List.replicate 1 ⟨false, []⟩) os17 = 4 by kernel_rfl] at CKF
  have CKG := Lib.hid (fun (D : Option Addr) (W : World) h5 => oCheck_calls 0 0 D none 13 0 0 (List.replicate 13 ⟨false, []⟩) [] W (by decide) (by decide) (by decide) (by decide) h5 (OO.ro (OO.nil 0 W)) (fun _ h => by cases h))
  rw [show chS 0 0 (List.replicate 13 ⟨false, []⟩) [] = 4 by kernel_rfl] at CKG
  have CKH := Lib.hid (fun (W : World) => oCheck_calls 0 0 none none 0 0 0 [] [] W (by decide) (by decide) (by decide) (by decide) (OT.rd (OT.nil 0 W)) (OO.ro (OO.nil 0 W)) (fun _ h => by cases h))
  rw [show chS 0 0 [] [] = 8 by kernel_rfl] at CKH
  have B7 : Hid (bstr [7] = ⟨#[7]⟩) := Lib.hid (by kernel_rfl)
  have B8 : Hid (bstr [8] = ⟨#[8]⟩) := Lib.hid (by kernel_rfl)
  have c_V1_0 := blk_cell V1.out 0 _ rfl
  have f_V1_0 := blk_frozen V1.out 0
  have c_V1_1 := blk_cell V1.out 1 _ rfl
  have f_V1_1 := blk_frozen V1.out 1
  have c_V1_2 := blk_cell V1.out 2 _ rfl
  have f_V1_2 := blk_frozen V1.out 2
  have c_V1_3 := blk_cell V1.out 3 _ rfl
  have f_V1_3 := blk_frozen V1.out 3
  have l_V1 := blk_lt V1.out
  have c_V7_0 := blk_cell V7.out 0 _ rfl
  have f_V7_0 := blk_frozen V7.out 0
  have c_V7_1 := blk_cell V7.out 1 _ rfl
  have f_V7_1 := blk_frozen V7.out 1
  have c_V7_2 := blk_cell V7.out 2 _ rfl
  have f_V7_2 := blk_frozen V7.out 2
  have c_V7_3 := blk_cell V7.out 3 _ rfl
  have f_V7_3 := blk_frozen V7.out 3
  have l_V7 := blk_lt V7.out
  go_wp2_with fail
  refine (same_self s0a s0b A3 B3 c3 d3 _ s0c s0d A0 B0 c0 d0 _ _ k3a k3b k3c k3d T3.out.rd U3.out.ro k0a k0b k0c k0d T0.out.rd U0.out.ro).mono ?_
  rintro e w51 ⟨rfl, hb⟩
  clear c_V1_0 f_V1_0 c_V1_1 f_V1_1 c_V1_2 f_V1_2 c_V1_3 f_V1_3 l_V1 c_V7_0 f_V7_0 c_V7_1 f_V7_1 c_V7_2 f_V7_2 c_V7_3 f_V7_3 l_V7
  replace NN := Lib.hid (Bgo NN.out hb)
  replace T0 := Lib.hid (T0.out.next hb)
  replace U0 := Lib.hid (U0.out.next hb)
  replace T3 := Lib.hid (T3.out.next hb)
  replace U3 := Lib.hid (U3.out.next hb)
  replace R12 := Lib.hid (RBA.next hb R12.out)
  replace R13 := Lib.hid (RBA.next hb R13.out)
  replace FD := Lib.hid (FD.out.next hb)
  replace FO := Lib.hid (FO.out.next hb)
  replace V1 := Lib.hid (blk_next hb V1.out)
  replace V7 := Lib.hid (blk_next hb V7.out)
  replace V27 := Lib.hid (blk_next hb V27.out)
  clear hb
  have c_V27_0 := blk_cell V27.out 0 _ rfl
  have f_V27_0 := blk_frozen V27.out 0
  have c_V27_1 := blk_cell V27.out 1 _ rfl
  have f_V27_1 := blk_frozen V27.out 1
  have c_V27_2 := blk_cell V27.out 2 _ rfl
  have f_V27_2 := blk_frozen V27.out 2
  have c_V27_3 := blk_cell V27.out 3 _ rfl
  have f_V27_3 := blk_frozen V27.out 3
  have l_V27 := blk_lt V27.out
  have cv1 : (convert 26 9 (.slice A12 1 c12)).run Try.prog w51 = .ok (.string ⟨#[7]⟩) w51 := by have h := conv_rba c12 R12.out; rw [B7.out] at h; exact h
  have cv2 : (convert 26 9 (.slice A13 1 c13)).run Try.prog w51 = .ok (.string ⟨#[8]⟩) w51 := by have h := conv_rba c13 R13.out; rw [B8.out] at h; exact h
  go_wp2_with fail
  refine (CKF.out _ _ _ FD.out.rd FO.out.ro).mono ?_
  rintro e w52 ⟨rfl, hb⟩
  clear c_V27_0 f_V27_0 c_V27_1 f_V27_1 c_V27_2 f_V27_2 c_V27_3 f_V27_3 l_V27 cv1 cv2
  replace NN := Lib.hid (Bgo NN.out hb)
  replace T0 := Lib.hid (T0.out.next hb)
  replace U0 := Lib.hid (U0.out.next hb)
  replace T3 := Lib.hid (T3.out.next hb)
  replace U3 := Lib.hid (U3.out.next hb)
  replace R12 := Lib.hid (RBA.next hb R12.out)
  replace R13 := Lib.hid (RBA.next hb R13.out)
  replace FD := Lib.hid (FD.out.next hb)
  replace FO := Lib.hid (FO.out.next hb)
  replace V1 := Lib.hid (blk_next hb V1.out)
  replace V7 := Lib.hid (blk_next hb V7.out)
  replace V27 := Lib.hid (blk_next hb V27.out)
  clear hb
  have FG : Hid (OT 0 (w52.alloc (.cells dk13 46)) (.slice (some ⟨w52.heap.size, 0, none⟩) 13 13) (List.replicate 13 ⟨false, []⟩)) := Lib.hid (nil_dk13 w52)
  go_wp2_with fail
  have HB := Lib.hid (Bal (Below.refl w52.heap.size w52) (.cells dk13 46))
  replace NN := Lib.hid (Bgo NN.out HB.out)
  replace T0 := Lib.hid (T0.out.next HB.out)
  replace U0 := Lib.hid (U0.out.next HB.out)
  replace T3 := Lib.hid (T3.out.next HB.out)
  replace U3 := Lib.hid (U3.out.next HB.out)
  replace R12 := Lib.hid (RBA.next HB.out R12.out)
  replace R13 := Lib.hid (RBA.next HB.out R13.out)
  replace FD := Lib.hid (FD.out.next HB.out)
  replace FO := Lib.hid (FO.out.next HB.out)
  replace V1 := Lib.hid (blk_next HB.out V1.out)
  replace V7 := Lib.hid (blk_next HB.out V7.out)
  replace V27 := Lib.hid (blk_next HB.out V27.out)
  clear HB
  refine (CKG.out _ _ FG.out.rd).mono ?_
  rintro e w53 ⟨rfl, hb⟩
  replace NN := Lib.hid (Bgo NN.out hb)
  replace T0 := Lib.hid (T0.out.next hb)
  replace U0 := Lib.hid (U0.out.next hb)
  replace T3 := Lib.hid (T3.out.next hb)
  replace U3 := Lib.hid (U3.out.next hb)
  replace R12 := Lib.hid (RBA.next hb R12.out)
  replace R13 := Lib.hid (RBA.next hb R13.out)
  replace FD := Lib.hid (FD.out.next hb)
  replace FO := Lib.hid (FO.out.next hb)
  replace V1 := Lib.hid (blk_next hb V1.out)
  replace V7 := Lib.hid (blk_next hb V7.out)
  replace V27 := Lib.hid (blk_next hb V27.out)
  clear hb
  go_wp2_with fail
  refine (CKH.out _).mono ?_
  rintro e w54 ⟨rfl, hb⟩
  replace NN := Lib.hid (Bgo NN.out hb)
  replace T0 := Lib.hid (T0.out.next hb)
  replace U0 := Lib.hid (U0.out.next hb)
  replace T3 := Lib.hid (T3.out.next hb)
  replace U3 := Lib.hid (U3.out.next hb)
  replace R12 := Lib.hid (RBA.next hb R12.out)
  replace R13 := Lib.hid (RBA.next hb R13.out)
  replace FD := Lib.hid (FD.out.next hb)
  replace FO := Lib.hid (FO.out.next hb)
  replace V1 := Lib.hid (blk_next hb V1.out)
  replace V7 := Lib.hid (blk_next hb V7.out)
  replace V27 := Lib.hid (blk_next hb V27.out)
  clear hb
  go_wp2_with fail
  go_ret
  exact ⟨rfl, NN.out⟩
end Go.Proofs.Ytapehckcmmompaa
