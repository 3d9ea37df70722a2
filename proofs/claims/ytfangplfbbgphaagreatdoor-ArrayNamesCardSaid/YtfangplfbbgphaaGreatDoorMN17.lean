/- Several texts in one. -/
import Derived.Test.YtfangplfbbgphaaGreatDoorRows
import Derived.Deep.DeepHandedRow
import Derived.ProofKit
import Derived.SizedLaws
import Derived.Stop.LaidErr
import Derived.Lib.LaidTab
import Derived.Test.YtfangplfbbgphaaGreatDoorMN07
import Derived.Test.YtfangplfbbgphaaGreatDoorMN11
import Derived.Test.YtfangplfbbgphaaGreatDoorMN16
namespace Go.Proofs.YtfangplfbbgphaaGreatDoor
open Go.ChangeShapes Go.WideShapes Go.ChangeAt Go.RowKit
set_option linter.unusedVariables false
set_option linter.unusedSimpArgs false
attribute [local go_sem ↓] Go.wp_at_zero Go.wp_at_succ
attribute [local go_sem ↓] eqVe eqSt_self
set_option maxRecDepth 100000 in
set_option maxHeartbeats 100000000 in
theorem lnames_calls (w : World) (g : GL w) : Calls Tryz.prog 7 #[] w fun e w' => e = .returned (.bool true) ∧ Below w.heap.size w w' := by
 have hm := mk9
 have hm1 := mk1
 have NN := Lib.hid (Below.refl w.heap.size w)
 have GG := Lib.hid g
 clear g
 go_enter Tryz.func7, Tryz.ntmps7
 go_wp2_with fail
 refine (lglobe_calls _).mono ?_
 rintro e w1 ⟨rfl, hb⟩
 replace NN := Lib.hid (Bgo NN.out hb)
 clear hb
 go_wp2_with fail
 refine (lsite_calls ⟨#[97]⟩ 0 0 _).mono ?_
 rintro e w2 ⟨rfl, hb⟩
 replace NN := Lib.hid (Bgo NN.out hb)
 clear hb
 go_wp2_with fail
 refine (lsite_calls ⟨#[97]⟩ 0 1 _).mono ?_
 rintro e w3 ⟨rfl, hb⟩
 replace NN := Lib.hid (Bgo NN.out hb)
 clear hb
 go_wp2_with fail
 have HB := Lib.hid (Bal (Below.refl w3.heap.size w3) (.cells ([(⟨⟨#[97]⟩, 0, 1, 0, 1⟩ : St), (⟨⟨#[97]⟩, 0, 1, 1, 1⟩ : St)].flatMap st5).toArray 69))
 have NB := Lib.hid (blk_new w3 (.cells ([(⟨⟨#[97]⟩, 0, 1, 0, 1⟩ : St), (⟨⟨#[97]⟩, 0, 1, 1, 1⟩ : St)].flatMap st5).toArray 69))
 replace NN := Lib.hid (Bgo NN.out HB.out)
 clear HB
 refine (chk_at (A := 5) (B := 5) (l := [⟨⟨#[97]⟩, 0, 1, 0, 1⟩, ⟨⟨#[97]⟩, 0, 1, 1, 1⟩]) (v := 14) (n := 2) (by kernel_rfl) rfl (by decide) (by decide) NB.out).mono ?_
 rintro e w4 ⟨rfl, hb⟩
 replace NN := Lib.hid (Bgo NN.out hb)
 clear hb
 clear NB
 go_wp2_with fail
 refine (lglobe_calls _).mono ?_
 rintro e w5 ⟨rfl, hb⟩
 replace NN := Lib.hid (Bgo NN.out hb)
 clear hb
 go_wp2_with fail
 refine (lsite_calls ⟨#[97]⟩ 1 0 _).mono ?_
 rintro e w6 ⟨rfl, hb⟩
 replace NN := Lib.hid (Bgo NN.out hb)
 clear hb
 go_wp2_with fail
 refine (lsite_calls ⟨#[98]⟩ 1 1 _).mono ?_
 rintro e w7 ⟨rfl, hb⟩
 replace NN := Lib.hid (Bgo NN.out hb)
 clear hb
 go_wp2_with fail
 have HB := Lib.hid (Bal (Below.refl w7.heap.size w7) (.cells ([(⟨⟨#[97]⟩, 1, 1, 0, 1⟩ : St), (⟨⟨#[98]⟩, 1, 1, 1, 1⟩ : St)].flatMap st5).toArray 69))
 have NB := Lib.hid (blk_new w7 (.cells ([(⟨⟨#[97]⟩, 1, 1, 0, 1⟩ : St), (⟨⟨#[98]⟩, 1, 1, 1, 1⟩ : St)].flatMap st5).toArray 69))
 replace NN := Lib.hid (Bgo NN.out HB.out)
 clear HB
 refine (chk_at (A := 5) (B := 5) (l := [⟨⟨#[97]⟩, 1, 1, 0, 1⟩, ⟨⟨#[98]⟩, 1, 1, 1, 1⟩]) (v := 14) (n := 2) (by kernel_rfl) rfl (by decide) (by decide) NB.out).mono ?_
 rintro e w8 ⟨rfl, hb⟩
 replace NN := Lib.hid (Bgo NN.out hb)
 clear hb
 clear NB
 go_wp2_with fail
 refine (lglobe_calls _).mono ?_
 rintro e w9 ⟨rfl, hb⟩
 replace NN := Lib.hid (Bgo NN.out hb)
 clear hb
 go_wp2_with fail
 refine (lsite_calls ⟨#[97, 98, 99, 100, 101, 102, 103, 104, 105, 106, 48, 49, 50, 51, 52, 53, 54, 55, 56, 57, 97, 98, 99, 100, 101, 102, 103, 104, 105, 106, 45, 49, 50, 51, 52, 53, 54, 55, 56, 57]⟩ 0 0 _).mono ?_
 rintro e w10 ⟨rfl, hb⟩
 replace NN := Lib.hid (Bgo NN.out hb)
 clear hb
 go_wp2_with fail
 have HB := Lib.hid (Bal (Below.refl w10.heap.size w10) (.cells ([(⟨⟨#[97, 98, 99, 100, 101, 102, 103, 104, 105, 106, 48, 49, 50, 51, 52, 53, 54, 55, 56, 57, 97, 98, 99, 100, 101, 102, 103, 104, 105, 106, 45, 49, 50, 51, 52, 53, 54, 55, 56, 57]⟩, 0, 1, 0, 1⟩ : St)].flatMap st5).toArray 69))
 have NB := Lib.hid (blk_new w10 (.cells ([(⟨⟨#[97, 98, 99, 100, 101, 102, 103, 104, 105, 106, 48, 49, 50, 51, 52, 53, 54, 55, 56, 57, 97, 98, 99, 100, 101, 102, 103, 104, 105, 106, 45, 49, 50, 51, 52, 53, 54, 55, 56, 57]⟩, 0, 1, 0, 1⟩ : St)].flatMap st5).toArray 69))
 replace NN := Lib.hid (Bgo NN.out HB.out)
 clear HB
 refine (chk_at (A := 5) (B := 5) (l := [⟨⟨#[97, 98, 99, 100, 101, 102, 103, 104, 105, 106, 48, 49, 50, 51, 52, 53, 54, 55, 56, 57, 97, 98, 99, 100, 101, 102, 103, 104, 105, 106, 45, 49, 50, 51, 52, 53, 54, 55, 56, 57]⟩, 0, 1, 0, 1⟩]) (v := 0) (n := 1) (by kernel_rfl) rfl (by decide) (by decide) NB.out).mono ?_
 rintro e w11 ⟨rfl, hb⟩
 replace NN := Lib.hid (Bgo NN.out hb)
 clear hb
 clear NB
 go_wp2_with fail
 refine (lglobe_calls _).mono ?_
 rintro e w12 ⟨rfl, hb⟩
 replace NN := Lib.hid (Bgo NN.out hb)
 clear hb
 go_wp2_with fail
 refine (lsite_calls ⟨#[97, 98, 99, 100, 101, 102, 103, 104, 105, 106, 48, 49, 50, 51, 52, 53, 54, 55, 56, 57, 97, 98, 99, 100, 101, 102, 103, 104, 105, 106, 45, 49, 50, 51, 52, 53, 54, 55, 56, 57, 97]⟩ 0 0 _).mono ?_
 rintro e w13 ⟨rfl, hb⟩
 replace NN := Lib.hid (Bgo NN.out hb)
 clear hb
 go_wp2_with fail
 have HB := Lib.hid (Bal (Below.refl w13.heap.size w13) (.cells ([(⟨⟨#[97, 98, 99, 100, 101, 102, 103, 104, 105, 106, 48, 49, 50, 51, 52, 53, 54, 55, 56, 57, 97, 98, 99, 100, 101, 102, 103, 104, 105, 106, 45, 49, 50, 51, 52, 53, 54, 55, 56, 57, 97]⟩, 0, 1, 0, 1⟩ : St)].flatMap st5).toArray 69))
 have NB := Lib.hid (blk_new w13 (.cells ([(⟨⟨#[97, 98, 99, 100, 101, 102, 103, 104, 105, 106, 48, 49, 50, 51, 52, 53, 54, 55, 56, 57, 97, 98, 99, 100, 101, 102, 103, 104, 105, 106, 45, 49, 50, 51, 52, 53, 54, 55, 56, 57, 97]⟩, 0, 1, 0, 1⟩ : St)].flatMap st5).toArray 69))
 replace NN := Lib.hid (Bgo NN.out HB.out)
 clear HB
 refine (chk_at (A := 5) (B := 5) (l := [⟨⟨#[97, 98, 99, 100, 101, 102, 103, 104, 105, 106, 48, 49, 50, 51, 52, 53, 54, 55, 56, 57, 97, 98, 99, 100, 101, 102, 103, 104, 105, 106, 45, 49, 50, 51, 52, 53, 54, 55, 56, 57, 97]⟩, 0, 1, 0, 1⟩]) (v := 8) (n := 1) (by kernel_rfl) rfl (by decide) (by decide) NB.out).mono ?_
 rintro e w14 ⟨rfl, hb⟩
 replace NN := Lib.hid (Bgo NN.out hb)
 clear hb
 clear NB
 go_wp2_with fail
 refine (lglobe_calls _).mono ?_
 rintro e w15 ⟨rfl, hb⟩
 replace NN := Lib.hid (Bgo NN.out hb)
 clear hb
 go_wp2_with fail
 refine (lsite_calls ⟨#[]⟩ 0 0 _).mono ?_
 rintro e w16 ⟨rfl, hb⟩
 replace NN := Lib.hid (Bgo NN.out hb)
 clear hb
 go_wp2_with fail
 have HB := Lib.hid (Bal (Below.refl w16.heap.size w16) (.cells ([(⟨⟨#[]⟩, 0, 1, 0, 1⟩ : St)].flatMap st5).toArray 69))
 have NB := Lib.hid (blk_new w16 (.cells ([(⟨⟨#[]⟩, 0, 1, 0, 1⟩ : St)].flatMap st5).toArray 69))
 replace NN := Lib.hid (Bgo NN.out HB.out)
 clear HB
 refine (chk_at (A := 5) (B := 5) (l := [⟨⟨#[]⟩, 0, 1, 0, 1⟩]) (v := 8) (n := 1) (by kernel_rfl) rfl (by decide) (by decide) NB.out).mono ?_
 rintro e w17 ⟨rfl, hb⟩
 replace NN := Lib.hid (Bgo NN.out hb)
 clear hb
 clear NB
 go_wp2_with fail
 refine (lglobe_calls _).mono ?_
 rintro e w18 ⟨rfl, hb⟩
 replace NN := Lib.hid (Bgo NN.out hb)
 clear hb
 go_wp2_with fail
 refine (lsite_calls ⟨#[49, 97]⟩ 0 0 _).mono ?_
 rintro e w19 ⟨rfl, hb⟩
 replace NN := Lib.hid (Bgo NN.out hb)
 clear hb
 go_wp2_with fail
 have HB := Lib.hid (Bal (Below.refl w19.heap.size w19) (.cells ([(⟨⟨#[49, 97]⟩, 0, 1, 0, 1⟩ : St)].flatMap st5).toArray 69))
 have NB := Lib.hid (blk_new w19 (.cells ([(⟨⟨#[49, 97]⟩, 0, 1, 0, 1⟩ : St)].flatMap st5).toArray 69))
 replace NN := Lib.hid (Bgo NN.out HB.out)
 clear HB
 refine (chk_at (A := 5) (B := 5) (l := [⟨⟨#[49, 97]⟩, 0, 1, 0, 1⟩]) (v := 8) (n := 1) (by kernel_rfl) rfl (by decide) (by decide) NB.out).mono ?_
 rintro e w20 ⟨rfl, hb⟩
 replace NN := Lib.hid (Bgo NN.out hb)
 clear hb
 clear NB
 go_wp2_with fail
 refine (lglobe_calls _).mono ?_
 rintro e w21 ⟨rfl, hb⟩
 replace NN := Lib.hid (Bgo NN.out hb)
 clear hb
 go_wp2_with fail
 refine (lsite_calls ⟨#[45]⟩ 0 0 _).mono ?_
 rintro e w22 ⟨rfl, hb⟩
 replace NN := Lib.hid (Bgo NN.out hb)
 clear hb
 go_wp2_with fail
 have HB := Lib.hid (Bal (Below.refl w22.heap.size w22) (.cells ([(⟨⟨#[45]⟩, 0, 1, 0, 1⟩ : St)].flatMap st5).toArray 69))
 have NB := Lib.hid (blk_new w22 (.cells ([(⟨⟨#[45]⟩, 0, 1, 0, 1⟩ : St)].flatMap st5).toArray 69))
 replace NN := Lib.hid (Bgo NN.out HB.out)
 clear HB
 refine (chk_at (A := 5) (B := 5) (l := [⟨⟨#[45]⟩, 0, 1, 0, 1⟩]) (v := 8) (n := 1) (by kernel_rfl) rfl (by decide) (by decide) NB.out).mono ?_
 rintro e w23 ⟨rfl, hb⟩
 replace NN := Lib.hid (Bgo NN.out hb)
 clear hb
 clear NB
 go_wp2_with fail
 refine (lglobe_calls _).mono ?_
 rintro e w24 ⟨rfl, hb⟩
 replace NN := Lib.hid (Bgo NN.out hb)
 clear hb
 go_wp2_with fail
 refine (lsite_calls ⟨#[97, 66]⟩ 0 0 _).mono ?_
 rintro e w25 ⟨rfl, hb⟩
 replace NN := Lib.hid (Bgo NN.out hb)
 clear hb
 go_wp2_with fail
 have HB := Lib.hid (Bal (Below.refl w25.heap.size w25) (.cells ([(⟨⟨#[97, 66]⟩, 0, 1, 0, 1⟩ : St)].flatMap st5).toArray 69))
 have NB := Lib.hid (blk_new w25 (.cells ([(⟨⟨#[97, 66]⟩, 0, 1, 0, 1⟩ : St)].flatMap st5).toArray 69))
 replace NN := Lib.hid (Bgo NN.out HB.out)
 clear HB
 refine (chk_at (A := 5) (B := 5) (l := [⟨⟨#[97, 66]⟩, 0, 1, 0, 1⟩]) (v := 8) (n := 1) (by kernel_rfl) rfl (by decide) (by decide) NB.out).mono ?_
 rintro e w26 ⟨rfl, hb⟩
 replace NN := Lib.hid (Bgo NN.out hb)
 clear hb
 clear NB
 go_wp2_with fail
 have HDRW := Lib.hid (Below.drew (Below.refl w26.heap.size w26))
 replace NN := Lib.hid (Bgo NN.out HDRW.out)
 clear HDRW
 have HAL : Hid (∀ kx9 : Nat, GK [] kx9 w26.drew) := Lib.hid (fun kx9 => fun px9 hp e => absurd hp (by simp))
 refine region_G (S := GK []) (by kernel_rfl) ?_
 refine tG 0 (.agg #[.int .i64 0, .int .i64 0]) (some 98) (GK.grow _) rfl (YieldsIf.toG (Or.inl ⟨by rfl, ?_⟩)) (GK.drop (by simp)) ?_
 ·intro X hX
  clear hX
  go_simp
 try simp only [Act.put, zA, zB, zC]
 refine only_G 1 (by kernel_rfl) rfl (fun X27 hX K' hK' => ?_)
 replace NN := Lib.hid (Bgo NN.out hX)
 replace HAL := Lib.hid (fun kx9 => GK.grow _ _ _ _ (HAL.out kx9) hX)
 clear hX
 go_simp
 refine hK'.out _ _ (fun _ _ h => h.alloc _) ?_
 clear hK' K'
 try simp only [Act.put, zA, zB, zC]
 have HB := Lib.hid (Bal (Below.refl X27.heap.size X27) (.cells Z9C 69))
 have NZ1 : Hid ((X27.alloc (.cells Z9C 69)).heap[X27.heap.size]? = some (.cells Z9C 69)) := Lib.hid (blk_new X27 (.cells Z9C 69))
 replace NN := Lib.hid (Bgo NN.out HB.out)
 replace HAL := Lib.hid (fun kx9 => GK.grow _ _ _ _ (HAL.out kx9) HB.out)
 clear HB
 generalize X27.alloc (.cells Z9C 69) = W28 at *
 generalize X27.heap.size = gZ1 at *
 refine only_G 2 (by kernel_rfl) rfl (fun X29 hX K' hK' => ?_)
 replace NN := Lib.hid (Bgo NN.out hX)
 replace NZ1 := Lib.hid (blk_next hX NZ1.out)
 replace HAL := Lib.hid (fun kx9 => GK.grow _ _ _ _ (HAL.out kx9) hX)
 clear hX
 go_simp
 refine (chk_at (A := 0) (B := 0) (l := List.replicate 9 zS) (v := 2) (n := 9) (by kernel_rfl) rfl (by decide) (zero_nm 9) NZ1.out).mono ?_
 rintro e w30 ⟨rfl, hb9⟩
 have HB9 := Lib.hid hb9
 clear hb9
 refine hK'.out _ _ (fun kk hk hS => GK.grow _ _ _ _ hS HB9.out) ?_
 clear hK' K'
 try simp only [Act.put, zA, zB, zC]
 replace NN := Lib.hid (Bgo NN.out HB9.out)
 replace NZ1 := Lib.hid (blk_next HB9.out NZ1.out)
 replace HAL := Lib.hid (fun kx9 => GK.grow _ _ _ _ (HAL.out kx9) HB9.out)
 clear HB9
 refine tG 3 (.bool true) (some 101) (GK.grow _) rfl (YieldsIf.toG (Or.inl ⟨by rfl, ?_⟩)) (GK.drop (by simp)) ?_
 ·intro X hX
  clear hX
  go_simp
 try simp only [Act.put, zA, zB, zC]
 refine tG 4 (.bool true) (some 102) (GK.grow _) rfl (YieldsIf.toG (Or.inl ⟨by rfl, ?_⟩)) (GK.drop (by simp)) ?_
 ·intro X hX
  clear hX
  go_simp
 try simp only [Act.put, zA, zB, zC]
 have CFn : ∀ (args : Array Value) (W : World), Sem.run Tryz.prog (callFunc 29 args) W = .ok (.enter 29 args) W := fun _ _ => by kernel_rfl
 refine tG 5 (.agg #[.int .i64 5, .int .i64 5]) (some 103) (GK.grow _) rfl (yieldsG_call 29 #[] (by rfl) ?_ (fun X hS => lglobe_calls X)) (GK.drop (by simp)) ?_
 ·intro X hX
  clear hX
  go_simp
 clear CFn
 try simp only [Act.put, zA, zB, zC]
 refine only_G 6 (by kernel_rfl) rfl (fun X31 hX K' hK' => ?_)
 replace NN := Lib.hid (Bgo NN.out hX)
 replace NZ1 := Lib.hid (blk_next hX NZ1.out)
 replace HAL := Lib.hid (fun kx9 => GK.grow _ _ _ _ (HAL.out kx9) hX)
 clear hX
 go_simp
 refine hK'.out _ _ (fun _ _ h => h.alloc _) ?_
 clear hK' K'
 try simp only [Act.put, zA, zB, zC]
 have HB := Lib.hid (Bal (Below.refl X31.heap.size X31) (.cells Z9C 69))
 have NZ2 : Hid ((X31.alloc (.cells Z9C 69)).heap[X31.heap.size]? = some (.cells Z9C 69)) := Lib.hid (blk_new X31 (.cells Z9C 69))
 replace NN := Lib.hid (Bgo NN.out HB.out)
 replace NZ1 := Lib.hid (blk_next HB.out NZ1.out)
 replace HAL := Lib.hid (fun kx9 => GK.grow _ _ _ _ (HAL.out kx9) HB.out)
 clear HB
 generalize X31.alloc (.cells Z9C 69) = W32 at *
 generalize X31.heap.size = gZ2 at *
 refine only_G 7 (by kernel_rfl) rfl (fun X33 hX K' hK' => ?_)
 replace NN := Lib.hid (Bgo NN.out hX)
 replace NZ1 := Lib.hid (blk_next hX NZ1.out)
 replace NZ2 := Lib.hid (blk_next hX NZ2.out)
 replace HAL := Lib.hid (fun kx9 => GK.grow _ _ _ _ (HAL.out kx9) hX)
 clear hX
 go_simp
 refine (chk_at (A := 5) (B := 5) (l := List.replicate 9 zS) (v := 4) (n := 9) (by kernel_rfl) rfl (by decide) (zero_nm 9) NZ2.out).mono ?_
 rintro e w34 ⟨rfl, hb9⟩
 have HB9 := Lib.hid hb9
 clear hb9
 refine hK'.out _ _ (fun kk hk hS => GK.grow _ _ _ _ hS HB9.out) ?_
 clear hK' K'
 try simp only [Act.put, zA, zB, zC]
 replace NN := Lib.hid (Bgo NN.out HB9.out)
 replace NZ1 := Lib.hid (blk_next HB9.out NZ1.out)
 replace NZ2 := Lib.hid (blk_next HB9.out NZ2.out)
 replace HAL := Lib.hid (fun kx9 => GK.grow _ _ _ _ (HAL.out kx9) HB9.out)
 clear HB9
 refine tG 8 (.bool true) (some 106) (GK.grow _) rfl (YieldsIf.toG (Or.inl ⟨by rfl, ?_⟩)) (GK.drop (by simp)) ?_
 ·intro X hX
  clear hX
  go_simp
 try simp only [Act.put, zA, zB, zC]
 refine tG 9 (.bool true) (some 107) (GK.grow _) rfl (YieldsIf.toG (Or.inl ⟨by rfl, ?_⟩)) (GK.drop (by simp)) ?_
 ·intro X hX
  clear hX
  go_simp
 try simp only [Act.put, zA, zB, zC]
 refine tG 10 (.bool true) (some 108) (GK.grow _) rfl (YieldsIf.toG (Or.inl ⟨by rfl, ?_⟩)) (GK.drop (by simp)) ?_
 ·intro X hX
  clear hX
  go_simp
 try simp only [Act.put, zA, zB, zC]
 have CFn : ∀ (args : Array Value) (W : World), Sem.run Tryz.prog (callFunc 29 args) W = .ok (.enter 29 args) W := fun _ _ => by kernel_rfl
 refine tG 11 (.agg #[.int .i64 5, .int .i64 5]) (some 109) (GK.grow _) rfl (yieldsG_call 29 #[] (by rfl) ?_ (fun X hS => lglobe_calls X)) (GK.drop (by simp)) ?_
 ·intro X hX
  clear hX
  go_simp
 clear CFn
 try simp only [Act.put, zA, zB, zC]
 have CFn : ∀ (args : Array Value) (W : World), Sem.run Tryz.prog (callFunc 30 args) W = .ok (.enter 30 args) W := fun _ _ => by kernel_rfl
 refine tG 12 (.agg #[.string ⟨#[97]⟩, .int .i64 2, .int .i64 1, .int .i64 0, .int .i64 1]) (some 110) (GK.grow _) rfl (yieldsG_call 30 #[.string ⟨#[97]⟩, .int .i64 2, .int .i64 0] (by rfl) ?_ (fun X hS => lsite_calls ⟨#[97]⟩ 2 0 X)) (GK.drop (by simp)) ?_
 ·intro X hX
  clear hX
  go_simp
 clear CFn
 try simp only [Act.put, zA, zB, zC]
 refine only_G 13 (by kernel_rfl) rfl (fun X35 hX K' hK' => ?_)
 replace NN := Lib.hid (Bgo NN.out hX)
 replace NZ1 := Lib.hid (blk_next hX NZ1.out)
 replace NZ2 := Lib.hid (blk_next hX NZ2.out)
 replace HAL := Lib.hid (fun kx9 => GK.grow _ _ _ _ (HAL.out kx9) hX)
 clear hX
 go_simp
 refine hK'.out _ _ (fun _ _ h => h.alloc _) ?_
 clear hK' K'
 try simp only [Act.put, zA, zB, zC]
 have HB := Lib.hid (Bal (Below.refl X35.heap.size X35) (.cells #[.string ⟨#[97]⟩, .int .i64 2, .int .i64 1, .int .i64 0, .int .i64 1] 69))
 have NZ3 : Hid ((X35.alloc (.cells #[.string ⟨#[97]⟩, .int .i64 2, .int .i64 1, .int .i64 0, .int .i64 1] 69)).heap[X35.heap.size]? = some (.cells #[.string ⟨#[97]⟩, .int .i64 2, .int .i64 1, .int .i64 0, .int .i64 1] 69)) := Lib.hid (blk_new X35 (.cells #[.string ⟨#[97]⟩, .int .i64 2, .int .i64 1, .int .i64 0, .int .i64 1] 69))
 replace NN := Lib.hid (Bgo NN.out HB.out)
 replace NZ1 := Lib.hid (blk_next HB.out NZ1.out)
 replace NZ2 := Lib.hid (blk_next HB.out NZ2.out)
 replace HAL := Lib.hid (fun kx9 => GK.grow _ _ _ _ (HAL.out kx9) HB.out)
 clear HB
 generalize X35.alloc (.cells #[.string ⟨#[97]⟩, .int .i64 2, .int .i64 1, .int .i64 0, .int .i64 1] 69) = W36 at *
 generalize X35.heap.size = gZ3 at *
 refine only_G 14 (by kernel_rfl) rfl (fun X37 hX K' hK' => ?_)
 replace NN := Lib.hid (Bgo NN.out hX)
 replace NZ1 := Lib.hid (blk_next hX NZ1.out)
 replace NZ2 := Lib.hid (blk_next hX NZ2.out)
 replace NZ3 := Lib.hid (blk_next hX NZ3.out)
 replace HAL := Lib.hid (fun kx9 => GK.grow _ _ _ _ (HAL.out kx9) hX)
 clear hX
 go_simp
 refine (chk_at (A := 5) (B := 5) (l := [⟨⟨#[97]⟩, 2, 1, 0, 1⟩]) (v := 8) (n := 1) (by kernel_rfl) rfl (by decide) (by decide) NZ3.out).mono ?_
 rintro e w38 ⟨rfl, hb9⟩
 have HB9 := Lib.hid hb9
 clear hb9
 refine hK'.out _ _ (fun kk hk hS => GK.grow _ _ _ _ hS HB9.out) ?_
 clear hK' K'
 try simp only [Act.put, zA, zB, zC]
 replace NN := Lib.hid (Bgo NN.out HB9.out)
 replace NZ1 := Lib.hid (blk_next HB9.out NZ1.out)
 replace NZ2 := Lib.hid (blk_next HB9.out NZ2.out)
 replace NZ3 := Lib.hid (blk_next HB9.out NZ3.out)
 replace HAL := Lib.hid (fun kx9 => GK.grow _ _ _ _ (HAL.out kx9) HB9.out)
 clear HB9
 refine tG 15 (.bool true) (some 113) (GK.grow _) rfl (YieldsIf.toG (Or.inl ⟨by rfl, ?_⟩)) (GK.drop (by simp)) ?_
 ·intro X hX
  clear hX
  go_simp
 try simp only [Act.put, zA, zB, zC]
 refine tG 16 (.bool true) (some 114) (GK.grow _) rfl (YieldsIf.toG (Or.inl ⟨by rfl, ?_⟩)) (GK.drop (by simp)) ?_
 ·intro X hX
  clear hX
  go_simp
 try simp only [Act.put, zA, zB, zC]
 refine tG 17 (.bool true) (some 115) (GK.grow _) rfl (YieldsIf.toG (Or.inl ⟨by rfl, ?_⟩)) (GK.drop (by simp)) ?_
 ·intro X hX
  clear hX
  go_simp
 try simp only [Act.put, zA, zB, zC]
 have CFn : ∀ (args : Array Value) (W : World), Sem.run Tryz.prog (callFunc 29 args) W = .ok (.enter 29 args) W := fun _ _ => by kernel_rfl
 refine tG 18 (.agg #[.int .i64 5, .int .i64 5]) (some 116) (GK.grow _) rfl (yieldsG_call 29 #[] (by rfl) ?_ (fun X hS => lglobe_calls X)) (GK.drop (by simp)) ?_
 ·intro X hX
  clear hX
  go_simp
 clear CFn
 try simp only [Act.put, zA, zB, zC]
 have CFn : ∀ (args : Array Value) (W : World), Sem.run Tryz.prog (callFunc 28 args) W = .ok (.enter 28 args) W := fun _ _ => by kernel_rfl
 refine tG 19 (.int .i64 0) (some 117) (GK.grow _) rfl (yieldsG_call 28 #[.agg #[.int .i64 5, .int .i64 5], .slice none 0 0] (by rfl) ?_ (fun X hS => chk_nil X)) (GK.drop (by simp)) ?_
 ·intro X hX
  clear hX
  go_simp
 clear CFn
 try simp only [Act.put, zA, zB, zC]
 refine tG 20 (.bool true) (some 118) (GK.grow _) rfl (YieldsIf.toG (Or.inl ⟨by rfl, ?_⟩)) (GK.drop (by simp)) ?_
 ·intro X hX
  clear hX
  go_simp
 try simp only [Act.put, zA, zB, zC]
 refine tG 21 (.bool true) (some 119) (GK.grow _) rfl (YieldsIf.toG (Or.inl ⟨by rfl, ?_⟩)) (GK.drop (by simp)) ?_
 ·intro X hX
  clear hX
  go_simp
 try simp only [Act.put, zA, zB, zC]
 refine tG 22 (.bool true) (some 4) (GK.grow _) rfl (YieldsIf.toG (Or.inl ⟨by rfl, ?_⟩)) (GK.drop (by simp)) ?_
 ·intro X hX
  clear hX
  go_simp
 try simp only [Act.put, zA, zB, zC]
 clear HAL
 refine done_G (by kernel_rfl) (fun X39 hX => ?_) _
 replace NN := Lib.hid (Bgo NN.out hX)
 replace NZ1 := Lib.hid (blk_next hX NZ1.out)
 replace NZ2 := Lib.hid (blk_next hX NZ2.out)
 replace NZ3 := Lib.hid (blk_next hX NZ3.out)
 clear hX
 clear NZ1 NZ2 NZ3
 go_wp2_with fail
 refine (lglobe_calls _).mono ?_
 rintro e w40 ⟨rfl, hb⟩
 replace NN := Lib.hid (Bgo NN.out hb)
 clear hb
 go_wp2_with fail
 refine (lfive_calls _).mono ?_
 rintro e w41 ⟨gf, rfl, -, h5, hb⟩
 replace NN := Lib.hid (Bgo NN.out hb)
 clear hb
 go_wp2_with fail
 refine (five_liC 0 5 ⟨0, 0, 0, 0, 0, 0⟩ 2 (by kernel_rfl) (by kernel_rfl) h5).mono ?_
 rintro e w42 ⟨rfl, hb⟩
 replace NN := Lib.hid (Bgo NN.out hb)
 clear hb
 clear h5
 have HB := Lib.hid (show Below w42.heap.size w42 (w42.alloc (.cells #[.int .i64 0, .int .i64 0, .int .i64 0, .int .i64 0, .int .i64 0, .int .i64 0] 38)) from (Bal (Below.refl _ _) _))
 have V5 : Hid ((w42.alloc (.cells #[.int .i64 0, .int .i64 0, .int .i64 0, .int .i64 0, .int .i64 0, .int .i64 0] 38)).heap[w42.heap.size]? = some (.cells #[.int .i64 0, .int .i64 0, .int .i64 0, .int .i64 0, .int .i64 0, .int .i64 0] 38)) := Lib.hid (blk_new w42 _)
 have LT_V5 : Hid (w.heap.size ≤ w42.heap.size) := Lib.hid NN.out.size
 replace NN := Lib.hid (Bgo NN.out HB.out)
 clear HB
 go_wp2_with fail
 generalize (w42.alloc (.cells #[.int .i64 0, .int .i64 0, .int .i64 0, .int .i64 0, .int .i64 0, .int .i64 0] 38)) = W43 at *
 generalize w42.heap.size = gV5 at *
 clear V5
 refine (lglobe_calls _).mono ?_
 rintro e w44 ⟨rfl, hb⟩
 replace NN := Lib.hid (Bgo NN.out hb)
 clear hb
 go_wp2_with fail
 refine (lfive_calls _).mono ?_
 rintro e w45 ⟨gf, rfl, -, h5, hb⟩
 replace NN := Lib.hid (Bgo NN.out hb)
 clear hb
 go_wp2_with fail
 refine (five_liC (-1) 0 ⟨0, 0, 0, 0, 0, 0⟩ 2 (by kernel_rfl) (by kernel_rfl) h5).mono ?_
 rintro e w46 ⟨rfl, hb⟩
 replace NN := Lib.hid (Bgo NN.out hb)
 clear hb
 clear h5
 have HB := Lib.hid (show Below w46.heap.size w46 (w46.alloc (.cells #[.int .i64 0, .int .i64 0, .int .i64 0, .int .i64 0, .int .i64 0, .int .i64 0] 38)) from (Bal (Below.refl _ _) _))
 have V7 : Hid ((w46.alloc (.cells #[.int .i64 0, .int .i64 0, .int .i64 0, .int .i64 0, .int .i64 0, .int .i64 0] 38)).heap[w46.heap.size]? = some (.cells #[.int .i64 0, .int .i64 0, .int .i64 0, .int .i64 0, .int .i64 0, .int .i64 0] 38)) := Lib.hid (blk_new w46 _)
 have LT_V7 : Hid (w.heap.size ≤ w46.heap.size) := Lib.hid NN.out.size
 replace NN := Lib.hid (Bgo NN.out HB.out)
 clear HB
 go_wp2_with fail
 generalize (w46.alloc (.cells #[.int .i64 0, .int .i64 0, .int .i64 0, .int .i64 0, .int .i64 0, .int .i64 0] 38)) = W47 at *
 generalize w46.heap.size = gV7 at *
 clear V7
 refine (lglobe_calls _).mono ?_
 rintro e w48 ⟨rfl, hb⟩
 replace NN := Lib.hid (Bgo NN.out hb)
 clear hb
 go_wp2_with fail
 refine (lfive_calls _).mono ?_
 rintro e w49 ⟨gf, rfl, -, h5, hb⟩
 replace NN := Lib.hid (Bgo NN.out hb)
 clear hb
 go_wp2_with fail
 refine (five_liC 2 2 ⟨0, 1, 0, 1, 0, 1⟩ 0 (by kernel_rfl) (by kernel_rfl) h5).mono ?_
 rintro e w50 ⟨rfl, hb⟩
 replace NN := Lib.hid (Bgo NN.out hb)
 clear hb
 clear h5
 have HB := Lib.hid (show Below w50.heap.size w50 (w50.alloc (.cells #[.int .i64 0, .int .i64 1, .int .i64 0, .int .i64 1, .int .i64 0, .int .i64 1] 38)) from (Bal (Below.refl _ _) _))
 have V9 : Hid ((w50.alloc (.cells #[.int .i64 0, .int .i64 1, .int .i64 0, .int .i64 1, .int .i64 0, .int .i64 1] 38)).heap[w50.heap.size]? = some (.cells #[.int .i64 0, .int .i64 1, .int .i64 0, .int .i64 1, .int .i64 0, .int .i64 1] 38)) := Lib.hid (blk_new w50 _)
 have LT_V9 : Hid (w.heap.size ≤ w50.heap.size) := Lib.hid NN.out.size
 replace NN := Lib.hid (Bgo NN.out HB.out)
 clear HB
 go_wp2_with fail
 generalize (w50.alloc (.cells #[.int .i64 0, .int .i64 1, .int .i64 0, .int .i64 1, .int .i64 0, .int .i64 1] 38)) = W51 at *
 generalize w50.heap.size = gV9 at *
 refine (pairs_1 _).mono ?_
 rintro e w52 ⟨A1, c1, rfl, hb⟩
 replace NN := Lib.hid (Bgo NN.out hb)
 replace V9 := Lib.hid (blk_next hb V9.out)
 clear hb
 go_wp2_with fail
 refine (pairs_3 _).mono ?_
 rintro e w53 ⟨A3, c3, rfl, hb, h3, h33, hr3⟩
 have R3 := Lib.hid hr3
 have K3 := Lib.hid h3
 have K33 := Lib.hid h33
 clear hr3 h3 h33
 replace NN := Lib.hid (Bgo NN.out hb)
 replace V9 := Lib.hid (blk_next hb V9.out)
 clear hb
 go_wp2_with fail
 refine (pairs_bad 9 (by kernel_rfl) _).mono ?_
 rintro e w54 ⟨rfl, hb⟩
 replace NN := Lib.hid (Bgo NN.out hb)
 replace R3 := Lib.hid (Rd.next hb R3.out)
 replace V9 := Lib.hid (blk_next hb V9.out)
 clear hb
 go_wp2_with fail
 refine (pairs_bad (-1) (by kernel_rfl) _).mono ?_
 rintro e w55 ⟨rfl, hb⟩
 replace NN := Lib.hid (Bgo NN.out hb)
 replace R3 := Lib.hid (Rd.next hb R3.out)
 replace V9 := Lib.hid (blk_next hb V9.out)
 clear hb
 go_wp2_with fail
 refine (lglobe_calls _).mono ?_
 rintro e w56 ⟨rfl, hb⟩
 replace NN := Lib.hid (Bgo NN.out hb)
 replace R3 := Lib.hid (Rd.next hb R3.out)
 replace V9 := Lib.hid (blk_next hb V9.out)
 clear hb
 go_wp2_with fail
 refine (lfive_calls _).mono ?_
 rintro e w57 ⟨gf, rfl, -, h5, hb⟩
 replace NN := Lib.hid (Bgo NN.out hb)
 replace R3 := Lib.hid (Rd.next hb R3.out)
 replace V9 := Lib.hid (blk_next hb V9.out)
 clear hb
 go_wp2_with fail
 refine (five_cls8 h5).mono ?_
 rintro e w58 ⟨A8, c8, rfl, hb⟩
 replace NN := Lib.hid (Bgo NN.out hb)
 replace R3 := Lib.hid (Rd.next hb R3.out)
 replace V9 := Lib.hid (blk_next hb V9.out)
 clear hb
 clear h5
 go_wp2_with fail
 refine (lglobe_calls _).mono ?_
 rintro e w59 ⟨rfl, hb⟩
 replace NN := Lib.hid (Bgo NN.out hb)
 replace R3 := Lib.hid (Rd.next hb R3.out)
 replace V9 := Lib.hid (blk_next hb V9.out)
 clear hb
 go_wp2_with fail
 refine (lfive_calls _).mono ?_
 rintro e w60 ⟨gf, rfl, -, h5, hb⟩
 replace NN := Lib.hid (Bgo NN.out hb)
 replace R3 := Lib.hid (Rd.next hb R3.out)
 replace V9 := Lib.hid (blk_next hb V9.out)
 clear hb
 go_wp2_with fail
 refine (five_cls1 h5).mono ?_
 rintro e w61 ⟨A9, c9, rfl, hb⟩
 replace NN := Lib.hid (Bgo NN.out hb)
 replace R3 := Lib.hid (Rd.next hb R3.out)
 replace V9 := Lib.hid (blk_next hb V9.out)
 clear hb
 clear h5
 go_wp2_with fail
 refine (lglobe_calls _).mono ?_
 rintro e w62 ⟨rfl, hb⟩
 replace NN := Lib.hid (Bgo NN.out hb)
 replace R3 := Lib.hid (Rd.next hb R3.out)
 replace V9 := Lib.hid (blk_next hb V9.out)
 clear hb
 go_wp2_with fail
 refine (lfive_calls _).mono ?_
 rintro e w63 ⟨gf, rfl, -, h5, hb⟩
 replace NN := Lib.hid (Bgo NN.out hb)
 replace R3 := Lib.hid (Rd.next hb R3.out)
 replace V9 := Lib.hid (blk_next hb V9.out)
 clear hb
 go_wp2_with fail
 have H5 := Lib.hid h5
 clear h5
 have HB := Lib.hid (Bal (Below.refl w63.heap.size w63) (.cells (lv [4, 3, 2, 1, 0]).toArray 3))
 have NB := Lib.hid (blk_new w63 (.cells (lv [4, 3, 2, 1, 0]).toArray 3))
 replace NN := Lib.hid (Bgo NN.out HB.out)
 replace R3 := Lib.hid (Rd.next HB.out R3.out)
 replace H5 := Lib.hid (blk_next HB.out H5.out)
 replace V9 := Lib.hid (blk_next HB.out V9.out)
 clear HB
 refine (five_ord H5.out NB.out).mono ?_
 rintro e w64 ⟨go, rfl, hgo, hb⟩
 have RV := Lib.hid hgo
 clear hgo
 replace NN := Lib.hid (Bgo NN.out hb)
 replace R3 := Lib.hid (Rd.next hb R3.out)
 replace H5 := Lib.hid (blk_next hb H5.out)
 replace V9 := Lib.hid (blk_next hb V9.out)
 clear hb
 clear NB H5
 go_wp2_with fail
 refine (lglobe_calls _).mono ?_
 rintro e w65 ⟨rfl, hb⟩
 replace NN := Lib.hid (Bgo NN.out hb)
 replace R3 := Lib.hid (Rd.next hb R3.out)
 replace RV := Lib.hid (blk_next hb RV.out)
 replace V9 := Lib.hid (blk_next hb V9.out)
 clear hb
 go_wp2_with fail
 refine (lfive_calls _).mono ?_
 rintro e w66 ⟨gf, rfl, -, h5, hb⟩
 replace NN := Lib.hid (Bgo NN.out hb)
 replace R3 := Lib.hid (Rd.next hb R3.out)
 replace RV := Lib.hid (blk_next hb RV.out)
 replace V9 := Lib.hid (blk_next hb V9.out)
 clear hb
 go_wp2_with fail
 have H5 := Lib.hid h5
 clear h5
 have HB := Lib.hid (Bal (Below.refl w66.heap.size w66) (.cells (lv [0, 1, 2, 3]).toArray 3))
 have NB := Lib.hid (blk_new w66 (.cells (lv [0, 1, 2, 3]).toArray 3))
 replace NN := Lib.hid (Bgo NN.out HB.out)
 replace R3 := Lib.hid (Rd.next HB.out R3.out)
 replace RV := Lib.hid (blk_next HB.out RV.out)
 replace H5 := Lib.hid (blk_next HB.out H5.out)
 replace V9 := Lib.hid (blk_next HB.out V9.out)
 clear HB
 refine (five_ordno [0, 1, 2, 3] 4 rfl (by decide) (by kernel_rfl) H5.out NB.out).mono ?_
 rintro e w67 ⟨rfl, hb⟩
 replace NN := Lib.hid (Bgo NN.out hb)
 replace R3 := Lib.hid (Rd.next hb R3.out)
 replace RV := Lib.hid (blk_next hb RV.out)
 replace H5 := Lib.hid (blk_next hb H5.out)
 replace V9 := Lib.hid (blk_next hb V9.out)
 clear hb
 clear NB H5
 go_wp2_with fail
 refine (lglobe_calls _).mono ?_
 rintro e w68 ⟨rfl, hb⟩
 replace NN := Lib.hid (Bgo NN.out hb)
 replace R3 := Lib.hid (Rd.next hb R3.out)
 replace RV := Lib.hid (blk_next hb RV.out)
 replace V9 := Lib.hid (blk_next hb V9.out)
 clear hb
 go_wp2_with fail
 refine (lfive_calls _).mono ?_
 rintro e w69 ⟨gf, rfl, -, h5, hb⟩
 replace NN := Lib.hid (Bgo NN.out hb)
 replace R3 := Lib.hid (Rd.next hb R3.out)
 replace RV := Lib.hid (blk_next hb RV.out)
 replace V9 := Lib.hid (blk_next hb V9.out)
 clear hb
 go_wp2_with fail
 have H5 := Lib.hid h5
 clear h5
 have HB := Lib.hid (Bal (Below.refl w69.heap.size w69) (.cells (lv [0, 1, 2, 3, 3]).toArray 3))
 have NB := Lib.hid (blk_new w69 (.cells (lv [0, 1, 2, 3, 3]).toArray 3))
 replace NN := Lib.hid (Bgo NN.out HB.out)
 replace R3 := Lib.hid (Rd.next HB.out R3.out)
 replace RV := Lib.hid (blk_next HB.out RV.out)
 replace H5 := Lib.hid (blk_next HB.out H5.out)
 replace V9 := Lib.hid (blk_next HB.out V9.out)
 clear HB
 refine (five_ordno [0, 1, 2, 3, 3] 5 rfl (by decide) (by kernel_rfl) H5.out NB.out).mono ?_
 rintro e w70 ⟨rfl, hb⟩
 replace NN := Lib.hid (Bgo NN.out hb)
 replace R3 := Lib.hid (Rd.next hb R3.out)
 replace RV := Lib.hid (blk_next hb RV.out)
 replace H5 := Lib.hid (blk_next hb H5.out)
 replace V9 := Lib.hid (blk_next hb V9.out)
 clear hb
 clear NB H5
 go_wp2_with fail
 refine (lglobe_calls _).mono ?_
 rintro e w71 ⟨rfl, hb⟩
 replace NN := Lib.hid (Bgo NN.out hb)
 replace R3 := Lib.hid (Rd.next hb R3.out)
 replace RV := Lib.hid (blk_next hb RV.out)
 replace V9 := Lib.hid (blk_next hb V9.out)
 clear hb
 go_wp2_with fail
 refine (lfive_calls _).mono ?_
 rintro e w72 ⟨gf, rfl, -, h5, hb⟩
 replace NN := Lib.hid (Bgo NN.out hb)
 replace R3 := Lib.hid (Rd.next hb R3.out)
 replace RV := Lib.hid (blk_next hb RV.out)
 replace V9 := Lib.hid (blk_next hb V9.out)
 clear hb
 go_wp2_with fail
 have H5 := Lib.hid h5
 clear h5
 have HB := Lib.hid (Bal (Below.refl w72.heap.size w72) (.cells (lv [0, 1, 2, 3, 5]).toArray 3))
 have NB := Lib.hid (blk_new w72 (.cells (lv [0, 1, 2, 3, 5]).toArray 3))
 replace NN := Lib.hid (Bgo NN.out HB.out)
 replace R3 := Lib.hid (Rd.next HB.out R3.out)
 replace RV := Lib.hid (blk_next HB.out RV.out)
 replace H5 := Lib.hid (blk_next HB.out H5.out)
 replace V9 := Lib.hid (blk_next HB.out V9.out)
 clear HB
 refine (five_ordno [0, 1, 2, 3, 5] 5 rfl (by decide) (by kernel_rfl) H5.out NB.out).mono ?_
 rintro e w73 ⟨rfl, hb⟩
 replace NN := Lib.hid (Bgo NN.out hb)
 replace R3 := Lib.hid (Rd.next hb R3.out)
 replace RV := Lib.hid (blk_next hb RV.out)
 replace H5 := Lib.hid (blk_next hb H5.out)
 replace V9 := Lib.hid (blk_next hb V9.out)
 clear hb
 clear NB H5
 go_wp2_with fail
 have ERV : (rev5.flatMap st5).toArray = #[.string ⟨#[101]⟩, .int .i64 (-1), .int .i64 1, .int .i64 0, .int .i64 1, .string ⟨#[100]⟩, .int .i64 1, .int .i64 1, .int .i64 0, .int .i64 1, .string ⟨#[99]⟩, .int .i64 0, .int .i64 1, .int .i64 (-1), .int .i64 1, .string ⟨#[98]⟩, .int .i64 0, .int .i64 1, .int .i64 1, .int .i64 1, .string ⟨#[97]⟩, .int .i64 0, .int .i64 1, .int .i64 0, .int .i64 1] := by kernel_rfl
 rw [ERV] at RV
 clear ERV
 obtain ⟨zz, hzz⟩ : ∃ z : V6, z = ⟨0, 1, 0, 1, 0, 1⟩ := ⟨_, rfl⟩
 have ZC := Lib.hid (fun W => by have h := lof_calls 0 0 0 W; rw [← hzz] at h; exact h)
 replace V9 : Hid (w73.heap[gV9]? = some (.cells (v6 zz).toArray 38)) := by rw [hzz]; exact V9
 clear hzz
 have HDRW := Lib.hid (Below.drew (Below.refl w73.heap.size w73))
 replace NN := Lib.hid (Bgo NN.out HDRW.out)
 replace R3 := Lib.hid (Rd.next HDRW.out R3.out)
 replace V9 := Lib.hid (blk_next HDRW.out V9.out)
 replace RV := Lib.hid (blk_next HDRW.out RV.out)
 clear HDRW
 have HAL : Hid (∀ kx9 : Nat, GK [(11, gV9, .cells #[.int .i64 zz.x1, .int .i64 zz.x2, .int .i64 zz.y1, .int .i64 zz.y2, .int .i64 zz.z1, .int .i64 zz.z2] 38), (74, go, .cells #[.string ⟨#[101]⟩, .int .i64 (-1), .int .i64 1, .int .i64 0, .int .i64 1, .string ⟨#[100]⟩, .int .i64 1, .int .i64 1, .int .i64 0, .int .i64 1, .string ⟨#[99]⟩, .int .i64 0, .int .i64 1, .int .i64 (-1), .int .i64 1, .string ⟨#[98]⟩, .int .i64 0, .int .i64 1, .int .i64 1, .int .i64 1, .string ⟨#[97]⟩, .int .i64 0, .int .i64 1, .int .i64 0, .int .i64 1] 69)] kx9 w73.drew) := Lib.hid (fun kx9 => fun px9 hp e => by
  simp only [List.mem_cons, List.not_mem_nil, or_false] at hp
  rcases hp with rfl | rfl
  ·exact V9.out
  ·exact RV.out
 )
 refine region_H (S := GK [(11, gV9, .cells #[.int .i64 zz.x1, .int .i64 zz.x2, .int .i64 zz.y1, .int .i64 zz.y2, .int .i64 zz.z1, .int .i64 zz.z2] 38), (74, go, .cells #[.string ⟨#[101]⟩, .int .i64 (-1), .int .i64 1, .int .i64 0, .int .i64 1, .string ⟨#[100]⟩, .int .i64 1, .int .i64 1, .int .i64 0, .int .i64 1, .string ⟨#[99]⟩, .int .i64 0, .int .i64 1, .int .i64 (-1), .int .i64 1, .string ⟨#[98]⟩, .int .i64 0, .int .i64 1, .int .i64 1, .int .i64 1, .string ⟨#[97]⟩, .int .i64 0, .int .i64 1, .int .i64 0, .int .i64 1] 69)]) (by kernel_rfl) (by kernel_rfl) (by kernel_rfl) ?_
 intro HC9
 refine take_H 0 (.int .i64 2) (some 195) (GK.grow _) HC9 rfl (by kernel_rfl) rfl (fun _ _ _ h => h) (YieldsIf.toG (Or.inl ⟨by rfl, ?_⟩)) (GK.drop (by simp)) ?_
 ·intro X hX
  clear hX
  go_simp
 clear HC9
 intro HC9
 try simp only [Act.put, zA, zB, zC]
 refine take_H 1 (.bool true) (some 196) (GK.grow _) HC9 rfl (by kernel_rfl) rfl (fun _ _ _ h => h) (YieldsIf.toG (Or.inl ⟨by rfl, ?_⟩)) (GK.drop (by simp)) ?_
 ·intro X hX
  clear hX
  go_simp
 clear HC9
 intro HC9
 try simp only [Act.put, zA, zB, zC]
 refine take_H 2 (.bool true) (some 197) (GK.grow _) HC9 rfl (by kernel_rfl) rfl (fun _ _ _ h => h) (YieldsIf.toG (Or.inl ⟨by rfl, ?_⟩)) (GK.drop (by simp)) ?_
 ·intro X hX
  clear hX
  go_simp
 clear HC9
 intro HC9
 try simp only [Act.put, zA, zB, zC]
 refine take_H 3 (.int .i64 2) (some 198) (GK.grow _) HC9 rfl (by kernel_rfl) rfl (fun _ _ _ h => h) (YieldsIf.toG (Or.inl ⟨by rfl, ?_⟩)) (GK.drop (by simp)) ?_
 ·intro X hX
  clear hX
  go_simp
 clear HC9
 intro HC9
 try simp only [Act.put, zA, zB, zC]
 refine take_H 4 (.bool true) (some 199) (GK.grow _) HC9 rfl (by kernel_rfl) rfl (fun _ _ _ h => h) (YieldsIf.toG (Or.inl ⟨by rfl, ?_⟩)) (GK.drop (by simp)) ?_
 ·intro X hX
  clear hX
  go_simp
 clear HC9
 intro HC9
 try simp only [Act.put, zA, zB, zC]
 refine take_H 5 (.bool true) (some 200) (GK.grow _) HC9 rfl (by kernel_rfl) rfl (fun _ _ _ h => h) (YieldsIf.toG (Or.inl ⟨by rfl, ?_⟩)) (GK.drop (by simp)) ?_
 ·intro X hX
  clear hX
  go_simp
 clear HC9
 intro HC9
 try simp only [Act.put, zA, zB, zC]
 refine take_H 6 (.bool true) (some 201) (GK.grow _) HC9 rfl (by kernel_rfl) rfl (fun _ _ _ h => h) (YieldsIf.toG (Or.inl ⟨by rfl, ?_⟩)) (GK.drop (by simp)) ?_
 ·intro X hX
  clear hX
  go_simp
 clear HC9
 intro HC9
 try simp only [Act.put, zA, zB, zC]
 refine take_H 7 (.int .i64 0) (some 202) (GK.grow _) HC9 rfl (by kernel_rfl) rfl (fun _ _ _ h => h) (YieldsIf.toG (Or.inl ⟨by rfl, ?_⟩)) (GK.drop (by simp)) ?_
 ·intro X hX
  clear hX
  go_simp
 clear HC9
 intro HC9
 try simp only [Act.put, zA, zB, zC]
 refine take_H 8 (.bool true) (some 203) (GK.grow _) HC9 rfl (by kernel_rfl) rfl (fun _ _ _ h => h) (YieldsIf.toG (Or.inl ⟨by rfl, ?_⟩)) (GK.drop (by simp)) ?_
 ·intro X hX
  clear hX
  go_simp
 clear HC9
 intro HC9
 try simp only [Act.put, zA, zB, zC]
 refine take_H 9 (.bool true) (some 204) (GK.grow _) HC9 rfl (by kernel_rfl) rfl (fun _ _ _ h => h) (YieldsIf.toG (Or.inl ⟨by rfl, ?_⟩)) (GK.drop (by simp)) ?_
 ·intro X hX
  clear hX
  go_simp
 clear HC9
 intro HC9
 try simp only [Act.put, zA, zB, zC]
 refine take_H 10 (.bool true) (some 205) (GK.grow _) HC9 rfl (by kernel_rfl) rfl (fun _ _ _ h => h) (YieldsIf.toG (Or.inl ⟨by rfl, ?_⟩)) (GK.drop (by simp)) ?_
 ·intro X hX
  clear hX
  go_simp
 clear HC9
 intro HC9
 try simp only [Act.put, zA, zB, zC]
 refine take_H 11 (.agg #[.int .i64 zz.x1, .int .i64 zz.x2, .int .i64 zz.y1, .int .i64 zz.y2, .int .i64 zz.z1, .int .i64 zz.z2]) (some 206) (GK.grow _) HC9 rfl (by kernel_rfl) rfl (fun _ _ _ h => h) (YieldsIf.toG (Or.inl ⟨by rfl, ?_⟩)) (HAL.out 11) ?_
 ·intro X hX
  have hh := hX (11, gV9, .cells #[.int .i64 zz.x1, .int .i64 zz.x2, .int .i64 zz.y1, .int .i64 zz.y2, .int .i64 zz.z1, .int .i64 zz.z2] 38) (List.Mem.head _) rfl
  have hh0 := blk_cell hh 0 _ rfl
  have hh1 := blk_cell hh 1 _ rfl
  have hh2 := blk_cell hh 2 _ rfl
  have hh3 := blk_cell hh 3 _ rfl
  have hh4 := blk_cell hh 4 _ rfl
  have hh5 := blk_cell hh 5 _ rfl
  have hhl := blk_lt hh
  clear hh
  clear hX
  go_simp
 clear HC9
 intro HC9
 try simp only [Act.put, zA, zB, zC]
 have CFn : ∀ (args : Array Value) (W : World), Sem.run Tryz.prog (callFunc 15 args) W = .ok (.enter 15 args) W := fun _ _ => by kernel_rfl
 refine take_H 12 (.agg #[.int .i64 zz.x1, .int .i64 zz.x2, .int .i64 zz.y1, .int .i64 zz.y2, .int .i64 zz.z1, .int .i64 zz.z2]) (some 207) (GK.grow _) HC9 rfl (by kernel_rfl) rfl (fun _ _ _ h => h) (yieldsG_call 15 #[.int .i64 0, .int .i64 0, .int .i64 0] (by rfl) ?_ (fun X hS => ZC.out X)) (GK.drop (by simp)) ?_
 ·intro X hX
  clear hX
  go_simp
 clear CFn
 clear HC9
 intro HC9
 try simp only [Act.put, zA, zB, zC]
 refine take_H 13 (.bool true) (some 208) (GK.grow _) HC9 rfl (by kernel_rfl) rfl (fun _ _ _ h => h) (YieldsIf.toG (Or.inl ⟨by rfl, ?_⟩)) (GK.drop (by simp)) ?_
 ·intro X hX
  clear hX
  go_simp
 clear HC9
 intro HC9
 try simp only [Act.put, zA, zB, zC]
 refine take_H 14 (.bool true) (some 209) (GK.grow _) HC9 rfl (by kernel_rfl) rfl (fun _ _ _ h => h) (YieldsIf.toG (Or.inl ⟨by rfl, ?_⟩)) (GK.drop (by simp)) ?_
 ·intro X hX
  clear hX
  go_simp
 clear HC9
 intro HC9
 try simp only [Act.put, zA, zB, zC]
 refine take_H 15 (.bool true) (some 210) (GK.grow _) HC9 rfl (by kernel_rfl) rfl (fun _ _ _ h => h) (YieldsIf.toG (Or.inl ⟨by rfl, ?_⟩)) (GK.drop (by simp)) ?_
 ·intro X hX
  clear hX
  go_simp
 clear HC9
 intro HC9
 try simp only [Act.put, zA, zB, zC]
 refine take_H 16 (.int .i64 0) (some 211) (GK.grow _) HC9 rfl (by kernel_rfl) rfl (fun _ _ _ h => h) (YieldsIf.toG (Or.inl ⟨by rfl, ?_⟩)) (GK.drop (by simp)) ?_
 ·intro X hX
  clear hX
  go_simp
 clear HC9
 intro HC9
 try simp only [Act.put, zA, zB, zC]
 refine take_H 17 (.bool true) (some 212) (GK.grow _) HC9 rfl (by kernel_rfl) rfl (fun _ _ _ h => h) (YieldsIf.toG (Or.inl ⟨by rfl, ?_⟩)) (GK.drop (by simp)) ?_
 ·intro X hX
  clear hX
  go_simp
 clear HC9
 intro HC9
 try simp only [Act.put, zA, zB, zC]
 refine take_H 18 (.bool true) (some 213) (GK.grow _) HC9 rfl (by kernel_rfl) rfl (fun _ _ _ h => h) (YieldsIf.toG (Or.inl ⟨by rfl, ?_⟩)) (GK.drop (by simp)) ?_
 ·intro X hX
  clear hX
  go_simp
 clear HC9
 intro HC9
 try simp only [Act.put, zA, zB, zC]
 refine take_H 19 (.bool true) (some 214) (GK.grow _) HC9 rfl (by kernel_rfl) rfl (fun _ _ _ h => h) (YieldsIf.toG (Or.inl ⟨by rfl, ?_⟩)) (GK.drop (by simp)) ?_
 ·intro X hX
  clear hX
  go_simp
 clear HC9
 intro HC9
 try simp only [Act.put, zA, zB, zC]
 refine take_H 20 (.slice A1 0 c1) (some 215) (GK.grow _) HC9 rfl (by kernel_rfl) rfl (fun _ _ _ h => h) (YieldsIf.toG (Or.inl ⟨by rfl, ?_⟩)) (GK.drop (by simp)) ?_
 ·intro X hX
  clear hX
  go_simp
 clear HC9
 intro HC9
 try simp only [Act.put, zA, zB, zC]
 refine take_H 21 (.int .i64 (0 : Nat)) (some 216) (GK.grow _) HC9 rfl (by kernel_rfl) rfl (fun _ _ _ h => h) (YieldsIf.toG (Or.inl ⟨by rfl, ?_⟩)) (GK.drop (by simp)) ?_
 ·intro X hX
  clear hX
  go_simp
 clear HC9
 intro HC9
 try simp only [Act.put, zA, zB, zC]
 refine take_H 22 (.bool true) (some 217) (GK.grow _) HC9 rfl (by kernel_rfl) rfl (fun _ _ _ h => h) (YieldsIf.toG (Or.inl ⟨by rfl, ?_⟩)) (GK.drop (by simp)) ?_
 ·intro X hX
  clear hX
  go_simp
 clear HC9
 intro HC9
 try simp only [Act.put, zA, zB, zC]
 refine take_H 23 (.bool true) (some 218) (GK.grow _) HC9 rfl (by kernel_rfl) rfl (fun _ _ _ h => h) (YieldsIf.toG (Or.inl ⟨by rfl, ?_⟩)) (GK.drop (by simp)) ?_
 ·intro X hX
  clear hX
  go_simp
 clear HC9
 intro HC9
 try simp only [Act.put, zA, zB, zC]
 refine take_H 24 (.bool true) (some 219) (GK.grow _) HC9 rfl (by kernel_rfl) rfl (fun _ _ _ h => h) (YieldsIf.toG (Or.inl ⟨by rfl, ?_⟩)) (GK.drop (by simp)) ?_
 ·intro X hX
  clear hX
  go_simp
 clear HC9
 intro HC9
 try simp only [Act.put, zA, zB, zC]
 refine take_H 25 (.int .i64 0) (some 220) (GK.grow _) HC9 rfl (by kernel_rfl) rfl (fun _ _ _ h => h) (YieldsIf.toG (Or.inl ⟨by rfl, ?_⟩)) (GK.drop (by simp)) ?_
 ·intro X hX
  clear hX
  go_simp
 clear HC9
 intro HC9
 try simp only [Act.put, zA, zB, zC]
 refine take_H 26 (.bool true) (some 221) (GK.grow _) HC9 rfl (by kernel_rfl) rfl (fun _ _ _ h => h) (YieldsIf.toG (Or.inl ⟨by rfl, ?_⟩)) (GK.drop (by simp)) ?_
 ·intro X hX
  clear hX
  go_simp
 clear HC9
 intro HC9
 try simp only [Act.put, zA, zB, zC]
 refine take_H 27 (.bool true) (some 222) (GK.grow _) HC9 rfl (by kernel_rfl) rfl (fun _ _ _ h => h) (YieldsIf.toG (Or.inl ⟨by rfl, ?_⟩)) (GK.drop (by simp)) ?_
 ·intro X hX
  clear hX
  go_simp
 clear HC9
 intro HC9
 try simp only [Act.put, zA, zB, zC]
 refine take_H 28 (.bool true) (some 223) (GK.grow _) HC9 rfl (by kernel_rfl) rfl (fun _ _ _ h => h) (YieldsIf.toG (Or.inl ⟨by rfl, ?_⟩)) (GK.drop (by simp)) ?_
 ·intro X hX
  clear hX
  go_simp
 clear HC9
 intro HC9
 try simp only [Act.put, zA, zB, zC]
 refine take_H 29 (.slice A3 3 c3) (some 224) (GK.grow _) HC9 rfl (by kernel_rfl) rfl (fun _ _ _ h => h) (YieldsIf.toG (Or.inl ⟨by rfl, ?_⟩)) (GK.drop (by simp)) ?_
 ·intro X hX
  clear hX
  go_simp
 clear HC9
 intro HC9
 try simp only [Act.put, zA, zB, zC]
 refine take_H 30 (.agg #[.int .i64 0, .int .i64 1]) (some 225) (GK.grow _) HC9 rfl (by kernel_rfl) rfl (fun _ _ _ h => h) (YieldsIf.toG (Or.inl ⟨by rfl, ?_⟩)) (GK.drop (by simp)) ?_
 ·intro X hX
  clear hX
  go_simp
 clear HC9
 intro HC9
 try simp only [Act.put, zA, zB, zC]
 refine take_H 31 (.agg #[.int .i64 0, .int .i64 2]) (some 226) (GK.grow _) HC9 rfl (by kernel_rfl) rfl (fun _ _ _ h => h) (YieldsIf.toG (Or.inl ⟨by rfl, ?_⟩)) (GK.drop (by simp)) ?_
 ·intro X hX
  clear hX
  go_simp
 clear HC9
 intro HC9
 try simp only [Act.put, zA, zB, zC]
 refine take_H 32 (.agg #[.int .i64 1, .int .i64 2]) (some 227) (GK.grow _) HC9 rfl (by kernel_rfl) rfl (fun _ _ _ h => h) (YieldsIf.toG (Or.inl ⟨by rfl, ?_⟩)) (GK.drop (by simp)) ?_
 ·intro X hX
  clear hX
  go_simp
 clear HC9
 intro HC9
 try simp only [Act.put, zA, zB, zC]
 replace HC9 := HC9.set (readyB_mem (i := 33) (by kernel_rfl))
 refine only_G 33 (by kernel_rfl) rfl (fun X74 hX K' hK' => ?_)
 replace NN := Lib.hid (Bgo NN.out hX)
 replace R3 := Lib.hid (Rd.next hX R3.out)
 replace V9 := Lib.hid (blk_next hX V9.out)
 replace RV := Lib.hid (blk_next hX RV.out)
 replace HAL := Lib.hid (fun kx9 => GK.grow _ _ _ _ (HAL.out kx9) hX)
 clear hX
 go_simp
 refine hK'.out _ _ (fun _ _ h => h.alloc _) ?_
 clear hK' K'
 try simp only [Act.put, zA, zB, zC]
 have HB := Lib.hid (Bal (Below.refl X74.heap.size X74) (.cells #[.int .i64 0, .int .i64 1, .int .i64 0, .int .i64 2, .int .i64 1, .int .i64 2] 43))
 have NP3 : Hid ((X74.alloc (.cells #[.int .i64 0, .int .i64 1, .int .i64 0, .int .i64 2, .int .i64 1, .int .i64 2] 43)).heap[X74.heap.size]? = some (.cells #[.int .i64 0, .int .i64 1, .int .i64 0, .int .i64 2, .int .i64 1, .int .i64 2] 43)) := Lib.hid (blk_new X74 (.cells #[.int .i64 0, .int .i64 1, .int .i64 0, .int .i64 2, .int .i64 1, .int .i64 2] 43))
 replace NN := Lib.hid (Bgo NN.out HB.out)
 replace R3 := Lib.hid (Rd.next HB.out R3.out)
 replace V9 := Lib.hid (blk_next HB.out V9.out)
 replace RV := Lib.hid (blk_next HB.out RV.out)
 replace HAL := Lib.hid (fun kx9 => GK.grow _ _ _ _ (HAL.out kx9) HB.out)
 clear HB
 generalize X74.alloc (.cells #[.int .i64 0, .int .i64 1, .int .i64 0, .int .i64 2, .int .i64 1, .int .i64 2] 43) = W75 at *
 generalize X74.heap.size = gP3 at *
 replace HC9 := HC9.set (readyB_mem (i := 34) (by kernel_rfl))
 refine only_G 34 (by kernel_rfl) rfl (fun X76 hX K' hK' => ?_)
 replace NN := Lib.hid (Bgo NN.out hX)
 replace R3 := Lib.hid (Rd.next hX R3.out)
 replace NP3 := Lib.hid (blk_next hX NP3.out)
 replace V9 := Lib.hid (blk_next hX V9.out)
 replace RV := Lib.hid (blk_next hX RV.out)
 replace HAL := Lib.hid (fun kx9 => GK.grow _ _ _ _ (HAL.out kx9) hX)
 clear hX
 go_simp
 refine (sameP_calls A3 (some ⟨gP3, 0, none⟩) c3 3 [(0, 1), (0, 2), (1, 2)] _ R3.out (Rd.blk NP3.out rfl) K3.out K33.out (by decide) (by decide)).mono ?_
 rintro e w77 ⟨rfl, hb9⟩
 have HB9 := Lib.hid hb9
 clear hb9
 refine hK'.out _ _ (fun kk hk hS => GK.grow _ _ _ _ hS HB9.out) ?_
 clear hK' K'
 try simp only [Act.put, zA, zB, zC]
 replace NN := Lib.hid (Bgo NN.out HB9.out)
 replace R3 := Lib.hid (Rd.next HB9.out R3.out)
 replace NP3 := Lib.hid (blk_next HB9.out NP3.out)
 replace V9 := Lib.hid (blk_next HB9.out V9.out)
 replace RV := Lib.hid (blk_next HB9.out RV.out)
 replace HAL := Lib.hid (fun kx9 => GK.grow _ _ _ _ (HAL.out kx9) HB9.out)
 clear HB9
 refine take_H 35 (.bool true) (some 230) (GK.grow _) HC9 rfl (by kernel_rfl) rfl (fun _ _ _ h => h) (YieldsIf.toG (Or.inl ⟨by rfl, ?_⟩)) (GK.drop (by simp)) ?_
 ·intro X hX
  clear hX
  go_simp
 clear HC9
 intro HC9
 try simp only [Act.put, zA, zB, zC]
 refine take_H 36 (.bool true) (some 231) (GK.grow _) HC9 rfl (by kernel_rfl) rfl (fun _ _ _ h => h) (YieldsIf.toG (Or.inl ⟨by rfl, ?_⟩)) (GK.drop (by simp)) ?_
 ·intro X hX
  clear hX
  go_simp
 clear HC9
 intro HC9
 try simp only [Act.put, zA, zB, zC]
 refine take_H 37 (.int .i64 2) (some 232) (GK.grow _) HC9 rfl (by kernel_rfl) rfl (fun _ _ _ h => h) (YieldsIf.toG (Or.inl ⟨by rfl, ?_⟩)) (GK.drop (by simp)) ?_
 ·intro X hX
  clear hX
  go_simp
 clear HC9
 intro HC9
 try simp only [Act.put, zA, zB, zC]
 refine take_H 38 (.bool true) (some 233) (GK.grow _) HC9 rfl (by kernel_rfl) rfl (fun _ _ _ h => h) (YieldsIf.toG (Or.inl ⟨by rfl, ?_⟩)) (GK.drop (by simp)) ?_
 ·intro X hX
  clear hX
  go_simp
 clear HC9
 intro HC9
 try simp only [Act.put, zA, zB, zC]
 refine take_H 39 (.bool true) (some 234) (GK.grow _) HC9 rfl (by kernel_rfl) rfl (fun _ _ _ h => h) (YieldsIf.toG (Or.inl ⟨by rfl, ?_⟩)) (GK.drop (by simp)) ?_
 ·intro X hX
  clear hX
  go_simp
 clear HC9
 intro HC9
 try simp only [Act.put, zA, zB, zC]
 refine take_H 40 (.bool true) (some 235) (GK.grow _) HC9 rfl (by kernel_rfl) rfl (fun _ _ _ h => h) (YieldsIf.toG (Or.inl ⟨by rfl, ?_⟩)) (GK.drop (by simp)) ?_
 ·intro X hX
  clear hX
  go_simp
 clear HC9
 intro HC9
 try simp only [Act.put, zA, zB, zC]
 refine take_H 41 (.int .i64 2) (some 236) (GK.grow _) HC9 rfl (by kernel_rfl) rfl (fun _ _ _ h => h) (YieldsIf.toG (Or.inl ⟨by rfl, ?_⟩)) (GK.drop (by simp)) ?_
 ·intro X hX
  clear hX
  go_simp
 clear HC9
 intro HC9
 try simp only [Act.put, zA, zB, zC]
 refine take_H 42 (.bool true) (some 237) (GK.grow _) HC9 rfl (by kernel_rfl) rfl (fun _ _ _ h => h) (YieldsIf.toG (Or.inl ⟨by rfl, ?_⟩)) (GK.drop (by simp)) ?_
 ·intro X hX
  clear hX
  go_simp
 clear HC9
 intro HC9
 try simp only [Act.put, zA, zB, zC]
 refine take_H 43 (.bool true) (some 238) (GK.grow _) HC9 rfl (by kernel_rfl) rfl (fun _ _ _ h => h) (YieldsIf.toG (Or.inl ⟨by rfl, ?_⟩)) (GK.drop (by simp)) ?_
 ·intro X hX
  clear hX
  go_simp
 clear HC9
 intro HC9
 try simp only [Act.put, zA, zB, zC]
 refine take_H 44 (.bool true) (some 239) (GK.grow _) HC9 rfl (by kernel_rfl) rfl (fun _ _ _ h => h) (YieldsIf.toG (Or.inl ⟨by rfl, ?_⟩)) (GK.drop (by simp)) ?_
 ·intro X hX
  clear hX
  go_simp
 clear HC9
 intro HC9
 try simp only [Act.put, zA, zB, zC]
 refine take_H 45 (.int .i64 0) (some 240) (GK.grow _) HC9 rfl (by kernel_rfl) rfl (fun _ _ _ h => h) (YieldsIf.toG (Or.inl ⟨by rfl, ?_⟩)) (GK.drop (by simp)) ?_
 ·intro X hX
  clear hX
  go_simp
 clear HC9
 intro HC9
 try simp only [Act.put, zA, zB, zC]
 refine take_H 46 (.bool true) (some 241) (GK.grow _) HC9 rfl (by kernel_rfl) rfl (fun _ _ _ h => h) (YieldsIf.toG (Or.inl ⟨by rfl, ?_⟩)) (GK.drop (by simp)) ?_
 ·intro X hX
  clear hX
  go_simp
 clear HC9
 intro HC9
 try simp only [Act.put, zA, zB, zC]
 refine take_H 47 (.bool true) (some 242) (GK.grow _) HC9 rfl (by kernel_rfl) rfl (fun _ _ _ h => h) (YieldsIf.toG (Or.inl ⟨by rfl, ?_⟩)) (GK.drop (by simp)) ?_
 ·intro X hX
  clear hX
  go_simp
 clear HC9
 intro HC9
 try simp only [Act.put, zA, zB, zC]
 refine take_H 48 (.bool true) (some 243) (GK.grow _) HC9 rfl (by kernel_rfl) rfl (fun _ _ _ h => h) (YieldsIf.toG (Or.inl ⟨by rfl, ?_⟩)) (GK.drop (by simp)) ?_
 ·intro X hX
  clear hX
  go_simp
 clear HC9
 intro HC9
 try simp only [Act.put, zA, zB, zC]
 refine take_H 49 (.slice A8 8 c8) (some 244) (GK.grow _) HC9 rfl (by kernel_rfl) rfl (fun _ _ _ h => h) (YieldsIf.toG (Or.inl ⟨by rfl, ?_⟩)) (GK.drop (by simp)) ?_
 ·intro X hX
  clear hX
  go_simp
 clear HC9
 intro HC9
 try simp only [Act.put, zA, zB, zC]
 refine take_H 50 (.int .i64 (8 : Nat)) (some 245) (GK.grow _) HC9 rfl (by kernel_rfl) rfl (fun _ _ _ h => h) (YieldsIf.toG (Or.inl ⟨by rfl, ?_⟩)) (GK.drop (by simp)) ?_
 ·intro X hX
  clear hX
  go_simp
 clear HC9
 intro HC9
 try simp only [Act.put, zA, zB, zC]
 refine take_H 51 (.bool true) (some 246) (GK.grow _) HC9 rfl (by kernel_rfl) rfl (fun _ _ _ h => h) (YieldsIf.toG (Or.inl ⟨by rfl, ?_⟩)) (GK.drop (by simp)) ?_
 ·intro X hX
  clear hX
  go_simp
 clear HC9
 intro HC9
 try simp only [Act.put, zA, zB, zC]
 refine take_H 52 (.bool true) (some 247) (GK.grow _) HC9 rfl (by kernel_rfl) rfl (fun _ _ _ h => h) (YieldsIf.toG (Or.inl ⟨by rfl, ?_⟩)) (GK.drop (by simp)) ?_
 ·intro X hX
  clear hX
  go_simp
 clear HC9
 intro HC9
 try simp only [Act.put, zA, zB, zC]
 refine take_H 53 (.bool true) (some 248) (GK.grow _) HC9 rfl (by kernel_rfl) rfl (fun _ _ _ h => h) (YieldsIf.toG (Or.inl ⟨by rfl, ?_⟩)) (GK.drop (by simp)) ?_
 ·intro X hX
  clear hX
  go_simp
 clear HC9
 intro HC9
 try simp only [Act.put, zA, zB, zC]
 refine take_H 54 (.int .i64 0) (some 249) (GK.grow _) HC9 rfl (by kernel_rfl) rfl (fun _ _ _ h => h) (YieldsIf.toG (Or.inl ⟨by rfl, ?_⟩)) (GK.drop (by simp)) ?_
 ·intro X hX
  clear hX
  go_simp
 clear HC9
 intro HC9
 try simp only [Act.put, zA, zB, zC]
 refine take_H 55 (.bool true) (some 250) (GK.grow _) HC9 rfl (by kernel_rfl) rfl (fun _ _ _ h => h) (YieldsIf.toG (Or.inl ⟨by rfl, ?_⟩)) (GK.drop (by simp)) ?_
 ·intro X hX
  clear hX
  go_simp
 clear HC9
 intro HC9
 try simp only [Act.put, zA, zB, zC]
 refine take_H 56 (.bool true) (some 251) (GK.grow _) HC9 rfl (by kernel_rfl) rfl (fun _ _ _ h => h) (YieldsIf.toG (Or.inl ⟨by rfl, ?_⟩)) (GK.drop (by simp)) ?_
 ·intro X hX
  clear hX
  go_simp
 clear HC9
 intro HC9
 try simp only [Act.put, zA, zB, zC]
 refine take_H 57 (.bool true) (some 252) (GK.grow _) HC9 rfl (by kernel_rfl) rfl (fun _ _ _ h => h) (YieldsIf.toG (Or.inl ⟨by rfl, ?_⟩)) (GK.drop (by simp)) ?_
 ·intro X hX
  clear hX
  go_simp
 clear HC9
 intro HC9
 try simp only [Act.put, zA, zB, zC]
 refine take_H 58 (.slice A9 0 c9) (some 253) (GK.grow _) HC9 rfl (by kernel_rfl) rfl (fun _ _ _ h => h) (YieldsIf.toG (Or.inl ⟨by rfl, ?_⟩)) (GK.drop (by simp)) ?_
 ·intro X hX
  clear hX
  go_simp
 clear HC9
 intro HC9
 try simp only [Act.put, zA, zB, zC]
 refine take_H 59 (.int .i64 (0 : Nat)) (some 254) (GK.grow _) HC9 rfl (by kernel_rfl) rfl (fun _ _ _ h => h) (YieldsIf.toG (Or.inl ⟨by rfl, ?_⟩)) (GK.drop (by simp)) ?_
 ·intro X hX
  clear hX
  go_simp
 clear HC9
 intro HC9
 try simp only [Act.put, zA, zB, zC]
 refine take_H 60 (.bool true) (some 255) (GK.grow _) HC9 rfl (by kernel_rfl) rfl (fun _ _ _ h => h) (YieldsIf.toG (Or.inl ⟨by rfl, ?_⟩)) (GK.drop (by simp)) ?_
 ·intro X hX
  clear hX
  go_simp
 clear HC9
 intro HC9
 try simp only [Act.put, zA, zB, zC]
 refine take_H 61 (.bool true) (some 256) (GK.grow _) HC9 rfl (by kernel_rfl) rfl (fun _ _ _ h => h) (YieldsIf.toG (Or.inl ⟨by rfl, ?_⟩)) (GK.drop (by simp)) ?_
 ·intro X hX
  clear hX
  go_simp
 clear HC9
 intro HC9
 try simp only [Act.put, zA, zB, zC]
 refine take_H 62 (.bool true) (some 257) (GK.grow _) HC9 rfl (by kernel_rfl) rfl (fun _ _ _ h => h) (YieldsIf.toG (Or.inl ⟨by rfl, ?_⟩)) (GK.drop (by simp)) ?_
 ·intro X hX
  clear hX
  go_simp
 clear HC9
 intro HC9
 try simp only [Act.put, zA, zB, zC]
 refine take_H 63 (.int .i64 0) (some 258) (GK.grow _) HC9 rfl (by kernel_rfl) rfl (fun _ _ _ h => h) (YieldsIf.toG (Or.inl ⟨by rfl, ?_⟩)) (GK.drop (by simp)) ?_
 ·intro X hX
  clear hX
  go_simp
 clear HC9
 intro HC9
 try simp only [Act.put, zA, zB, zC]
 refine take_H 64 (.bool true) (some 259) (GK.grow _) HC9 rfl (by kernel_rfl) rfl (fun _ _ _ h => h) (YieldsIf.toG (Or.inl ⟨by rfl, ?_⟩)) (GK.drop (by simp)) ?_
 ·intro X hX
  clear hX
  go_simp
 clear HC9
 intro HC9
 try simp only [Act.put, zA, zB, zC]
 refine take_H 65 (.bool true) (some 260) (GK.grow _) HC9 rfl (by kernel_rfl) rfl (fun _ _ _ h => h) (YieldsIf.toG (Or.inl ⟨by rfl, ?_⟩)) (GK.drop (by simp)) ?_
 ·intro X hX
  clear hX
  go_simp
 clear HC9
 intro HC9
 try simp only [Act.put, zA, zB, zC]
 refine take_H 66 (.bool true) (some 261) (GK.grow _) HC9 rfl (by kernel_rfl) rfl (fun _ _ _ h => h) (YieldsIf.toG (Or.inl ⟨by rfl, ?_⟩)) (GK.drop (by simp)) ?_
 ·intro X hX
  clear hX
  go_simp
 clear HC9
 intro HC9
 try simp only [Act.put, zA, zB, zC]
 refine take_H 67 (.slice (some ⟨go, 0, none⟩) 5 5) (some 262) (GK.grow _) HC9 rfl (by kernel_rfl) rfl (fun _ _ _ h => h) (YieldsIf.toG (Or.inl ⟨by rfl, ?_⟩)) (GK.drop (by simp)) ?_
 ·intro X hX
  clear hX
  go_simp
 clear HC9
 intro HC9
 try simp only [Act.put, zA, zB, zC]
 refine take_H 68 (.int .i64 (5 : Nat)) (some 263) (GK.grow _) HC9 rfl (by kernel_rfl) rfl (fun _ _ _ h => h) (YieldsIf.toG (Or.inl ⟨by rfl, ?_⟩)) (GK.drop (by simp)) ?_
 ·intro X hX
  clear hX
  go_simp
 clear HC9
 intro HC9
 try simp only [Act.put, zA, zB, zC]
 refine take_H 69 (.bool true) (some 264) (GK.grow _) HC9 rfl (by kernel_rfl) rfl (fun _ _ _ h => h) (YieldsIf.toG (Or.inl ⟨by rfl, ?_⟩)) (GK.drop (by simp)) ?_
 ·intro X hX
  clear hX
  go_simp
 clear HC9
 intro HC9
 try simp only [Act.put, zA, zB, zC]
 refine take_H 70 (.bool true) (some 265) (GK.grow _) HC9 rfl (by kernel_rfl) rfl (fun _ _ _ h => h) (YieldsIf.toG (Or.inl ⟨by rfl, ?_⟩)) (GK.drop (by simp)) ?_
 ·intro X hX
  clear hX
  go_simp
 clear HC9
 intro HC9
 try simp only [Act.put, zA, zB, zC]
 refine take_H 71 (.bool true) (some 266) (GK.grow _) HC9 rfl (by kernel_rfl) rfl (fun _ _ _ h => h) (YieldsIf.toG (Or.inl ⟨by rfl, ?_⟩)) (GK.drop (by simp)) ?_
 ·intro X hX
  clear hX
  go_simp
 clear HC9
 intro HC9
 try simp only [Act.put, zA, zB, zC]
 refine take_H 72 (.slice (some ⟨go, 0, none⟩) 5 5) (some 267) (GK.grow _) HC9 rfl (by kernel_rfl) rfl (fun _ _ _ h => h) (YieldsIf.toG (Or.inl ⟨by rfl, ?_⟩)) (GK.drop (by simp)) ?_
 ·intro X hX
  clear hX
  go_simp
 clear HC9
 intro HC9
 try simp only [Act.put, zA, zB, zC]
 refine take_H 73 (.pointer (some ⟨go, 0, none⟩)) (some 268) (GK.grow _) HC9 rfl (by kernel_rfl) rfl (fun _ _ _ h => h) (YieldsIf.toG (Or.inl ⟨by rfl, ?_⟩)) (GK.drop (by simp)) ?_
 ·intro X hX
  clear hX
  go_simp
 clear HC9
 intro HC9
 try simp only [Act.put, zA, zB, zC]
 refine take_H 74 (.agg #[.string ⟨#[101]⟩, .int .i64 (-1), .int .i64 1, .int .i64 0, .int .i64 1]) (some 269) (GK.grow _) HC9 rfl (by kernel_rfl) rfl (fun _ _ _ h => h) (YieldsIf.toG (Or.inl ⟨by rfl, ?_⟩)) (HAL.out 74) ?_
 ·intro X hX
  have hh := hX (74, go, .cells #[.string ⟨#[101]⟩, .int .i64 (-1), .int .i64 1, .int .i64 0, .int .i64 1, .string ⟨#[100]⟩, .int .i64 1, .int .i64 1, .int .i64 0, .int .i64 1, .string ⟨#[99]⟩, .int .i64 0, .int .i64 1, .int .i64 (-1), .int .i64 1, .string ⟨#[98]⟩, .int .i64 0, .int .i64 1, .int .i64 1, .int .i64 1, .string ⟨#[97]⟩, .int .i64 0, .int .i64 1, .int .i64 0, .int .i64 1] 69) (List.Mem.tail _ (List.Mem.head _)) rfl
  have hh0 := blk_cell hh 0 _ rfl
  have hh1 := blk_cell hh 1 _ rfl
  have hh2 := blk_cell hh 2 _ rfl
  have hh3 := blk_cell hh 3 _ rfl
  have hh4 := blk_cell hh 4 _ rfl
  have hhl := blk_lt hh
  clear hh
  clear hX
  go_simp
 clear HC9
 intro HC9
 try simp only [Act.put, zA, zB, zC]
 replace HC9 := HC9.set (readyB_mem (i := 75) (by kernel_rfl))
 refine only_G 75 (by kernel_rfl) rfl (fun X78 hX K' hK' => ?_)
 replace NN := Lib.hid (Bgo NN.out hX)
 replace R3 := Lib.hid (Rd.next hX R3.out)
 replace NP3 := Lib.hid (blk_next hX NP3.out)
 replace V9 := Lib.hid (blk_next hX V9.out)
 replace RV := Lib.hid (blk_next hX RV.out)
 replace HAL := Lib.hid (fun kx9 => GK.grow _ _ _ _ (HAL.out kx9) hX)
 clear hX
 go_simp
 refine (lfive_calls X78).mono ?_
 rintro e w79 ⟨g9, rfl, -, h5, hb9⟩
 have HB9 := Lib.hid hb9
 have F5 := Lib.hid h5
 clear hb9 h5
 refine hK'.out _ _ (fun kk hk hS => GK.grow _ _ _ _ hS HB9.out) ?_
 clear hK' K'
 try simp only [Act.put, zA, zB, zC]
 replace NN := Lib.hid (Bgo NN.out HB9.out)
 replace R3 := Lib.hid (Rd.next HB9.out R3.out)
 replace NP3 := Lib.hid (blk_next HB9.out NP3.out)
 replace V9 := Lib.hid (blk_next HB9.out V9.out)
 replace RV := Lib.hid (blk_next HB9.out RV.out)
 replace HAL := Lib.hid (fun kx9 => GK.grow _ _ _ _ (HAL.out kx9) HB9.out)
 clear HB9
 refine take_H 76 (.pointer (some ⟨g9, 20, none⟩)) (some 271) (GK.grow _) HC9 rfl (by kernel_rfl) rfl (fun _ _ _ h => h) (YieldsIf.toG (Or.inl ⟨by rfl, ?_⟩)) (GK.drop (by simp)) ?_
 ·intro X hX
  clear hX
  go_simp
 clear HC9
 intro HC9
 try simp only [Act.put, zA, zB, zC]
 replace HC9 := HC9.set (readyB_mem (i := 77) (by kernel_rfl))
 refine only_G 77 (by kernel_rfl) rfl (fun X80 hX K' hK' => ?_)
 replace NN := Lib.hid (Bgo NN.out hX)
 replace R3 := Lib.hid (Rd.next hX R3.out)
 replace NP3 := Lib.hid (blk_next hX NP3.out)
 replace F5 := Lib.hid (blk_next hX F5.out)
 replace V9 := Lib.hid (blk_next hX V9.out)
 replace RV := Lib.hid (blk_next hX RV.out)
 replace HAL := Lib.hid (fun kx9 => GK.grow _ _ _ _ (HAL.out kx9) hX)
 clear hX
 have hh0 : X80.cell? ⟨g9, 20, none⟩ = some (.string ⟨#[101]⟩) := blk_cell F5.out 20 _ rfl
 have hh1 : X80.cell? ⟨g9, 21, none⟩ = some (.int .i64 (-1)) := blk_cell F5.out 21 _ rfl
 have hh2 : X80.cell? ⟨g9, 22, none⟩ = some (.int .i64 1) := blk_cell F5.out 22 _ rfl
 have hh3 : X80.cell? ⟨g9, 23, none⟩ = some (.int .i64 0) := blk_cell F5.out 23 _ rfl
 have hh4 : X80.cell? ⟨g9, 24, none⟩ = some (.int .i64 1) := blk_cell F5.out 24 _ rfl
 have hhl := blk_lt F5.out
 go_simp
 refine hK'.out _ _ (fun _ _ h => h) ?_
 clear hK' K' hhl hh0 hh1 hh2 hh3 hh4
 try simp only [Act.put, zA, zB, zC]
 refine take_H 78 (.bool true) (some 273) (GK.grow _) HC9 rfl (by kernel_rfl) rfl (fun _ _ _ h => h) (YieldsIf.toG (Or.inl ⟨by rfl, ?_⟩)) (GK.drop (by simp)) ?_
 ·intro X hX
  clear hX
  go_simp
 clear HC9
 intro HC9
 try simp only [Act.put, zA, zB, zC]
 refine take_H 79 (.bool true) (some 274) (GK.grow _) HC9 rfl (by kernel_rfl) rfl (fun _ _ _ h => h) (YieldsIf.toG (Or.inl ⟨by rfl, ?_⟩)) (GK.drop (by simp)) ?_
 ·intro X hX
  clear hX
  go_simp
 clear HC9
 intro HC9
 try simp only [Act.put, zA, zB, zC]
 refine take_H 80 (.bool true) (some 275) (GK.grow _) HC9 rfl (by kernel_rfl) rfl (fun _ _ _ h => h) (YieldsIf.toG (Or.inl ⟨by rfl, ?_⟩)) (GK.drop (by simp)) ?_
 ·intro X hX
  clear hX
  go_simp
 clear HC9
 intro HC9
 try simp only [Act.put, zA, zB, zC]
 refine take_H 81 (.int .i64 2) (some 276) (GK.grow _) HC9 rfl (by kernel_rfl) rfl (fun _ _ _ h => h) (YieldsIf.toG (Or.inl ⟨by rfl, ?_⟩)) (GK.drop (by simp)) ?_
 ·intro X hX
  clear hX
  go_simp
 clear HC9
 intro HC9
 try simp only [Act.put, zA, zB, zC]
 refine take_H 82 (.bool true) (some 277) (GK.grow _) HC9 rfl (by kernel_rfl) rfl (fun _ _ _ h => h) (YieldsIf.toG (Or.inl ⟨by rfl, ?_⟩)) (GK.drop (by simp)) ?_
 ·intro X hX
  clear hX
  go_simp
 clear HC9
 intro HC9
 try simp only [Act.put, zA, zB, zC]
 refine take_H 83 (.bool true) (some 278) (GK.grow _) HC9 rfl (by kernel_rfl) rfl (fun _ _ _ h => h) (YieldsIf.toG (Or.inl ⟨by rfl, ?_⟩)) (GK.drop (by simp)) ?_
 ·intro X hX
  clear hX
  go_simp
 clear HC9
 intro HC9
 try simp only [Act.put, zA, zB, zC]
 refine take_H 84 (.bool true) (some 279) (GK.grow _) HC9 rfl (by kernel_rfl) rfl (fun _ _ _ h => h) (YieldsIf.toG (Or.inl ⟨by rfl, ?_⟩)) (GK.drop (by simp)) ?_
 ·intro X hX
  clear hX
  go_simp
 clear HC9
 intro HC9
 try simp only [Act.put, zA, zB, zC]
 refine take_H 85 (.int .i64 2) (some 280) (GK.grow _) HC9 rfl (by kernel_rfl) rfl (fun _ _ _ h => h) (YieldsIf.toG (Or.inl ⟨by rfl, ?_⟩)) (GK.drop (by simp)) ?_
 ·intro X hX
  clear hX
  go_simp
 clear HC9
 intro HC9
 try simp only [Act.put, zA, zB, zC]
 refine take_H 86 (.bool true) (some 281) (GK.grow _) HC9 rfl (by kernel_rfl) rfl (fun _ _ _ h => h) (YieldsIf.toG (Or.inl ⟨by rfl, ?_⟩)) (GK.drop (by simp)) ?_
 ·intro X hX
  clear hX
  go_simp
 clear HC9
 intro HC9
 try simp only [Act.put, zA, zB, zC]
 refine take_H 87 (.bool true) (some 282) (GK.grow _) HC9 rfl (by kernel_rfl) rfl (fun _ _ _ h => h) (YieldsIf.toG (Or.inl ⟨by rfl, ?_⟩)) (GK.drop (by simp)) ?_
 ·intro X hX
  clear hX
  go_simp
 clear HC9
 intro HC9
 try simp only [Act.put, zA, zB, zC]
 refine take_H 88 (.bool true) (some 283) (GK.grow _) HC9 rfl (by kernel_rfl) rfl (fun _ _ _ h => h) (YieldsIf.toG (Or.inl ⟨by rfl, ?_⟩)) (GK.drop (by simp)) ?_
 ·intro X hX
  clear hX
  go_simp
 clear HC9
 intro HC9
 try simp only [Act.put, zA, zB, zC]
 refine take_H 89 (.int .i64 2) (some 284) (GK.grow _) HC9 rfl (by kernel_rfl) rfl (fun _ _ _ h => h) (YieldsIf.toG (Or.inl ⟨by rfl, ?_⟩)) (GK.drop (by simp)) ?_
 ·intro X hX
  clear hX
  go_simp
 clear HC9
 intro HC9
 try simp only [Act.put, zA, zB, zC]
 refine take_H 90 (.bool true) (some 285) (GK.grow _) HC9 rfl (by kernel_rfl) rfl (fun _ _ _ h => h) (YieldsIf.toG (Or.inl ⟨by rfl, ?_⟩)) (GK.drop (by simp)) ?_
 ·intro X hX
  clear hX
  go_simp
 clear HC9
 intro HC9
 try simp only [Act.put, zA, zB, zC]
 refine take_H 91 (.bool true) (some 286) (GK.grow _) HC9 rfl (by kernel_rfl) rfl (fun _ _ _ h => h) (YieldsIf.toG (Or.inl ⟨by rfl, ?_⟩)) (GK.drop (by simp)) ?_
 ·intro X hX
  clear hX
  go_simp
 clear HC9
 intro HC9
 try simp only [Act.put, zA, zB, zC]
 refine take_H 92 (.bool true) (some 31) (GK.grow _) HC9 rfl (by kernel_rfl) rfl (fun _ _ _ h => h) (YieldsIf.toG (Or.inl ⟨by rfl, ?_⟩)) (GK.drop (by simp)) ?_
 ·intro X hX
  clear hX
  go_simp
 clear HC9
 intro HC9
 try simp only [Act.put, zA, zB, zC]
 clear HAL
 refine done_G (by kernel_rfl) (fun X81 hX => ?_) _
 replace NN := Lib.hid (Bgo NN.out hX)
 replace R3 := Lib.hid (Rd.next hX R3.out)
 replace NP3 := Lib.hid (blk_next hX NP3.out)
 replace F5 := Lib.hid (blk_next hX F5.out)
 replace V9 := Lib.hid (blk_next hX V9.out)
 replace RV := Lib.hid (blk_next hX RV.out)
 clear hX
 clear V9 RV R3 NP3 F5
 go_wp2_with fail
 have HB := Lib.hid (Bal (Below.refl X81.heap.size X81) (.cells Z9C 69))
 have NB := Lib.hid (blk_new X81 (.cells Z9C 69))
 replace NN := Lib.hid (Bgo NN.out HB.out)
 clear HB
 refine (text_zero 9 4 (by decide) (by kernel_rfl) (by kernel_rfl) NB.out (GG.out.gt.next NN.out)).mono ?_
 rintro e w82 ⟨rfl, hb⟩
 replace NN := Lib.hid (Bgo NN.out hb)
 clear hb
 clear NB
 go_wp2_with fail
 have HB := Lib.hid (Bal (Below.refl w82.heap.size w82) (.cells Z1C 69))
 have NB := Lib.hid (blk_new w82 (.cells Z1C 69))
 replace NN := Lib.hid (Bgo NN.out HB.out)
 clear HB
 refine (text_zero 1 8 (by decide) (by kernel_rfl) (by kernel_rfl) NB.out (GG.out.gt.next NN.out)).mono ?_
 rintro e w83 ⟨rfl, hb⟩
 replace NN := Lib.hid (Bgo NN.out hb)
 clear hb
 clear NB
 go_wp2_with fail
 refine (parse_at [] 0 (by decide) (by kernel_rfl) (by kernel_rfl) _ (GG.out.next NN.out)).mono ?_
 rintro e w84 ⟨B1, d1, rfl, hb⟩
 replace NN := Lib.hid (Bgo NN.out hb)
 clear hb
 go_wp2_with fail
 refine (parse_at [97, 32, 48, 32, 48, 10, 97, 32, 48, 32, 48, 10] 2 (by decide) (by kernel_rfl) (by kernel_rfl) _ (GG.out.next NN.out)).mono ?_
 rintro e w85 ⟨B2, d2, rfl, hb⟩
 replace NN := Lib.hid (Bgo NN.out hb)
 clear hb
 go_wp2_with fail
 refine (refused_calls [97, 32, 48, 32, 48] (by decide) (by kernel_rfl) _ (GG.out.next NN.out)).mono ?_
 rintro e w86 ⟨rfl, hb⟩
 replace NN := Lib.hid (Bgo NN.out hb)
 clear hb
 go_wp2_with fail
 refine (refused_calls [97, 32, 48, 10] (by decide) (by kernel_rfl) _ (GG.out.next NN.out)).mono ?_
 rintro e w87 ⟨rfl, hb⟩
 replace NN := Lib.hid (Bgo NN.out hb)
 clear hb
 go_wp2_with fail
 refine (refused_calls [97, 32, 48, 32, 48, 32, 48, 10] (by decide) (by kernel_rfl) _ (GG.out.next NN.out)).mono ?_
 rintro e w88 ⟨rfl, hb⟩
 replace NN := Lib.hid (Bgo NN.out hb)
 clear hb
 go_wp2_with fail
 refine (refused_calls [97, 32, 32, 48, 32, 48, 10] (by decide) (by kernel_rfl) _ (GG.out.next NN.out)).mono ?_
 rintro e w89 ⟨rfl, hb⟩
 replace NN := Lib.hid (Bgo NN.out hb)
 clear hb
 go_wp2_with fail
 refine (refused_calls [97, 32, 50, 32, 48, 10] (by decide) (by kernel_rfl) _ (GG.out.next NN.out)).mono ?_
 rintro e w90 ⟨rfl, hb⟩
 replace NN := Lib.hid (Bgo NN.out hb)
 clear hb
 go_wp2_with fail
 refine (refused_calls [97, 32, 48, 32, 49, 47, 50, 49, 10] (by decide) (by kernel_rfl) _ (GG.out.next NN.out)).mono ?_
 rintro e w91 ⟨rfl, hb⟩
 replace NN := Lib.hid (Bgo NN.out hb)
 clear hb
 go_wp2_with fail
 refine (refused_calls [10] (by decide) (by kernel_rfl) _ (GG.out.next NN.out)).mono ?_
 rintro e w92 ⟨rfl, hb⟩
 replace NN := Lib.hid (Bgo NN.out hb)
 clear hb
 go_wp2_with fail
 refine (refused_calls [65, 32, 48, 32, 48, 10] (by decide) (by kernel_rfl) _ (GG.out.next NN.out)).mono ?_
 rintro e w93 ⟨rfl, hb⟩
 replace NN := Lib.hid (Bgo NN.out hb)
 clear hb
 go_wp2_with fail
 refine (refused_calls [97, 32, 48, 32, 48, 10, 10] (by decide) (by kernel_rfl) _ (GG.out.next NN.out)).mono ?_
 rintro e w94 ⟨rfl, hb⟩
 replace NN := Lib.hid (Bgo NN.out hb)
 clear hb
 go_wp2_with fail
 refine (refused_calls [97, 32, 48, 32, 48, 10, 97, 32, 48, 32, 48, 10, 97, 32, 48, 32, 48, 10, 97, 32, 48, 32, 48, 10, 97, 32, 48, 32, 48, 10, 97, 32, 48, 32, 48, 10, 97, 32, 48, 32, 48, 10, 97, 32, 48, 32, 48, 10, 97, 32, 48, 32, 48, 10] (by decide) (by kernel_rfl) _ (GG.out.next NN.out)).mono ?_
 rintro e w95 ⟨rfl, hb⟩
 replace NN := Lib.hid (Bgo NN.out hb)
 clear hb
 go_wp2_with fail
 refine (alive_calls _ (GG.out.gt.next NN.out)).mono ?_
 rintro e w96 ⟨rfl, hb⟩
 replace NN := Lib.hid (Bgo NN.out hb)
 clear hb
 go_wp2_with fail
 go_ret
 exact ⟨rfl, NN.out⟩
end Go.Proofs.YtfangplfbbgphaaGreatDoor
namespace Go.Proofs.YtfangplfbbgphaaGreatDoor
open Go.ChangeShapes Go.WideShapes Go.ChangeAt Go.RowKit
set_option linter.unusedVariables false
theorem star : "*" ++ "errors.errorString" = "*errors.errorString" := by decide
theorem rowE (u : TypeId) (h : Tryz.prog.typeName? 3 u = some "*errors.errorString") : u = 216 :=
 typeName_ptr_named (nm := "errors.errorString") (by rw [star]; kernel_rfl) (by kernel_rfl) (by decide) u (by rw [star]; exact h)
theorem gl_of {W : World} (hL : laidMet Tryz.prog [("math/bits.deBruijn32tab", Rows.laid_math_bits_deBruijn32tab), ("math/bits.deBruijn64tab", Rows.laid_math_bits_deBruijn64tab), ("internal/strconv.uint64pow10", Rows.laid_internal_strconv_uint64pow10), ("strconv.ErrRange", Rows.laid_strconv_ErrRange), ("strconv.ErrSyntax", Rows.laid_strconv_ErrSyntax)] W) (hsh : W.ShapedOpen Tryz.prog) : GL W := by
 have h1 := hL.tail.tail
 have h2 := h1.tail
 have h3 := h2.tail
 refine ⟨Lib.tabIs_of_head (g := 3) (by kernel_rfl) (t := 196) (by kernel_rfl) Tryz.underlying196 Tryz.underlying150 (by kernel_rfl) (by kernel_rfl) h1, ?_, ?_, Tryz.laysM145.s1_3 W hsh⟩
 ·obtain ⟨a, s, hv, _⟩ := laid_sentinel h3 (g := 4) (by kernel_rfl) (ti := 113) (by kernel_rfl) Tryz.underlying113 rowE Tryz.underlying216 Tryz.underlying218 rfl rfl Tryz.underlying9 (by kernel_rfl) (by kernel_rfl)
  exact ⟨_, _, hv⟩
 ·obtain ⟨a, s, hv, _⟩ := laid_sentinel h2 (g := 5) (by kernel_rfl) (ti := 113) (by kernel_rfl) Tryz.underlying113 rowE Tryz.underlying216 Tryz.underlying218 rfl rfl Tryz.underlying9 (by kernel_rfl) (by kernel_rfl)
  exact ⟨_, _, hv⟩
end Go.Proofs.YtfangplfbbgphaaGreatDoor
