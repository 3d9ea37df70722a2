/- Contract of layer 1: texts of the reference. -/
import Derived.Test.YtpeoecgehdicmaaDoorFtk
import Derived.Test.YtpeoecgehdicmaaDoorFrs
namespace Go.Proofs.YtpeoecgehdicmaaDoor
open Go.ChangeShapes Go.WideShapes Go.ChangeAt Go.RowKit
set_option linter.unusedVariables false
attribute [local go_sem ↓] Go.wp_at_zero Go.wp_at_succ

theorem cat3b (a b : List UInt8) : (⟨a.toArray⟩ : ByteArray) ++ (⟨#[47]⟩ : ByteArray) ++ ⟨b.toArray⟩ = ⟨(a ++ 47 :: b).toArray⟩ := by
  rw [show (⟨#[47]⟩ : ByteArray) = ⟨[47].toArray⟩ from rfl, cat2, cat2, List.append_assoc]
  rfl
set_option maxRecDepth 100000 in
set_option maxHeartbeats 8000000 in
theorem refText_calls (n d : Int) (w : World) :
    Calls Tryd.prog 11 #[Fv n d] w fun e w' => e = .returned (.tuple #[Str (txR n d), .int .i64 (errF n d)]) ∧ Below w.heap.size w w' := by
  have C1 := Lib.hid (fun W => refCheck_calls n d W)
  by_cases ck : errF n d = 0
  rotate_left
  · have X : Hid (txR n d = []) := Lib.hid (by unfold txR; rw [if_neg ck])
    have ck' : (errF n d != 0) = true := by rw [bne_iff_ne]; exact ck
    generalize txR n d = res at *
    generalize errF n d = er at *
    clear ck
    go_enter Tryd.func11, Tryd.ntmps11
    go_wp2_with fail
    refine (C1.out _).mono ?_
    rintro e w1 ⟨rfl, hb⟩
    have NN := Lib.hid (Bgo (Bal (Below.refl _ _) _) hb)
    have K := Lib.hid (blk_next hb (blk_new w (.cells #[.int .i64 n, .int .i64 d] 23)))
    clear hb
    have a0 := blk_cell K.out 0 _ rfl
    have a1 := blk_cell K.out 1 _ rfl
    have al := blk_lt K.out
    go_wp2_with fail
    refine (C1.out _).mono ?_
    rintro e w2 ⟨rfl, hb⟩
    replace NN := Lib.hid (Bgo NN.out hb)
    clear hb a0 a1 al
    go_wp2_with fail
    go_ret2
    exact ⟨by rw [X.out]; rfl, NN.out⟩
  have v := errF_ok ck
  have X : Hid (txR n d = textL n d) := Lib.hid (by unfold txR; rw [if_pos ck])
  rw [ck] at C1 ⊢
  generalize txR n d = res at *
  have n1 := v.n1
  have n2 := v.n2
  have d1 := v.d1
  have d2 := v.d2
  have T1 := Lib.hid (fun W => dec_calls n W (by omega) (by omega))
  have T2 := Lib.hid (fun W => dec_calls d W (by omega) (by omega))
  have FT : Hid (textL n d = if d = 1 then Lib.itoa n else Lib.itoa n ++ 47 :: Lib.itoa d) := Lib.hid rfl
  have ln := Lib.itoa_length_le n (by omega) (by omega)
  have ld := Lib.itoa_length_le d (by omega) (by omega)
  generalize Lib.itoa n = tn at *
  generalize Lib.itoa d = td at *
  clear ck v
  by_cases hd : d = 1
  · have F2 := Lib.hid (X.out.trans (FT.out.trans (if_pos hd)))
    clear X FT
    subst hd
    go_enter Tryd.func11, Tryd.ntmps11
    go_wp2_with fail
    refine (C1.out _).mono ?_
    rintro e w1 ⟨rfl, hb⟩
    have NN := Lib.hid (Bgo (Bal (Below.refl _ _) _) hb)
    have K := Lib.hid (blk_next hb (blk_new w (.cells #[.int .i64 n, .int .i64 1] 23)))
    clear hb
    have a0 := blk_cell K.out 0 _ rfl
    have a1 := blk_cell K.out 1 _ rfl
    have al := blk_lt K.out
    go_wp2_with fail
    refine (T1.out _).mono ?_
    rintro e w2 ⟨rfl, hb⟩
    clear a0 a1 al
    replace NN := Lib.hid (Bgo NN.out hb)
    clear hb
    go_wp2_with fail
    go_ret2
    exact ⟨by rw [F2.out]; rfl, NN.out⟩
  · have F2 := Lib.hid (X.out.trans (FT.out.trans (if_neg hd)))
    clear X FT
    have hd' : (d == 1) = false := by rw [beq_eq_false_iff_ne]; exact hd
    have LA : ¬ 9223372036854775807 < tn.length + 1 := by omega
    have LB : ¬ 9223372036854775807 < tn.length + 1 + td.length := by omega
    clear hd
    go_enter Tryd.func11, Tryd.ntmps11
    go_wp2_with fail
    refine (C1.out _).mono ?_
    rintro e w1 ⟨rfl, hb⟩
    have NN := Lib.hid (Bgo (Bal (Below.refl _ _) _) hb)
    have K := Lib.hid (blk_next hb (blk_new w (.cells #[.int .i64 n, .int .i64 d] 23)))
    clear hb
    have a0 := blk_cell K.out 0 _ rfl
    have a1 := blk_cell K.out 1 _ rfl
    have al := blk_lt K.out
    go_wp2_with fail
    clear a0 a1 al

    refine region_I (S := SK [(1, w.heap.size, .cells #[.int .i64 n, .int .i64 d] 23), (5, w.heap.size, .cells #[.int .i64 n, .int .i64 d] 23)]) (by kernel_rfl) ?_
    have HAL := Lib.hid (fun (k : Nat) => (show SK [(1, w.heap.size, .cells #[.int .i64 n, .int .i64 d] 23), (5, w.heap.size, .cells #[.int .i64 n, .int .i64 d] 23)] k w1.drew from fun p hp e => by
      simp only [List.mem_cons, List.not_mem_nil, or_false] at hp
      rcases hp with rfl | rfl
      · exact K.out
      · exact K.out))
    replace NN := Lib.hid (Bgo NN.out (Below.drew (Below.refl w1.heap.size w1)))
    refine take_I 0 (.pointer (some ⟨w.heap.size, 0, none⟩)) (some 15) rfl (by kernel_rfl) (by kernel_rfl) (by kernel_rfl) rfl (fun _ _ _ h => h) (Or.inl ⟨by rfl, ?_⟩) (SK.drop (by simp)) ?_
    · intro X hX
      clear hX
      go_simp
    try simp only [Act.put, List.setIfInBounds_toArray, List.set_cons_zero, List.set_cons_succ]
    refine take_I 1 (.int .i64 n) (some 16) rfl (by kernel_rfl) (by kernel_rfl) (by kernel_rfl) rfl (fun _ _ _ h => h) (Or.inl ⟨by rfl, ?_⟩) (HAL.out 1) ?_
    · intro X hX
      have hh := hX (1, w.heap.size, .cells #[.int .i64 n, .int .i64 d] 23) (List.Mem.head _) rfl
      have hh0 := blk_cell hh 0 _ rfl
      have hhl := blk_lt hh
      clear hh
      clear hX
      go_simp
    try simp only [Act.put, List.setIfInBounds_toArray, List.set_cons_zero, List.set_cons_succ]
    refine take_I 4 (.pointer (some ⟨w.heap.size, 1, none⟩)) (some 19) rfl (by kernel_rfl) (by kernel_rfl) (by kernel_rfl) rfl (fun _ _ _ h => h) (Or.inl ⟨by rfl, ?_⟩) (SK.drop (by simp)) ?_
    · intro X hX
      clear hX
      go_simp
    try simp only [Act.put, List.setIfInBounds_toArray, List.set_cons_zero, List.set_cons_succ]
    refine take_I 5 (.int .i64 d) (some 20) rfl (by kernel_rfl) (by kernel_rfl) (by kernel_rfl) rfl (fun _ _ _ h => h) (Or.inl ⟨by rfl, ?_⟩) (HAL.out 5) ?_
    · intro X hX
      have hh := hX (5, w.heap.size, .cells #[.int .i64 n, .int .i64 d] 23) (List.Mem.tail _ (List.Mem.head _)) rfl
      have hh1 := blk_cell hh 1 _ rfl
      have hhl := blk_lt hh
      clear hh
      clear hX
      go_simp
    try simp only [Act.put, List.setIfInBounds_toArray, List.set_cons_zero, List.set_cons_succ]
    refine only_I 2 (by kernel_rfl) rfl (fun K' hK' => ?_)
    go_simp
    go_at_call 34
    refine (T1.out _).mono ?_
    rintro e w2 ⟨rfl, hb⟩
    replace NN := Lib.hid (Bgo NN.out hb)
    go_simp
    refine hK'.out _ _ (fun k _ hS => hS.next hb) ?_
    clear hK' K'
    try simp only [Act.put, List.setIfInBounds_toArray, List.set_cons_zero, List.set_cons_succ]
    replace HAL := Lib.hid (fun k => (HAL.out k).next hb)
    refine take_I 3 (.string ((⟨tn.toArray⟩ : ByteArray) ++ ⟨#[47]⟩)) (some 18) rfl (by kernel_rfl) (by kernel_rfl) (by kernel_rfl) rfl (fun _ _ _ h => h) (Or.inl ⟨by rfl, ?_⟩) (SK.drop (by simp)) ?_
    · intro X hX
      clear hX
      go_simp
    try simp only [Act.put, List.setIfInBounds_toArray, List.set_cons_zero, List.set_cons_succ]
    refine only_I 6 (by kernel_rfl) rfl (fun K' hK' => ?_)
    go_simp
    go_at_call 34
    refine (T2.out _).mono ?_
    rintro e w3 ⟨rfl, hb⟩
    replace NN := Lib.hid (Bgo NN.out hb)
    go_simp
    refine hK'.out _ _ (fun k _ hS => hS.next hb) ?_
    clear hK' K'
    try simp only [Act.put, List.setIfInBounds_toArray, List.set_cons_zero, List.set_cons_succ]
    replace HAL := Lib.hid (fun k => (HAL.out k).next hb)
    refine only_I 7 (by kernel_rfl) rfl (fun K' hK' => ?_)
    go_simp
    refine hK'.out _ _ (fun k _ h => h) ?_
    clear hK' K'
    try simp only [Act.put, List.setIfInBounds_toArray, List.set_cons_zero, List.set_cons_succ]
    refine only_I 8 (by kernel_rfl) rfl (fun K' hK' => ?_)
    go_simp
    refine hK'.out _ _ (fun k _ h => h) ?_
    clear hK' K'
    try simp only [Act.put, List.setIfInBounds_toArray, List.set_cons_zero, List.set_cons_succ]
    refine only_I 9 (by kernel_rfl) rfl (fun K' hK' => ?_)
    go_simp
    refine hK'.out _ _ (fun k _ h => h) ?_
    clear hK' K'
    try simp only [Act.put, List.setIfInBounds_toArray, List.set_cons_zero, List.set_cons_succ]
    refine done_I (by kernel_rfl) ?_ _
    go_wp2_with fail
    go_ret2
    exact ⟨by rw [cat3b tn td, F2.out]; rfl, NN.out⟩
end Go.Proofs.YtpeoecgehdicmaaDoor
