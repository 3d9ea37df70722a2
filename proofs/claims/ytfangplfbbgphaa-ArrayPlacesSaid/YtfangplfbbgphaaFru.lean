/- Contracts of layer 1: Neg and Sub of the reference. -/
import Derived.Test.YtfangplfbbgphaaFrt
namespace Go.Proofs.Ytfangplfbbgphaa
open Go.ChangeShapes Go.WideShapes Go.ChangeAt Go.RowKit
set_option linter.unusedVariables false
set_option maxRecDepth 100000
attribute [local go_sem ↓] Go.wp_at_zero Go.wp_at_succ

def subR (an ad bn bd : Int) : Int × Int × Int := if errB an ad bn bd = 0 then addF an ad (-bn) bd else (0, 0, errB an ad bn bd)
theorem VF.neg {n d : Int} (h : VF n d) : VF (-n) d := ⟨h.d1, h.d2, by have := h.n2; omega, by have := h.n1; omega, by rw [Int.natAbs_neg]; exact h.g⟩
theorem refNeg_calls (n d : Int) (w : World) (h1 : -9223372036854775807 ≤ n) (h2 : n ≤ 9223372036854775807) :
    Calls Try.prog 56 #[Fv n d] w fun e w' => e = .returned (Fv (-n) d) ∧ Below w.heap.size w w' := by
  go_enter Try.func56, Try.ntmps56
  go_wp2
  exact bodyPost_ret (v := Fv (-n) d) (by simp [results, Try.results56, go_sem]) rfl ⟨rfl, Bal (Bal (Below.refl _ _) _) _⟩

set_option maxRecDepth 100000 in
set_option maxHeartbeats 8000000 in
theorem refSub_calls (an ad bn bd : Int) (w : World) :
    Calls Try.prog 63 #[Fv an ad, Fv bn bd] w fun e w' => e = .returned (Rv (subR an ad bn bd)) ∧ Below w.heap.size w w' := by
  have C1 := Lib.hid (fun W => refBoth_calls an ad bn bd W)
  by_cases ck : errB an ad bn bd = 0
  rotate_left
  · have F : Hid (subR an ad bn bd = (0, 0, errB an ad bn bd)) := Lib.hid (by unfold subR; rw [if_neg ck])
    have ck' : (errB an ad bn bd != 0) = true := by rw [bne_iff_ne]; exact ck
    generalize subR an ad bn bd = res at *
    generalize errB an ad bn bd = er at *
    clear ck
    go_enter Try.func63, Try.ntmps63
    go_wp2_with fail
    refine (C1.out _).mono ?_
    rintro e w1 ⟨rfl, hb⟩
    have K := Lib.hid ((PK.init w an ad bn bd).next hb)
    clear hb
    have a0 := blk_cell K.out.a 0 _ rfl
    have a1 := blk_cell K.out.a 1 _ rfl
    have b0 := blk_cell K.out.b 0 _ rfl
    have b1 := blk_cell K.out.b 1 _ rfl
    go_wp2_with fail
    refine (C1.out _).mono ?_
    rintro e w2 ⟨rfl, hb⟩
    replace K := Lib.hid (K.out.next hb)
    clear hb
    clear a0 a1 b0 b1
    have z0 := blk_cell K.out.z 0 _ rfl
    have z1 := blk_cell K.out.z 1 _ rfl
    have f0 := blk_frozen K.out.z 0
    have f1 := blk_frozen K.out.z 1
    go_wp2_with fail
    have e1 := blk_cell (blk_set (blk_set K.out.z 0 (.int .i64 0)) 1 (.int .i64 0)) 0 _ rfl
    have e2 := blk_cell (blk_set (blk_set K.out.z 0 (.int .i64 0)) 1 (.int .i64 0)) 1 _ rfl
    refine bodyPost_ret (v := .tuple #[Fv 0 0, .int .i64 er]) (by simp [results, Try.results63, go_sem, e1, e2]) rfl ⟨by rw [F.out], Bset1 (Bset1 K.out.n (by omega) _ _) (by omega) _ _⟩
  · obtain ⟨va, vb⟩ := errB_ok ck
    rw [ck] at C1
    have F : Hid (subR an ad bn bd = addR an ad (-bn) bd) := Lib.hid (by unfold subR addR; rw [if_pos ck, if_pos (va.both vb.neg)])
    generalize subR an ad bn bd = res at *
    have NC := Lib.hid (fun W => refNeg_calls bn bd W (by have := vb.n1; omega) (by have := vb.n2; omega))
    have AC := Lib.hid (fun W => refAdd_calls an ad (-bn) bd W)
    generalize addR an ad (-bn) bd = r at *
    obtain ⟨r1, r2, r3⟩ := r
    clear ck va vb
    generalize hm : -bn = mb at *
    clear hm
    go_enter Try.func63, Try.ntmps63
    go_wp2_with fail
    refine (C1.out _).mono ?_
    rintro e w1 ⟨rfl, hb⟩
    have K := Lib.hid ((PK.init w an ad bn bd).next hb)
    clear hb
    go_wp2_with fail
    refine region_I (S := SK [(0, w.heap.size, .cells #[.int .i64 an, .int .i64 ad] 34), (1, w.heap.size + 1, .cells #[.int .i64 bn, .int .i64 bd] 34)]) (by kernel_rfl) ?_
    have HAL := Lib.hid (fun (k : Nat) => (show SK [(0, w.heap.size, .cells #[.int .i64 an, .int .i64 ad] 34), (1, w.heap.size + 1, .cells #[.int .i64 bn, .int .i64 bd] 34)] k w1.drew from fun p hp e => by
      simp only [List.mem_cons, List.not_mem_nil, or_false] at hp
      rcases hp with rfl | rfl
      · exact K.out.a
      · exact K.out.b))
    refine take_I 0 (Fv an ad) (some 14) rfl (by kernel_rfl) (by kernel_rfl) (by kernel_rfl) rfl (fun _ _ _ h => h) (Or.inl ⟨by rfl, ?_⟩) (HAL.out 0) ?_
    · intro X hX
      have hh := hX (0, w.heap.size, .cells #[.int .i64 an, .int .i64 ad] 34) (List.Mem.head _) rfl
      have hh0 := blk_cell hh 0 _ rfl
      have hh1 := blk_cell hh 1 _ rfl
      have hhl := blk_lt hh
      clear hh
      clear hX 
      go_simp
    try simp only [Act.put, List.setIfInBounds_toArray, List.set_cons_zero, List.set_cons_succ]
    refine take_I 1 (Fv bn bd) (some 15) rfl (by kernel_rfl) (by kernel_rfl) (by kernel_rfl) rfl (fun _ _ _ h => h) (Or.inl ⟨by rfl, ?_⟩) (HAL.out 1) ?_
    · intro X hX
      have hh := hX (1, w.heap.size + 1, .cells #[.int .i64 bn, .int .i64 bd] 34) (List.Mem.tail _ (List.Mem.head _)) rfl
      have hh0 := blk_cell hh 0 _ rfl
      have hh1 := blk_cell hh 1 _ rfl
      have hhl := blk_lt hh
      clear hh
      clear hX 
      go_simp
    try simp only [Act.put, List.setIfInBounds_toArray, List.set_cons_zero, List.set_cons_succ]
    refine only_I 2 (by kernel_rfl) rfl (fun K' hK' => ?_)
    go_simp
    go_at_call 56
    refine (NC.out _).mono ?_
    rintro e w2 ⟨rfl, hb⟩
    go_simp
    refine hK'.out _ _ (fun k _ hS => hS.next hb) ?_
    clear hK' K'
    try simp only [Act.put, List.setIfInBounds_toArray, List.set_cons_zero, List.set_cons_succ]
    replace K := Lib.hid (K.out.next (undrewB hb))
    clear hb HAL
    refine only_I 3 (by kernel_rfl) rfl (fun K' hK' => ?_)
    go_simp
    go_at_call 53
    refine (AC.out _).mono ?_
    rintro e w3 ⟨rfl, hb⟩
    go_simp
    refine hK'.out _ _ (fun k _ hS => hS.next hb) ?_
    clear hK' K'
    try simp only [Act.put, List.setIfInBounds_toArray, List.set_cons_zero, List.set_cons_succ]
    replace K := Lib.hid (K.out.next hb)
    clear hb
    refine take_I 4 (Fv r1 r2) (some 18) rfl (by kernel_rfl) (by kernel_rfl) (by kernel_rfl) rfl (fun _ _ _ h => h) (Or.inl ⟨by rfl, ?_⟩) (SK.drop (by simp)) ?_
    · intro X hX
      clear hX 
      go_simp
    try simp only [Act.put, List.setIfInBounds_toArray, List.set_cons_zero, List.set_cons_succ]
    refine take_I 5 (.int .i64 r3) (some 19) rfl (by kernel_rfl) (by kernel_rfl) (by kernel_rfl) rfl (fun _ _ _ h => h) (Or.inl ⟨by rfl, ?_⟩) (SK.drop (by simp)) ?_
    · intro X hX
      clear hX 
      go_simp
    try simp only [Act.put, List.setIfInBounds_toArray, List.set_cons_zero, List.set_cons_succ]
    have z0 := blk_cell K.out.z 0 _ rfl
    have z1 := blk_cell K.out.z 1 _ rfl
    have f0 := blk_frozen K.out.z 0
    have f1 := blk_frozen K.out.z 1
    refine only_I 6 (by kernel_rfl) rfl (fun K' hK' => ?_)
    go_simp
    refine hK'.out _ _ (fun k hk hS p hp e => by
      have hq := hS p hp e
      simp only [List.mem_cons, List.not_mem_nil, or_false] at hp
      rcases hp with rfl | rfl
      · subst e; exact bfl (by kernel_rfl) hk
      · subst e; exact bfl (by kernel_rfl) hk
      ) ?_
    clear hK' K'
    try simp only [Act.put, List.setIfInBounds_toArray, List.set_cons_zero, List.set_cons_succ]
    refine only_I 7 (by kernel_rfl) rfl (fun K' hK' => ?_)
    go_simp
    refine hK'.out _ _ (fun k hk hS p hp e => by
      have hq := hS p hp e
      simp only [List.mem_cons, List.not_mem_nil, or_false] at hp
      rcases hp with rfl | rfl
      · subst e; exact bfl (by kernel_rfl) hk
      · subst e; exact bfl (by kernel_rfl) hk
      ) ?_
    clear hK' K'
    try simp only [Act.put, List.setIfInBounds_toArray, List.set_cons_zero, List.set_cons_succ]
    refine done_I (by kernel_rfl) ?_ _
    go_wp2_with fail
    have e1 := blk_cell (blk_set (blk_set K.out.z 0 (.int .i64 r1)) 1 (.int .i64 r2)) 0 _ rfl
    have e2 := blk_cell (blk_set (blk_set K.out.z 0 (.int .i64 r1)) 1 (.int .i64 r2)) 1 _ rfl
    refine bodyPost_ret (v := .tuple #[Fv r1 r2, .int .i64 r3]) (by simp [results, Try.results63, go_sem, e1, e2]) rfl ⟨by rw [F.out], Bset1 (Bset1 K.out.n (by omega) _ _) (by omega) _ _⟩
end Go.Proofs.Ytfangplfbbgphaa
