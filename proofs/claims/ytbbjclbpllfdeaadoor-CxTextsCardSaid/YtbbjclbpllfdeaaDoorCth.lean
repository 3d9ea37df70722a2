/- Contracts of layer 25: decimal numerals and texts of the reference. -/
import Derived.Test.YtbbjclbpllfdeaaDoorCtf
import Derived.Laws.IdiomStrings
namespace Go.Proofs.YtbbjclbpllfdeaaDoor
open Go.ChangeShapes Go.WideShapes Go.ChangeAt Go.RowKit Cxm
set_option linter.unusedVariables false
attribute [local go_sem ↓] Go.wp_at_zero Go.wp_at_succ

theorem conv_one (W : World) (g : Nat) (x : Int) (h0 : 0 ≤ x) (hx : x < 256) (h : W.cell? ⟨g, 0, none⟩ = some (.int .u8 x)) : (convert 71 9 (.slice (some ⟨g, 0, none⟩) 1 1)).run Tryd.prog W = .ok (Str [UInt8.ofNat x.toNat]) W := by
  have := run_convert_bytes_back (P := Tryd.prog) W 71 9 5 ⟨g, 0, none⟩ 1 [UInt8.ofNat x.toNat] Tryd.underlying71 Tryd.underlying5 Tryd.underlying9 (fun j hj => by
    have : j = 0 := by simpa using hj
    subst this
    simp only [List.getElem_cons_zero, UInt8.toNat_ofNat', Nat.reducePow, Nat.mod_eq_of_lt (show x.toNat < 256 by omega), show ((x.toNat : Nat) : Int) = x by omega]
    exact h)
  exact this
set_option maxRecDepth 100000 in
set_option maxHeartbeats 4000000 in
theorem dec_nn (k : Nat) : ∀ (n : Int) (w : World), 0 ≤ n → n < k → n ≤ 9223372036854775807 →
    Calls Tryd.prog 31 #[.int .i64 n] w fun e w' => e = .returned (Str (Lib.decDigits n.toNat)) ∧ Below w.heap.size w w' := by
  induction k with
  | zero => intro n w h0 h1; omega
  | succ k ih =>
    intro n w h0 h1 h2
    by_cases hs : n < 10
    · have F : Lib.decDigits n.toNat = [UInt8.ofNat (48 + n).toNat] := by rw [show (48 + n).toNat = 48 + n.toNat by omega]; exact dec_small (by omega)
      have NN := Lib.hid (Bal (Below.refl w.heap.size w) (.cells #[.int .u8 (48 + n)] 5))
      have CV := conv_one (w.alloc (.cells #[.int .u8 (48 + n)] 5)) w.heap.size (48 + n) (by omega) (by omega) (blk_cell (blk_new w _) 0 _ rfl)
      rw [← F] at CV
      generalize Lib.decDigits n.toNat = D at *
      clear F
      go_enter Tryd.func31, Tryd.ntmps31
      go_wp2_with fail
      go_ret
      exact ⟨rfl, NN.out⟩
    · have F : Lib.decDigits n.toNat = Lib.decDigits (n / 10).toNat ++ Lib.decDigits (n % 10).toNat := by
        rw [dec_small (show (n % 10).toNat < 10 by omega), show (n % 10).toNat = n.toNat % 10 by omega, show (n / 10).toNat = n.toNat / 10 by omega]; exact dec_big (by omega)
      have q1 : 0 ≤ n / 10 := by omega
      have q2 : n / 10 ≤ 9223372036854775807 := by omega
      have r1 : 0 ≤ n % 10 := by omega
      have r2 : n % 10 < 10 := by omega
      have T : n.tdiv 10 = n / 10 := Int.tdiv_eq_ediv_of_nonneg h0
      have R : n.tmod 10 = n % 10 := Int.tmod_eq_emod_of_nonneg h0
      have C1 := Lib.hid (fun W => ih (n / 10) W q1 (by omega) q2)
      have C2 := Lib.hid (fun W => ih (n % 10) W r1 (by omega) (by omega))
      have L1 := dec_len 18 (n / 10).toNat (by omega)
      have L2 := dec_len 18 (n % 10).toNat (by omega)
      have LL : ¬ 9223372036854775807 < (Lib.decDigits (n / 10).toNat).length + (Lib.decDigits (n % 10).toNat).length := by omega
      clear L1 L2
      generalize Lib.decDigits (n % 10).toNat = D2 at *
      generalize Lib.decDigits (n / 10).toNat = D1 at *
      generalize Lib.decDigits n.toNat = D at *
      generalize n / 10 = q at *
      generalize n % 10 = r at *
      have HF := Lib.hid F
      have k1 : ¬ n < 0 := by omega
      clear F ih h1
      go_enter Tryd.func31, Tryd.ntmps31
      go_wp2_with fail
      refine (C1.out _).mono ?_
      rintro e w1 ⟨rfl, hb⟩
      have NN := Lib.hid hb
      clear hb
      go_wp2_with fail
      refine (C2.out _).mono ?_
      rintro e w2 ⟨rfl, hb⟩
      replace NN := Lib.hid (Bgo NN.out hb)
      clear hb
      go_wp2_with fail
      go_ret
      exact ⟨by rw [cat2, HF.out]; rfl, NN.out⟩
theorem dec_calls (n : Int) (w : World) (h1 : -9223372036854775808 < n) (h2 : n ≤ 9223372036854775807) :
    Calls Tryd.prog 31 #[.int .i64 n] w fun e w' => e = .returned (Str (Lib.itoa n)) ∧ Below w.heap.size w w' := by
  by_cases h : n < 0
  · have F : Lib.itoa n = [45] ++ Lib.decDigits (-n).toNat := by rw [itoa_neg' h, show (-n).toNat = n.natAbs by omega]; rfl
    have C := Lib.hid (fun W => dec_nn ((-n).toNat + 1) (-n) W (by omega) (by omega) (by omega))
    have L1 := dec_len 18 (-n).toNat (by omega)
    generalize Lib.decDigits (-n).toNat = D1 at *
    generalize Lib.itoa n = D at *
    have HF := Lib.hid F
    have L2 : D1.length ≤ 100 := by omega
    clear F L1
    go_enter Tryd.func31, Tryd.ntmps31
    go_wp2_with fail
    refine (C.out _).mono ?_
    rintro e w1 ⟨rfl, hb⟩
    have NN := Lib.hid hb
    clear hb
    go_wp2_with fail
    go_ret
    exact ⟨by rw [show (⟨#[45]⟩ : ByteArray) = ⟨([45] : List UInt8).toArray⟩ from rfl, cat2, HF.out]; rfl, NN.out⟩
  · have e : Lib.itoa n = Lib.decDigits n.toNat := itoa_pos' h
    rw [e]
    exact dec_nn (n.toNat + 1) n w (by omega) (by omega) h2
set_option maxRecDepth 100000 in
set_option maxHeartbeats 8000000 in
theorem refText_calls (n i d : Int) (w : World) :
    Calls Tryd.prog 11 #[Cv n i d] w fun e w' => e = .returned (.tuple #[Str (txR n i d), .int .i64 (chkE n i d)]) ∧ Below w.heap.size w w' := by
  have C1 := Lib.hid (fun W => refCheck_calls n i d W)
  have NN := Lib.hid (Below.refl w.heap.size w)
  cases ck : chkB n i d
  · have X : Hid (txR n i d = []) := Lib.hid (by unfold txR; rw [ck]; rfl)
    rw [chkE_no ck] at C1 ⊢
    generalize txR n i d = res at *
    clear ck
    go_enter Tryd.func11, Tryd.ntmps11
    have HB : Hid (Below w.heap.size w (w.alloc (.cells #[.int .i64 n, .int .i64 i, .int .i64 d] 23))) := Lib.hid (Bal (Below.refl _ _) _)
    have K := Lib.hid (blk_new w (.cells #[.int .i64 n, .int .i64 i, .int .i64 d] 23))
    have LT_K : Hid (w.heap.size ≤ w.heap.size) := Lib.hid NN.out.size
    replace NN := Lib.hid (Bgo NN.out HB.out)
    clear HB
    go_wp2_with fail
    generalize w.alloc (.cells #[.int .i64 n, .int .i64 i, .int .i64 d] 23) = W1 at *
    refine (C1.out _).mono ?_
    rintro e w2 ⟨rfl, hb⟩
    replace NN := Lib.hid (Bgo NN.out hb)
    replace K := Lib.hid (blk_next hb K.out)
    clear hb
    go_wp2_with fail
    go_ret2
    exact ⟨by rw [X.out]; rfl, NN.out⟩
  · obtain ⟨v1, v2, v3, _⟩ := chk_iff.1 ck
    have X : Hid (txR n i d = textX n i d) := Lib.hid (by unfold txR; rw [ck]; rfl)
    rw [chkE_yes ck] at C1 ⊢
    generalize txR n i d = res at *
    have T1 := Lib.hid (fun W => dec_calls n W (by omega) (by omega))
    have T2 := Lib.hid (fun W => dec_calls i W (by omega) (by omega))
    have T3 := Lib.hid (fun W => dec_calls d W (by omega) (by omega))
    have FT : Hid (textX n i d = if d = 1 then Lib.itoa n ++ 44 :: Lib.itoa i else (Lib.itoa n ++ 44 :: Lib.itoa i) ++ 47 :: Lib.itoa d) := Lib.hid rfl
    have ln := (itoa_len9 v2.1 v2.2).1
    have li := (itoa_len9 v3.1 v3.2).1
    have ld := (itoa_len9 (x := d) (by omega) (by omega)).1
    generalize Lib.itoa n = tn at *
    generalize Lib.itoa i = ti at *
    generalize Lib.itoa d = td at *
    have LA : ¬ 9223372036854775807 < tn.length + 1 := by omega
    have LB : ¬ 9223372036854775807 < tn.length + 1 + ti.length := by omega
    have lp : (tn ++ 44 :: ti).length ≤ 30 := by simp; omega
    clear ck v2 v3
    by_cases hd : d = 1
    · have F2 := Lib.hid (X.out.trans (FT.out.trans (if_pos hd)))
      clear X FT
      subst hd
      go_enter Tryd.func11, Tryd.ntmps11
      have HB : Hid (Below w.heap.size w (w.alloc (.cells #[.int .i64 n, .int .i64 i, .int .i64 1] 23))) := Lib.hid (Bal (Below.refl _ _) _)
      have K := Lib.hid (blk_new w (.cells #[.int .i64 n, .int .i64 i, .int .i64 1] 23))
      have LT_K : Hid (w.heap.size ≤ w.heap.size) := Lib.hid NN.out.size
      replace NN := Lib.hid (Bgo NN.out HB.out)
      clear HB
      go_wp2_with fail
      generalize w.alloc (.cells #[.int .i64 n, .int .i64 i, .int .i64 1] 23) = W1 at *
      refine (C1.out _).mono ?_
      rintro e w4 ⟨rfl, hb⟩
      replace NN := Lib.hid (Bgo NN.out hb)
      replace K := Lib.hid (blk_next hb K.out)
      clear hb
      go_wp2_with fail
      refine region_I (S := SK [(1, w.heap.size, .cells #[.int .i64 n, .int .i64 i, .int .i64 1] 23), (5, w.heap.size, .cells #[.int .i64 n, .int .i64 i, .int .i64 1] 23)]) (by kernel_rfl) ?_
      have HAL := Lib.hid (fun (k : Nat) => (show SK [(1, w.heap.size, .cells #[.int .i64 n, .int .i64 i, .int .i64 1] 23), (5, w.heap.size, .cells #[.int .i64 n, .int .i64 i, .int .i64 1] 23)] k w4.drew from fun p hp e => by
        simp only [List.mem_cons, List.not_mem_nil, or_false] at hp
        rcases hp with rfl | rfl
        · exact K.out
        · exact K.out))
      have HD := Lib.hid (Below.drew (Below.refl w4.heap.size w4))
      replace NN := Lib.hid (Bgo NN.out HD.out)
      replace K := Lib.hid (blk_next HD.out K.out)
      clear HD
      refine take_I 0 (.pointer (some ⟨w.heap.size, 0, none⟩)) (some 8) rfl (by kernel_rfl) (by kernel_rfl) (by kernel_rfl) rfl (fun _ _ _ h => h) (Or.inl ⟨by rfl, ?_⟩) (SK.drop (by simp)) ?_
      · intro X hX
        clear hX
        go_simp
      try simp only [Act.put, List.setIfInBounds_toArray, List.set_cons_zero, List.set_cons_succ]
      refine take_I 1 (.int .i64 n) (some 9) rfl (by kernel_rfl) (by kernel_rfl) (by kernel_rfl) rfl (fun _ _ _ h => h) (Or.inl ⟨by rfl, ?_⟩) (HAL.out 1) ?_
      · intro X hX
        have hh := hX (1, w.heap.size, .cells #[.int .i64 n, .int .i64 i, .int .i64 1] 23) (List.Mem.head _) rfl
        have hh0 := blk_cell hh 0 _ rfl
        have hhl := blk_lt hh
        clear hh
        clear hX
        go_simp
      try simp only [Act.put, List.setIfInBounds_toArray, List.set_cons_zero, List.set_cons_succ]
      refine take_I 4 (.pointer (some ⟨w.heap.size, 1, none⟩)) (some 12) rfl (by kernel_rfl) (by kernel_rfl) (by kernel_rfl) rfl (fun _ _ _ h => h) (Or.inl ⟨by rfl, ?_⟩) (SK.drop (by simp)) ?_
      · intro X hX
        clear hX
        go_simp
      try simp only [Act.put, List.setIfInBounds_toArray, List.set_cons_zero, List.set_cons_succ]
      refine take_I 5 (.int .i64 i) (some 13) rfl (by kernel_rfl) (by kernel_rfl) (by kernel_rfl) rfl (fun _ _ _ h => h) (Or.inl ⟨by rfl, ?_⟩) (HAL.out 5) ?_
      · intro X hX
        have hh := hX (5, w.heap.size, .cells #[.int .i64 n, .int .i64 i, .int .i64 1] 23) (List.Mem.tail _ (List.Mem.head _)) rfl
        have hh1 := blk_cell hh 1 _ rfl
        have hhl := blk_lt hh
        clear hh
        clear hX
        go_simp
      try simp only [Act.put, List.setIfInBounds_toArray, List.set_cons_zero, List.set_cons_succ]
      refine only_I 2 (by kernel_rfl) rfl (fun K' hK' => ?_)
      go_simp
      go_at_call 31
      refine (T1.out _).mono ?_
      rintro e x1 ⟨rfl, hb⟩
      replace NN := Lib.hid (Bgo NN.out hb)
      replace K := Lib.hid (blk_next hb K.out)
      go_simp
      refine hK'.out _ _ (fun k _ hS => hS.next hb) ?_
      clear hK' K'
      try simp only [Act.put, List.setIfInBounds_toArray, List.set_cons_zero, List.set_cons_succ]
      replace HAL := Lib.hid (fun k => (HAL.out k).next hb)
      refine take_I 3 (.string ((⟨tn.toArray⟩ : ByteArray) ++ ⟨#[44]⟩)) (some 11) rfl (by kernel_rfl) (by kernel_rfl) (by kernel_rfl) rfl (fun _ _ _ h => h) (Or.inl ⟨by rfl, ?_⟩) (SK.drop (by simp)) ?_
      · intro X hX
        clear hX
        go_simp
      try simp only [Act.put, List.setIfInBounds_toArray, List.set_cons_zero, List.set_cons_succ]
      refine only_I 6 (by kernel_rfl) rfl (fun K' hK' => ?_)
      go_simp
      go_at_call 31
      refine (T2.out _).mono ?_
      rintro e x2 ⟨rfl, hb⟩
      replace NN := Lib.hid (Bgo NN.out hb)
      replace K := Lib.hid (blk_next hb K.out)
      go_simp
      refine hK'.out _ _ (fun k _ hS => hS.next hb) ?_
      clear hK' K'
      try simp only [Act.put, List.setIfInBounds_toArray, List.set_cons_zero, List.set_cons_succ]
      replace HAL := Lib.hid (fun k => (HAL.out k).next hb)
      refine only_I 7 (by kernel_rfl) rfl (fun K' hK' => ?_)
      go_simp
      refine hK'.out _ _ (fun k _ h => h) ?_
      clear hK' K'
      try simp only [Act.put, List.setIfInBounds_toArray, List.set_cons_zero, List.set_cons_succ]
      refine only_I 8 (by kernel_rfl) rfl (fun K' hK' => ?_)
      go_simp
      refine hK'.out _ _ (fun k _ h => h) ?_
      clear hK' K'
      try simp only [Act.put, List.setIfInBounds_toArray, List.set_cons_zero, List.set_cons_succ]
      refine done_I (by kernel_rfl) ?_ _
      clear HAL hb
      have C4 := cat_b tn 44 ti
      generalize tn ++ 44 :: ti = tp at *
      have c_K_0 := blk_cell K.out 0 _ rfl
      have c_K_1 := blk_cell K.out 1 _ rfl
      have c_K_2 := blk_cell K.out 2 _ rfl
      have l_K := blk_lt K.out
      simp only [C4]
      clear C4
      go_wp2_with fail
      clear c_K_0 c_K_1 c_K_2 l_K
      go_ret2
      exact ⟨by rw [F2.out]; rfl, NN.out⟩
    · have F2 := Lib.hid (X.out.trans (FT.out.trans (if_neg hd)))
      clear X FT
      have hd' : decide ((1 : Int) < d) = true := decide_eq_true (by omega)
      have LC : ¬ 9223372036854775807 < tn.length + 1 := by omega
      clear hd
      go_enter Tryd.func11, Tryd.ntmps11
      have HB : Hid (Below w.heap.size w (w.alloc (.cells #[.int .i64 n, .int .i64 i, .int .i64 d] 23))) := Lib.hid (Bal (Below.refl _ _) _)
      have K := Lib.hid (blk_new w (.cells #[.int .i64 n, .int .i64 i, .int .i64 d] 23))
      have LT_K : Hid (w.heap.size ≤ w.heap.size) := Lib.hid NN.out.size
      replace NN := Lib.hid (Bgo NN.out HB.out)
      clear HB
      go_wp2_with fail
      generalize w.alloc (.cells #[.int .i64 n, .int .i64 i, .int .i64 d] 23) = W1 at *
      refine (C1.out _).mono ?_
      rintro e w6 ⟨rfl, hb⟩
      replace NN := Lib.hid (Bgo NN.out hb)
      replace K := Lib.hid (blk_next hb K.out)
      clear hb
      go_wp2_with fail
      refine region_I (S := SK [(1, w.heap.size, .cells #[.int .i64 n, .int .i64 i, .int .i64 d] 23), (5, w.heap.size, .cells #[.int .i64 n, .int .i64 i, .int .i64 d] 23)]) (by kernel_rfl) ?_
      have HAL := Lib.hid (fun (k : Nat) => (show SK [(1, w.heap.size, .cells #[.int .i64 n, .int .i64 i, .int .i64 d] 23), (5, w.heap.size, .cells #[.int .i64 n, .int .i64 i, .int .i64 d] 23)] k w6.drew from fun p hp e => by
        simp only [List.mem_cons, List.not_mem_nil, or_false] at hp
        rcases hp with rfl | rfl
        · exact K.out
        · exact K.out))
      have HD := Lib.hid (Below.drew (Below.refl w6.heap.size w6))
      replace NN := Lib.hid (Bgo NN.out HD.out)
      replace K := Lib.hid (blk_next HD.out K.out)
      clear HD
      refine take_I 0 (.pointer (some ⟨w.heap.size, 0, none⟩)) (some 8) rfl (by kernel_rfl) (by kernel_rfl) (by kernel_rfl) rfl (fun _ _ _ h => h) (Or.inl ⟨by rfl, ?_⟩) (SK.drop (by simp)) ?_
      · intro X hX
        clear hX
        go_simp
      try simp only [Act.put, List.setIfInBounds_toArray, List.set_cons_zero, List.set_cons_succ]
      refine take_I 1 (.int .i64 n) (some 9) rfl (by kernel_rfl) (by kernel_rfl) (by kernel_rfl) rfl (fun _ _ _ h => h) (Or.inl ⟨by rfl, ?_⟩) (HAL.out 1) ?_
      · intro X hX
        have hh := hX (1, w.heap.size, .cells #[.int .i64 n, .int .i64 i, .int .i64 d] 23) (List.Mem.head _) rfl
        have hh0 := blk_cell hh 0 _ rfl
        have hhl := blk_lt hh
        clear hh
        clear hX
        go_simp
      try simp only [Act.put, List.setIfInBounds_toArray, List.set_cons_zero, List.set_cons_succ]
      refine take_I 4 (.pointer (some ⟨w.heap.size, 1, none⟩)) (some 12) rfl (by kernel_rfl) (by kernel_rfl) (by kernel_rfl) rfl (fun _ _ _ h => h) (Or.inl ⟨by rfl, ?_⟩) (SK.drop (by simp)) ?_
      · intro X hX
        clear hX
        go_simp
      try simp only [Act.put, List.setIfInBounds_toArray, List.set_cons_zero, List.set_cons_succ]
      refine take_I 5 (.int .i64 i) (some 13) rfl (by kernel_rfl) (by kernel_rfl) (by kernel_rfl) rfl (fun _ _ _ h => h) (Or.inl ⟨by rfl, ?_⟩) (HAL.out 5) ?_
      · intro X hX
        have hh := hX (5, w.heap.size, .cells #[.int .i64 n, .int .i64 i, .int .i64 d] 23) (List.Mem.tail _ (List.Mem.head _)) rfl
        have hh1 := blk_cell hh 1 _ rfl
        have hhl := blk_lt hh
        clear hh
        clear hX
        go_simp
      try simp only [Act.put, List.setIfInBounds_toArray, List.set_cons_zero, List.set_cons_succ]
      refine only_I 2 (by kernel_rfl) rfl (fun K' hK' => ?_)
      go_simp
      go_at_call 31
      refine (T1.out _).mono ?_
      rintro e x1 ⟨rfl, hb⟩
      replace NN := Lib.hid (Bgo NN.out hb)
      replace K := Lib.hid (blk_next hb K.out)
      go_simp
      refine hK'.out _ _ (fun k _ hS => hS.next hb) ?_
      clear hK' K'
      try simp only [Act.put, List.setIfInBounds_toArray, List.set_cons_zero, List.set_cons_succ]
      replace HAL := Lib.hid (fun k => (HAL.out k).next hb)
      refine take_I 3 (.string ((⟨tn.toArray⟩ : ByteArray) ++ ⟨#[44]⟩)) (some 11) rfl (by kernel_rfl) (by kernel_rfl) (by kernel_rfl) rfl (fun _ _ _ h => h) (Or.inl ⟨by rfl, ?_⟩) (SK.drop (by simp)) ?_
      · intro X hX
        clear hX
        go_simp
      try simp only [Act.put, List.setIfInBounds_toArray, List.set_cons_zero, List.set_cons_succ]
      refine only_I 6 (by kernel_rfl) rfl (fun K' hK' => ?_)
      go_simp
      go_at_call 31
      refine (T2.out _).mono ?_
      rintro e x2 ⟨rfl, hb⟩
      replace NN := Lib.hid (Bgo NN.out hb)
      replace K := Lib.hid (blk_next hb K.out)
      go_simp
      refine hK'.out _ _ (fun k _ hS => hS.next hb) ?_
      clear hK' K'
      try simp only [Act.put, List.setIfInBounds_toArray, List.set_cons_zero, List.set_cons_succ]
      replace HAL := Lib.hid (fun k => (HAL.out k).next hb)
      refine only_I 7 (by kernel_rfl) rfl (fun K' hK' => ?_)
      go_simp
      refine hK'.out _ _ (fun k _ h => h) ?_
      clear hK' K'
      try simp only [Act.put, List.setIfInBounds_toArray, List.set_cons_zero, List.set_cons_succ]
      refine only_I 8 (by kernel_rfl) rfl (fun K' hK' => ?_)
      go_simp
      refine hK'.out _ _ (fun k _ h => h) ?_
      clear hK' K'
      try simp only [Act.put, List.setIfInBounds_toArray, List.set_cons_zero, List.set_cons_succ]
      refine done_I (by kernel_rfl) ?_ _
      clear HAL hb
      have C4 := cat_b tn 44 ti
      generalize tn ++ 44 :: ti = tp at *
      have c_K_0 := blk_cell K.out 0 _ rfl
      have c_K_1 := blk_cell K.out 1 _ rfl
      have c_K_2 := blk_cell K.out 2 _ rfl
      have l_K := blk_lt K.out
      simp only [C4]
      clear C4
      go_wp2_with fail
      clear c_K_0 c_K_1 c_K_2 l_K
      refine (T3.out _).mono ?_
      rintro e w7 ⟨rfl, hb⟩
      replace NN := Lib.hid (Bgo NN.out hb)
      replace K := Lib.hid (blk_next hb K.out)
      clear hb
      have LD : ¬ 9223372036854775807 < tp.length + 1 + td.length := by omega
      go_wp2_with fail
      go_ret2
      exact ⟨by rw [cat_b tp 47 td, F2.out]; rfl, NN.out⟩
end Go.Proofs.YtbbjclbpllfdeaaDoor
