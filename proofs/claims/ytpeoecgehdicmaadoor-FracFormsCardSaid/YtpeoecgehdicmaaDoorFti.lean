/- Contracts of layer 1: decimal numerals and texts of the reference. -/
import Derived.Test.YtpeoecgehdicmaaDoorFtb
import Derived.Test.YtpeoecgehdicmaaDoorFtj
import Derived.Test.YtpeoecgehdicmaaDoorFrL
import Derived.Deep.RegionLaw
import Derived.Laws.IdiomStrings
namespace Go.Proofs.YtpeoecgehdicmaaDoor
open Go.ChangeShapes Go.WideShapes Go.ChangeAt Go.RowKit
set_option linter.unusedVariables false
attribute [local go_sem ↓] Go.wp_at_zero Go.wp_at_succ

section
variable {P : Program} {ops : Array Oper} {Q : Exit → Act → World → Prop} {md : Region.Mode} {S : Nat → World → Prop}
/- number i and number j alone can come up -/
theorem both_I {oi oj : Oper} {f : Nat} {done : Array Bool} {a : Act} {w : World} (i j : Nat) (hr : Region.ready md ops done = [i, j]) (hi : ops[i]? = some oi) (hj : ops[j]? = some oj)
    (h1 : ∀ K' : Act → World → Prop, Shut (∀ a' w', (∀ k, Region.waitsFor md ops i k = false → S k w → S k w') → wpAnyI P md ops Q S f (done.setIfInBounds i true) a' w' → K' a' w') → if Region.wanted oi (yielded ops a.tmps) = true then Oper.wp P oi a w K' Q else K' (a.put oi.dst undef) w)
    (h2 : ∀ K' : Act → World → Prop, Shut (∀ a' w', (∀ k, Region.waitsFor md ops j k = false → S k w → S k w') → wpAnyI P md ops Q S f (done.setIfInBounds j true) a' w' → K' a' w') → if Region.wanted oj (yielded ops a.tmps) = true then Oper.wp P oj a w K' Q else K' (a.put oj.dst undef) w) :
    wpAnyI P md ops Q S (f + 1) done a w :=
  ⟨fun h0 => (by rw [hr] at h0; cases h0), fun x hx => by
    rw [hr] at hx
    simp only [List.mem_cons, List.not_mem_nil, or_false] at hx
    rcases hx with rfl | rfl
    · exact wpOp_step hi (fun K' hK => h1 K' (fun a' w' h1 h2 => hK a' w' ⟨h1, h2⟩))
    · exact wpOp_step hj (fun K' hK => h2 K' (fun a' w' h1 h2 => hK a' w' ⟨h1, h2⟩))⟩
end
theorem conv_one (W : World) (g : Nat) (x : Int) (h0 : 0 ≤ x) (hx : x < 256) (h : W.cell? ⟨g, 0, none⟩ = some (.int .u8 x)) : (convert 89 9 (.slice (some ⟨g, 0, none⟩) 1 1)).run Tryd.prog W = .ok (Str [UInt8.ofNat x.toNat]) W := by
  have := run_convert_bytes_back (P := Tryd.prog) W 89 9 5 ⟨g, 0, none⟩ 1 [UInt8.ofNat x.toNat] Tryd.underlying89 Tryd.underlying5 Tryd.underlying9 (fun j hj => by
    have : j = 0 := by simpa using hj
    subst this
    simp only [List.getElem_cons_zero, UInt8.toNat_ofNat', Nat.reducePow, Nat.mod_eq_of_lt (show x.toNat < 256 by omega), show ((x.toNat : Nat) : Int) = x by omega]
    exact h)
  exact this
theorem cat_str (a b : List UInt8) : (⟨a.toArray⟩ : ByteArray) ++ ⟨b.toArray⟩ = ⟨(a ++ b).toArray⟩ := cat2 a b
set_option maxRecDepth 100000 in
set_option maxHeartbeats 4000000 in
theorem dec_nn (k : Nat) : ∀ (n : Int) (w : World), 0 ≤ n → n < k → n ≤ 9223372036854775807 →
    Calls Tryd.prog 34 #[.int .i64 n] w fun e w' => e = .returned (Str (Lib.decDigits n.toNat)) ∧ Below w.heap.size w w' := by
  induction k with
  | zero => intro n w h0 h1; omega
  | succ k ih =>
    intro n w h0 h1 h2
    by_cases hs : n < 10
    · have F : Lib.decDigits n.toNat = [UInt8.ofNat (48 + n).toNat] := by rw [show (48 + n).toNat = 48 + n.toNat by omega]; exact dec_small (by omega)
      have NN := Lib.hid (Bal (Below.refl w.heap.size w) (.cells #[.int .u8 (48 + n)] 5))
      have CV := conv_one (w.alloc (.cells #[.int .u8 (48 + n)] 5)) w.heap.size (48 + n) (by omega) (by omega) (blk_cell (blk_new w _) 0 _ rfl)
      rw [← F] at CV
      generalize Lib.decDigits n.toNat = D at *
      clear F
      go_enter Tryd.func34, Tryd.ntmps34
      go_wp2_with fail
      go_ret
      exact ⟨rfl, NN.out⟩
    · have F : Lib.decDigits n.toNat = Lib.decDigits (n / 10).toNat ++ [UInt8.ofNat (48 + n % 10).toNat] := by
        rw [show (48 + n % 10).toNat = 48 + n.toNat % 10 by omega, show (n / 10).toNat = n.toNat / 10 by omega]; exact dec_big (by omega)
      have q1 : 0 ≤ n / 10 := by omega
      have q2 : n / 10 ≤ 9223372036854775807 := by omega
      have r1 : 0 ≤ n % 10 := by omega
      have r2 : n % 10 < 10 := by omega
      have T : n.tdiv 10 = n / 10 := Int.tdiv_eq_ediv_of_nonneg h0
      have R : n.tmod 10 = n % 10 := Int.tmod_eq_emod_of_nonneg h0
      have C := Lib.hid (fun W => ih (n / 10) W q1 (by omega) q2)
      have CV := Lib.hid (fun W g h => conv_one W g (48 + n % 10) (by omega) (by omega) h)
      have W8 : IntKind.u8.wrap (48 + n % 10) = 48 + n % 10 := IntWalk.u8_in _ (by omega)
      have WQ : IntKind.i64.wrap (n / 10) = n / 10 := IntWalk.i64_in _ (by omega)
      have WR : IntKind.i64.wrap (48 + n % 10) = 48 + n % 10 := IntWalk.i64_in _ (by omega)
      have L1 := dec_len 18 (n / 10).toNat (by omega)
      have LL : ¬ 9223372036854775807 < (Lib.decDigits (n / 10).toNat).length + [UInt8.ofNat (48 + n % 10).toNat].length := by
        have : [UInt8.ofNat (48 + n % 10).toNat].length = 1 := rfl
        omega
      clear L1
      generalize [UInt8.ofNat (48 + n % 10).toNat] = D2 at *
      generalize Lib.decDigits (n / 10).toNat = D1 at *
      generalize Lib.decDigits n.toNat = D at *
      generalize n / 10 = q at *
      generalize n % 10 = r at *
      have HF := Lib.hid F
      have k1 : ¬ n < 0 := by omega
      clear F ih h1
      go_enter Tryd.func34, Tryd.ntmps34
      go_wp2_with fail
      refine region_I (S := fun _ _ => True) (by kernel_rfl) ?_
      refine take_I 0 (.int .i64 n) (some 16) rfl (by kernel_rfl) (by kernel_rfl) (by kernel_rfl) rfl (fun _ _ _ h => h) (Or.inl ⟨by rfl, ?_⟩) trivial ?_
      · intro X hX
        clear hX
        go_simp
      try simp only [Act.put, List.setIfInBounds_toArray, List.set_cons_zero, List.set_cons_succ]
      refine take_I 1 (.int .i64 q) (some 17) rfl (by kernel_rfl) (by kernel_rfl) (by kernel_rfl) rfl (fun _ _ _ h => h) (Or.inl ⟨by rfl, ?_⟩) trivial ?_
      · intro X hX
        clear hX
        go_simp
      try simp only [Act.put, List.setIfInBounds_toArray, List.set_cons_zero, List.set_cons_succ]
      refine take_I 3 (.int .i64 n) (some 19) rfl (by kernel_rfl) (by kernel_rfl) (by kernel_rfl) rfl (fun _ _ _ h => h) (Or.inl ⟨by rfl, ?_⟩) trivial ?_
      · intro X hX
        clear hX
        go_simp
      try simp only [Act.put, List.setIfInBounds_toArray, List.set_cons_zero, List.set_cons_succ]
      refine take_I 4 (.int .i64 r) (some 20) rfl (by kernel_rfl) (by kernel_rfl) (by kernel_rfl) rfl (fun _ _ _ h => h) (Or.inl ⟨by rfl, ?_⟩) trivial ?_
      · intro X hX
        clear hX
        go_simp
      try simp only [Act.put, List.setIfInBounds_toArray, List.set_cons_zero, List.set_cons_succ]
      refine take_I 5 (.int .i64 (48 + r)) (some 21) rfl (by kernel_rfl) (by kernel_rfl) (by kernel_rfl) rfl (fun _ _ _ h => h) (Or.inl ⟨by rfl, ?_⟩) trivial ?_
      · intro X hX
        clear hX
        go_simp
      try simp only [Act.put, List.setIfInBounds_toArray, List.set_cons_zero, List.set_cons_succ]
      refine take_I 6 (.int .u8 (48 + r)) (some 22) rfl (by kernel_rfl) (by kernel_rfl) (by kernel_rfl) rfl (fun _ _ _ h => h) (Or.inl ⟨by rfl, ?_⟩) trivial ?_
      · intro X hX
        clear hX
        go_simp
      try simp only [Act.put, List.setIfInBounds_toArray, List.set_cons_zero, List.set_cons_succ]
      refine both_I 2 7 (by kernel_rfl) rfl rfl (fun K' hK' => ?_) (fun K' hK' => ?_)
      · have z := 0
        go_simp
        go_at_call 34
        refine (C.out _).mono ?_
        rintro e w1 ⟨rfl, hb⟩
        have NN := Lib.hid (Bgo (Below.drew (Below.refl w.heap.size w)) hb)
        clear hb
        go_simp
        refine hK'.out _ _ (fun _ _ _ => trivial) ?_
        clear hK' K'
        try simp only [Act.put, List.setIfInBounds_toArray, List.set_cons_zero, List.set_cons_succ]
        refine only_I 7 (by kernel_rfl) rfl (fun K' hK' => ?_)
        go_simp
        refine hK'.out _ _ (fun _ _ _ => trivial) ?_
        clear hK' K'
        try simp only [Act.put, List.setIfInBounds_toArray, List.set_cons_zero, List.set_cons_succ]
        have cv := CV.out (w1.alloc (.cells #[.int .u8 (48 + r)] 5)) w1.heap.size (blk_cell (blk_new w1 _) 0 _ rfl)
        refine only_I 8 (by kernel_rfl) rfl (fun K' hK' => ?_)
        go_simp
        refine hK'.out _ _ (fun _ _ _ => trivial) ?_
        clear hK' K'
        try simp only [Act.put, List.setIfInBounds_toArray, List.set_cons_zero, List.set_cons_succ]
        refine only_I 9 (by kernel_rfl) rfl (fun K' hK' => ?_)
        go_simp
        refine hK'.out _ _ (fun _ _ _ => trivial) ?_
        clear hK' K'
        try simp only [Act.put, List.setIfInBounds_toArray, List.set_cons_zero, List.set_cons_succ]
        refine only_I 10 (by kernel_rfl) rfl (fun K' hK' => ?_)
        go_simp
        refine hK'.out _ _ (fun _ _ _ => trivial) ?_
        clear hK' K'
        try simp only [Act.put, List.setIfInBounds_toArray, List.set_cons_zero, List.set_cons_succ]
        refine done_I (by kernel_rfl) ?_ _
        go_wp2_with fail
        go_ret
        exact ⟨by rw [cat_str, HF.out]; rfl, Bal NN.out _⟩
      · have z := 0
        go_simp
        refine hK'.out _ _ (fun _ _ _ => trivial) ?_
        clear hK' K'
        try simp only [Act.put, List.setIfInBounds_toArray, List.set_cons_zero, List.set_cons_succ]
        have B := Lib.hid (blk_new w.drew (.cells #[.int .u8 (48 + r)] 5))
        have NN := Lib.hid (Bal (Below.drew (Below.refl w.heap.size w)) (.cells #[.int .u8 (48 + r)] 5))
        have cv := CV.out ((w.alloc (.cells #[.int .u8 (48 + r)] 5)).drew) w.heap.size (blk_cell (show ((w.alloc (.cells #[.int .u8 (48 + r)] 5)).drew).heap[w.heap.size]? = some (.cells #[.int .u8 (48 + r)] 5) from blk_new w _) 0 _ rfl)
        refine both_I 2 8 (by kernel_rfl) rfl rfl (fun K' hK' => ?_) (fun K' hK' => ?_)
        · clear cv
          go_simp
          go_at_call 34
          refine (C.out _).mono ?_
          rintro e w1 ⟨rfl, hb⟩
          have cv := CV.out w1 w.heap.size (blk_cell (blk_next hb B.out) 0 _ rfl)
          replace NN := Lib.hid (Bgo NN.out hb)
          clear hb
          go_simp
          refine hK'.out _ _ (fun _ _ _ => trivial) ?_
          clear hK' K'
          try simp only [Act.put, List.setIfInBounds_toArray, List.set_cons_zero, List.set_cons_succ]
          refine only_I 8 (by kernel_rfl) rfl (fun K' hK' => ?_)
          go_simp
          refine hK'.out _ _ (fun _ _ _ => trivial) ?_
          clear hK' K'
          try simp only [Act.put, List.setIfInBounds_toArray, List.set_cons_zero, List.set_cons_succ]
          refine only_I 9 (by kernel_rfl) rfl (fun K' hK' => ?_)
          go_simp
          refine hK'.out _ _ (fun _ _ _ => trivial) ?_
          clear hK' K'
          try simp only [Act.put, List.setIfInBounds_toArray, List.set_cons_zero, List.set_cons_succ]
          refine only_I 10 (by kernel_rfl) rfl (fun K' hK' => ?_)
          go_simp
          refine hK'.out _ _ (fun _ _ _ => trivial) ?_
          clear hK' K'
          try simp only [Act.put, List.setIfInBounds_toArray, List.set_cons_zero, List.set_cons_succ]
          refine done_I (by kernel_rfl) ?_ _
          go_wp2_with fail
          go_ret
          exact ⟨by rw [cat_str, HF.out]; rfl, NN.out⟩
        · go_simp
          refine hK'.out _ _ (fun _ _ _ => trivial) ?_
          clear hK' K'
          try simp only [Act.put, List.setIfInBounds_toArray, List.set_cons_zero, List.set_cons_succ]
          refine only_I 2 (by kernel_rfl) rfl (fun K' hK' => ?_)
          go_simp
          go_at_call 34
          refine (C.out _).mono ?_
          rintro e w1 ⟨rfl, hb⟩
          replace NN := Lib.hid (Bgo NN.out hb)
          clear hb cv
          go_simp
          refine hK'.out _ _ (fun _ _ _ => trivial) ?_
          clear hK' K'
          try simp only [Act.put, List.setIfInBounds_toArray, List.set_cons_zero, List.set_cons_succ]
          refine only_I 9 (by kernel_rfl) rfl (fun K' hK' => ?_)
          go_simp
          refine hK'.out _ _ (fun _ _ _ => trivial) ?_
          clear hK' K'
          try simp only [Act.put, List.setIfInBounds_toArray, List.set_cons_zero, List.set_cons_succ]
          refine only_I 10 (by kernel_rfl) rfl (fun K' hK' => ?_)
          go_simp
          refine hK'.out _ _ (fun _ _ _ => trivial) ?_
          clear hK' K'
          try simp only [Act.put, List.setIfInBounds_toArray, List.set_cons_zero, List.set_cons_succ]
          refine done_I (by kernel_rfl) ?_ _
          go_wp2_with fail
          go_ret
          exact ⟨by rw [cat_str, HF.out]; rfl, NN.out⟩
theorem dec_calls (n : Int) (w : World) (h1 : -9223372036854775808 < n) (h2 : n ≤ 9223372036854775807) :
    Calls Tryd.prog 34 #[.int .i64 n] w fun e w' => e = .returned (Str (Lib.itoa n)) ∧ Below w.heap.size w w' := by
  by_cases h : n < 0
  · have F : Lib.itoa n = [45] ++ Lib.decDigits (-n).toNat := by rw [itoa_neg' h, show (-n).toNat = n.natAbs by omega]; rfl
    have C := Lib.hid (fun W => dec_nn ((-n).toNat + 1) (-n) W (by omega) (by omega) (by omega))
    have L1 := dec_len 18 (-n).toNat (by omega)
    have LL : ¬ 9223372036854775807 < ([45] : List UInt8).length + (Lib.decDigits (-n).toNat).length := by
      have : ([45] : List UInt8).length = 1 := rfl
      omega
    generalize Lib.decDigits (-n).toNat = D1 at *
    generalize Lib.itoa n = D at *
    have HF := Lib.hid F
    have L2 : D1.length ≤ 100 := by omega
    clear F L1
    go_enter Tryd.func34, Tryd.ntmps34
    go_wp2_with fail
    refine (C.out _).mono ?_
    rintro e w1 ⟨rfl, hb⟩
    have NN := Lib.hid hb
    clear hb
    go_wp2_with fail
    go_ret
    exact ⟨by rw [show (⟨#[45]⟩ : ByteArray) = ⟨([45] : List UInt8).toArray⟩ from rfl, cat_str, HF.out]; rfl, NN.out⟩
  · have e : Lib.itoa n = Lib.decDigits n.toNat := itoa_pos' h
    rw [e]
    exact dec_nn (n.toNat + 1) n w (by omega) (by omega) h2
end Go.Proofs.YtpeoecgehdicmaaDoor
