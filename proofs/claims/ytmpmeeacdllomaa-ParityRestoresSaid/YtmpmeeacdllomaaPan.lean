/- Contracts of layer 45: factors and parities of the reference. -/
import Derived.Test.YtmpmeeacdllomaaPao
import Derived.StillTailTactics
namespace Go.Proofs.Ytmpmeeacdllomaa
open Go.ChangeShapes Go.WideShapes Go.ChangeAt Go.RowKit Gf
set_option linter.unusedVariables false
attribute [local go_sem ↓] Go.wp_at_zero Go.wp_at_succ

theorem xor_ne {a b : Nat} (h : a ≠ b) : a ^^^ b ≠ 0 := fun e => h (by
  have : a = (a ^^^ b) ^^^ b := by rw [Nat.xor_assoc, Nat.xor_self, Nat.xor_zero]
  rw [e, Nat.zero_xor] at this
  exact this)
def facs (D j : Nat) : List Nat := (List.range D).map (fac D j)
theorem facs_snoc (D j k : Nat) : (List.range (k + 1)).map (fac D j) = (List.range k).map (fac D j) ++ [fac D j k] := by rw [List.range_succ, List.map_append]; rfl
theorem facs_len (D j : Nat) : (facs D j).length = D := by simp [facs]
theorem facs_at {D j i : Nat} (h : i < D) : (facs D j)[i]? = some (fac D j i) := by simp [facs, h]
theorem facs_byt {D j k : Nat} (h : D + j < 256) (hk : k ≤ D) : Byt ((List.range k).map (fac D j)) := fun x hx => by
  simp only [List.mem_map, List.mem_range] at hx
  obtain ⟨i, hi, rfl⟩ := hx
  exact fac_lt h (by omega)
theorem int_one (k : IntKind) (x : Int) : ∀ u ∈ [Value.int k x], u.oneCell' = true := by
  intro u hu; simp at hu; subst hu; rfl
theorem mul_still (a b : Nat) (ha : a < 256) (hb : b < 256) (w : World) : Calls Try.prog 13 #[.int .u8 a, .int .u8 b] w fun e w' => e = .returned (.int .u8 (gm a b : Nat)) ∧ w' = w := (mul_calls a b ha hb w).mono fun _ _ ⟨h1, h2⟩ => ⟨h1, h2.symm⟩
theorem refMul_still (a b : Nat) (ha : a < 256) (hb : b < 256) (w : World) : Calls Try.prog 14 #[.int .u8 a, .int .u8 b] w fun e w' => e = .returned (.int .u8 (gm a b : Nat)) ∧ w' = w := (refMul_calls a b ha hb w).mono fun _ _ ⟨h1, h2⟩ => ⟨h1, h2.symm⟩
theorem wpre {D j i : Nat} (h : D + j < 256) (hi : i < 256) : bits BinOp.xor IntKind.u8 ((D : Int) + (j : Int)) (i : Int) = (((D + j) ^^^ i : Nat) : Int) := by
  rw [show ((D : Int) + (j : Int)) = ((D + j : Nat) : Int) by omega]; exact u8_xor_nat (D + j) i h hi
set_option maxHeartbeats 1000000 in
theorem refFactors_calls (D j : Nat) (w : World) (hD : D ≤ 8) (hj : j ≤ 4) :
    Calls Try.prog 39 #[.int .i64 D, .int .i64 j] w fun e w' => ∃ v, e = .returned v ∧ OB w.heap.size w' v (facs D j) ∧ Below w.heap.size w w' := by
  obtain ⟨i0, hi0, hz0, hz1, hz2⟩ := info_parts u8_info
  have HI := Lib.hid (And.intro hi0 (And.intro hz0 (And.intro hz1 hz2)))
  clear hi0 hz0 hz1 hz2
  go_enter Try.func39, Try.ntmps39
  go_wp2_with fail
  go_loopw [5, 6] (fun v i wr => ∃ k : Nat, k ≤ D ∧ i = .int .i64 k ∧ Hid (wr.ownsRow w.heap.size 5 1 v k (bv ((List.range k).map (fac D j)))) ∧ Hid (Below w.heap.size w wr)) (fun _ i _ => D - (intOf i).toNat)
  case atStart => exact ⟨0, by omega, rfl, Lib.hid (World.ownsRow_nil _ _ _ _), Lib.hid (Below.refl _ _)⟩
  case round =>
    obtain ⟨k, hk, rfl, O, N⟩ := hrel
    by_cases hlt : k < D
    · have hx := wpre (D := D) (j := j) (i := k) (by omega) (by omega)
      go_wp2_with fail
      refine (refInverse_calls _ (xor_ne (by omega)) (xor_lt (by omega) (by omega)) _).mono ?_
      rintro e w1 ⟨rfl, rfl⟩
      clear hx
      go_wp2_with (at_builtin; refine wpList_append_rd _ rfl (.tmp 12) (.tmp 21) _ rfl w.heap.size 5 i0 _ 1 1 Try.underlying57 HI.out.1 HI.out.2.1 HI.out.2.2.1 HI.out.2.2.2 rfl (by omega) _ k _ rfl (O.out.alloc _) (some ⟨wr.heap.size, 0, none⟩) 1 1 [.int .u8 ((gi ((D + j) ^^^ k) : Nat) : Int)] rfl (rd_one (t := 5) (blk_new _ _)) (int_one _ _) (by simp only [maxLen]; omega) (by omega) (by have q := N.out.size; simp; omega) ?_; intro v1 w1 hown1 hg1 hat1; have O1 := Lib.hid hown1; have N1 : Hid (Below w.heap.size w w1) := Lib.hid (gbel hg1 (Bal N.out _) (fun g hg => (O.out.lt g hg).1)); clear hown1 hg1 hat1)
      refine ⟨⟨k + 1, by omega, by go_num, ?_, N1⟩, by simp [intOf]; omega⟩
      rw [facs_snoc, bv_append]
      exact O1
    · obtain rfl : k = D := by omega
      go_wp2_with fail
      go_ret
      exact ⟨_, rfl, by unfold OB; rw [facs_len]; exact O.out, N.out⟩
set_option maxHeartbeats 1000000 in
theorem refParity_calls (A : Option Addr) (c B : Nat) (d : List (List Nat)) (j n : Nat) (w : World) (hn : d.length ≤ c) (hc : c ≤ 9223372036854775807) (hs : RMA B w A d) (hd0 : 0 < d.length) (hd8 : d.length ≤ 8) (hj : j < 4) (hn64 : n ≤ 64) (hlen : ∀ l ∈ d, l.length = n) :
    Calls Try.prog 53 #[.slice A d.length c, .int .i64 j] w fun e w' => ∃ v, e = .returned v ∧ OB w.heap.size w' v (par d j) ∧ Below w.heap.size w w' := by
  obtain ⟨s0, hs0⟩ := get_some hd0
  have hl0 : s0.length = n := hlen s0 (List.mem_of_getElem? hs0)
  have HS := Lib.hid hs
  have HLEN := Lib.hid hlen
  clear hs hlen
  go_enter Try.func53, Try.ntmps53
  go_wp2_with fail
  refine (refFactors_calls d.length j _ hd8 (by omega)).mono ?_
  rintro e w1 ⟨vf, rfl, hf, hb1⟩
  obtain ⟨Af, cf, rfl, hf1, hf2, _⟩ := own_form hf
  have FR : Hid (RBA w.heap.size w1 Af (facs d.length j)) := Lib.hid ⟨facs_byt (by omega) (Nat.le_refl _), Hd.of_own hf⟩
  rw [facs_len] at hf1
  obtain ⟨b, off, Ai, ci, rfl, hb, h1, h2, h3, h4⟩ := (HS.out.next hb1).at_ hs0
  rw [hl0] at h1 h2
  have c0 : w1.cell? ⟨b, off, none⟩ = some (.slice Ai n ci) := by simpa using h1
  have mk := fun W => make_row W n (by omega)
  have N0 := Lib.hid hb1
  rw [facs_len]
  clear h4 h1 hf hb1
  go_wp2_with fail
  have S0 : Hid ((w1.alloc (.cells (madeCells #[.int .u8 0] n) 5)).ownsRow w1.heap.size 5 1 (.slice (some ⟨w1.heap.size, 0, none⟩) n n) n (bv (parTo d j 0))) := Lib.hid (by
    have := made_own w1 n (by omega)
    rw [show parTo d j 0 = List.replicate n 0 by rw [parTo, getD_of hs0, hl0]]
    exact this)
  clear c0 mk hb h2 h3
  go_loopw [7] (fun i wr => ∃ (k : Nat), k ≤ d.length ∧ i = .int .i64 k ∧ Hid (Below w1.heap.size w1 wr) ∧ Hid (wr.ownsRow w1.heap.size 5 1 (.slice (some ⟨w1.heap.size, 0, none⟩) n n) n (bv (parTo d j k)))) (fun i _ => d.length - (intOf i).toNat)
  case atStart => exact ⟨0, by omega, rfl, Lib.hid (Bal (Below.refl _ _) _), S0⟩
  case round =>
    clear S0
    obtain ⟨k, hk, rfl, N1, S1⟩ := hrel
    have PL : Hid ((parTo d j k).length = n) := Lib.hid (by rw [parTo_len, getD_of hs0, hl0])
    by_cases hlt2 : k < d.length
    · obtain ⟨l, hl⟩ := get_some hlt2
      have hln : l.length = n := HLEN.out l (List.mem_of_getElem? hl)
      have HL := Lib.hid hl
      obtain ⟨wo, rfl⟩ : ∃ wo : World, wo = wr := ⟨_, rfl⟩
      clear hl
      go_wp2_with fail
      go_loopw [8] (fun i wr => ∃ (t : Nat), t ≤ n ∧ i = .int .i64 t ∧ Hid (Below w1.heap.size w1 wr) ∧ Hid (wr.ownsRow w1.heap.size 5 1 (.slice (some ⟨w1.heap.size, 0, none⟩) n n) n (bv (addK (parTo d j k) l (fac d.length j k) t)))) (fun i _ => n - (intOf i).toNat)
      case atStart => exact ⟨0, by omega, rfl, N1, by rw [addK_zero]; exact S1⟩
      case round =>
        clear N1 S1
        obtain ⟨t, ht, rfl, N2, S2⟩ := hrel
        by_cases hlt3 : t < n
        · obtain ⟨y, hy⟩ := get_some (show t < l.length by omega)
          obtain ⟨x, hx⟩ := get_some (show t < (parTo d j k).length by rw [PL.out]; exact hlt3)
          have NN := Bgo N0.out N2.out
          obtain ⟨b', off', Ai, ci, e', hb, h1, h2, h3, h4⟩ := HS.out.at_ HL.out
          injection e' with e'
          injection e' with e1 e2
          subst e1 e2
          rw [hln] at h1 h2
          obtain ⟨bi, oi, rfl, hbi, hci, hy2⟩ := h4.at_ hy
          have cl : wr.cell? ⟨b, off + k, none⟩ = some (.slice (some ⟨bi, oi, none⟩) n ci) := (NN.cell hb).trans h1
          have cy : wr.cell? ⟨bi, oi + t, none⟩ = some (.int .u8 (y : Int)) := (NN.cell hbi).trans hci
          have hbr : b < wr.heap.size := Nat.lt_of_lt_of_le hb NN.size
          obtain ⟨bf, of, rfl, hbf, hcf, hff⟩ := (FR.out.next N2.out).at_ (facs_at hlt2)
          have cx : wr.cell? ⟨w1.heap.size, t, none⟩ = some (.int .u8 (x : Int)) := by
            rw [S2.out.cellAt t (by omega)]; exact bv_get (addK_at hx)
          have fx : wr.frozen? ⟨w1.heap.size, t, none⟩ = false := S2.out.frozenAt t
          have hx2 : x < 256 := (parTo_byt hd8 (by omega) k (by omega)).at_ hx
          have k1 : (0 : Int) ≤ (k : Int) := by omega
          have k2 : (k : Int) < (d.length : Int) := by omega
          have t1 : (0 : Int) ≤ (t : Int) := by omega
          have t2 : (t : Int) < (n : Int) := by omega
          have HY := Lib.hid hy
          have HX := Lib.hid hx
          clear hy hx h1 h4 NN hci
          go_wp2_with fail
          refine wp_region_still_tail 18 (by kernel_rfl) (by kernel_rfl) ?_
          simp only [List.take_succ_cons, List.take_zero, List.drop_succ_cons, List.drop_zero]
          repeat still_step
          still_call (refMul_still (fac d.length j k) y hff hy2 _)
          repeat still_step
          refine wpStill_nil ?_
          go_wp2_with fail
          rw [u8_xor_nat x (gm (fac d.length j k) y) hx2 (gm_lt hff)]
          have st := S2.out.stored t (.int .u8 ((x ^^^ gm (fac d.length j k) y : Nat) : Int))
          refine ⟨⟨t + 1, by omega, by go_num, Lib.hid ?_, Lib.hid ?_⟩, by simp [intOf]; omega⟩
          · exact (gbel st.2 N2.out (fun k hk => by cases hk; exact Nat.le_refl _)).drew
          · rw [addK_succ HX.out HY.out, ← bv_set]
            exact st.1.drew
        · obtain rfl : t = n := by omega
          have S3 : Hid (wr.ownsRow w1.heap.size 5 1 (.slice (some ⟨w1.heap.size, 0, none⟩) t t) t (bv (parTo d j (k + 1)))) := Lib.hid (by
            have := S2.out
            rw [addK_full _ (by omega)] at this
            rw [parTo, getD_of HL.out]; exact this)
          go_wp2_with fail
          exact ⟨⟨k + 1, by omega, by go_num, N2, S3⟩, by simp [intOf]; omega⟩
    · obtain rfl : k = d.length := by omega
      go_wp2_with fail
      go_ret
      exact ⟨_, rfl, by unfold OB; rw [show (par d j).length = n from PL.out]; exact own_mono S1.out N0.out.size, Bgo N0.out N1.out⟩
end Go.Proofs.Ytmpmeeacdllomaa
