/- Contracts of layer 45: lengths and lost blocks of a stripe. -/
import Derived.Test.YtmpmeeacdllomaaPaw
import Derived.Test.YtmpmeeacdllomaaPam
namespace Go.Proofs.Ytmpmeeacdllomaa
open Go.ChangeShapes Go.WideShapes Go.ChangeAt Go.RowKit Gf
set_option linter.unusedVariables false

theorem size_calls (D M : Int) (A : Option Addr) (c B : Nat) (m : List (List Nat)) (w : World) (hn : m.length ≤ c) (hc : c ≤ 9223372036854775807) (hs : RMA B w A m) :
    Calls Try.prog 50 #[Sv D M (.slice A m.length c)] w fun e w' => e = .returned (.int .i64 (szL m : Nat)) ∧ Below w.heap.size w w' := by
  generalize hv : szL m = v
  have HV := Lib.hid hv
  have HS := Lib.hid hs
  clear hs hv
  go_enter Try.func50, Try.ntmps50
  go_wp2_with fail
  go_loop [8] (fun i => ∃ k : Nat, k ≤ m.length ∧ i = .int .i64 k ∧ Hid (∀ (j : Nat) (l' : List Nat), j < k → m[j]? = some l' → l'.length = 0)) (fun i => m.length - (intOf i).toNat)
  case atStart => exact ⟨0, by omega, rfl, Lib.hid (fun j l' h => by omega)⟩
  case round =>
    obtain ⟨k, hk, rfl, HN⟩ := hrel
    by_cases hlt : k < m.length
    · obtain ⟨l, hl⟩ := get_some hlt
      obtain ⟨b, off, Ai, ci, rfl, hb, h1, h2, h3, _⟩ := HS.out.at_ hl
      have HL := Lib.hid hl
      clear hl
      by_cases h0 : l.length = 0
      · have q : ((l.length : Int) != 0) = false := by rw [h0]; rfl
        have H0 := Lib.hid h0
        clear h0
        go_wp2_with fail
        refine ⟨⟨k + 1, by omega, by go_num, Lib.hid ?_⟩, by simp [intOf]; omega⟩
        intro j l' hj hl'
        by_cases e : j = k
        · subst e; rw [HL.out] at hl'; cases hl'; exact H0.out
        · exact HN.out j l' (by omega) hl'
      · have q : ((l.length : Int) != 0) = true := by rw [bne_iff_ne]; omega
        have H0 := Lib.hid h0
        clear h0
        go_wp2_with fail
        go_ret
        refine ⟨ret_int ?_, Bal (Below.refl _ _) _⟩
        rw [← HV.out, szL_at HL.out H0.out HN.out]
    · obtain rfl : k = m.length := by omega
      go_wp2_with fail
      go_ret
      refine ⟨ret_int ?_, Bal (Below.refl _ _) _⟩
      rw [← HV.out, szL_none (fun j l' hl => HN.out j l' (get_lt hl) hl)]; rfl
theorem lost_calls (D M : Int) (A : Option Addr) (c B : Nat) (m : List (List Nat)) (w : World) (hn : m.length ≤ c) (hc : c ≤ 9223372036854775807) (hs : RMA B w A m) :
    Calls Try.prog 43 #[Sv D M (.slice A m.length c)] w fun e w' => e = .returned (.int .i64 (lostN m : Nat)) ∧ Below w.heap.size w w' := by
  generalize hv : lostN m = v
  have HV := Lib.hid hv
  have HS := Lib.hid hs
  clear hs hv
  go_enter Try.func43, Try.ntmps43
  go_wp2_with fail
  go_loop [3, 9] (fun s i => ∃ k t : Nat, k ≤ m.length ∧ t ≤ k ∧ i = .int .i64 k ∧ s = .int .i64 t ∧ Hid (lostN (m.take k) = t)) (fun _ i => m.length - (intOf i).toNat)
  case atStart => exact ⟨0, 0, by omega, by omega, rfl, rfl, Lib.hid (by simp [lostN])⟩
  case round =>
    obtain ⟨k, t, hk, ht, rfl, rfl, HN⟩ := hrel
    by_cases hlt : k < m.length
    · obtain ⟨l, hl⟩ := get_some hlt
      obtain ⟨b, off, Ai, ci, rfl, hb, h1, h2, h3, _⟩ := HS.out.at_ hl
      have HL := Lib.hid hl
      clear hl
      by_cases h0 : l.length = 0
      · have q : ((l.length : Int) == 0) = true := by rw [h0]; rfl
        have H0 := Lib.hid h0
        clear h0
        go_wp2_with fail
        refine ⟨⟨k + 1, t + 1, by omega, by omega, by go_num, by go_num, Lib.hid ?_⟩, by simp [intOf]; omega⟩
        rw [lostN_snoc HL.out, HN.out, if_pos H0.out]
      · have q : ((l.length : Int) == 0) = false := by rw [beq_eq_false_iff_ne]; omega
        have H0 := Lib.hid h0
        clear h0
        go_wp2_with fail
        refine ⟨⟨k + 1, t, by omega, by omega, by go_num, rfl, Lib.hid ?_⟩, by simp [intOf]; omega⟩
        rw [lostN_snoc HL.out, HN.out, if_neg H0.out, Nat.add_zero]
    · obtain rfl : k = m.length := by omega
      go_wp2_with fail
      go_ret
      refine ⟨ret_int ?_, Bal (Below.refl _ _) _⟩
      rw [← HV.out, ← HN.out, List.take_of_length_le (Nat.le_refl _)]
theorem refLength_calls (D M : Int) (A : Option Addr) (c B : Nat) (m : List (List Nat)) (w : World) (hn : m.length ≤ c) (hc : c ≤ 9223372036854775807) (hs : RMA B w A m) :
    Calls Try.prog 38 #[Sv D M (.slice A m.length c)] w fun e w' => e = .returned (.int .i64 (szL m : Nat)) ∧ Below w.heap.size w w' := by
  generalize hv : szL m = v
  have HV := Lib.hid hv
  have HS := Lib.hid hs
  clear hs hv
  go_enter Try.func38, Try.ntmps38
  go_wp2_with fail
  go_loop [3] (fun i => ∃ k : Nat, k ≤ m.length ∧ i = .int .i64 k ∧ Hid (∀ (j : Nat) (l' : List Nat), j < k → m[j]? = some l' → l'.length = 0)) (fun i => m.length - (intOf i).toNat)
  case atStart => exact ⟨0, by omega, rfl, Lib.hid (fun j l' h => by omega)⟩
  case round =>
    obtain ⟨k, hk, rfl, HN⟩ := hrel
    by_cases hlt : k < m.length
    · obtain ⟨l, hl⟩ := get_some hlt
      obtain ⟨b, off, Ai, ci, rfl, hb, h1, h2, h3, _⟩ := HS.out.at_ hl
      have HL := Lib.hid hl
      clear hl
      by_cases h0 : 0 < l.length
      · go_wp2_with fail
        go_ret
        refine ⟨ret_int ?_, Bal (Below.refl _ _) _⟩
        rw [← HV.out, szL_at HL.out (by omega) HN.out]
      · go_wp2_with fail
        refine ⟨⟨k + 1, by omega, by go_num, Lib.hid ?_⟩, by simp [intOf]; omega⟩
        intro j l' hj hl'
        by_cases e : j = k
        · subst e; rw [HL.out] at hl'; cases hl'; omega
        · exact HN.out j l' (by omega) hl'
    · obtain rfl : k = m.length := by omega
      go_wp2_with fail
      go_ret
      refine ⟨ret_int ?_, Bal (Below.refl _ _) _⟩
      rw [← HV.out, szL_none (fun j l' hl => HN.out j l' (get_lt hl) hl)]; rfl
end Go.Proofs.Ytmpmeeacdllomaa
