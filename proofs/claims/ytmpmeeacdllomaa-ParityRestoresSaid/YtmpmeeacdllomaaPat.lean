/- Contracts of layer 45: valid stripes of the reference. -/
import Derived.Test.YtmpmeeacdllomaaPau
namespace Go.Proofs.Ytmpmeeacdllomaa
open Go.ChangeShapes Go.WideShapes Go.ChangeAt Go.RowKit Gf
set_option linter.unusedVariables false

set_option maxHeartbeats 1000000 in
theorem refCheck_calls (D M : Int) (A : Option Addr) (c B : Nat) (m : List (List Nat)) (w : World) (hn : m.length ≤ c) (hc : c ≤ 9223372036854775807) (hs : RMA B w A m) :
    Calls Try.prog 31 #[Sv D M (.slice A m.length c)] w fun e w' => e = .returned (.int .i64 (chkE D M m)) ∧ Below w.heap.size w w' := by
  by_cases c1 : 12 < m.length
  · have F := Lib.hid (chk_many (D := D) (M := M) c1)
    generalize chkE D M m = v at *
    clear hs
    go_enter Try.func31, Try.ntmps31
    go_wp2_with fail
    go_ret
    exact ⟨ret_int F.out.symm, Bal (Below.refl _ _) _⟩
  cases c2 : okN D M
  · have F := Lib.hid (chk_num c1 c2)
    have hx := okN_false c2
    generalize chkE D M m = v at *
    clear hs c2
    rcases hx with h | ⟨h, h'⟩ | ⟨h, h', h''⟩ | ⟨h, h', h'', h3⟩
    all_goals
      go_enter Try.func31, Try.ntmps31
      go_wp2_with fail
      go_ret
      exact ⟨ret_int F.out.symm, Bal (Below.refl _ _) _⟩
  obtain ⟨d1, d2, d3, d4⟩ := okN_true c2
  by_cases c3 : (m.length : Int) = D + M
  · have SC := Lib.hid (fun W (h : RMA B W A m) => refLength_calls D M A c B m W hn hc h)
    have HS := Lib.hid hs
    by_cases c4 : szL m < 1 ∨ 64 < szL m
    · have F := Lib.hid (chk_size c1 c2 c3 c4)
      generalize chkE D M m = v at *
      have q : ((m.length : Int) != D + M) = false := by rw [c3]; simp
      generalize szL m = z at *
      clear hs c2 c3
      rcases c4 with h | h
      · go_enter Try.func31, Try.ntmps31
        go_wp2_with fail
        refine (SC.out _ (HS.out.next (Bal (Below.refl _ _) _))).mono ?_
        rintro e w1 ⟨rfl, hb1⟩
        go_wp2_with fail
        go_ret
        exact ⟨ret_int F.out.symm, Bgo (Bal (Below.refl _ _) _) hb1⟩
      · have h' : ¬ z < 1 := by omega
        go_enter Try.func31, Try.ntmps31
        go_wp2_with fail
        refine (SC.out _ (HS.out.next (Bal (Below.refl _ _) _))).mono ?_
        rintro e w1 ⟨rfl, hb1⟩
        have N1 := Lib.hid (Bgo (Bal (Below.refl _ _) _) hb1)
        have X1 := Lib.hid (blk_next hb1 (blk_new w _))
        have x0 : w1.cell? ⟨w.heap.size, 0, none⟩ = some (.int .i64 D) := blk_cell X1.out 0 _ rfl
        have x1 : w1.cell? ⟨w.heap.size, 1, none⟩ = some (.int .i64 M) := blk_cell X1.out 1 _ rfl
        have x2 : w1.cell? ⟨w.heap.size, 2, none⟩ = some (.slice A m.length c) := blk_cell X1.out 2 _ rfl
        clear hb1
        go_wp2_with fail
        refine (SC.out _ (HS.out.next N1.out)).mono ?_
        rintro e w2 ⟨rfl, hb2⟩
        go_wp2_with fail
        go_ret
        exact ⟨ret_int F.out.symm, Bgo N1.out hb2⟩
    · have F := Lib.hid (chk_each c1 c2 c3 c4)
      generalize chkE D M m = v at *
      have q : ((m.length : Int) != D + M) = false := by rw [c3]; simp
      obtain ⟨z, hz⟩ : ∃ z, szL m = z := ⟨_, rfl⟩
      have c5 : 1 ≤ szL m := by omega
      have c6 : szL m ≤ 64 := by omega
      rw [hz] at SC c5 c6
      have HZ := Lib.hid hz
      clear hs c2 c3 c4 hz
      go_enter Try.func31, Try.ntmps31
      go_wp2_with fail
      refine (SC.out _ (HS.out.next (Bal (Below.refl _ _) _))).mono ?_
      rintro e w1 ⟨rfl, hb1⟩
      have N1 := Lib.hid (Bgo (Bal (Below.refl _ _) _) hb1)
      have X1 := Lib.hid (blk_next hb1 (blk_new w _))
      have x0 : w1.cell? ⟨w.heap.size, 0, none⟩ = some (.int .i64 D) := blk_cell X1.out 0 _ rfl
      have x1 : w1.cell? ⟨w.heap.size, 1, none⟩ = some (.int .i64 M) := blk_cell X1.out 1 _ rfl
      have x2 : w1.cell? ⟨w.heap.size, 2, none⟩ = some (.slice A m.length c) := blk_cell X1.out 2 _ rfl
      clear hb1
      go_wp2_with fail
      clear x0 x1 x2
      refine (SC.out _ (HS.out.next N1.out)).mono ?_
      rintro e w2 ⟨rfl, hb2⟩
      have N2 := Lib.hid (Bgo N1.out hb2)
      have X2 : Hid (w2.heap[w.heap.size]? = some (.cells #[.int .i64 D, .int .i64 M, .slice A m.length c] 31)) := Lib.hid (blk_next hb2 X1.out)
      clear hb2 N1 X1
      go_wp2_with fail
      go_loopw [3] (fun i wr => ∃ k : Nat, k ≤ m.length ∧ i = .int .i64 k ∧ Hid (Below w.heap.size w wr) ∧ Hid (wr.heap[w.heap.size]? = some (.cells #[.int .i64 D, .int .i64 M, .slice A m.length c] 31)) ∧ Hid (∀ (j : Nat) (l' : List Nat), j < k → m[j]? = some l' → l'.length = 0 ∨ l'.length = szL m)) (fun i _ => m.length - (intOf i).toNat)
      case atStart => exact ⟨0, by omega, rfl, N2, X2, Lib.hid (fun j l' h => by omega)⟩
      case round =>
        clear N2 X2
        obtain ⟨k, hk, rfl, N, X, HN⟩ := hrel
        have x0 : wr.cell? ⟨w.heap.size, 0, none⟩ = some (.int .i64 D) := blk_cell X.out 0 _ rfl
        have x1 : wr.cell? ⟨w.heap.size, 1, none⟩ = some (.int .i64 M) := blk_cell X.out 1 _ rfl
        have x2 : wr.cell? ⟨w.heap.size, 2, none⟩ = some (.slice A m.length c) := blk_cell X.out 2 _ rfl
        by_cases hlt : k < m.length
        · obtain ⟨l, hl⟩ := get_some hlt
          obtain ⟨b, off, Ai, ci, rfl, hb, h1, h2, h3, _⟩ := (HS.out.next N.out).at_ hl
          have HL := Lib.hid hl
          clear hl
          by_cases h0 : l.length = 0
          · have q1 : ((l.length : Int) != 0) = false := by rw [h0]; rfl
            have H0 := Lib.hid h0
            clear h0
            go_wp2_with fail
            refine ⟨⟨k + 1, by omega, by go_num, N, X, Lib.hid ?_⟩, by simp [intOf]; omega⟩
            intro j l' hj hl'
            by_cases e : j = k
            · subst e; rw [HL.out] at hl'; cases hl'; exact .inl H0.out
            · exact HN.out j l' (by omega) hl'
          · have q1 : ((l.length : Int) != 0) = true := by rw [bne_iff_ne]; omega
            have H0 := Lib.hid h0
            by_cases h9 : l.length = z
            · have q2 : ((l.length : Int) != (z : Int)) = false := by rw [h9]; simp
              have H9 := Lib.hid h9
              clear h0 h9
              go_wp2_with fail
              refine (SC.out _ (HS.out.next N.out)).mono ?_
              rintro e w3 ⟨rfl, hb3⟩
              have N3 := Lib.hid (Bgo N.out hb3)
              have X3 := Lib.hid (blk_next hb3 X.out)
              clear hb3 x0 x1 x2
              go_wp2_with fail
              refine ⟨⟨k + 1, by omega, by go_num, N3, X3, Lib.hid ?_⟩, by simp [intOf]; omega⟩
              intro j l' hj hl'
              by_cases e : j = k
              · subst e; rw [HL.out] at hl'; cases hl'; exact .inr (by rw [HZ.out]; exact H9.out)
              · exact HN.out j l' (by omega) hl'
            · have q2 : ((l.length : Int) != (z : Int)) = true := by rw [bne_iff_ne]; omega
              have H9 := Lib.hid h9
              clear h0 h9
              go_wp2_with fail
              refine (SC.out _ (HS.out.next N.out)).mono ?_
              rintro e w3 ⟨rfl, hb3⟩
              have N3 := Lib.hid (Bgo N.out hb3)
              clear hb3 x0 x1 x2
              go_wp2_with fail
              go_ret
              refine ⟨ret_int ?_, N3.out⟩
              rw [F.out, okM_false HL.out H0.out (by rw [HZ.out]; exact H9.out)]; rfl
        · obtain rfl : k = m.length := by omega
          go_wp2_with fail
          go_ret
          refine ⟨ret_int ?_, N.out⟩
          rw [F.out, okM_true (fun j l' hl => HN.out j l' (get_lt hl) hl)]; rfl
  · have F := Lib.hid (chk_len c1 c2 c3)
    generalize chkE D M m = v at *
    have q : ((m.length : Int) != D + M) = true := by rw [bne_iff_ne]; exact c3
    clear hs c2 c3
    go_enter Try.func31, Try.ntmps31
    go_wp2_with fail
    go_ret
    exact ⟨ret_int F.out.symm, Bal (Below.refl _ _) _⟩
end Go.Proofs.Ytmpmeeacdllomaa
