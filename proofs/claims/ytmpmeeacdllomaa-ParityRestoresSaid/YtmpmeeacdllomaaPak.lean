/- Contracts of layer 45: Encode of the reference. -/
import Derived.Test.YtmpmeeacdllomaaPal
namespace Go.Proofs.Ytmpmeeacdllomaa
open Go.ChangeShapes Go.WideShapes Go.ChangeAt Go.RowKit Gf
set_option linter.unusedVariables false
attribute [local go_sem ↓] Go.wp_at_zero Go.wp_at_succ

set_option maxHeartbeats 2000000 in
theorem refEncode_calls (A : Option Addr) (c B : Nat) (d : List (List Nat)) (M : Int) (w : World) (hn : d.length ≤ c) (hc : c ≤ 9223372036854775807) (hs : RMA B w A d) :
    Calls Try.prog 25 #[.slice A d.length c, .int .i64 M] w (SEPost w (encS d M) (encE d M)) := by
  by_cases c1 : 8 < d.length ∨ 4 < M
  · have F := Lib.hid (encE_many c1)
    rw [encS_err F.out (by decide), F.out]
    have c1' : 8 < d.length ∨ (d.length ≤ 8 ∧ 4 < M) := by omega
    clear hs c1
    rcases c1' with h | ⟨h, h'⟩
    all_goals
      go_enter Try.func25, Try.ntmps25
      go_wp2_with fail
      refine bodyPost_ret (v := .tuple #[Sv 0 0 (.slice none 0 0), .int .i64 4]) (by simp [results, Try.results25, go_sem]) rfl (SEPost.none_ ?_)
      repeat (first | exact Below.refl _ _ | refine Bal ?_ _ | refine Bset1 ?_ (by simp) _ _)
  by_cases c2 : d.length < 1 ∨ M < 0
  · have F := Lib.hid (encE_few c1 c2)
    rw [encS_err F.out (by decide), F.out]
    have c3 : d.length ≤ 8 := by omega
    have c4 : M ≤ 4 := by omega
    have c2' : d.length = 0 ∨ (1 ≤ d.length ∧ M < 0) := by omega
    clear hs c1 c2
    rcases c2' with h | ⟨h, h'⟩
    · have q : ((d.length : Int) == 0) = true := by rw [h]; rfl
      clear h
      go_enter Try.func25, Try.ntmps25
      go_wp2_with fail
      refine bodyPost_ret (v := .tuple #[Sv 0 0 (.slice none 0 0), .int .i64 8]) (by simp [results, Try.results25, go_sem]) rfl (SEPost.none_ ?_)
      repeat (first | exact Below.refl _ _ | refine Bal ?_ _ | refine Bset1 ?_ (by simp) _ _)
    · have q : ((d.length : Int) == 0) = false := by rw [beq_eq_false_iff_ne]; omega
      go_enter Try.func25, Try.ntmps25
      go_wp2_with fail
      refine bodyPost_ret (v := .tuple #[Sv 0 0 (.slice none 0 0), .int .i64 8]) (by simp [results, Try.results25, go_sem]) rfl (SEPost.none_ ?_)
      repeat (first | exact Below.refl _ _ | refine Bal ?_ _ | refine Bset1 ?_ (by simp) _ _)
  obtain ⟨s0, hs0⟩ := get_some (show 0 < d.length by omega)
  have E0 : Hid (d.getD 0 [] = s0) := Lib.hid (getD_of hs0)
  obtain ⟨b, off, Ai, ci, rfl, hb, h1, h2, h3, h4⟩ := hs.at_ hs0
  have k0 : w.cell? ⟨b, off, none⟩ = some (.slice Ai s0.length ci) := by simpa using h1
  have c3 : d.length ≤ 8 := by omega
  have c4 : M ≤ 4 := by omega
  have c5 : 1 ≤ d.length := by omega
  have c6 : 0 ≤ M := by omega
  have q0 : ((d.length : Int) == 0) = false := by rw [beq_eq_false_iff_ne]; omega
  obtain ⟨M', rfl⟩ := Int.eq_ofNat_of_zero_le c6
  have FB : Hid (s0.length < 1 ∨ 64 < s0.length → encE d (M' : Int) = 8) := Lib.hid (fun h => encE_size c1 c2 (by rw [E0.out]; exact h))
  have FE : Hid (¬ (s0.length < 1 ∨ 64 < s0.length) → encE d (M' : Int) = if allE d then 0 else 8) := Lib.hid (fun h => encE_each c1 c2 (by rw [E0.out]; exact h))
  have HS := Lib.hid hs
  have HS0 := Lib.hid hs0
  clear hs c1 c2 h1 h4 hs0
  go_enter Try.func25, Try.ntmps25
  go_wp2_with fail
  have X0 : Hid ((w.alloc (.cells #[.int .i64 0, .int .i64 0, .slice none 0 0] 31)).heap[w.heap.size]? = some (.cells #[.int .i64 0, .int .i64 0, .slice none 0 0] 31)) := Lib.hid (blk_new w _)
  go_loopw [6] (fun i wr => ∃ k : Nat, k ≤ d.length ∧ i = .int .i64 k ∧ Hid (Below w.heap.size w wr) ∧ Hid (wr.heap[w.heap.size]? = some (.cells #[.int .i64 0, .int .i64 0, .slice none 0 0] 31)) ∧ Hid (∀ (j : Nat) (l' : List Nat), j < k → d[j]? = some l' → l'.length = s0.length ∧ 1 ≤ s0.length ∧ s0.length ≤ 64)) (fun i _ => d.length - (intOf i).toNat)
  case atStart => exact ⟨0, by omega, rfl, Lib.hid (Bal (Below.refl _ _) _), X0, Lib.hid (fun j l' h => by omega)⟩
  case round =>
    clear X0
    obtain ⟨k, hk, rfl, N, X, HN⟩ := hrel
    have x0 : wr.cell? ⟨w.heap.size, 0, none⟩ = some (.int .i64 0) := blk_cell X.out 0 _ rfl
    have x1 : wr.cell? ⟨w.heap.size, 1, none⟩ = some (.int .i64 0) := blk_cell X.out 1 _ rfl
    have x2 : wr.cell? ⟨w.heap.size, 2, none⟩ = some (.slice none 0 0) := blk_cell X.out 2 _ rfl
    have f0 : wr.frozen? ⟨w.heap.size, 0, none⟩ = false := blk_frozen X.out 0
    have f1 : wr.frozen? ⟨w.heap.size, 1, none⟩ = false := blk_frozen X.out 1
    have f2 : wr.frozen? ⟨w.heap.size, 2, none⟩ = false := blk_frozen X.out 2
    by_cases hlt : k < d.length
    · obtain ⟨l, hl⟩ := get_some hlt
      obtain ⟨b', off', Aj, cj, e', hb', g1', g2, g3, _⟩ := HS.out.at_ hl
      injection e' with e'
      injection e' with e1 e2
      subst e1 e2
      have g1 : wr.cell? ⟨b, off + k, none⟩ = some (.slice Aj l.length cj) := (N.out.cell hb).trans g1'
      have k0' : wr.cell? ⟨b, off, none⟩ = some (.slice Ai s0.length ci) := (N.out.cell hb).trans k0
      have hb2 : b < wr.heap.size := Nat.lt_of_lt_of_le hb N.out.size
      have HL := Lib.hid hl
      have k1 : (0 : Int) ≤ (k : Int) := by omega
      have k2 : (k : Int) < (d.length : Int) := by omega
      have k3 : (0 : Int) < (d.length : Int) := by omega
      clear hl g1'
      have bad : Hid ((l.length < 1 ∨ 64 < l.length ∨ l.length ≠ s0.length) → encE d (M' : Int) = 8) := Lib.hid (fun h => by
        by_cases hh : s0.length < 1 ∨ 64 < s0.length
        · exact FB.out hh
        · rw [FE.out hh, allE_false HL.out (by rw [E0.out]; omega)]; rfl)
      have cs : (l.length < 1) ∨ (1 ≤ l.length ∧ 64 < l.length) ∨ (1 ≤ l.length ∧ l.length ≤ 64 ∧ l.length ≠ s0.length) ∨ (1 ≤ l.length ∧ l.length ≤ 64 ∧ l.length = s0.length) := by omega
      rcases cs with a1 | ⟨a1, a2⟩ | ⟨a1, a2, a3⟩ | ⟨a1, a2, a3⟩
      · have BB := Lib.hid (bad.out (.inl a1))
        have d1 : decide ((l.length : Int) < 1) = true := by simp; omega
        go_wp2_with fail
        go_quiet (fail)
        go_wp2_with fail
        have Z := blk_set3 (w := wr.drewN nq) X.out (.int .i64 0) (.int .i64 0) (.slice none 0 0)
        have e0 := blk_cell Z 0 _ rfl
        have e1 := blk_cell Z 1 _ rfl
        have e2 := blk_cell Z 2 _ rfl
        rw [encS_err BB.out (by decide), BB.out]
        refine bodyPost_ret (v := .tuple #[Sv 0 0 (.slice none 0 0), .int .i64 8]) (by simp [results, Try.results25, go_sem, e0, e1, e2]) rfl (SEPost.none_ ?_)
        exact Bset3 (below_drewN N.out _) (Nat.le_refl _) _ _ _
      · have BB := Lib.hid (bad.out (.inr (.inl a2)))
        have d1 : decide ((l.length : Int) < 1) = false := by simp; omega
        have d2 : decide ((64 : Int) < (l.length : Int)) = true := by simp; omega
        go_wp2_with fail
        go_quiet (fail)
        go_wp2_with fail
        have Z := blk_set3 (w := wr.drewN nq) X.out (.int .i64 0) (.int .i64 0) (.slice none 0 0)
        have e0 := blk_cell Z 0 _ rfl
        have e1 := blk_cell Z 1 _ rfl
        have e2 := blk_cell Z 2 _ rfl
        rw [encS_err BB.out (by decide), BB.out]
        refine bodyPost_ret (v := .tuple #[Sv 0 0 (.slice none 0 0), .int .i64 8]) (by simp [results, Try.results25, go_sem, e0, e1, e2]) rfl (SEPost.none_ ?_)
        exact Bset3 (below_drewN N.out _) (Nat.le_refl _) _ _ _
      · have BB := Lib.hid (bad.out (.inr (.inr a3)))
        have d1 : decide ((l.length : Int) < 1) = false := by simp; omega
        have d2 : decide ((64 : Int) < (l.length : Int)) = false := by simp; omega
        have d3 : ((l.length : Int) != (s0.length : Int)) = true := by rw [bne_iff_ne]; omega
        clear a3
        go_wp2_with fail
        go_quiet (fail)
        go_wp2_with fail
        have Z := blk_set3 (w := wr.drewN nq) X.out (.int .i64 0) (.int .i64 0) (.slice none 0 0)
        have e0 := blk_cell Z 0 _ rfl
        have e1 := blk_cell Z 1 _ rfl
        have e2 := blk_cell Z 2 _ rfl
        rw [encS_err BB.out (by decide), BB.out]
        refine bodyPost_ret (v := .tuple #[Sv 0 0 (.slice none 0 0), .int .i64 8]) (by simp [results, Try.results25, go_sem, e0, e1, e2]) rfl (SEPost.none_ ?_)
        exact Bset3 (below_drewN N.out _) (Nat.le_refl _) _ _ _
      · have d1 : decide ((l.length : Int) < 1) = false := by simp; omega
        have d2 : decide ((64 : Int) < (l.length : Int)) = false := by simp; omega
        have d3 : ((l.length : Int) != (s0.length : Int)) = false := by rw [a3]; simp
        have A3 := Lib.hid a3
        clear a3
        go_wp2_with fail
        go_quiet (fail)
        go_wp2_with fail
        refine ⟨⟨k + 1, by omega, by go_num, Lib.hid (below_drewN N.out _), Lib.hid (blk_drewN X.out _), Lib.hid ?_⟩, by simp [intOf]; omega⟩
        intro j l' hj hl'
        have a3 := A3.out
        by_cases e : j = k
        · subst e; rw [HL.out] at hl'; cases hl'; exact ⟨a3, by omega, by omega⟩
        · exact HN.out j l' (by omega) hl'
    · obtain rfl : k = d.length := by omega
      have EA : Hid (∀ l ∈ d, l.length = s0.length) := Lib.hid (fun l hl => by
        obtain ⟨j, hj, rfl⟩ := List.mem_iff_getElem.1 hl
        exact (HN.out j _ hj (List.getElem?_eq_getElem hj)).1)
      have E1 := HN.out 0 s0 (by omega) HS0.out
      have FF : Hid (encE d (M' : Int) = 0) := Lib.hid (by
        rw [FE.out (by omega), allE_true (fun j l hl => by rw [E0.out]; exact (HN.out j l (get_lt hl) hl).1)]; rfl)
      have FS : Hid (encS d (M' : Int) = ((d.length : Int), (M' : Int), enc d M')) := Lib.hid (by unfold encS; rw [FF.out, if_pos rfl, Int.toNat_natCast])
      have c8 : s0.length ≤ 64 := E1.2.2
      clear E1
      go_wp2_with fail
      refine (refMade_calls _ c B d M' s0.length _ hn hc (HS.out.next N.out) (by omega) c3 (by omega) c8 EA.out).mono ?_
      rintro e w1 ⟨v, rfl, ⟨us, ho⟩, hb1⟩
      obtain ⟨Av, cv, rfl, hv1, hv2, _⟩ := own_form ho.top
      have X1 := Lib.hid (blk_next hb1 X.out)
      have N1 := Lib.hid (Bgo N.out hb1)
      have O1 := Lib.hid (ho.mono (B' := w.heap.size) N.out.size)
      clear hb1 ho x0 x1 x2 f0 f1 f2
      have x0 : w1.cell? ⟨w.heap.size, 0, none⟩ = some (.int .i64 0) := blk_cell X1.out 0 _ rfl
      have x1 : w1.cell? ⟨w.heap.size, 1, none⟩ = some (.int .i64 0) := blk_cell X1.out 1 _ rfl
      have x2 : w1.cell? ⟨w.heap.size, 2, none⟩ = some (.slice none 0 0) := blk_cell X1.out 2 _ rfl
      have f0 : w1.frozen? ⟨w.heap.size, 0, none⟩ = false := blk_frozen X1.out 0
      have f1 : w1.frozen? ⟨w.heap.size, 1, none⟩ = false := blk_frozen X1.out 1
      have f2 : w1.frozen? ⟨w.heap.size, 2, none⟩ = false := blk_frozen X1.out 2
      go_wp2_with fail
      have Z := blk_set3 X1.out (.int .i64 (d.length : Int)) (.int .i64 (M' : Int)) (.slice Av (enc d M').length cv)
      have e0 := blk_cell Z 0 _ rfl
      have e1 := blk_cell Z 1 _ rfl
      have e2 := blk_cell Z 2 _ rfl
      rw [FS.out, FF.out]
      refine bodyPost_ret (v := .tuple #[Sv (d.length : Int) (M' : Int) (.slice Av (enc d M').length cv), .int .i64 0]) (by simp [results, Try.results25, go_sem, e0, e1, e2]) rfl ⟨_, rfl, ⟨us, ?_⟩, ?_⟩
      · exact O1.out.set3_ X1.out _ _ _
      · exact Bset3 N1.out (Nat.le_refl _) _ _ _
end Go.Proofs.Ytmpmeeacdllomaa
