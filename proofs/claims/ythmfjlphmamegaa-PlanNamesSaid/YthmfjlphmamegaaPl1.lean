/- Contracts of layer 43: copies of a plan, of the reference. -/
import Derived.Test.YthmfjlphmamegaaPl0
namespace Go.Proofs.Ythmfjlphmamegaa
open Go.ChangeShapes Go.WideShapes Go.ChangeAt Go.RowKit
set_option linter.unusedVariables false
attribute [local go_sem ↓] Go.wp_at_zero Go.wp_at_succ

theorem own0 {W : World} {base g : Nat} {e : TypeId} {size : Nat} (h : W.heap[g]? = some (.cells #[] e)) (hb : base ≤ g) : W.ownsRow base e size (.slice (some ⟨g, 0, none⟩) 0 0) 0 [] :=
  ⟨by simp, .inr ⟨g, 0, #[], rfl, hb, h, Nat.le_refl _, by unfold maxLen; omega, by simp, by simp⟩⟩
theorem own_ne {W : World} {base g : Nat} {e t : TypeId} {size n : Nat} {v : Value} {xs : List Value} {cs : Array Value} (h : W.ownsRow base e size v n xs) (hg : W.heap[g]? = some (.cells cs t)) (hne : e ≠ t) : v.ownBlock ≠ some g := by
  rcases h.2 with ⟨rfl, _⟩ | ⟨g', cap, cur, rfl, _, hh, _⟩
  · simp [Value.ownBlock]
  · intro he
    have : g' = g := by simpa [Value.ownBlock] using he
    subst this
    rw [hh] at hg
    injection hg with hg
    injection hg with _ ht
    exact hne ht
theorem kept_ne {W w1 : World} {row : Option Nat} (hg : W.grownBy w1 row) {base g : Nat} {e t : TypeId} {size n : Nat} {v : Value} {xs : List Value} {cs : Array Value} (h : W.ownsRow base e size v n xs) (hr : row = some g) (hb : W.heap[g]? = some (.cells cs t)) (hne : e ≠ t) : w1.ownsRow base e size v n xs :=
  h.kept hg (.inr (by rw [hr]; exact own_ne h hb hne))
set_option maxHeartbeats 4000000 in
set_option maxRecDepth 100000 in
theorem twin_calls (a : Option Addr) (cap : Nat) (l : List Slt) (a' : Option Addr) (cap' : Nat) (rs : List Rul) (w : World) (hn : l.length ≤ cap) (hcap : cap ≤ 9223372036854775807) (hs : SlotsIn w a l)
    (hn' : rs.length ≤ cap') (hcap' : cap' ≤ 9223372036854775807) (hr : RulesIn w a' rs) (h30 : l.length ≤ 30) (h30' : rs.length ≤ 30) :
    Calls Try.prog 21 #[Pv a l.length cap a' rs.length cap'] w (PlanPost w l rs) := by
  obtain ⟨i0, hi, hz0, hz1, hz2⟩ := info_parts infoSl
  have HI := Lib.hid (And.intro hi (And.intro hz0 (And.intro hz1 hz2)))
  clear hi hz0 hz1 hz2
  obtain ⟨j0, hi, hz0, hz1, hz2⟩ := info_parts infoRu
  have HJ := Lib.hid (And.intro hi (And.intro hz0 (And.intro hz1 hz2)))
  clear hi hz0 hz1 hz2
  have RS : Hid (∀ W : World, Below w.heap.size w W → Rd W 4 a l.length (slc l)) := Lib.hid (fun W hW => hs.rd.next hW)
  have RR : Hid (∀ W : World, Below w.heap.size w W → Rd W 6 a' rs.length (rlc rs)) := Lib.hid (fun W hW => hr.rd.next hW)
  have G1 : Hid (0 + l.length ≤ maxLen) := Lib.hid (by unfold maxLen; omega)
  have G2 : Hid ((0 + l.length) * 40 ≤ 140737488355328) := Lib.hid (by omega)
  have G3 : Hid (0 + rs.length ≤ maxLen) := Lib.hid (by unfold maxLen; omega)
  have G4 : Hid ((0 + rs.length) * 72 ≤ 140737488355328) := Lib.hid (by omega)
  clear hs hr
  go_enter Try.func21, Try.ntmps21
  go_wp2_with fail
  have z0 : ((w.alloc (.cells #[.slice a l.length cap, .slice a' rs.length cap'] 25)).alloc (.cells #[.slice none 0 0, .slice none 0 0] 25)).heap[w.heap.size]? = some (.cells #[.slice a l.length cap, .slice a' rs.length cap'] 25) := blk_alloc (blk_new w _) _
  have z1 : ((w.alloc (.cells #[.slice a l.length cap, .slice a' rs.length cap'] 25)).alloc (.cells #[.slice none 0 0, .slice none 0 0] 25)).heap[w.heap.size + 1]? = some (.cells #[.slice none 0 0, .slice none 0 0] 25) := blk_at _ (by simp)
  have b0 : Below w.heap.size w ((w.alloc (.cells #[.slice a l.length cap, .slice a' rs.length cap'] 25)).alloc (.cells #[.slice none 0 0, .slice none 0 0] 25)) := Bal (Bal (Below.refl _ _) _) _
  generalize (w.alloc (.cells #[.slice a l.length cap, .slice a' rs.length cap'] 25)).alloc (.cells #[.slice none 0 0, .slice none 0 0] 25) = W0 at *
  have B0 := Lib.hid b0
  have Z0 := Lib.hid z0
  have Z1 := Lib.hid z1
  have sz : w.heap.size + 2 ≤ W0.heap.size := blk_lt z1
  clear z0 z1 b0
  go_region_held3 (fun W => W.cell? ⟨w.heap.size, 0, none⟩ = some (.slice a l.length cap) ∧ W.cell? ⟨w.heap.size, 1, none⟩ = some (.slice a' rs.length cap')) (first | (exact ⟨blk_cell (blk_set_other (blk_set_other X0.out (by omega) 0 _) (by omega) 1 _) 0 _ rfl, blk_cell (blk_set_other (blk_set_other X0.out (by omega) 0 _) (by omega) 1 _) 1 _ rfl⟩) | (exact ⟨blk_cell X0.out 0 _ rfl, blk_cell X0.out 1 _ rfl⟩) | (exact ⟨blk_cell (blk_alloc Y0.out _) 0 _ rfl, blk_cell (blk_alloc Y0.out _) 1 _ rfl⟩) | (exact ⟨blk_cell Y0.out 0 _ rfl, blk_cell Y0.out 1 _ rfl⟩) | (exact ⟨blk_cell (blk_alloc (blk_alloc Z0.out _) _) 0 _ rfl, blk_cell (blk_alloc (blk_alloc Z0.out _) _) 1 _ rfl⟩) | (exact ⟨blk_cell (blk_alloc Z0.out _) 0 _ rfl, blk_cell (blk_alloc Z0.out _) 1 _ rfl⟩) | (exact ⟨blk_cell Z0.out 0 _ rfl, blk_cell Z0.out 1 _ rfl⟩) | go_keep) (first | (refine step_append_rd _ (by rfl) _ _ 22 (by rfl) (w.heap.size + 2) 47 i0 zS 4 40 Try.underlying22 HI.out.1 HI.out.2.1 HI.out.2.2.1 HI.out.2.2.2 rfl (by decide) _ 0 [] (by rfl) (own0 ?_ ?_) a l.length cap (slc l) (by rfl) (RS.out _ ?_) (slc_one l) G1.out G2.out ?_ ?_; (first | exact blk_new _ _ | exact blk_alloc (blk_new _ _) _ | exact blk_at _ (by simp)); (first | omega | (simp; done) | (simp; omega)); (repeat (first | exact B1.out | exact B0.out | refine Below.drew ?_ | refine Bal ?_ _)); (first | omega | (simp; done) | (simp; omega)); intro v1 w1 hown1 hgrow1 hat1; simp only [Nat.zero_add, List.nil_append] at hown1; obtain ⟨A1, cp1, rfl, g1, f1, rd1⟩ := Rd.of_own hown1; have O1 := Lib.hid hown1; have Y0 : Hid (w1.heap[w.heap.size]? = some (.cells #[.slice a l.length cap, .slice a' rs.length cap'] 25)) := Lib.hid (gblk hgrow1 (by first | exact blk_alloc Z0.out _ | exact blk_alloc (blk_alloc Z0.out _) _) (by simp [Value.ownBlock]; omega)); have Y1 : Hid (w1.heap[w.heap.size + 1]? = some (.cells #[.slice none 0 0, .slice none 0 0] 25)) := Lib.hid (gblk hgrow1 (by first | exact blk_alloc Z1.out _ | exact blk_alloc (blk_alloc Z1.out _) _) (by simp [Value.ownBlock]; omega)); have B1 : Hid (Below w.heap.size w w1) := Lib.hid (gbel hgrow1 (by repeat (first | exact B0.out | refine Below.drew ?_ | refine Bal ?_ _)) (by simp [Value.ownBlock]; omega)); (first | (have GE : Hid (w1.heap[W0.heap.size + 1]? = some (.cells #[] 61)) := Lib.hid (gblk hgrow1 (by exact blk_at _ (by simp)) (by simp [Value.ownBlock]))) | (have GE : Hid (w1.heap[W0.heap.size]? = some (.cells #[] 61)) := Lib.hid (gblk hgrow1 (by exact blk_alloc (blk_new _ _) _) (by simp [Value.ownBlock]))) | skip); clear hown1 hgrow1 hat1 rd1) | (refine step_append_rd _ (by rfl) _ _ 23 (by rfl) (w.heap.size + 2) 61 j0 zR 6 72 Try.underlying23 HJ.out.1 HJ.out.2.1 HJ.out.2.2.1 HJ.out.2.2.2 rfl (by decide) _ 0 [] (by rfl) (own0 ?_ ?_) a' rs.length cap' (rlc rs) (by rfl) (RR.out _ ?_) (rlc_one rs) G3.out G4.out ?_ ?_; (first | exact GE.out | exact blk_new _ _); (have h7 := blk_lt Y1.out; have h8 := sz; first | omega | (simp; done) | (simp; omega)); (repeat (first | exact B1.out | exact B0.out | refine Below.drew ?_ | refine Bal ?_ _)); (have h7 := blk_lt Y1.out; first | omega | (simp; done) | (simp; omega)); intro v2 w2 hown2 hgrow2 hat2; simp only [Nat.zero_add, List.nil_append] at hown2; obtain ⟨A2, cp2, rfl, g2, f2, rd2⟩ := Rd.of_own hown2; have O2 := Lib.hid hown2; have hv1 := blk_lt Y1.out; have X0 : Hid (w2.heap[w.heap.size]? = some (.cells #[.slice a l.length cap, .slice a' rs.length cap'] 25)) := Lib.hid (gblk hgrow2 (by first | exact Y0.out | exact blk_alloc Y0.out _) (by simp [Value.ownBlock]; omega)); have X1 : Hid (w2.heap[w.heap.size + 1]? = some (.cells #[.slice none 0 0, .slice none 0 0] 25)) := Lib.hid (gblk hgrow2 (by first | exact Y1.out | exact blk_alloc Y1.out _) (by simp [Value.ownBlock]; omega)); have B2 : Hid (Below w.heap.size w w2) := Lib.hid (gbel hgrow2 (by repeat (first | exact B1.out | exact B0.out | refine Below.drew ?_ | refine Bal ?_ _)) (by simp [Value.ownBlock]; omega)); have P1 : Hid (w2.ownsRow (w.heap.size + 2) 47 4 (.slice A1 l.length cp1) l.length (slc l)) := Lib.hid (kept_ne hgrow2 (by first | exact O1.out | exact O1.out.alloc _) rfl (by first | exact GE.out | exact blk_new _ _) (by decide)); have s0 : w2.cell? ⟨w.heap.size + 1, 0, none⟩ = some (.slice none 0 0) := blk_cell X1.out 0 _ rfl; have s1 : w2.cell? ⟨w.heap.size + 1, 1, none⟩ = some (.slice none 0 0) := blk_cell X1.out 1 _ rfl; have q0 : w2.frozen? ⟨w.heap.size + 1, 0, none⟩ = false := blk_frozen X1.out 0; have q1 : w2.frozen? ⟨w.heap.size + 1, 1, none⟩ = false := blk_frozen X1.out 1; clear hown2 hgrow2 hat2 rd2 hv1))
  all_goals
    go_wp2_with fail
    have e1 : ((w2.setCell ⟨w.heap.size + 1, 0, none⟩ (.slice A1 l.length cp1)).setCell ⟨w.heap.size + 1, 1, none⟩ (.slice A2 rs.length cp2)).cell? ⟨w.heap.size + 1, 0, none⟩ = some (.slice A1 l.length cp1) := blk_cell (blk_set (blk_set X1.out 0 _) 1 _) 0 _ rfl
    have e2 : ((w2.setCell ⟨w.heap.size + 1, 0, none⟩ (.slice A1 l.length cp1)).setCell ⟨w.heap.size + 1, 1, none⟩ (.slice A2 rs.length cp2)).cell? ⟨w.heap.size + 1, 1, none⟩ = some (.slice A2 rs.length cp2) := blk_cell (blk_set (blk_set X1.out 0 _) 1 _) 1 _ rfl
    refine bodyPost_ret (v := .agg #[.slice A1 l.length cp1, .slice A2 rs.length cp2]) (by simp [results, Try.results21, go_sem, e1, e2]) rfl ⟨_, _, rfl, ?_, ?_, ?_⟩
    · exact (ownsRow_setCell_below (ownsRow_setCell_below P1.out (show w.heap.size + 1 < w.heap.size + 2 by omega) _) (show w.heap.size + 1 < w.heap.size + 2 by omega) _).mono (by omega)
    · exact (ownsRow_setCell_below (ownsRow_setCell_below O2.out (show w.heap.size + 1 < w.heap.size + 2 by omega) _) (show w.heap.size + 1 < w.heap.size + 2 by omega) _).mono (by omega)
    · exact Bset1 (Bset1 B2.out (by omega) _ _) (by omega) _ _
end Go.Proofs.Ythmfjlphmamegaa
