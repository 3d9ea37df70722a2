/- Contracts of layer 43: copies of a plan. -/
import Derived.Test.YthmfjlphmamegaaPlb
import Derived.Laws.MakeOwn
namespace Go.Proofs.Ythmfjlphmamegaa
open Go.ChangeShapes Go.WideShapes Go.ChangeAt Go.RowKit
set_option linter.unusedVariables false
attribute [local go_sem ↓] Go.wp_at_zero Go.wp_at_succ

abbrev zS : Value := .agg #[.string ⟨#[]⟩, .int .i64 0, .int .i64 0, .int .i64 0]
abbrev zR : Value := .agg #[.int .u8 0, .string ⟨#[]⟩, .string ⟨#[]⟩, .int .i64 0, .int .i64 0, .string ⟨#[]⟩]
theorem infoSl : (Try.prog.info? 47).map (fun i => (i.zero, i.size, i.bytes)) = some (some zS, 4, 40) := by kernel_rfl
theorem infoRu : (Try.prog.info? 61).map (fun i => (i.zero, i.size, i.bytes)) = some (some zR, 6, 72) := by kernel_rfl
def PlanPost (w : World) (l : List Slt) (rs : List Rul) (e : Ending) (w' : World) : Prop := ∃ v1 v2, e = .returned (.agg #[v1, v2]) ∧ w'.ownsRow w.heap.size 47 4 v1 l.length (slc l) ∧ w'.ownsRow w.heap.size 61 6 v2 rs.length (rlc rs) ∧ Below w.heap.size w w'
theorem gblk {W w1 : World} {row : Option Nat} (hg : W.grownBy w1 row) {b : Nat} {o : Obj} (hb : W.heap[b]? = some o) (hne : some b ≠ row) : w1.heap[b]? = some o := (hg.block b (blk_lt hb) hne).trans hb
theorem gbel {w W w1 : World} {row : Option Nat} (hg : W.grownBy w1 row) (hb : Below w.heap.size w W) (hr : ∀ k, row = some k → w.heap.size ≤ k) : Below w.heap.size w w1 := hb.grown hg hb.size hr
theorem own_apart {v : Value} {g n c : Nat} (h : ∀ k, v.ownBlock = some k → k < g) : v.ownBlock = none ∨ v.ownBlock ≠ (Value.slice (some ⟨g, 0, none⟩) n c).ownBlock := by
  cases hv : v.ownBlock with
  | none => exact .inl rfl
  | some k =>
    have := h k hv
    refine .inr ?_
    simp [Value.ownBlock]; omega
theorem make_slots (n : Nat) (h : n ≤ 100) : ∃ M : Array Value, M.size = n * 4 ∧ ∀ (W : World) (k : Int), k = (n : Int) → (Instr.makeSlice 22 (.int .i64 0) (.int .i64 k)).run Try.prog W = .ok (.slice (some ⟨W.heap.size, 0, none⟩) 0 n) (W.alloc (.cells M 47)) := by
  obtain ⟨i0, hi, hz0, hz1, hz2⟩ := info_parts infoSl
  refine ⟨madeCells zS.cells (n * 4), size_madeCells _ _, fun W k hk => ?_⟩
  subst hk
  have := run_make (P := Try.prog) W 22 47 i0 zS Try.underlying22 hi hz0 .i64 .i64 0 (n : Int) (by omega) (by omega) (by rw [hz2]; omega) (by omega)
  rw [hz1] at this
  simpa using this
theorem make_rules (n : Nat) (h : n ≤ 100) : ∃ M : Array Value, M.size = n * 6 ∧ ∀ (W : World) (k : Int), k = (n : Int) → (Instr.makeSlice 23 (.int .i64 0) (.int .i64 k)).run Try.prog W = .ok (.slice (some ⟨W.heap.size, 0, none⟩) 0 n) (W.alloc (.cells M 61)) := by
  obtain ⟨i0, hi, hz0, hz1, hz2⟩ := info_parts infoRu
  refine ⟨madeCells zR.cells (n * 6), size_madeCells _ _, fun W k hk => ?_⟩
  subst hk
  have := run_make (P := Try.prog) W 23 61 i0 zR Try.underlying23 hi hz0 .i64 .i64 0 (n : Int) (by omega) (by omega) (by rw [hz2]; omega) (by omega)
  rw [hz1] at this
  simpa using this

set_option maxHeartbeats 4000000 in
set_option maxRecDepth 100000 in
theorem copied_calls (a : Option Addr) (cap : Nat) (l : List Slt) (a' : Option Addr) (cap' : Nat) (rs : List Rul) (w : World) (hn : l.length ≤ cap) (hcap : cap ≤ 9223372036854775807) (hs : SlotsIn w a l)
    (hn' : rs.length ≤ cap') (hcap' : cap' ≤ 9223372036854775807) (hr : RulesIn w a' rs) (h30 : l.length ≤ 30) (h30' : rs.length ≤ 30) :
    Calls Try.prog 45 #[Pv a l.length cap a' rs.length cap'] w (PlanPost w l rs) := by
  obtain ⟨i0, hi, hz0, hz1, hz2⟩ := info_parts infoSl
  have HI := Lib.hid (And.intro hi (And.intro hz0 (And.intro hz1 hz2)))
  clear hi hz0 hz1 hz2
  obtain ⟨j0, hi, hz0, hz1, hz2⟩ := info_parts infoRu
  have HJ := Lib.hid (And.intro hi (And.intro hz0 (And.intro hz1 hz2)))
  clear hi hz0 hz1 hz2
  obtain ⟨M1, m1, k1⟩ := make_slots (l.length + 1) (by omega)
  obtain ⟨M2, m2, k2⟩ := make_rules rs.length (by omega)
  have hmk1 := fun W : World => k1 W ((l.length : Int) + 1) (by omega)
  have hmk2 := fun W : World => k2 W (rs.length : Int) rfl
  have MO1 : Hid (∀ W : World, w.heap.size + 3 ≤ W.heap.size → (W.alloc (.cells M1 47)).ownsRow (w.heap.size + 3) 47 4 (.slice (some ⟨W.heap.size, 0, none⟩) 0 (l.length + 1)) 0 []) := Lib.hid (fun W hW => World.ownsRow_made W M1 (l.length + 1) hW (by unfold maxLen; omega) m1)
  have MO2 : Hid (∀ W : World, w.heap.size + 3 ≤ W.heap.size → (W.alloc (.cells M2 61)).ownsRow (w.heap.size + 3) 61 6 (.slice (some ⟨W.heap.size, 0, none⟩) 0 rs.length) 0 []) := Lib.hid (fun W hW => World.ownsRow_made W M2 rs.length hW (by unfold maxLen; omega) m2)
  have HS := Lib.hid hs.rd
  have HR := Lib.hid hr.rd
  clear hs hr k1 k2 m1 m2
  have hw1 : IntKind.i64.wrap ((l.length : Int) + 1) = (l.length : Int) + 1 := IntWalk.i64_in _ (by omega)
  go_enter Try.func45, Try.ntmps45
  go_wp2_with fail
  have z0 : (((w.alloc (.cells #[.slice a l.length cap, .slice a' rs.length cap'] 25)).alloc (.cells #[.slice none 0 0, .slice none 0 0] 25)).alloc (.cells #[.slice none 0 0, .slice none 0 0] 25)).heap[w.heap.size]? = some (.cells #[.slice a l.length cap, .slice a' rs.length cap'] 25) := blk_alloc (blk_alloc (blk_new w _) _) _
  have z1 : (((w.alloc (.cells #[.slice a l.length cap, .slice a' rs.length cap'] 25)).alloc (.cells #[.slice none 0 0, .slice none 0 0] 25)).alloc (.cells #[.slice none 0 0, .slice none 0 0] 25)).heap[w.heap.size + 1]? = some (.cells #[.slice none 0 0, .slice none 0 0] 25) := blk_alloc (blk_at _ (by simp)) _
  have z2 : (((w.alloc (.cells #[.slice a l.length cap, .slice a' rs.length cap'] 25)).alloc (.cells #[.slice none 0 0, .slice none 0 0] 25)).alloc (.cells #[.slice none 0 0, .slice none 0 0] 25)).heap[w.heap.size + 1 + 1]? = some (.cells #[.slice none 0 0, .slice none 0 0] 25) := blk_at _ (by simp)
  have b0 : Below w.heap.size w (((w.alloc (.cells #[.slice a l.length cap, .slice a' rs.length cap'] 25)).alloc (.cells #[.slice none 0 0, .slice none 0 0] 25)).alloc (.cells #[.slice none 0 0, .slice none 0 0] 25)) := Bal (Bal (Bal (Below.refl _ _) _) _) _
  have sz : w.heap.size + 3 ≤ (((w.alloc (.cells #[.slice a l.length cap, .slice a' rs.length cap'] 25)).alloc (.cells #[.slice none 0 0, .slice none 0 0] 25)).alloc (.cells #[.slice none 0 0, .slice none 0 0] 25)).heap.size := by simp
  generalize ((w.alloc (.cells #[.slice a l.length cap, .slice a' rs.length cap'] 25)).alloc (.cells #[.slice none 0 0, .slice none 0 0] 25)).alloc (.cells #[.slice none 0 0, .slice none 0 0] 25) = W0 at *
  have B0 := Lib.hid b0
  have R1 : Hid (∀ X, Rd (W0.alloc X) 4 a l.length (slc l)) := Lib.hid (fun X => (HS.out.next b0).next (Bal (Below.refl _ _) X))
  have SZ := Lib.hid sz
  have Z0 := Lib.hid z0
  have Z1 := Lib.hid z1
  have Z2 := Lib.hid z2
  have G1 : Hid (0 + l.length ≤ maxLen) := Lib.hid (by unfold maxLen; omega)
  have G2 : Hid ((0 + l.length) * 40 ≤ 140737488355328) := Lib.hid (by omega)
  have G3 : Hid (∀ X, w.heap.size + 3 ≤ (W0.alloc X).heap.size) := Lib.hid (fun X => by simp; omega)
  clear z0 z1 z2 b0
  go_region_held3 (fun W => W.cell? ⟨w.heap.size, 0, none⟩ = some (.slice a l.length cap)) (first | (exact blk_cell (blk_set_other Y0.out (by omega) 0 _) 0 _ rfl) | (exact blk_cell Y0.out 0 _ rfl) | (exact blk_cell Z0.out 0 _ rfl) | (exact blk_cell (blk_alloc Z0.out _) 0 _ rfl) | go_keep) ((refine step_append_rd _ (by rfl) _ _ 22 (by rfl) (w.heap.size + 3) 47 i0 zS 4 40 Try.underlying22 HI.out.1 HI.out.2.1 HI.out.2.2.1 HI.out.2.2.2 rfl (by decide) _ 0 [] (by rfl) (MO1.out W0 SZ.out) a l.length cap (slc l) (by rfl) (R1.out _) (slc_one l) G1.out G2.out (G3.out _) ?_; intro v1 w1 hown1 hgrow1 hat1; simp only [Nat.zero_add, List.nil_append] at hown1; obtain ⟨A1, cp1, rfl, g1, f1, rd1⟩ := Rd.of_own hown1; have O1 := Lib.hid hown1; have Y0 : Hid (w1.heap[w.heap.size]? = some (.cells #[.slice a l.length cap, .slice a' rs.length cap'] 25)) := Lib.hid (gblk hgrow1 (by exact blk_alloc Z0.out _) (by simp [Value.ownBlock]; omega)); have Y1 : Hid (w1.heap[w.heap.size + 1]? = some (.cells #[.slice none 0 0, .slice none 0 0] 25)) := Lib.hid (gblk hgrow1 (by exact blk_alloc Z1.out _) (by simp [Value.ownBlock]; omega)); have Y2 : Hid (w1.heap[w.heap.size + 1 + 1]? = some (.cells #[.slice none 0 0, .slice none 0 0] 25)) := Lib.hid (gblk hgrow1 (by exact blk_alloc Z2.out _) (by simp [Value.ownBlock]; omega)); have B1 : Hid (Below w.heap.size w w1) := Lib.hid (gbel hgrow1 (by first | exact Bal B0.out _ | exact (Bal B0.out _).drew) (by simp [Value.ownBlock]; omega)); have s1 : w1.cell? ⟨w.heap.size + 1 + 1, 0, none⟩ = some (.slice none 0 0) := blk_cell Y2.out 0 _ rfl; have s2 : w1.frozen? ⟨w.heap.size + 1 + 1, 0, none⟩ = false := blk_frozen Y2.out 0; clear hown1 hgrow1 hat1 rd1))
  go_wp2_with fail
  have z0 : (w1.setCell ⟨w.heap.size + 1 + 1, 0, none⟩ (.slice A1 l.length cp1)).heap[w.heap.size]? = some (.cells #[.slice a l.length cap, .slice a' rs.length cap'] 25) := blk_set_other Y0.out (by omega) 0 _
  have z1 : (w1.setCell ⟨w.heap.size + 1 + 1, 0, none⟩ (.slice A1 l.length cp1)).heap[w.heap.size + 1]? = some (.cells #[.slice none 0 0, .slice none 0 0] 25) := blk_set_other Y1.out (by omega) 0 _
  have z2 : (w1.setCell ⟨w.heap.size + 1 + 1, 0, none⟩ (.slice A1 l.length cp1)).heap[w.heap.size + 1 + 1]? = some (.cells #[.slice A1 l.length cp1, .slice none 0 0] 25) := blk_set Y2.out 0 _
  have b1 : Below w.heap.size w (w1.setCell ⟨w.heap.size + 1 + 1, 0, none⟩ (.slice A1 l.length cp1)) := Bset1 B1.out (by omega) _ _
  have o1 : (w1.setCell ⟨w.heap.size + 1 + 1, 0, none⟩ (.slice A1 l.length cp1)).ownsRow (w.heap.size + 3) 47 4 (.slice A1 l.length cp1) l.length (slc l) := ownsRow_setCell_below O1.out (show w.heap.size + 1 + 1 < w.heap.size + 3 by omega) _
  clear Z0 Z1 Z2 Y0 Y1 Y2 O1 B1 s1 s2 R1 G1 G2 G3 SZ sz
  generalize w1.setCell ⟨w.heap.size + 1 + 1, 0, none⟩ (.slice A1 l.length cp1) = W1 at *
  have B1 := Lib.hid b1
  have sz : w.heap.size + 3 ≤ W1.heap.size := blk_lt z2
  have R1 : Hid (∀ X, Rd (W1.alloc X) 6 a' rs.length (rlc rs)) := Lib.hid (fun X => (HR.out.next b1).next (Bal (Below.refl _ _) X))
  have SZ := Lib.hid sz
  have Z0 := Lib.hid z0
  have Z1 := Lib.hid z1
  have Z2 := Lib.hid z2
  have O1 : Hid (∀ X, (W1.alloc X).ownsRow (w.heap.size + 3) 47 4 (.slice A1 l.length cp1) l.length (slc l)) := Lib.hid (fun X => o1.alloc X)
  have G1 : Hid (0 + rs.length ≤ maxLen) := Lib.hid (by unfold maxLen; omega)
  have G2 : Hid ((0 + rs.length) * 72 ≤ 140737488355328) := Lib.hid (by omega)
  have G3 : Hid (∀ X, w.heap.size + 3 ≤ (W1.alloc X).heap.size) := Lib.hid (fun X => by simp; omega)
  have V1 : Hid (∀ k, (Value.slice A1 l.length cp1).ownBlock = some k → k < W1.heap.size) := Lib.hid (fun k hk => (o1.lt k hk).2)
  clear z0 z1 z2 b1 o1
  go_region_held3 (fun W => W.cell? ⟨w.heap.size, 1, none⟩ = some (.slice a' rs.length cap')) (first | (exact blk_cell (blk_set_other Y0.out (by omega) 1 _) 1 _ rfl) | (exact blk_cell Y0.out 1 _ rfl) | (exact blk_cell Z0.out 1 _ rfl) | (exact blk_cell (blk_alloc Z0.out _) 1 _ rfl) | go_keep) ((refine step_append_rd _ (by rfl) _ _ 23 (by rfl) (w.heap.size + 3) 61 j0 zR 6 72 Try.underlying23 HJ.out.1 HJ.out.2.1 HJ.out.2.2.1 HJ.out.2.2.2 rfl (by decide) _ 0 [] (by rfl) (MO2.out W1 SZ.out) a' rs.length cap' (rlc rs) (by rfl) (R1.out _) (rlc_one rs) G1.out G2.out (G3.out _) ?_; intro v2 w2 hown2 hgrow2 hat2; simp only [Nat.zero_add, List.nil_append] at hown2; obtain ⟨A2, cp2, rfl, g2, f2, rd2⟩ := Rd.of_own hown2; have O2 := Lib.hid hown2; have Y0 : Hid (w2.heap[w.heap.size]? = some (.cells #[.slice a l.length cap, .slice a' rs.length cap'] 25)) := Lib.hid (gblk hgrow2 (by exact blk_alloc Z0.out _) (by simp [Value.ownBlock]; omega)); have Y1 : Hid (w2.heap[w.heap.size + 1]? = some (.cells #[.slice none 0 0, .slice none 0 0] 25)) := Lib.hid (gblk hgrow2 (by exact blk_alloc Z1.out _) (by simp [Value.ownBlock]; omega)); have Y2 : Hid (w2.heap[w.heap.size + 1 + 1]? = some (.cells #[.slice A1 l.length cp1, .slice none 0 0] 25)) := Lib.hid (gblk hgrow2 (by exact blk_alloc Z2.out _) (by simp [Value.ownBlock]; omega)); have B2 : Hid (Below w.heap.size w w2) := Lib.hid (gbel hgrow2 (by first | exact Bal B1.out _ | exact (Bal B1.out _).drew) (by simp [Value.ownBlock]; omega)); have P1 : Hid (w2.ownsRow (w.heap.size + 3) 47 4 (.slice A1 l.length cp1) l.length (slc l)) := Lib.hid (World.ownsRow.kept (by exact O1.out _) hgrow2 (own_apart V1.out)); have s1 : w2.cell? ⟨w.heap.size + 1 + 1, 1, none⟩ = some (.slice none 0 0) := blk_cell Y2.out 1 _ rfl; have s2 : w2.frozen? ⟨w.heap.size + 1 + 1, 1, none⟩ = false := blk_frozen Y2.out 1; clear hown2 hgrow2 hat2 rd2))
  have z1 : (w2.setCell ⟨w.heap.size + 1 + 1, 1, none⟩ (.slice A2 rs.length cp2)).heap[w.heap.size + 1]? = some (.cells #[.slice none 0 0, .slice none 0 0] 25) := blk_set_other Y1.out (by omega) 1 _
  have z2 : (w2.setCell ⟨w.heap.size + 1 + 1, 1, none⟩ (.slice A2 rs.length cp2)).heap[w.heap.size + 1 + 1]? = some (.cells #[.slice A1 l.length cp1, .slice A2 rs.length cp2] 25) := blk_set Y2.out 1 _
  have b2 : Below w.heap.size w (w2.setCell ⟨w.heap.size + 1 + 1, 1, none⟩ (.slice A2 rs.length cp2)) := Bset1 B2.out (by omega) _ _
  have o1 : (w2.setCell ⟨w.heap.size + 1 + 1, 1, none⟩ (.slice A2 rs.length cp2)).ownsRow (w.heap.size + 3) 47 4 (.slice A1 l.length cp1) l.length (slc l) := ownsRow_setCell_below P1.out (show w.heap.size + 1 + 1 < w.heap.size + 3 by omega) _
  have o2 : (w2.setCell ⟨w.heap.size + 1 + 1, 1, none⟩ (.slice A2 rs.length cp2)).ownsRow (w.heap.size + 3) 61 6 (.slice A2 rs.length cp2) rs.length (rlc rs) := ownsRow_setCell_below O2.out (show w.heap.size + 1 + 1 < w.heap.size + 3 by omega) _
  rename_i hHeld
  clear hHeld
  clear Z0 Z1 Z2 Y0 Y1 Y2 O1 P1 O2 B1 B2 s1 s2 R1 G1 G2 G3 SZ sz
  generalize w2.setCell ⟨w.heap.size + 1 + 1, 1, none⟩ (.slice A2 rs.length cp2) = W2 at *
  have B2 := Lib.hid b2
  have O1 := Lib.hid o1
  have O2 := Lib.hid o2
  have c0 : W2.cell? ⟨w.heap.size + 1 + 1, 0, none⟩ = some (.slice A1 l.length cp1) := blk_cell z2 0 _ rfl
  have c1 : W2.cell? ⟨w.heap.size + 1 + 1, 1, none⟩ = some (.slice A2 rs.length cp2) := blk_cell z2 1 _ rfl
  have r0 : W2.cell? ⟨w.heap.size + 1, 0, none⟩ = some (.slice none 0 0) := blk_cell z1 0 _ rfl
  have r1 : W2.cell? ⟨w.heap.size + 1, 1, none⟩ = some (.slice none 0 0) := blk_cell z1 1 _ rfl
  have q0 : W2.frozen? ⟨w.heap.size + 1, 0, none⟩ = false := blk_frozen z1 0
  have q1 : W2.frozen? ⟨w.heap.size + 1, 1, none⟩ = false := blk_frozen z1 1
  have Z1 := Lib.hid z1
  clear z1 z2 b2 o1 o2
  go_wp2_with fail
  have e1 : ((W2.setCell ⟨w.heap.size + 1, 0, none⟩ (.slice A1 l.length cp1)).setCell ⟨w.heap.size + 1, 1, none⟩ (.slice A2 rs.length cp2)).cell? ⟨w.heap.size + 1, 0, none⟩ = some (.slice A1 l.length cp1) := blk_cell (blk_set (blk_set Z1.out 0 _) 1 _) 0 _ rfl
  have e2 : ((W2.setCell ⟨w.heap.size + 1, 0, none⟩ (.slice A1 l.length cp1)).setCell ⟨w.heap.size + 1, 1, none⟩ (.slice A2 rs.length cp2)).cell? ⟨w.heap.size + 1, 1, none⟩ = some (.slice A2 rs.length cp2) := blk_cell (blk_set (blk_set Z1.out 0 _) 1 _) 1 _ rfl
  refine bodyPost_ret (v := .agg #[.slice A1 l.length cp1, .slice A2 rs.length cp2]) (by simp [results, Try.results45, go_sem, e1, e2]) rfl ⟨_, _, rfl, ?_, ?_, ?_⟩
  · exact (ownsRow_setCell_below (ownsRow_setCell_below O1.out (show w.heap.size + 1 < w.heap.size + 3 by omega) _) (show w.heap.size + 1 < w.heap.size + 3 by omega) _).mono (by omega)
  · exact (ownsRow_setCell_below (ownsRow_setCell_below O2.out (show w.heap.size + 1 < w.heap.size + 3 by omega) _) (show w.heap.size + 1 < w.heap.size + 3 by omega) _).mono (by omega)
  · exact Bset1 (Bset1 B2.out (by omega) _ _) (by omega) _ _
end Go.Proofs.Ythmfjlphmamegaa
