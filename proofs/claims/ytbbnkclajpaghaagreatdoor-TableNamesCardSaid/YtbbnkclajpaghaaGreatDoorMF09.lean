/- Several texts in one. -/
import Derived.Test.YtbbnkclajpaghaaGreatDoorMF08
set_option maxHeartbeats 8000000
set_option maxRecDepth 100000
set_option linter.unusedVariables false
set_option linter.unusedSimpArgs false
namespace Go.Proofs.YtbbnkclajpaghaaGreatDoor
open Go.ChangeShapes Go.WideShapes Go.ChangeAt Go.RowKit
attribute [local go_sem ↓] Go.wp_at_zero Go.wp_at_succ
def AP (l : List UInt8) (w : World) (e : Ending) (w' : World) : Prop :=
 (∃ v, Lib.atoiAll l = .ok v ∧ -9223372036854775808 ≤ v ∧ v ≤ 9223372036854775807 ∧ e = .returned (.tuple #[.int .i64 v, .nilIface]) ∧ Below w.heap.size w w') ∨ ((∀ v, Lib.atoiAll l ≠ .ok v) ∧ ∃ v t p, e = .returned (.tuple #[.int .i64 v, .iface t p]) ∧ Below w.heap.size w w')
theorem atoi_calls (l : List UInt8) (w : World) (hs : l.length ≤ 100000) (g : GL w) : Calls Tryz.prog 63 #[Str l] w (AP l w) := by
 have hz : (⟨l.toArray⟩ : ByteArray).size = l.length := by show l.toArray.size = _; simp
 cases h : Lib.atoiAll l with
 | ok v =>
  refine (Tryz.strconv_Atoi_ok ⟨l.toArray⟩ (by rw [hz]; omega) v (by simpa using h) w).mono fun e w' ⟨h1, h2⟩ => .inl ⟨v, h, ?_, ?_, h1, ?_⟩
  ·rw [← Lib.parseIntB_64] at h; exact (parse_bounds h).1
  ·rw [← Lib.parseIntB_64] at h; exact (parse_bounds h).2
  ·rcases h2 with rfl | ⟨t, rfl⟩
   ·exact Below.refl _ _
   ·exact Lib.bytesWorld_below _ _ _
 | range =>
  obtain ⟨tp, p, hv⟩ := g.ran
  exact (Tryz.strconv_Atoi_range_var ⟨l.toArray⟩ (by rw [hz]; omega) (by simpa using h) tp p w hv).mono fun e w' ⟨N, h1, h2, h3, h4⟩ => .inr ⟨fun v => (by rw [h]; intro k; cases k), _, _, _, h1, h4⟩
 | _ =>
  obtain ⟨tp, p, hv⟩ := g.syn
  exact (Tryz.strconv_Atoi_syntax_var ⟨l.toArray⟩ (by rw [hz]; omega) (by simp only [List.toList_toArray]; exact ⟨fun v => (by rw [h]; intro k; cases k), by rw [h]; intro k; cases k⟩) tp p w hv).mono fun e w' ⟨N, h1, h2, h3, h4⟩ => .inr ⟨fun v => (by rw [h]; intro k; cases k), _, _, _, h1, h4⟩
theorem split_of (l : List UInt8) (w : World) (hs : l.length ≤ 100000) (g : GL w) : Calls Tryz.prog 62 #[Str l, .string ⟨#[32]⟩] w fun e w' =>
  e = .returned (.slice (some ⟨w.heap.size, 0, none⟩) (wordsL 32 l).length (wordsL 32 l).length) ∧ w' = w.alloc (.cells (strv (wordsL 32 l)).toArray 9) := by
 obtain ⟨m, hm⟩ := g.max
 have h := Tryz.strings_Split ⟨l.toArray⟩ ⟨#[32]⟩ m w (by show l.toArray.size < _; simp; omega) hm (by decide)
 have h1 := split_words ⟨l.toArray⟩ 32
 have h2 := Lib.splitB_all ⟨#[32]⟩ (by decide) 0 (Lib.countB ⟨l.toArray⟩ ⟨#[32]⟩) ⟨l.toArray⟩ rfl
 simp only [List.toList_toArray] at h1
 have h3 : (Lib.splitB ⟨#[32]⟩ 0 (Lib.countB ⟨l.toArray⟩ ⟨#[32]⟩) ⟨l.toArray⟩).map Value.string = strv (wordsL 32 l) := by
  rw [← h1]
  unfold strv
  rw [List.map_map]
  rfl
 rw [h3, ← h2] at h
 rw [← h1, List.length_map, h1]
 exact h
theorem pfrac_of (l : List UInt8) (w : World) (g : GL w) : Calls Tryz.prog 64 #[Str l] w fun e w' => e = .returned (.tuple #[Fv (prC l).1 (prC l).2.1, .int .i64 (prC l).2.2]) ∧ Below w.heap.size w w' := by
 refine (parseP_calls ⟨l.toArray⟩ w g).mono ?_
 rintro e w' ⟨r, rfl, hp, hb⟩
 have e := hp.eq
 simp only [List.toList_toArray] at e
 rw [e]
 exact ⟨rfl, hb⟩
theorem seven9 {α : Type} {l : List α} (h : l.length = 7) : ∃ a b c d e f g, l = [a, b, c, d, e, f, g] := by
 match l, h with
 | [a, b, c, d, e, f, g], _ => exact ⟨a, b, c, d, e, f, g, rfl⟩
theorem prC_vf9 {l : List UInt8} {n d : Int} (h : prC l = (n, d, 0)) : VF n d := by
 rcases prC_form l with ⟨n', d', v, -, e⟩ | e
 ·rw [h] at e
  injection e with a b
  injection b with b c
  subst a b
  exact v
 ·rw [h] at e
  injection e with _ b
  injection b with _ c
  cases c
theorem prP_count {l : List UInt8} (h : (wordsL 32 l).length ≠ 7) : prP l = none := by
 unfold prP
 split
 ·rename_i e; rw [e] at h; exact absurd rfl h
 ·rfl
theorem prP_atoi {l a b c d e f g x : List UInt8} (h : wordsL 32 l = [a, b, c, d, e, f, g]) (hx : x ∈ [a, b, c, d, g]) (hn : ∀ v, Lib.atoiAll x ≠ .ok v) : prP l = none := by
 unfold prP
 rw [h]
 simp only
 split
 ·rename_i h1 h2 h3 h4 h5
  simp only [List.mem_cons, List.not_mem_nil, or_false] at hx
  rcases hx with rfl | rfl | rfl | rfl | rfl
  ·exact absurd h1 (hn _)
  ·exact absurd h2 (hn _)
  ·exact absurd h3 (hn _)
  ·exact absurd h4 (hn _)
  ·exact absurd h5 (hn _)
 ·rfl
theorem prP_seven {l a b c d e f g : List UInt8} {t ch i j n : Int} (h : wordsL 32 l = [a, b, c, d, e, f, g]) (h1 : Lib.atoiAll a = .ok t) (h2 : Lib.atoiAll b = .ok ch) (h3 : Lib.atoiAll c = .ok i) (h4 : Lib.atoiAll d = .ok j) (h5 : Lib.atoiAll g = .ok n) :
  prP l = if (prC e).2.2 = 0 ∧ (prC f).2.2 = 0 then mkO t ch i j (prC e).1 (prC e).2.1 (prC f).1 (prC f).2.1 n else none := by
 unfold prP
 rw [h]
 simp only
 rw [h1, h2, h3, h4, h5]
def PLP (l : List UInt8) (e : Ending) : Prop := ∃ (r : Vr) (ok : Bool), e = .returned (.tuple #[Rwv r, .bool ok]) ∧ ((ok = false ∧ prP l = none) ∨ (ok = true ∧ prP l = some r))
theorem PLP.no {l : List UInt8} (h : prP l = none) : PLP l (.returned (.tuple #[.agg #[.int .i64 0, .int .i64 0, .int .i64 0, .int .i64 0, .int .i64 0, .int .i64 0, .int .i64 0, .int .i64 0], .bool false])) := ⟨⟨0, 0, 0, 0, 0, 0, 0, 0⟩, false, rfl, .inl ⟨rfl, h⟩⟩
theorem PLP.yes {l : List UInt8} {x1 x2 x3 x4 x5 x6 x7 x8 : Int} (h : prP l = some ⟨x1, x2, x3, x4, x5, x6, x7, x8⟩) : PLP l (.returned (.tuple #[.agg #[.int .i64 x1, .int .i64 x2, .int .i64 x3, .int .i64 x4, .int .i64 x5, .int .i64 x6, .int .i64 x7, .int .i64 x8], .bool true])) := ⟨⟨x1, x2, x3, x4, x5, x6, x7, x8⟩, true, rfl, .inr ⟨rfl, h⟩⟩
theorem ix5_0 (W : World) : Sem.run Tryz.prog (Instr.index 116 (.agg #[.int .i64 0, .int .i64 1, .int .i64 2, .int .i64 3, .int .i64 6]) (.int .i64 0)) W = .ok (.int .i64 0) W := by kernel_rfl
theorem ix5_1 (W : World) : Sem.run Tryz.prog (Instr.index 116 (.agg #[.int .i64 0, .int .i64 1, .int .i64 2, .int .i64 3, .int .i64 6]) (.int .i64 1)) W = .ok (.int .i64 1) W := by kernel_rfl
theorem ix5_2 (W : World) : Sem.run Tryz.prog (Instr.index 116 (.agg #[.int .i64 0, .int .i64 1, .int .i64 2, .int .i64 3, .int .i64 6]) (.int .i64 2)) W = .ok (.int .i64 2) W := by kernel_rfl
theorem ix5_3 (W : World) : Sem.run Tryz.prog (Instr.index 116 (.agg #[.int .i64 0, .int .i64 1, .int .i64 2, .int .i64 3, .int .i64 6]) (.int .i64 3)) W = .ok (.int .i64 3) W := by kernel_rfl
theorem ix5_4 (W : World) : Sem.run Tryz.prog (Instr.index 116 (.agg #[.int .i64 0, .int .i64 1, .int .i64 2, .int .i64 3, .int .i64 6]) (.int .i64 4)) W = .ok (.int .i64 6) W := by kernel_rfl
attribute [local go_sem ↓] ix5_0 ix5_1 ix5_2 ix5_3 ix5_4
theorem parseLine_calls (l : List UInt8) (hl : l.length ≤ 100000) (w : World) (g : GL w) : Calls Tryz.prog 34 #[Str l] w fun e w' => PLP l e ∧ Below w.heap.size w w' := by
 have NN := zh (Below.refl w.heap.size w)
 have GG := zh (fun W (h : Below w.heap.size w W) => g.next h)
 have SC := zh (fun W (g : GL W) => split_of l W hl g)
 have WP := zh (fun x hx => Nat.le_trans (wordsL_part 32 l x hx) hl)
 have PN := zh (fun h => prP_count (l := l) h)
 clear g hl
 go_enter Tryz.func34, Tryz.ntmps34
 go_wp2_with fail
 have Z : Hid ((w.alloc (.cells #[.int .i64 0, .int .i64 0, .int .i64 0, .int .i64 0, .int .i64 0, .int .i64 0, .int .i64 0, .int .i64 0] 44)).heap[w.heap.size]? = some (.cells #[.int .i64 0, .int .i64 0, .int .i64 0, .int .i64 0, .int .i64 0, .int .i64 0, .int .i64 0, .int .i64 0] 44)) := zh (blk_new w _)
 replace NN : Hid (Below w.heap.size w (w.alloc (.cells #[.int .i64 0, .int .i64 0, .int .i64 0, .int .i64 0, .int .i64 0, .int .i64 0, .int .i64 0, .int .i64 0] 44))) := zh (Bal NN.out _)
 generalize (w.alloc (.cells #[.int .i64 0, .int .i64 0, .int .i64 0, .int .i64 0, .int .i64 0, .int .i64 0, .int .i64 0, .int .i64 0] 44)) = W1 at *
 refine (SC.out _ (GG.out _ NN.out)).mono ?_
 rintro e w2 ⟨rfl, rfl⟩
 have OG7 := zh (blk_new W1 (.cells (strv (wordsL 32 l)).toArray 9))
 have LT_OG7 : Hid (w.heap.size < W1.heap.size ∧ w.heap.size ≤ W1.heap.size) := zh ⟨blk_lt Z.out, NN.out.size⟩
 replace NN := zh (Bal NN.out (.cells (strv (wordsL 32 l)).toArray 9))
 replace Z := zh (blk_alloc Z.out (.cells (strv (wordsL 32 l)).toArray 9))
 clear SC
 generalize W1.alloc (.cells (strv (wordsL 32 l)).toArray 9) = WS at *
 generalize W1.heap.size = g7 at *
 by_cases h7 : (wordsL 32 l).length = 7
 ·rw [h7]
  obtain ⟨f0, f1, f2, f3, f4, f5, f6, e7⟩ := seven9 h7
  rw [e7] at OG7 WP
  replace OG7 : Hid (WS.heap[g7]? = some (.cells #[Str f0, Str f1, Str f2, Str f3, Str f4, Str f5, Str f6] 9)) := OG7
  have B0 : f0.length ≤ 100000 := WP.out f0 (by simp)
  have B1 : f1.length ≤ 100000 := WP.out f1 (by simp)
  have B2 : f2.length ≤ 100000 := WP.out f2 (by simp)
  have B3 : f3.length ≤ 100000 := WP.out f3 (by simp)
  have B4 : f4.length ≤ 100000 := WP.out f4 (by simp)
  have B5 : f5.length ≤ 100000 := WP.out f5 (by simp)
  have B6 : f6.length ≤ 100000 := WP.out f6 (by simp)
  have PA := zh (fun x hx hn => prP_atoi (l := l) (x := x) e7 hx hn)
  have PS := zh (fun t ch i j n h1 h2 h3 h4 h5 => prP_seven (l := l) (t := t) (ch := ch) (i := i) (j := j) (n := n) e7 h1 h2 h3 h4 h5)
  clear PN WP h7 e7
  go_wp2_with fail
  obtain ⟨HB, NB⟩ := zl (w := WS) (.cells #[.int .i64 0, .int .i64 0, .int .i64 0, .int .i64 0, .int .i64 0] 116)
  have LT_NB : Hid (w.heap.size < WS.heap.size ∧ g7 < WS.heap.size ∧ w.heap.size ≤ WS.heap.size) := zh ⟨blk_lt Z.out, blk_lt OG7.out, NN.out.size⟩
  replace NN := zh (Bgo NN.out HB.out)
  replace Z := zn HB Z
  replace OG7 := zn HB OG7
  clear HB
  generalize (WS.alloc (.cells #[.int .i64 0, .int .i64 0, .int .i64 0, .int .i64 0, .int .i64 0] 116)) = W2 at *
  generalize WS.heap.size = gN at *
  go_loopw [21] (fun i wr => ∃ k N0 N1 N2 N3 N4 : Int, 0 ≤ k ∧ k ≤ 5 ∧ i = .int .i64 k ∧ Hid ((0 < k → Lib.atoiAll f0 = .ok N0) ∧ (1 < k → Lib.atoiAll f1 = .ok N1) ∧ (2 < k → Lib.atoiAll f2 = .ok N2) ∧ (3 < k → Lib.atoiAll f3 = .ok N3) ∧ (4 < k → Lib.atoiAll f6 = .ok N4)) ∧ Hid (Below w.heap.size w wr) ∧ Hid (wr.heap[w.heap.size]? = some (.cells #[.int .i64 0, .int .i64 0, .int .i64 0, .int .i64 0, .int .i64 0, .int .i64 0, .int .i64 0, .int .i64 0] 44)) ∧ Hid (wr.heap[g7]? = some (.cells #[Str f0, Str f1, Str f2, Str f3, Str f4, Str f5, Str f6] 9)) ∧ Hid (wr.heap[gN]? = some (.cells #[.int .i64 N0, .int .i64 N1, .int .i64 N2, .int .i64 N3, .int .i64 N4] 116))) (fun i _ => 5 - (intOf i).toNat)
  case atStart => exact ⟨0, 0, 0, 0, 0, 0, by decide, by decide, rfl, zh ⟨by omega, by omega, by omega, by omega, by omega⟩, NN, Z, OG7, NB⟩
  case round =>
   clear NN Z OG7 NB
   obtain ⟨k, N0, N1, N2, N3, N4, hk0, hk5, rfl, HA, NN, Z, OG7, NB⟩ := hrel
   obtain rfl | rfl | rfl | rfl | rfl | rfl : k = 0 ∨ k = 1 ∨ k = 2 ∨ k = 3 ∨ k = 4 ∨ k = 5 := by omega
   ·obtain ⟨c_OG7_0, f_OG7_0, c_OG7_1, f_OG7_1, c_OG7_2, f_OG7_2, c_OG7_3, f_OG7_3, c_OG7_4, f_OG7_4, c_OG7_5, f_OG7_5, c_OG7_6, f_OG7_6, l_OG7⟩ := zfl7 OG7
    go_wp2_with fail
    clear c_OG7_0 f_OG7_0 c_OG7_1 f_OG7_1 c_OG7_2 f_OG7_2 c_OG7_3 f_OG7_3 c_OG7_4 f_OG7_4 c_OG7_5 f_OG7_5 c_OG7_6 f_OG7_6 l_OG7
    refine (atoi_calls f0 _ B0 (GG.out _ NN.out)).mono ?_
    rintro e w9 (⟨v, hv, -, -, rfl, hb⟩ | ⟨hv, v, tt, pp, rfl, hb⟩)
    ·replace NN := zh (Bgo NN.out hb)
     replace Z := zn hb Z
     replace OG7 := zn hb OG7
     replace NB := zn hb NB
     clear hb
     obtain ⟨c_NB_0, f_NB_0, c_NB_1, f_NB_1, c_NB_2, f_NB_2, c_NB_3, f_NB_3, c_NB_4, f_NB_4, l_NB⟩ := zfl5 NB
     go_wp2_with fail
     clear c_NB_0 f_NB_0 c_NB_1 f_NB_1 c_NB_2 f_NB_2 c_NB_3 f_NB_3 c_NB_4 f_NB_4 l_NB
     replace Z : Hid ((w9.setCell ⟨gN, 0, none⟩ (.int .i64 v)).heap[w.heap.size]? = some (.cells #[.int .i64 0, .int .i64 0, .int .i64 0, .int .i64 0, .int .i64 0, .int .i64 0, .int .i64 0, .int .i64 0] 44)) := zh (blk_set_other (b' := gN) (Z.out) (by have := LT_NB.out; omega) 0 (.int .i64 v))
     replace OG7 : Hid ((w9.setCell ⟨gN, 0, none⟩ (.int .i64 v)).heap[g7]? = some (.cells #[Str f0, Str f1, Str f2, Str f3, Str f4, Str f5, Str f6] 9)) := zh (blk_set_other (b' := gN) (OG7.out) (by have := LT_NB.out; omega) 0 (.int .i64 v))
     replace NB : Hid ((w9.setCell ⟨gN, 0, none⟩ (.int .i64 v)).heap[gN]? = some (.cells #[.int .i64 v, .int .i64 N1, .int .i64 N2, .int .i64 N3, .int .i64 N4] 116)) := zh (blk_set (NB.out) 0 (.int .i64 v))
     replace NN := zh (Bset1 (NN.out) (show w.heap.size ≤ gN by have := LT_NB.out; omega) 0 (.int .i64 v))
     go_roundw
     case rel => exact ⟨1, v, N1, N2, N3, N4, by decide, by decide, rfl, zh ⟨fun _ => hv, fun h => absurd h (by decide), fun h => absurd h (by decide), fun h => absurd h (by decide), fun h => absurd h (by decide)⟩, NN, Z, OG7, NB⟩
     case measure => decide
    ·have R0 := zh (PA.out f0 (by simp) hv)
     clear PA PS
     replace NN := zh (Bgo NN.out hb)
     replace Z := zn hb Z
     replace OG7 := zn hb OG7
     replace NB := zn hb NB
     clear hb hv
     obtain ⟨c_Z_0, f_Z_0, c_Z_1, f_Z_1, c_Z_2, f_Z_2, c_Z_3, f_Z_3, c_Z_4, f_Z_4, c_Z_5, f_Z_5, c_Z_6, f_Z_6, c_Z_7, f_Z_7, l_Z⟩ := zfl8 Z
     go_wp2_with fail
     clear c_Z_0 f_Z_0 c_Z_1 f_Z_1 c_Z_2 f_Z_2 c_Z_3 f_Z_3 c_Z_4 f_Z_4 c_Z_5 f_Z_5 c_Z_6 f_Z_6 c_Z_7 f_Z_7 l_Z
     generalize hW : ((((((((w9.setCell ⟨w.heap.size, 0, none⟩ (.int .i64 0)).setCell ⟨w.heap.size, 1, none⟩ (.int .i64 0)).setCell ⟨w.heap.size, 2, none⟩ (.int .i64 0)).setCell ⟨w.heap.size, 3, none⟩ (.int .i64 0)).setCell ⟨w.heap.size, 4, none⟩ (.int .i64 0)).setCell ⟨w.heap.size, 5, none⟩ (.int .i64 0)).setCell ⟨w.heap.size, 6, none⟩ (.int .i64 0)).setCell ⟨w.heap.size, 7, none⟩ (.int .i64 0)) = W4 at *
     replace Z : Hid (W4.heap[w.heap.size]? = some (.cells #[.int .i64 0, .int .i64 0, .int .i64 0, .int .i64 0, .int .i64 0, .int .i64 0, .int .i64 0, .int .i64 0] 44)) := zs hW (blk_set (blk_set (blk_set (blk_set (blk_set (blk_set (blk_set (blk_set (Z.out) 0 (.int .i64 0)) 1 (.int .i64 0)) 2 (.int .i64 0)) 3 (.int .i64 0)) 4 (.int .i64 0)) 5 (.int .i64 0)) 6 (.int .i64 0)) 7 (.int .i64 0))
     replace OG7 : Hid (W4.heap[g7]? = some (.cells #[Str f0, Str f1, Str f2, Str f3, Str f4, Str f5, Str f6] 9)) := zs hW (blk_set_other (blk_set_other (blk_set_other (blk_set_other (blk_set_other (blk_set_other (blk_set_other (blk_set_other (OG7.out) (by have := LT_OG7.out; omega) 0 (.int .i64 0)) (by have := LT_OG7.out; omega) 1 (.int .i64 0)) (by have := LT_OG7.out; omega) 2 (.int .i64 0)) (by have := LT_OG7.out; omega) 3 (.int .i64 0)) (by have := LT_OG7.out; omega) 4 (.int .i64 0)) (by have := LT_OG7.out; omega) 5 (.int .i64 0)) (by have := LT_OG7.out; omega) 6 (.int .i64 0)) (by have := LT_OG7.out; omega) 7 (.int .i64 0))
     replace NB : Hid (W4.heap[gN]? = some (.cells #[.int .i64 N0, .int .i64 N1, .int .i64 N2, .int .i64 N3, .int .i64 N4] 116)) := zs hW (blk_set_other (blk_set_other (blk_set_other (blk_set_other (blk_set_other (blk_set_other (blk_set_other (blk_set_other (NB.out) (by have := LT_NB.out; omega) 0 (.int .i64 0)) (by have := LT_NB.out; omega) 1 (.int .i64 0)) (by have := LT_NB.out; omega) 2 (.int .i64 0)) (by have := LT_NB.out; omega) 3 (.int .i64 0)) (by have := LT_NB.out; omega) 4 (.int .i64 0)) (by have := LT_NB.out; omega) 5 (.int .i64 0)) (by have := LT_NB.out; omega) 6 (.int .i64 0)) (by have := LT_NB.out; omega) 7 (.int .i64 0))
     replace NN := zt hW (p := Below _ _) (Bset1 (Bset1 (Bset1 (Bset1 (Bset1 (Bset1 (Bset1 (Bset1 (NN.out) (by omega) 0 (.int .i64 0)) (by omega) 1 (.int .i64 0)) (by omega) 2 (.int .i64 0)) (by omega) 3 (.int .i64 0)) (by omega) 4 (.int .i64 0)) (by omega) 5 (.int .i64 0)) (by omega) 6 (.int .i64 0)) (by omega) 7 (.int .i64 0))
     clear hW
     obtain ⟨c_Z_0, c_Z_1, c_Z_2, c_Z_3, c_Z_4, c_Z_5, c_Z_6, c_Z_7, l_Z⟩ := zcl8 Z
     exact bodyPost_ret (v := .tuple #[.agg #[.int .i64 0, .int .i64 0, .int .i64 0, .int .i64 0, .int .i64 0, .int .i64 0, .int .i64 0, .int .i64 0], .bool false]) (by simp [results, Tryz.results34, go_sem, c_Z_0, c_Z_1, c_Z_2, c_Z_3, c_Z_4, c_Z_5, c_Z_6, c_Z_7]) rfl ⟨PLP.no R0.out, NN.out⟩
   ·obtain ⟨c_OG7_0, f_OG7_0, c_OG7_1, f_OG7_1, c_OG7_2, f_OG7_2, c_OG7_3, f_OG7_3, c_OG7_4, f_OG7_4, c_OG7_5, f_OG7_5, c_OG7_6, f_OG7_6, l_OG7⟩ := zfl7 OG7
    go_wp2_with fail
    clear c_OG7_0 f_OG7_0 c_OG7_1 f_OG7_1 c_OG7_2 f_OG7_2 c_OG7_3 f_OG7_3 c_OG7_4 f_OG7_4 c_OG7_5 f_OG7_5 c_OG7_6 f_OG7_6 l_OG7
    refine (atoi_calls f1 _ B1 (GG.out _ NN.out)).mono ?_
    rintro e w9 (⟨v, hv, -, -, rfl, hb⟩ | ⟨hv, v, tt, pp, rfl, hb⟩)
    ·replace NN := zh (Bgo NN.out hb)
     replace Z := zn hb Z
     replace OG7 := zn hb OG7
     replace NB := zn hb NB
     clear hb
     obtain ⟨c_NB_0, f_NB_0, c_NB_1, f_NB_1, c_NB_2, f_NB_2, c_NB_3, f_NB_3, c_NB_4, f_NB_4, l_NB⟩ := zfl5 NB
     go_wp2_with fail
     clear c_NB_0 f_NB_0 c_NB_1 f_NB_1 c_NB_2 f_NB_2 c_NB_3 f_NB_3 c_NB_4 f_NB_4 l_NB
     replace Z : Hid ((w9.setCell ⟨gN, 1, none⟩ (.int .i64 v)).heap[w.heap.size]? = some (.cells #[.int .i64 0, .int .i64 0, .int .i64 0, .int .i64 0, .int .i64 0, .int .i64 0, .int .i64 0, .int .i64 0] 44)) := zh (blk_set_other (b' := gN) (Z.out) (by have := LT_NB.out; omega) 1 (.int .i64 v))
     replace OG7 : Hid ((w9.setCell ⟨gN, 1, none⟩ (.int .i64 v)).heap[g7]? = some (.cells #[Str f0, Str f1, Str f2, Str f3, Str f4, Str f5, Str f6] 9)) := zh (blk_set_other (b' := gN) (OG7.out) (by have := LT_NB.out; omega) 1 (.int .i64 v))
     replace NB : Hid ((w9.setCell ⟨gN, 1, none⟩ (.int .i64 v)).heap[gN]? = some (.cells #[.int .i64 N0, .int .i64 v, .int .i64 N2, .int .i64 N3, .int .i64 N4] 116)) := zh (blk_set (NB.out) 1 (.int .i64 v))
     replace NN := zh (Bset1 (NN.out) (show w.heap.size ≤ gN by have := LT_NB.out; omega) 1 (.int .i64 v))
     go_roundw
     case rel => exact ⟨2, N0, v, N2, N3, N4, by decide, by decide, rfl, zh ⟨fun _ => HA.out.1 (by decide), fun _ => hv, fun h => absurd h (by decide), fun h => absurd h (by decide), fun h => absurd h (by decide)⟩, NN, Z, OG7, NB⟩
     case measure => decide
    ·have R0 := zh (PA.out f1 (by simp) hv)
     clear PA PS
     replace NN := zh (Bgo NN.out hb)
     replace Z := zn hb Z
     replace OG7 := zn hb OG7
     replace NB := zn hb NB
     clear hb hv
     obtain ⟨c_Z_0, f_Z_0, c_Z_1, f_Z_1, c_Z_2, f_Z_2, c_Z_3, f_Z_3, c_Z_4, f_Z_4, c_Z_5, f_Z_5, c_Z_6, f_Z_6, c_Z_7, f_Z_7, l_Z⟩ := zfl8 Z
     go_wp2_with fail
     clear c_Z_0 f_Z_0 c_Z_1 f_Z_1 c_Z_2 f_Z_2 c_Z_3 f_Z_3 c_Z_4 f_Z_4 c_Z_5 f_Z_5 c_Z_6 f_Z_6 c_Z_7 f_Z_7 l_Z
     generalize hW : ((((((((w9.setCell ⟨w.heap.size, 0, none⟩ (.int .i64 0)).setCell ⟨w.heap.size, 1, none⟩ (.int .i64 0)).setCell ⟨w.heap.size, 2, none⟩ (.int .i64 0)).setCell ⟨w.heap.size, 3, none⟩ (.int .i64 0)).setCell ⟨w.heap.size, 4, none⟩ (.int .i64 0)).setCell ⟨w.heap.size, 5, none⟩ (.int .i64 0)).setCell ⟨w.heap.size, 6, none⟩ (.int .i64 0)).setCell ⟨w.heap.size, 7, none⟩ (.int .i64 0)) = W6 at *
     replace Z : Hid (W6.heap[w.heap.size]? = some (.cells #[.int .i64 0, .int .i64 0, .int .i64 0, .int .i64 0, .int .i64 0, .int .i64 0, .int .i64 0, .int .i64 0] 44)) := zs hW (blk_set (blk_set (blk_set (blk_set (blk_set (blk_set (blk_set (blk_set (Z.out) 0 (.int .i64 0)) 1 (.int .i64 0)) 2 (.int .i64 0)) 3 (.int .i64 0)) 4 (.int .i64 0)) 5 (.int .i64 0)) 6 (.int .i64 0)) 7 (.int .i64 0))
     replace OG7 : Hid (W6.heap[g7]? = some (.cells #[Str f0, Str f1, Str f2, Str f3, Str f4, Str f5, Str f6] 9)) := zs hW (blk_set_other (blk_set_other (blk_set_other (blk_set_other (blk_set_other (blk_set_other (blk_set_other (blk_set_other (OG7.out) (by have := LT_OG7.out; omega) 0 (.int .i64 0)) (by have := LT_OG7.out; omega) 1 (.int .i64 0)) (by have := LT_OG7.out; omega) 2 (.int .i64 0)) (by have := LT_OG7.out; omega) 3 (.int .i64 0)) (by have := LT_OG7.out; omega) 4 (.int .i64 0)) (by have := LT_OG7.out; omega) 5 (.int .i64 0)) (by have := LT_OG7.out; omega) 6 (.int .i64 0)) (by have := LT_OG7.out; omega) 7 (.int .i64 0))
     replace NB : Hid (W6.heap[gN]? = some (.cells #[.int .i64 N0, .int .i64 N1, .int .i64 N2, .int .i64 N3, .int .i64 N4] 116)) := zs hW (blk_set_other (blk_set_other (blk_set_other (blk_set_other (blk_set_other (blk_set_other (blk_set_other (blk_set_other (NB.out) (by have := LT_NB.out; omega) 0 (.int .i64 0)) (by have := LT_NB.out; omega) 1 (.int .i64 0)) (by have := LT_NB.out; omega) 2 (.int .i64 0)) (by have := LT_NB.out; omega) 3 (.int .i64 0)) (by have := LT_NB.out; omega) 4 (.int .i64 0)) (by have := LT_NB.out; omega) 5 (.int .i64 0)) (by have := LT_NB.out; omega) 6 (.int .i64 0)) (by have := LT_NB.out; omega) 7 (.int .i64 0))
     replace NN := zt hW (p := Below _ _) (Bset1 (Bset1 (Bset1 (Bset1 (Bset1 (Bset1 (Bset1 (Bset1 (NN.out) (by omega) 0 (.int .i64 0)) (by omega) 1 (.int .i64 0)) (by omega) 2 (.int .i64 0)) (by omega) 3 (.int .i64 0)) (by omega) 4 (.int .i64 0)) (by omega) 5 (.int .i64 0)) (by omega) 6 (.int .i64 0)) (by omega) 7 (.int .i64 0))
     clear hW
     obtain ⟨c_Z_0, c_Z_1, c_Z_2, c_Z_3, c_Z_4, c_Z_5, c_Z_6, c_Z_7, l_Z⟩ := zcl8 Z
     exact bodyPost_ret (v := .tuple #[.agg #[.int .i64 0, .int .i64 0, .int .i64 0, .int .i64 0, .int .i64 0, .int .i64 0, .int .i64 0, .int .i64 0], .bool false]) (by simp [results, Tryz.results34, go_sem, c_Z_0, c_Z_1, c_Z_2, c_Z_3, c_Z_4, c_Z_5, c_Z_6, c_Z_7]) rfl ⟨PLP.no R0.out, NN.out⟩
   ·obtain ⟨c_OG7_0, f_OG7_0, c_OG7_1, f_OG7_1, c_OG7_2, f_OG7_2, c_OG7_3, f_OG7_3, c_OG7_4, f_OG7_4, c_OG7_5, f_OG7_5, c_OG7_6, f_OG7_6, l_OG7⟩ := zfl7 OG7
    go_wp2_with fail
    clear c_OG7_0 f_OG7_0 c_OG7_1 f_OG7_1 c_OG7_2 f_OG7_2 c_OG7_3 f_OG7_3 c_OG7_4 f_OG7_4 c_OG7_5 f_OG7_5 c_OG7_6 f_OG7_6 l_OG7
    refine (atoi_calls f2 _ B2 (GG.out _ NN.out)).mono ?_
    rintro e w9 (⟨v, hv, -, -, rfl, hb⟩ | ⟨hv, v, tt, pp, rfl, hb⟩)
    ·replace NN := zh (Bgo NN.out hb)
     replace Z := zn hb Z
     replace OG7 := zn hb OG7
     replace NB := zn hb NB
     clear hb
     obtain ⟨c_NB_0, f_NB_0, c_NB_1, f_NB_1, c_NB_2, f_NB_2, c_NB_3, f_NB_3, c_NB_4, f_NB_4, l_NB⟩ := zfl5 NB
     go_wp2_with fail
     clear c_NB_0 f_NB_0 c_NB_1 f_NB_1 c_NB_2 f_NB_2 c_NB_3 f_NB_3 c_NB_4 f_NB_4 l_NB
     replace Z : Hid ((w9.setCell ⟨gN, 2, none⟩ (.int .i64 v)).heap[w.heap.size]? = some (.cells #[.int .i64 0, .int .i64 0, .int .i64 0, .int .i64 0, .int .i64 0, .int .i64 0, .int .i64 0, .int .i64 0] 44)) := zh (blk_set_other (b' := gN) (Z.out) (by have := LT_NB.out; omega) 2 (.int .i64 v))
     replace OG7 : Hid ((w9.setCell ⟨gN, 2, none⟩ (.int .i64 v)).heap[g7]? = some (.cells #[Str f0, Str f1, Str f2, Str f3, Str f4, Str f5, Str f6] 9)) := zh (blk_set_other (b' := gN) (OG7.out) (by have := LT_NB.out; omega) 2 (.int .i64 v))
     replace NB : Hid ((w9.setCell ⟨gN, 2, none⟩ (.int .i64 v)).heap[gN]? = some (.cells #[.int .i64 N0, .int .i64 N1, .int .i64 v, .int .i64 N3, .int .i64 N4] 116)) := zh (blk_set (NB.out) 2 (.int .i64 v))
     replace NN := zh (Bset1 (NN.out) (show w.heap.size ≤ gN by have := LT_NB.out; omega) 2 (.int .i64 v))
     go_roundw
     case rel => exact ⟨3, N0, N1, v, N3, N4, by decide, by decide, rfl, zh ⟨fun _ => HA.out.1 (by decide), fun _ => HA.out.2.1 (by decide), fun _ => hv, fun h => absurd h (by decide), fun h => absurd h (by decide)⟩, NN, Z, OG7, NB⟩
     case measure => decide
    ·have R0 := zh (PA.out f2 (by simp) hv)
     clear PA PS
     replace NN := zh (Bgo NN.out hb)
     replace Z := zn hb Z
     replace OG7 := zn hb OG7
     replace NB := zn hb NB
     clear hb hv
     obtain ⟨c_Z_0, f_Z_0, c_Z_1, f_Z_1, c_Z_2, f_Z_2, c_Z_3, f_Z_3, c_Z_4, f_Z_4, c_Z_5, f_Z_5, c_Z_6, f_Z_6, c_Z_7, f_Z_7, l_Z⟩ := zfl8 Z
     go_wp2_with fail
     clear c_Z_0 f_Z_0 c_Z_1 f_Z_1 c_Z_2 f_Z_2 c_Z_3 f_Z_3 c_Z_4 f_Z_4 c_Z_5 f_Z_5 c_Z_6 f_Z_6 c_Z_7 f_Z_7 l_Z
     generalize hW : ((((((((w9.setCell ⟨w.heap.size, 0, none⟩ (.int .i64 0)).setCell ⟨w.heap.size, 1, none⟩ (.int .i64 0)).setCell ⟨w.heap.size, 2, none⟩ (.int .i64 0)).setCell ⟨w.heap.size, 3, none⟩ (.int .i64 0)).setCell ⟨w.heap.size, 4, none⟩ (.int .i64 0)).setCell ⟨w.heap.size, 5, none⟩ (.int .i64 0)).setCell ⟨w.heap.size, 6, none⟩ (.int .i64 0)).setCell ⟨w.heap.size, 7, none⟩ (.int .i64 0)) = W8 at *
     replace Z : Hid (W8.heap[w.heap.size]? = some (.cells #[.int .i64 0, .int .i64 0, .int .i64 0, .int .i64 0, .int .i64 0, .int .i64 0, .int .i64 0, .int .i64 0] 44)) := zs hW (blk_set (blk_set (blk_set (blk_set (blk_set (blk_set (blk_set (blk_set (Z.out) 0 (.int .i64 0)) 1 (.int .i64 0)) 2 (.int .i64 0)) 3 (.int .i64 0)) 4 (.int .i64 0)) 5 (.int .i64 0)) 6 (.int .i64 0)) 7 (.int .i64 0))
     replace OG7 : Hid (W8.heap[g7]? = some (.cells #[Str f0, Str f1, Str f2, Str f3, Str f4, Str f5, Str f6] 9)) := zs hW (blk_set_other (blk_set_other (blk_set_other (blk_set_other (blk_set_other (blk_set_other (blk_set_other (blk_set_other (OG7.out) (by have := LT_OG7.out; omega) 0 (.int .i64 0)) (by have := LT_OG7.out; omega) 1 (.int .i64 0)) (by have := LT_OG7.out; omega) 2 (.int .i64 0)) (by have := LT_OG7.out; omega) 3 (.int .i64 0)) (by have := LT_OG7.out; omega) 4 (.int .i64 0)) (by have := LT_OG7.out; omega) 5 (.int .i64 0)) (by have := LT_OG7.out; omega) 6 (.int .i64 0)) (by have := LT_OG7.out; omega) 7 (.int .i64 0))
     replace NB : Hid (W8.heap[gN]? = some (.cells #[.int .i64 N0, .int .i64 N1, .int .i64 N2, .int .i64 N3, .int .i64 N4] 116)) := zs hW (blk_set_other (blk_set_other (blk_set_other (blk_set_other (blk_set_other (blk_set_other (blk_set_other (blk_set_other (NB.out) (by have := LT_NB.out; omega) 0 (.int .i64 0)) (by have := LT_NB.out; omega) 1 (.int .i64 0)) (by have := LT_NB.out; omega) 2 (.int .i64 0)) (by have := LT_NB.out; omega) 3 (.int .i64 0)) (by have := LT_NB.out; omega) 4 (.int .i64 0)) (by have := LT_NB.out; omega) 5 (.int .i64 0)) (by have := LT_NB.out; omega) 6 (.int .i64 0)) (by have := LT_NB.out; omega) 7 (.int .i64 0))
     replace NN := zt hW (p := Below _ _) (Bset1 (Bset1 (Bset1 (Bset1 (Bset1 (Bset1 (Bset1 (Bset1 (NN.out) (by omega) 0 (.int .i64 0)) (by omega) 1 (.int .i64 0)) (by omega) 2 (.int .i64 0)) (by omega) 3 (.int .i64 0)) (by omega) 4 (.int .i64 0)) (by omega) 5 (.int .i64 0)) (by omega) 6 (.int .i64 0)) (by omega) 7 (.int .i64 0))
     clear hW
     obtain ⟨c_Z_0, c_Z_1, c_Z_2, c_Z_3, c_Z_4, c_Z_5, c_Z_6, c_Z_7, l_Z⟩ := zcl8 Z
     exact bodyPost_ret (v := .tuple #[.agg #[.int .i64 0, .int .i64 0, .int .i64 0, .int .i64 0, .int .i64 0, .int .i64 0, .int .i64 0, .int .i64 0], .bool false]) (by simp [results, Tryz.results34, go_sem, c_Z_0, c_Z_1, c_Z_2, c_Z_3, c_Z_4, c_Z_5, c_Z_6, c_Z_7]) rfl ⟨PLP.no R0.out, NN.out⟩
   ·obtain ⟨c_OG7_0, f_OG7_0, c_OG7_1, f_OG7_1, c_OG7_2, f_OG7_2, c_OG7_3, f_OG7_3, c_OG7_4, f_OG7_4, c_OG7_5, f_OG7_5, c_OG7_6, f_OG7_6, l_OG7⟩ := zfl7 OG7
    go_wp2_with fail
    clear c_OG7_0 f_OG7_0 c_OG7_1 f_OG7_1 c_OG7_2 f_OG7_2 c_OG7_3 f_OG7_3 c_OG7_4 f_OG7_4 c_OG7_5 f_OG7_5 c_OG7_6 f_OG7_6 l_OG7
    refine (atoi_calls f3 _ B3 (GG.out _ NN.out)).mono ?_
    rintro e w9 (⟨v, hv, -, -, rfl, hb⟩ | ⟨hv, v, tt, pp, rfl, hb⟩)
    ·replace NN := zh (Bgo NN.out hb)
     replace Z := zn hb Z
     replace OG7 := zn hb OG7
     replace NB := zn hb NB
     clear hb
     obtain ⟨c_NB_0, f_NB_0, c_NB_1, f_NB_1, c_NB_2, f_NB_2, c_NB_3, f_NB_3, c_NB_4, f_NB_4, l_NB⟩ := zfl5 NB
     go_wp2_with fail
     clear c_NB_0 f_NB_0 c_NB_1 f_NB_1 c_NB_2 f_NB_2 c_NB_3 f_NB_3 c_NB_4 f_NB_4 l_NB
     replace Z : Hid ((w9.setCell ⟨gN, 3, none⟩ (.int .i64 v)).heap[w.heap.size]? = some (.cells #[.int .i64 0, .int .i64 0, .int .i64 0, .int .i64 0, .int .i64 0, .int .i64 0, .int .i64 0, .int .i64 0] 44)) := zh (blk_set_other (b' := gN) (Z.out) (by have := LT_NB.out; omega) 3 (.int .i64 v))
     replace OG7 : Hid ((w9.setCell ⟨gN, 3, none⟩ (.int .i64 v)).heap[g7]? = some (.cells #[Str f0, Str f1, Str f2, Str f3, Str f4, Str f5, Str f6] 9)) := zh (blk_set_other (b' := gN) (OG7.out) (by have := LT_NB.out; omega) 3 (.int .i64 v))
     replace NB : Hid ((w9.setCell ⟨gN, 3, none⟩ (.int .i64 v)).heap[gN]? = some (.cells #[.int .i64 N0, .int .i64 N1, .int .i64 N2, .int .i64 v, .int .i64 N4] 116)) := zh (blk_set (NB.out) 3 (.int .i64 v))
     replace NN := zh (Bset1 (NN.out) (show w.heap.size ≤ gN by have := LT_NB.out; omega) 3 (.int .i64 v))
     go_roundw
     case rel => exact ⟨4, N0, N1, N2, v, N4, by decide, by decide, rfl, zh ⟨fun _ => HA.out.1 (by decide), fun _ => HA.out.2.1 (by decide), fun _ => HA.out.2.2.1 (by decide), fun _ => hv, fun h => absurd h (by decide)⟩, NN, Z, OG7, NB⟩
     case measure => decide
    ·have R0 := zh (PA.out f3 (by simp) hv)
     clear PA PS
     replace NN := zh (Bgo NN.out hb)
     replace Z := zn hb Z
     replace OG7 := zn hb OG7
     replace NB := zn hb NB
     clear hb hv
     obtain ⟨c_Z_0, f_Z_0, c_Z_1, f_Z_1, c_Z_2, f_Z_2, c_Z_3, f_Z_3, c_Z_4, f_Z_4, c_Z_5, f_Z_5, c_Z_6, f_Z_6, c_Z_7, f_Z_7, l_Z⟩ := zfl8 Z
     go_wp2_with fail
     clear c_Z_0 f_Z_0 c_Z_1 f_Z_1 c_Z_2 f_Z_2 c_Z_3 f_Z_3 c_Z_4 f_Z_4 c_Z_5 f_Z_5 c_Z_6 f_Z_6 c_Z_7 f_Z_7 l_Z
     generalize hW : ((((((((w9.setCell ⟨w.heap.size, 0, none⟩ (.int .i64 0)).setCell ⟨w.heap.size, 1, none⟩ (.int .i64 0)).setCell ⟨w.heap.size, 2, none⟩ (.int .i64 0)).setCell ⟨w.heap.size, 3, none⟩ (.int .i64 0)).setCell ⟨w.heap.size, 4, none⟩ (.int .i64 0)).setCell ⟨w.heap.size, 5, none⟩ (.int .i64 0)).setCell ⟨w.heap.size, 6, none⟩ (.int .i64 0)).setCell ⟨w.heap.size, 7, none⟩ (.int .i64 0)) = W10 at *
     replace Z : Hid (W10.heap[w.heap.size]? = some (.cells #[.int .i64 0, .int .i64 0, .int .i64 0, .int .i64 0, .int .i64 0, .int .i64 0, .int .i64 0, .int .i64 0] 44)) := zs hW (blk_set (blk_set (blk_set (blk_set (blk_set (blk_set (blk_set (blk_set (Z.out) 0 (.int .i64 0)) 1 (.int .i64 0)) 2 (.int .i64 0)) 3 (.int .i64 0)) 4 (.int .i64 0)) 5 (.int .i64 0)) 6 (.int .i64 0)) 7 (.int .i64 0))
     replace OG7 : Hid (W10.heap[g7]? = some (.cells #[Str f0, Str f1, Str f2, Str f3, Str f4, Str f5, Str f6] 9)) := zs hW (blk_set_other (blk_set_other (blk_set_other (blk_set_other (blk_set_other (blk_set_other (blk_set_other (blk_set_other (OG7.out) (by have := LT_OG7.out; omega) 0 (.int .i64 0)) (by have := LT_OG7.out; omega) 1 (.int .i64 0)) (by have := LT_OG7.out; omega) 2 (.int .i64 0)) (by have := LT_OG7.out; omega) 3 (.int .i64 0)) (by have := LT_OG7.out; omega) 4 (.int .i64 0)) (by have := LT_OG7.out; omega) 5 (.int .i64 0)) (by have := LT_OG7.out; omega) 6 (.int .i64 0)) (by have := LT_OG7.out; omega) 7 (.int .i64 0))
     replace NB : Hid (W10.heap[gN]? = some (.cells #[.int .i64 N0, .int .i64 N1, .int .i64 N2, .int .i64 N3, .int .i64 N4] 116)) := zs hW (blk_set_other (blk_set_other (blk_set_other (blk_set_other (blk_set_other (blk_set_other (blk_set_other (blk_set_other (NB.out) (by have := LT_NB.out; omega) 0 (.int .i64 0)) (by have := LT_NB.out; omega) 1 (.int .i64 0)) (by have := LT_NB.out; omega) 2 (.int .i64 0)) (by have := LT_NB.out; omega) 3 (.int .i64 0)) (by have := LT_NB.out; omega) 4 (.int .i64 0)) (by have := LT_NB.out; omega) 5 (.int .i64 0)) (by have := LT_NB.out; omega) 6 (.int .i64 0)) (by have := LT_NB.out; omega) 7 (.int .i64 0))
     replace NN := zt hW (p := Below _ _) (Bset1 (Bset1 (Bset1 (Bset1 (Bset1 (Bset1 (Bset1 (Bset1 (NN.out) (by omega) 0 (.int .i64 0)) (by omega) 1 (.int .i64 0)) (by omega) 2 (.int .i64 0)) (by omega) 3 (.int .i64 0)) (by omega) 4 (.int .i64 0)) (by omega) 5 (.int .i64 0)) (by omega) 6 (.int .i64 0)) (by omega) 7 (.int .i64 0))
     clear hW
     obtain ⟨c_Z_0, c_Z_1, c_Z_2, c_Z_3, c_Z_4, c_Z_5, c_Z_6, c_Z_7, l_Z⟩ := zcl8 Z
     exact bodyPost_ret (v := .tuple #[.agg #[.int .i64 0, .int .i64 0, .int .i64 0, .int .i64 0, .int .i64 0, .int .i64 0, .int .i64 0, .int .i64 0], .bool false]) (by simp [results, Tryz.results34, go_sem, c_Z_0, c_Z_1, c_Z_2, c_Z_3, c_Z_4, c_Z_5, c_Z_6, c_Z_7]) rfl ⟨PLP.no R0.out, NN.out⟩
   ·obtain ⟨c_OG7_0, f_OG7_0, c_OG7_1, f_OG7_1, c_OG7_2, f_OG7_2, c_OG7_3, f_OG7_3, c_OG7_4, f_OG7_4, c_OG7_5, f_OG7_5, c_OG7_6, f_OG7_6, l_OG7⟩ := zfl7 OG7
    go_wp2_with fail
    clear c_OG7_0 f_OG7_0 c_OG7_1 f_OG7_1 c_OG7_2 f_OG7_2 c_OG7_3 f_OG7_3 c_OG7_4 f_OG7_4 c_OG7_5 f_OG7_5 c_OG7_6 f_OG7_6 l_OG7
    refine (atoi_calls f6 _ B6 (GG.out _ NN.out)).mono ?_
    rintro e w9 (⟨v, hv, -, -, rfl, hb⟩ | ⟨hv, v, tt, pp, rfl, hb⟩)
    ·replace NN := zh (Bgo NN.out hb)
     replace Z := zn hb Z
     replace OG7 := zn hb OG7
     replace NB := zn hb NB
     clear hb
     obtain ⟨c_NB_0, f_NB_0, c_NB_1, f_NB_1, c_NB_2, f_NB_2, c_NB_3, f_NB_3, c_NB_4, f_NB_4, l_NB⟩ := zfl5 NB
     go_wp2_with fail
     clear c_NB_0 f_NB_0 c_NB_1 f_NB_1 c_NB_2 f_NB_2 c_NB_3 f_NB_3 c_NB_4 f_NB_4 l_NB
     replace Z : Hid ((w9.setCell ⟨gN, 4, none⟩ (.int .i64 v)).heap[w.heap.size]? = some (.cells #[.int .i64 0, .int .i64 0, .int .i64 0, .int .i64 0, .int .i64 0, .int .i64 0, .int .i64 0, .int .i64 0] 44)) := zh (blk_set_other (b' := gN) (Z.out) (by have := LT_NB.out; omega) 4 (.int .i64 v))
     replace OG7 : Hid ((w9.setCell ⟨gN, 4, none⟩ (.int .i64 v)).heap[g7]? = some (.cells #[Str f0, Str f1, Str f2, Str f3, Str f4, Str f5, Str f6] 9)) := zh (blk_set_other (b' := gN) (OG7.out) (by have := LT_NB.out; omega) 4 (.int .i64 v))
     replace NB : Hid ((w9.setCell ⟨gN, 4, none⟩ (.int .i64 v)).heap[gN]? = some (.cells #[.int .i64 N0, .int .i64 N1, .int .i64 N2, .int .i64 N3, .int .i64 v] 116)) := zh (blk_set (NB.out) 4 (.int .i64 v))
     replace NN := zh (Bset1 (NN.out) (show w.heap.size ≤ gN by have := LT_NB.out; omega) 4 (.int .i64 v))
     go_roundw
     case rel => exact ⟨5, N0, N1, N2, N3, v, by decide, by decide, rfl, zh ⟨fun _ => HA.out.1 (by decide), fun _ => HA.out.2.1 (by decide), fun _ => HA.out.2.2.1 (by decide), fun _ => HA.out.2.2.2.1 (by decide), fun _ => hv⟩, NN, Z, OG7, NB⟩
     case measure => decide
    ·have R0 := zh (PA.out f6 (by simp) hv)
     clear PA PS
     replace NN := zh (Bgo NN.out hb)
     replace Z := zn hb Z
     replace OG7 := zn hb OG7
     replace NB := zn hb NB
     clear hb hv
     obtain ⟨c_Z_0, f_Z_0, c_Z_1, f_Z_1, c_Z_2, f_Z_2, c_Z_3, f_Z_3, c_Z_4, f_Z_4, c_Z_5, f_Z_5, c_Z_6, f_Z_6, c_Z_7, f_Z_7, l_Z⟩ := zfl8 Z
     go_wp2_with fail
     clear c_Z_0 f_Z_0 c_Z_1 f_Z_1 c_Z_2 f_Z_2 c_Z_3 f_Z_3 c_Z_4 f_Z_4 c_Z_5 f_Z_5 c_Z_6 f_Z_6 c_Z_7 f_Z_7 l_Z
     generalize hW : ((((((((w9.setCell ⟨w.heap.size, 0, none⟩ (.int .i64 0)).setCell ⟨w.heap.size, 1, none⟩ (.int .i64 0)).setCell ⟨w.heap.size, 2, none⟩ (.int .i64 0)).setCell ⟨w.heap.size, 3, none⟩ (.int .i64 0)).setCell ⟨w.heap.size, 4, none⟩ (.int .i64 0)).setCell ⟨w.heap.size, 5, none⟩ (.int .i64 0)).setCell ⟨w.heap.size, 6, none⟩ (.int .i64 0)).setCell ⟨w.heap.size, 7, none⟩ (.int .i64 0)) = W12 at *
     replace Z : Hid (W12.heap[w.heap.size]? = some (.cells #[.int .i64 0, .int .i64 0, .int .i64 0, .int .i64 0, .int .i64 0, .int .i64 0, .int .i64 0, .int .i64 0] 44)) := zs hW (blk_set (blk_set (blk_set (blk_set (blk_set (blk_set (blk_set (blk_set (Z.out) 0 (.int .i64 0)) 1 (.int .i64 0)) 2 (.int .i64 0)) 3 (.int .i64 0)) 4 (.int .i64 0)) 5 (.int .i64 0)) 6 (.int .i64 0)) 7 (.int .i64 0))
     replace OG7 : Hid (W12.heap[g7]? = some (.cells #[Str f0, Str f1, Str f2, Str f3, Str f4, Str f5, Str f6] 9)) := zs hW (blk_set_other (blk_set_other (blk_set_other (blk_set_other (blk_set_other (blk_set_other (blk_set_other (blk_set_other (OG7.out) (by have := LT_OG7.out; omega) 0 (.int .i64 0)) (by have := LT_OG7.out; omega) 1 (.int .i64 0)) (by have := LT_OG7.out; omega) 2 (.int .i64 0)) (by have := LT_OG7.out; omega) 3 (.int .i64 0)) (by have := LT_OG7.out; omega) 4 (.int .i64 0)) (by have := LT_OG7.out; omega) 5 (.int .i64 0)) (by have := LT_OG7.out; omega) 6 (.int .i64 0)) (by have := LT_OG7.out; omega) 7 (.int .i64 0))
     replace NB : Hid (W12.heap[gN]? = some (.cells #[.int .i64 N0, .int .i64 N1, .int .i64 N2, .int .i64 N3, .int .i64 N4] 116)) := zs hW (blk_set_other (blk_set_other (blk_set_other (blk_set_other (blk_set_other (blk_set_other (blk_set_other (blk_set_other (NB.out) (by have := LT_NB.out; omega) 0 (.int .i64 0)) (by have := LT_NB.out; omega) 1 (.int .i64 0)) (by have := LT_NB.out; omega) 2 (.int .i64 0)) (by have := LT_NB.out; omega) 3 (.int .i64 0)) (by have := LT_NB.out; omega) 4 (.int .i64 0)) (by have := LT_NB.out; omega) 5 (.int .i64 0)) (by have := LT_NB.out; omega) 6 (.int .i64 0)) (by have := LT_NB.out; omega) 7 (.int .i64 0))
     replace NN := zt hW (p := Below _ _) (Bset1 (Bset1 (Bset1 (Bset1 (Bset1 (Bset1 (Bset1 (Bset1 (NN.out) (by omega) 0 (.int .i64 0)) (by omega) 1 (.int .i64 0)) (by omega) 2 (.int .i64 0)) (by omega) 3 (.int .i64 0)) (by omega) 4 (.int .i64 0)) (by omega) 5 (.int .i64 0)) (by omega) 6 (.int .i64 0)) (by omega) 7 (.int .i64 0))
     clear hW
     obtain ⟨c_Z_0, c_Z_1, c_Z_2, c_Z_3, c_Z_4, c_Z_5, c_Z_6, c_Z_7, l_Z⟩ := zcl8 Z
     exact bodyPost_ret (v := .tuple #[.agg #[.int .i64 0, .int .i64 0, .int .i64 0, .int .i64 0, .int .i64 0, .int .i64 0, .int .i64 0, .int .i64 0], .bool false]) (by simp [results, Tryz.results34, go_sem, c_Z_0, c_Z_1, c_Z_2, c_Z_3, c_Z_4, c_Z_5, c_Z_6, c_Z_7]) rfl ⟨PLP.no R0.out, NN.out⟩
   ·obtain ⟨a0, a1, a2, a3, a4⟩ := HA.out
    have PS0 := zh (PS.out N0 N1 N2 N3 N4 (a0 (by decide)) (a1 (by decide)) (a2 (by decide)) (a3 (by decide)) (a4 (by decide)))
    clear a0 a1 a2 a3 a4 HA PA PS
    have F4 := zh (fun n d (h : prC f4 = (n, d, 0)) => prC_vf9 h)
    have F5 := zh (fun n d (h : prC f5 = (n, d, 0)) => prC_vf9 h)
    have P4 := zh (fun W g => pfrac_of f4 W g)
    have P5 := zh (fun W g => pfrac_of f5 W g)
    generalize prC f4 = p4 at *
    generalize prC f5 = p5 at *
    obtain ⟨n1, d1, e1⟩ := p4
    obtain ⟨n2, d2, e2⟩ := p5
    simp only at P4 P5 PS0
    obtain ⟨c_OG7_0, f_OG7_0, c_OG7_1, f_OG7_1, c_OG7_2, f_OG7_2, c_OG7_3, f_OG7_3, c_OG7_4, f_OG7_4, c_OG7_5, f_OG7_5, c_OG7_6, f_OG7_6, l_OG7⟩ := zfl7 OG7
    go_wp2_with fail
    clear c_OG7_0 f_OG7_0 c_OG7_1 f_OG7_1 c_OG7_2 f_OG7_2 c_OG7_3 f_OG7_3 c_OG7_4 f_OG7_4 c_OG7_5 f_OG7_5 c_OG7_6 f_OG7_6 l_OG7
    refine (P4.out _ (GG.out _ NN.out)).mono ?_
    rintro e w13 ⟨rfl, hb⟩
    replace NN := zh (Bgo NN.out hb)
    replace Z := zn hb Z
    replace OG7 := zn hb OG7
    replace NB := zn hb NB
    clear hb
    go_upto_region 14 with fail
    obtain ⟨HB, VA⟩ := zl (w := w13) (.cells #[.int .i64 n1, .int .i64 d1] 83)
    have LT_VA : Hid (w.heap.size < w13.heap.size ∧ g7 < w13.heap.size ∧ gN < w13.heap.size ∧ w.heap.size ≤ w13.heap.size) := zh ⟨blk_lt Z.out, blk_lt OG7.out, blk_lt NB.out, NN.out.size⟩
    replace NN := zh (Bgo NN.out HB.out)
    replace Z := zn HB Z
    replace OG7 := zn HB OG7
    replace NB := zn HB NB
    clear HB
    generalize (w13.alloc (.cells #[.int .i64 n1, .int .i64 d1] 83)) = W14 at *
    generalize w13.heap.size = gA at *
    by_cases h1 : e1 = 0
    ·subst h1
     obtain ⟨c_OG7_0, f_OG7_0, c_OG7_1, f_OG7_1, c_OG7_2, f_OG7_2, c_OG7_3, f_OG7_3, c_OG7_4, f_OG7_4, c_OG7_5, f_OG7_5, c_OG7_6, f_OG7_6, l_OG7⟩ := zfl7 OG7
     go_wp2_with fail
     clear c_OG7_0 f_OG7_0 c_OG7_1 f_OG7_1 c_OG7_2 f_OG7_2 c_OG7_3 f_OG7_3 c_OG7_4 f_OG7_4 c_OG7_5 f_OG7_5 c_OG7_6 f_OG7_6 l_OG7
     refine (P5.out _ (GG.out _ NN.out)).mono ?_
     rintro e w15 ⟨rfl, hb⟩
     replace NN := zh (Bgo NN.out hb)
     replace Z := zn hb Z
     replace OG7 := zn hb OG7
     replace NB := zn hb NB
     replace VA := zn hb VA
     clear hb
     go_upto_region 17 with fail
     obtain ⟨HB, VB⟩ := zl (w := w15) (.cells #[.int .i64 n2, .int .i64 d2] 83)
     have LT_VB : Hid (w.heap.size < w15.heap.size ∧ g7 < w15.heap.size ∧ gN < w15.heap.size ∧ gA < w15.heap.size ∧ w.heap.size ≤ w15.heap.size) := zh ⟨blk_lt Z.out, blk_lt OG7.out, blk_lt NB.out, blk_lt VA.out, NN.out.size⟩
     replace NN := zh (Bgo NN.out HB.out)
     replace Z := zn HB Z
     replace OG7 := zn HB OG7
     replace NB := zn HB NB
     replace VA := zn HB VA
     clear HB
     generalize (w15.alloc (.cells #[.int .i64 n2, .int .i64 d2] 83)) = W16 at *
     generalize w15.heap.size = gB at *
     by_cases h2 : e2 = 0
     ·subst h2
      have V1 := F4.out n1 d1 rfl
      have V2 := F5.out n2 d2 rfl
      have PS1 := zh (PS0.out.trans (if_pos (by simp)))
      have MC := zh (fun W => wmake_calls N2 N3 N4 V1 V2 W)
      clear PS0 F4 F5 P4 P5 V1 V2 GG
      obtain ⟨c_NB_0, f_NB_0, c_NB_1, f_NB_1, c_NB_2, f_NB_2, c_NB_3, f_NB_3, c_NB_4, f_NB_4, l_NB⟩ := zfl5 NB
      obtain ⟨c_VA_0, f_VA_0, c_VA_1, f_VA_1, l_VA⟩ := zfl2 VA
      obtain ⟨c_VB_0, f_VB_0, c_VB_1, f_VB_1, l_VB⟩ := zfl2 VB
      go_wp2_with fail
      clear c_NB_0 f_NB_0 c_NB_1 f_NB_1 c_NB_2 f_NB_2 c_NB_3 f_NB_3 c_NB_4 f_NB_4 l_NB c_VA_0 f_VA_0 c_VA_1 f_VA_1 l_VA c_VB_0 f_VB_0 c_VB_1 f_VB_1 l_VB
      refine (MC.out _).mono ?_
      rintro e w77 ⟨⟨x1, x2, x3, x4, x5, x6, er, rfl, hm⟩, hb⟩
      replace NN := zh (Bgo NN.out hb)
      replace Z := zn hb Z
      replace OG7 := zn hb OG7
      replace NB := zn hb NB
      replace VA := zn hb VA
      replace VB := zn hb VB
      have HM := zh hm
      clear hb hm MC
      go_upto_region 20 with fail
      obtain ⟨HB, VM⟩ := zl (w := w77) (.cells #[.int .i64 x1, .int .i64 x2, .int .i64 x3, .int .i64 x4, .int .i64 x5, .int .i64 x6] 42)
      have LT_VM : Hid (w.heap.size < w77.heap.size ∧ g7 < w77.heap.size ∧ gN < w77.heap.size ∧ gA < w77.heap.size ∧ gB < w77.heap.size ∧ w.heap.size ≤ w77.heap.size) := zh ⟨blk_lt Z.out, blk_lt OG7.out, blk_lt NB.out, blk_lt VA.out, blk_lt VB.out, NN.out.size⟩
      replace NN := zh (Bgo NN.out HB.out)
      replace Z := zn HB Z
      replace OG7 := zn HB OG7
      replace NB := zn HB NB
      replace VA := zn HB VA
      replace VB := zn HB VB
      clear HB
      generalize (w77.alloc (.cells #[.int .i64 x1, .int .i64 x2, .int .i64 x3, .int .i64 x4, .int .i64 x5, .int .i64 x6] 42)) = W17 at *
      generalize w77.heap.size = gM at *
      clear OG7 VA VB
      rcases HM.out with ⟨he, hm⟩ | ⟨rfl, hm⟩
      ·have q9 : (er != 0) = true := by rw [bne_iff_ne]; exact he
       have R0 := zh (PS1.out.trans (hm N0 N1))
       clear PS1 HM hm he
       obtain ⟨c_Z_0, f_Z_0, c_Z_1, f_Z_1, c_Z_2, f_Z_2, c_Z_3, f_Z_3, c_Z_4, f_Z_4, c_Z_5, f_Z_5, c_Z_6, f_Z_6, c_Z_7, f_Z_7, l_Z⟩ := zfl8 Z
       go_wp2_with fail
       clear c_Z_0 f_Z_0 c_Z_1 f_Z_1 c_Z_2 f_Z_2 c_Z_3 f_Z_3 c_Z_4 f_Z_4 c_Z_5 f_Z_5 c_Z_6 f_Z_6 c_Z_7 f_Z_7 l_Z
       generalize hW : ((((((((W17.setCell ⟨w.heap.size, 0, none⟩ (.int .i64 0)).setCell ⟨w.heap.size, 1, none⟩ (.int .i64 0)).setCell ⟨w.heap.size, 2, none⟩ (.int .i64 0)).setCell ⟨w.heap.size, 3, none⟩ (.int .i64 0)).setCell ⟨w.heap.size, 4, none⟩ (.int .i64 0)).setCell ⟨w.heap.size, 5, none⟩ (.int .i64 0)).setCell ⟨w.heap.size, 6, none⟩ (.int .i64 0)).setCell ⟨w.heap.size, 7, none⟩ (.int .i64 0)) = W18 at *
       replace Z : Hid (W18.heap[w.heap.size]? = some (.cells #[.int .i64 0, .int .i64 0, .int .i64 0, .int .i64 0, .int .i64 0, .int .i64 0, .int .i64 0, .int .i64 0] 44)) := zs hW (blk_set (blk_set (blk_set (blk_set (blk_set (blk_set (blk_set (blk_set (Z.out) 0 (.int .i64 0)) 1 (.int .i64 0)) 2 (.int .i64 0)) 3 (.int .i64 0)) 4 (.int .i64 0)) 5 (.int .i64 0)) 6 (.int .i64 0)) 7 (.int .i64 0))
       replace NB : Hid (W18.heap[gN]? = some (.cells #[.int .i64 N0, .int .i64 N1, .int .i64 N2, .int .i64 N3, .int .i64 N4] 116)) := zs hW (blk_set_other (blk_set_other (blk_set_other (blk_set_other (blk_set_other (blk_set_other (blk_set_other (blk_set_other (NB.out) (by have := LT_NB.out; omega) 0 (.int .i64 0)) (by have := LT_NB.out; omega) 1 (.int .i64 0)) (by have := LT_NB.out; omega) 2 (.int .i64 0)) (by have := LT_NB.out; omega) 3 (.int .i64 0)) (by have := LT_NB.out; omega) 4 (.int .i64 0)) (by have := LT_NB.out; omega) 5 (.int .i64 0)) (by have := LT_NB.out; omega) 6 (.int .i64 0)) (by have := LT_NB.out; omega) 7 (.int .i64 0))
       replace VM : Hid (W18.heap[gM]? = some (.cells #[.int .i64 x1, .int .i64 x2, .int .i64 x3, .int .i64 x4, .int .i64 x5, .int .i64 x6] 42)) := zs hW (blk_set_other (blk_set_other (blk_set_other (blk_set_other (blk_set_other (blk_set_other (blk_set_other (blk_set_other (VM.out) (by have := LT_VM.out; omega) 0 (.int .i64 0)) (by have := LT_VM.out; omega) 1 (.int .i64 0)) (by have := LT_VM.out; omega) 2 (.int .i64 0)) (by have := LT_VM.out; omega) 3 (.int .i64 0)) (by have := LT_VM.out; omega) 4 (.int .i64 0)) (by have := LT_VM.out; omega) 5 (.int .i64 0)) (by have := LT_VM.out; omega) 6 (.int .i64 0)) (by have := LT_VM.out; omega) 7 (.int .i64 0))
       replace NN := zt hW (p := Below _ _) (Bset1 (Bset1 (Bset1 (Bset1 (Bset1 (Bset1 (Bset1 (Bset1 (NN.out) (by omega) 0 (.int .i64 0)) (by omega) 1 (.int .i64 0)) (by omega) 2 (.int .i64 0)) (by omega) 3 (.int .i64 0)) (by omega) 4 (.int .i64 0)) (by omega) 5 (.int .i64 0)) (by omega) 6 (.int .i64 0)) (by omega) 7 (.int .i64 0))
       clear hW
       obtain ⟨c_Z_0, c_Z_1, c_Z_2, c_Z_3, c_Z_4, c_Z_5, c_Z_6, c_Z_7, l_Z⟩ := zcl8 Z
       exact bodyPost_ret (v := .tuple #[.agg #[.int .i64 0, .int .i64 0, .int .i64 0, .int .i64 0, .int .i64 0, .int .i64 0, .int .i64 0, .int .i64 0], .bool false]) (by simp [results, Tryz.results34, go_sem, c_Z_0, c_Z_1, c_Z_2, c_Z_3, c_Z_4, c_Z_5, c_Z_6, c_Z_7]) rfl ⟨PLP.no R0.out, NN.out⟩
      ·have R0 := zh (PS1.out.trans (hm N0 N1))
       clear PS1 HM hm
       obtain ⟨c_Z_0, f_Z_0, c_Z_1, f_Z_1, c_Z_2, f_Z_2, c_Z_3, f_Z_3, c_Z_4, f_Z_4, c_Z_5, f_Z_5, c_Z_6, f_Z_6, c_Z_7, f_Z_7, l_Z⟩ := zfl8 Z
       obtain ⟨c_NB_0, f_NB_0, c_NB_1, f_NB_1, c_NB_2, f_NB_2, c_NB_3, f_NB_3, c_NB_4, f_NB_4, l_NB⟩ := zfl5 NB
       obtain ⟨c_VM_0, f_VM_0, c_VM_1, f_VM_1, c_VM_2, f_VM_2, c_VM_3, f_VM_3, c_VM_4, f_VM_4, c_VM_5, f_VM_5, l_VM⟩ := zfl6 VM
       go_wp2_with fail
       clear c_Z_0 f_Z_0 c_Z_1 f_Z_1 c_Z_2 f_Z_2 c_Z_3 f_Z_3 c_Z_4 f_Z_4 c_Z_5 f_Z_5 c_Z_6 f_Z_6 c_Z_7 f_Z_7 l_Z c_NB_0 f_NB_0 c_NB_1 f_NB_1 c_NB_2 f_NB_2 c_NB_3 f_NB_3 c_NB_4 f_NB_4 l_NB c_VM_0 f_VM_0 c_VM_1 f_VM_1 c_VM_2 f_VM_2 c_VM_3 f_VM_3 c_VM_4 f_VM_4 c_VM_5 f_VM_5 l_VM
       generalize hW : ((((((((W17.setCell ⟨w.heap.size, 0, none⟩ (.int .i64 N0)).setCell ⟨w.heap.size, 1, none⟩ (.int .i64 N1)).setCell ⟨w.heap.size, 2, none⟩ (.int .i64 x1)).setCell ⟨w.heap.size, 3, none⟩ (.int .i64 x2)).setCell ⟨w.heap.size, 4, none⟩ (.int .i64 x3)).setCell ⟨w.heap.size, 5, none⟩ (.int .i64 x4)).setCell ⟨w.heap.size, 6, none⟩ (.int .i64 x5)).setCell ⟨w.heap.size, 7, none⟩ (.int .i64 x6)) = W19 at *
       replace Z : Hid (W19.heap[w.heap.size]? = some (.cells #[.int .i64 N0, .int .i64 N1, .int .i64 x1, .int .i64 x2, .int .i64 x3, .int .i64 x4, .int .i64 x5, .int .i64 x6] 44)) := zs hW (blk_set (blk_set (blk_set (blk_set (blk_set (blk_set (blk_set (blk_set (Z.out) 0 (.int .i64 N0)) 1 (.int .i64 N1)) 2 (.int .i64 x1)) 3 (.int .i64 x2)) 4 (.int .i64 x3)) 5 (.int .i64 x4)) 6 (.int .i64 x5)) 7 (.int .i64 x6))
       replace NB : Hid (W19.heap[gN]? = some (.cells #[.int .i64 N0, .int .i64 N1, .int .i64 N2, .int .i64 N3, .int .i64 N4] 116)) := zs hW (blk_set_other (blk_set_other (blk_set_other (blk_set_other (blk_set_other (blk_set_other (blk_set_other (blk_set_other (NB.out) (by have := LT_NB.out; omega) 0 (.int .i64 N0)) (by have := LT_NB.out; omega) 1 (.int .i64 N1)) (by have := LT_NB.out; omega) 2 (.int .i64 x1)) (by have := LT_NB.out; omega) 3 (.int .i64 x2)) (by have := LT_NB.out; omega) 4 (.int .i64 x3)) (by have := LT_NB.out; omega) 5 (.int .i64 x4)) (by have := LT_NB.out; omega) 6 (.int .i64 x5)) (by have := LT_NB.out; omega) 7 (.int .i64 x6))
       replace VM : Hid (W19.heap[gM]? = some (.cells #[.int .i64 x1, .int .i64 x2, .int .i64 x3, .int .i64 x4, .int .i64 x5, .int .i64 x6] 42)) := zs hW (blk_set_other (blk_set_other (blk_set_other (blk_set_other (blk_set_other (blk_set_other (blk_set_other (blk_set_other (VM.out) (by have := LT_VM.out; omega) 0 (.int .i64 N0)) (by have := LT_VM.out; omega) 1 (.int .i64 N1)) (by have := LT_VM.out; omega) 2 (.int .i64 x1)) (by have := LT_VM.out; omega) 3 (.int .i64 x2)) (by have := LT_VM.out; omega) 4 (.int .i64 x3)) (by have := LT_VM.out; omega) 5 (.int .i64 x4)) (by have := LT_VM.out; omega) 6 (.int .i64 x5)) (by have := LT_VM.out; omega) 7 (.int .i64 x6))
       replace NN := zt hW (p := Below _ _) (Bset1 (Bset1 (Bset1 (Bset1 (Bset1 (Bset1 (Bset1 (Bset1 (NN.out) (by omega) 0 (.int .i64 N0)) (by omega) 1 (.int .i64 N1)) (by omega) 2 (.int .i64 x1)) (by omega) 3 (.int .i64 x2)) (by omega) 4 (.int .i64 x3)) (by omega) 5 (.int .i64 x4)) (by omega) 6 (.int .i64 x5)) (by omega) 7 (.int .i64 x6))
       clear hW
       obtain ⟨c_Z_0, c_Z_1, c_Z_2, c_Z_3, c_Z_4, c_Z_5, c_Z_6, c_Z_7, l_Z⟩ := zcl8 Z
       exact bodyPost_ret (v := .tuple #[.agg #[.int .i64 N0, .int .i64 N1, .int .i64 x1, .int .i64 x2, .int .i64 x3, .int .i64 x4, .int .i64 x5, .int .i64 x6], .bool true]) (by simp [results, Tryz.results34, go_sem, c_Z_0, c_Z_1, c_Z_2, c_Z_3, c_Z_4, c_Z_5, c_Z_6, c_Z_7]) rfl ⟨PLP.yes R0.out, NN.out⟩
     ·have q9 : (e2 != 0) = true := by rw [bne_iff_ne]; exact h2
      have R0 := zh (PS0.out.trans (if_neg (fun h => h2 h.2)))
      clear PS0 F4 F5 P4 P5 h2
      obtain ⟨c_Z_0, f_Z_0, c_Z_1, f_Z_1, c_Z_2, f_Z_2, c_Z_3, f_Z_3, c_Z_4, f_Z_4, c_Z_5, f_Z_5, c_Z_6, f_Z_6, c_Z_7, f_Z_7, l_Z⟩ := zfl8 Z
      go_wp2_with fail
      clear c_Z_0 f_Z_0 c_Z_1 f_Z_1 c_Z_2 f_Z_2 c_Z_3 f_Z_3 c_Z_4 f_Z_4 c_Z_5 f_Z_5 c_Z_6 f_Z_6 c_Z_7 f_Z_7 l_Z
      generalize hW : ((((((((W16.setCell ⟨w.heap.size, 0, none⟩ (.int .i64 0)).setCell ⟨w.heap.size, 1, none⟩ (.int .i64 0)).setCell ⟨w.heap.size, 2, none⟩ (.int .i64 0)).setCell ⟨w.heap.size, 3, none⟩ (.int .i64 0)).setCell ⟨w.heap.size, 4, none⟩ (.int .i64 0)).setCell ⟨w.heap.size, 5, none⟩ (.int .i64 0)).setCell ⟨w.heap.size, 6, none⟩ (.int .i64 0)).setCell ⟨w.heap.size, 7, none⟩ (.int .i64 0)) = W20 at *
      replace Z : Hid (W20.heap[w.heap.size]? = some (.cells #[.int .i64 0, .int .i64 0, .int .i64 0, .int .i64 0, .int .i64 0, .int .i64 0, .int .i64 0, .int .i64 0] 44)) := zs hW (blk_set (blk_set (blk_set (blk_set (blk_set (blk_set (blk_set (blk_set (Z.out) 0 (.int .i64 0)) 1 (.int .i64 0)) 2 (.int .i64 0)) 3 (.int .i64 0)) 4 (.int .i64 0)) 5 (.int .i64 0)) 6 (.int .i64 0)) 7 (.int .i64 0))
      replace OG7 : Hid (W20.heap[g7]? = some (.cells #[Str f0, Str f1, Str f2, Str f3, Str f4, Str f5, Str f6] 9)) := zs hW (blk_set_other (blk_set_other (blk_set_other (blk_set_other (blk_set_other (blk_set_other (blk_set_other (blk_set_other (OG7.out) (by have := LT_OG7.out; omega) 0 (.int .i64 0)) (by have := LT_OG7.out; omega) 1 (.int .i64 0)) (by have := LT_OG7.out; omega) 2 (.int .i64 0)) (by have := LT_OG7.out; omega) 3 (.int .i64 0)) (by have := LT_OG7.out; omega) 4 (.int .i64 0)) (by have := LT_OG7.out; omega) 5 (.int .i64 0)) (by have := LT_OG7.out; omega) 6 (.int .i64 0)) (by have := LT_OG7.out; omega) 7 (.int .i64 0))
      replace NB : Hid (W20.heap[gN]? = some (.cells #[.int .i64 N0, .int .i64 N1, .int .i64 N2, .int .i64 N3, .int .i64 N4] 116)) := zs hW (blk_set_other (blk_set_other (blk_set_other (blk_set_other (blk_set_other (blk_set_other (blk_set_other (blk_set_other (NB.out) (by have := LT_NB.out; omega) 0 (.int .i64 0)) (by have := LT_NB.out; omega) 1 (.int .i64 0)) (by have := LT_NB.out; omega) 2 (.int .i64 0)) (by have := LT_NB.out; omega) 3 (.int .i64 0)) (by have := LT_NB.out; omega) 4 (.int .i64 0)) (by have := LT_NB.out; omega) 5 (.int .i64 0)) (by have := LT_NB.out; omega) 6 (.int .i64 0)) (by have := LT_NB.out; omega) 7 (.int .i64 0))
      replace VA : Hid (W20.heap[gA]? = some (.cells #[.int .i64 n1, .int .i64 d1] 83)) := zs hW (blk_set_other (blk_set_other (blk_set_other (blk_set_other (blk_set_other (blk_set_other (blk_set_other (blk_set_other (VA.out) (by have := LT_VA.out; omega) 0 (.int .i64 0)) (by have := LT_VA.out; omega) 1 (.int .i64 0)) (by have := LT_VA.out; omega) 2 (.int .i64 0)) (by have := LT_VA.out; omega) 3 (.int .i64 0)) (by have := LT_VA.out; omega) 4 (.int .i64 0)) (by have := LT_VA.out; omega) 5 (.int .i64 0)) (by have := LT_VA.out; omega) 6 (.int .i64 0)) (by have := LT_VA.out; omega) 7 (.int .i64 0))
      replace VB : Hid (W20.heap[gB]? = some (.cells #[.int .i64 n2, .int .i64 d2] 83)) := zs hW (blk_set_other (blk_set_other (blk_set_other (blk_set_other (blk_set_other (blk_set_other (blk_set_other (blk_set_other (VB.out) (by have := LT_VB.out; omega) 0 (.int .i64 0)) (by have := LT_VB.out; omega) 1 (.int .i64 0)) (by have := LT_VB.out; omega) 2 (.int .i64 0)) (by have := LT_VB.out; omega) 3 (.int .i64 0)) (by have := LT_VB.out; omega) 4 (.int .i64 0)) (by have := LT_VB.out; omega) 5 (.int .i64 0)) (by have := LT_VB.out; omega) 6 (.int .i64 0)) (by have := LT_VB.out; omega) 7 (.int .i64 0))
      replace NN := zt hW (p := Below _ _) (Bset1 (Bset1 (Bset1 (Bset1 (Bset1 (Bset1 (Bset1 (Bset1 (NN.out) (by omega) 0 (.int .i64 0)) (by omega) 1 (.int .i64 0)) (by omega) 2 (.int .i64 0)) (by omega) 3 (.int .i64 0)) (by omega) 4 (.int .i64 0)) (by omega) 5 (.int .i64 0)) (by omega) 6 (.int .i64 0)) (by omega) 7 (.int .i64 0))
      clear hW
      obtain ⟨c_Z_0, c_Z_1, c_Z_2, c_Z_3, c_Z_4, c_Z_5, c_Z_6, c_Z_7, l_Z⟩ := zcl8 Z
      exact bodyPost_ret (v := .tuple #[.agg #[.int .i64 0, .int .i64 0, .int .i64 0, .int .i64 0, .int .i64 0, .int .i64 0, .int .i64 0, .int .i64 0], .bool false]) (by simp [results, Tryz.results34, go_sem, c_Z_0, c_Z_1, c_Z_2, c_Z_3, c_Z_4, c_Z_5, c_Z_6, c_Z_7]) rfl ⟨PLP.no R0.out, NN.out⟩
    ·have q9 : (e1 != 0) = true := by rw [bne_iff_ne]; exact h1
     have R0 := zh (PS0.out.trans (if_neg (fun h => h1 h.1)))
     clear PS0 F4 F5 P4 P5 h1
     obtain ⟨c_Z_0, f_Z_0, c_Z_1, f_Z_1, c_Z_2, f_Z_2, c_Z_3, f_Z_3, c_Z_4, f_Z_4, c_Z_5, f_Z_5, c_Z_6, f_Z_6, c_Z_7, f_Z_7, l_Z⟩ := zfl8 Z
     go_wp2_with fail
     clear c_Z_0 f_Z_0 c_Z_1 f_Z_1 c_Z_2 f_Z_2 c_Z_3 f_Z_3 c_Z_4 f_Z_4 c_Z_5 f_Z_5 c_Z_6 f_Z_6 c_Z_7 f_Z_7 l_Z
     generalize hW : ((((((((W14.setCell ⟨w.heap.size, 0, none⟩ (.int .i64 0)).setCell ⟨w.heap.size, 1, none⟩ (.int .i64 0)).setCell ⟨w.heap.size, 2, none⟩ (.int .i64 0)).setCell ⟨w.heap.size, 3, none⟩ (.int .i64 0)).setCell ⟨w.heap.size, 4, none⟩ (.int .i64 0)).setCell ⟨w.heap.size, 5, none⟩ (.int .i64 0)).setCell ⟨w.heap.size, 6, none⟩ (.int .i64 0)).setCell ⟨w.heap.size, 7, none⟩ (.int .i64 0)) = W21 at *
     replace Z : Hid (W21.heap[w.heap.size]? = some (.cells #[.int .i64 0, .int .i64 0, .int .i64 0, .int .i64 0, .int .i64 0, .int .i64 0, .int .i64 0, .int .i64 0] 44)) := zs hW (blk_set (blk_set (blk_set (blk_set (blk_set (blk_set (blk_set (blk_set (Z.out) 0 (.int .i64 0)) 1 (.int .i64 0)) 2 (.int .i64 0)) 3 (.int .i64 0)) 4 (.int .i64 0)) 5 (.int .i64 0)) 6 (.int .i64 0)) 7 (.int .i64 0))
     replace OG7 : Hid (W21.heap[g7]? = some (.cells #[Str f0, Str f1, Str f2, Str f3, Str f4, Str f5, Str f6] 9)) := zs hW (blk_set_other (blk_set_other (blk_set_other (blk_set_other (blk_set_other (blk_set_other (blk_set_other (blk_set_other (OG7.out) (by have := LT_OG7.out; omega) 0 (.int .i64 0)) (by have := LT_OG7.out; omega) 1 (.int .i64 0)) (by have := LT_OG7.out; omega) 2 (.int .i64 0)) (by have := LT_OG7.out; omega) 3 (.int .i64 0)) (by have := LT_OG7.out; omega) 4 (.int .i64 0)) (by have := LT_OG7.out; omega) 5 (.int .i64 0)) (by have := LT_OG7.out; omega) 6 (.int .i64 0)) (by have := LT_OG7.out; omega) 7 (.int .i64 0))
     replace NB : Hid (W21.heap[gN]? = some (.cells #[.int .i64 N0, .int .i64 N1, .int .i64 N2, .int .i64 N3, .int .i64 N4] 116)) := zs hW (blk_set_other (blk_set_other (blk_set_other (blk_set_other (blk_set_other (blk_set_other (blk_set_other (blk_set_other (NB.out) (by have := LT_NB.out; omega) 0 (.int .i64 0)) (by have := LT_NB.out; omega) 1 (.int .i64 0)) (by have := LT_NB.out; omega) 2 (.int .i64 0)) (by have := LT_NB.out; omega) 3 (.int .i64 0)) (by have := LT_NB.out; omega) 4 (.int .i64 0)) (by have := LT_NB.out; omega) 5 (.int .i64 0)) (by have := LT_NB.out; omega) 6 (.int .i64 0)) (by have := LT_NB.out; omega) 7 (.int .i64 0))
     replace VA : Hid (W21.heap[gA]? = some (.cells #[.int .i64 n1, .int .i64 d1] 83)) := zs hW (blk_set_other (blk_set_other (blk_set_other (blk_set_other (blk_set_other (blk_set_other (blk_set_other (blk_set_other (VA.out) (by have := LT_VA.out; omega) 0 (.int .i64 0)) (by have := LT_VA.out; omega) 1 (.int .i64 0)) (by have := LT_VA.out; omega) 2 (.int .i64 0)) (by have := LT_VA.out; omega) 3 (.int .i64 0)) (by have := LT_VA.out; omega) 4 (.int .i64 0)) (by have := LT_VA.out; omega) 5 (.int .i64 0)) (by have := LT_VA.out; omega) 6 (.int .i64 0)) (by have := LT_VA.out; omega) 7 (.int .i64 0))
     replace NN := zt hW (p := Below _ _) (Bset1 (Bset1 (Bset1 (Bset1 (Bset1 (Bset1 (Bset1 (Bset1 (NN.out) (by omega) 0 (.int .i64 0)) (by omega) 1 (.int .i64 0)) (by omega) 2 (.int .i64 0)) (by omega) 3 (.int .i64 0)) (by omega) 4 (.int .i64 0)) (by omega) 5 (.int .i64 0)) (by omega) 6 (.int .i64 0)) (by omega) 7 (.int .i64 0))
     clear hW
     obtain ⟨c_Z_0, c_Z_1, c_Z_2, c_Z_3, c_Z_4, c_Z_5, c_Z_6, c_Z_7, l_Z⟩ := zcl8 Z
     exact bodyPost_ret (v := .tuple #[.agg #[.int .i64 0, .int .i64 0, .int .i64 0, .int .i64 0, .int .i64 0, .int .i64 0, .int .i64 0, .int .i64 0], .bool false]) (by simp [results, Tryz.results34, go_sem, c_Z_0, c_Z_1, c_Z_2, c_Z_3, c_Z_4, c_Z_5, c_Z_6, c_Z_7]) rfl ⟨PLP.no R0.out, NN.out⟩
 ·clear OG7
  obtain ⟨n7, hn7⟩ : ∃ n, (wordsL 32 l).length = n := ⟨_, rfl⟩
  rw [hn7] at h7 ⊢
  have q7 : ((n7 : Int) != 7) = true := by rw [bne_iff_ne]; omega
  have R0 := zh (PN.out (by rw [hn7]; exact h7))
  clear PN WP hn7
  obtain ⟨c_Z_0, f_Z_0, c_Z_1, f_Z_1, c_Z_2, f_Z_2, c_Z_3, f_Z_3, c_Z_4, f_Z_4, c_Z_5, f_Z_5, c_Z_6, f_Z_6, c_Z_7, f_Z_7, l_Z⟩ := zfl8 Z
  go_wp2_with fail
  clear c_Z_0 f_Z_0 c_Z_1 f_Z_1 c_Z_2 f_Z_2 c_Z_3 f_Z_3 c_Z_4 f_Z_4 c_Z_5 f_Z_5 c_Z_6 f_Z_6 c_Z_7 f_Z_7 l_Z
  generalize hW : ((((((((WS.setCell ⟨w.heap.size, 0, none⟩ (.int .i64 0)).setCell ⟨w.heap.size, 1, none⟩ (.int .i64 0)).setCell ⟨w.heap.size, 2, none⟩ (.int .i64 0)).setCell ⟨w.heap.size, 3, none⟩ (.int .i64 0)).setCell ⟨w.heap.size, 4, none⟩ (.int .i64 0)).setCell ⟨w.heap.size, 5, none⟩ (.int .i64 0)).setCell ⟨w.heap.size, 6, none⟩ (.int .i64 0)).setCell ⟨w.heap.size, 7, none⟩ (.int .i64 0)) = W22 at *
  replace Z : Hid (W22.heap[w.heap.size]? = some (.cells #[.int .i64 0, .int .i64 0, .int .i64 0, .int .i64 0, .int .i64 0, .int .i64 0, .int .i64 0, .int .i64 0] 44)) := zs hW (blk_set (blk_set (blk_set (blk_set (blk_set (blk_set (blk_set (blk_set (Z.out) 0 (.int .i64 0)) 1 (.int .i64 0)) 2 (.int .i64 0)) 3 (.int .i64 0)) 4 (.int .i64 0)) 5 (.int .i64 0)) 6 (.int .i64 0)) 7 (.int .i64 0))
  replace NN := zt hW (p := Below _ _) (Bset1 (Bset1 (Bset1 (Bset1 (Bset1 (Bset1 (Bset1 (Bset1 (NN.out) (by omega) 0 (.int .i64 0)) (by omega) 1 (.int .i64 0)) (by omega) 2 (.int .i64 0)) (by omega) 3 (.int .i64 0)) (by omega) 4 (.int .i64 0)) (by omega) 5 (.int .i64 0)) (by omega) 6 (.int .i64 0)) (by omega) 7 (.int .i64 0))
  clear hW
  obtain ⟨c_Z_0, c_Z_1, c_Z_2, c_Z_3, c_Z_4, c_Z_5, c_Z_6, c_Z_7, l_Z⟩ := zcl8 Z
  exact bodyPost_ret (v := .tuple #[.agg #[.int .i64 0, .int .i64 0, .int .i64 0, .int .i64 0, .int .i64 0, .int .i64 0, .int .i64 0, .int .i64 0], .bool false]) (by simp [results, Tryz.results34, go_sem, c_Z_0, c_Z_1, c_Z_2, c_Z_3, c_Z_4, c_Z_5, c_Z_6, c_Z_7]) rfl ⟨PLP.no R0.out, NN.out⟩
end Go.Proofs.YtbbnkclajpaghaaGreatDoor
