/- Several texts in one. -/
import Derived.Test.YtfangplfbbgphaaGreatDoorMN06
import Derived.Test.YtfangplfbbgphaaGreatDoorMN15
namespace Go.Proofs.YtfangplfbbgphaaGreatDoor
open Go.ChangeShapes Go.WideShapes Go.ChangeAt Go.RowKit
set_option linter.unusedVariables false
set_option linter.unusedSimpArgs false
attribute [local go_sem ↓] Go.wp_at_zero Go.wp_at_succ
theorem cutG_calls (l : List UInt8) (c : UInt8) (w : World) (hs : l.length ≤ 100000) (g : GL w) :
  Calls Tryz.prog 56 #[Str l, .string ⟨#[c]⟩] w fun e w' => e = .returned (.tuple #[Str (Lib.cut l [c]).1, Str (Lib.cut l [c]).2.1, .bool (Lib.cut l [c]).2.2]) ∧ Below w.heap.size w w' := by
 obtain ⟨m, hm⟩ := g.max
 have h1 := (Tryz.strings_Cut ⟨l.toArray⟩ ⟨#[c]⟩ m w (by have := s_len ⟨l.toArray⟩; simp at this; omega) hm)
 exact h1.mono fun e w' ⟨h, k, hw⟩ => ⟨h, by rw [hw]; exact below_drewN (Below.refl _ _) k⟩
theorem fparse_calls (l : List UInt8) (w : World) (g : GL w) : Calls Tryz.prog 83 #[Str l] w fun e w' => e = .returned (Rv (prC l)) ∧ Below w.heap.size w w' := by
 have h1 := parseP_calls ⟨l.toArray⟩ w g
 refine h1.mono ?_
 rintro e w' ⟨r, rfl, hr, hb⟩
 have h2 := hr.eq
 rw [show (⟨l.toArray⟩ : ByteArray).data.toList = l by simp] at h2
 rw [h2]
 exact ⟨rfl, hb⟩
theorem sclone_calls (s : ByteArray) (w : World) (hs : s.size ≤ 100000) : Calls Tryz.prog 84 #[.string s] w fun e w' => e = .returned (.string s) ∧ Below w.heap.size w w' := by
 have C := fun W => Tryz.stringslite_Clone s W (by omega)
 go_enter Tryz.func84, Tryz.ntmps84
 go_wp2_with fail
 refine (C _).mono ?_
 rintro e w' ⟨rfl, hb⟩
 go_wp2_with fail
 go_ret
 exact ⟨rfl, hb⟩
theorem lineS_eq (l : List UInt8) : lineS l = if (prC (Lib.cut (Lib.cut l [32]).2.1 [32]).1).2.2 = 0 ∧ (prC (Lib.cut (Lib.cut l [32]).2.1 [32]).2.1).2.2 = 0 then
  if valS ⟨⟨(Lib.cut l [32]).1.toArray⟩, (prC (Lib.cut (Lib.cut l [32]).2.1 [32]).1).1, (prC (Lib.cut (Lib.cut l [32]).2.1 [32]).1).2.1, (prC (Lib.cut (Lib.cut l [32]).2.1 [32]).2.1).1, (prC (Lib.cut (Lib.cut l [32]).2.1 [32]).2.1).2.1⟩ then some ⟨⟨(Lib.cut l [32]).1.toArray⟩, (prC (Lib.cut (Lib.cut l [32]).2.1 [32]).1).1, (prC (Lib.cut (Lib.cut l [32]).2.1 [32]).1).2.1, (prC (Lib.cut (Lib.cut l [32]).2.1 [32]).2.1).1, (prC (Lib.cut (Lib.cut l [32]).2.1 [32]).2.1).2.1⟩ else none
 else none := rfl
theorem ret_site {x : St} {b b' : Bool} (h : b = b') : Ending.returned (.tuple #[Sv x, .bool b]) = .returned (.tuple #[Sv x, .bool b']) := by rw [h]
set_option maxRecDepth 100000 in
set_option maxHeartbeats 8000000 in
theorem aparse_calls (l : List UInt8) (w : World) (g : GL w) (hs : l.length ≤ 100000) : Calls Tryz.prog 57 #[Str l] w fun e w' => ∃ x : St, e = .returned (.tuple #[Sv x, .bool (lineS l).isSome]) ∧ (∀ s, lineS l = some s → x = s) ∧ Below w.heap.size w w' := by
 have NN := Lib.hid (Below.refl w.heap.size w)
 have GG := Lib.hid g
 clear g
 have C1 := Lib.hid (fun W (h : GL W) => cutG_calls l 32 W hs h)
 have LS := Lib.hid (lineS_eq l)
 have L1 := (cut1_len l 32)
 obtain ⟨⟨nm, rs, f1⟩, hc⟩ : ∃ r, Lib.cut l [32] = r := ⟨_, rfl⟩
 rw [hc] at C1 LS L1
 simp only at C1 LS L1
 clear hc
 have C2 := Lib.hid (fun W (h : GL W) => cutG_calls rs 32 W (Nat.le_trans L1.2.1 hs) h)
 have NS : Hid ((⟨nm.toArray⟩ : ByteArray).size ≤ 100000) := Lib.hid (by have := s_len ⟨nm.toArray⟩; simp at this; omega)
 obtain ⟨⟨xs, ys, f2⟩, hc⟩ : ∃ r, Lib.cut rs [32] = r := ⟨_, rfl⟩
 rw [hc] at C2 LS
 simp only at C2 LS
 clear hc L1 hs
 have P1 := Lib.hid (fun W (h : GL W) => fparse_calls xs W h)
 have P2 := Lib.hid (fun W (h : GL W) => fparse_calls ys W h)
 have E1 := Lib.hid (prC_err xs)
 have E2 := Lib.hid (prC_err ys)
 have SC := Lib.hid (fun W => sclone_calls ⟨nm.toArray⟩ W NS.out)
 generalize prC xs = px at *
 generalize prC ys = py at *
 generalize lineS l = R at *
 obtain ⟨x1, x2, x3⟩ := px
 obtain ⟨y1, y2, y3⟩ := py
 have E3 := E1.out
 have E4 := E2.out
 clear E1 E2
 simp only [Prod.mk.injEq] at E3 E4 LS
 rcases E3 with e3 | ⟨rfl, rfl, rfl⟩
 rotate_left
 ·replace LS : Hid (R = none) := Lib.hid (by rw [LS.out, if_neg (fun h => absurd h.1 (by decide))])
  clear E4
  go_enter Tryz.func57, Tryz.ntmps57
  go_wp2_with fail
  have S5 : Hid ((w.alloc (.cells #[.string ⟨#[]⟩, .int .i64 0, .int .i64 0, .int .i64 0, .int .i64 0] 69)).heap[w.heap.size]? = some (.cells #[.string ⟨#[]⟩, .int .i64 0, .int .i64 0, .int .i64 0, .int .i64 0] 69)) := Lib.hid (blk_new w _)
  replace NN : Hid (Below w.heap.size w (w.alloc (.cells #[.string ⟨#[]⟩, .int .i64 0, .int .i64 0, .int .i64 0, .int .i64 0] 69))) := Lib.hid (Bal NN.out _)
  generalize (w.alloc (.cells #[.string ⟨#[]⟩, .int .i64 0, .int .i64 0, .int .i64 0, .int .i64 0] 69)) = W1 at *
  refine (C1.out _ (GG.out.next NN.out)).mono ?_
  rintro e w2 ⟨rfl, hb⟩
  replace NN := Lib.hid (Bgo NN.out hb)
  replace S5 := Lib.hid (blk_next hb S5.out)
  clear hb
  go_wp2_with fail
  refine (C2.out _ (GG.out.next NN.out)).mono ?_
  rintro e w3 ⟨rfl, hb⟩
  replace NN := Lib.hid (Bgo NN.out hb)
  replace S5 := Lib.hid (blk_next hb S5.out)
  clear hb
  go_wp2_with fail
  refine (P1.out _ (GG.out.next NN.out)).mono ?_
  rintro e w4 ⟨rfl, hb⟩
  replace NN := Lib.hid (Bgo NN.out hb)
  replace S5 := Lib.hid (blk_next hb S5.out)
  clear hb
  have HB := Lib.hid (show Below w4.heap.size w4 (w4.alloc (.cells #[.int .i64 0, .int .i64 0] 36)) from (Bal (Below.refl _ _) _))
  have X2 : Hid ((w4.alloc (.cells #[.int .i64 0, .int .i64 0] 36)).heap[w4.heap.size]? = some (.cells #[.int .i64 0, .int .i64 0] 36)) := Lib.hid (blk_new w4 _)
  have LT_X2 : Hid (w.heap.size < w4.heap.size ∧ w.heap.size ≤ w4.heap.size) := Lib.hid ⟨blk_lt S5.out, NN.out.size⟩
  replace NN := Lib.hid (Bgo NN.out HB.out)
  replace S5 := Lib.hid (blk_next HB.out S5.out)
  clear HB
  have c_S5_0 := blk_cell S5.out 0 _ rfl
  have f_S5_0 := blk_frozen S5.out 0
  have c_S5_1 := blk_cell S5.out 1 _ rfl
  have f_S5_1 := blk_frozen S5.out 1
  have c_S5_2 := blk_cell S5.out 2 _ rfl
  have f_S5_2 := blk_frozen S5.out 2
  have c_S5_3 := blk_cell S5.out 3 _ rfl
  have f_S5_3 := blk_frozen S5.out 3
  have c_S5_4 := blk_cell S5.out 4 _ rfl
  have f_S5_4 := blk_frozen S5.out 4
  have l_S5 := blk_lt S5.out
  go_wp2_with fail
  clear c_S5_0 f_S5_0 c_S5_1 f_S5_1 c_S5_2 f_S5_2 c_S5_3 f_S5_3 c_S5_4 f_S5_4 l_S5
  generalize (w4.alloc (.cells #[.int .i64 0, .int .i64 0] 36)) = W5 at *
  generalize w4.heap.size = gX at *
  have e0 := blk_cell (blk_set (blk_set (blk_set (blk_set (blk_set (S5.out) 0 (.string ⟨#[]⟩)) 1 (.int .i64 0)) 2 (.int .i64 0)) 3 (.int .i64 0)) 4 (.int .i64 0)) 0 _ rfl
  have e1 := blk_cell (blk_set (blk_set (blk_set (blk_set (blk_set (S5.out) 0 (.string ⟨#[]⟩)) 1 (.int .i64 0)) 2 (.int .i64 0)) 3 (.int .i64 0)) 4 (.int .i64 0)) 1 _ rfl
  have e2 := blk_cell (blk_set (blk_set (blk_set (blk_set (blk_set (S5.out) 0 (.string ⟨#[]⟩)) 1 (.int .i64 0)) 2 (.int .i64 0)) 3 (.int .i64 0)) 4 (.int .i64 0)) 2 _ rfl
  have e3 := blk_cell (blk_set (blk_set (blk_set (blk_set (blk_set (S5.out) 0 (.string ⟨#[]⟩)) 1 (.int .i64 0)) 2 (.int .i64 0)) 3 (.int .i64 0)) 4 (.int .i64 0)) 3 _ rfl
  have e4 := blk_cell (blk_set (blk_set (blk_set (blk_set (blk_set (S5.out) 0 (.string ⟨#[]⟩)) 1 (.int .i64 0)) 2 (.int .i64 0)) 3 (.int .i64 0)) 4 (.int .i64 0)) 4 _ rfl
  exact bodyPost_ret (v := (.tuple #[Sv ⟨⟨#[]⟩, 0, 0, 0, 0⟩, .bool false])) (by simp [results, Tryz.results57, go_sem, e0, e1, e2, e3, e4]) rfl ⟨⟨⟨#[]⟩, 0, 0, 0, 0⟩, ret_site (by rw [LS.out]; rfl), fun s h => (by rw [LS.out] at h; cases h), Bset1 (Bset1 (Bset1 (Bset1 (Bset1 (NN.out) (by omega) _ _) (by omega) _ _) (by omega) _ _) (by omega) _ _) (by omega) _ _⟩
 subst e3
 rcases E4 with e4 | ⟨rfl, rfl, rfl⟩
 rotate_left
 ·replace LS : Hid (R = none) := Lib.hid (by rw [LS.out, if_neg (fun h => absurd h.2 (by decide))])
  go_enter Tryz.func57, Tryz.ntmps57
  go_wp2_with fail
  have S5 : Hid ((w.alloc (.cells #[.string ⟨#[]⟩, .int .i64 0, .int .i64 0, .int .i64 0, .int .i64 0] 69)).heap[w.heap.size]? = some (.cells #[.string ⟨#[]⟩, .int .i64 0, .int .i64 0, .int .i64 0, .int .i64 0] 69)) := Lib.hid (blk_new w _)
  replace NN : Hid (Below w.heap.size w (w.alloc (.cells #[.string ⟨#[]⟩, .int .i64 0, .int .i64 0, .int .i64 0, .int .i64 0] 69))) := Lib.hid (Bal NN.out _)
  generalize (w.alloc (.cells #[.string ⟨#[]⟩, .int .i64 0, .int .i64 0, .int .i64 0, .int .i64 0] 69)) = W6 at *
  refine (C1.out _ (GG.out.next NN.out)).mono ?_
  rintro e w7 ⟨rfl, hb⟩
  replace NN := Lib.hid (Bgo NN.out hb)
  replace S5 := Lib.hid (blk_next hb S5.out)
  clear hb
  go_wp2_with fail
  refine (C2.out _ (GG.out.next NN.out)).mono ?_
  rintro e w8 ⟨rfl, hb⟩
  replace NN := Lib.hid (Bgo NN.out hb)
  replace S5 := Lib.hid (blk_next hb S5.out)
  clear hb
  go_wp2_with fail
  refine (P1.out _ (GG.out.next NN.out)).mono ?_
  rintro e w9 ⟨rfl, hb⟩
  replace NN := Lib.hid (Bgo NN.out hb)
  replace S5 := Lib.hid (blk_next hb S5.out)
  clear hb
  have HB := Lib.hid (show Below w9.heap.size w9 (w9.alloc (.cells #[.int .i64 x1, .int .i64 x2] 36)) from (Bal (Below.refl _ _) _))
  have X2 : Hid ((w9.alloc (.cells #[.int .i64 x1, .int .i64 x2] 36)).heap[w9.heap.size]? = some (.cells #[.int .i64 x1, .int .i64 x2] 36)) := Lib.hid (blk_new w9 _)
  have LT_X2 : Hid (w.heap.size < w9.heap.size ∧ w.heap.size ≤ w9.heap.size) := Lib.hid ⟨blk_lt S5.out, NN.out.size⟩
  replace NN := Lib.hid (Bgo NN.out HB.out)
  replace S5 := Lib.hid (blk_next HB.out S5.out)
  clear HB
  go_wp2_with fail
  generalize (w9.alloc (.cells #[.int .i64 x1, .int .i64 x2] 36)) = W10 at *
  generalize w9.heap.size = gX at *
  refine (P2.out _ (GG.out.next NN.out)).mono ?_
  rintro e w11 ⟨rfl, hb⟩
  replace NN := Lib.hid (Bgo NN.out hb)
  replace S5 := Lib.hid (blk_next hb S5.out)
  replace X2 := Lib.hid (blk_next hb X2.out)
  clear hb
  have HB := Lib.hid (show Below w11.heap.size w11 (w11.alloc (.cells #[.int .i64 0, .int .i64 0] 36)) from (Bal (Below.refl _ _) _))
  have Y2 : Hid ((w11.alloc (.cells #[.int .i64 0, .int .i64 0] 36)).heap[w11.heap.size]? = some (.cells #[.int .i64 0, .int .i64 0] 36)) := Lib.hid (blk_new w11 _)
  have LT_Y2 : Hid (w.heap.size < w11.heap.size ∧ gX < w11.heap.size ∧ w.heap.size ≤ w11.heap.size) := Lib.hid ⟨blk_lt S5.out, blk_lt X2.out, NN.out.size⟩
  replace NN := Lib.hid (Bgo NN.out HB.out)
  replace S5 := Lib.hid (blk_next HB.out S5.out)
  replace X2 := Lib.hid (blk_next HB.out X2.out)
  clear HB
  have c_S5_0 := blk_cell S5.out 0 _ rfl
  have f_S5_0 := blk_frozen S5.out 0
  have c_S5_1 := blk_cell S5.out 1 _ rfl
  have f_S5_1 := blk_frozen S5.out 1
  have c_S5_2 := blk_cell S5.out 2 _ rfl
  have f_S5_2 := blk_frozen S5.out 2
  have c_S5_3 := blk_cell S5.out 3 _ rfl
  have f_S5_3 := blk_frozen S5.out 3
  have c_S5_4 := blk_cell S5.out 4 _ rfl
  have f_S5_4 := blk_frozen S5.out 4
  have l_S5 := blk_lt S5.out
  go_wp2_with fail
  clear c_S5_0 f_S5_0 c_S5_1 f_S5_1 c_S5_2 f_S5_2 c_S5_3 f_S5_3 c_S5_4 f_S5_4 l_S5
  generalize (w11.alloc (.cells #[.int .i64 0, .int .i64 0] 36)) = W12 at *
  generalize w11.heap.size = gY at *
  have e0 := blk_cell (blk_set (blk_set (blk_set (blk_set (blk_set (S5.out) 0 (.string ⟨#[]⟩)) 1 (.int .i64 0)) 2 (.int .i64 0)) 3 (.int .i64 0)) 4 (.int .i64 0)) 0 _ rfl
  have e1 := blk_cell (blk_set (blk_set (blk_set (blk_set (blk_set (S5.out) 0 (.string ⟨#[]⟩)) 1 (.int .i64 0)) 2 (.int .i64 0)) 3 (.int .i64 0)) 4 (.int .i64 0)) 1 _ rfl
  have e2 := blk_cell (blk_set (blk_set (blk_set (blk_set (blk_set (S5.out) 0 (.string ⟨#[]⟩)) 1 (.int .i64 0)) 2 (.int .i64 0)) 3 (.int .i64 0)) 4 (.int .i64 0)) 2 _ rfl
  have e3 := blk_cell (blk_set (blk_set (blk_set (blk_set (blk_set (S5.out) 0 (.string ⟨#[]⟩)) 1 (.int .i64 0)) 2 (.int .i64 0)) 3 (.int .i64 0)) 4 (.int .i64 0)) 3 _ rfl
  have e4 := blk_cell (blk_set (blk_set (blk_set (blk_set (blk_set (S5.out) 0 (.string ⟨#[]⟩)) 1 (.int .i64 0)) 2 (.int .i64 0)) 3 (.int .i64 0)) 4 (.int .i64 0)) 4 _ rfl
  exact bodyPost_ret (v := (.tuple #[Sv ⟨⟨#[]⟩, 0, 0, 0, 0⟩, .bool false])) (by simp [results, Tryz.results57, go_sem, e0, e1, e2, e3, e4]) rfl ⟨⟨⟨#[]⟩, 0, 0, 0, 0⟩, ret_site (by rw [LS.out]; rfl), fun s h => (by rw [LS.out] at h; cases h), Bset1 (Bset1 (Bset1 (Bset1 (Bset1 (NN.out) (by omega) _ _) (by omega) _ _) (by omega) _ _) (by omega) _ _) (by omega) _ _⟩
 subst e4
 replace LS := Lib.hid (LS.out.trans (if_pos ⟨rfl, rfl⟩))
 obtain ⟨st, hst⟩ : ∃ st : St, st = ⟨⟨nm.toArray⟩, x1, x2, y1, y2⟩ := ⟨_, rfl⟩
 have VC := Lib.hid (fun W => valid_calls ⟨⟨nm.toArray⟩, x1, x2, y1, y2⟩ W (by have := NS.out; show (⟨nm.toArray⟩ : ByteArray).size ≤ _; omega))
 go_enter Tryz.func57, Tryz.ntmps57
 go_wp2_with fail
 have S5 : Hid ((w.alloc (.cells #[.string ⟨#[]⟩, .int .i64 0, .int .i64 0, .int .i64 0, .int .i64 0] 69)).heap[w.heap.size]? = some (.cells #[.string ⟨#[]⟩, .int .i64 0, .int .i64 0, .int .i64 0, .int .i64 0] 69)) := Lib.hid (blk_new w _)
 replace NN : Hid (Below w.heap.size w (w.alloc (.cells #[.string ⟨#[]⟩, .int .i64 0, .int .i64 0, .int .i64 0, .int .i64 0] 69))) := Lib.hid (Bal NN.out _)
 generalize (w.alloc (.cells #[.string ⟨#[]⟩, .int .i64 0, .int .i64 0, .int .i64 0, .int .i64 0] 69)) = W13 at *
 refine (C1.out _ (GG.out.next NN.out)).mono ?_
 rintro e w14 ⟨rfl, hb⟩
 replace NN := Lib.hid (Bgo NN.out hb)
 replace S5 := Lib.hid (blk_next hb S5.out)
 clear hb
 go_wp2_with fail
 refine (C2.out _ (GG.out.next NN.out)).mono ?_
 rintro e w15 ⟨rfl, hb⟩
 replace NN := Lib.hid (Bgo NN.out hb)
 replace S5 := Lib.hid (blk_next hb S5.out)
 clear hb
 go_wp2_with fail
 refine (P1.out _ (GG.out.next NN.out)).mono ?_
 rintro e w16 ⟨rfl, hb⟩
 replace NN := Lib.hid (Bgo NN.out hb)
 replace S5 := Lib.hid (blk_next hb S5.out)
 clear hb
 have HB := Lib.hid (show Below w16.heap.size w16 (w16.alloc (.cells #[.int .i64 x1, .int .i64 x2] 36)) from (Bal (Below.refl _ _) _))
 have X2 : Hid ((w16.alloc (.cells #[.int .i64 x1, .int .i64 x2] 36)).heap[w16.heap.size]? = some (.cells #[.int .i64 x1, .int .i64 x2] 36)) := Lib.hid (blk_new w16 _)
 have LT_X2 : Hid (w.heap.size < w16.heap.size ∧ w.heap.size ≤ w16.heap.size) := Lib.hid ⟨blk_lt S5.out, NN.out.size⟩
 replace NN := Lib.hid (Bgo NN.out HB.out)
 replace S5 := Lib.hid (blk_next HB.out S5.out)
 clear HB
 go_wp2_with fail
 generalize (w16.alloc (.cells #[.int .i64 x1, .int .i64 x2] 36)) = W17 at *
 generalize w16.heap.size = gX at *
 refine (P2.out _ (GG.out.next NN.out)).mono ?_
 rintro e w18 ⟨rfl, hb⟩
 replace NN := Lib.hid (Bgo NN.out hb)
 replace S5 := Lib.hid (blk_next hb S5.out)
 replace X2 := Lib.hid (blk_next hb X2.out)
 clear hb
 have HB := Lib.hid (show Below w18.heap.size w18 (w18.alloc (.cells #[.int .i64 y1, .int .i64 y2] 36)) from (Bal (Below.refl _ _) _))
 have Y2 : Hid ((w18.alloc (.cells #[.int .i64 y1, .int .i64 y2] 36)).heap[w18.heap.size]? = some (.cells #[.int .i64 y1, .int .i64 y2] 36)) := Lib.hid (blk_new w18 _)
 have LT_Y2 : Hid (w.heap.size < w18.heap.size ∧ gX < w18.heap.size ∧ w.heap.size ≤ w18.heap.size) := Lib.hid ⟨blk_lt S5.out, blk_lt X2.out, NN.out.size⟩
 replace NN := Lib.hid (Bgo NN.out HB.out)
 replace S5 := Lib.hid (blk_next HB.out S5.out)
 replace X2 := Lib.hid (blk_next HB.out X2.out)
 clear HB
 go_upto_region 9 with fail
 generalize (w18.alloc (.cells #[.int .i64 y1, .int .i64 y2] 36)) = W19 at *
 generalize w18.heap.size = gY at *
 have HDRW := Lib.hid (Below.drew (Below.refl W19.heap.size W19))
 replace NN := Lib.hid (Bgo NN.out HDRW.out)
 replace S5 := Lib.hid (blk_next HDRW.out S5.out)
 replace X2 := Lib.hid (blk_next HDRW.out X2.out)
 replace Y2 := Lib.hid (blk_next HDRW.out Y2.out)
 clear HDRW
 have HAL : Hid (∀ kx9 : Nat, GK [(2, gX, .cells #[.int .i64 x1, .int .i64 x2] 36), (3, gY, .cells #[.int .i64 y1, .int .i64 y2] 36)] kx9 W19.drew) := Lib.hid (fun kx9 => fun px9 hp e => by
  simp only [List.mem_cons, List.not_mem_nil, or_false] at hp
  rcases hp with rfl | rfl
  ·exact X2.out
  ·exact Y2.out
 )
 refine region_G (S := GK [(2, gX, .cells #[.int .i64 x1, .int .i64 x2] 36), (3, gY, .cells #[.int .i64 y1, .int .i64 y2] 36)]) (by kernel_rfl) ?_
 refine tG 0 (.string ⟨nm.toArray⟩) (some 42) (GK.grow _) rfl (YieldsIf.toG (Or.inl ⟨by rfl, ?_⟩)) (GK.drop (by simp)) ?_
 ·intro X hX
  clear hX
  go_simp
 try simp only [Act.put, zA, zB, zC]
 have CFn : ∀ (args : Array Value) (W : World), Sem.run Tryz.prog (callFunc 84 args) W = .ok (.enter 84 args) W := fun _ _ => by kernel_rfl
 refine tG 1 (.string ⟨nm.toArray⟩) (some 43) (GK.grow _) rfl (yieldsG_call 84 #[.string ⟨nm.toArray⟩] (by rfl) ?_ (fun X hS => SC.out X)) (GK.drop (by simp)) ?_
 ·intro X hX
  clear hX
  go_simp
 clear CFn
 try simp only [Act.put, zA, zB, zC]
 refine tG 2 (.agg #[.int .i64 x1, .int .i64 x2]) (some 44) (GK.grow _) rfl (YieldsIf.toG (Or.inl ⟨by rfl, ?_⟩)) (HAL.out 2) ?_
 ·intro X hX
  have hh := hX (2, gX, .cells #[.int .i64 x1, .int .i64 x2] 36) (List.Mem.head _) rfl
  have hh0 := blk_cell hh 0 _ rfl
  have hh1 := blk_cell hh 1 _ rfl
  have hhl := blk_lt hh
  clear hh
  clear hX
  go_simp
 try simp only [Act.put, zA, zB, zC]
 refine tG 3 (.agg #[.int .i64 y1, .int .i64 y2]) (some 45) (GK.grow _) rfl (YieldsIf.toG (Or.inl ⟨by rfl, ?_⟩)) (HAL.out 3) ?_
 ·intro X hX
  have hh := hX (3, gY, .cells #[.int .i64 y1, .int .i64 y2] 36) (List.Mem.tail _ (List.Mem.head _)) rfl
  have hh0 := blk_cell hh 0 _ rfl
  have hh1 := blk_cell hh 1 _ rfl
  have hhl := blk_lt hh
  clear hh
  clear hX
  go_simp
 try simp only [Act.put, zA, zB, zC]
 refine tG 4 (.agg #[.string ⟨nm.toArray⟩, .int .i64 x1, .int .i64 x2, .int .i64 y1, .int .i64 y2]) (some 46) (GK.grow _) rfl (YieldsIf.toG (Or.inl ⟨by rfl, ?_⟩)) (GK.drop (by simp)) ?_
 ·intro X hX
  clear hX
  go_simp
 try simp only [Act.put, zA, zB, zC]
 refine only_G 5 (by kernel_rfl) rfl (fun X20 hX K' hK' => ?_)
 replace NN := Lib.hid (Bgo NN.out hX)
 replace S5 := Lib.hid (blk_next hX S5.out)
 replace X2 := Lib.hid (blk_next hX X2.out)
 replace Y2 := Lib.hid (blk_next hX Y2.out)
 replace HAL := Lib.hid (fun kx9 => GK.grow _ _ _ _ (HAL.out kx9) hX)
 clear hX
 go_simp
 refine hK'.out _ _ (fun _ _ h => h.alloc _) ?_
 clear hK' K'
 try simp only [Act.put, zA, zB, zC]
 have HB := Lib.hid (Bal (Below.refl X20.heap.size X20) (.cells #[.string ⟨#[]⟩, .int .i64 0, .int .i64 0, .int .i64 0, .int .i64 0] 69))
 have T5 : Hid ((X20.alloc (.cells #[.string ⟨#[]⟩, .int .i64 0, .int .i64 0, .int .i64 0, .int .i64 0] 69)).heap[X20.heap.size]? = some (.cells #[.string ⟨#[]⟩, .int .i64 0, .int .i64 0, .int .i64 0, .int .i64 0] 69)) := Lib.hid (blk_new X20 (.cells #[.string ⟨#[]⟩, .int .i64 0, .int .i64 0, .int .i64 0, .int .i64 0] 69))
 have LT_T5 : Hid (w.heap.size < X20.heap.size ∧ gX < X20.heap.size ∧ gY < X20.heap.size ∧ w.heap.size ≤ X20.heap.size) := Lib.hid ⟨blk_lt S5.out, blk_lt X2.out, blk_lt Y2.out, NN.out.size⟩
 replace NN := Lib.hid (Bgo NN.out HB.out)
 replace S5 := Lib.hid (blk_next HB.out S5.out)
 replace X2 := Lib.hid (blk_next HB.out X2.out)
 replace Y2 := Lib.hid (blk_next HB.out Y2.out)
 replace HAL := Lib.hid (fun kx9 => GK.grow _ _ _ _ (HAL.out kx9) HB.out)
 clear HB
 generalize X20.alloc (.cells #[.string ⟨#[]⟩, .int .i64 0, .int .i64 0, .int .i64 0, .int .i64 0] 69) = W21 at *
 generalize X20.heap.size = gT5 at *
 refine only_G 6 (by kernel_rfl) rfl (fun X22 hX K' hK' => ?_)
 replace NN := Lib.hid (Bgo NN.out hX)
 replace S5 := Lib.hid (blk_next hX S5.out)
 replace X2 := Lib.hid (blk_next hX X2.out)
 replace Y2 := Lib.hid (blk_next hX Y2.out)
 replace T5 := Lib.hid (blk_next hX T5.out)
 replace HAL := Lib.hid (fun kx9 => GK.grow _ _ _ _ (HAL.out kx9) hX)
 clear hX
 have c_T5_0 := blk_cell T5.out 0 _ rfl
 have f_T5_0 := blk_frozen T5.out 0
 have c_T5_1 := blk_cell T5.out 1 _ rfl
 have f_T5_1 := blk_frozen T5.out 1
 have c_T5_2 := blk_cell T5.out 2 _ rfl
 have f_T5_2 := blk_frozen T5.out 2
 have c_T5_3 := blk_cell T5.out 3 _ rfl
 have f_T5_3 := blk_frozen T5.out 3
 have c_T5_4 := blk_cell T5.out 4 _ rfl
 have f_T5_4 := blk_frozen T5.out 4
 have l_T5 := blk_lt T5.out
 go_simp
 clear c_T5_0 f_T5_0 c_T5_1 f_T5_1 c_T5_2 f_T5_2 c_T5_3 f_T5_3 c_T5_4 f_T5_4 l_T5
 refine hK'.out _ _ (fun kk hk hS => ?_) ?_
 ·have HN : ∀ px9 ∈ ([(2, gX, .cells #[.int .i64 x1, .int .i64 x2] 36), (3, gY, .cells #[.int .i64 y1, .int .i64 y2] 36)] : List (Nat × Nat × Obj)), px9.1 = kk → px9.2.1 ≠ gT5 := fun px9 hp e => by
   simp only [List.mem_cons, List.not_mem_nil, or_false] at hp
   rcases hp with rfl | rfl
   ·subst e
    exact bfl (by kernel_rfl) hk
   ·subst e
    exact bfl (by kernel_rfl) hk
  exact GK.set (GK.set (GK.set (GK.set (GK.set hS HN) HN) HN) HN) HN
 clear hK' K'
 try simp only [Act.put, zA, zB, zC]
 clear HAL
 replace S5 : Hid ((((((X22.setCell ⟨gT5, 0, none⟩ (.string ⟨nm.toArray⟩)).setCell ⟨gT5, 1, none⟩ (.int .i64 x1)).setCell ⟨gT5, 2, none⟩ (.int .i64 x2)).setCell ⟨gT5, 3, none⟩ (.int .i64 y1)).setCell ⟨gT5, 4, none⟩ (.int .i64 y2)).heap[w.heap.size]? = some (.cells #[.string ⟨#[]⟩, .int .i64 0, .int .i64 0, .int .i64 0, .int .i64 0] 69)) := Lib.hid (blk_set_other (b' := gT5) (blk_set_other (b' := gT5) (blk_set_other (b' := gT5) (blk_set_other (b' := gT5) (blk_set_other (b' := gT5) (S5.out) (by have := LT_T5.out; omega) 0 (.string ⟨nm.toArray⟩)) (by have := LT_T5.out; omega) 1 (.int .i64 x1)) (by have := LT_T5.out; omega) 2 (.int .i64 x2)) (by have := LT_T5.out; omega) 3 (.int .i64 y1)) (by have := LT_T5.out; omega) 4 (.int .i64 y2))
 replace X2 : Hid ((((((X22.setCell ⟨gT5, 0, none⟩ (.string ⟨nm.toArray⟩)).setCell ⟨gT5, 1, none⟩ (.int .i64 x1)).setCell ⟨gT5, 2, none⟩ (.int .i64 x2)).setCell ⟨gT5, 3, none⟩ (.int .i64 y1)).setCell ⟨gT5, 4, none⟩ (.int .i64 y2)).heap[gX]? = some (.cells #[.int .i64 x1, .int .i64 x2] 36)) := Lib.hid (blk_set_other (b' := gT5) (blk_set_other (b' := gT5) (blk_set_other (b' := gT5) (blk_set_other (b' := gT5) (blk_set_other (b' := gT5) (X2.out) (by have := LT_T5.out; omega) 0 (.string ⟨nm.toArray⟩)) (by have := LT_T5.out; omega) 1 (.int .i64 x1)) (by have := LT_T5.out; omega) 2 (.int .i64 x2)) (by have := LT_T5.out; omega) 3 (.int .i64 y1)) (by have := LT_T5.out; omega) 4 (.int .i64 y2))
 replace Y2 : Hid ((((((X22.setCell ⟨gT5, 0, none⟩ (.string ⟨nm.toArray⟩)).setCell ⟨gT5, 1, none⟩ (.int .i64 x1)).setCell ⟨gT5, 2, none⟩ (.int .i64 x2)).setCell ⟨gT5, 3, none⟩ (.int .i64 y1)).setCell ⟨gT5, 4, none⟩ (.int .i64 y2)).heap[gY]? = some (.cells #[.int .i64 y1, .int .i64 y2] 36)) := Lib.hid (blk_set_other (b' := gT5) (blk_set_other (b' := gT5) (blk_set_other (b' := gT5) (blk_set_other (b' := gT5) (blk_set_other (b' := gT5) (Y2.out) (by have := LT_T5.out; omega) 0 (.string ⟨nm.toArray⟩)) (by have := LT_T5.out; omega) 1 (.int .i64 x1)) (by have := LT_T5.out; omega) 2 (.int .i64 x2)) (by have := LT_T5.out; omega) 3 (.int .i64 y1)) (by have := LT_T5.out; omega) 4 (.int .i64 y2))
 replace T5 : Hid ((((((X22.setCell ⟨gT5, 0, none⟩ (.string ⟨nm.toArray⟩)).setCell ⟨gT5, 1, none⟩ (.int .i64 x1)).setCell ⟨gT5, 2, none⟩ (.int .i64 x2)).setCell ⟨gT5, 3, none⟩ (.int .i64 y1)).setCell ⟨gT5, 4, none⟩ (.int .i64 y2)).heap[gT5]? = some (.cells #[.string ⟨nm.toArray⟩, .int .i64 x1, .int .i64 x2, .int .i64 y1, .int .i64 y2] 69)) := Lib.hid (blk_set (blk_set (blk_set (blk_set (blk_set (T5.out) 0 (.string ⟨nm.toArray⟩)) 1 (.int .i64 x1)) 2 (.int .i64 x2)) 3 (.int .i64 y1)) 4 (.int .i64 y2))
 replace NN := Lib.hid (Bset1 (Bset1 (Bset1 (Bset1 (Bset1 (NN.out) (show w.heap.size ≤ gT5 by have := LT_T5.out; omega) 0 (.string ⟨nm.toArray⟩)) (show w.heap.size ≤ gT5 by have := LT_T5.out; omega) 1 (.int .i64 x1)) (show w.heap.size ≤ gT5 by have := LT_T5.out; omega) 2 (.int .i64 x2)) (show w.heap.size ≤ gT5 by have := LT_T5.out; omega) 3 (.int .i64 y1)) (show w.heap.size ≤ gT5 by have := LT_T5.out; omega) 4 (.int .i64 y2))
 generalize (((((X22.setCell ⟨gT5, 0, none⟩ (.string ⟨nm.toArray⟩)).setCell ⟨gT5, 1, none⟩ (.int .i64 x1)).setCell ⟨gT5, 2, none⟩ (.int .i64 x2)).setCell ⟨gT5, 3, none⟩ (.int .i64 y1)).setCell ⟨gT5, 4, none⟩ (.int .i64 y2)) = W23 at *
 refine done_G (by kernel_rfl) (fun X24 hX => ?_) _
 replace NN := Lib.hid (Bgo NN.out hX)
 replace S5 := Lib.hid (blk_next hX S5.out)
 replace X2 := Lib.hid (blk_next hX X2.out)
 replace Y2 := Lib.hid (blk_next hX Y2.out)
 replace T5 := Lib.hid (blk_next hX T5.out)
 clear hX
 go_upto_region 10 with fail
 clear X2 Y2
 have HDRW := Lib.hid (Below.drew (Below.refl X24.heap.size X24))
 replace NN := Lib.hid (Bgo NN.out HDRW.out)
 replace S5 := Lib.hid (blk_next HDRW.out S5.out)
 replace T5 := Lib.hid (blk_next HDRW.out T5.out)
 clear HDRW
 have HAL : Hid (∀ kx9 : Nat, GK [(0, gT5, .cells #[.string ⟨nm.toArray⟩, .int .i64 x1, .int .i64 x2, .int .i64 y1, .int .i64 y2] 69), (1, gT5, .cells #[.string ⟨nm.toArray⟩, .int .i64 x1, .int .i64 x2, .int .i64 y1, .int .i64 y2] 69)] kx9 X24.drew) := Lib.hid (fun kx9 => fun px9 hp e => by
  simp only [List.mem_cons, List.not_mem_nil, or_false] at hp
  rcases hp with rfl | rfl
  ·exact T5.out
  ·exact T5.out
 )
 refine region_G (S := GK [(0, gT5, .cells #[.string ⟨nm.toArray⟩, .int .i64 x1, .int .i64 x2, .int .i64 y1, .int .i64 y2] 69), (1, gT5, .cells #[.string ⟨nm.toArray⟩, .int .i64 x1, .int .i64 x2, .int .i64 y1, .int .i64 y2] 69)]) (by kernel_rfl) ?_
 refine tG 0 (.agg #[.string ⟨nm.toArray⟩, .int .i64 x1, .int .i64 x2, .int .i64 y1, .int .i64 y2]) (some 47) (GK.grow _) rfl (YieldsIf.toG (Or.inl ⟨by rfl, ?_⟩)) (HAL.out 0) ?_
 ·intro X hX
  have hh := hX (0, gT5, .cells #[.string ⟨nm.toArray⟩, .int .i64 x1, .int .i64 x2, .int .i64 y1, .int .i64 y2] 69) (List.Mem.head _) rfl
  have hh0 := blk_cell hh 0 _ rfl
  have hh1 := blk_cell hh 1 _ rfl
  have hh2 := blk_cell hh 2 _ rfl
  have hh3 := blk_cell hh 3 _ rfl
  have hh4 := blk_cell hh 4 _ rfl
  have hhl := blk_lt hh
  clear hh
  clear hX
  go_simp
 try simp only [Act.put, zA, zB, zC]
 refine tG 1 (.agg #[.string ⟨nm.toArray⟩, .int .i64 x1, .int .i64 x2, .int .i64 y1, .int .i64 y2]) (some 48) (GK.grow _) rfl (YieldsIf.toG (Or.inl ⟨by rfl, ?_⟩)) (HAL.out 1) ?_
 ·intro X hX
  have hh := hX (1, gT5, .cells #[.string ⟨nm.toArray⟩, .int .i64 x1, .int .i64 x2, .int .i64 y1, .int .i64 y2] 69) (List.Mem.tail _ (List.Mem.head _)) rfl
  have hh0 := blk_cell hh 0 _ rfl
  have hh1 := blk_cell hh 1 _ rfl
  have hh2 := blk_cell hh 2 _ rfl
  have hh3 := blk_cell hh 3 _ rfl
  have hh4 := blk_cell hh 4 _ rfl
  have hhl := blk_lt hh
  clear hh
  clear hX
  go_simp
 try simp only [Act.put, zA, zB, zC]
 have CFn : ∀ (args : Array Value) (W : World), Sem.run Tryz.prog (callFunc 74 args) W = .ok (.enter 74 args) W := fun _ _ => by kernel_rfl
 refine tG 2 (.bool (valS ⟨⟨nm.toArray⟩, x1, x2, y1, y2⟩)) (some 49) (GK.grow _) rfl (yieldsG_call 74 #[.agg #[.string ⟨nm.toArray⟩, .int .i64 x1, .int .i64 x2, .int .i64 y1, .int .i64 y2]] (by rfl) ?_ (fun X hS => VC.out X)) (GK.drop (by simp)) ?_
 ·intro X hX
  clear hX
  go_simp
 clear CFn
 try simp only [Act.put, zA, zB, zC]
 refine only_G 3 (by kernel_rfl) rfl (fun X25 hX K' hK' => ?_)
 replace NN := Lib.hid (Bgo NN.out hX)
 replace S5 := Lib.hid (blk_next hX S5.out)
 replace T5 := Lib.hid (blk_next hX T5.out)
 replace HAL := Lib.hid (fun kx9 => GK.grow _ _ _ _ (HAL.out kx9) hX)
 clear hX
 have c_S5_0 := blk_cell S5.out 0 _ rfl
 have f_S5_0 := blk_frozen S5.out 0
 have c_S5_1 := blk_cell S5.out 1 _ rfl
 have f_S5_1 := blk_frozen S5.out 1
 have c_S5_2 := blk_cell S5.out 2 _ rfl
 have f_S5_2 := blk_frozen S5.out 2
 have c_S5_3 := blk_cell S5.out 3 _ rfl
 have f_S5_3 := blk_frozen S5.out 3
 have c_S5_4 := blk_cell S5.out 4 _ rfl
 have f_S5_4 := blk_frozen S5.out 4
 have l_S5 := blk_lt S5.out
 go_simp
 clear c_S5_0 f_S5_0 c_S5_1 f_S5_1 c_S5_2 f_S5_2 c_S5_3 f_S5_3 c_S5_4 f_S5_4 l_S5
 refine hK'.out _ _ (fun kk hk hS => ?_) ?_
 ·have HN : ∀ px9 ∈ ([(0, gT5, .cells #[.string ⟨nm.toArray⟩, .int .i64 x1, .int .i64 x2, .int .i64 y1, .int .i64 y2] 69), (1, gT5, .cells #[.string ⟨nm.toArray⟩, .int .i64 x1, .int .i64 x2, .int .i64 y1, .int .i64 y2] 69)] : List (Nat × Nat × Obj)), px9.1 = kk → px9.2.1 ≠ w.heap.size := fun px9 hp e => by
   simp only [List.mem_cons, List.not_mem_nil, or_false] at hp
   rcases hp with rfl | rfl
   ·subst e
    exact bfl (by kernel_rfl) hk
   ·subst e
    exact bfl (by kernel_rfl) hk
  exact GK.set (GK.set (GK.set (GK.set (GK.set hS HN) HN) HN) HN) HN
 clear hK' K'
 try simp only [Act.put, zA, zB, zC]
 clear HAL
 replace S5 : Hid ((((((X25.setCell ⟨w.heap.size, 0, none⟩ (.string ⟨nm.toArray⟩)).setCell ⟨w.heap.size, 1, none⟩ (.int .i64 x1)).setCell ⟨w.heap.size, 2, none⟩ (.int .i64 x2)).setCell ⟨w.heap.size, 3, none⟩ (.int .i64 y1)).setCell ⟨w.heap.size, 4, none⟩ (.int .i64 y2)).heap[w.heap.size]? = some (.cells #[.string ⟨nm.toArray⟩, .int .i64 x1, .int .i64 x2, .int .i64 y1, .int .i64 y2] 69)) := Lib.hid (blk_set (blk_set (blk_set (blk_set (blk_set (S5.out) 0 (.string ⟨nm.toArray⟩)) 1 (.int .i64 x1)) 2 (.int .i64 x2)) 3 (.int .i64 y1)) 4 (.int .i64 y2))
 replace T5 : Hid ((((((X25.setCell ⟨w.heap.size, 0, none⟩ (.string ⟨nm.toArray⟩)).setCell ⟨w.heap.size, 1, none⟩ (.int .i64 x1)).setCell ⟨w.heap.size, 2, none⟩ (.int .i64 x2)).setCell ⟨w.heap.size, 3, none⟩ (.int .i64 y1)).setCell ⟨w.heap.size, 4, none⟩ (.int .i64 y2)).heap[gT5]? = some (.cells #[.string ⟨nm.toArray⟩, .int .i64 x1, .int .i64 x2, .int .i64 y1, .int .i64 y2] 69)) := Lib.hid (blk_set_other (b' := w.heap.size) (blk_set_other (b' := w.heap.size) (blk_set_other (b' := w.heap.size) (blk_set_other (b' := w.heap.size) (blk_set_other (b' := w.heap.size) (T5.out) (by have := LT_T5.out; omega) 0 (.string ⟨nm.toArray⟩)) (by have := LT_T5.out; omega) 1 (.int .i64 x1)) (by have := LT_T5.out; omega) 2 (.int .i64 x2)) (by have := LT_T5.out; omega) 3 (.int .i64 y1)) (by have := LT_T5.out; omega) 4 (.int .i64 y2))
 replace NN := Lib.hid (Bset1 (Bset1 (Bset1 (Bset1 (Bset1 (NN.out) (show w.heap.size ≤ w.heap.size by omega) 0 (.string ⟨nm.toArray⟩)) (show w.heap.size ≤ w.heap.size by omega) 1 (.int .i64 x1)) (show w.heap.size ≤ w.heap.size by omega) 2 (.int .i64 x2)) (show w.heap.size ≤ w.heap.size by omega) 3 (.int .i64 y1)) (show w.heap.size ≤ w.heap.size by omega) 4 (.int .i64 y2))
 generalize (((((X25.setCell ⟨w.heap.size, 0, none⟩ (.string ⟨nm.toArray⟩)).setCell ⟨w.heap.size, 1, none⟩ (.int .i64 x1)).setCell ⟨w.heap.size, 2, none⟩ (.int .i64 x2)).setCell ⟨w.heap.size, 3, none⟩ (.int .i64 y1)).setCell ⟨w.heap.size, 4, none⟩ (.int .i64 y2)) = W26 at *
 refine tG 4 (.bool (valS ⟨⟨nm.toArray⟩, x1, x2, y1, y2⟩)) (some 3) (GK.grow _) rfl (YieldsIf.toG (Or.inl ⟨by rfl, ?_⟩)) (GK.drop (by simp)) ?_
 ·intro X hX
  clear hX
  go_simp
 try simp only [Act.put, zA, zB, zC]
 refine done_G (by kernel_rfl) (fun X27 hX => ?_) _
 replace NN := Lib.hid (Bgo NN.out hX)
 replace S5 := Lib.hid (blk_next hX S5.out)
 replace T5 := Lib.hid (blk_next hX T5.out)
 clear hX
 have c_S5_0 := blk_cell S5.out 0 _ rfl
 have f_S5_0 := blk_frozen S5.out 0
 have c_S5_1 := blk_cell S5.out 1 _ rfl
 have f_S5_1 := blk_frozen S5.out 1
 have c_S5_2 := blk_cell S5.out 2 _ rfl
 have f_S5_2 := blk_frozen S5.out 2
 have c_S5_3 := blk_cell S5.out 3 _ rfl
 have f_S5_3 := blk_frozen S5.out 3
 have c_S5_4 := blk_cell S5.out 4 _ rfl
 have f_S5_4 := blk_frozen S5.out 4
 have l_S5 := blk_lt S5.out
 go_wp2_with fail
 refine bodyPost_ret (v := .tuple #[Sv ⟨⟨nm.toArray⟩, x1, x2, y1, y2⟩, .bool (valS ⟨⟨nm.toArray⟩, x1, x2, y1, y2⟩)]) (by simp [results, Tryz.results57, go_sem, c_S5_0, c_S5_1, c_S5_2, c_S5_3, c_S5_4]) rfl ⟨⟨⟨nm.toArray⟩, x1, x2, y1, y2⟩, ret_site (by rw [LS.out]; split <;> simp [*]), fun s h => (by
  rw [LS.out] at h
  split at h
  ·injection h
  ·cases h), NN.out⟩
end Go.Proofs.YtfangplfbbgphaaGreatDoor
namespace Go.Proofs.YtfangplfbbgphaaGreatDoor
open Go.ChangeShapes Go.WideShapes Go.ChangeAt Go.RowKit
set_option linter.unusedVariables false
set_option linter.unusedSimpArgs false
attribute [local go_sem ↓] Go.wp_at_zero Go.wp_at_succ
def strOf : Value → Nat
 | .string b => b.size
 | _ => 0
theorem str_ne {c : UInt8} {l : List UInt8} : (c :: l).isEmpty = false := rfl
theorem parT_nil {f : Nat} {acc : List St} : parT (f + 1) acc [] = some acc := by simp [parT]
theorem parT_succ (f : Nat) (acc : List St) (l : List UInt8) : parT (f + 1) acc l = if l.length = 0 then some acc else if (Lib.cut l [10]).2.2 then (if acc.length = 8 then none else match lineS (Lib.cut l [10]).1 with
   | some s => parT f (acc ++ [s]) (Lib.cut l [10]).2.1
   | none => none)
  else none := rfl
theorem parT_go {f : Nat} {acc : List St} {l a r : List UInt8} {e : Bool} (hl : l ≠ []) (hc : Lib.cut l [10] = (a, r, e)) : parT (f + 1) acc l = if e then (if acc.length = 8 then none else match lineS a with
   | some s => parT f (acc ++ [s]) r
   | none => none)
  else none := by
 rw [parT_succ, if_neg (by cases l <;> simp at *), hc]
theorem parE_some {l : List UInt8} {r : List St} (h : parA l = some r) : parE l = 0 ∧ parL l = r := by unfold parE parL; rw [h]; exact ⟨rfl, rfl⟩
theorem parE_none {l : List UInt8} (h : parA l = none) : parE l = 12 := by unfold parE; rw [h]; rfl
set_option maxRecDepth 100000 in
set_option maxHeartbeats 8000000 in
theorem aparseA_calls (l : List UInt8) (w : World) (g : GL w) (hs : l.length ≤ 100000) : Calls Tryz.prog 20 #[Str l] w fun e w' =>
  ∃ v, e = .returned (.tuple #[v, .int .i64 (parE l)]) ∧ Below w.heap.size w w' ∧ (parE l ≠ 0 → v = .slice none 0 0) ∧ (parE l = 0 → OSt w.heap.size w' v (parL l)) := by
 have NN := Lib.hid (Below.refl w.heap.size w)
 have GG := Lib.hid g
 have ES := Lib.hid (fun r (h : parA l = some r) => parE_some h)
 have EN := Lib.hid (fun (h : parA l = none) => parE_none h)
 have PA : Hid (parT (l.length + 1) [] l = parA l) := Lib.hid rfl
 obtain ⟨i0, hi, hz, hs0, hb0⟩ := info_parts infoS
 have HI := Lib.hid (And.intro hi (And.intro hz (And.intro hs0 hb0)))
 clear g hi hz hs0 hb0
 generalize parA l = R at *
 generalize parE l = pe at *
 generalize parL l = pl at *
 go_enter Tryz.func20, Tryz.ntmps20
 go_wp2_with fail
 have OV : Hid (OSt w.heap.size w (.slice none 0 0) []) := Lib.hid (ost_nil _ _)
 go_loopw [0, 4] (fun s v wr => ∃ (m : List UInt8) (acc : List St) (f : Nat), s = Str m ∧ Hid (parT f acc m = R) ∧ Hid (m.length < f) ∧ m.length ≤ 100000 ∧ acc.length ≤ 8 ∧ Hid (Below w.heap.size w wr) ∧ Hid (OSt w.heap.size wr v acc)) (fun s _ _ => strOf s)
 case atStart => exact ⟨l, [], l.length + 1, rfl, PA, Lib.hid (Nat.lt_succ_self _), hs, by decide, NN, OV⟩
 case round =>
  clear NN OV PA hs
  obtain ⟨m, acc, f, rfl, PT, HF, hm, h8, NN, OV⟩ := hrel
  obtain ⟨A0, c0, hv0, hn0, hc1, -⟩ := Rd.of_own OV.out
  subst hv0
  have KN := Lib.hid hn0
  have KC := Lib.hid hc1
  clear hn0 hc1
  obtain ⟨f, rfl⟩ : ∃ n, f = n + 1 := ⟨f - 1, by have := HF.out; omega⟩
  cases m with
  | nil =>
   have RE : Hid (R = some acc) := Lib.hid (by rw [← PT.out, parT_nil])
   clear PT
   obtain ⟨E1, E2⟩ := ES.out _ RE.out
   subst E2
   have HE := Lib.hid E1
   clear E1
   go_wp2_with fail
   refine bodyPost_ret (by simp [results, Tryz.results20, go_sem]; rfl) rfl ⟨_, by rw [HE.out], NN.out, fun h => absurd HE.out h, fun _ => OV.out⟩
  | cons x0 m0 =>
   have sne := str_ne (c := x0) (l := m0)
   have HM : Hid (x0 :: m0 ≠ []) := Lib.hid (by simp)
   generalize x0 :: m0 = m at *
   have CC := Lib.hid (fun W (h : GL W) => cutG_calls m 10 W hm h)
   have L1 := cut1_len m 10
   have PG := fun a r e hc => parT_go (f := f) (acc := acc) (a := a) (r := r) (e := e) HM.out hc
   obtain ⟨⟨la, lr, le⟩, hc⟩ : ∃ r, Lib.cut m [10] = r := ⟨_, rfl⟩
   have PG1 := PG _ _ _ hc
   rw [hc] at CC L1
   rw [PT.out] at PG1
   simp only at CC L1 PG1
   replace PT := Lib.hid PG1
   clear PG PG1 hc
   have LL := Lib.hid L1
   have PC := Lib.hid (fun W (h : GL W) => aparse_calls la W h (Nat.le_trans LL.out.1 hm))
   clear L1
   go_wp2_with fail
   refine (CC.out _ (GG.out.next NN.out)).mono ?_
   rintro e w1 ⟨rfl, hb⟩
   replace NN := Lib.hid (Bgo NN.out hb)
   replace OV := Lib.hid (own_next hb OV.out)
   clear hb
   go_wp2_with fail
   refine (PC.out _ (GG.out.next NN.out)).mono ?_
   rintro e w2 ⟨x, rfl, hx, hb⟩
   replace NN := Lib.hid (Bgo NN.out hb)
   replace OV := Lib.hid (own_next hb OV.out)
   clear hb
   have HX := Lib.hid hx
   clear hx
   generalize hls : lineS la = ls at *
   clear hls
   cases le
   ·have RE : Hid (R = none) := Lib.hid (by rw [PT.out]; rfl)
    clear PT HX ES
    skip
    have HE := Lib.hid (EN.out RE.out)
    go_wp2_with fail
    skip
    refine bodyPost_ret (v := .tuple #[.slice none 0 0, .int .i64 12]) (by simp [results, Tryz.results20, go_sem]) rfl ⟨_, by rw [HE.out], ?_, fun _ => rfl, fun h => absurd (HE.out.symm.trans h) (by decide)⟩
    exact Bal NN.out _
   cases ls with
   | none =>
    have RE : Hid (R = none) := Lib.hid (by rw [PT.out]; split <;> simp)
    clear PT HX ES
    skip
    have HE := Lib.hid (EN.out RE.out)
    go_wp2_with fail
    skip
    refine bodyPost_ret (v := .tuple #[.slice none 0 0, .int .i64 12]) (by simp [results, Tryz.results20, go_sem]) rfl ⟨_, by rw [HE.out], ?_, fun _ => rfl, fun h => absurd (HE.out.symm.trans h) (by decide)⟩
    exact Bal NN.out _
   | some st =>
    obtain rfl := HX.out _ rfl
    clear HX
    by_cases h9 : acc.length = 8
    ·have RE : Hid (R = none) := Lib.hid (by rw [PT.out, if_pos rfl, if_pos h9])
     clear PT ES
     have q8 : ((acc.length : Int) == 8) = true := by rw [beq_iff_eq]; omega
     skip
     have HE := Lib.hid (EN.out RE.out)
     go_wp2_with fail
     skip
     refine bodyPost_ret (v := .tuple #[.slice none 0 0, .int .i64 12]) (by simp [results, Tryz.results20, go_sem]) rfl ⟨_, by rw [HE.out], ?_, fun _ => rfl, fun h => absurd (HE.out.symm.trans h) (by decide)⟩
     exact Bal NN.out _
    have q8 : ((acc.length : Int) == 8) = false := by rw [beq_eq_false_iff_ne]; omega
    have PT2 : Hid (R = parT f (acc ++ [x]) lr) := Lib.hid (PT.out.trans ((if_pos rfl).trans (if_neg h9)))
    simp only [Option.isSome_some]
    clear PT
    have H63 : Hid (acc.length + 1 ≤ maxLen) := Lib.hid (by simp [maxLen]; omega)
    have H64 : Hid ((acc.length + 1) * 48 ≤ 140737488355328) := Lib.hid (by omega)
    skip
    have H5 : Hid (w.heap.size ≤ ((w2.alloc (.cells #[.string x.nm, .int .i64 x.sn, .int .i64 x.sd, .int .i64 x.tn, .int .i64 x.td] 69)).alloc (.cells #[.string x.nm, .int .i64 x.sn, .int .i64 x.sd, .int .i64 x.tn, .int .i64 x.td] 69)).heap.size) := Lib.hid (by rw [World.size_alloc, World.size_alloc]; have := NN.out.size; omega)
    go_wp2_with (at_builtin; refine wpList_append_rd _ rfl _ _ 24 rfl w.heap.size 69 i0 (.agg #[.string ⟨#[]⟩, .int .i64 0, .int .i64 0, .int .i64 0, .int .i64 0]) 5 48 und_sites HI.out.1 HI.out.2.1 HI.out.2.2.1 HI.out.2.2.2 rfl (by decide) (.slice A0 acc.length c0) _ _ rfl (World.ownsRow.alloc (World.ownsRow.alloc OV.out _) _) (some ⟨w2.heap.size + 1, 0, none⟩) 1 1 (st5 x) rfl (Rd.blk (T := 69) (blk_at _ (by simp)) rfl) (st5_one x) H63.out H64.out H5.out ?_; intro v9 w9 o9 g9 hat9)
    have BG := Lib.hid (own_grown (World.ownsRow.alloc (World.ownsRow.alloc OV.out _) _) g9 H5.out)
    have O9 : Hid (OSt w.heap.size w9 v9 (acc ++ [x])) := Lib.hid (by unfold OSt; rw [List.flatMap_append, List.length_append]; simpa using o9)
    have N9 := Lib.hid ((Bal (Bal NN.out _) _).trans BG.out)
    have LT := LL.out.2.2 rfl
    have HF2 : Hid (lr.length < f) := Lib.hid (by have := HF.out; omega)
    go_roundw
    case rel => exact ⟨lr, acc ++ [x], f, rfl, Lib.hid PT2.out.symm, HF2, by omega, by simp; omega, N9, O9⟩
    case measure => show (⟨lr.toArray⟩ : ByteArray).size < (⟨m.toArray⟩ : ByteArray).size; rw [← s_len, ← s_len]; simpa using LT
end Go.Proofs.YtfangplfbbgphaaGreatDoor
namespace Go.Proofs.YtfangplfbbgphaaGreatDoor
open Go.ChangeShapes Go.WideShapes Go.ChangeAt Go.RowKit
set_option linter.unusedVariables false
set_option linter.unusedSimpArgs false
attribute [local go_sem ↓] Go.wp_at_zero Go.wp_at_succ
attribute [local go_sem ↓] eqVe eqSt_self
theorem aorder_ok {A B : Int} {a : Option Addr} {c : Nat} {l : List St} {w : World} {aq : Option Addr} {cq : Nat} {q : List Int} (h : plE A B l = 0) (ho : ordB q l.length = true) (hl : RSt w a l) (hc : l.length ≤ c) (hc' : c ≤ 9223372036854775807) (hn : ∀ x ∈ l, x.nm.size ≤ 9223372036854775807) (hq : Rd w 1 aq q.length (lv q)) (hcq : q.length ≤ cq) (hcq' : cq ≤ 9223372036854775807) : Calls Tryz.prog 25 #[Gv A B, .slice a l.length c, .slice aq q.length cq] w fun e w' =>
  ∃ g, e = .returned (.tuple #[.slice (some ⟨g, 0, none⟩) l.length l.length, .int .i64 0]) ∧ w'.heap[g]? = some (.cells ((ordL l q).flatMap st5).toArray 69) ∧ Below w.heap.size w w' := by
 have e0 : ordE A B l q = 0 := by unfold ordE; rw [if_neg (by omega), if_pos ho]
 refine (aorder_calls hl hc hc' hn hq hcq hcq').mono ?_
 rintro e w' ⟨v, rfl, hb, -, h1⟩
 rw [e0] at h1 ⊢
 obtain ⟨g, rfl, -, hr⟩ := h1 rfl
 exact ⟨g, rfl, hr, hb⟩
end Go.Proofs.YtfangplfbbgphaaGreatDoor
namespace Go.Proofs.YtfangplfbbgphaaGreatDoor
open Go.ChangeShapes Go.WideShapes Go.ChangeAt Go.RowKit
set_option linter.unusedVariables false
set_option linter.unusedSimpArgs false
attribute [local go_sem ↓] Go.wp_at_zero Go.wp_at_succ
theorem chk_at {A B : Int} {l : List St} {v : Int} {g n : Nat} (hv : plE A B l = v) (hn : l.length = n) (hm : n ≤ 1000) (hs : ∀ x ∈ l, x.nm.size ≤ 9223372036854775807) {W : World} (h : W.heap[g]? = some (.cells (l.flatMap st5).toArray 69)) :
  Calls Tryz.prog 28 #[Gv A B, .slice (some ⟨g, 0, none⟩) n n] W fun e w' => e = .returned (.int .i64 v) ∧ Below W.heap.size W w' := by
 subst hn
 have := acheck_calls (A := A) (B := B) (l := l) (c := l.length) (Rd.blk h (fm_len _ _ st5_len _)) (Nat.le_refl _) (by omega) hs
 rw [hv] at this
 exact this
theorem chk_nil (W : World) : Calls Tryz.prog 28 #[Gv 5 5, .slice none 0 0] W fun e w' => e = .returned (.int .i64 0) ∧ Below W.heap.size W w' := by
 have := acheck_calls (A := 5) (B := 5) (l := []) (c := 0) (a := none) (w := W) (rd_nil _ _ _) (by decide) (by decide) (by simp)
 rw [show plE 5 5 [] = 0 by kernel_rfl] at this
 exact this
theorem mk_zero {n : Nat} (hn : n ≤ 1000) (hc : madeCells #[.string ⟨#[]⟩, .int .i64 0, .int .i64 0, .int .i64 0, .int .i64 0] (n * 5) = ((List.replicate n zS).flatMap st5).toArray) (W : World) : (Instr.makeSlice 24 (.int .i64 (n : Int)) (.int .i64 (n : Int))).run Tryz.prog W = .ok (.slice (some ⟨W.heap.size, 0, none⟩) n n) (W.alloc (.cells ((List.replicate n zS).flatMap st5).toArray 69)) := by
 obtain ⟨i, hi, hz, hs, hb⟩ := info_parts infoS
 have h1 := run_make (P := Tryz.prog) W 24 69 i _ und_sites hi hz .i64 .i64 (n : Int) (n : Int) (by omega) (by omega) (by rw [hb]; omega) (by omega)
 rw [hs, Int.toNat_natCast] at h1
 rw [h1]
 unfold Value.cells
 simp only
 rw [hc]
def Z9C : Array Value := ((List.replicate 9 zS).flatMap st5).toArray
def Z1C : Array Value := ((List.replicate 1 zS).flatMap st5).toArray
theorem mk9 (W : World) : (Instr.makeSlice 24 (.int .i64 9) (.int .i64 9)).run Tryz.prog W = .ok (.slice (some ⟨W.heap.size, 0, none⟩) 9 9) (W.alloc (.cells Z9C 69)) := mk_zero (n := 9) (by decide) (by kernel_rfl) W
theorem mk1 (W : World) : (Instr.makeSlice 24 (.int .i64 1) (.int .i64 1)).run Tryz.prog W = .ok (.slice (some ⟨W.heap.size, 0, none⟩) 1 1) (W.alloc (.cells Z1C 69)) := mk_zero (n := 1) (by decide) (by kernel_rfl) W
theorem zero_nm (n : Nat) : ∀ x ∈ List.replicate n zS, x.nm.size ≤ 9223372036854775807 := fun x hx => by
 rw [(List.mem_replicate.1 hx).2]; decide
theorem five_liC (i j : Int) (v : V6) (e : Int) (h1 : liE 5 5 five5 i j = e) (h2 : liV 5 5 five5 i j = v) {W : World} {g : Nat} (h : W.heap[g]? = some (.cells (five5.flatMap st5).toArray 69)) : Calls Tryz.prog 13 #[Gv 5 5, .slice (some ⟨g, 0, none⟩) 5 5, .int .i64 i, .int .i64 j] W fun e' w' =>
  e' = .returned (.tuple #[Vv v, .int .i64 e]) ∧ Below W.heap.size W w' := by
 have := aline_calls i j (A := 5) (B := 5) (l := five5) (c := 5) (five_rd h) (by decide) (by decide) five_nm
 rw [h1, h2] at this
 exact this
theorem pairs_bad (n : Int) (h : prE n = 2) (w : World) : Calls Tryz.prog 11 #[.int .i64 n] w fun e w' => e = .returned (.tuple #[.slice none 0 0, .int .i64 2]) ∧ Below w.heap.size w w' := by
 refine (apairs_calls n w).mono ?_
 rintro e w' ⟨v, rfl, hb, h0, -⟩
 rw [h] at h0 ⊢
 rw [h0 (by decide)]
 exact ⟨rfl, hb⟩
theorem pairs_1 (w : World) : Calls Tryz.prog 11 #[.int .i64 1] w fun e w' => ∃ Ax cx, e = .returned (.tuple #[.slice Ax 0 cx, .int .i64 0]) ∧ Below w.heap.size w w' := by
 refine (apairs_ok (n := 1) (by decide) w).mono ?_
 rintro e w' ⟨Ax, cx, rfl, hb, -, -, -⟩
 exact ⟨Ax, cx, rfl, hb⟩
theorem pairs_3 (w : World) : Calls Tryz.prog 11 #[.int .i64 3] w fun e w' => ∃ Ax cx, e = .returned (.tuple #[.slice Ax 3 cx, .int .i64 0]) ∧ Below w.heap.size w w' ∧ 3 ≤ cx ∧ cx ≤ 9223372036854775807 ∧ RPr w' Ax [(0, 1), (0, 2), (1, 2)] := by
 refine (apairs_ok (n := 3) (by decide) w).mono ?_
 rintro e w' ⟨Ax, cx, rfl, hb, h1, h2, h3⟩
 exact ⟨Ax, cx, rfl, hb, h1, h2, h3⟩
theorem five_cls1 {W : World} {g : Nat} (h : W.heap[g]? = some (.cells (five5.flatMap st5).toArray 69)) : Calls Tryz.prog 10 #[Gv 5 5, .slice (some ⟨g, 0, none⟩) 1 5] W fun e w' => ∃ Ax cx, e = .returned (.tuple #[.slice Ax 0 cx, .int .i64 0]) ∧ Below W.heap.size W w' := by
 refine (aclasses_ok (A := 5) (B := 5) (l := five5.take 1) (c := 5) (by kernel_rfl) (rd_prefix (ys := (five5.drop 1).flatMap st5) (five_rd h) rfl (by decide)) (by decide) (by decide) (fun x hx => five_nm x (List.mem_of_mem_take hx))).mono ?_
 rintro e w' ⟨Ak, ck, hs, rfl, hb, -, -, -⟩
 rw [show clsL 5 5 (five5.take 1) = [] by kernel_rfl]
 exact ⟨Ak, ck, rfl, hb⟩
theorem five_cls8 {W : World} {g : Nat} (h : W.heap[g]? = some (.cells (five5.flatMap st5).toArray 69)) : Calls Tryz.prog 10 #[Gv 5 5, .slice (some ⟨g, 0, none⟩) 5 5] W fun e w' => ∃ Ax cx, e = .returned (.tuple #[.slice Ax 8 cx, .int .i64 0]) ∧ Below W.heap.size W w' := by
 refine (five_classes h).mono ?_
 rintro e w' ⟨gc, c0, _, _, rfl, _, _, _, _, hb⟩
 exact ⟨_, _, rfl, hb⟩
def rev5 : List St := [⟨⟨#[101]⟩, -1, 1, 0, 1⟩, ⟨⟨#[100]⟩, 1, 1, 0, 1⟩, ⟨⟨#[99]⟩, 0, 1, -1, 1⟩, ⟨⟨#[98]⟩, 0, 1, 1, 1⟩, ⟨⟨#[97]⟩, 0, 1, 0, 1⟩]
theorem five_ord {W : World} {g g' : Nat} (h : W.heap[g]? = some (.cells (five5.flatMap st5).toArray 69)) (h' : W.heap[g']? = some (.cells (lv [4, 3, 2, 1, 0]).toArray 3)) : Calls Tryz.prog 25 #[Gv 5 5, .slice (some ⟨g, 0, none⟩) 5 5, .slice (some ⟨g', 0, none⟩) 5 5] W fun e w' =>
  ∃ go, e = .returned (.tuple #[.slice (some ⟨go, 0, none⟩) 5 5, .int .i64 0]) ∧ w'.heap[go]? = some (.cells (rev5.flatMap st5).toArray 69) ∧ Below W.heap.size W w' := by
 have := aorder_ok (A := 5) (B := 5) (l := five5) (c := 5) (q := [4, 3, 2, 1, 0]) (cq := 5) five_pl (by kernel_rfl) (five_rd h) (by decide) (by decide) five_nm (Rd.blk h' rfl) (by decide) (by decide)
 rw [show ordL five5 [4, 3, 2, 1, 0] = rev5 by kernel_rfl] at this
 exact this
theorem five_ordno (q : List Int) (n : Nat) (hq : q.length = n) (hn : n ≤ 1000) (h0 : ordE 5 5 five5 q = 2) {W : World} {g g' : Nat} (h : W.heap[g]? = some (.cells (five5.flatMap st5).toArray 69)) (h' : W.heap[g']? = some (.cells (lv q).toArray 3)) : Calls Tryz.prog 25 #[Gv 5 5, .slice (some ⟨g, 0, none⟩) 5 5, .slice (some ⟨g', 0, none⟩) n n] W fun e w' =>
  e = .returned (.tuple #[.slice none 0 0, .int .i64 2]) ∧ Below W.heap.size W w' := by
 subst hq
 refine (aorder_calls (A := 5) (B := 5) (l := five5) (c := 5) (q := q) (cq := q.length) (five_rd h) (by decide) (by decide) five_nm (Rd.blk h' (by rw [lv_len, Nat.mul_one])) (Nat.le_refl _) (by omega)).mono ?_
 rintro e w' ⟨v, rfl, hb, h1, -⟩
 rw [h0] at h1 ⊢
 rw [h1 (by decide)]
 exact ⟨rfl, hb⟩
theorem text_zero (n : Nat) (e : Int) (hn : n ≤ 1000) (h0 : stsE (List.replicate n zS) = e) (h1 : txA (List.replicate n zS) = []) {W : World} {g : Nat} (h : W.heap[g]? = some (.cells ((List.replicate n zS).flatMap st5).toArray 69)) (hg : GT W) : Calls Tryz.prog 18 #[.slice (some ⟨g, 0, none⟩) n n] W fun e' w' =>
  e' = .returned (.tuple #[.string ⟨#[]⟩, .int .i64 e]) ∧ Below W.heap.size W w' := by
 have := atext_calls (l := List.replicate n zS) (c := n) (a := some ⟨g, 0, none⟩) (w := W) (Rd.blk h (fm_len _ _ st5_len _)) (by simp) (by omega) (zero_nm n) hg
 rw [h0, h1, List.length_replicate] at this
 exact this
theorem parse_at (s : List UInt8) (n : Nat) (hs : s.length ≤ 100000) (h0 : parE s = 0) (h1 : (parL s).length = n) (W : World) (g : GL W) : Calls Tryz.prog 20 #[Str s] W fun e w' => ∃ Ax cx, e = .returned (.tuple #[.slice Ax n cx, .int .i64 0]) ∧ Below W.heap.size W w' := by
 refine (aparseA_calls s W g hs).mono ?_
 rintro e w' ⟨v, rfl, hb, -, h2⟩
 rw [h0] at h2 ⊢
 obtain ⟨A1, c1, rfl, h3, h4, h5⟩ := Rd.of_own (h2 rfl)
 rw [h1]
 exact ⟨A1, c1, rfl, hb⟩
theorem refused_calls (s : List UInt8) (hs : s.length ≤ 100000) (h0 : parE s = 12) (w : World) (g : GL w) : Calls Tryz.prog 33 #[Str s] w fun e w' => e = .returned (.bool true) ∧ Below w.heap.size w w' := by
 have GG := Lib.hid g
 have PC := Lib.hid (fun W (h : GL W) => aparseA_calls s W h hs)
 have H0 := Lib.hid h0
 clear g h0 hs
 go_enter Tryz.func33, Tryz.ntmps33
 go_wp2_with fail
 refine (PC.out _ GG.out).mono ?_
 rintro e w' ⟨v, rfl, hb, h1, -⟩
 rw [H0.out] at h1 ⊢
 obtain rfl := h1 (by decide)
 clear h1
 have NN := Lib.hid hb
 clear hb
 go_wp2_with fail
 go_ret
 exact ⟨rfl, NN.out⟩
end Go.Proofs.YtfangplfbbgphaaGreatDoor
namespace Go.Proofs.YtfangplfbbgphaaGreatDoor
open Go Go.RowKit
set_option linter.unusedVariables false
set_option maxRecDepth 100000
section
variable {P : Program} {ops : Array Oper} {Q : Exit → Act → World → Prop} {md : Region.Mode} {S : Nat → World → Prop}
def readyB (md : Region.Mode) (ops : Array Oper) (done : Array Bool) (i : Nat) : Bool := !(done.getD i true) && match ops[i]? with
 | some o => o.after.all fun e => !(Region.binds md e) || done.getD e.on false
 | none => false
theorem readyB_mem {done : Array Bool} {i : Nat} (h : readyB md ops done i = true) : i ∈ Region.ready md ops done := by
 unfold readyB at h
 rw [Bool.and_eq_true, Bool.not_eq_true'] at h
 obtain ⟨h1, h2⟩ := h
 rw [mem_ready]
 refine ⟨h1, ?_⟩
 cases ho : ops[i]? with
 | none => rw [ho] at h2; cases h2
 | some o =>
  rw [ho] at h2
  refine ⟨o, rfl, fun e he hb => ?_⟩
  simp only [Array.all_eq_true_iff_forall_mem] at h2
  have := h2 e he
  rw [hb] at this
  simpa using this
def edgeB (md : Region.Mode) (o : Oper) (i : Nat) : Bool := o.after.any fun e => Region.binds md e && e.on == i
def freeAll (md : Region.Mode) (ops : Array Oper) : Bool := (List.range ops.size).all fun i => match ops[i]? with
 | none => true
 | some oi => (List.range ops.size).all fun j => match ops[j]? with
  | none => true
  | some oj => j == i || (oi.apart ops oj || (edgeB md oj i || edgeB md oi j))
theorem edge_no {o : Oper} {i : Nat} (h : ∀ e ∈ o.after, Region.binds md e = true → e.on ≠ i) : edgeB md o i = false := by
 unfold edgeB
 rw [Bool.eq_false_iff]
 intro ha
 obtain ⟨k, hk, hb⟩ := Array.any_eq_true.1 ha
 rw [Bool.and_eq_true, beq_iff_eq] at hb
 exact h _ (Array.getElem_mem hk) hb.1 hb.2
structure HCtx (md : Region.Mode) (ops : Array Oper) (done : Array Bool) : Prop where
 ns : Region.noSelect ops = true
 fa : freeAll md ops = true
 sh : Shutd md ops done
theorem HCtx.free {done : Array Bool} (h : HCtx md ops done) {i : Nat} {oi : Oper} (hi : ops[i]? = some oi) (hr : i ∈ Region.ready md ops done) (j : Nat) (oj : Oper) (hj : ops[j]? = some oj) (hne : j ≠ i) (hun : done.getD j true = false) (hno : ∀ e ∈ oj.after, Region.binds md e = true → e.on ≠ i) : oi.apart ops oj = true := by
 have h1 := h.fa
 unfold freeAll at h1
 have h2 := List.all_eq_true.1 h1 i (List.mem_range.2 (Array.getElem?_eq_some_iff.1 hi).1)
 rw [hi] at h2
 have h3 := List.all_eq_true.1 h2 j (List.mem_range.2 (Array.getElem?_eq_some_iff.1 hj).1)
 rw [hj] at h3
 simp only [edge_no hno, Bool.false_or, Bool.or_eq_true, beq_iff_eq, hne, false_or] at h3
 rcases h3 with h3 | h3
 ·exact h3
 ·exfalso
  obtain ⟨_, o', ho', hall⟩ := mem_ready.1 hr
  have : o' = oi := Option.some.inj (ho'.symm.trans hi)
  subst this
  rw [edge_no (fun e he hb hon => by
   have := hall e he hb
   rw [hon] at this
   have h9 := getD_both hun
   rw [this] at h9; cases h9)] at h3
  cases h3
theorem HCtx.set {done : Array Bool} (h : HCtx md ops done) {i : Nat} (hr : i ∈ Region.ready md ops done) : HCtx md ops (done.setIfInBounds i true) := ⟨h.ns, h.fa, shut_set h.sh hr⟩
theorem take_H {oi : Oper} {f : Nat} {done : Array Bool} {a : Act} {w : World} (i : Nat) (v : Value) (d : Option Nat) (hg : ∀ k w X, S k w → Below w.heap.size w X → S k X) (hc : HCtx md ops done) (hi : ops[i]? = some oi)
  (hr : readyB md ops done i = true) (hd : oi.dst = d) (hQ : ∀ c a w, Q (.panic c) (a.put oi.dst v) w → Q (.panic c) a w) (hy : YieldsG P ops (S i) oi v a) (hS : S i w)
  (h : HCtx md ops (done.setIfInBounds i true) → wpAnyG P md ops Q S f (done.setIfInBounds i true) (a.put d v) w) : wpAnyG P md ops Q S (f + 1) done a w :=
 wpAnyG_first hi (Region.noSelect_spec hc.ns) hQ hg f done a w hc.sh (hc.free hi (readyB_mem hr)) (readyB_mem hr) hy hS (by rw [hd]; exact h (hc.set (readyB_mem hr)))
theorem shut_start (n : Nat) : Shutd md ops (Array.replicate n false) := fun m om _ hm => by
 rw [Array.getD_eq_getD_getElem?, Array.getElem?_replicate] at hm
 split at hm <;> cases hm
theorem region_H {id : Nat} {a : Act} {w : World} (hm : P.follows .mixedOrders = true) (hns : Region.noSelect ops = true) (hfa : freeAll .any ops = true)
  (h : HCtx .any ops (Array.replicate ops.size false) → wpAnyG P .any ops Q S ops.size (Array.replicate ops.size false) a w.drew) : (Code.region id ops true).wp P Q a w :=
 region_G hm (h ⟨hns, hfa, shut_start _⟩)
end
end Go.Proofs.YtfangplfbbgphaaGreatDoor
