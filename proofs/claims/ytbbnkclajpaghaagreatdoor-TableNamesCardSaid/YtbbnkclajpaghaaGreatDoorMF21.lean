/- Several texts in one. -/
import Derived.Laws.EntriesVeiled
import Derived.Test.YtbbnkclajpaghaaGreatDoorMF03
import Derived.Test.YtbbnkclajpaghaaGreatDoorMF06
import Derived.Test.YtbbnkclajpaghaaGreatDoorMF16
import Derived.Test.YtbbnkclajpaghaaGreatDoorMF20
set_option maxHeartbeats 16000000
set_option maxRecDepth 100000
set_option linter.unusedVariables false
set_option linter.unusedSimpArgs false
namespace Go.Proofs.YtbbnkclajpaghaaGreatDoor
open Go.ChangeShapes Go.WideShapes Go.ChangeAt Go.RowKit
attribute [local go_sem ↓] Go.wp_at_zero Go.wp_at_succ
attribute [local go_sem] Oper.semAt_some
theorem vrc_set_cut {L : List Vr} {k : Nat} (hk : k < L.length) (r : Vr) : vrc (L.set k r) = (vrc L).take (k * 8) ++ vr8 r ++ (vrc L).drop (k * 8 + 8) := by
 rw [List.set_eq_take_append_cons_drop, if_pos hk, vrc_append, vrc_take, show r :: L.drop (k + 1) = [r] ++ L.drop (k + 1) from rfl, vrc_append, vrc_drop, Nat.succ_mul, ← List.append_assoc]
 simp [vrc]
theorem info_row : (Tryz.prog.info? RTy).map (·.size) = some 8 := infoR
theorem und_rows : Tryz.prog.underlying 91 = some (.slice RTy) := by kernel_rfl
theorem run_room {w : World} {g k n c : Nat} {L : List Vr} (hn : L.length = n) (hx : RW w g L) (hk : k < n) {r : Vr} {A : Option Addr} (hr : RT w A [r]) (ty : TypeId) :
  (Builtin.append_ #[91, 91] ty #[.slice (some ⟨g, 0, none⟩) k n, .slice A 1 c]).run Tryz.prog w = .ok (.slice (some ⟨g, 0, none⟩) (k + 1) n) (w.setRow g (vrc (L.set k r)).toArray) := by
 subst hn
 obtain ⟨b, off, rfl, hb, hc⟩ := hr.2 (by simp)
 cases hi : Tryz.prog.info? RTy with
 | none => have := info_row; rw [hi] at this; cases this
 | some i =>
  have hs : i.size = 8 := by have := info_row; rw [hi] at this; simpa using this
  have h := run_append_room (P := Tryz.prog) w 91 ty RTy i und_rows hi g k L.length (vrc L).toArray hx ⟨b, off, none⟩ 1 c (vr8 r) (by rw [hs]; rfl)
   (fun j u hu => by rw [Addr.add_mid]; exact hc j u (by simpa [vrc] using hu)) (fun u hu => vrc_one [r] u (by simpa [vrc] using hu)) (by omega) (by rw [hs, List.size_toArray, vrc_len, vr8_len]; omega)
  rw [h, hs, vrc_set_cut hk]
  simp [vr8]
theorem wpListIn_room {F : Fence} {m : Nat} {w : World} {ops : Array Oper} {rest : List Oper} {o : Oper} {a : Act} {Q : Exit → Act → World → Prop}
  (hg : o.guard = none) (s x : Operand) (hop : o.op = Op.call { callee := Callee.builtin Builtin.append, args := #[s, x], argTypes := #[91, 91] })
  (g k n : Nat) (L : List Vr) (hs : a.eval s = .slice (some ⟨g, 0, none⟩) k n) (A : Option Addr) (c : Nat) (r : Vr) (hx : a.eval x = .slice A 1 c)
  (hn : L.length = n) (hw : RW w g L) (hk : k < n) (hr : RT w A [r])
  (hK : wpListIn F m Tryz.prog ops Q rest (a.put o.dst (.slice (some ⟨g, 0, none⟩) (k + 1) n)) (w.setRow g (vrc (L.set k r)).toArray)) : wpListIn F m Tryz.prog ops Q (o :: rest) a w := by
 refine wpListIn_plain hg fun K hK' => ?_
 have hrun := run_room hn hw hk hr (c := c) o.type
 unfold Oper.wpIn
 refine ⟨?_, ?_⟩
 ·simp [Oper.about, hop, resolve, Target.leads, Sem.run_pure]
 ·rw [Oper.semAt_plain F _ _ (by rw [hop]; intro c hc'; cases hc')]
  simp [execOp, hop, resolve, invoke, builtin, hs, hx, hrun, Result.andThen]
  exact hK' _ _ hK
theorem tyV : Ty 44 22 8 vr8 := ⟨⟨_, _, infoV, rfl, by decide⟩, und_vis, by decide, vr8_len, vrc_one⟩
theorem tyS : Ty 42 95 6 vr6 := ⟨⟨.agg (vr6 zvr).toArray, 48, by kernel_rfl, rfl, by decide⟩, by kernel_rfl, by decide, vr6_len, vr6_one⟩
def qOf (W : World) (g : Nat) : Nat := match W.heap[g]? with
 | some (.cells cs _ _) => match cs[0]? with
  | some (Value.slice _ q _) => q
  | _ => 0
 | _ => 0
theorem qOf_eq {W : World} {g q c : Nat} {A : Option Addr} {T : TypeId} (h : W.heap[g]? = some (.cells #[.slice A q c] T)) : qOf W g = q := by
 unfold qOf; rw [h]; rfl
theorem grp_ne {ys G : List Vr} {m m1 : Nat} {f s : Vr} (h : m + G.length = m1) (hs : ys[m1]? = some s) (hf : ys[m]? = some f) (hne : s ≠ f) : G ≠ [] := fun e => by
 subst e
 have h2 : m = m1 := by simpa using h
 rw [← h2, hf] at hs
 injection hs with hs
 exact hne hs.symm
theorem srt_len {xs ys : List Vr} (hs : Srt vkey ys) (hf : FE vkey xs ys) : ys.length = xs.length := by
 rw [Srt.unique hs (isort_srt xs) (hf.symm.trans (isort_fe xs)), isort_len]
theorem RV6.one {W : World} {b : Nat} {r : Vr} {T : TypeId} (h : W.heap[b]? = some (.cells #[.int .i64 r.i, .int .i64 r.j, .int .i64 r.re, .int .i64 r.im, .int .i64 r.dn, .int .i64 r.n] T)) : Rd W 6 (some ⟨b, 0, none⟩) [r].length ([r].flatMap vr6) := by
 refine ⟨rfl, fun _ => ⟨b, 0, rfl, blk_lt h, fun j u hu => ?_⟩⟩
 refine blk_cell h (0 + j) u ?_
 simpa [vr6] using hu
abbrev OV (B : Nat) (w : World) (v : Value) (l : List Vr) : Prop := OG 44 8 vr8 B w v l
abbrev OS6 (B : Nat) (w : World) (v : Value) (l : List Vr) : Prop := OG 42 6 vr6 B w v l
theorem RW.oth {T : TypeId} {w w' : World} {g : Nat} {L : List Vr} (h : RW w g L) (ho : Oth T w w') (hne : RTy ≠ T) : RW w' g L := ho.blk h hne
theorem RW.row {w : World} {g : Nat} {L M : List Vr} (h : RW w g L) : RW (w.setRow g (vrc M).toArray) g M := setRow_heap w _ _ _ _ _ h
theorem vrc_zero : ∀ (n : Nat), vrc (List.replicate n zvr) = List.replicate (n * 8) (.int .i64 0)
 | 0 => rfl
 | n + 1 => by
  rw [List.replicate_succ, Nat.succ_mul, Nat.add_comm, ← List.replicate_append_replicate, ← vrc_zero n]
  rfl
theorem row_step {l : List Vr} {k : Nat} {f : Vr → Vr} (hk : k < l.length) : ((l.take k).map f ++ List.replicate (l.length - k) zvr).set k (f (rowAt l k)) = (l.take (k + 1)).map f ++ List.replicate (l.length - (k + 1)) zvr := by
 have e : l.length - k = (l.length - (k + 1)) + 1 := by omega
 rw [List.set_append, if_neg (by simp; omega), e, List.replicate_succ, List.take_succ_eq_append_getElem hk, List.map_append, rowAt_lt hk]
 have e2 : k - ((l.take k).map f).length = 0 := by simp; omega
 rw [e2]
 simp
theorem made_zero (n : Nat) : madeCells (vr8 zvr).toArray (n * 8) = (vrc (List.replicate n zvr)).toArray := by
 have h8 : ∀ j, j < 8 → (vr8 zvr).toArray[j]! = .int .i64 0 := fun j hj => by
  rcases (show j = 0 ∨ j = 1 ∨ j = 2 ∨ j = 3 ∨ j = 4 ∨ j = 5 ∨ j = 6 ∨ j = 7 by omega) with rfl | rfl | rfl | rfl | rfl | rfl | rfl | rfl <;> rfl
 rw [vrc_zero]
 refine Array.ext (by simp [madeCells]) fun i h1 h2 => ?_
 have hs : (vr8 zvr).toArray.size = 8 := rfl
 simp only [madeCells, Array.getElem_map, Array.getElem_range, hs, List.getElem_toArray, List.getElem_replicate]
 exact h8 _ (Nat.mod_lt _ (by decide))
theorem make_rows (n : Nat) (hn : n ≤ 1000) (W : World) : (Instr.makeSlice 91 (.int .i64 0) (.int .i64 (n : Int))).run Tryz.prog W = .ok (.slice (some ⟨W.heap.size, 0, none⟩) 0 n) (W.alloc (.cells (vrc (List.replicate n zvr)).toArray 67)) := by
 have hz : (Tryz.prog.info? RTy).map (fun i => (i.zero, i.size, i.bytes)) = some (some (.agg (vr8 zvr).toArray), 8, 64) := by kernel_rfl
 obtain ⟨i, hi, hz, hs, hb⟩ := info_parts hz
 have h1 := run_make (P := Tryz.prog) W 91 RTy i _ und_rows hi hz .i64 .i64 0 (n : Int) (by omega) (by omega) (by rw [hb]; omega) (by omega)
 rw [hs, Int.toNat_natCast] at h1
 rw [h1]
 unfold Value.cells
 simp only
 rw [made_zero]
 rfl
theorem average_calls {A : Option Addr} {c : Nat} {l : List Vr} {w : World} (a b : Int) (hl : RT w A l) (hA : ∀ b off, A = some ⟨b, off, none⟩ → b < w.heap.size) (hc : l.length ≤ c) (hc' : c ≤ 9223372036854775807) : Calls Tryz.prog 16 #[.slice A l.length c, .int .i64 a, .int .i64 b] w fun e w' =>
  ∃ v, e = .returned (.tuple #[v, .int .i64 (avgE l a b)]) ∧ OR w.heap.size w' v (avgL l a b) ∧ Below w.heap.size w w' := by
 have CK : Hid (∀ W : World, Below w.heap.size w W → Calls Tryz.prog 20 #[.slice A l.length c] W fun e w' => e = .returned (.int .i64 (chkE l)) ∧ Below W.heap.size W w') := zh (fun W (hb : Below w.heap.size w W) => chk_calls (w := W) (hl.next hb) (fun b off h => Nat.lt_of_lt_of_le (hA b off h) hb.size) hc hc')
 obtain ⟨pe, hpe⟩ : ∃ pe, avgE l a b = pe := ⟨_, rfl⟩
 obtain ⟨pl, hpl⟩ : ∃ pl, avgL l a b = pl := ⟨_, rfl⟩
 obtain ⟨E, hE⟩ : ∃ E, chkE l = E := ⟨_, rfl⟩
 have HPE := zh hpe
 have HPL := zh hpl
 have HEE := zh hE
 rw [hpe, hpl]
 rw [hE] at CK
 clear hpe hpl hE
 have HL := zh hl
 have HA := zh hA
 have NN := zh (Below.refl w.heap.size w)
 clear hl hA
 refine (callsIn_wide (n := 0)).1 ?_
 refine callsIn_of_wp_marks Tryz.func16 rfl trivial ?_ rfl
 simp only [Tryz.ntmps16, List.size_toArray, List.length_cons, List.length_nil, Nat.reduceAdd, Nat.reduceSub, Array.replicate_succ, Array.replicate_zero, List.push_toArray, List.append_toArray, List.nil_append, List.cons_append]
 refine wpIn_wide.2 ?_
 go_wp2_with fail
 have V4 : Hid (((w.alloc (.cells #[.int .i64 a] 3)).alloc (.cells #[.int .i64 b] 3)).heap[w.heap.size]? = some (.cells #[.int .i64 a] 3)) := zh (blk_alloc (blk_new w _) _)
 have V5 : Hid (((w.alloc (.cells #[.int .i64 a] 3)).alloc (.cells #[.int .i64 b] 3)).heap[w.heap.size + 1]? = some (.cells #[.int .i64 b] 3)) := zh (blk_at _ (by simp))
 replace NN : Hid (Below w.heap.size w ((w.alloc (.cells #[.int .i64 a] 3)).alloc (.cells #[.int .i64 b] 3))) := zh (Bal (Bal NN.out _) _)
 generalize ((w.alloc (.cells #[.int .i64 a] 3)).alloc (.cells #[.int .i64 b] 3)) = W1 at *
 refine (CK.out _ NN.out).mono ?_
 rintro e w2 ⟨rfl, hb⟩
 replace NN := zh (Bgo NN.out hb)
 replace V4 := zn hb V4
 replace V5 := zn hb V5
 clear hb
 by_cases h0 : E ≠ 0
 ·have q1 : (E != 0) = true := by simpa using h0
  have HE0 := zh h0
  clear h0
  obtain ⟨c_V4_0, f_V4_0, l_V4⟩ := zfl1 V4
  obtain ⟨c_V5_0, f_V5_0, l_V5⟩ := zfl1 V5
  go_wp2_with fail
  clear c_V4_0 f_V4_0 l_V4 c_V5_0 f_V5_0 l_V5
  have h1 : avgE l a b = E := by unfold avgE; rw [HEE.out, if_pos HE0.out]
  have h2 : avgL l a b = [] := by unfold avgL; rw [h1]; exact if_neg HE0.out
  exact ⟨.tuple #[.slice none 0 0, .int .i64 E], by simp [results, Tryz.results16, go_sem], ⟨_, by rw [← HPE.out, h1], by rw [← HPL.out, h2]; exact OR.nil _ _, NN.out⟩⟩
 have h0' : E = 0 := by omega
 subst h0'
 clear h0
 obtain ⟨hg, hn⟩ := chkE_good HEE.out
 have HG := zh hg
 clear hg
 have hc5 : a < 1 ∨ (1 ≤ a ∧ 64 < a) ∨ (1 ≤ a ∧ a ≤ 64 ∧ b < 1) ∨ (1 ≤ a ∧ a ≤ 64 ∧ 1 ≤ b ∧ 16 < b) ∨ (1 ≤ a ∧ a ≤ 64 ∧ 1 ≤ b ∧ b ≤ 16) := by omega
 rcases hc5 with h | ⟨h, h1⟩ | ⟨h, h1, h2⟩ | ⟨h, h1, h2, h3⟩ | ⟨h, h1, h2, h3⟩
 ·have d1 : decide (a < 1) = true := by simp; omega
  obtain ⟨c_V4_0, f_V4_0, l_V4⟩ := zfl1 V4
  obtain ⟨c_V5_0, f_V5_0, l_V5⟩ := zfl1 V5
  go_wp2_with fail
  clear c_V4_0 f_V4_0 l_V4 c_V5_0 f_V5_0 l_V5
  have h1 : avgE l a b = 2 := by unfold avgE; rw [HEE.out, if_neg (by omega), if_pos (by omega)]
  have h2 : avgL l a b = [] := by unfold avgL; rw [h1]; exact if_neg (by omega)
  exact ⟨.tuple #[.slice none 0 0, .int .i64 2], by simp [results, Tryz.results16, go_sem], ⟨_, by rw [← HPE.out, h1], by rw [← HPL.out, h2]; exact OR.nil _ _, NN.out⟩⟩
 ·have d1 : decide (a < 1) = false := by simp; omega
  have d2 : decide (64 < a) = true := by simp; omega
  obtain ⟨c_V4_0, f_V4_0, l_V4⟩ := zfl1 V4
  obtain ⟨c_V5_0, f_V5_0, l_V5⟩ := zfl1 V5
  go_wp2_with fail
  clear c_V4_0 f_V4_0 l_V4 c_V5_0 f_V5_0 l_V5
  have h1 : avgE l a b = 2 := by unfold avgE; rw [HEE.out, if_neg (by omega), if_pos (by omega)]
  have h2 : avgL l a b = [] := by unfold avgL; rw [h1]; exact if_neg (by omega)
  exact ⟨.tuple #[.slice none 0 0, .int .i64 2], by simp [results, Tryz.results16, go_sem], ⟨_, by rw [← HPE.out, h1], by rw [← HPL.out, h2]; exact OR.nil _ _, NN.out⟩⟩
 ·have d1 : decide (a < 1) = false := by simp; omega
  have d2 : decide (64 < a) = false := by simp; omega
  have d3 : decide (b < 1) = true := by simp; omega
  obtain ⟨c_V4_0, f_V4_0, l_V4⟩ := zfl1 V4
  obtain ⟨c_V5_0, f_V5_0, l_V5⟩ := zfl1 V5
  go_wp2_with fail
  clear c_V4_0 f_V4_0 l_V4 c_V5_0 f_V5_0 l_V5
  have h1 : avgE l a b = 2 := by unfold avgE; rw [HEE.out, if_neg (by omega), if_pos (by omega)]
  have h2 : avgL l a b = [] := by unfold avgL; rw [h1]; exact if_neg (by omega)
  exact ⟨.tuple #[.slice none 0 0, .int .i64 2], by simp [results, Tryz.results16, go_sem], ⟨_, by rw [← HPE.out, h1], by rw [← HPL.out, h2]; exact OR.nil _ _, NN.out⟩⟩
 ·have d1 : decide (a < 1) = false := by simp; omega
  have d2 : decide (64 < a) = false := by simp; omega
  have d3 : decide (b < 1) = false := by simp; omega
  have d4 : decide (16 < b) = true := by simp; omega
  obtain ⟨c_V4_0, f_V4_0, l_V4⟩ := zfl1 V4
  obtain ⟨c_V5_0, f_V5_0, l_V5⟩ := zfl1 V5
  go_wp2_with fail
  clear c_V4_0 f_V4_0 l_V4 c_V5_0 f_V5_0 l_V5
  have h1 : avgE l a b = 2 := by unfold avgE; rw [HEE.out, if_neg (by omega), if_pos (by omega)]
  have h2 : avgL l a b = [] := by unfold avgL; rw [h1]; exact if_neg (by omega)
  exact ⟨.tuple #[.slice none 0 0, .int .i64 2], by simp [results, Tryz.results16, go_sem], ⟨_, by rw [← HPE.out, h1], by rw [← HPL.out, h2]; exact OR.nil _ _, NN.out⟩⟩
 have HRE : Hid (pe = (avR a b l).1) := zh (by rw [← HPE.out]; unfold avgE; rw [HEE.out, if_neg (by omega), if_neg (by omega)])
 have HRL : Hid (pl = if pe = 0 then (avR a b l).2 else []) := zh (by rw [← HPL.out]; unfold avgL; rw [HPE.out])
 clear HPE HPL HEE CK
 have d1 : decide (a < 1) = false := by simp; omega
 have d2 : decide (64 < a) = false := by simp; omega
 have d3 : decide (b < 1) = false := by simp; omega
 have d4 : decide (16 < b) = false := by simp; omega
 have hm := make_rows l.length (by omega)
 obtain ⟨c_V4_0, f_V4_0, l_V4⟩ := zfl1 V4
 obtain ⟨c_V5_0, f_V5_0, l_V5⟩ := zfl1 V5
 go_wp2_with fail
 clear c_V4_0 f_V4_0 l_V4 c_V5_0 f_V5_0 l_V5
 refine (rows_calls A _ c _).mono ?_
 rintro e w9 ⟨rfl, rfl⟩
 go_wp2_with fail
 clear d1 d2 d3 d4 hm
 have LG : Hid (w.heap.size + 2 ≤ w2.heap.size) := zh (by have := blk_lt V5.out; omega)
 replace NN : Hid (Below w.heap.size w (((w2.alloc (.cells (vrc (List.replicate l.length zvr)).toArray 67)).alloc (.cells #[.slice (some ⟨w2.heap.size, 0, none⟩) 0 l.length] 91)).alloc (.cells #[.slice A l.length c] 22))) := zh (Bal (Bal (Bal NN.out _) _) _)
 have SZ : Hid ((((w2.alloc (.cells (vrc (List.replicate l.length zvr)).toArray 67)).alloc (.cells #[.slice (some ⟨w2.heap.size, 0, none⟩) 0 l.length] 91)).alloc (.cells #[.slice A l.length c] 22)).heap.size = w2.heap.size + 3) := zh (by simp)
 replace V4 : Hid ((((w2.alloc (.cells (vrc (List.replicate l.length zvr)).toArray 67)).alloc (.cells #[.slice (some ⟨w2.heap.size, 0, none⟩) 0 l.length] 91)).alloc (.cells #[.slice A l.length c] 22)).heap[w.heap.size]? = some (.cells #[.int .i64 a] 3)) := zh (blk_alloc (blk_alloc (blk_alloc V4.out _) _) _)
 replace V5 : Hid ((((w2.alloc (.cells (vrc (List.replicate l.length zvr)).toArray 67)).alloc (.cells #[.slice (some ⟨w2.heap.size, 0, none⟩) 0 l.length] 91)).alloc (.cells #[.slice A l.length c] 22)).heap[w.heap.size + 1]? = some (.cells #[.int .i64 b] 3)) := zh (blk_alloc (blk_alloc (blk_alloc V5.out _) _) _)
 have RB : Hid ((((w2.alloc (.cells (vrc (List.replicate l.length zvr)).toArray 67)).alloc (.cells #[.slice (some ⟨w2.heap.size, 0, none⟩) 0 l.length] 91)).alloc (.cells #[.slice A l.length c] 22)).heap[w2.heap.size]? = some (.cells (vrc (List.replicate l.length zvr)).toArray 67)) := zh (blk_alloc (blk_alloc (blk_new w2 _) _) _)
 have V9 : Hid ((((w2.alloc (.cells (vrc (List.replicate l.length zvr)).toArray 67)).alloc (.cells #[.slice (some ⟨w2.heap.size, 0, none⟩) 0 l.length] 91)).alloc (.cells #[.slice A l.length c] 22)).heap[w2.heap.size + 1]? = some (.cells #[.slice (some ⟨w2.heap.size, 0, none⟩) 0 l.length] 91)) := zh (blk_alloc (blk_at _ (by simp)) _)
 have VT : Hid ((((w2.alloc (.cells (vrc (List.replicate l.length zvr)).toArray 67)).alloc (.cells #[.slice (some ⟨w2.heap.size, 0, none⟩) 0 l.length] 91)).alloc (.cells #[.slice A l.length c] 22)).heap[w2.heap.size + 1 + 1]? = some (.cells #[.slice A l.length c] 22)) := zh (blk_at _ (by simp))
 generalize (((w2.alloc (.cells (vrc (List.replicate l.length zvr)).toArray 67)).alloc (.cells #[.slice (some ⟨w2.heap.size, 0, none⟩) 0 l.length] 91)).alloc (.cells #[.slice A l.length c] 22)) = W0 at *
 generalize w2.heap.size = gR at *
 refine wpIn_wide.1 (range_n 50 #[.pointer (some ⟨gR + 1 + 1, 0, none⟩)] rfl (enters_of Tryz.func50 (by kernel_rfl) rfl) (encR l) w.heap.size l.length
  (rows_seq (HL.out.next NN.out) HA.out (by omega) (by have := SZ.out; have := LG.out; omega) VT.out) (by have := SZ.out; have := LG.out; omega) (fun _ => rfl)
  (fun k W => (W.heap[w.heap.size]? = some (.cells #[.int .i64 a] 3)) ∧ (W.heap[w.heap.size + 1]? = some (.cells #[.int .i64 b] 3)) ∧ (W.heap[gR]? = some (.cells (vrc ((l.take k).map (avT a b) ++ List.replicate (l.length - k) zvr)).toArray 67)) ∧ (W.heap[gR + 1]? = some (.cells #[.slice (some ⟨gR, 0, none⟩) k l.length] 91)) ∧ (Below w.heap.size w W) ∧ (gR + 3 ≤ W.heap.size))
  (fun cd k W => False)
  (fun k a' W => ∃ Bx : Nat, (a' = { tmps := #[.slice A l.length c, .int .i64 a, .int .i64 b, undef, .pointer (some ⟨w.heap.size, 0, none⟩), .pointer (some ⟨w.heap.size + 1, 0, none⟩), .slice none 0 0, .int .i64 0, .int .i64 0, .pointer (some ⟨gR + 1, 0, none⟩), undef, .pointer (some ⟨Bx, 0, none⟩), undef, undef, undef, undef, undef, .slice A l.length c, .int .i64 0, .int .i64 0, .bool false, undef, .int .i64 a, .bool false, .bool false, .int .i64 a, .bool false, .bool false, .bool false, .int .i64 b, .bool false, .bool false, .bool false, .int .i64 b, .bool false, .bool false, .slice A l.length c, .int .i64 (l.length : Int), .slice (some ⟨gR, 0, none⟩) 0 l.length, .slice A l.length c, .func (.func 50) #[] #[.pointer (some ⟨gR + 1 + 1, 0, none⟩)], .int .i64 (k : Int), Rwv (rowAt l k), undef, undef, undef, undef, undef, undef, undef, undef, undef, undef, undef, undef, undef, undef, undef, undef, undef, undef, undef, undef, undef, undef, undef, undef, undef, undef, undef, undef, undef, undef, undef, undef, undef, undef, undef, undef, undef, undef, undef, undef, undef, undef, undef, undef, undef, undef, undef, undef, undef, undef, undef, undef, undef, undef, undef, undef, undef, undef, undef, undef, undef, undef], defers := [] }) ∧ (gR + 3 ≤ Bx) ∧ (W.heap[Bx]? = some (.cells #[.int .i64 (rowAt l k).t, .int .i64 (rowAt l k).c, .int .i64 (rowAt l k).i, .int .i64 (rowAt l k).j, .int .i64 (rowAt l k).re, .int .i64 (rowAt l k).im, .int .i64 (rowAt l k).dn, .int .i64 (rowAt l k).n] 67)) ∧ (W.heap[w.heap.size]? = some (.cells #[.int .i64 a] 3)) ∧ (W.heap[w.heap.size + 1]? = some (.cells #[.int .i64 b] 3)) ∧ (W.heap[gR]? = some (.cells (vrc ((l.take k).map (avT a b) ++ List.replicate (l.length - k) zvr)).toArray 67)) ∧ (W.heap[gR + 1]? = some (.cells #[.slice (some ⟨gR, 0, none⟩) k l.length] 91)) ∧ (Below w.heap.size w W) ∧ (gR + 3 ≤ W.heap.size))
  ((own_blk _ _ _).and ((own_blk _ _ _).and ((own_blk _ _ _).and ((own_blk _ _ _).and ((ownFrom_below (Nat.le_refl _) (by have := SZ.out; have := LG.out; omega)).and (own_size _))))))
  (fun _ => (own_pure _))
  (fun _ => own_ex fun _ => ((own_pure _).and ((own_pure _).and ((own_blk _ _ _).and ((own_blk _ _ _).and ((own_blk _ _ _).and ((own_blk _ _ _).and ((own_blk _ _ _).and ((ownFrom_below (Nat.le_refl _) (by have := SZ.out; have := LG.out; omega)).and (own_size _))))))))))
  ⟨V4.out, V5.out, (by simpa using RB.out), V9.out, NN.out, (by have := SZ.out; have := LG.out; omega)⟩ ?assign ?body ?done ?stop)
 case assign =>
  rintro lp k W K ⟨v4, v5, rb, v9, nn, sz⟩ hlt hK
  gi_wp2
  exact hK _ _ (keeps_of_below (Bal (Below.refl _ _) _)) ((Below.refl _ W).alloc nn.size _) ⟨W.heap.size, rfl, sz, blk_new W _, blk_alloc v4 _, blk_alloc v5 _, blk_alloc rb _, blk_alloc v9 _, Bal nn _, by rw [World.size_alloc]; omega⟩
 case body =>
  rintro lp k a' W ⟨Bx, rfl, lx, vx, v4, v5, rb, v9, nn, sz⟩ hlt
  have hz := SZ.out
  have hg := LG.out
  have HS : Hid (((l.take k).map (avT a b) ++ List.replicate (l.length - k) zvr).length = l.length) := zh (by simp; omega)
  have HN : Hid (((l.take k).map (avT a b) ++ List.replicate (l.length - k) zvr).set k (avT a b (rowAt l k)) = (l.take (k + 1)).map (avT a b) ++ List.replicate (l.length - (k + 1)) zvr) := zh (row_step hlt)
  have HT : Hid ((avT a b (rowAt l k)) = { rowAt l k with t := (rowAt l k).t.tdiv a, c := (rowAt l k).c.tdiv b }) := zh rfl
  have hrf := rowB_facts (show rowB (rowAt l k) = true by rw [rowAt_lt hlt]; exact goodF_row HG.out _ (List.getElem_mem hlt))
  generalize ((l.take k).map (avT a b) ++ List.replicate (l.length - k) zvr) = L9 at *
  generalize rowAt l k = s at *
  have t1 := quo_bd hrf.1 hrf.2.1 (show 1 ≤ a by omega)
  have t2 := quo_bd hrf.2.2.1 hrf.2.2.2.1 (show 1 ≤ b by omega)
  rw [← Int.tdiv_eq_ediv_of_nonneg hrf.1] at t1
  rw [← Int.tdiv_eq_ediv_of_nonneg hrf.2.2.1] at t2
  generalize avT a b s = s9 at *
  obtain ⟨x1, hx1⟩ : ∃ x, s.t.tdiv a = x := ⟨_, rfl⟩
  obtain ⟨x2, hx2⟩ : ∃ x, s.c.tdiv b = x := ⟨_, rfl⟩
  rw [hx1] at t1 HT
  rw [hx2] at t2 HT
  have hw1 : IntKind.i64.wrap x1 = x1 := IntWalk.i64_in _ (by omega)
  have hw2 : IntKind.i64.wrap x2 = x2 := IntWalk.i64_in _ (by omega)
  have ha0 : (a == 0) = false := by simp; omega
  have hb0 : (b == 0) = false := by simp; omega
  have SW : Hid (W0.heap.size ≤ W.heap.size) := zh (by omega)
  have NN := zh nn
  have KF := zh (KeepsFrom.refl W0.heap.size W)
  have V4 := zh v4
  have V5 := zh v5
  have V9 := zh v9
  have VX := zh vx
  have RB := zh rb
  have LW : Hid (Bx < W.heap.size ∧ gR + 1 < W.heap.size ∧ w.heap.size + 1 < gR ∧ gR + 1 < Bx) := zh ⟨blk_lt vx, by omega, by omega, by omega⟩
  clear v4 v5 v9 vx rb
  gi_wp2_with fail
  have HDRW := zh (Below.drew (Below.refl W.heap.size W))
  replace NN := zh (Bgo NN.out HDRW.out)
  replace KF := zh ((KF.out).trans (keeps_of_below HDRW.out))
  replace RB := zn HDRW RB
  replace V4 := zn HDRW V4
  replace V5 := zn HDRW V5
  replace V9 := zn HDRW V9
  replace VX := zn HDRW VX
  clear HDRW
  have HAL : Hid (∀ kx9 : Nat, GK [(1, Bx, .cells #[.int .i64 s.t, .int .i64 s.c, .int .i64 s.i, .int .i64 s.j, .int .i64 s.re, .int .i64 s.im, .int .i64 s.dn, .int .i64 s.n] 67), (2, w.heap.size, .cells #[.int .i64 a] 3), (5, Bx, .cells #[.int .i64 s.t, .int .i64 s.c, .int .i64 s.i, .int .i64 s.j, .int .i64 s.re, .int .i64 s.im, .int .i64 s.dn, .int .i64 s.n] 67), (6, w.heap.size + 1, .cells #[.int .i64 b] 3)] kx9 W.drew) := zh (fun kx9 => fun px9 hp e => by
   simp only [List.mem_cons, List.not_mem_nil, or_false] at hp
   rcases hp with rfl | rfl | rfl | rfl
   ·exact VX.out
   ·exact V4.out
   ·exact VX.out
   ·exact V5.out
  )
  refine region_G_round (S := GK [(1, Bx, .cells #[.int .i64 s.t, .int .i64 s.c, .int .i64 s.i, .int .i64 s.j, .int .i64 s.re, .int .i64 s.im, .int .i64 s.dn, .int .i64 s.n] 67), (2, w.heap.size, .cells #[.int .i64 a] 3), (5, Bx, .cells #[.int .i64 s.t, .int .i64 s.c, .int .i64 s.i, .int .i64 s.j, .int .i64 s.re, .int .i64 s.im, .int .i64 s.dn, .int .i64 s.n] 67), (6, w.heap.size + 1, .cells #[.int .i64 b] 3)]) ?_ ?_ ?_ ?_
  ·kernel_rfl
  ·kernel_rfl
  ·rintro ⟨_, _, h⟩
   exact h
  refine tP 0 (.pointer (some ⟨Bx, 0, none⟩)) (some 43) rfl ?_ ?_
  ·intro X hX
   clear hX
   go_simp
   all_goals omega
  try simp only [Act.put, zA, zB, zC]
  refine tG 1 (.int .i64 s.t) (some 44) (GK.grow _) rfl (YieldsIf.toG (Or.inl ⟨by rfl, ?_⟩)) (HAL.out 1) ?_
  ·intro X hX
   have hh := hX (1, Bx, .cells #[.int .i64 s.t, .int .i64 s.c, .int .i64 s.i, .int .i64 s.j, .int .i64 s.re, .int .i64 s.im, .int .i64 s.dn, .int .i64 s.n] 67) (List.Mem.head _) rfl
   have hh0 := blk_cell hh 0 _ rfl
   have hhl := blk_lt hh
   clear hh
   clear hX
   go_simp
   all_goals omega
  try simp only [Act.put, zA, zB, zC]
  refine tG 2 (.int .i64 a) (some 45) (GK.grow _) rfl (YieldsIf.toG (Or.inl ⟨by rfl, ?_⟩)) (HAL.out 2) ?_
  ·intro X hX
   have hh := hX (2, w.heap.size, .cells #[.int .i64 a] 3) (List.Mem.tail _ (List.Mem.head _)) rfl
   have hh0 := blk_cell hh 0 _ rfl
   have hhl := blk_lt hh
   clear hh
   clear hX
   go_simp
   all_goals omega
  try simp only [Act.put, zA, zB, zC]
  refine tP 3 (.int .i64 x1) (some 46) rfl ?_ ?_
  ·intro X hX
   clear hX
   go_simp
   all_goals omega
  try simp only [Act.put, zA, zB, zC]
  refine tP 4 (.pointer (some ⟨Bx, 1, none⟩)) (some 47) rfl ?_ ?_
  ·intro X hX
   clear hX
   go_simp
   all_goals omega
  try simp only [Act.put, zA, zB, zC]
  refine tG 5 (.int .i64 s.c) (some 48) (GK.grow _) rfl (YieldsIf.toG (Or.inl ⟨by rfl, ?_⟩)) (HAL.out 5) ?_
  ·intro X hX
   have hh := hX (5, Bx, .cells #[.int .i64 s.t, .int .i64 s.c, .int .i64 s.i, .int .i64 s.j, .int .i64 s.re, .int .i64 s.im, .int .i64 s.dn, .int .i64 s.n] 67) (List.Mem.tail _ (List.Mem.tail _ (List.Mem.head _))) rfl
   have hh0 := blk_cell hh 1 _ rfl
   have hhl := blk_lt hh
   clear hh
   clear hX
   go_simp
   all_goals omega
  try simp only [Act.put, zA, zB, zC]
  refine tG 6 (.int .i64 b) (some 49) (GK.grow _) rfl (YieldsIf.toG (Or.inl ⟨by rfl, ?_⟩)) (HAL.out 6) ?_
  ·intro X hX
   have hh := hX (6, w.heap.size + 1, .cells #[.int .i64 b] 3) (List.Mem.tail _ (List.Mem.tail _ (List.Mem.tail _ (List.Mem.head _)))) rfl
   have hh0 := blk_cell hh 0 _ rfl
   have hhl := blk_lt hh
   clear hh
   clear hX
   go_simp
   all_goals omega
  try simp only [Act.put, zA, zB, zC]
  refine tP 7 (.int .i64 x2) (some 50) rfl ?_ ?_
  ·intro X hX
   clear hX
   go_simp
   all_goals omega
  try simp only [Act.put, zA, zB, zC]
  refine tP 8 (.pointer (some ⟨Bx, 0, none⟩)) (some 51) rfl ?_ ?_
  ·intro X hX
   clear hX
   go_simp
   all_goals omega
  try simp only [Act.put, zA, zB, zC]
  refine only_G 9 (by kernel_rfl) rfl (fun X1 hX K' hK' => ?_)
  replace NN := zh (Bgo NN.out hX)
  replace KF := zh ((KF.out).trans (keeps_of_below hX))
  replace RB := zn hX RB
  replace V4 := zn hX V4
  replace V5 := zn hX V5
  replace V9 := zn hX V9
  replace VX := zn hX VX
  replace HAL := zh (fun kx9 => GK.grow _ _ _ _ (HAL.out kx9) hX)
  clear hX
  obtain ⟨c_VX_0, f_VX_0, c_VX_1, f_VX_1, c_VX_2, f_VX_2, c_VX_3, f_VX_3, c_VX_4, f_VX_4, c_VX_5, f_VX_5, c_VX_6, f_VX_6, c_VX_7, f_VX_7, l_VX⟩ := zfl8 VX
  go_simp
  clear c_VX_0 f_VX_0 c_VX_1 f_VX_1 c_VX_2 f_VX_2 c_VX_3 f_VX_3 c_VX_4 f_VX_4 c_VX_5 f_VX_5 c_VX_6 f_VX_6 c_VX_7 f_VX_7 l_VX
  refine hK'.out _ _ (fun kk hk hS => ?_) ?_
  ·have HN : ∀ px9 ∈ ([(1, Bx, .cells #[.int .i64 s.t, .int .i64 s.c, .int .i64 s.i, .int .i64 s.j, .int .i64 s.re, .int .i64 s.im, .int .i64 s.dn, .int .i64 s.n] 67), (2, w.heap.size, .cells #[.int .i64 a] 3), (5, Bx, .cells #[.int .i64 s.t, .int .i64 s.c, .int .i64 s.i, .int .i64 s.j, .int .i64 s.re, .int .i64 s.im, .int .i64 s.dn, .int .i64 s.n] 67), (6, w.heap.size + 1, .cells #[.int .i64 b] 3)] : List (Nat × Nat × Obj)), px9.1 = kk → px9.2.1 ≠ Bx := fun px9 hp e => by
    simp only [List.mem_cons, List.not_mem_nil, or_false] at hp
    rcases hp with rfl | rfl | rfl | rfl
    ·subst e
     exact bfl (by kernel_rfl) hk
    ·subst e
     exact bfl (by kernel_rfl) hk
    ·subst e
     exact bfl (by kernel_rfl) hk
    ·show w.heap.size + 1 ≠ Bx
     have := LW.out; have := LW.out; have := LW.out; have := LW.out; omega
   exact GK.set hS HN
  clear hK' K'
  try simp only [Act.put, zA, zB, zC]
  clear HAL
  replace KF := zh (keep_set (KF.out) (Bx) 0 (.int .i64 x1))
  replace RB := zh (blk_set_other (b' := Bx) (RB.out) (by have := LW.out; omega) 0 (.int .i64 x1))
  generalize hW : (X1.setCell ⟨Bx, 0, none⟩ (.int .i64 x1)) = W2 at *
  replace V4 : Hid (W2.heap[w.heap.size]? = some (.cells #[.int .i64 a] 3)) := zs hW (blk_set_other (V4.out) (by have := LW.out; omega) 0 (.int .i64 x1))
  replace V5 : Hid (W2.heap[w.heap.size + 1]? = some (.cells #[.int .i64 b] 3)) := zs hW (blk_set_other (V5.out) (by have := LW.out; omega) 0 (.int .i64 x1))
  replace V9 : Hid (W2.heap[gR + 1]? = some (.cells #[.slice (some ⟨gR, 0, none⟩) k l.length] 91)) := zs hW (blk_set_other (V9.out) (by have := LW.out; omega) 0 (.int .i64 x1))
  replace VX : Hid (W2.heap[Bx]? = some (.cells #[.int .i64 x1, .int .i64 s.c, .int .i64 s.i, .int .i64 s.j, .int .i64 s.re, .int .i64 s.im, .int .i64 s.dn, .int .i64 s.n] 67)) := zs hW (blk_set (VX.out) 0 (.int .i64 x1))
  replace NN := zt hW (p := Below _ _) (Bset1 (NN.out) (by have := LW.out; omega) 0 (.int .i64 x1))
  clear hW
  refine tP 10 (.pointer (some ⟨Bx, 1, none⟩)) (some 52) rfl ?_ ?_
  ·intro X hX
   clear hX
   go_simp
   all_goals omega
  try simp only [Act.put, zA, zB, zC]
  refine only_G 11 (by kernel_rfl) rfl (fun X3 hX K' hK' => ?_)
  replace NN := zh (Bgo NN.out hX)
  replace KF := zh ((KF.out).trans (keeps_of_below hX))
  replace RB := zn hX RB
  replace V4 := zn hX V4
  replace V5 := zn hX V5
  replace V9 := zn hX V9
  replace VX := zn hX VX
  skip
  clear hX
  obtain ⟨c_VX_0, f_VX_0, c_VX_1, f_VX_1, c_VX_2, f_VX_2, c_VX_3, f_VX_3, c_VX_4, f_VX_4, c_VX_5, f_VX_5, c_VX_6, f_VX_6, c_VX_7, f_VX_7, l_VX⟩ := zfl8 VX
  go_simp
  clear c_VX_0 f_VX_0 c_VX_1 f_VX_1 c_VX_2 f_VX_2 c_VX_3 f_VX_3 c_VX_4 f_VX_4 c_VX_5 f_VX_5 c_VX_6 f_VX_6 c_VX_7 f_VX_7 l_VX
  refine hK'.out _ _ (fun kk hk hS => ?_) ?_
  ·have HN : ∀ px9 ∈ ([(1, Bx, .cells #[.int .i64 s.t, .int .i64 s.c, .int .i64 s.i, .int .i64 s.j, .int .i64 s.re, .int .i64 s.im, .int .i64 s.dn, .int .i64 s.n] 67), (2, w.heap.size, .cells #[.int .i64 a] 3), (5, Bx, .cells #[.int .i64 s.t, .int .i64 s.c, .int .i64 s.i, .int .i64 s.j, .int .i64 s.re, .int .i64 s.im, .int .i64 s.dn, .int .i64 s.n] 67), (6, w.heap.size + 1, .cells #[.int .i64 b] 3)] : List (Nat × Nat × Obj)), px9.1 = kk → px9.2.1 ≠ Bx := fun px9 hp e => by
    simp only [List.mem_cons, List.not_mem_nil, or_false] at hp
    rcases hp with rfl | rfl | rfl | rfl
    ·subst e
     exact bfl (by kernel_rfl) hk
    ·subst e
     exact bfl (by kernel_rfl) hk
    ·subst e
     exact bfl (by kernel_rfl) hk
    ·subst e
     exact bfl (by kernel_rfl) hk
   exact GK.set hS HN
  clear hK' K'
  try simp only [Act.put, zA, zB, zC]
  replace KF := zh (keep_set (KF.out) (Bx) 1 (.int .i64 x2))
  replace RB := zh (blk_set_other (b' := Bx) (RB.out) (by have := LW.out; omega) 1 (.int .i64 x2))
  generalize hW : (X3.setCell ⟨Bx, 1, none⟩ (.int .i64 x2)) = W4 at *
  replace V4 : Hid (W4.heap[w.heap.size]? = some (.cells #[.int .i64 a] 3)) := zs hW (blk_set_other (V4.out) (by have := LW.out; omega) 1 (.int .i64 x2))
  replace V5 : Hid (W4.heap[w.heap.size + 1]? = some (.cells #[.int .i64 b] 3)) := zs hW (blk_set_other (V5.out) (by have := LW.out; omega) 1 (.int .i64 x2))
  replace V9 : Hid (W4.heap[gR + 1]? = some (.cells #[.slice (some ⟨gR, 0, none⟩) k l.length] 91)) := zs hW (blk_set_other (V9.out) (by have := LW.out; omega) 1 (.int .i64 x2))
  replace VX : Hid (W4.heap[Bx]? = some (.cells #[.int .i64 x1, .int .i64 x2, .int .i64 s.i, .int .i64 s.j, .int .i64 s.re, .int .i64 s.im, .int .i64 s.dn, .int .i64 s.n] 67)) := zs hW (blk_set (VX.out) 1 (.int .i64 x2))
  replace NN := zt hW (p := Below _ _) (Bset1 (NN.out) (by have := LW.out; omega) 1 (.int .i64 x2))
  clear hW
  refine done_G (by kernel_rfl) (fun X5 hX => ?_) _
  replace NN := zh (Bgo NN.out hX)
  replace KF := zh ((KF.out).trans (keeps_of_below hX))
  replace RB := zn hX RB
  replace V4 := zn hX V4
  replace V5 := zn hX V5
  replace V9 := zn hX V9
  replace VX := zn hX VX
  clear hX
  clear hx1 hx2 hw1 hw2 ha0 hb0
  have hs9 := HT.out
  subst hs9
  clear HT
  have RBn : Hid (RW ((X5.alloc (.cells #[.int .i64 x1, .int .i64 x2, .int .i64 s.i, .int .i64 s.j, .int .i64 s.re, .int .i64 s.im, .int .i64 s.dn, .int .i64 s.n] 67)).setRow gR (vrc (L9.set k { s with t := x1, c := x2 })).toArray) gR (L9.set k { s with t := x1, c := x2 })) := zh (RW.row (L := L9) (blk_alloc RB.out _))
  have V4n : Hid (((X5.alloc (.cells #[.int .i64 x1, .int .i64 x2, .int .i64 s.i, .int .i64 s.j, .int .i64 s.re, .int .i64 s.im, .int .i64 s.dn, .int .i64 s.n] 67)).setRow gR (vrc (L9.set k { s with t := x1, c := x2 })).toArray).heap[w.heap.size]? = some (.cells #[.int .i64 a] 3)) := zh ((setRow_other _ gR (w.heap.size) _ (by omega)).trans (blk_alloc V4.out _))
  have V5n : Hid (((X5.alloc (.cells #[.int .i64 x1, .int .i64 x2, .int .i64 s.i, .int .i64 s.j, .int .i64 s.re, .int .i64 s.im, .int .i64 s.dn, .int .i64 s.n] 67)).setRow gR (vrc (L9.set k { s with t := x1, c := x2 })).toArray).heap[w.heap.size + 1]? = some (.cells #[.int .i64 b] 3)) := zh ((setRow_other _ gR (w.heap.size + 1) _ (by omega)).trans (blk_alloc V5.out _))
  have V9n : Hid (((X5.alloc (.cells #[.int .i64 x1, .int .i64 x2, .int .i64 s.i, .int .i64 s.j, .int .i64 s.re, .int .i64 s.im, .int .i64 s.dn, .int .i64 s.n] 67)).setRow gR (vrc (L9.set k { s with t := x1, c := x2 })).toArray).heap[gR + 1]? = some (.cells #[.slice (some ⟨gR, 0, none⟩) k l.length] 91)) := zh ((setRow_other _ gR (gR + 1) _ (by omega)).trans (blk_alloc V9.out _))
  have NNn : Hid (Below w.heap.size w ((X5.alloc (.cells #[.int .i64 x1, .int .i64 x2, .int .i64 s.i, .int .i64 s.j, .int .i64 s.re, .int .i64 s.im, .int .i64 s.dn, .int .i64 s.n] 67)).setRow gR (vrc (L9.set k { s with t := x1, c := x2 })).toArray)) := zh (below_setRow (Bal NN.out _) (show w.heap.size ≤ gR by omega) _)
  have KFn : Hid (KeepsFrom W0.heap.size W ((X5.alloc (.cells #[.int .i64 x1, .int .i64 x2, .int .i64 s.i, .int .i64 s.j, .int .i64 s.re, .int .i64 s.im, .int .i64 s.dn, .int .i64 s.n] 67)).setRow gR (vrc (L9.set k { s with t := x1, c := x2 })).toArray)) := zh (keep_row (KF.out.trans (keeps_of_below (Bal (Below.refl _ _) _))) gR _)
  obtain ⟨c_V9_0, f_V9_0, l_V9⟩ := zfl1 V9
  obtain ⟨c_VX_0, f_VX_0, c_VX_1, f_VX_1, c_VX_2, f_VX_2, c_VX_3, f_VX_3, c_VX_4, f_VX_4, c_VX_5, f_VX_5, c_VX_6, f_VX_6, c_VX_7, f_VX_7, l_VX⟩ := zfl8 VX
  gi_wp2_with (gi_at_builtin; refine wpListIn_room rfl _ _ rfl gR k l.length L9 rfl (some ⟨X5.heap.size, 0, none⟩) 1 { s with t := x1, c := x2 } rfl HS.out (blk_alloc RB.out _) hlt (RT.one (blk_new X5 _)) ?_; generalize ((X5.alloc (.cells #[.int .i64 x1, .int .i64 x2, .int .i64 s.i, .int .i64 s.j, .int .i64 s.re, .int .i64 s.im, .int .i64 s.dn, .int .i64 s.n] 67)).setRow gR (vrc (L9.set k { s with t := x1, c := x2 })).toArray) = w1 at *; have c9a := blk_cell V9n.out 0 _ rfl; have f9a := blk_frozen V9n.out 0; have l9a := blk_lt V9n.out)
  clear c_V9_0 f_V9_0 l_V9 c_VX_0 f_VX_0 c_VX_1 f_VX_1 c_VX_2 f_VX_2 c_VX_3 f_VX_3 c_VX_4 f_VX_4 c_VX_5 f_VX_5 c_VX_6 f_VX_6 c_VX_7 f_VX_7 l_VX
  clear c9a f9a l9a V4 V5 V9 VX RB NN KF
  refine ⟨keep_set KFn.out (gR + 1) 0 _, below_mid nn (Bset1 NNn.out (show w.heap.size ≤ gR + 1 by omega) 0 _) (keep_set KFn.out (gR + 1) 0 (.slice (some ⟨gR, 0, none⟩) (k + 1) l.length)).size, blk_set_other (b' := gR + 1) V4n.out (by omega) 0 _, blk_set_other (b' := gR + 1) V5n.out (by omega) 0 _, ?_, blk_set V9n.out 0 _, Bset1 NNn.out (show w.heap.size ≤ gR + 1 by omega) 0 _, ?_⟩
  ·rw [← HN.out]; exact blk_set_other (b' := gR + 1) RBn.out (by omega) 0 _
  ·have := (keep_set KFn.out (gR + 1) 0 (.slice (some ⟨gR, 0, none⟩) (k + 1) l.length)).size; omega
 case stop =>
  rintro D cd k W hD hlt h hK
  exact h.elim
 case done =>
  rintro D W hD ⟨v4, v5, rb, v9, nn, sz⟩ hK
  have hz := SZ.out
  have hg := LG.out
  rw [List.take_length, Nat.sub_self, List.replicate_zero, List.append_nil] at rb
  have HLT : Hid ((l.map (avT a b)).length = l.length) := zh (by simp)
  have HRO := zh (mapT_row h h2 (goodF_row HG.out))
  have HAV : Hid (∀ ys, Srt vkey ys → FE vkey (l.map (avT a b)) ys → avR a b l = avF (grps ys)) := zh (fun ys hs hf => avK_grps allK_lt hs hf fun r hr => key_all (HRO.out r hr))
  generalize l.map (avT a b) = xs at *
  generalize avR a b l = AV at *
  have RB : Hid (RW W gR xs) := zh rb
  have V9 := zh v9
  have NNd := zh nn
  have HK := zh hK
  clear v4 v5 rb v9 nn hK NN V4 V5 VT HL HA HG
  have NN := NNd
  clear NNd
  obtain ⟨c_V9_0, f_V9_0, l_V9⟩ := zfl1 V9
  go_wp2_with fail
  clear c_V9_0 f_V9_0 l_V9
  refine (sort_calls (g := gR) (n := l.length) (c := l.length) HLT.out RB.out (Nat.le_refl _) (by omega) (by omega) HRO.out).mono ?_
  rintro e w3 ⟨⟨v3, rfl⟩, hg3, ys, hr3, hs3, hf3⟩
  have HGD : Hid (gR + 2 < D) := zh (by omega)
  have HE := zh (HAV.out ys hs3 hf3)
  have HYL : Hid (ys.length = l.length) := zh ((srt_len hs3 hf3).trans HLT.out)
  have HYV : Hid (∀ r ∈ ys, rowB r = true) := zh (fun r hr => HRO.out r (hf3.mem.2 hr))
  replace V9 := zh (blk_grow V9.out hg3 (by omega))
  replace HK := zh (blk_grow HK.out hg3 (by omega))
  have hws := NN.out.size
  replace NN := zh (below_grow NN.out hg3 (by omega) hws)
  replace RB := zh hr3
  clear hr3 hs3 hf3 hg3 hws HAV HLT HRO SZ hz sz hD
  go_wp2_with fail
  go_loopw [12] (fun p wr => ∃ (m q : Nat) (Am Ao : Option Addr) (O : List Vr) (co : Nat), m + q = l.length ∧ p = .slice Ao O.length co ∧ (0 < q → Am = some ⟨gR, m * 8, none⟩) ∧ Hid (OV w.heap.size wr p O) ∧ Hid (wr.heap[gR + 1]? = some (.cells #[.slice Am q q] 91)) ∧ Hid (RW wr gR ys) ∧ Hid (wr.heap[D]? = some (.deferred (some []))) ∧ Hid (Below w.heap.size w wr) ∧ Hid (AV = andF O (avF (grps (ys.drop m)))) ∧ Hid (O.length ≤ m)) (fun _ wr => qOf wr (gR + 1))
  case atStart => exact ⟨0, l.length, _, none, [], 0, by omega, rfl, fun _ => by rw [Nat.zero_mul], zh (OG.nil _ _ _ _ _), V9, RB, HK, NN, zh (by rw [List.drop_zero, andF_nil]; exact HE.out), zh (Nat.le_refl _)⟩
  case round =>
   clear V9 RB HK NN HE
   obtain ⟨m, q, Am, Ao, O, co, hmq, rfl, hAm, OO, V9, RB, HK, NN, HE, HOL⟩ := hrel
   have HQ : Hid (qOf wr (gR + 1) = q) := zh (qOf_eq V9.out)
   by_cases hq : q = 0
   ·subst hq
    have hm : m = l.length := by omega
    subst hm
    have HEE : Hid (AV = (0, O)) := zh (by rw [HE.out, List.drop_eq_nil_of_le (by rw [HYL.out]; exact Nat.le_refl _)]; exact andF_end O)
    clear HE
    obtain ⟨c_V9_0, f_V9_0, l_V9⟩ := zfl1 V9
    go_wp2_with fail
    clear c_V9_0 f_V9_0 l_V9
    have hpe : pe = 0 := by rw [HRE.out, HEE.out]
    refine ⟨by simp, .inl ⟨_, _, rfl, run_takeDeferred HK.out, ?_⟩⟩
    exact ⟨.tuple #[.slice Ao O.length co, .int .i64 0], by simp [results, Tryz.results16, go_sem], ⟨_, by rw [hpe], by rw [HRL.out, if_pos hpe, HEE.out]; exact OO.out.put _ HK.out rfl, put_below NN.out (by have := LG.out; have := HGD.out; omega) (Nat.le_refl _) HK.out⟩⟩
   have hq0 : 0 < q := by omega
   obtain rfl := hAm hq0
   have dq : decide ((0 : Int) < (q : Int)) = true := by simp; omega
   have hml : m < ys.length := by rw [HYL.out]; omega
   obtain ⟨f, hf⟩ : ∃ f, ys[m]? = some f := ⟨_, List.getElem?_eq_getElem hml⟩
   have HF := zh hf
   have HFV : Hid (rowB f = true) := zh (HYV.out f (List.mem_of_getElem? hf))
   clear hf hml
   obtain ⟨c_V9_0, f_V9_0, l_V9⟩ := zfl1 V9
   have r0 := RW.cell (show RW wr gR ys from RB.out) HF.out 0 _ rfl
   have r1 := RW.cell (show RW wr gR ys from RB.out) HF.out 1 _ rfl
   have r2 := RW.cell (show RW wr gR ys from RB.out) HF.out 2 _ rfl
   have r3 := RW.cell (show RW wr gR ys from RB.out) HF.out 3 _ rfl
   have r4 := RW.cell (show RW wr gR ys from RB.out) HF.out 4 _ rfl
   have r5 := RW.cell (show RW wr gR ys from RB.out) HF.out 5 _ rfl
   have r6 := RW.cell (show RW wr gR ys from RB.out) HF.out 6 _ rfl
   have r7 := RW.cell (show RW wr gR ys from RB.out) HF.out 7 _ rfl
   have lRB := RW.lt RB.out
   simp only [Nat.add_zero] at r0
   go_upto_region 15 with fail
   clear c_V9_0 f_V9_0 l_V9
   clear r0 r1 r2 r3 r4 r5 r6 r7 lRB
   obtain ⟨HB, VF⟩ := zl (w := wr) (.cells #[.int .i64 f.t, .int .i64 f.c, .int .i64 f.i, .int .i64 f.j, .int .i64 f.re, .int .i64 f.im, .int .i64 f.dn, .int .i64 f.n] 67)
   have LT_VF : Hid (gR + 1 < wr.heap.size ∧ w.heap.size ≤ wr.heap.size) := zh ⟨blk_lt V9.out, NN.out.size⟩
   replace NN := zh (Bgo NN.out HB.out)
   replace HK := zn HB HK
   replace RB := zh (RW.next RB.out HB.out)
   replace OO := zh (OG.next OO.out HB.out)
   replace V9 := zn HB V9
   clear HB
   generalize (wr.alloc (.cells #[.int .i64 f.t, .int .i64 f.c, .int .i64 f.i, .int .i64 f.j, .int .i64 f.re, .int .i64 f.im, .int .i64 f.dn, .int .i64 f.n] 67)) = W1 at *
   generalize wr.heap.size = gF at *
   go_wp2_with fail
   have LF : Hid (gR + 1 < gF) := zh (by have := LT_VF.out; omega)
   clear LT_VF
   go_loopw [14] (fun p wr => ∃ (m1 q1 : Nat) (Am1 Ag : Option Addr) (G : List Vr) (cg : Nat), m1 + q1 = l.length ∧ p = .slice Ag G.length cg ∧ (0 < q1 → Am1 = some ⟨gR, m1 * 8, none⟩) ∧ Hid (OS6 w.heap.size wr p G) ∧ Hid (wr.heap[gR + 1]? = some (.cells #[.slice Am1 q1 q1] 91)) ∧ Hid (wr.heap[gF]? = some (.cells #[.int .i64 f.t, .int .i64 f.c, .int .i64 f.i, .int .i64 f.j, .int .i64 f.re, .int .i64 f.im, .int .i64 f.dn, .int .i64 f.n] 67)) ∧ Hid (RW wr gR ys) ∧ Hid (wr.heap[D]? = some (.deferred (some []))) ∧ Hid (OV w.heap.size wr (.slice Ao O.length co) O) ∧ Hid (Below w.heap.size w wr) ∧ Hid (ys.drop m = G ++ ys.drop m1) ∧ Hid (∀ r ∈ G, vkey r = vkey f) ∧ Hid (m + G.length = m1)) (fun _ wr => qOf wr (gR + 1))
   case atStart => exact ⟨m, q, _, none, [], 0, hmq, rfl, fun _ => rfl, zh (OG.nil _ _ _ _ _), V9, VF, RB, HK, OO, NN, zh rfl, zh (fun r hr => by cases hr), zh rfl⟩
   case round =>
    clear V9 RB HK NN OO VF
    obtain ⟨m1, q1, Am1, Ag, G, cg, hm1, rfl, hAm1, OGG, V9, VF, RB, HK, OO, NN, HDR, HGK, HGL⟩ := hrel
    have HQ1 : Hid (qOf wr (gR + 1) = q1) := zh (qOf_eq V9.out)
    by_cases hq1 : q1 = 0
    ·subst hq1
     have HEX : Hid (∀ r, (ys.drop m1).head? = some r → vkey r ≠ vkey f) := zh (fun r hr => by rw [List.drop_eq_nil_of_le (by rw [HYL.out]; omega)] at hr; cases hr)
     have HGN : Hid (G ≠ []) := zh (fun e => by have := HGL.out; rw [e] at this; simp at this; omega)
     go_wp2_with fail
     have HDRW := zh (Below.drew (Below.refl wr.heap.size wr))
     replace NN := zh (Bgo NN.out HDRW.out)
     replace HK := zn HDRW HK
     replace RB := zh (RW.next RB.out HDRW.out)
     replace OO := zh (OG.next OO.out HDRW.out)
     replace OGG := zh (OG.next OGG.out HDRW.out)
     replace V9 := zn HDRW V9
     replace VF := zn HDRW VF
     clear HDRW
     have HAL : Hid (∀ kx9 : Nat, GK [(0, gR + 1, .cells #[.slice Am1 0 0] 91)] kx9 wr.drew) := zh (fun kx9 => fun px9 hp e => by
      simp only [List.mem_cons, List.not_mem_nil, or_false] at hp
      subst hp
      exact V9.out
     )
     refine wp_np (region_G (S := GK [(0, gR + 1, .cells #[.slice Am1 0 0] 91)]) (by kernel_rfl) ?_)
     refine tG 0 (.slice Am1 0 0) (some 65) (GK.grow _) rfl (YieldsIf.toG (Or.inl ⟨by rfl, ?_⟩)) (HAL.out 0) ?_
     ·intro X hX
      have hh := hX (0, gR + 1, .cells #[.slice Am1 0 0] 91) (List.Mem.head _) rfl
      have hh0 := blk_cell hh 0 _ rfl
      have hhl := blk_lt hh
      clear hh
      clear hX
      go_simp
     try simp only [Act.put, zA, zB, zC]
     refine tP 1 (.int .i64 (0 : Nat)) (some 66) rfl ?_ ?_
     ·intro X hX
      clear hX
      go_simp
     try simp only [Act.put, zA, zB, zC]
     refine tP 2 (.bool false) (some 67) rfl ?_ ?_
     ·intro X hX
      clear hX
      go_simp
     try simp only [Act.put, zA, zB, zC]
     refine tP 3 (.bool false) (some 68) rfl ?_ ?_
     ·intro X hX
      clear hX
      go_simp
     try simp only [Act.put, zA, zB, zC]
     refine tG 4 (undef) (some 69) (GK.grow _) rfl (YieldsIf.toG (Or.inr ⟨by rfl, rfl⟩)) (GK.drop (by simp)) ?_
     try simp only [Act.put, zA, zB, zC]
     refine tG 5 (undef) (some 70) (GK.grow _) rfl (YieldsIf.toG (Or.inr ⟨by rfl, rfl⟩)) (GK.drop (by simp)) ?_
     try simp only [Act.put, zA, zB, zC]
     refine tG 6 (undef) (some 71) (GK.grow _) rfl (YieldsIf.toG (Or.inr ⟨by rfl, rfl⟩)) (GK.drop (by simp)) ?_
     try simp only [Act.put, zA, zB, zC]
     refine tG 7 (undef) (some 72) (GK.grow _) rfl (YieldsIf.toG (Or.inr ⟨by rfl, rfl⟩)) (GK.drop (by simp)) ?_
     try simp only [Act.put, zA, zB, zC]
     refine tG 8 (undef) (some 73) (GK.grow _) rfl (YieldsIf.toG (Or.inr ⟨by rfl, rfl⟩)) (GK.drop (by simp)) ?_
     try simp only [Act.put, zA, zB, zC]
     refine tG 9 (undef) (some 74) (GK.grow _) rfl (YieldsIf.toG (Or.inr ⟨by rfl, rfl⟩)) (GK.drop (by simp)) ?_
     try simp only [Act.put, zA, zB, zC]
     refine tP 10 (.bool false) (some 75) rfl ?_ ?_
     ·intro X hX
      clear hX
      go_simp
     try simp only [Act.put, zA, zB, zC]
     clear HAL
     refine done_np (by kernel_rfl) (fun X2 hX => ?_) _
     replace NN := zh (Bgo NN.out hX)
     replace HK := zn hX HK
     replace RB := zh (RW.next RB.out hX)
     replace OO := zh (OG.next OO.out hX)
     replace OGG := zh (OG.next OGG.out hX)
     replace V9 := zn hX V9
     replace VF := zn hX VF
     clear hX
     have HGY : Hid (∀ r ∈ G, rowB r = true) := zh (fun r hr => HYV.out r (List.mem_of_mem_drop (i := m) (by rw [HDR.out]; exact List.mem_append_left _ hr)))
     have HGE : Hid (G.length ≤ 200) := zh (by have := HGL.out; omega)
     have HHD : Hid (∀ r ∈ G, r.t = f.t ∧ r.c = f.c ∧ r.i = f.i ∧ r.j = f.j) := zh (fun r hr => key_same (HGY.out r hr) HFV.out (HGK.out r hr))
     have HH0 : Hid (hdV G ∈ G) := zh (by have h := HGN.out; cases G with | nil => exact absurd rfl h | cons r l => exact List.mem_cons_self ..)
     obtain ⟨A7, c7, hv7, hc7, hm7, -, -⟩ := OGG.out.form
     injection hv7 with e7 e8 e9
     subst e7 e9
     clear e8
     have HMC : Hid (∀ W, RV6 W Ag G → Calls Tryz.prog 43 #[.slice Ag G.length cg] W fun e w' => e = .returned (MnV (meanF G)) ∧ Below W.heap.size W w') := zh (fun W hr => Mean_calls HGN.out (fun r hr => ⟨(HHD.out r hr).2.2.1.trans (HHD.out _ HH0.out).2.2.1.symm, (HHD.out r hr).2.2.2.trans (HHD.out _ HH0.out).2.2.2.symm⟩) hr hc7 hm7 HGE.out (fun r hr => row_vis (HGY.out r hr)))
     have HGG : Hid (AV = andF O (avF (G :: grps (ys.drop m1)))) := zh (by rw [HE.out, HDR.out, grps_run HGN.out HGK.out HEX.out])
     have HML : Hid (m < m1) := zh (by have h := HGN.out; have := HGL.out; rcases G with _ | ⟨r, l⟩; exact absurd rfl h; simp at this; omega)
     have HME := meanF_err (fun r hr => row_vis (HGY.out r hr)) (show G.length ≤ 1000 by have := HGE.out; omega)
     have HSK := zh (fun h => avF_skip (g := G) h O (grps (ys.drop m1)))
     have HBD := zh (fun h h' => avF_bad (g := G) h h' O (grps (ys.drop m1)))
     have HGO := zh (fun h => avF_good (g := G) h O (grps (ys.drop m1)))
     have HRV : Hid (RV6 X2 Ag G) := zh (by obtain ⟨A6, c6, hv6, -, -, h6, -⟩ := OGG.out.form; injection hv6 with e7 _ _; subst e7; exact h6)
     clear hc7 hm7 HE
     generalize meanF G = MG at *
     obtain ⟨me, mv⟩ := MG
     simp only at HSK HBD HGO HME
     go_wp2_with fail
     refine (HMC.out _ HRV.out).mono ?_
     rintro e w3 ⟨rfl, hb⟩
     replace NN := zh (Bgo NN.out hb)
     replace HK := zn hb HK
     replace RB := zh (RW.next RB.out hb)
     replace OO := zh (OG.next OO.out hb)
     replace OGG := zh (OG.next OGG.out hb)
     replace V9 := zn hb V9
     replace VF := zn hb VF
     clear hb
     clear HRV OGG HMC
     go_upto_region 20 with fail
     obtain ⟨HB, MX⟩ := zl (w := w3) (.cells #[.int .i64 mv.i, .int .i64 mv.j, .int .i64 mv.re, .int .i64 mv.im, .int .i64 mv.dn, .int .i64 mv.n] 42)
     have LT_MX : Hid (gR + 1 < w3.heap.size ∧ gF < w3.heap.size ∧ w.heap.size ≤ w3.heap.size) := zh ⟨blk_lt V9.out, blk_lt VF.out, NN.out.size⟩
     replace NN := zh (Bgo NN.out HB.out)
     replace HK := zn HB HK
     replace RB := zh (RW.next RB.out HB.out)
     replace OO := zh (OG.next OO.out HB.out)
     replace V9 := zn HB V9
     replace VF := zn HB VF
     clear HB
     generalize (w3.alloc (.cells #[.int .i64 mv.i, .int .i64 mv.j, .int .i64 mv.re, .int .i64 mv.im, .int .i64 mv.dn, .int .i64 mv.n] 42)) = W4 at *
     generalize w3.heap.size = gM at *
     rcases HME with ⟨h18, -⟩ | ⟨h16, -⟩ | ⟨h0, hok⟩
     ·subst h18
      have HE1 := zh (HGG.out.trans (HSK.out rfl))
      clear HSK HBD HGO HGG
      go_wp2_with fail
      go_roundw
      case rel => exact ⟨m1, 0, Am1, Ao, O, co, hm1, rfl, (fun h => absurd h (by omega)), OO, V9, RB, HK, NN, HE1, zh (by have := HOL.out; have := HML.out; omega)⟩
      case measure => rw [HQ.out, qOf_eq V9.out]; have := HML.out; omega
     ·subst h16
      have HE1 := zh (HGG.out.trans (HBD.out (by decide) (by decide)))
      have hpe : pe = 16 := by rw [HRE.out, HE1.out]
      have hpl : pl = [] := by rw [HRL.out, if_neg (by rw [hpe]; decide)]
      clear HSK HBD HGO HGG
      go_wp2_with fail
      refine ⟨by simp, .inl ⟨_, _, rfl, run_takeDeferred HK.out, ?_⟩⟩
      exact ⟨.tuple #[.slice none 0 0, .int .i64 16], by simp [results, Tryz.results16, go_sem], ⟨_, by rw [hpe], by rw [hpl]; exact (OG.nil _ _ _ _ _ : OV w.heap.size _ _ []), put_below NN.out (by have := LG.out; have := HGD.out; omega) (Nat.le_refl _) HK.out⟩⟩
     ·subst h0
      have hS9 : mv = ({ mv with t := f.t, c := f.c } : Vr) := by have h1 := hok.t; have h2 := hok.c; have h3 := HHD.out _ HH0.out; rw [h3.1] at h1; rw [h3.2.1] at h2; obtain ⟨t, cc, i, j, re, im, dn, n⟩ := mv; simp only at h1 h2; subst h1 h2; rfl
      have HE1 : Hid (AV = andF (O ++ [({ mv with t := f.t, c := f.c } : Vr)]) (avF (grps (ys.drop m1)))) := zh (by rw [← hS9]; exact HGG.out.trans (HGO.out rfl))
      clear HSK HBD HGO HGG hS9 hok
      obtain ⟨c_VF_0, f_VF_0, c_VF_1, f_VF_1, c_VF_2, f_VF_2, c_VF_3, f_VF_3, c_VF_4, f_VF_4, c_VF_5, f_VF_5, c_VF_6, f_VF_6, c_VF_7, f_VF_7, l_VF⟩ := zfl8 VF
      obtain ⟨c_MX_0, f_MX_0, c_MX_1, f_MX_1, c_MX_2, f_MX_2, c_MX_3, f_MX_3, c_MX_4, f_MX_4, c_MX_5, f_MX_5, l_MX⟩ := zfl6 MX
      have WS : Hid (w.heap.size ≤ W4.heap.size) := zh NN.out.size
      have HO2 : Hid (O.length + 1 ≤ 1000) := zh (by have := HOL.out; have := HML.out; omega)
      go_wp2_with (at_builtin; refine wpList_gapp tyV rfl _ _ rfl w.heap.size _ O rfl (some ⟨W4.heap.size, 0, none⟩) 1 1 [({ mv with t := f.t, c := f.c } : Vr)] rfl (OO.out.next (Bal (Below.refl _ _) _)) rfl (RT.one (blk_new W4 _)) ?_ ?_ ?_; (have := HO2.out; omega); (rw [World.size_alloc]; have := WS.out; omega); intro v1 w8 o1 q1 t1; have OO1 := zh o1; have TT := zh t1; have QQ := zh q1; clear o1 q1 t1)
      clear c_VF_0 f_VF_0 c_VF_1 f_VF_1 c_VF_2 f_VF_2 c_VF_3 f_VF_3 c_VF_4 f_VF_4 c_VF_5 f_VF_5 c_VF_6 f_VF_6 c_VF_7 f_VF_7 l_VF c_MX_0 f_MX_0 c_MX_1 f_MX_1 c_MX_2 f_MX_2 c_MX_3 f_MX_3 c_MX_4 f_MX_4 c_MX_5 f_MX_5 l_MX
      obtain ⟨A1, c1, hv1, -, -, -, -⟩ := OO1.out.form
      rw [show (O ++ [({ mv with t := f.t, c := f.c } : Vr)]).length = O.length + 1 by simp] at hv1
      subst hv1
      replace V9 := zh (TT.out.blk (blk_next (Bal (Below.refl W4.heap.size W4) (.cells #[.int .i64 f.t, .int .i64 f.c, .int .i64 mv.i, .int .i64 mv.j, .int .i64 mv.re, .int .i64 mv.im, .int .i64 mv.dn, .int .i64 mv.n] 44)) V9.out) (by decide))
      replace RB : Hid (RW w8 gR ys) := zh (TT.out.blk (blk_next (Bal (Below.refl W4.heap.size W4) (.cells #[.int .i64 f.t, .int .i64 f.c, .int .i64 mv.i, .int .i64 mv.j, .int .i64 mv.re, .int .i64 mv.im, .int .i64 mv.dn, .int .i64 mv.n] 44)) RB.out) (by decide))
      replace HK := zh (TT.out.obj (blk_next (Bal (Below.refl W4.heap.size W4) (.cells #[.int .i64 f.t, .int .i64 f.c, .int .i64 mv.i, .int .i64 mv.j, .int .i64 mv.re, .int .i64 mv.im, .int .i64 mv.dn, .int .i64 mv.n] 44)) HK.out) rfl)
      replace NN := zh ((Bgo NN.out (Bal (Below.refl W4.heap.size W4) (.cells #[.int .i64 f.t, .int .i64 f.c, .int .i64 mv.i, .int .i64 mv.j, .int .i64 mv.re, .int .i64 mv.im, .int .i64 mv.dn, .int .i64 mv.n] 44))).trans QQ.out)
      go_roundw
      case rel => exact ⟨m1, 0, Am1, A1, O ++ [({ mv with t := f.t, c := f.c } : Vr)], c1, hm1, by simp, (fun h => absurd h (by omega)), OO1, V9, RB, HK, NN, HE1, zh (by have := HOL.out; have := HML.out; simp; omega)⟩
      case measure => rw [HQ.out, qOf_eq V9.out]; have := HML.out; omega
    have hq10 : 0 < q1 := by omega
    obtain rfl := hAm1 hq10
    have dq1 : decide ((0 : Int) < (q1 : Int)) = true := by simp; omega
    have hml1 : m1 < ys.length := by rw [HYL.out]; omega
    obtain ⟨s, hs⟩ : ∃ s, ys[m1]? = some s := ⟨_, List.getElem?_eq_getElem hml1⟩
    have HS := zh hs
    have HSV : Hid (rowB s = true) := zh (HYV.out s (List.mem_of_getElem? hs))
    have HDC : Hid (ys.drop m1 = s :: ys.drop (m1 + 1)) := zh (by rw [List.drop_eq_getElem_cons hml1]; congr 1; rw [List.getElem?_eq_getElem hml1] at hs; injection hs)
    clear hs hml1
    have CMP := zh (compare_calls s f)
    have hcmp := rcmp_key HSV.out HFV.out
    have hkc := kcmp_eq (x := vkey s) (y := vkey f)
    rw [← hcmp] at hkc
    have HKC := zh hkc
    clear hkc hcmp
    generalize rcmp s f = kv at *
    by_cases hkv : kv = 0
    ·subst hkv
     have HKE : Hid (vkey s = vkey f) := zh (HKC.out.1 rfl)
     clear HKC
     go_wp2_with fail
     have HDRW := zh (Below.drew (Below.refl wr.heap.size wr))
     replace NN := zh (Bgo NN.out HDRW.out)
     replace HK := zn HDRW HK
     replace RB := zh (RW.next RB.out HDRW.out)
     replace OO := zh (OG.next OO.out HDRW.out)
     replace OGG := zh (OG.next OGG.out HDRW.out)
     replace V9 := zn HDRW V9
     replace VF := zn HDRW VF
     clear HDRW
     have HAL : Hid (∀ kx9 : Nat, GK [(0, gR + 1, .cells #[.slice (some ⟨gR, m1 * 8, none⟩) q1 q1] 91), (4, gR + 1, .cells #[.slice (some ⟨gR, m1 * 8, none⟩) q1 q1] 91), (6, gR, .cells (vrc ys).toArray 67), (7, gF, .cells #[.int .i64 f.t, .int .i64 f.c, .int .i64 f.i, .int .i64 f.j, .int .i64 f.re, .int .i64 f.im, .int .i64 f.dn, .int .i64 f.n] 67)] kx9 wr.drew) := zh (fun kx9 => fun px9 hp e => by
      simp only [List.mem_cons, List.not_mem_nil, or_false] at hp
      rcases hp with rfl | rfl | rfl | rfl
      ·exact V9.out
      ·exact V9.out
      ·exact RB.out
      ·exact VF.out
     )
     refine wp_np (region_G (S := GK [(0, gR + 1, .cells #[.slice (some ⟨gR, m1 * 8, none⟩) q1 q1] 91), (4, gR + 1, .cells #[.slice (some ⟨gR, m1 * 8, none⟩) q1 q1] 91), (6, gR, .cells (vrc ys).toArray 67), (7, gF, .cells #[.int .i64 f.t, .int .i64 f.c, .int .i64 f.i, .int .i64 f.j, .int .i64 f.re, .int .i64 f.im, .int .i64 f.dn, .int .i64 f.n] 67)]) (by kernel_rfl) ?_)
     refine tG 0 (.slice (some ⟨gR, m1 * 8, none⟩) q1 q1) (some 65) (GK.grow _) rfl (YieldsIf.toG (Or.inl ⟨by rfl, ?_⟩)) (HAL.out 0) ?_
     ·intro X hX
      have hh := hX (0, gR + 1, .cells #[.slice (some ⟨gR, m1 * 8, none⟩) q1 q1] 91) (List.Mem.head _) rfl
      have hh0 := blk_cell hh 0 _ rfl
      have hhl := blk_lt hh
      clear hh
      clear hX
      go_simp
     try simp only [Act.put, zA, zB, zC]
     refine tP 1 (.int .i64 (q1 : Nat)) (some 66) rfl ?_ ?_
     ·intro X hX
      clear hX
      go_simp
     try simp only [Act.put, zA, zB, zC]
     refine tP 2 (.bool true) (some 67) rfl ?_ ?_
     ·intro X hX
      clear hX
      go_simp
     try simp only [Act.put, zA, zB, zC]
     refine tP 3 (.bool true) (some 68) rfl ?_ ?_
     ·intro X hX
      clear hX
      go_simp
     try simp only [Act.put, zA, zB, zC]
     refine tG 4 (.slice (some ⟨gR, m1 * 8, none⟩) q1 q1) (some 69) (GK.grow _) rfl (YieldsIf.toG (Or.inl ⟨by rfl, ?_⟩)) (HAL.out 4) ?_
     ·intro X hX
      have hh := hX (4, gR + 1, .cells #[.slice (some ⟨gR, m1 * 8, none⟩) q1 q1] 91) (List.Mem.tail _ (List.Mem.head _)) rfl
      have hh0 := blk_cell hh 0 _ rfl
      have hhl := blk_lt hh
      clear hh
      clear hX
      go_simp
     try simp only [Act.put, zA, zB, zC]
     refine tP 5 (.pointer (some ⟨gR, m1 * 8, none⟩)) (some 70) rfl ?_ ?_
     ·intro X hX
      clear hX
      go_simp
     try simp only [Act.put, zA, zB, zC]
     refine tG 6 (.agg #[.int .i64 s.t, .int .i64 s.c, .int .i64 s.i, .int .i64 s.j, .int .i64 s.re, .int .i64 s.im, .int .i64 s.dn, .int .i64 s.n]) (some 71) (GK.grow _) rfl (YieldsIf.toG (Or.inl ⟨by rfl, ?_⟩)) (HAL.out 6) ?_
     ·intro X hX
      have hh := hX (6, gR, .cells (vrc ys).toArray 67) (List.Mem.tail _ (List.Mem.tail _ (List.Mem.head _))) rfl
      have hh0 := (RW.cell (show RW _ gR ys from hh) HS.out 0 _ rfl)
      simp only [Nat.add_zero] at hh0
      have hh1 := (RW.cell (show RW _ gR ys from hh) HS.out 1 _ rfl)
      have hh2 := (RW.cell (show RW _ gR ys from hh) HS.out 2 _ rfl)
      have hh3 := (RW.cell (show RW _ gR ys from hh) HS.out 3 _ rfl)
      have hh4 := (RW.cell (show RW _ gR ys from hh) HS.out 4 _ rfl)
      have hh5 := (RW.cell (show RW _ gR ys from hh) HS.out 5 _ rfl)
      have hh6 := (RW.cell (show RW _ gR ys from hh) HS.out 6 _ rfl)
      have hh7 := (RW.cell (show RW _ gR ys from hh) HS.out 7 _ rfl)
      have hhl := blk_lt hh
      clear hh
      clear hX
      go_simp
     try simp only [Act.put, zA, zB, zC]
     refine tG 7 (.agg #[.int .i64 f.t, .int .i64 f.c, .int .i64 f.i, .int .i64 f.j, .int .i64 f.re, .int .i64 f.im, .int .i64 f.dn, .int .i64 f.n]) (some 72) (GK.grow _) rfl (YieldsIf.toG (Or.inl ⟨by rfl, ?_⟩)) (HAL.out 7) ?_
     ·intro X hX
      have hh := hX (7, gF, .cells #[.int .i64 f.t, .int .i64 f.c, .int .i64 f.i, .int .i64 f.j, .int .i64 f.re, .int .i64 f.im, .int .i64 f.dn, .int .i64 f.n] 67) (List.Mem.tail _ (List.Mem.tail _ (List.Mem.tail _ (List.Mem.head _)))) rfl
      have hh0 := blk_cell hh 0 _ rfl
      have hh1 := blk_cell hh 1 _ rfl
      have hh2 := blk_cell hh 2 _ rfl
      have hh3 := blk_cell hh 3 _ rfl
      have hh4 := blk_cell hh 4 _ rfl
      have hh5 := blk_cell hh 5 _ rfl
      have hh6 := blk_cell hh 6 _ rfl
      have hh7 := blk_cell hh 7 _ rfl
      have hhl := blk_lt hh
      clear hh
      clear hX
      go_simp
     try simp only [Act.put, zA, zB, zC]
     have CFn : ∀ (args : Array Value) (W : World), Sem.run Tryz.prog (callFunc 42 args) W = .ok (.enter 42 args) W := fun _ _ => by kernel_rfl
     refine tG 8 (.int .i64 0) (some 73) (GK.grow _) rfl (yieldsG_call 42 #[.agg #[.int .i64 s.t, .int .i64 s.c, .int .i64 s.i, .int .i64 s.j, .int .i64 s.re, .int .i64 s.im, .int .i64 s.dn, .int .i64 s.n], .agg #[.int .i64 f.t, .int .i64 f.c, .int .i64 f.i, .int .i64 f.j, .int .i64 f.re, .int .i64 f.im, .int .i64 f.dn, .int .i64 f.n]] (by rfl) ?_ (fun X hS => CMP.out X)) (GK.drop (by simp)) ?_
     ·intro X hX
      clear hX
      go_simp
     clear CFn
     try simp only [Act.put, zA, zB, zC]
     refine tP 9 (.bool true) (some 74) rfl ?_ ?_
     ·intro X hX
      clear hX
      go_simp
     try simp only [Act.put, zA, zB, zC]
     refine tP 10 (.bool true) (some 75) rfl ?_ ?_
     ·intro X hX
      clear hX
      go_simp
     try simp only [Act.put, zA, zB, zC]
     clear HAL
     refine done_np (by kernel_rfl) (fun X5 hX => ?_) _
     replace NN := zh (Bgo NN.out hX)
     replace HK := zn hX HK
     replace RB := zh (RW.next RB.out hX)
     replace OO := zh (OG.next OO.out hX)
     replace OGG := zh (OG.next OGG.out hX)
     replace V9 := zn hX V9
     replace VF := zn hX VF
     clear hX
     obtain ⟨q2, rfl⟩ : ∃ q2, q1 = q2 + 1 := ⟨q1 - 1, by omega⟩
     obtain ⟨c_V9_0, f_V9_0, l_V9⟩ := zfl1 V9
     have hGb : G.length + 1 ≤ 100000 := by have := HGL.out; omega
     have WS : Hid (w.heap.size ≤ X5.heap.size) := zh NN.out.size
     have r0 := RW.cell (show RW X5 gR ys from RB.out) HS.out 0 _ rfl
     have r1 := RW.cell (show RW X5 gR ys from RB.out) HS.out 1 _ rfl
     have r2 := RW.cell (show RW X5 gR ys from RB.out) HS.out 2 _ rfl
     have r3 := RW.cell (show RW X5 gR ys from RB.out) HS.out 3 _ rfl
     have r4 := RW.cell (show RW X5 gR ys from RB.out) HS.out 4 _ rfl
     have r5 := RW.cell (show RW X5 gR ys from RB.out) HS.out 5 _ rfl
     have r6 := RW.cell (show RW X5 gR ys from RB.out) HS.out 6 _ rfl
     have r7 := RW.cell (show RW X5 gR ys from RB.out) HS.out 7 _ rfl
     have lRB := RW.lt RB.out
     simp only [Nat.add_zero] at r0
     have NE9 : 91 ≠ 42 := by decide
     have BE := zh (Bal (Below.refl X5.heap.size X5) (.cells #[.int .i64 s.i, .int .i64 s.j, .int .i64 s.re, .int .i64 s.im, .int .i64 s.dn, .int .i64 s.n] 42))
     go_wp2_with (at_builtin; refine wpList_gapp tyS rfl _ _ rfl w.heap.size _ G rfl (some ⟨X5.heap.size, 0, none⟩) 1 1 [s] rfl (OGG.out.next (Bal (Below.refl _ _) _)) rfl (RV6.one (blk_new X5 _)) hGb ?_ ?_; (rw [World.size_alloc]; have := WS.out; omega); intro v1 w8 o1 q1 t1; have OG1 := zh o1; have TT := zh t1; have QQ := zh q1; have V9n := zh (t1.blk (blk_next BE.out V9.out) NE9); have c9a := blk_cell V9n.out 0 _ rfl; have f9a := blk_frozen V9n.out 0; have l9a := blk_lt V9n.out; clear o1 q1 t1)
     clear c_V9_0 f_V9_0 l_V9
     obtain ⟨A1, c1, hv1, -, -, -, -⟩ := OG1.out.form
     rw [show (G ++ [s]).length = G.length + 1 by simp] at hv1
     subst hv1
     have TS : Hid (Oth 91 w8 (w8.setCell ⟨gR + 1, 0, none⟩ (Value.slice (if q2 = 0 then some ⟨gR, m1 * 8, none⟩ else some ⟨gR, m1 * 8 + 8, none⟩) q2 q2))) := zh (Oth.set V9n.out 0 (Value.slice (if q2 = 0 then some ⟨gR, m1 * 8, none⟩ else some ⟨gR, m1 * 8 + 8, none⟩) q2 q2))
     clear c9a f9a l9a
     refine ⟨⟨m1 + 1, q2, (if q2 = 0 then some ⟨gR, m1 * 8, none⟩ else some ⟨gR, m1 * 8 + 8, none⟩), A1, G ++ [s], c1, by omega, by simp, fun h => by rw [if_neg (by omega), Nat.succ_mul], zh (OG1.out.oth TS.out (by decide)), zh (blk_set V9n.out 0 (Value.slice (if q2 = 0 then some ⟨gR, m1 * 8, none⟩ else some ⟨gR, m1 * 8 + 8, none⟩) q2 q2)), zh (TS.out.blk (TT.out.blk (blk_next BE.out VF.out) (by decide)) (by decide)) , zh (TS.out.blk (TT.out.blk (blk_next BE.out RB.out) (by decide)) (by decide)), zh (TS.out.obj (TT.out.obj (blk_next BE.out HK.out) rfl) rfl), zh (((OO.out.next BE.out).oth TT.out (by decide)).oth TS.out (by decide)), zh (Bset1 ((Bgo NN.out BE.out).trans QQ.out) (show w.heap.size ≤ gR + 1 by have := LG.out; omega) 0 (Value.slice (if q2 = 0 then some ⟨gR, m1 * 8, none⟩ else some ⟨gR, m1 * 8 + 8, none⟩) q2 q2)), zh (by rw [HDR.out, HDC.out]; simp), zh (fun r hr => ?_), zh (by have := HGL.out; simp; omega)⟩, ?_⟩
     ·rcases List.mem_append.1 hr with hr | hr
      ·exact HGK.out r hr
      ·rw [List.mem_singleton.1 hr]; exact HKE.out
     ·rw [HQ1.out, qOf_eq (blk_set V9n.out 0 (Value.slice (if q2 = 0 then some ⟨gR, m1 * 8, none⟩ else some ⟨gR, m1 * 8 + 8, none⟩) q2 q2))]; omega
    have HEX : Hid (∀ r, (ys.drop m1).head? = some r → vkey r ≠ vkey f) := zh (fun r hr => by rw [HDC.out] at hr; injection hr with hr; rw [← hr]; exact fun e => hkv (HKC.out.2 e))
    have HGN : Hid (G ≠ []) := zh (grp_ne HGL.out HS.out HF.out (fun e => hkv (HKC.out.2 (by rw [e]))))
    have qkv : (kv == 0) = false := by simpa using hkv
    clear HKC
    go_wp2_with fail
    have HDRW := zh (Below.drew (Below.refl wr.heap.size wr))
    replace NN := zh (Bgo NN.out HDRW.out)
    replace HK := zn HDRW HK
    replace RB := zh (RW.next RB.out HDRW.out)
    replace OO := zh (OG.next OO.out HDRW.out)
    replace OGG := zh (OG.next OGG.out HDRW.out)
    replace V9 := zn HDRW V9
    replace VF := zn HDRW VF
    clear HDRW
    have HAL : Hid (∀ kx9 : Nat, GK [(0, gR + 1, .cells #[.slice (some ⟨gR, m1 * 8, none⟩) q1 q1] 91), (4, gR + 1, .cells #[.slice (some ⟨gR, m1 * 8, none⟩) q1 q1] 91), (6, gR, .cells (vrc ys).toArray 67), (7, gF, .cells #[.int .i64 f.t, .int .i64 f.c, .int .i64 f.i, .int .i64 f.j, .int .i64 f.re, .int .i64 f.im, .int .i64 f.dn, .int .i64 f.n] 67)] kx9 wr.drew) := zh (fun kx9 => fun px9 hp e => by
     simp only [List.mem_cons, List.not_mem_nil, or_false] at hp
     rcases hp with rfl | rfl | rfl | rfl
     ·exact V9.out
     ·exact V9.out
     ·exact RB.out
     ·exact VF.out
    )
    refine wp_np (region_G (S := GK [(0, gR + 1, .cells #[.slice (some ⟨gR, m1 * 8, none⟩) q1 q1] 91), (4, gR + 1, .cells #[.slice (some ⟨gR, m1 * 8, none⟩) q1 q1] 91), (6, gR, .cells (vrc ys).toArray 67), (7, gF, .cells #[.int .i64 f.t, .int .i64 f.c, .int .i64 f.i, .int .i64 f.j, .int .i64 f.re, .int .i64 f.im, .int .i64 f.dn, .int .i64 f.n] 67)]) (by kernel_rfl) ?_)
    refine tG 0 (.slice (some ⟨gR, m1 * 8, none⟩) q1 q1) (some 65) (GK.grow _) rfl (YieldsIf.toG (Or.inl ⟨by rfl, ?_⟩)) (HAL.out 0) ?_
    ·intro X hX
     have hh := hX (0, gR + 1, .cells #[.slice (some ⟨gR, m1 * 8, none⟩) q1 q1] 91) (List.Mem.head _) rfl
     have hh0 := blk_cell hh 0 _ rfl
     have hhl := blk_lt hh
     clear hh
     clear hX
     go_simp
    try simp only [Act.put, zA, zB, zC]
    refine tP 1 (.int .i64 (q1 : Nat)) (some 66) rfl ?_ ?_
    ·intro X hX
     clear hX
     go_simp
    try simp only [Act.put, zA, zB, zC]
    refine tP 2 (.bool true) (some 67) rfl ?_ ?_
    ·intro X hX
     clear hX
     go_simp
    try simp only [Act.put, zA, zB, zC]
    refine tP 3 (.bool true) (some 68) rfl ?_ ?_
    ·intro X hX
     clear hX
     go_simp
    try simp only [Act.put, zA, zB, zC]
    refine tG 4 (.slice (some ⟨gR, m1 * 8, none⟩) q1 q1) (some 69) (GK.grow _) rfl (YieldsIf.toG (Or.inl ⟨by rfl, ?_⟩)) (HAL.out 4) ?_
    ·intro X hX
     have hh := hX (4, gR + 1, .cells #[.slice (some ⟨gR, m1 * 8, none⟩) q1 q1] 91) (List.Mem.tail _ (List.Mem.head _)) rfl
     have hh0 := blk_cell hh 0 _ rfl
     have hhl := blk_lt hh
     clear hh
     clear hX
     go_simp
    try simp only [Act.put, zA, zB, zC]
    refine tP 5 (.pointer (some ⟨gR, m1 * 8, none⟩)) (some 70) rfl ?_ ?_
    ·intro X hX
     clear hX
     go_simp
    try simp only [Act.put, zA, zB, zC]
    refine tG 6 (.agg #[.int .i64 s.t, .int .i64 s.c, .int .i64 s.i, .int .i64 s.j, .int .i64 s.re, .int .i64 s.im, .int .i64 s.dn, .int .i64 s.n]) (some 71) (GK.grow _) rfl (YieldsIf.toG (Or.inl ⟨by rfl, ?_⟩)) (HAL.out 6) ?_
    ·intro X hX
     have hh := hX (6, gR, .cells (vrc ys).toArray 67) (List.Mem.tail _ (List.Mem.tail _ (List.Mem.head _))) rfl
     have hh0 := (RW.cell (show RW _ gR ys from hh) HS.out 0 _ rfl)
     simp only [Nat.add_zero] at hh0
     have hh1 := (RW.cell (show RW _ gR ys from hh) HS.out 1 _ rfl)
     have hh2 := (RW.cell (show RW _ gR ys from hh) HS.out 2 _ rfl)
     have hh3 := (RW.cell (show RW _ gR ys from hh) HS.out 3 _ rfl)
     have hh4 := (RW.cell (show RW _ gR ys from hh) HS.out 4 _ rfl)
     have hh5 := (RW.cell (show RW _ gR ys from hh) HS.out 5 _ rfl)
     have hh6 := (RW.cell (show RW _ gR ys from hh) HS.out 6 _ rfl)
     have hh7 := (RW.cell (show RW _ gR ys from hh) HS.out 7 _ rfl)
     have hhl := blk_lt hh
     clear hh
     clear hX
     go_simp
    try simp only [Act.put, zA, zB, zC]
    refine tG 7 (.agg #[.int .i64 f.t, .int .i64 f.c, .int .i64 f.i, .int .i64 f.j, .int .i64 f.re, .int .i64 f.im, .int .i64 f.dn, .int .i64 f.n]) (some 72) (GK.grow _) rfl (YieldsIf.toG (Or.inl ⟨by rfl, ?_⟩)) (HAL.out 7) ?_
    ·intro X hX
     have hh := hX (7, gF, .cells #[.int .i64 f.t, .int .i64 f.c, .int .i64 f.i, .int .i64 f.j, .int .i64 f.re, .int .i64 f.im, .int .i64 f.dn, .int .i64 f.n] 67) (List.Mem.tail _ (List.Mem.tail _ (List.Mem.tail _ (List.Mem.head _)))) rfl
     have hh0 := blk_cell hh 0 _ rfl
     have hh1 := blk_cell hh 1 _ rfl
     have hh2 := blk_cell hh 2 _ rfl
     have hh3 := blk_cell hh 3 _ rfl
     have hh4 := blk_cell hh 4 _ rfl
     have hh5 := blk_cell hh 5 _ rfl
     have hh6 := blk_cell hh 6 _ rfl
     have hh7 := blk_cell hh 7 _ rfl
     have hhl := blk_lt hh
     clear hh
     clear hX
     go_simp
    try simp only [Act.put, zA, zB, zC]
    have CFn : ∀ (args : Array Value) (W : World), Sem.run Tryz.prog (callFunc 42 args) W = .ok (.enter 42 args) W := fun _ _ => by kernel_rfl
    refine tG 8 (.int .i64 kv) (some 73) (GK.grow _) rfl (yieldsG_call 42 #[.agg #[.int .i64 s.t, .int .i64 s.c, .int .i64 s.i, .int .i64 s.j, .int .i64 s.re, .int .i64 s.im, .int .i64 s.dn, .int .i64 s.n], .agg #[.int .i64 f.t, .int .i64 f.c, .int .i64 f.i, .int .i64 f.j, .int .i64 f.re, .int .i64 f.im, .int .i64 f.dn, .int .i64 f.n]] (by rfl) ?_ (fun X hS => CMP.out X)) (GK.drop (by simp)) ?_
    ·intro X hX
     clear hX
     go_simp
    clear CFn
    try simp only [Act.put, zA, zB, zC]
    refine tP 9 (.bool false) (some 74) rfl ?_ ?_
    ·intro X hX
     clear hX
     go_simp
    try simp only [Act.put, zA, zB, zC]
    refine tP 10 (.bool false) (some 75) rfl ?_ ?_
    ·intro X hX
     clear hX
     go_simp
    try simp only [Act.put, zA, zB, zC]
    clear HAL
    refine done_np (by kernel_rfl) (fun X6 hX => ?_) _
    replace NN := zh (Bgo NN.out hX)
    replace HK := zn hX HK
    replace RB := zh (RW.next RB.out hX)
    replace OO := zh (OG.next OO.out hX)
    replace OGG := zh (OG.next OGG.out hX)
    replace V9 := zn hX V9
    replace VF := zn hX VF
    clear hX
    obtain ⟨Am1, hAm⟩ : ∃ Am1, (some (⟨gR, m1 * 8, none⟩ : Addr)) = Am1 := ⟨_, rfl⟩
    have HAM : Hid (0 < q1 → Am1 = some ⟨gR, m1 * 8, none⟩) := zh (fun _ => hAm.symm)
    rw [hAm] at V9
    clear hAm
    have HGY : Hid (∀ r ∈ G, rowB r = true) := zh (fun r hr => HYV.out r (List.mem_of_mem_drop (i := m) (by rw [HDR.out]; exact List.mem_append_left _ hr)))
    have HGE : Hid (G.length ≤ 200) := zh (by have := HGL.out; omega)
    have HHD : Hid (∀ r ∈ G, r.t = f.t ∧ r.c = f.c ∧ r.i = f.i ∧ r.j = f.j) := zh (fun r hr => key_same (HGY.out r hr) HFV.out (HGK.out r hr))
    have HH0 : Hid (hdV G ∈ G) := zh (by have h := HGN.out; cases G with | nil => exact absurd rfl h | cons r l => exact List.mem_cons_self ..)
    obtain ⟨A7, c7, hv7, hc7, hm7, -, -⟩ := OGG.out.form
    injection hv7 with e7 e8 e9
    subst e7 e9
    clear e8
    have HMC : Hid (∀ W, RV6 W Ag G → Calls Tryz.prog 43 #[.slice Ag G.length cg] W fun e w' => e = .returned (MnV (meanF G)) ∧ Below W.heap.size W w') := zh (fun W hr => Mean_calls HGN.out (fun r hr => ⟨(HHD.out r hr).2.2.1.trans (HHD.out _ HH0.out).2.2.1.symm, (HHD.out r hr).2.2.2.trans (HHD.out _ HH0.out).2.2.2.symm⟩) hr hc7 hm7 HGE.out (fun r hr => row_vis (HGY.out r hr)))
    have HGG : Hid (AV = andF O (avF (G :: grps (ys.drop m1)))) := zh (by rw [HE.out, HDR.out, grps_run HGN.out HGK.out HEX.out])
    have HML : Hid (m < m1) := zh (by have h := HGN.out; have := HGL.out; rcases G with _ | ⟨r, l⟩; exact absurd rfl h; simp at this; omega)
    have HME := meanF_err (fun r hr => row_vis (HGY.out r hr)) (show G.length ≤ 1000 by have := HGE.out; omega)
    have HSK := zh (fun h => avF_skip (g := G) h O (grps (ys.drop m1)))
    have HBD := zh (fun h h' => avF_bad (g := G) h h' O (grps (ys.drop m1)))
    have HGO := zh (fun h => avF_good (g := G) h O (grps (ys.drop m1)))
    have HRV : Hid (RV6 X6 Ag G) := zh (by obtain ⟨A6, c6, hv6, -, -, h6, -⟩ := OGG.out.form; injection hv6 with e7 _ _; subst e7; exact h6)
    clear hc7 hm7 HE
    generalize meanF G = MG at *
    obtain ⟨me, mv⟩ := MG
    simp only at HSK HBD HGO HME
    go_wp2_with fail
    refine (HMC.out _ HRV.out).mono ?_
    rintro e w7 ⟨rfl, hb⟩
    replace NN := zh (Bgo NN.out hb)
    replace HK := zn hb HK
    replace RB := zh (RW.next RB.out hb)
    replace OO := zh (OG.next OO.out hb)
    replace OGG := zh (OG.next OGG.out hb)
    replace V9 := zn hb V9
    replace VF := zn hb VF
    clear hb
    clear HRV OGG HMC
    go_upto_region 20 with fail
    obtain ⟨HB, MX⟩ := zl (w := w7) (.cells #[.int .i64 mv.i, .int .i64 mv.j, .int .i64 mv.re, .int .i64 mv.im, .int .i64 mv.dn, .int .i64 mv.n] 42)
    have LT_MX : Hid (gR + 1 < w7.heap.size ∧ gF < w7.heap.size ∧ w.heap.size ≤ w7.heap.size) := zh ⟨blk_lt V9.out, blk_lt VF.out, NN.out.size⟩
    replace NN := zh (Bgo NN.out HB.out)
    replace HK := zn HB HK
    replace RB := zh (RW.next RB.out HB.out)
    replace OO := zh (OG.next OO.out HB.out)
    replace V9 := zn HB V9
    replace VF := zn HB VF
    clear HB
    generalize (w7.alloc (.cells #[.int .i64 mv.i, .int .i64 mv.j, .int .i64 mv.re, .int .i64 mv.im, .int .i64 mv.dn, .int .i64 mv.n] 42)) = W8 at *
    generalize w7.heap.size = gM at *
    rcases HME with ⟨h18, -⟩ | ⟨h16, -⟩ | ⟨h0, hok⟩
    ·subst h18
     have HE1 := zh (HGG.out.trans (HSK.out rfl))
     clear HSK HBD HGO HGG
     go_wp2_with fail
     go_roundw
     case rel => exact ⟨m1, q1, Am1, Ao, O, co, hm1, rfl, HAM.out, OO, V9, RB, HK, NN, HE1, zh (by have := HOL.out; have := HML.out; omega)⟩
     case measure => rw [HQ.out, qOf_eq V9.out]; have := HML.out; omega
    ·subst h16
     have HE1 := zh (HGG.out.trans (HBD.out (by decide) (by decide)))
     have hpe : pe = 16 := by rw [HRE.out, HE1.out]
     have hpl : pl = [] := by rw [HRL.out, if_neg (by rw [hpe]; decide)]
     clear HSK HBD HGO HGG
     go_wp2_with fail
     refine ⟨by simp, .inl ⟨_, _, rfl, run_takeDeferred HK.out, ?_⟩⟩
     exact ⟨.tuple #[.slice none 0 0, .int .i64 16], by simp [results, Tryz.results16, go_sem], ⟨_, by rw [hpe], by rw [hpl]; exact (OG.nil _ _ _ _ _ : OV w.heap.size _ _ []), put_below NN.out (by have := LG.out; have := HGD.out; omega) (Nat.le_refl _) HK.out⟩⟩
    ·subst h0
     have hS9 : mv = ({ mv with t := f.t, c := f.c } : Vr) := by have h1 := hok.t; have h2 := hok.c; have h3 := HHD.out _ HH0.out; rw [h3.1] at h1; rw [h3.2.1] at h2; obtain ⟨t, cc, i, j, re, im, dn, n⟩ := mv; simp only at h1 h2; subst h1 h2; rfl
     have HE1 : Hid (AV = andF (O ++ [({ mv with t := f.t, c := f.c } : Vr)]) (avF (grps (ys.drop m1)))) := zh (by rw [← hS9]; exact HGG.out.trans (HGO.out rfl))
     clear HSK HBD HGO HGG hS9 hok
     obtain ⟨c_VF_0, f_VF_0, c_VF_1, f_VF_1, c_VF_2, f_VF_2, c_VF_3, f_VF_3, c_VF_4, f_VF_4, c_VF_5, f_VF_5, c_VF_6, f_VF_6, c_VF_7, f_VF_7, l_VF⟩ := zfl8 VF
     obtain ⟨c_MX_0, f_MX_0, c_MX_1, f_MX_1, c_MX_2, f_MX_2, c_MX_3, f_MX_3, c_MX_4, f_MX_4, c_MX_5, f_MX_5, l_MX⟩ := zfl6 MX
     have WS : Hid (w.heap.size ≤ W8.heap.size) := zh NN.out.size
     have HO2 : Hid (O.length + 1 ≤ 1000) := zh (by have := HOL.out; have := HML.out; omega)
     go_wp2_with (at_builtin; refine wpList_gapp tyV rfl _ _ rfl w.heap.size _ O rfl (some ⟨W8.heap.size, 0, none⟩) 1 1 [({ mv with t := f.t, c := f.c } : Vr)] rfl (OO.out.next (Bal (Below.refl _ _) _)) rfl (RT.one (blk_new W8 _)) ?_ ?_ ?_; (have := HO2.out; omega); (rw [World.size_alloc]; have := WS.out; omega); intro v1 w8 o1 q1 t1; have OO1 := zh o1; have TT := zh t1; have QQ := zh q1; clear o1 q1 t1)
     clear c_VF_0 f_VF_0 c_VF_1 f_VF_1 c_VF_2 f_VF_2 c_VF_3 f_VF_3 c_VF_4 f_VF_4 c_VF_5 f_VF_5 c_VF_6 f_VF_6 c_VF_7 f_VF_7 l_VF c_MX_0 f_MX_0 c_MX_1 f_MX_1 c_MX_2 f_MX_2 c_MX_3 f_MX_3 c_MX_4 f_MX_4 c_MX_5 f_MX_5 l_MX
     obtain ⟨A1, c1, hv1, -, -, -, -⟩ := OO1.out.form
     rw [show (O ++ [({ mv with t := f.t, c := f.c } : Vr)]).length = O.length + 1 by simp] at hv1
     subst hv1
     replace V9 := zh (TT.out.blk (blk_next (Bal (Below.refl W8.heap.size W8) (.cells #[.int .i64 f.t, .int .i64 f.c, .int .i64 mv.i, .int .i64 mv.j, .int .i64 mv.re, .int .i64 mv.im, .int .i64 mv.dn, .int .i64 mv.n] 44)) V9.out) (by decide))
     replace RB : Hid (RW w8 gR ys) := zh (TT.out.blk (blk_next (Bal (Below.refl W8.heap.size W8) (.cells #[.int .i64 f.t, .int .i64 f.c, .int .i64 mv.i, .int .i64 mv.j, .int .i64 mv.re, .int .i64 mv.im, .int .i64 mv.dn, .int .i64 mv.n] 44)) RB.out) (by decide))
     replace HK := zh (TT.out.obj (blk_next (Bal (Below.refl W8.heap.size W8) (.cells #[.int .i64 f.t, .int .i64 f.c, .int .i64 mv.i, .int .i64 mv.j, .int .i64 mv.re, .int .i64 mv.im, .int .i64 mv.dn, .int .i64 mv.n] 44)) HK.out) rfl)
     replace NN := zh ((Bgo NN.out (Bal (Below.refl W8.heap.size W8) (.cells #[.int .i64 f.t, .int .i64 f.c, .int .i64 mv.i, .int .i64 mv.j, .int .i64 mv.re, .int .i64 mv.im, .int .i64 mv.dn, .int .i64 mv.n] 44))).trans QQ.out)
     go_roundw
     case rel => exact ⟨m1, q1, Am1, A1, O ++ [({ mv with t := f.t, c := f.c } : Vr)], c1, hm1, by simp, HAM.out, OO1, V9, RB, HK, NN, HE1, zh (by have := HOL.out; have := HML.out; simp; omega)⟩
     case measure => rw [HQ.out, qOf_eq V9.out]; have := HML.out; omega
end Go.Proofs.YtbbnkclajpaghaaGreatDoor
