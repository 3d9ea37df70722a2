/- For every input the law CxNorms returns true and leaves its arguments as they were; the library's variables as the program's text lays them. -/
import Derived.Test.YtbbjclbpllfdeaaDoorRows
import Derived.Test.YtbbjclbpllfdeaaDoorCards
import Derived.Test.YtbbjclbpllfdeaaDoorTie
import Derived.Test.YtbbjclbpllfdeaaDoorCtf
import Derived.WalkKit
import Derived.ProofKit
import Derived.OpenShut
import Derived.ShutString
import Derived.ChangeOld
import Derived.Below
import Derived.Lib.SmallJoins
import Derived.Deep.DeepHandedRow
import Derived.LaidLaws
import Derived.SevenTiedAt
namespace Go.Proofs.YtbbjclbpllfdeaaDoor.cxNorms
open Go.ChangeShapes Go.WideShapes Go.ChangeAt Go.RowKit Go.Joins
open Go.ChangeMaps (open_string shut_string)
set_option linter.unusedVariables false

theorem own : ownKnob Tryd.prog.godebug = none := by kernel_rfl
theorem laidOut : laidOutB Tryd.prog = true := by kernel_rfl
open Cxm
def mxT (a b : Int) : Int := if b > a then b else a
theorem mxT_le (a b M : Int) : mxT a b ≤ M ↔ (a ≤ M ∧ b ≤ M) := by unfold mxT; split <;> omega
theorem run_max6 {P : Program} (w : World) (ts : Array TypeId) (t : TypeId) (a b c d e f : Int) : (Builtin.max_ ts t #[.int .i64 a, .int .i64 b, .int .i64 c, .int .i64 d, .int .i64 e, .int .i64 f]).run P w = .ok (.int .i64 (mxT (mxT (mxT (mxT (mxT a b) c) d) e) f)) w := by
  simp [Builtin.max_, Builtin.max2, mxT]
theorem mul3 {a b c : Int} (a0 : 0 ≤ a) (a1 : a ≤ 1000000) (b0 : 0 ≤ b) (b1 : b ≤ 1000000) (c0 : 0 ≤ c) (c1 : c ≤ 1000000) : 0 ≤ a * b ∧ a * b ≤ 1000000000000 ∧ 0 ≤ a * b * c ∧ a * b * c ≤ 1000000000000000000 := by
  have h1 := Int.mul_nonneg a0 b0
  have h2 : a * b ≤ 1000000 * 1000000 := Int.mul_le_mul a1 b1 b0 (by decide)
  have h3 := Int.mul_nonneg h1 c0
  have h4 : a * b * c ≤ (1000000 * 1000000) * 1000000 := Int.mul_le_mul h2 c1 c0 (by decide)
  omega
set_option maxRecDepth 100000 in
set_option maxHeartbeats 16000000 in
theorem walk (ar ai ad br bi bd : Int) (w : World) (g : GL w) :
    Calls Tryd.prog 5 #[Cv ar ai ad, Cv br bi bd] w fun e w' => e = .returned (.bool true) ∧ Below w.heap.size w w' := by
  have GG := Lib.hid g
  have NN := Lib.hid (Below.refl w.heap.size w)
  clear g
  have RB := Lib.hid (fun W => refBoth_calls ar ai ad br bi bd W)
  by_cases hab : chkB ar ai ad = true ∧ chkB br bi bd = true
  rotate_left
  · rw [both_no hab] at RB
    clear hab
    go_enter Tryd.func5, Tryd.ntmps5
    go_wp2_with fail
    have BA : Hid (((w.alloc (.cells #[.int .i64 ar, .int .i64 ai, .int .i64 ad] 23)).alloc (.cells #[.int .i64 br, .int .i64 bi, .int .i64 bd] 23)).heap[w.heap.size]? = some (.cells #[.int .i64 ar, .int .i64 ai, .int .i64 ad] 23)) := Lib.hid (blk_alloc (blk_new w _) _)
    have BB : Hid (((w.alloc (.cells #[.int .i64 ar, .int .i64 ai, .int .i64 ad] 23)).alloc (.cells #[.int .i64 br, .int .i64 bi, .int .i64 bd] 23)).heap[w.heap.size + 1]? = some (.cells #[.int .i64 br, .int .i64 bi, .int .i64 bd] 23)) := Lib.hid (blk_at _ (by simp))
    replace NN : Hid (Below w.heap.size w ((w.alloc (.cells #[.int .i64 ar, .int .i64 ai, .int .i64 ad] 23)).alloc (.cells #[.int .i64 br, .int .i64 bi, .int .i64 bd] 23))) := Lib.hid (Bal (Bal NN.out _) _)
    generalize ((w.alloc (.cells #[.int .i64 ar, .int .i64 ai, .int .i64 ad] 23)).alloc (.cells #[.int .i64 br, .int .i64 bi, .int .i64 bd] 23)) = W1 at *
    refine (alive_calls _ (GG.out.next NN.out)).mono ?_
    rintro e w2 ⟨rfl, hb⟩
    replace NN := Lib.hid (Bgo NN.out hb)
    replace BA := Lib.hid (blk_next hb BA.out)
    replace BB := Lib.hid (blk_next hb BB.out)
    clear hb
    have c_BA_0 := blk_cell BA.out 0 _ rfl
    have f_BA_0 := blk_frozen BA.out 0
    have c_BA_1 := blk_cell BA.out 1 _ rfl
    have f_BA_1 := blk_frozen BA.out 1
    have c_BA_2 := blk_cell BA.out 2 _ rfl
    have f_BA_2 := blk_frozen BA.out 2
    have l_BA := blk_lt BA.out
    have c_BB_0 := blk_cell BB.out 0 _ rfl
    have f_BB_0 := blk_frozen BB.out 0
    have c_BB_1 := blk_cell BB.out 1 _ rfl
    have f_BB_1 := blk_frozen BB.out 1
    have c_BB_2 := blk_cell BB.out 2 _ rfl
    have f_BB_2 := blk_frozen BB.out 2
    have l_BB := blk_lt BB.out
    go_wp2_with fail
    refine (RB.out _).mono ?_
    rintro e w3 ⟨rfl, hb⟩
    clear c_BA_0 f_BA_0 c_BA_1 f_BA_1 c_BA_2 f_BA_2 l_BA c_BB_0 f_BB_0 c_BB_1 f_BB_1 c_BB_2 f_BB_2 l_BB
    replace NN := Lib.hid (Bgo NN.out hb)
    replace BA := Lib.hid (blk_next hb BA.out)
    replace BB := Lib.hid (blk_next hb BB.out)
    clear hb
    go_wp2_with fail
    go_ret
    exact ⟨rfl, NN.out⟩
  obtain ⟨ha, hb⟩ := hab
  rw [both_yes ha hb] at RB
  have ha' : chkB ar (-ai) ad = true := by rw [chk_conj]; exact ha
  have CA := Lib.hid (fun W => conj_calls (conj_of ha) W)
  have CB := Lib.hid (fun W => conj_calls (conj_of hb) W)
  have MC := Lib.hid (mul_cases ha hb)
  have MJ := Lib.hid (mul_conj ar ai ad br bi bd)
  have NA := Lib.hid (norm_cases ha)
  have NB := Lib.hid (norm_cases hb)
  have SC := Lib.hid (mul_cases ha ha')
  have NM := Lib.hid (fun x y z h => norm_mul (x := x) (y := y) (z := z) ha h)
  have NP := Lib.hid (fun x y z n1 d1 n2 d2 n3 d3 hp h1 h2 h3 => norm_prod (ar := ar) (ai := ai) (ad := ad) (br := br) (bi := bi) (bd := bd) (x := x) (y := y) (z := z) (n1 := n1) (d1 := d1) (n2 := n2) (d2 := d2) (n3 := n3) (d3 := d3) hp h1 h2 h3)
  clear ha hb ha'
  go_enter Tryd.func5, Tryd.ntmps5
  go_wp2_with fail
  have BA : Hid (((w.alloc (.cells #[.int .i64 ar, .int .i64 ai, .int .i64 ad] 23)).alloc (.cells #[.int .i64 br, .int .i64 bi, .int .i64 bd] 23)).heap[w.heap.size]? = some (.cells #[.int .i64 ar, .int .i64 ai, .int .i64 ad] 23)) := Lib.hid (blk_alloc (blk_new w _) _)
  have BB : Hid (((w.alloc (.cells #[.int .i64 ar, .int .i64 ai, .int .i64 ad] 23)).alloc (.cells #[.int .i64 br, .int .i64 bi, .int .i64 bd] 23)).heap[w.heap.size + 1]? = some (.cells #[.int .i64 br, .int .i64 bi, .int .i64 bd] 23)) := Lib.hid (blk_at _ (by simp))
  replace NN : Hid (Below w.heap.size w ((w.alloc (.cells #[.int .i64 ar, .int .i64 ai, .int .i64 ad] 23)).alloc (.cells #[.int .i64 br, .int .i64 bi, .int .i64 bd] 23))) := Lib.hid (Bal (Bal NN.out _) _)
  generalize ((w.alloc (.cells #[.int .i64 ar, .int .i64 ai, .int .i64 ad] 23)).alloc (.cells #[.int .i64 br, .int .i64 bi, .int .i64 bd] 23)) = W4 at *
  refine (alive_calls _ (GG.out.next NN.out)).mono ?_
  rintro e w5 ⟨rfl, hb⟩
  replace NN := Lib.hid (Bgo NN.out hb)
  replace BA := Lib.hid (blk_next hb BA.out)
  replace BB := Lib.hid (blk_next hb BB.out)
  clear hb
  have c_BA_0 := blk_cell BA.out 0 _ rfl
  have f_BA_0 := blk_frozen BA.out 0
  have c_BA_1 := blk_cell BA.out 1 _ rfl
  have f_BA_1 := blk_frozen BA.out 1
  have c_BA_2 := blk_cell BA.out 2 _ rfl
  have f_BA_2 := blk_frozen BA.out 2
  have l_BA := blk_lt BA.out
  have c_BB_0 := blk_cell BB.out 0 _ rfl
  have f_BB_0 := blk_frozen BB.out 0
  have c_BB_1 := blk_cell BB.out 1 _ rfl
  have f_BB_1 := blk_frozen BB.out 1
  have c_BB_2 := blk_cell BB.out 2 _ rfl
  have f_BB_2 := blk_frozen BB.out 2
  have l_BB := blk_lt BB.out
  go_wp2_with fail
  refine (RB.out _).mono ?_
  rintro e w6 ⟨rfl, hb⟩
  clear c_BA_0 f_BA_0 c_BA_1 f_BA_1 c_BA_2 f_BA_2 l_BA c_BB_0 f_BB_0 c_BB_1 f_BB_1 c_BB_2 f_BB_2 l_BB
  replace NN := Lib.hid (Bgo NN.out hb)
  replace BA := Lib.hid (blk_next hb BA.out)
  replace BB := Lib.hid (blk_next hb BB.out)
  clear hb
  have c_BA_0 := blk_cell BA.out 0 _ rfl
  have f_BA_0 := blk_frozen BA.out 0
  have c_BA_1 := blk_cell BA.out 1 _ rfl
  have f_BA_1 := blk_frozen BA.out 1
  have c_BA_2 := blk_cell BA.out 2 _ rfl
  have f_BA_2 := blk_frozen BA.out 2
  have l_BA := blk_lt BA.out
  go_wp2_with fail
  refine (CA.out _).mono ?_
  rintro e w7 ⟨rfl, hb⟩
  clear c_BA_0 f_BA_0 c_BA_1 f_BA_1 c_BA_2 f_BA_2 l_BA
  replace NN := Lib.hid (Bgo NN.out hb)
  replace BA := Lib.hid (blk_next hb BA.out)
  replace BB := Lib.hid (blk_next hb BB.out)
  clear hb
  have HB : Hid (Below w7.heap.size w7 (w7.alloc (.cells #[.int .i64 ar, .int .i64 (-ai), .int .i64 ad] 23))) := Lib.hid (Bal (Below.refl _ _) _)
  have JA := Lib.hid (blk_new w7 (.cells #[.int .i64 ar, .int .i64 (-ai), .int .i64 ad] 23))
  have LT_JA : Hid (w.heap.size < w7.heap.size ∧ w.heap.size + 1 < w7.heap.size ∧ w.heap.size ≤ w7.heap.size) := Lib.hid ⟨blk_lt BA.out, blk_lt BB.out, NN.out.size⟩
  replace NN := Lib.hid (Bgo NN.out HB.out)
  replace BA := Lib.hid (blk_next HB.out BA.out)
  replace BB := Lib.hid (blk_next HB.out BB.out)
  clear HB
  have c_BB_0 := blk_cell BB.out 0 _ rfl
  have f_BB_0 := blk_frozen BB.out 0
  have c_BB_1 := blk_cell BB.out 1 _ rfl
  have f_BB_1 := blk_frozen BB.out 1
  have c_BB_2 := blk_cell BB.out 2 _ rfl
  have f_BB_2 := blk_frozen BB.out 2
  have l_BB := blk_lt BB.out
  go_wp2_with fail
  clear c_BB_0 f_BB_0 c_BB_1 f_BB_1 c_BB_2 f_BB_2 l_BB
  generalize w7.alloc (.cells #[.int .i64 ar, .int .i64 (-ai), .int .i64 ad] 23) = W8 at *
  generalize w7.heap.size = g8 at *
  refine (CB.out _).mono ?_
  rintro e w9 ⟨rfl, hb⟩
  replace NN := Lib.hid (Bgo NN.out hb)
  replace BA := Lib.hid (blk_next hb BA.out)
  replace BB := Lib.hid (blk_next hb BB.out)
  replace JA := Lib.hid (blk_next hb JA.out)
  clear hb
  have HB : Hid (Below w9.heap.size w9 (w9.alloc (.cells #[.int .i64 br, .int .i64 (-bi), .int .i64 bd] 23))) := Lib.hid (Bal (Below.refl _ _) _)
  have JB := Lib.hid (blk_new w9 (.cells #[.int .i64 br, .int .i64 (-bi), .int .i64 bd] 23))
  have LT_JB : Hid (w.heap.size < w9.heap.size ∧ w.heap.size + 1 < w9.heap.size ∧ g8 < w9.heap.size ∧ w.heap.size ≤ w9.heap.size) := Lib.hid ⟨blk_lt BA.out, blk_lt BB.out, blk_lt JA.out, NN.out.size⟩
  replace NN := Lib.hid (Bgo NN.out HB.out)
  replace BA := Lib.hid (blk_next HB.out BA.out)
  replace BB := Lib.hid (blk_next HB.out BB.out)
  replace JA := Lib.hid (blk_next HB.out JA.out)
  clear HB
  have c_BA_0 := blk_cell BA.out 0 _ rfl
  have f_BA_0 := blk_frozen BA.out 0
  have c_BA_1 := blk_cell BA.out 1 _ rfl
  have f_BA_1 := blk_frozen BA.out 1
  have c_BA_2 := blk_cell BA.out 2 _ rfl
  have f_BA_2 := blk_frozen BA.out 2
  have l_BA := blk_lt BA.out
  have c_BB_0 := blk_cell BB.out 0 _ rfl
  have f_BB_0 := blk_frozen BB.out 0
  have c_BB_1 := blk_cell BB.out 1 _ rfl
  have f_BB_1 := blk_frozen BB.out 1
  have c_BB_2 := blk_cell BB.out 2 _ rfl
  have f_BB_2 := blk_frozen BB.out 2
  have l_BB := blk_lt BB.out
  go_wp2_with fail
  clear c_BA_0 f_BA_0 c_BA_1 f_BA_1 c_BA_2 f_BA_2 l_BA c_BB_0 f_BB_0 c_BB_1 f_BB_1 c_BB_2 f_BB_2 l_BB
  generalize w9.alloc (.cells #[.int .i64 br, .int .i64 (-bi), .int .i64 bd] 23) = W10 at *
  generalize w9.heap.size = g10 at *
  rcases MC.out with ⟨px, py, pz, hp, vp⟩ | hp
  · have MP := Lib.hid (fun W => mul_calls _ _ _ _ _ _ _ _ _ _ hp W)
    have hq := MJ.out
    rw [hp] at hq
    simp only at hq
    have MQ := Lib.hid (fun W => mul_calls _ _ _ _ _ _ _ _ _ _ hq W)
    have CP := Lib.hid (fun W => conj_calls (conj_of vp) W)
    clear hq MC MJ
    refine (MP.out _).mono ?_
    rintro e w11 ⟨rfl, hb⟩
    replace NN := Lib.hid (Bgo NN.out hb)
    replace BA := Lib.hid (blk_next hb BA.out)
    replace BB := Lib.hid (blk_next hb BB.out)
    replace JA := Lib.hid (blk_next hb JA.out)
    replace JB := Lib.hid (blk_next hb JB.out)
    clear hb
    have HB : Hid (Below w11.heap.size w11 (w11.alloc (.cells #[.int .i64 px, .int .i64 py, .int .i64 pz] 23))) := Lib.hid (Bal (Below.refl _ _) _)
    have P := Lib.hid (blk_new w11 (.cells #[.int .i64 px, .int .i64 py, .int .i64 pz] 23))
    have LT_P : Hid (w.heap.size < w11.heap.size ∧ w.heap.size + 1 < w11.heap.size ∧ g8 < w11.heap.size ∧ g10 < w11.heap.size ∧ w.heap.size ≤ w11.heap.size) := Lib.hid ⟨blk_lt BA.out, blk_lt BB.out, blk_lt JA.out, blk_lt JB.out, NN.out.size⟩
    replace NN := Lib.hid (Bgo NN.out HB.out)
    replace BA := Lib.hid (blk_next HB.out BA.out)
    replace BB := Lib.hid (blk_next HB.out BB.out)
    replace JA := Lib.hid (blk_next HB.out JA.out)
    replace JB := Lib.hid (blk_next HB.out JB.out)
    clear HB
    have c_JA_0 := blk_cell JA.out 0 _ rfl
    have f_JA_0 := blk_frozen JA.out 0
    have c_JA_1 := blk_cell JA.out 1 _ rfl
    have f_JA_1 := blk_frozen JA.out 1
    have c_JA_2 := blk_cell JA.out 2 _ rfl
    have f_JA_2 := blk_frozen JA.out 2
    have l_JA := blk_lt JA.out
    have c_JB_0 := blk_cell JB.out 0 _ rfl
    have f_JB_0 := blk_frozen JB.out 0
    have c_JB_1 := blk_cell JB.out 1 _ rfl
    have f_JB_1 := blk_frozen JB.out 1
    have c_JB_2 := blk_cell JB.out 2 _ rfl
    have f_JB_2 := blk_frozen JB.out 2
    have l_JB := blk_lt JB.out
    go_wp2_with fail
    clear c_JA_0 f_JA_0 c_JA_1 f_JA_1 c_JA_2 f_JA_2 l_JA c_JB_0 f_JB_0 c_JB_1 f_JB_1 c_JB_2 f_JB_2 l_JB
    generalize w11.alloc (.cells #[.int .i64 px, .int .i64 py, .int .i64 pz] 23) = W12 at *
    generalize w11.heap.size = g12 at *
    refine (MQ.out _).mono ?_
    rintro e w13 ⟨rfl, hb⟩
    replace NN := Lib.hid (Bgo NN.out hb)
    replace BA := Lib.hid (blk_next hb BA.out)
    replace BB := Lib.hid (blk_next hb BB.out)
    replace JA := Lib.hid (blk_next hb JA.out)
    replace JB := Lib.hid (blk_next hb JB.out)
    replace P := Lib.hid (blk_next hb P.out)
    clear hb
    have HB : Hid (Below w13.heap.size w13 (w13.alloc (.cells #[.int .i64 px, .int .i64 (-py), .int .i64 pz] 23))) := Lib.hid (Bal (Below.refl _ _) _)
    have Q0 := Lib.hid (blk_new w13 (.cells #[.int .i64 px, .int .i64 (-py), .int .i64 pz] 23))
    have LT_Q0 : Hid (w.heap.size < w13.heap.size ∧ w.heap.size + 1 < w13.heap.size ∧ g8 < w13.heap.size ∧ g10 < w13.heap.size ∧ g12 < w13.heap.size ∧ w.heap.size ≤ w13.heap.size) := Lib.hid ⟨blk_lt BA.out, blk_lt BB.out, blk_lt JA.out, blk_lt JB.out, blk_lt P.out, NN.out.size⟩
    replace NN := Lib.hid (Bgo NN.out HB.out)
    replace BA := Lib.hid (blk_next HB.out BA.out)
    replace BB := Lib.hid (blk_next HB.out BB.out)
    replace JA := Lib.hid (blk_next HB.out JA.out)
    replace JB := Lib.hid (blk_next HB.out JB.out)
    replace P := Lib.hid (blk_next HB.out P.out)
    clear HB
    have c_P_0 := blk_cell P.out 0 _ rfl
    have c_P_1 := blk_cell P.out 1 _ rfl
    have c_P_2 := blk_cell P.out 2 _ rfl
    have l_P := blk_lt P.out
    go_wp2_with fail
    clear c_P_0 c_P_1 c_P_2 l_P
    refine (CP.out _).mono ?_
    rintro e w15 ⟨rfl, hb⟩
    replace NN := Lib.hid (Bgo NN.out hb)
    replace BA := Lib.hid (blk_next hb BA.out)
    replace BB := Lib.hid (blk_next hb BB.out)
    replace JA := Lib.hid (blk_next hb JA.out)
    replace JB := Lib.hid (blk_next hb JB.out)
    replace P := Lib.hid (blk_next hb P.out)
    replace Q0 := Lib.hid (blk_next hb Q0.out)
    clear hb
    have HB : Hid (Below w15.heap.size w15 (w15.alloc (.cells #[.int .i64 px, .int .i64 (-py), .int .i64 pz] 23))) := Lib.hid (Bal (Below.refl _ _) _)
    have CQ := Lib.hid (blk_new w15 (.cells #[.int .i64 px, .int .i64 (-py), .int .i64 pz] 23))
    have LT_CQ : Hid (w.heap.size < w15.heap.size ∧ w.heap.size + 1 < w15.heap.size ∧ g8 < w15.heap.size ∧ g10 < w15.heap.size ∧ g12 < w15.heap.size ∧ w13.heap.size < w15.heap.size ∧ w.heap.size ≤ w15.heap.size) := Lib.hid ⟨blk_lt BA.out, blk_lt BB.out, blk_lt JA.out, blk_lt JB.out, blk_lt P.out, blk_lt Q0.out, NN.out.size⟩
    replace NN := Lib.hid (Bgo NN.out HB.out)
    replace BA := Lib.hid (blk_next HB.out BA.out)
    replace BB := Lib.hid (blk_next HB.out BB.out)
    replace JA := Lib.hid (blk_next HB.out JA.out)
    replace JB := Lib.hid (blk_next HB.out JB.out)
    replace P := Lib.hid (blk_next HB.out P.out)
    replace Q0 := Lib.hid (blk_next HB.out Q0.out)
    clear HB
    rcases SC.out with ⟨sx, sy, sz, hs, _⟩ | hs
    · obtain ⟨hn, rfl⟩ := NM.out _ _ _ hs
      have N1 := Lib.hid (fun W => norm_calls hn W)
      have S1 := Lib.hid (fun W => mul_calls _ _ _ _ _ _ _ _ _ _ hs W)
      have nb : 0 ≤ sx ∧ sx ≤ 1000000000000000000 ∧ 1 ≤ sz ∧ sz ≤ 1000000000000000000 := by
        rcases NA.out with ⟨u, v, h, b⟩ | h
        · rw [hn] at h; cases h; exact b
        · rw [hn] at h; cases h
      have HN := Lib.hid hn
      clear hn hs NM SC NA
      have c_BA_0 := blk_cell BA.out 0 _ rfl
      have c_BA_1 := blk_cell BA.out 1 _ rfl
      have c_BA_2 := blk_cell BA.out 2 _ rfl
      have l_BA := blk_lt BA.out
      have c_CQ_0 := blk_cell CQ.out 0 _ rfl
      have c_CQ_1 := blk_cell CQ.out 1 _ rfl
      have c_CQ_2 := blk_cell CQ.out 2 _ rfl
      have l_CQ := blk_lt CQ.out
      have c_Q0_0 := blk_cell Q0.out 0 _ rfl
      have c_Q0_1 := blk_cell Q0.out 1 _ rfl
      have c_Q0_2 := blk_cell Q0.out 2 _ rfl
      have l_Q0 := blk_lt Q0.out
      go_wp2_with fail
      clear c_BA_0 c_BA_1 c_BA_2 l_BA c_CQ_0 c_CQ_1 c_CQ_2 l_CQ c_Q0_0 c_Q0_1 c_Q0_2 l_Q0
      refine (N1.out _).mono ?_
      rintro e w17 ⟨rfl, hb⟩
      replace NN := Lib.hid (Bgo NN.out hb)
      replace BA := Lib.hid (blk_next hb BA.out)
      replace BB := Lib.hid (blk_next hb BB.out)
      replace JA := Lib.hid (blk_next hb JA.out)
      replace JB := Lib.hid (blk_next hb JB.out)
      replace P := Lib.hid (blk_next hb P.out)
      replace Q0 := Lib.hid (blk_next hb Q0.out)
      replace CQ := Lib.hid (blk_next hb CQ.out)
      clear hb
      have HB : Hid (Below w17.heap.size w17 (w17.alloc (.cells #[.int .i64 sx, .int .i64 sz] 41))) := Lib.hid (Bal (Below.refl _ _) _)
      have N := Lib.hid (blk_new w17 (.cells #[.int .i64 sx, .int .i64 sz] 41))
      have LT_N : Hid (w.heap.size < w17.heap.size ∧ w.heap.size + 1 < w17.heap.size ∧ g8 < w17.heap.size ∧ g10 < w17.heap.size ∧ g12 < w17.heap.size ∧ w13.heap.size < w17.heap.size ∧ w15.heap.size < w17.heap.size ∧ w.heap.size ≤ w17.heap.size) := Lib.hid ⟨blk_lt BA.out, blk_lt BB.out, blk_lt JA.out, blk_lt JB.out, blk_lt P.out, blk_lt Q0.out, blk_lt CQ.out, NN.out.size⟩
      replace NN := Lib.hid (Bgo NN.out HB.out)
      replace BA := Lib.hid (blk_next HB.out BA.out)
      replace BB := Lib.hid (blk_next HB.out BB.out)
      replace JA := Lib.hid (blk_next HB.out JA.out)
      replace JB := Lib.hid (blk_next HB.out JB.out)
      replace P := Lib.hid (blk_next HB.out P.out)
      replace Q0 := Lib.hid (blk_next HB.out Q0.out)
      replace CQ := Lib.hid (blk_next HB.out CQ.out)
      clear HB
      have c_BA_0 := blk_cell BA.out 0 _ rfl
      have f_BA_0 := blk_frozen BA.out 0
      have c_BA_1 := blk_cell BA.out 1 _ rfl
      have f_BA_1 := blk_frozen BA.out 1
      have c_BA_2 := blk_cell BA.out 2 _ rfl
      have f_BA_2 := blk_frozen BA.out 2
      have l_BA := blk_lt BA.out
      have c_JA_0 := blk_cell JA.out 0 _ rfl
      have f_JA_0 := blk_frozen JA.out 0
      have c_JA_1 := blk_cell JA.out 1 _ rfl
      have f_JA_1 := blk_frozen JA.out 1
      have c_JA_2 := blk_cell JA.out 2 _ rfl
      have f_JA_2 := blk_frozen JA.out 2
      have l_JA := blk_lt JA.out
      go_wp2_with fail
      clear c_BA_0 f_BA_0 c_BA_1 f_BA_1 c_BA_2 f_BA_2 l_BA c_JA_0 f_JA_0 c_JA_1 f_JA_1 c_JA_2 f_JA_2 l_JA
      generalize w17.alloc (.cells #[.int .i64 sx, .int .i64 sz] 41) = W18 at *
      generalize w17.heap.size = g18 at *
      refine (S1.out _).mono ?_
      rintro e w19 ⟨rfl, hb⟩
      replace NN := Lib.hid (Bgo NN.out hb)
      replace BA := Lib.hid (blk_next hb BA.out)
      replace BB := Lib.hid (blk_next hb BB.out)
      replace JA := Lib.hid (blk_next hb JA.out)
      replace JB := Lib.hid (blk_next hb JB.out)
      replace P := Lib.hid (blk_next hb P.out)
      replace Q0 := Lib.hid (blk_next hb Q0.out)
      replace CQ := Lib.hid (blk_next hb CQ.out)
      replace N := Lib.hid (blk_next hb N.out)
      clear hb
      have HB : Hid (Below w19.heap.size w19 (w19.alloc (.cells #[.int .i64 sx, .int .i64 0, .int .i64 sz] 23))) := Lib.hid (Bal (Below.refl _ _) _)
      have S := Lib.hid (blk_new w19 (.cells #[.int .i64 sx, .int .i64 0, .int .i64 sz] 23))
      have LT_S : Hid (w.heap.size < w19.heap.size ∧ w.heap.size + 1 < w19.heap.size ∧ g8 < w19.heap.size ∧ g10 < w19.heap.size ∧ g12 < w19.heap.size ∧ w13.heap.size < w19.heap.size ∧ w15.heap.size < w19.heap.size ∧ g18 < w19.heap.size ∧ w.heap.size ≤ w19.heap.size) := Lib.hid ⟨blk_lt BA.out, blk_lt BB.out, blk_lt JA.out, blk_lt JB.out, blk_lt P.out, blk_lt Q0.out, blk_lt CQ.out, blk_lt N.out, NN.out.size⟩
      replace NN := Lib.hid (Bgo NN.out HB.out)
      replace BA := Lib.hid (blk_next HB.out BA.out)
      replace BB := Lib.hid (blk_next HB.out BB.out)
      replace JA := Lib.hid (blk_next HB.out JA.out)
      replace JB := Lib.hid (blk_next HB.out JB.out)
      replace P := Lib.hid (blk_next HB.out P.out)
      replace Q0 := Lib.hid (blk_next HB.out Q0.out)
      replace CQ := Lib.hid (blk_next HB.out CQ.out)
      replace N := Lib.hid (blk_next HB.out N.out)
      clear HB
      go_wp2_with fail
      generalize w19.alloc (.cells #[.int .i64 sx, .int .i64 0, .int .i64 sz] 23) = WS21 at *
      generalize w19.heap.size = gs21 at *
      refine region_I (S := SK [(6, gs21, .cells #[.int .i64 sx, .int .i64 0, .int .i64 sz] 23), (8, g18, .cells #[.int .i64 sx, .int .i64 sz] 41), (10, g18, .cells #[.int .i64 sx, .int .i64 sz] 41)]) (by kernel_rfl) ?_
      have HAL := Lib.hid (fun (k : Nat) => (show SK [(6, gs21, .cells #[.int .i64 sx, .int .i64 0, .int .i64 sz] 23), (8, g18, .cells #[.int .i64 sx, .int .i64 sz] 41), (10, g18, .cells #[.int .i64 sx, .int .i64 sz] 41)] k WS21.drew from fun p hp e => by
        simp only [List.mem_cons, List.not_mem_nil, or_false] at hp
        rcases hp with rfl | rfl | rfl
        · exact S.out
        · exact N.out
        · exact N.out))
      have HD := Lib.hid (Below.drew (Below.refl WS21.heap.size WS21))
      replace NN := Lib.hid (Bgo NN.out HD.out)
      replace BA := Lib.hid (blk_next HD.out BA.out)
      replace BB := Lib.hid (blk_next HD.out BB.out)
      replace JA := Lib.hid (blk_next HD.out JA.out)
      replace JB := Lib.hid (blk_next HD.out JB.out)
      replace P := Lib.hid (blk_next HD.out P.out)
      replace Q0 := Lib.hid (blk_next HD.out Q0.out)
      replace CQ := Lib.hid (blk_next HD.out CQ.out)
      replace N := Lib.hid (blk_next HD.out N.out)
      replace S := Lib.hid (blk_next HD.out S.out)
      clear HD
      refine only_I 0 (by kernel_rfl) rfl (fun K' hK' => ?_)
      go_simp
      refine hK'.out _ _ (fun k _ h => h) ?_
      clear hK' K'
      try simp only [Act.put, List.setIfInBounds_toArray, List.set_cons_zero, List.set_cons_succ]
      refine only_I 1 (by kernel_rfl) rfl (fun K' hK' => ?_)
      go_simp
      refine hK'.out _ _ (fun k _ h => h) ?_
      clear hK' K'
      try simp only [Act.put, List.setIfInBounds_toArray, List.set_cons_zero, List.set_cons_succ]
      refine only_I 2 (by kernel_rfl) rfl (fun K' hK' => ?_)
      go_simp
      refine hK'.out _ _ (fun k _ h => h) ?_
      clear hK' K'
      try simp only [Act.put, List.setIfInBounds_toArray, List.set_cons_zero, List.set_cons_succ]
      refine only_I 3 (by kernel_rfl) rfl (fun K' hK' => ?_)
      go_simp
      refine hK'.out _ _ (fun k _ h => h) ?_
      clear hK' K'
      try simp only [Act.put, List.setIfInBounds_toArray, List.set_cons_zero, List.set_cons_succ]
      refine only_I 4 (by kernel_rfl) rfl (fun K' hK' => ?_)
      go_simp
      refine hK'.out _ _ (fun k _ h => h) ?_
      clear hK' K'
      try simp only [Act.put, List.setIfInBounds_toArray, List.set_cons_zero, List.set_cons_succ]
      refine only_I 5 (by kernel_rfl) rfl (fun K' hK' => ?_)
      go_simp
      refine hK'.out _ _ (fun k _ h => h) ?_
      clear hK' K'
      try simp only [Act.put, List.setIfInBounds_toArray, List.set_cons_zero, List.set_cons_succ]
      refine take_I 6 (Cv sx 0 sz) (some 98) rfl (by kernel_rfl) (by kernel_rfl) (by kernel_rfl) rfl (fun _ _ _ h => h) (Or.inl ⟨by rfl, ?_⟩) (HAL.out 6) ?_
      · intro X hX
        have hh := hX (6, gs21, .cells #[.int .i64 sx, .int .i64 0, .int .i64 sz] 23) (List.Mem.head _) rfl
        have hh0 := blk_cell hh 0 _ rfl
        have hh1 := blk_cell hh 1 _ rfl
        have hh2 := blk_cell hh 2 _ rfl
        have hhl := blk_lt hh
        clear hh
        clear hX
        go_simp
      try simp only [Act.put, List.setIfInBounds_toArray, List.set_cons_zero, List.set_cons_succ]
      refine take_I 7 (.pointer (some ⟨g18, 0, none⟩)) (some 99) rfl (by kernel_rfl) (by kernel_rfl) (by kernel_rfl) rfl (fun _ _ _ h => h) (Or.inl ⟨by rfl, ?_⟩) (SK.drop (by simp)) ?_
      · intro X hX
        clear hX
        go_simp
      try simp only [Act.put, List.setIfInBounds_toArray, List.set_cons_zero, List.set_cons_succ]
      refine take_I 8 (.int .i64 sx) (some 100) rfl (by kernel_rfl) (by kernel_rfl) (by kernel_rfl) rfl (fun _ _ _ h => h) (Or.inl ⟨by rfl, ?_⟩) (HAL.out 8) ?_
      · intro X hX
        have hh := hX (8, g18, .cells #[.int .i64 sx, .int .i64 sz] 41) (List.Mem.tail _ (List.Mem.head _)) rfl
        have hh0 := blk_cell hh 0 _ rfl
        have hhl := blk_lt hh
        clear hh
        clear hX
        go_simp
      try simp only [Act.put, List.setIfInBounds_toArray, List.set_cons_zero, List.set_cons_succ]
      refine take_I 9 (.pointer (some ⟨g18, 1, none⟩)) (some 101) rfl (by kernel_rfl) (by kernel_rfl) (by kernel_rfl) rfl (fun _ _ _ h => h) (Or.inl ⟨by rfl, ?_⟩) (SK.drop (by simp)) ?_
      · intro X hX
        clear hX
        go_simp
      try simp only [Act.put, List.setIfInBounds_toArray, List.set_cons_zero, List.set_cons_succ]
      refine take_I 10 (.int .i64 sz) (some 102) rfl (by kernel_rfl) (by kernel_rfl) (by kernel_rfl) rfl (fun _ _ _ h => h) (Or.inl ⟨by rfl, ?_⟩) (HAL.out 10) ?_
      · intro X hX
        have hh := hX (10, g18, .cells #[.int .i64 sx, .int .i64 sz] 41) (List.Mem.tail _ (List.Mem.tail _ (List.Mem.head _))) rfl
        have hh1 := blk_cell hh 1 _ rfl
        have hhl := blk_lt hh
        clear hh
        clear hX
        go_simp
      try simp only [Act.put, List.setIfInBounds_toArray, List.set_cons_zero, List.set_cons_succ]
      refine only_I 11 (by kernel_rfl) rfl (fun K' hK' => ?_)
      go_simp
      go_at_call 20
      refine (of_calls sx 0 sz _).mono ?_
      rintro e x22 ⟨rfl, hb⟩
      replace NN := Lib.hid (Bgo NN.out hb)
      replace BA := Lib.hid (blk_next hb BA.out)
      replace BB := Lib.hid (blk_next hb BB.out)
      replace JA := Lib.hid (blk_next hb JA.out)
      replace JB := Lib.hid (blk_next hb JB.out)
      replace P := Lib.hid (blk_next hb P.out)
      replace Q0 := Lib.hid (blk_next hb Q0.out)
      replace CQ := Lib.hid (blk_next hb CQ.out)
      replace N := Lib.hid (blk_next hb N.out)
      replace S := Lib.hid (blk_next hb S.out)
      go_simp
      refine hK'.out _ _ (fun k _ hS => hS.next hb) ?_
      clear hK' K'
      try simp only [Act.put, List.setIfInBounds_toArray, List.set_cons_zero, List.set_cons_succ]
      replace HAL := Lib.hid (fun k => (HAL.out k).next hb)
      refine only_I 12 (by kernel_rfl) rfl (fun K' hK' => ?_)
      go_simp
      refine hK'.out _ _ (fun k _ h => h) ?_
      clear hK' K'
      try simp only [Act.put, List.setIfInBounds_toArray, List.set_cons_zero, List.set_cons_succ]
      refine only_I 13 (by kernel_rfl) rfl (fun K' hK' => ?_)
      go_simp
      refine hK'.out _ _ (fun k _ h => h) ?_
      clear hK' K'
      try simp only [Act.put, List.setIfInBounds_toArray, List.set_cons_zero, List.set_cons_succ]
      refine only_I 14 (by kernel_rfl) rfl (fun K' hK' => ?_)
      go_simp
      refine hK'.out _ _ (fun k _ h => h) ?_
      clear hK' K'
      try simp only [Act.put, List.setIfInBounds_toArray, List.set_cons_zero, List.set_cons_succ]
      clear HAL hb
      refine done_I (by kernel_rfl) ?_ _
      rcases NB.out with ⟨mx, my, hm, mb⟩ | hm
      rotate_left
      · have M1 := Lib.hid (fun W => norm_calls hm W)
        clear hm NB
        rcases norm_cases vp with ⟨lx, ly, hl, lb⟩ | hl
        · have L1 := Lib.hid (fun W => norm_calls hl W)
          clear hl
          have c_BB_0 := blk_cell BB.out 0 _ rfl
          have c_BB_1 := blk_cell BB.out 1 _ rfl
          have c_BB_2 := blk_cell BB.out 2 _ rfl
          have l_BB := blk_lt BB.out
          go_wp2_with fail
          clear c_BB_0 c_BB_1 c_BB_2 l_BB
          refine (M1.out _).mono ?_
          rintro e w23 ⟨rfl, hb⟩
          replace NN := Lib.hid (Bgo NN.out hb)
          replace BA := Lib.hid (blk_next hb BA.out)
          replace BB := Lib.hid (blk_next hb BB.out)
          replace JA := Lib.hid (blk_next hb JA.out)
          replace JB := Lib.hid (blk_next hb JB.out)
          replace P := Lib.hid (blk_next hb P.out)
          replace Q0 := Lib.hid (blk_next hb Q0.out)
          replace CQ := Lib.hid (blk_next hb CQ.out)
          replace N := Lib.hid (blk_next hb N.out)
          replace S := Lib.hid (blk_next hb S.out)
          clear hb
          have HB : Hid (Below w23.heap.size w23 (w23.alloc (.cells #[.int .i64 0, .int .i64 0] 41))) := Lib.hid (Bal (Below.refl _ _) _)
          have M := Lib.hid (blk_new w23 (.cells #[.int .i64 0, .int .i64 0] 41))
          have LT_M : Hid (w.heap.size < w23.heap.size ∧ w.heap.size + 1 < w23.heap.size ∧ g8 < w23.heap.size ∧ g10 < w23.heap.size ∧ g12 < w23.heap.size ∧ w13.heap.size < w23.heap.size ∧ w15.heap.size < w23.heap.size ∧ g18 < w23.heap.size ∧ gs21 < w23.heap.size ∧ w.heap.size ≤ w23.heap.size) := Lib.hid ⟨blk_lt BA.out, blk_lt BB.out, blk_lt JA.out, blk_lt JB.out, blk_lt P.out, blk_lt Q0.out, blk_lt CQ.out, blk_lt N.out, blk_lt S.out, NN.out.size⟩
          replace NN := Lib.hid (Bgo NN.out HB.out)
          replace BA := Lib.hid (blk_next HB.out BA.out)
          replace BB := Lib.hid (blk_next HB.out BB.out)
          replace JA := Lib.hid (blk_next HB.out JA.out)
          replace JB := Lib.hid (blk_next HB.out JB.out)
          replace P := Lib.hid (blk_next HB.out P.out)
          replace Q0 := Lib.hid (blk_next HB.out Q0.out)
          replace CQ := Lib.hid (blk_next HB.out CQ.out)
          replace N := Lib.hid (blk_next HB.out N.out)
          replace S := Lib.hid (blk_next HB.out S.out)
          clear HB
          have c_P_0 := blk_cell P.out 0 _ rfl
          have f_P_0 := blk_frozen P.out 0
          have c_P_1 := blk_cell P.out 1 _ rfl
          have f_P_1 := blk_frozen P.out 1
          have c_P_2 := blk_cell P.out 2 _ rfl
          have f_P_2 := blk_frozen P.out 2
          have l_P := blk_lt P.out
          go_wp2_with fail
          clear c_P_0 f_P_0 c_P_1 f_P_1 c_P_2 f_P_2 l_P
          generalize w23.alloc (.cells #[.int .i64 0, .int .i64 0] 41) = W24 at *
          generalize w23.heap.size = g24 at *
          refine (L1.out _).mono ?_
          rintro e w25 ⟨rfl, hb⟩
          replace NN := Lib.hid (Bgo NN.out hb)
          replace BA := Lib.hid (blk_next hb BA.out)
          replace BB := Lib.hid (blk_next hb BB.out)
          replace JA := Lib.hid (blk_next hb JA.out)
          replace JB := Lib.hid (blk_next hb JB.out)
          replace P := Lib.hid (blk_next hb P.out)
          replace Q0 := Lib.hid (blk_next hb Q0.out)
          replace CQ := Lib.hid (blk_next hb CQ.out)
          replace N := Lib.hid (blk_next hb N.out)
          replace S := Lib.hid (blk_next hb S.out)
          replace M := Lib.hid (blk_next hb M.out)
          clear hb
          have HB : Hid (Below w25.heap.size w25 (w25.alloc (.cells #[.int .i64 lx, .int .i64 ly] 41))) := Lib.hid (Bal (Below.refl _ _) _)
          have Q := Lib.hid (blk_new w25 (.cells #[.int .i64 lx, .int .i64 ly] 41))
          have LT_Q : Hid (w.heap.size < w25.heap.size ∧ w.heap.size + 1 < w25.heap.size ∧ g8 < w25.heap.size ∧ g10 < w25.heap.size ∧ g12 < w25.heap.size ∧ w13.heap.size < w25.heap.size ∧ w15.heap.size < w25.heap.size ∧ g18 < w25.heap.size ∧ gs21 < w25.heap.size ∧ g24 < w25.heap.size ∧ w.heap.size ≤ w25.heap.size) := Lib.hid ⟨blk_lt BA.out, blk_lt BB.out, blk_lt JA.out, blk_lt JB.out, blk_lt P.out, blk_lt Q0.out, blk_lt CQ.out, blk_lt N.out, blk_lt S.out, blk_lt M.out, NN.out.size⟩
          replace NN := Lib.hid (Bgo NN.out HB.out)
          replace BA := Lib.hid (blk_next HB.out BA.out)
          replace BB := Lib.hid (blk_next HB.out BB.out)
          replace JA := Lib.hid (blk_next HB.out JA.out)
          replace JB := Lib.hid (blk_next HB.out JB.out)
          replace P := Lib.hid (blk_next HB.out P.out)
          replace Q0 := Lib.hid (blk_next HB.out Q0.out)
          replace CQ := Lib.hid (blk_next HB.out CQ.out)
          replace N := Lib.hid (blk_next HB.out N.out)
          replace S := Lib.hid (blk_next HB.out S.out)
          replace M := Lib.hid (blk_next HB.out M.out)
          clear HB
          go_wp2_with fail
          go_ret
          exact ⟨rfl, NN.out⟩
        · have L1 := Lib.hid (fun W => norm_calls hl W)
          clear hl
          have c_BB_0 := blk_cell BB.out 0 _ rfl
          have c_BB_1 := blk_cell BB.out 1 _ rfl
          have c_BB_2 := blk_cell BB.out 2 _ rfl
          have l_BB := blk_lt BB.out
          go_wp2_with fail
          clear c_BB_0 c_BB_1 c_BB_2 l_BB
          refine (M1.out _).mono ?_
          rintro e w27 ⟨rfl, hb⟩
          replace NN := Lib.hid (Bgo NN.out hb)
          replace BA := Lib.hid (blk_next hb BA.out)
          replace BB := Lib.hid (blk_next hb BB.out)
          replace JA := Lib.hid (blk_next hb JA.out)
          replace JB := Lib.hid (blk_next hb JB.out)
          replace P := Lib.hid (blk_next hb P.out)
          replace Q0 := Lib.hid (blk_next hb Q0.out)
          replace CQ := Lib.hid (blk_next hb CQ.out)
          replace N := Lib.hid (blk_next hb N.out)
          replace S := Lib.hid (blk_next hb S.out)
          clear hb
          have HB : Hid (Below w27.heap.size w27 (w27.alloc (.cells #[.int .i64 0, .int .i64 0] 41))) := Lib.hid (Bal (Below.refl _ _) _)
          have M := Lib.hid (blk_new w27 (.cells #[.int .i64 0, .int .i64 0] 41))
          have LT_M : Hid (w.heap.size < w27.heap.size ∧ w.heap.size + 1 < w27.heap.size ∧ g8 < w27.heap.size ∧ g10 < w27.heap.size ∧ g12 < w27.heap.size ∧ w13.heap.size < w27.heap.size ∧ w15.heap.size < w27.heap.size ∧ g18 < w27.heap.size ∧ gs21 < w27.heap.size ∧ w.heap.size ≤ w27.heap.size) := Lib.hid ⟨blk_lt BA.out, blk_lt BB.out, blk_lt JA.out, blk_lt JB.out, blk_lt P.out, blk_lt Q0.out, blk_lt CQ.out, blk_lt N.out, blk_lt S.out, NN.out.size⟩
          replace NN := Lib.hid (Bgo NN.out HB.out)
          replace BA := Lib.hid (blk_next HB.out BA.out)
          replace BB := Lib.hid (blk_next HB.out BB.out)
          replace JA := Lib.hid (blk_next HB.out JA.out)
          replace JB := Lib.hid (blk_next HB.out JB.out)
          replace P := Lib.hid (blk_next HB.out P.out)
          replace Q0 := Lib.hid (blk_next HB.out Q0.out)
          replace CQ := Lib.hid (blk_next HB.out CQ.out)
          replace N := Lib.hid (blk_next HB.out N.out)
          replace S := Lib.hid (blk_next HB.out S.out)
          clear HB
          have c_P_0 := blk_cell P.out 0 _ rfl
          have f_P_0 := blk_frozen P.out 0
          have c_P_1 := blk_cell P.out 1 _ rfl
          have f_P_1 := blk_frozen P.out 1
          have c_P_2 := blk_cell P.out 2 _ rfl
          have f_P_2 := blk_frozen P.out 2
          have l_P := blk_lt P.out
          go_wp2_with fail
          clear c_P_0 f_P_0 c_P_1 f_P_1 c_P_2 f_P_2 l_P
          generalize w27.alloc (.cells #[.int .i64 0, .int .i64 0] 41) = W28 at *
          generalize w27.heap.size = g28 at *
          refine (L1.out _).mono ?_
          rintro e w29 ⟨rfl, hb⟩
          replace NN := Lib.hid (Bgo NN.out hb)
          replace BA := Lib.hid (blk_next hb BA.out)
          replace BB := Lib.hid (blk_next hb BB.out)
          replace JA := Lib.hid (blk_next hb JA.out)
          replace JB := Lib.hid (blk_next hb JB.out)
          replace P := Lib.hid (blk_next hb P.out)
          replace Q0 := Lib.hid (blk_next hb Q0.out)
          replace CQ := Lib.hid (blk_next hb CQ.out)
          replace N := Lib.hid (blk_next hb N.out)
          replace S := Lib.hid (blk_next hb S.out)
          replace M := Lib.hid (blk_next hb M.out)
          clear hb
          have HB : Hid (Below w29.heap.size w29 (w29.alloc (.cells #[.int .i64 0, .int .i64 0] 41))) := Lib.hid (Bal (Below.refl _ _) _)
          have Q := Lib.hid (blk_new w29 (.cells #[.int .i64 0, .int .i64 0] 41))
          have LT_Q : Hid (w.heap.size < w29.heap.size ∧ w.heap.size + 1 < w29.heap.size ∧ g8 < w29.heap.size ∧ g10 < w29.heap.size ∧ g12 < w29.heap.size ∧ w13.heap.size < w29.heap.size ∧ w15.heap.size < w29.heap.size ∧ g18 < w29.heap.size ∧ gs21 < w29.heap.size ∧ g28 < w29.heap.size ∧ w.heap.size ≤ w29.heap.size) := Lib.hid ⟨blk_lt BA.out, blk_lt BB.out, blk_lt JA.out, blk_lt JB.out, blk_lt P.out, blk_lt Q0.out, blk_lt CQ.out, blk_lt N.out, blk_lt S.out, blk_lt M.out, NN.out.size⟩
          replace NN := Lib.hid (Bgo NN.out HB.out)
          replace BA := Lib.hid (blk_next HB.out BA.out)
          replace BB := Lib.hid (blk_next HB.out BB.out)
          replace JA := Lib.hid (blk_next HB.out JA.out)
          replace JB := Lib.hid (blk_next HB.out JB.out)
          replace P := Lib.hid (blk_next HB.out P.out)
          replace Q0 := Lib.hid (blk_next HB.out Q0.out)
          replace CQ := Lib.hid (blk_next HB.out CQ.out)
          replace N := Lib.hid (blk_next HB.out N.out)
          replace S := Lib.hid (blk_next HB.out S.out)
          replace M := Lib.hid (blk_next HB.out M.out)
          clear HB
          go_wp2_with fail
          go_ret
          exact ⟨rfl, NN.out⟩
      have M1 := Lib.hid (fun W => norm_calls hm W)
      rcases norm_cases vp with ⟨lx, ly, hl, lb⟩ | hl
      rotate_left
      · have L1 := Lib.hid (fun W => norm_calls hl W)
        clear hl hm NB
        have c_BB_0 := blk_cell BB.out 0 _ rfl
        have c_BB_1 := blk_cell BB.out 1 _ rfl
        have c_BB_2 := blk_cell BB.out 2 _ rfl
        have l_BB := blk_lt BB.out
        go_wp2_with fail
        clear c_BB_0 c_BB_1 c_BB_2 l_BB
        refine (M1.out _).mono ?_
        rintro e w31 ⟨rfl, hb⟩
        replace NN := Lib.hid (Bgo NN.out hb)
        replace BA := Lib.hid (blk_next hb BA.out)
        replace BB := Lib.hid (blk_next hb BB.out)
        replace JA := Lib.hid (blk_next hb JA.out)
        replace JB := Lib.hid (blk_next hb JB.out)
        replace P := Lib.hid (blk_next hb P.out)
        replace Q0 := Lib.hid (blk_next hb Q0.out)
        replace CQ := Lib.hid (blk_next hb CQ.out)
        replace N := Lib.hid (blk_next hb N.out)
        replace S := Lib.hid (blk_next hb S.out)
        clear hb
        have HB : Hid (Below w31.heap.size w31 (w31.alloc (.cells #[.int .i64 mx, .int .i64 my] 41))) := Lib.hid (Bal (Below.refl _ _) _)
        have M := Lib.hid (blk_new w31 (.cells #[.int .i64 mx, .int .i64 my] 41))
        have LT_M : Hid (w.heap.size < w31.heap.size ∧ w.heap.size + 1 < w31.heap.size ∧ g8 < w31.heap.size ∧ g10 < w31.heap.size ∧ g12 < w31.heap.size ∧ w13.heap.size < w31.heap.size ∧ w15.heap.size < w31.heap.size ∧ g18 < w31.heap.size ∧ gs21 < w31.heap.size ∧ w.heap.size ≤ w31.heap.size) := Lib.hid ⟨blk_lt BA.out, blk_lt BB.out, blk_lt JA.out, blk_lt JB.out, blk_lt P.out, blk_lt Q0.out, blk_lt CQ.out, blk_lt N.out, blk_lt S.out, NN.out.size⟩
        replace NN := Lib.hid (Bgo NN.out HB.out)
        replace BA := Lib.hid (blk_next HB.out BA.out)
        replace BB := Lib.hid (blk_next HB.out BB.out)
        replace JA := Lib.hid (blk_next HB.out JA.out)
        replace JB := Lib.hid (blk_next HB.out JB.out)
        replace P := Lib.hid (blk_next HB.out P.out)
        replace Q0 := Lib.hid (blk_next HB.out Q0.out)
        replace CQ := Lib.hid (blk_next HB.out CQ.out)
        replace N := Lib.hid (blk_next HB.out N.out)
        replace S := Lib.hid (blk_next HB.out S.out)
        clear HB
        have c_P_0 := blk_cell P.out 0 _ rfl
        have f_P_0 := blk_frozen P.out 0
        have c_P_1 := blk_cell P.out 1 _ rfl
        have f_P_1 := blk_frozen P.out 1
        have c_P_2 := blk_cell P.out 2 _ rfl
        have f_P_2 := blk_frozen P.out 2
        have l_P := blk_lt P.out
        go_wp2_with fail
        clear c_P_0 f_P_0 c_P_1 f_P_1 c_P_2 f_P_2 l_P
        generalize w31.alloc (.cells #[.int .i64 mx, .int .i64 my] 41) = W32 at *
        generalize w31.heap.size = g32 at *
        refine (L1.out _).mono ?_
        rintro e w33 ⟨rfl, hb⟩
        replace NN := Lib.hid (Bgo NN.out hb)
        replace BA := Lib.hid (blk_next hb BA.out)
        replace BB := Lib.hid (blk_next hb BB.out)
        replace JA := Lib.hid (blk_next hb JA.out)
        replace JB := Lib.hid (blk_next hb JB.out)
        replace P := Lib.hid (blk_next hb P.out)
        replace Q0 := Lib.hid (blk_next hb Q0.out)
        replace CQ := Lib.hid (blk_next hb CQ.out)
        replace N := Lib.hid (blk_next hb N.out)
        replace S := Lib.hid (blk_next hb S.out)
        replace M := Lib.hid (blk_next hb M.out)
        clear hb
        have HB : Hid (Below w33.heap.size w33 (w33.alloc (.cells #[.int .i64 0, .int .i64 0] 41))) := Lib.hid (Bal (Below.refl _ _) _)
        have Q := Lib.hid (blk_new w33 (.cells #[.int .i64 0, .int .i64 0] 41))
        have LT_Q : Hid (w.heap.size < w33.heap.size ∧ w.heap.size + 1 < w33.heap.size ∧ g8 < w33.heap.size ∧ g10 < w33.heap.size ∧ g12 < w33.heap.size ∧ w13.heap.size < w33.heap.size ∧ w15.heap.size < w33.heap.size ∧ g18 < w33.heap.size ∧ gs21 < w33.heap.size ∧ g32 < w33.heap.size ∧ w.heap.size ≤ w33.heap.size) := Lib.hid ⟨blk_lt BA.out, blk_lt BB.out, blk_lt JA.out, blk_lt JB.out, blk_lt P.out, blk_lt Q0.out, blk_lt CQ.out, blk_lt N.out, blk_lt S.out, blk_lt M.out, NN.out.size⟩
        replace NN := Lib.hid (Bgo NN.out HB.out)
        replace BA := Lib.hid (blk_next HB.out BA.out)
        replace BB := Lib.hid (blk_next HB.out BB.out)
        replace JA := Lib.hid (blk_next HB.out JA.out)
        replace JB := Lib.hid (blk_next HB.out JB.out)
        replace P := Lib.hid (blk_next HB.out P.out)
        replace Q0 := Lib.hid (blk_next HB.out Q0.out)
        replace CQ := Lib.hid (blk_next HB.out CQ.out)
        replace N := Lib.hid (blk_next HB.out N.out)
        replace S := Lib.hid (blk_next HB.out S.out)
        replace M := Lib.hid (blk_next HB.out M.out)
        clear HB
        go_wp2_with fail
        go_ret
        exact ⟨rfl, NN.out⟩
      have L1 := Lib.hid (fun W => norm_calls hl W)
      have EQ := Lib.hid (NP.out _ _ _ _ _ _ _ _ _ hp HN.out hm hl)
      clear hl hm NB
      have c_BB_0 := blk_cell BB.out 0 _ rfl
      have c_BB_1 := blk_cell BB.out 1 _ rfl
      have c_BB_2 := blk_cell BB.out 2 _ rfl
      have l_BB := blk_lt BB.out
      go_wp2_with fail
      clear c_BB_0 c_BB_1 c_BB_2 l_BB
      refine (M1.out _).mono ?_
      rintro e w35 ⟨rfl, hb⟩
      replace NN := Lib.hid (Bgo NN.out hb)
      replace BA := Lib.hid (blk_next hb BA.out)
      replace BB := Lib.hid (blk_next hb BB.out)
      replace JA := Lib.hid (blk_next hb JA.out)
      replace JB := Lib.hid (blk_next hb JB.out)
      replace P := Lib.hid (blk_next hb P.out)
      replace Q0 := Lib.hid (blk_next hb Q0.out)
      replace CQ := Lib.hid (blk_next hb CQ.out)
      replace N := Lib.hid (blk_next hb N.out)
      replace S := Lib.hid (blk_next hb S.out)
      clear hb
      have HB : Hid (Below w35.heap.size w35 (w35.alloc (.cells #[.int .i64 mx, .int .i64 my] 41))) := Lib.hid (Bal (Below.refl _ _) _)
      have M := Lib.hid (blk_new w35 (.cells #[.int .i64 mx, .int .i64 my] 41))
      have LT_M : Hid (w.heap.size < w35.heap.size ∧ w.heap.size + 1 < w35.heap.size ∧ g8 < w35.heap.size ∧ g10 < w35.heap.size ∧ g12 < w35.heap.size ∧ w13.heap.size < w35.heap.size ∧ w15.heap.size < w35.heap.size ∧ g18 < w35.heap.size ∧ gs21 < w35.heap.size ∧ w.heap.size ≤ w35.heap.size) := Lib.hid ⟨blk_lt BA.out, blk_lt BB.out, blk_lt JA.out, blk_lt JB.out, blk_lt P.out, blk_lt Q0.out, blk_lt CQ.out, blk_lt N.out, blk_lt S.out, NN.out.size⟩
      replace NN := Lib.hid (Bgo NN.out HB.out)
      replace BA := Lib.hid (blk_next HB.out BA.out)
      replace BB := Lib.hid (blk_next HB.out BB.out)
      replace JA := Lib.hid (blk_next HB.out JA.out)
      replace JB := Lib.hid (blk_next HB.out JB.out)
      replace P := Lib.hid (blk_next HB.out P.out)
      replace Q0 := Lib.hid (blk_next HB.out Q0.out)
      replace CQ := Lib.hid (blk_next HB.out CQ.out)
      replace N := Lib.hid (blk_next HB.out N.out)
      replace S := Lib.hid (blk_next HB.out S.out)
      clear HB
      have c_P_0 := blk_cell P.out 0 _ rfl
      have f_P_0 := blk_frozen P.out 0
      have c_P_1 := blk_cell P.out 1 _ rfl
      have f_P_1 := blk_frozen P.out 1
      have c_P_2 := blk_cell P.out 2 _ rfl
      have f_P_2 := blk_frozen P.out 2
      have l_P := blk_lt P.out
      go_wp2_with fail
      clear c_P_0 f_P_0 c_P_1 f_P_1 c_P_2 f_P_2 l_P
      generalize w35.alloc (.cells #[.int .i64 mx, .int .i64 my] 41) = W36 at *
      generalize w35.heap.size = g36 at *
      refine (L1.out _).mono ?_
      rintro e w37 ⟨rfl, hb⟩
      replace NN := Lib.hid (Bgo NN.out hb)
      replace BA := Lib.hid (blk_next hb BA.out)
      replace BB := Lib.hid (blk_next hb BB.out)
      replace JA := Lib.hid (blk_next hb JA.out)
      replace JB := Lib.hid (blk_next hb JB.out)
      replace P := Lib.hid (blk_next hb P.out)
      replace Q0 := Lib.hid (blk_next hb Q0.out)
      replace CQ := Lib.hid (blk_next hb CQ.out)
      replace N := Lib.hid (blk_next hb N.out)
      replace S := Lib.hid (blk_next hb S.out)
      replace M := Lib.hid (blk_next hb M.out)
      clear hb
      have HB : Hid (Below w37.heap.size w37 (w37.alloc (.cells #[.int .i64 lx, .int .i64 ly] 41))) := Lib.hid (Bal (Below.refl _ _) _)
      have Q := Lib.hid (blk_new w37 (.cells #[.int .i64 lx, .int .i64 ly] 41))
      have LT_Q : Hid (w.heap.size < w37.heap.size ∧ w.heap.size + 1 < w37.heap.size ∧ g8 < w37.heap.size ∧ g10 < w37.heap.size ∧ g12 < w37.heap.size ∧ w13.heap.size < w37.heap.size ∧ w15.heap.size < w37.heap.size ∧ g18 < w37.heap.size ∧ gs21 < w37.heap.size ∧ g36 < w37.heap.size ∧ w.heap.size ≤ w37.heap.size) := Lib.hid ⟨blk_lt BA.out, blk_lt BB.out, blk_lt JA.out, blk_lt JB.out, blk_lt P.out, blk_lt Q0.out, blk_lt CQ.out, blk_lt N.out, blk_lt S.out, blk_lt M.out, NN.out.size⟩
      replace NN := Lib.hid (Bgo NN.out HB.out)
      replace BA := Lib.hid (blk_next HB.out BA.out)
      replace BB := Lib.hid (blk_next HB.out BB.out)
      replace JA := Lib.hid (blk_next HB.out JA.out)
      replace JB := Lib.hid (blk_next HB.out JB.out)
      replace P := Lib.hid (blk_next HB.out P.out)
      replace Q0 := Lib.hid (blk_next HB.out Q0.out)
      replace CQ := Lib.hid (blk_next HB.out CQ.out)
      replace N := Lib.hid (blk_next HB.out N.out)
      replace S := Lib.hid (blk_next HB.out S.out)
      replace M := Lib.hid (blk_next HB.out M.out)
      clear HB
      obtain ⟨nb1, nb2, nb3, nb4⟩ := nb
      obtain ⟨mb1, mb2, mb3, mb4⟩ := mb
      obtain ⟨lb1, lb2, lb3, lb4⟩ := lb
      have c_N_0 := blk_cell N.out 0 _ rfl
      have c_N_1 := blk_cell N.out 1 _ rfl
      have l_N := blk_lt N.out
      have c_M_0 := blk_cell M.out 0 _ rfl
      have c_M_1 := blk_cell M.out 1 _ rfl
      have l_M := blk_lt M.out
      have c_Q_0 := blk_cell Q.out 0 _ rfl
      have c_Q_1 := blk_cell Q.out 1 _ rfl
      have l_Q := blk_lt Q.out
      have MX := fun W => run_max6 (P := Tryd.prog) W #[2, 2, 2, 2, 2, 2] 2 sx sz mx my lx ly
      obtain ⟨M, hM⟩ : ∃ M, mxT (mxT (mxT (mxT (mxT sx sz) mx) my) lx) ly = M := ⟨_, rfl⟩
      have ML : M ≤ 1000000 ↔ (((((sx ≤ 1000000 ∧ sz ≤ 1000000) ∧ mx ≤ 1000000) ∧ my ≤ 1000000) ∧ lx ≤ 1000000) ∧ ly ≤ 1000000) := by rw [← hM]; simp only [mxT_le]
      rw [hM] at MX
      clear hM
      by_cases big : M ≤ 1000000
      rotate_left
      · have bg : decide ((1000000 : Int) < M) = true := decide_eq_true (by omega)
        clear ML
        go_wp2_with fail
        go_ret
        exact ⟨rfl, NN.out⟩
      have bg : decide ((1000000 : Int) < M) = false := decide_eq_false (by omega)
      obtain ⟨⟨⟨⟨⟨u1, u2⟩, u3⟩, u4⟩, u5⟩, u6⟩ := ML.1 big
      obtain ⟨v1, v2, v3, v4⟩ := mul3 nb1 u1 mb1 u3 (show 0 ≤ ly by omega) u6
      obtain ⟨v5, v6, v7, v8⟩ := mul3 (show 0 ≤ sz by omega) u2 (show 0 ≤ my by omega) u4 lb1 u5
      have e1 : IntKind.i64.wrap (sx * mx) = sx * mx := IntWalk.i64_in _ (by omega)
      have e2 : IntKind.i64.wrap (sx * mx * ly) = sx * mx * ly := IntWalk.i64_in _ (by omega)
      have e3 : IntKind.i64.wrap (sz * my) = sz * my := IntWalk.i64_in _ (by omega)
      have e4 : IntKind.i64.wrap (sz * my * lx) = sz * my * lx := IntWalk.i64_in _ (by omega)
      have EB : (sx * mx * ly == sz * my * lx) = true := by rw [beq_iff_eq]; exact EQ.out
      clear ML big
      go_wp2_with fail
      go_ret
      exact ⟨rfl, NN.out⟩
    · have S1 := Lib.hid (fun W => mul_calls _ _ _ _ _ _ _ _ _ _ hs W)
      clear hs NM SC
      rcases NA.out with ⟨nx, ny, hn, nb⟩ | hn
      · have N1 := Lib.hid (fun W => norm_calls hn W)
        have HN := Lib.hid hn
        clear hn NA
        have c_BA_0 := blk_cell BA.out 0 _ rfl
        have c_BA_1 := blk_cell BA.out 1 _ rfl
        have c_BA_2 := blk_cell BA.out 2 _ rfl
        have l_BA := blk_lt BA.out
        have c_CQ_0 := blk_cell CQ.out 0 _ rfl
        have c_CQ_1 := blk_cell CQ.out 1 _ rfl
        have c_CQ_2 := blk_cell CQ.out 2 _ rfl
        have l_CQ := blk_lt CQ.out
        have c_Q0_0 := blk_cell Q0.out 0 _ rfl
        have c_Q0_1 := blk_cell Q0.out 1 _ rfl
        have c_Q0_2 := blk_cell Q0.out 2 _ rfl
        have l_Q0 := blk_lt Q0.out
        go_wp2_with fail
        clear c_BA_0 c_BA_1 c_BA_2 l_BA c_CQ_0 c_CQ_1 c_CQ_2 l_CQ c_Q0_0 c_Q0_1 c_Q0_2 l_Q0
        refine (N1.out _).mono ?_
        rintro e w39 ⟨rfl, hb⟩
        replace NN := Lib.hid (Bgo NN.out hb)
        replace BA := Lib.hid (blk_next hb BA.out)
        replace BB := Lib.hid (blk_next hb BB.out)
        replace JA := Lib.hid (blk_next hb JA.out)
        replace JB := Lib.hid (blk_next hb JB.out)
        replace P := Lib.hid (blk_next hb P.out)
        replace Q0 := Lib.hid (blk_next hb Q0.out)
        replace CQ := Lib.hid (blk_next hb CQ.out)
        clear hb
        have HB : Hid (Below w39.heap.size w39 (w39.alloc (.cells #[.int .i64 nx, .int .i64 ny] 41))) := Lib.hid (Bal (Below.refl _ _) _)
        have N := Lib.hid (blk_new w39 (.cells #[.int .i64 nx, .int .i64 ny] 41))
        have LT_N : Hid (w.heap.size < w39.heap.size ∧ w.heap.size + 1 < w39.heap.size ∧ g8 < w39.heap.size ∧ g10 < w39.heap.size ∧ g12 < w39.heap.size ∧ w13.heap.size < w39.heap.size ∧ w15.heap.size < w39.heap.size ∧ w.heap.size ≤ w39.heap.size) := Lib.hid ⟨blk_lt BA.out, blk_lt BB.out, blk_lt JA.out, blk_lt JB.out, blk_lt P.out, blk_lt Q0.out, blk_lt CQ.out, NN.out.size⟩
        replace NN := Lib.hid (Bgo NN.out HB.out)
        replace BA := Lib.hid (blk_next HB.out BA.out)
        replace BB := Lib.hid (blk_next HB.out BB.out)
        replace JA := Lib.hid (blk_next HB.out JA.out)
        replace JB := Lib.hid (blk_next HB.out JB.out)
        replace P := Lib.hid (blk_next HB.out P.out)
        replace Q0 := Lib.hid (blk_next HB.out Q0.out)
        replace CQ := Lib.hid (blk_next HB.out CQ.out)
        clear HB
        have c_BA_0 := blk_cell BA.out 0 _ rfl
        have f_BA_0 := blk_frozen BA.out 0
        have c_BA_1 := blk_cell BA.out 1 _ rfl
        have f_BA_1 := blk_frozen BA.out 1
        have c_BA_2 := blk_cell BA.out 2 _ rfl
        have f_BA_2 := blk_frozen BA.out 2
        have l_BA := blk_lt BA.out
        have c_JA_0 := blk_cell JA.out 0 _ rfl
        have f_JA_0 := blk_frozen JA.out 0
        have c_JA_1 := blk_cell JA.out 1 _ rfl
        have f_JA_1 := blk_frozen JA.out 1
        have c_JA_2 := blk_cell JA.out 2 _ rfl
        have f_JA_2 := blk_frozen JA.out 2
        have l_JA := blk_lt JA.out
        go_wp2_with fail
        clear c_BA_0 f_BA_0 c_BA_1 f_BA_1 c_BA_2 f_BA_2 l_BA c_JA_0 f_JA_0 c_JA_1 f_JA_1 c_JA_2 f_JA_2 l_JA
        generalize w39.alloc (.cells #[.int .i64 nx, .int .i64 ny] 41) = W40 at *
        generalize w39.heap.size = g40 at *
        refine (S1.out _).mono ?_
        rintro e w41 ⟨rfl, hb⟩
        replace NN := Lib.hid (Bgo NN.out hb)
        replace BA := Lib.hid (blk_next hb BA.out)
        replace BB := Lib.hid (blk_next hb BB.out)
        replace JA := Lib.hid (blk_next hb JA.out)
        replace JB := Lib.hid (blk_next hb JB.out)
        replace P := Lib.hid (blk_next hb P.out)
        replace Q0 := Lib.hid (blk_next hb Q0.out)
        replace CQ := Lib.hid (blk_next hb CQ.out)
        replace N := Lib.hid (blk_next hb N.out)
        clear hb
        have HB : Hid (Below w41.heap.size w41 (w41.alloc (.cells #[.int .i64 0, .int .i64 0, .int .i64 0] 23))) := Lib.hid (Bal (Below.refl _ _) _)
        have S := Lib.hid (blk_new w41 (.cells #[.int .i64 0, .int .i64 0, .int .i64 0] 23))
        have LT_S : Hid (w.heap.size < w41.heap.size ∧ w.heap.size + 1 < w41.heap.size ∧ g8 < w41.heap.size ∧ g10 < w41.heap.size ∧ g12 < w41.heap.size ∧ w13.heap.size < w41.heap.size ∧ w15.heap.size < w41.heap.size ∧ g40 < w41.heap.size ∧ w.heap.size ≤ w41.heap.size) := Lib.hid ⟨blk_lt BA.out, blk_lt BB.out, blk_lt JA.out, blk_lt JB.out, blk_lt P.out, blk_lt Q0.out, blk_lt CQ.out, blk_lt N.out, NN.out.size⟩
        replace NN := Lib.hid (Bgo NN.out HB.out)
        replace BA := Lib.hid (blk_next HB.out BA.out)
        replace BB := Lib.hid (blk_next HB.out BB.out)
        replace JA := Lib.hid (blk_next HB.out JA.out)
        replace JB := Lib.hid (blk_next HB.out JB.out)
        replace P := Lib.hid (blk_next HB.out P.out)
        replace Q0 := Lib.hid (blk_next HB.out Q0.out)
        replace CQ := Lib.hid (blk_next HB.out CQ.out)
        replace N := Lib.hid (blk_next HB.out N.out)
        clear HB
        go_wp2_with fail
        generalize w41.alloc (.cells #[.int .i64 0, .int .i64 0, .int .i64 0] 23) = WS43 at *
        generalize w41.heap.size = gs43 at *
        refine region_I (S := SK [(6, gs43, .cells #[.int .i64 0, .int .i64 0, .int .i64 0] 23), (8, g40, .cells #[.int .i64 nx, .int .i64 ny] 41), (10, g40, .cells #[.int .i64 nx, .int .i64 ny] 41)]) (by kernel_rfl) ?_
        have HAL := Lib.hid (fun (k : Nat) => (show SK [(6, gs43, .cells #[.int .i64 0, .int .i64 0, .int .i64 0] 23), (8, g40, .cells #[.int .i64 nx, .int .i64 ny] 41), (10, g40, .cells #[.int .i64 nx, .int .i64 ny] 41)] k WS43.drew from fun p hp e => by
          simp only [List.mem_cons, List.not_mem_nil, or_false] at hp
          rcases hp with rfl | rfl | rfl
          · exact S.out
          · exact N.out
          · exact N.out))
        have HD := Lib.hid (Below.drew (Below.refl WS43.heap.size WS43))
        replace NN := Lib.hid (Bgo NN.out HD.out)
        replace BA := Lib.hid (blk_next HD.out BA.out)
        replace BB := Lib.hid (blk_next HD.out BB.out)
        replace JA := Lib.hid (blk_next HD.out JA.out)
        replace JB := Lib.hid (blk_next HD.out JB.out)
        replace P := Lib.hid (blk_next HD.out P.out)
        replace Q0 := Lib.hid (blk_next HD.out Q0.out)
        replace CQ := Lib.hid (blk_next HD.out CQ.out)
        replace N := Lib.hid (blk_next HD.out N.out)
        replace S := Lib.hid (blk_next HD.out S.out)
        clear HD
        refine only_I 0 (by kernel_rfl) rfl (fun K' hK' => ?_)
        go_simp
        refine hK'.out _ _ (fun k _ h => h) ?_
        clear hK' K'
        try simp only [Act.put, List.setIfInBounds_toArray, List.set_cons_zero, List.set_cons_succ]
        refine only_I 1 (by kernel_rfl) rfl (fun K' hK' => ?_)
        go_simp
        refine hK'.out _ _ (fun k _ h => h) ?_
        clear hK' K'
        try simp only [Act.put, List.setIfInBounds_toArray, List.set_cons_zero, List.set_cons_succ]
        refine only_I 2 (by kernel_rfl) rfl (fun K' hK' => ?_)
        go_simp
        refine hK'.out _ _ (fun k _ h => h) ?_
        clear hK' K'
        try simp only [Act.put, List.setIfInBounds_toArray, List.set_cons_zero, List.set_cons_succ]
        refine take_I 3 undef (some 95) rfl (by kernel_rfl) (by kernel_rfl) (by kernel_rfl) rfl (fun _ _ _ h => h) (Or.inr ⟨by rfl, rfl⟩) (HAL.out 3) ?_
        try simp only [Act.put, List.setIfInBounds_toArray, List.set_cons_zero, List.set_cons_succ]
        refine take_I 4 undef (some 96) rfl (by kernel_rfl) (by kernel_rfl) (by kernel_rfl) rfl (fun _ _ _ h => h) (Or.inr ⟨by rfl, rfl⟩) (HAL.out 4) ?_
        try simp only [Act.put, List.setIfInBounds_toArray, List.set_cons_zero, List.set_cons_succ]
        refine take_I 5 undef (some 97) rfl (by kernel_rfl) (by kernel_rfl) (by kernel_rfl) rfl (fun _ _ _ h => h) (Or.inr ⟨by rfl, rfl⟩) (HAL.out 5) ?_
        try simp only [Act.put, List.setIfInBounds_toArray, List.set_cons_zero, List.set_cons_succ]
        refine take_I 6 undef (some 98) rfl (by kernel_rfl) (by kernel_rfl) (by kernel_rfl) rfl (fun _ _ _ h => h) (Or.inr ⟨by rfl, rfl⟩) (HAL.out 6) ?_
        try simp only [Act.put, List.setIfInBounds_toArray, List.set_cons_zero, List.set_cons_succ]
        refine take_I 7 undef (some 99) rfl (by kernel_rfl) (by kernel_rfl) (by kernel_rfl) rfl (fun _ _ _ h => h) (Or.inr ⟨by rfl, rfl⟩) (HAL.out 7) ?_
        try simp only [Act.put, List.setIfInBounds_toArray, List.set_cons_zero, List.set_cons_succ]
        refine take_I 8 undef (some 100) rfl (by kernel_rfl) (by kernel_rfl) (by kernel_rfl) rfl (fun _ _ _ h => h) (Or.inr ⟨by rfl, rfl⟩) (HAL.out 8) ?_
        try simp only [Act.put, List.setIfInBounds_toArray, List.set_cons_zero, List.set_cons_succ]
        refine take_I 9 undef (some 101) rfl (by kernel_rfl) (by kernel_rfl) (by kernel_rfl) rfl (fun _ _ _ h => h) (Or.inr ⟨by rfl, rfl⟩) (HAL.out 9) ?_
        try simp only [Act.put, List.setIfInBounds_toArray, List.set_cons_zero, List.set_cons_succ]
        refine take_I 10 undef (some 102) rfl (by kernel_rfl) (by kernel_rfl) (by kernel_rfl) rfl (fun _ _ _ h => h) (Or.inr ⟨by rfl, rfl⟩) (HAL.out 10) ?_
        try simp only [Act.put, List.setIfInBounds_toArray, List.set_cons_zero, List.set_cons_succ]
        refine take_I 11 undef (some 103) rfl (by kernel_rfl) (by kernel_rfl) (by kernel_rfl) rfl (fun _ _ _ h => h) (Or.inr ⟨by rfl, rfl⟩) (HAL.out 11) ?_
        try simp only [Act.put, List.setIfInBounds_toArray, List.set_cons_zero, List.set_cons_succ]
        refine take_I 12 undef (some 104) rfl (by kernel_rfl) (by kernel_rfl) (by kernel_rfl) rfl (fun _ _ _ h => h) (Or.inr ⟨by rfl, rfl⟩) (HAL.out 12) ?_
        try simp only [Act.put, List.setIfInBounds_toArray, List.set_cons_zero, List.set_cons_succ]
        refine take_I 13 undef (some 105) rfl (by kernel_rfl) (by kernel_rfl) (by kernel_rfl) rfl (fun _ _ _ h => h) (Or.inr ⟨by rfl, rfl⟩) (HAL.out 13) ?_
        try simp only [Act.put, List.setIfInBounds_toArray, List.set_cons_zero, List.set_cons_succ]
        refine only_I 14 (by kernel_rfl) rfl (fun K' hK' => ?_)
        go_simp
        refine hK'.out _ _ (fun k _ h => h) ?_
        clear hK' K'
        try simp only [Act.put, List.setIfInBounds_toArray, List.set_cons_zero, List.set_cons_succ]
        clear HAL
        refine done_I (by kernel_rfl) ?_ _
        rcases NB.out with ⟨mx, my, hm, mb⟩ | hm
        rotate_left
        · have M1 := Lib.hid (fun W => norm_calls hm W)
          clear hm NB
          rcases norm_cases vp with ⟨lx, ly, hl, lb⟩ | hl
          · have L1 := Lib.hid (fun W => norm_calls hl W)
            clear hl
            have c_BB_0 := blk_cell BB.out 0 _ rfl
            have c_BB_1 := blk_cell BB.out 1 _ rfl
            have c_BB_2 := blk_cell BB.out 2 _ rfl
            have l_BB := blk_lt BB.out
            go_wp2_with fail
            clear c_BB_0 c_BB_1 c_BB_2 l_BB
            refine (M1.out _).mono ?_
            rintro e w44 ⟨rfl, hb⟩
            replace NN := Lib.hid (Bgo NN.out hb)
            replace BA := Lib.hid (blk_next hb BA.out)
            replace BB := Lib.hid (blk_next hb BB.out)
            replace JA := Lib.hid (blk_next hb JA.out)
            replace JB := Lib.hid (blk_next hb JB.out)
            replace P := Lib.hid (blk_next hb P.out)
            replace Q0 := Lib.hid (blk_next hb Q0.out)
            replace CQ := Lib.hid (blk_next hb CQ.out)
            replace N := Lib.hid (blk_next hb N.out)
            replace S := Lib.hid (blk_next hb S.out)
            clear hb
            have HB : Hid (Below w44.heap.size w44 (w44.alloc (.cells #[.int .i64 0, .int .i64 0] 41))) := Lib.hid (Bal (Below.refl _ _) _)
            have M := Lib.hid (blk_new w44 (.cells #[.int .i64 0, .int .i64 0] 41))
            have LT_M : Hid (w.heap.size < w44.heap.size ∧ w.heap.size + 1 < w44.heap.size ∧ g8 < w44.heap.size ∧ g10 < w44.heap.size ∧ g12 < w44.heap.size ∧ w13.heap.size < w44.heap.size ∧ w15.heap.size < w44.heap.size ∧ g40 < w44.heap.size ∧ gs43 < w44.heap.size ∧ w.heap.size ≤ w44.heap.size) := Lib.hid ⟨blk_lt BA.out, blk_lt BB.out, blk_lt JA.out, blk_lt JB.out, blk_lt P.out, blk_lt Q0.out, blk_lt CQ.out, blk_lt N.out, blk_lt S.out, NN.out.size⟩
            replace NN := Lib.hid (Bgo NN.out HB.out)
            replace BA := Lib.hid (blk_next HB.out BA.out)
            replace BB := Lib.hid (blk_next HB.out BB.out)
            replace JA := Lib.hid (blk_next HB.out JA.out)
            replace JB := Lib.hid (blk_next HB.out JB.out)
            replace P := Lib.hid (blk_next HB.out P.out)
            replace Q0 := Lib.hid (blk_next HB.out Q0.out)
            replace CQ := Lib.hid (blk_next HB.out CQ.out)
            replace N := Lib.hid (blk_next HB.out N.out)
            replace S := Lib.hid (blk_next HB.out S.out)
            clear HB
            have c_P_0 := blk_cell P.out 0 _ rfl
            have f_P_0 := blk_frozen P.out 0
            have c_P_1 := blk_cell P.out 1 _ rfl
            have f_P_1 := blk_frozen P.out 1
            have c_P_2 := blk_cell P.out 2 _ rfl
            have f_P_2 := blk_frozen P.out 2
            have l_P := blk_lt P.out
            go_wp2_with fail
            clear c_P_0 f_P_0 c_P_1 f_P_1 c_P_2 f_P_2 l_P
            generalize w44.alloc (.cells #[.int .i64 0, .int .i64 0] 41) = W45 at *
            generalize w44.heap.size = g45 at *
            refine (L1.out _).mono ?_
            rintro e w46 ⟨rfl, hb⟩
            replace NN := Lib.hid (Bgo NN.out hb)
            replace BA := Lib.hid (blk_next hb BA.out)
            replace BB := Lib.hid (blk_next hb BB.out)
            replace JA := Lib.hid (blk_next hb JA.out)
            replace JB := Lib.hid (blk_next hb JB.out)
            replace P := Lib.hid (blk_next hb P.out)
            replace Q0 := Lib.hid (blk_next hb Q0.out)
            replace CQ := Lib.hid (blk_next hb CQ.out)
            replace N := Lib.hid (blk_next hb N.out)
            replace S := Lib.hid (blk_next hb S.out)
            replace M := Lib.hid (blk_next hb M.out)
            clear hb
            have HB : Hid (Below w46.heap.size w46 (w46.alloc (.cells #[.int .i64 lx, .int .i64 ly] 41))) := Lib.hid (Bal (Below.refl _ _) _)
            have Q := Lib.hid (blk_new w46 (.cells #[.int .i64 lx, .int .i64 ly] 41))
            have LT_Q : Hid (w.heap.size < w46.heap.size ∧ w.heap.size + 1 < w46.heap.size ∧ g8 < w46.heap.size ∧ g10 < w46.heap.size ∧ g12 < w46.heap.size ∧ w13.heap.size < w46.heap.size ∧ w15.heap.size < w46.heap.size ∧ g40 < w46.heap.size ∧ gs43 < w46.heap.size ∧ g45 < w46.heap.size ∧ w.heap.size ≤ w46.heap.size) := Lib.hid ⟨blk_lt BA.out, blk_lt BB.out, blk_lt JA.out, blk_lt JB.out, blk_lt P.out, blk_lt Q0.out, blk_lt CQ.out, blk_lt N.out, blk_lt S.out, blk_lt M.out, NN.out.size⟩
            replace NN := Lib.hid (Bgo NN.out HB.out)
            replace BA := Lib.hid (blk_next HB.out BA.out)
            replace BB := Lib.hid (blk_next HB.out BB.out)
            replace JA := Lib.hid (blk_next HB.out JA.out)
            replace JB := Lib.hid (blk_next HB.out JB.out)
            replace P := Lib.hid (blk_next HB.out P.out)
            replace Q0 := Lib.hid (blk_next HB.out Q0.out)
            replace CQ := Lib.hid (blk_next HB.out CQ.out)
            replace N := Lib.hid (blk_next HB.out N.out)
            replace S := Lib.hid (blk_next HB.out S.out)
            replace M := Lib.hid (blk_next HB.out M.out)
            clear HB
            go_wp2_with fail
            go_ret
            exact ⟨rfl, NN.out⟩
          · have L1 := Lib.hid (fun W => norm_calls hl W)
            clear hl
            have c_BB_0 := blk_cell BB.out 0 _ rfl
            have c_BB_1 := blk_cell BB.out 1 _ rfl
            have c_BB_2 := blk_cell BB.out 2 _ rfl
            have l_BB := blk_lt BB.out
            go_wp2_with fail
            clear c_BB_0 c_BB_1 c_BB_2 l_BB
            refine (M1.out _).mono ?_
            rintro e w48 ⟨rfl, hb⟩
            replace NN := Lib.hid (Bgo NN.out hb)
            replace BA := Lib.hid (blk_next hb BA.out)
            replace BB := Lib.hid (blk_next hb BB.out)
            replace JA := Lib.hid (blk_next hb JA.out)
            replace JB := Lib.hid (blk_next hb JB.out)
            replace P := Lib.hid (blk_next hb P.out)
            replace Q0 := Lib.hid (blk_next hb Q0.out)
            replace CQ := Lib.hid (blk_next hb CQ.out)
            replace N := Lib.hid (blk_next hb N.out)
            replace S := Lib.hid (blk_next hb S.out)
            clear hb
            have HB : Hid (Below w48.heap.size w48 (w48.alloc (.cells #[.int .i64 0, .int .i64 0] 41))) := Lib.hid (Bal (Below.refl _ _) _)
            have M := Lib.hid (blk_new w48 (.cells #[.int .i64 0, .int .i64 0] 41))
            have LT_M : Hid (w.heap.size < w48.heap.size ∧ w.heap.size + 1 < w48.heap.size ∧ g8 < w48.heap.size ∧ g10 < w48.heap.size ∧ g12 < w48.heap.size ∧ w13.heap.size < w48.heap.size ∧ w15.heap.size < w48.heap.size ∧ g40 < w48.heap.size ∧ gs43 < w48.heap.size ∧ w.heap.size ≤ w48.heap.size) := Lib.hid ⟨blk_lt BA.out, blk_lt BB.out, blk_lt JA.out, blk_lt JB.out, blk_lt P.out, blk_lt Q0.out, blk_lt CQ.out, blk_lt N.out, blk_lt S.out, NN.out.size⟩
            replace NN := Lib.hid (Bgo NN.out HB.out)
            replace BA := Lib.hid (blk_next HB.out BA.out)
            replace BB := Lib.hid (blk_next HB.out BB.out)
            replace JA := Lib.hid (blk_next HB.out JA.out)
            replace JB := Lib.hid (blk_next HB.out JB.out)
            replace P := Lib.hid (blk_next HB.out P.out)
            replace Q0 := Lib.hid (blk_next HB.out Q0.out)
            replace CQ := Lib.hid (blk_next HB.out CQ.out)
            replace N := Lib.hid (blk_next HB.out N.out)
            replace S := Lib.hid (blk_next HB.out S.out)
            clear HB
            have c_P_0 := blk_cell P.out 0 _ rfl
            have f_P_0 := blk_frozen P.out 0
            have c_P_1 := blk_cell P.out 1 _ rfl
            have f_P_1 := blk_frozen P.out 1
            have c_P_2 := blk_cell P.out 2 _ rfl
            have f_P_2 := blk_frozen P.out 2
            have l_P := blk_lt P.out
            go_wp2_with fail
            clear c_P_0 f_P_0 c_P_1 f_P_1 c_P_2 f_P_2 l_P
            generalize w48.alloc (.cells #[.int .i64 0, .int .i64 0] 41) = W49 at *
            generalize w48.heap.size = g49 at *
            refine (L1.out _).mono ?_
            rintro e w50 ⟨rfl, hb⟩
            replace NN := Lib.hid (Bgo NN.out hb)
            replace BA := Lib.hid (blk_next hb BA.out)
            replace BB := Lib.hid (blk_next hb BB.out)
            replace JA := Lib.hid (blk_next hb JA.out)
            replace JB := Lib.hid (blk_next hb JB.out)
            replace P := Lib.hid (blk_next hb P.out)
            replace Q0 := Lib.hid (blk_next hb Q0.out)
            replace CQ := Lib.hid (blk_next hb CQ.out)
            replace N := Lib.hid (blk_next hb N.out)
            replace S := Lib.hid (blk_next hb S.out)
            replace M := Lib.hid (blk_next hb M.out)
            clear hb
            have HB : Hid (Below w50.heap.size w50 (w50.alloc (.cells #[.int .i64 0, .int .i64 0] 41))) := Lib.hid (Bal (Below.refl _ _) _)
            have Q := Lib.hid (blk_new w50 (.cells #[.int .i64 0, .int .i64 0] 41))
            have LT_Q : Hid (w.heap.size < w50.heap.size ∧ w.heap.size + 1 < w50.heap.size ∧ g8 < w50.heap.size ∧ g10 < w50.heap.size ∧ g12 < w50.heap.size ∧ w13.heap.size < w50.heap.size ∧ w15.heap.size < w50.heap.size ∧ g40 < w50.heap.size ∧ gs43 < w50.heap.size ∧ g49 < w50.heap.size ∧ w.heap.size ≤ w50.heap.size) := Lib.hid ⟨blk_lt BA.out, blk_lt BB.out, blk_lt JA.out, blk_lt JB.out, blk_lt P.out, blk_lt Q0.out, blk_lt CQ.out, blk_lt N.out, blk_lt S.out, blk_lt M.out, NN.out.size⟩
            replace NN := Lib.hid (Bgo NN.out HB.out)
            replace BA := Lib.hid (blk_next HB.out BA.out)
            replace BB := Lib.hid (blk_next HB.out BB.out)
            replace JA := Lib.hid (blk_next HB.out JA.out)
            replace JB := Lib.hid (blk_next HB.out JB.out)
            replace P := Lib.hid (blk_next HB.out P.out)
            replace Q0 := Lib.hid (blk_next HB.out Q0.out)
            replace CQ := Lib.hid (blk_next HB.out CQ.out)
            replace N := Lib.hid (blk_next HB.out N.out)
            replace S := Lib.hid (blk_next HB.out S.out)
            replace M := Lib.hid (blk_next HB.out M.out)
            clear HB
            go_wp2_with fail
            go_ret
            exact ⟨rfl, NN.out⟩
        have M1 := Lib.hid (fun W => norm_calls hm W)
        rcases norm_cases vp with ⟨lx, ly, hl, lb⟩ | hl
        rotate_left
        · have L1 := Lib.hid (fun W => norm_calls hl W)
          clear hl hm NB
          have c_BB_0 := blk_cell BB.out 0 _ rfl
          have c_BB_1 := blk_cell BB.out 1 _ rfl
          have c_BB_2 := blk_cell BB.out 2 _ rfl
          have l_BB := blk_lt BB.out
          go_wp2_with fail
          clear c_BB_0 c_BB_1 c_BB_2 l_BB
          refine (M1.out _).mono ?_
          rintro e w52 ⟨rfl, hb⟩
          replace NN := Lib.hid (Bgo NN.out hb)
          replace BA := Lib.hid (blk_next hb BA.out)
          replace BB := Lib.hid (blk_next hb BB.out)
          replace JA := Lib.hid (blk_next hb JA.out)
          replace JB := Lib.hid (blk_next hb JB.out)
          replace P := Lib.hid (blk_next hb P.out)
          replace Q0 := Lib.hid (blk_next hb Q0.out)
          replace CQ := Lib.hid (blk_next hb CQ.out)
          replace N := Lib.hid (blk_next hb N.out)
          replace S := Lib.hid (blk_next hb S.out)
          clear hb
          have HB : Hid (Below w52.heap.size w52 (w52.alloc (.cells #[.int .i64 mx, .int .i64 my] 41))) := Lib.hid (Bal (Below.refl _ _) _)
          have M := Lib.hid (blk_new w52 (.cells #[.int .i64 mx, .int .i64 my] 41))
          have LT_M : Hid (w.heap.size < w52.heap.size ∧ w.heap.size + 1 < w52.heap.size ∧ g8 < w52.heap.size ∧ g10 < w52.heap.size ∧ g12 < w52.heap.size ∧ w13.heap.size < w52.heap.size ∧ w15.heap.size < w52.heap.size ∧ g40 < w52.heap.size ∧ gs43 < w52.heap.size ∧ w.heap.size ≤ w52.heap.size) := Lib.hid ⟨blk_lt BA.out, blk_lt BB.out, blk_lt JA.out, blk_lt JB.out, blk_lt P.out, blk_lt Q0.out, blk_lt CQ.out, blk_lt N.out, blk_lt S.out, NN.out.size⟩
          replace NN := Lib.hid (Bgo NN.out HB.out)
          replace BA := Lib.hid (blk_next HB.out BA.out)
          replace BB := Lib.hid (blk_next HB.out BB.out)
          replace JA := Lib.hid (blk_next HB.out JA.out)
          replace JB := Lib.hid (blk_next HB.out JB.out)
          replace P := Lib.hid (blk_next HB.out P.out)
          replace Q0 := Lib.hid (blk_next HB.out Q0.out)
          replace CQ := Lib.hid (blk_next HB.out CQ.out)
          replace N := Lib.hid (blk_next HB.out N.out)
          replace S := Lib.hid (blk_next HB.out S.out)
          clear HB
          have c_P_0 := blk_cell P.out 0 _ rfl
          have f_P_0 := blk_frozen P.out 0
          have c_P_1 := blk_cell P.out 1 _ rfl
          have f_P_1 := blk_frozen P.out 1
          have c_P_2 := blk_cell P.out 2 _ rfl
          have f_P_2 := blk_frozen P.out 2
          have l_P := blk_lt P.out
          go_wp2_with fail
          clear c_P_0 f_P_0 c_P_1 f_P_1 c_P_2 f_P_2 l_P
          generalize w52.alloc (.cells #[.int .i64 mx, .int .i64 my] 41) = W53 at *
          generalize w52.heap.size = g53 at *
          refine (L1.out _).mono ?_
          rintro e w54 ⟨rfl, hb⟩
          replace NN := Lib.hid (Bgo NN.out hb)
          replace BA := Lib.hid (blk_next hb BA.out)
          replace BB := Lib.hid (blk_next hb BB.out)
          replace JA := Lib.hid (blk_next hb JA.out)
          replace JB := Lib.hid (blk_next hb JB.out)
          replace P := Lib.hid (blk_next hb P.out)
          replace Q0 := Lib.hid (blk_next hb Q0.out)
          replace CQ := Lib.hid (blk_next hb CQ.out)
          replace N := Lib.hid (blk_next hb N.out)
          replace S := Lib.hid (blk_next hb S.out)
          replace M := Lib.hid (blk_next hb M.out)
          clear hb
          have HB : Hid (Below w54.heap.size w54 (w54.alloc (.cells #[.int .i64 0, .int .i64 0] 41))) := Lib.hid (Bal (Below.refl _ _) _)
          have Q := Lib.hid (blk_new w54 (.cells #[.int .i64 0, .int .i64 0] 41))
          have LT_Q : Hid (w.heap.size < w54.heap.size ∧ w.heap.size + 1 < w54.heap.size ∧ g8 < w54.heap.size ∧ g10 < w54.heap.size ∧ g12 < w54.heap.size ∧ w13.heap.size < w54.heap.size ∧ w15.heap.size < w54.heap.size ∧ g40 < w54.heap.size ∧ gs43 < w54.heap.size ∧ g53 < w54.heap.size ∧ w.heap.size ≤ w54.heap.size) := Lib.hid ⟨blk_lt BA.out, blk_lt BB.out, blk_lt JA.out, blk_lt JB.out, blk_lt P.out, blk_lt Q0.out, blk_lt CQ.out, blk_lt N.out, blk_lt S.out, blk_lt M.out, NN.out.size⟩
          replace NN := Lib.hid (Bgo NN.out HB.out)
          replace BA := Lib.hid (blk_next HB.out BA.out)
          replace BB := Lib.hid (blk_next HB.out BB.out)
          replace JA := Lib.hid (blk_next HB.out JA.out)
          replace JB := Lib.hid (blk_next HB.out JB.out)
          replace P := Lib.hid (blk_next HB.out P.out)
          replace Q0 := Lib.hid (blk_next HB.out Q0.out)
          replace CQ := Lib.hid (blk_next HB.out CQ.out)
          replace N := Lib.hid (blk_next HB.out N.out)
          replace S := Lib.hid (blk_next HB.out S.out)
          replace M := Lib.hid (blk_next HB.out M.out)
          clear HB
          go_wp2_with fail
          go_ret
          exact ⟨rfl, NN.out⟩
        have L1 := Lib.hid (fun W => norm_calls hl W)
        have EQ := Lib.hid (NP.out _ _ _ _ _ _ _ _ _ hp HN.out hm hl)
        clear hl hm NB
        have c_BB_0 := blk_cell BB.out 0 _ rfl
        have c_BB_1 := blk_cell BB.out 1 _ rfl
        have c_BB_2 := blk_cell BB.out 2 _ rfl
        have l_BB := blk_lt BB.out
        go_wp2_with fail
        clear c_BB_0 c_BB_1 c_BB_2 l_BB
        refine (M1.out _).mono ?_
        rintro e w56 ⟨rfl, hb⟩
        replace NN := Lib.hid (Bgo NN.out hb)
        replace BA := Lib.hid (blk_next hb BA.out)
        replace BB := Lib.hid (blk_next hb BB.out)
        replace JA := Lib.hid (blk_next hb JA.out)
        replace JB := Lib.hid (blk_next hb JB.out)
        replace P := Lib.hid (blk_next hb P.out)
        replace Q0 := Lib.hid (blk_next hb Q0.out)
        replace CQ := Lib.hid (blk_next hb CQ.out)
        replace N := Lib.hid (blk_next hb N.out)
        replace S := Lib.hid (blk_next hb S.out)
        clear hb
        have HB : Hid (Below w56.heap.size w56 (w56.alloc (.cells #[.int .i64 mx, .int .i64 my] 41))) := Lib.hid (Bal (Below.refl _ _) _)
        have M := Lib.hid (blk_new w56 (.cells #[.int .i64 mx, .int .i64 my] 41))
        have LT_M : Hid (w.heap.size < w56.heap.size ∧ w.heap.size + 1 < w56.heap.size ∧ g8 < w56.heap.size ∧ g10 < w56.heap.size ∧ g12 < w56.heap.size ∧ w13.heap.size < w56.heap.size ∧ w15.heap.size < w56.heap.size ∧ g40 < w56.heap.size ∧ gs43 < w56.heap.size ∧ w.heap.size ≤ w56.heap.size) := Lib.hid ⟨blk_lt BA.out, blk_lt BB.out, blk_lt JA.out, blk_lt JB.out, blk_lt P.out, blk_lt Q0.out, blk_lt CQ.out, blk_lt N.out, blk_lt S.out, NN.out.size⟩
        replace NN := Lib.hid (Bgo NN.out HB.out)
        replace BA := Lib.hid (blk_next HB.out BA.out)
        replace BB := Lib.hid (blk_next HB.out BB.out)
        replace JA := Lib.hid (blk_next HB.out JA.out)
        replace JB := Lib.hid (blk_next HB.out JB.out)
        replace P := Lib.hid (blk_next HB.out P.out)
        replace Q0 := Lib.hid (blk_next HB.out Q0.out)
        replace CQ := Lib.hid (blk_next HB.out CQ.out)
        replace N := Lib.hid (blk_next HB.out N.out)
        replace S := Lib.hid (blk_next HB.out S.out)
        clear HB
        have c_P_0 := blk_cell P.out 0 _ rfl
        have f_P_0 := blk_frozen P.out 0
        have c_P_1 := blk_cell P.out 1 _ rfl
        have f_P_1 := blk_frozen P.out 1
        have c_P_2 := blk_cell P.out 2 _ rfl
        have f_P_2 := blk_frozen P.out 2
        have l_P := blk_lt P.out
        go_wp2_with fail
        clear c_P_0 f_P_0 c_P_1 f_P_1 c_P_2 f_P_2 l_P
        generalize w56.alloc (.cells #[.int .i64 mx, .int .i64 my] 41) = W57 at *
        generalize w56.heap.size = g57 at *
        refine (L1.out _).mono ?_
        rintro e w58 ⟨rfl, hb⟩
        replace NN := Lib.hid (Bgo NN.out hb)
        replace BA := Lib.hid (blk_next hb BA.out)
        replace BB := Lib.hid (blk_next hb BB.out)
        replace JA := Lib.hid (blk_next hb JA.out)
        replace JB := Lib.hid (blk_next hb JB.out)
        replace P := Lib.hid (blk_next hb P.out)
        replace Q0 := Lib.hid (blk_next hb Q0.out)
        replace CQ := Lib.hid (blk_next hb CQ.out)
        replace N := Lib.hid (blk_next hb N.out)
        replace S := Lib.hid (blk_next hb S.out)
        replace M := Lib.hid (blk_next hb M.out)
        clear hb
        have HB : Hid (Below w58.heap.size w58 (w58.alloc (.cells #[.int .i64 lx, .int .i64 ly] 41))) := Lib.hid (Bal (Below.refl _ _) _)
        have Q := Lib.hid (blk_new w58 (.cells #[.int .i64 lx, .int .i64 ly] 41))
        have LT_Q : Hid (w.heap.size < w58.heap.size ∧ w.heap.size + 1 < w58.heap.size ∧ g8 < w58.heap.size ∧ g10 < w58.heap.size ∧ g12 < w58.heap.size ∧ w13.heap.size < w58.heap.size ∧ w15.heap.size < w58.heap.size ∧ g40 < w58.heap.size ∧ gs43 < w58.heap.size ∧ g57 < w58.heap.size ∧ w.heap.size ≤ w58.heap.size) := Lib.hid ⟨blk_lt BA.out, blk_lt BB.out, blk_lt JA.out, blk_lt JB.out, blk_lt P.out, blk_lt Q0.out, blk_lt CQ.out, blk_lt N.out, blk_lt S.out, blk_lt M.out, NN.out.size⟩
        replace NN := Lib.hid (Bgo NN.out HB.out)
        replace BA := Lib.hid (blk_next HB.out BA.out)
        replace BB := Lib.hid (blk_next HB.out BB.out)
        replace JA := Lib.hid (blk_next HB.out JA.out)
        replace JB := Lib.hid (blk_next HB.out JB.out)
        replace P := Lib.hid (blk_next HB.out P.out)
        replace Q0 := Lib.hid (blk_next HB.out Q0.out)
        replace CQ := Lib.hid (blk_next HB.out CQ.out)
        replace N := Lib.hid (blk_next HB.out N.out)
        replace S := Lib.hid (blk_next HB.out S.out)
        replace M := Lib.hid (blk_next HB.out M.out)
        clear HB
        obtain ⟨nb1, nb2, nb3, nb4⟩ := nb
        obtain ⟨mb1, mb2, mb3, mb4⟩ := mb
        obtain ⟨lb1, lb2, lb3, lb4⟩ := lb
        have c_N_0 := blk_cell N.out 0 _ rfl
        have c_N_1 := blk_cell N.out 1 _ rfl
        have l_N := blk_lt N.out
        have c_M_0 := blk_cell M.out 0 _ rfl
        have c_M_1 := blk_cell M.out 1 _ rfl
        have l_M := blk_lt M.out
        have c_Q_0 := blk_cell Q.out 0 _ rfl
        have c_Q_1 := blk_cell Q.out 1 _ rfl
        have l_Q := blk_lt Q.out
        have MX := fun W => run_max6 (P := Tryd.prog) W #[2, 2, 2, 2, 2, 2] 2 nx ny mx my lx ly
        obtain ⟨M, hM⟩ : ∃ M, mxT (mxT (mxT (mxT (mxT nx ny) mx) my) lx) ly = M := ⟨_, rfl⟩
        have ML : M ≤ 1000000 ↔ (((((nx ≤ 1000000 ∧ ny ≤ 1000000) ∧ mx ≤ 1000000) ∧ my ≤ 1000000) ∧ lx ≤ 1000000) ∧ ly ≤ 1000000) := by rw [← hM]; simp only [mxT_le]
        rw [hM] at MX
        clear hM
        by_cases big : M ≤ 1000000
        rotate_left
        · have bg : decide ((1000000 : Int) < M) = true := decide_eq_true (by omega)
          clear ML
          go_wp2_with fail
          go_ret
          exact ⟨rfl, NN.out⟩
        have bg : decide ((1000000 : Int) < M) = false := decide_eq_false (by omega)
        obtain ⟨⟨⟨⟨⟨u1, u2⟩, u3⟩, u4⟩, u5⟩, u6⟩ := ML.1 big
        obtain ⟨v1, v2, v3, v4⟩ := mul3 nb1 u1 mb1 u3 (show 0 ≤ ly by omega) u6
        obtain ⟨v5, v6, v7, v8⟩ := mul3 (show 0 ≤ ny by omega) u2 (show 0 ≤ my by omega) u4 lb1 u5
        have e1 : IntKind.i64.wrap (nx * mx) = nx * mx := IntWalk.i64_in _ (by omega)
        have e2 : IntKind.i64.wrap (nx * mx * ly) = nx * mx * ly := IntWalk.i64_in _ (by omega)
        have e3 : IntKind.i64.wrap (ny * my) = ny * my := IntWalk.i64_in _ (by omega)
        have e4 : IntKind.i64.wrap (ny * my * lx) = ny * my * lx := IntWalk.i64_in _ (by omega)
        have EB : (nx * mx * ly == ny * my * lx) = true := by rw [beq_iff_eq]; exact EQ.out
        clear ML big
        go_wp2_with fail
        go_ret
        exact ⟨rfl, NN.out⟩
      · have N1 := Lib.hid (fun W => norm_calls hn W)
        clear hn NA
        have c_BA_0 := blk_cell BA.out 0 _ rfl
        have c_BA_1 := blk_cell BA.out 1 _ rfl
        have c_BA_2 := blk_cell BA.out 2 _ rfl
        have l_BA := blk_lt BA.out
        have c_CQ_0 := blk_cell CQ.out 0 _ rfl
        have c_CQ_1 := blk_cell CQ.out 1 _ rfl
        have c_CQ_2 := blk_cell CQ.out 2 _ rfl
        have l_CQ := blk_lt CQ.out
        have c_Q0_0 := blk_cell Q0.out 0 _ rfl
        have c_Q0_1 := blk_cell Q0.out 1 _ rfl
        have c_Q0_2 := blk_cell Q0.out 2 _ rfl
        have l_Q0 := blk_lt Q0.out
        go_wp2_with fail
        clear c_BA_0 c_BA_1 c_BA_2 l_BA c_CQ_0 c_CQ_1 c_CQ_2 l_CQ c_Q0_0 c_Q0_1 c_Q0_2 l_Q0
        refine (N1.out _).mono ?_
        rintro e w60 ⟨rfl, hb⟩
        replace NN := Lib.hid (Bgo NN.out hb)
        replace BA := Lib.hid (blk_next hb BA.out)
        replace BB := Lib.hid (blk_next hb BB.out)
        replace JA := Lib.hid (blk_next hb JA.out)
        replace JB := Lib.hid (blk_next hb JB.out)
        replace P := Lib.hid (blk_next hb P.out)
        replace Q0 := Lib.hid (blk_next hb Q0.out)
        replace CQ := Lib.hid (blk_next hb CQ.out)
        clear hb
        have HB : Hid (Below w60.heap.size w60 (w60.alloc (.cells #[.int .i64 0, .int .i64 0] 41))) := Lib.hid (Bal (Below.refl _ _) _)
        have N := Lib.hid (blk_new w60 (.cells #[.int .i64 0, .int .i64 0] 41))
        have LT_N : Hid (w.heap.size < w60.heap.size ∧ w.heap.size + 1 < w60.heap.size ∧ g8 < w60.heap.size ∧ g10 < w60.heap.size ∧ g12 < w60.heap.size ∧ w13.heap.size < w60.heap.size ∧ w15.heap.size < w60.heap.size ∧ w.heap.size ≤ w60.heap.size) := Lib.hid ⟨blk_lt BA.out, blk_lt BB.out, blk_lt JA.out, blk_lt JB.out, blk_lt P.out, blk_lt Q0.out, blk_lt CQ.out, NN.out.size⟩
        replace NN := Lib.hid (Bgo NN.out HB.out)
        replace BA := Lib.hid (blk_next HB.out BA.out)
        replace BB := Lib.hid (blk_next HB.out BB.out)
        replace JA := Lib.hid (blk_next HB.out JA.out)
        replace JB := Lib.hid (blk_next HB.out JB.out)
        replace P := Lib.hid (blk_next HB.out P.out)
        replace Q0 := Lib.hid (blk_next HB.out Q0.out)
        replace CQ := Lib.hid (blk_next HB.out CQ.out)
        clear HB
        have c_BA_0 := blk_cell BA.out 0 _ rfl
        have f_BA_0 := blk_frozen BA.out 0
        have c_BA_1 := blk_cell BA.out 1 _ rfl
        have f_BA_1 := blk_frozen BA.out 1
        have c_BA_2 := blk_cell BA.out 2 _ rfl
        have f_BA_2 := blk_frozen BA.out 2
        have l_BA := blk_lt BA.out
        have c_JA_0 := blk_cell JA.out 0 _ rfl
        have f_JA_0 := blk_frozen JA.out 0
        have c_JA_1 := blk_cell JA.out 1 _ rfl
        have f_JA_1 := blk_frozen JA.out 1
        have c_JA_2 := blk_cell JA.out 2 _ rfl
        have f_JA_2 := blk_frozen JA.out 2
        have l_JA := blk_lt JA.out
        go_wp2_with fail
        clear c_BA_0 f_BA_0 c_BA_1 f_BA_1 c_BA_2 f_BA_2 l_BA c_JA_0 f_JA_0 c_JA_1 f_JA_1 c_JA_2 f_JA_2 l_JA
        generalize w60.alloc (.cells #[.int .i64 0, .int .i64 0] 41) = W61 at *
        generalize w60.heap.size = g61 at *
        refine (S1.out _).mono ?_
        rintro e w62 ⟨rfl, hb⟩
        replace NN := Lib.hid (Bgo NN.out hb)
        replace BA := Lib.hid (blk_next hb BA.out)
        replace BB := Lib.hid (blk_next hb BB.out)
        replace JA := Lib.hid (blk_next hb JA.out)
        replace JB := Lib.hid (blk_next hb JB.out)
        replace P := Lib.hid (blk_next hb P.out)
        replace Q0 := Lib.hid (blk_next hb Q0.out)
        replace CQ := Lib.hid (blk_next hb CQ.out)
        replace N := Lib.hid (blk_next hb N.out)
        clear hb
        have HB : Hid (Below w62.heap.size w62 (w62.alloc (.cells #[.int .i64 0, .int .i64 0, .int .i64 0] 23))) := Lib.hid (Bal (Below.refl _ _) _)
        have S := Lib.hid (blk_new w62 (.cells #[.int .i64 0, .int .i64 0, .int .i64 0] 23))
        have LT_S : Hid (w.heap.size < w62.heap.size ∧ w.heap.size + 1 < w62.heap.size ∧ g8 < w62.heap.size ∧ g10 < w62.heap.size ∧ g12 < w62.heap.size ∧ w13.heap.size < w62.heap.size ∧ w15.heap.size < w62.heap.size ∧ g61 < w62.heap.size ∧ w.heap.size ≤ w62.heap.size) := Lib.hid ⟨blk_lt BA.out, blk_lt BB.out, blk_lt JA.out, blk_lt JB.out, blk_lt P.out, blk_lt Q0.out, blk_lt CQ.out, blk_lt N.out, NN.out.size⟩
        replace NN := Lib.hid (Bgo NN.out HB.out)
        replace BA := Lib.hid (blk_next HB.out BA.out)
        replace BB := Lib.hid (blk_next HB.out BB.out)
        replace JA := Lib.hid (blk_next HB.out JA.out)
        replace JB := Lib.hid (blk_next HB.out JB.out)
        replace P := Lib.hid (blk_next HB.out P.out)
        replace Q0 := Lib.hid (blk_next HB.out Q0.out)
        replace CQ := Lib.hid (blk_next HB.out CQ.out)
        replace N := Lib.hid (blk_next HB.out N.out)
        clear HB
        go_wp2_with fail
        generalize w62.alloc (.cells #[.int .i64 0, .int .i64 0, .int .i64 0] 23) = WS64 at *
        generalize w62.heap.size = gs64 at *
        refine region_I (S := SK [(6, gs64, .cells #[.int .i64 0, .int .i64 0, .int .i64 0] 23), (8, g61, .cells #[.int .i64 0, .int .i64 0] 41), (10, g61, .cells #[.int .i64 0, .int .i64 0] 41)]) (by kernel_rfl) ?_
        have HAL := Lib.hid (fun (k : Nat) => (show SK [(6, gs64, .cells #[.int .i64 0, .int .i64 0, .int .i64 0] 23), (8, g61, .cells #[.int .i64 0, .int .i64 0] 41), (10, g61, .cells #[.int .i64 0, .int .i64 0] 41)] k WS64.drew from fun p hp e => by
          simp only [List.mem_cons, List.not_mem_nil, or_false] at hp
          rcases hp with rfl | rfl | rfl
          · exact S.out
          · exact N.out
          · exact N.out))
        have HD := Lib.hid (Below.drew (Below.refl WS64.heap.size WS64))
        replace NN := Lib.hid (Bgo NN.out HD.out)
        replace BA := Lib.hid (blk_next HD.out BA.out)
        replace BB := Lib.hid (blk_next HD.out BB.out)
        replace JA := Lib.hid (blk_next HD.out JA.out)
        replace JB := Lib.hid (blk_next HD.out JB.out)
        replace P := Lib.hid (blk_next HD.out P.out)
        replace Q0 := Lib.hid (blk_next HD.out Q0.out)
        replace CQ := Lib.hid (blk_next HD.out CQ.out)
        replace N := Lib.hid (blk_next HD.out N.out)
        replace S := Lib.hid (blk_next HD.out S.out)
        clear HD
        refine only_I 0 (by kernel_rfl) rfl (fun K' hK' => ?_)
        go_simp
        refine hK'.out _ _ (fun k _ h => h) ?_
        clear hK' K'
        try simp only [Act.put, List.setIfInBounds_toArray, List.set_cons_zero, List.set_cons_succ]
        refine only_I 1 (by kernel_rfl) rfl (fun K' hK' => ?_)
        go_simp
        refine hK'.out _ _ (fun k _ h => h) ?_
        clear hK' K'
        try simp only [Act.put, List.setIfInBounds_toArray, List.set_cons_zero, List.set_cons_succ]
        refine only_I 2 (by kernel_rfl) rfl (fun K' hK' => ?_)
        go_simp
        refine hK'.out _ _ (fun k _ h => h) ?_
        clear hK' K'
        try simp only [Act.put, List.setIfInBounds_toArray, List.set_cons_zero, List.set_cons_succ]
        refine take_I 3 undef (some 95) rfl (by kernel_rfl) (by kernel_rfl) (by kernel_rfl) rfl (fun _ _ _ h => h) (Or.inr ⟨by rfl, rfl⟩) (HAL.out 3) ?_
        try simp only [Act.put, List.setIfInBounds_toArray, List.set_cons_zero, List.set_cons_succ]
        refine take_I 4 undef (some 96) rfl (by kernel_rfl) (by kernel_rfl) (by kernel_rfl) rfl (fun _ _ _ h => h) (Or.inr ⟨by rfl, rfl⟩) (HAL.out 4) ?_
        try simp only [Act.put, List.setIfInBounds_toArray, List.set_cons_zero, List.set_cons_succ]
        refine take_I 5 undef (some 97) rfl (by kernel_rfl) (by kernel_rfl) (by kernel_rfl) rfl (fun _ _ _ h => h) (Or.inr ⟨by rfl, rfl⟩) (HAL.out 5) ?_
        try simp only [Act.put, List.setIfInBounds_toArray, List.set_cons_zero, List.set_cons_succ]
        refine take_I 6 undef (some 98) rfl (by kernel_rfl) (by kernel_rfl) (by kernel_rfl) rfl (fun _ _ _ h => h) (Or.inr ⟨by rfl, rfl⟩) (HAL.out 6) ?_
        try simp only [Act.put, List.setIfInBounds_toArray, List.set_cons_zero, List.set_cons_succ]
        refine take_I 7 undef (some 99) rfl (by kernel_rfl) (by kernel_rfl) (by kernel_rfl) rfl (fun _ _ _ h => h) (Or.inr ⟨by rfl, rfl⟩) (HAL.out 7) ?_
        try simp only [Act.put, List.setIfInBounds_toArray, List.set_cons_zero, List.set_cons_succ]
        refine take_I 8 undef (some 100) rfl (by kernel_rfl) (by kernel_rfl) (by kernel_rfl) rfl (fun _ _ _ h => h) (Or.inr ⟨by rfl, rfl⟩) (HAL.out 8) ?_
        try simp only [Act.put, List.setIfInBounds_toArray, List.set_cons_zero, List.set_cons_succ]
        refine take_I 9 undef (some 101) rfl (by kernel_rfl) (by kernel_rfl) (by kernel_rfl) rfl (fun _ _ _ h => h) (Or.inr ⟨by rfl, rfl⟩) (HAL.out 9) ?_
        try simp only [Act.put, List.setIfInBounds_toArray, List.set_cons_zero, List.set_cons_succ]
        refine take_I 10 undef (some 102) rfl (by kernel_rfl) (by kernel_rfl) (by kernel_rfl) rfl (fun _ _ _ h => h) (Or.inr ⟨by rfl, rfl⟩) (HAL.out 10) ?_
        try simp only [Act.put, List.setIfInBounds_toArray, List.set_cons_zero, List.set_cons_succ]
        refine take_I 11 undef (some 103) rfl (by kernel_rfl) (by kernel_rfl) (by kernel_rfl) rfl (fun _ _ _ h => h) (Or.inr ⟨by rfl, rfl⟩) (HAL.out 11) ?_
        try simp only [Act.put, List.setIfInBounds_toArray, List.set_cons_zero, List.set_cons_succ]
        refine take_I 12 undef (some 104) rfl (by kernel_rfl) (by kernel_rfl) (by kernel_rfl) rfl (fun _ _ _ h => h) (Or.inr ⟨by rfl, rfl⟩) (HAL.out 12) ?_
        try simp only [Act.put, List.setIfInBounds_toArray, List.set_cons_zero, List.set_cons_succ]
        refine take_I 13 undef (some 105) rfl (by kernel_rfl) (by kernel_rfl) (by kernel_rfl) rfl (fun _ _ _ h => h) (Or.inr ⟨by rfl, rfl⟩) (HAL.out 13) ?_
        try simp only [Act.put, List.setIfInBounds_toArray, List.set_cons_zero, List.set_cons_succ]
        refine only_I 14 (by kernel_rfl) rfl (fun K' hK' => ?_)
        go_simp
        refine hK'.out _ _ (fun k _ h => h) ?_
        clear hK' K'
        try simp only [Act.put, List.setIfInBounds_toArray, List.set_cons_zero, List.set_cons_succ]
        clear HAL
        refine done_I (by kernel_rfl) ?_ _
        go_wp2_with fail
        go_ret
        exact ⟨rfl, NN.out⟩
  · have MP := Lib.hid (fun W => mul_calls _ _ _ _ _ _ _ _ _ _ hp W)
    have hq := MJ.out
    rw [hp] at hq
    simp only [Int.neg_zero] at hq
    have MQ := Lib.hid (fun W => mul_calls _ _ _ _ _ _ _ _ _ _ hq W)
    clear hq hp MC MJ NP NB
    refine (MP.out _).mono ?_
    rintro e w65 ⟨rfl, hb⟩
    replace NN := Lib.hid (Bgo NN.out hb)
    replace BA := Lib.hid (blk_next hb BA.out)
    replace BB := Lib.hid (blk_next hb BB.out)
    replace JA := Lib.hid (blk_next hb JA.out)
    replace JB := Lib.hid (blk_next hb JB.out)
    clear hb
    have HB : Hid (Below w65.heap.size w65 (w65.alloc (.cells #[.int .i64 0, .int .i64 0, .int .i64 0] 23))) := Lib.hid (Bal (Below.refl _ _) _)
    have P := Lib.hid (blk_new w65 (.cells #[.int .i64 0, .int .i64 0, .int .i64 0] 23))
    have LT_P : Hid (w.heap.size < w65.heap.size ∧ w.heap.size + 1 < w65.heap.size ∧ g8 < w65.heap.size ∧ g10 < w65.heap.size ∧ w.heap.size ≤ w65.heap.size) := Lib.hid ⟨blk_lt BA.out, blk_lt BB.out, blk_lt JA.out, blk_lt JB.out, NN.out.size⟩
    replace NN := Lib.hid (Bgo NN.out HB.out)
    replace BA := Lib.hid (blk_next HB.out BA.out)
    replace BB := Lib.hid (blk_next HB.out BB.out)
    replace JA := Lib.hid (blk_next HB.out JA.out)
    replace JB := Lib.hid (blk_next HB.out JB.out)
    clear HB
    have c_JA_0 := blk_cell JA.out 0 _ rfl
    have f_JA_0 := blk_frozen JA.out 0
    have c_JA_1 := blk_cell JA.out 1 _ rfl
    have f_JA_1 := blk_frozen JA.out 1
    have c_JA_2 := blk_cell JA.out 2 _ rfl
    have f_JA_2 := blk_frozen JA.out 2
    have l_JA := blk_lt JA.out
    have c_JB_0 := blk_cell JB.out 0 _ rfl
    have f_JB_0 := blk_frozen JB.out 0
    have c_JB_1 := blk_cell JB.out 1 _ rfl
    have f_JB_1 := blk_frozen JB.out 1
    have c_JB_2 := blk_cell JB.out 2 _ rfl
    have f_JB_2 := blk_frozen JB.out 2
    have l_JB := blk_lt JB.out
    go_wp2_with fail
    clear c_JA_0 f_JA_0 c_JA_1 f_JA_1 c_JA_2 f_JA_2 l_JA c_JB_0 f_JB_0 c_JB_1 f_JB_1 c_JB_2 f_JB_2 l_JB
    generalize w65.alloc (.cells #[.int .i64 0, .int .i64 0, .int .i64 0] 23) = W66 at *
    generalize w65.heap.size = g66 at *
    refine (MQ.out _).mono ?_
    rintro e w67 ⟨rfl, hb⟩
    replace NN := Lib.hid (Bgo NN.out hb)
    replace BA := Lib.hid (blk_next hb BA.out)
    replace BB := Lib.hid (blk_next hb BB.out)
    replace JA := Lib.hid (blk_next hb JA.out)
    replace JB := Lib.hid (blk_next hb JB.out)
    replace P := Lib.hid (blk_next hb P.out)
    clear hb
    have HB : Hid (Below w67.heap.size w67 (w67.alloc (.cells #[.int .i64 0, .int .i64 0, .int .i64 0] 23))) := Lib.hid (Bal (Below.refl _ _) _)
    have Q0 := Lib.hid (blk_new w67 (.cells #[.int .i64 0, .int .i64 0, .int .i64 0] 23))
    have LT_Q0 : Hid (w.heap.size < w67.heap.size ∧ w.heap.size + 1 < w67.heap.size ∧ g8 < w67.heap.size ∧ g10 < w67.heap.size ∧ g66 < w67.heap.size ∧ w.heap.size ≤ w67.heap.size) := Lib.hid ⟨blk_lt BA.out, blk_lt BB.out, blk_lt JA.out, blk_lt JB.out, blk_lt P.out, NN.out.size⟩
    replace NN := Lib.hid (Bgo NN.out HB.out)
    replace BA := Lib.hid (blk_next HB.out BA.out)
    replace BB := Lib.hid (blk_next HB.out BB.out)
    replace JA := Lib.hid (blk_next HB.out JA.out)
    replace JB := Lib.hid (blk_next HB.out JB.out)
    replace P := Lib.hid (blk_next HB.out P.out)
    clear HB
    rcases SC.out with ⟨sx, sy, sz, hs, _⟩ | hs
    · obtain ⟨hn, rfl⟩ := NM.out _ _ _ hs
      have N1 := Lib.hid (fun W => norm_calls hn W)
      have S1 := Lib.hid (fun W => mul_calls _ _ _ _ _ _ _ _ _ _ hs W)
      have nb : 0 ≤ sx ∧ sx ≤ 1000000000000000000 ∧ 1 ≤ sz ∧ sz ≤ 1000000000000000000 := by
        rcases NA.out with ⟨u, v, h, b⟩ | h
        · rw [hn] at h; cases h; exact b
        · rw [hn] at h; cases h
      have HN := Lib.hid hn
      clear hn hs NM SC NA
      have c_BA_0 := blk_cell BA.out 0 _ rfl
      have c_BA_1 := blk_cell BA.out 1 _ rfl
      have c_BA_2 := blk_cell BA.out 2 _ rfl
      have l_BA := blk_lt BA.out
      go_wp2_with fail
      clear c_BA_0 c_BA_1 c_BA_2 l_BA
      refine (N1.out _).mono ?_
      rintro e w69 ⟨rfl, hb⟩
      replace NN := Lib.hid (Bgo NN.out hb)
      replace BA := Lib.hid (blk_next hb BA.out)
      replace BB := Lib.hid (blk_next hb BB.out)
      replace JA := Lib.hid (blk_next hb JA.out)
      replace JB := Lib.hid (blk_next hb JB.out)
      replace P := Lib.hid (blk_next hb P.out)
      replace Q0 := Lib.hid (blk_next hb Q0.out)
      clear hb
      have HB : Hid (Below w69.heap.size w69 (w69.alloc (.cells #[.int .i64 sx, .int .i64 sz] 41))) := Lib.hid (Bal (Below.refl _ _) _)
      have N := Lib.hid (blk_new w69 (.cells #[.int .i64 sx, .int .i64 sz] 41))
      have LT_N : Hid (w.heap.size < w69.heap.size ∧ w.heap.size + 1 < w69.heap.size ∧ g8 < w69.heap.size ∧ g10 < w69.heap.size ∧ g66 < w69.heap.size ∧ w67.heap.size < w69.heap.size ∧ w.heap.size ≤ w69.heap.size) := Lib.hid ⟨blk_lt BA.out, blk_lt BB.out, blk_lt JA.out, blk_lt JB.out, blk_lt P.out, blk_lt Q0.out, NN.out.size⟩
      replace NN := Lib.hid (Bgo NN.out HB.out)
      replace BA := Lib.hid (blk_next HB.out BA.out)
      replace BB := Lib.hid (blk_next HB.out BB.out)
      replace JA := Lib.hid (blk_next HB.out JA.out)
      replace JB := Lib.hid (blk_next HB.out JB.out)
      replace P := Lib.hid (blk_next HB.out P.out)
      replace Q0 := Lib.hid (blk_next HB.out Q0.out)
      clear HB
      have c_BA_0 := blk_cell BA.out 0 _ rfl
      have f_BA_0 := blk_frozen BA.out 0
      have c_BA_1 := blk_cell BA.out 1 _ rfl
      have f_BA_1 := blk_frozen BA.out 1
      have c_BA_2 := blk_cell BA.out 2 _ rfl
      have f_BA_2 := blk_frozen BA.out 2
      have l_BA := blk_lt BA.out
      have c_JA_0 := blk_cell JA.out 0 _ rfl
      have f_JA_0 := blk_frozen JA.out 0
      have c_JA_1 := blk_cell JA.out 1 _ rfl
      have f_JA_1 := blk_frozen JA.out 1
      have c_JA_2 := blk_cell JA.out 2 _ rfl
      have f_JA_2 := blk_frozen JA.out 2
      have l_JA := blk_lt JA.out
      go_wp2_with fail
      clear c_BA_0 f_BA_0 c_BA_1 f_BA_1 c_BA_2 f_BA_2 l_BA c_JA_0 f_JA_0 c_JA_1 f_JA_1 c_JA_2 f_JA_2 l_JA
      generalize w69.alloc (.cells #[.int .i64 sx, .int .i64 sz] 41) = W70 at *
      generalize w69.heap.size = g70 at *
      refine (S1.out _).mono ?_
      rintro e w71 ⟨rfl, hb⟩
      replace NN := Lib.hid (Bgo NN.out hb)
      replace BA := Lib.hid (blk_next hb BA.out)
      replace BB := Lib.hid (blk_next hb BB.out)
      replace JA := Lib.hid (blk_next hb JA.out)
      replace JB := Lib.hid (blk_next hb JB.out)
      replace P := Lib.hid (blk_next hb P.out)
      replace Q0 := Lib.hid (blk_next hb Q0.out)
      replace N := Lib.hid (blk_next hb N.out)
      clear hb
      have HB : Hid (Below w71.heap.size w71 (w71.alloc (.cells #[.int .i64 sx, .int .i64 0, .int .i64 sz] 23))) := Lib.hid (Bal (Below.refl _ _) _)
      have S := Lib.hid (blk_new w71 (.cells #[.int .i64 sx, .int .i64 0, .int .i64 sz] 23))
      have LT_S : Hid (w.heap.size < w71.heap.size ∧ w.heap.size + 1 < w71.heap.size ∧ g8 < w71.heap.size ∧ g10 < w71.heap.size ∧ g66 < w71.heap.size ∧ w67.heap.size < w71.heap.size ∧ g70 < w71.heap.size ∧ w.heap.size ≤ w71.heap.size) := Lib.hid ⟨blk_lt BA.out, blk_lt BB.out, blk_lt JA.out, blk_lt JB.out, blk_lt P.out, blk_lt Q0.out, blk_lt N.out, NN.out.size⟩
      replace NN := Lib.hid (Bgo NN.out HB.out)
      replace BA := Lib.hid (blk_next HB.out BA.out)
      replace BB := Lib.hid (blk_next HB.out BB.out)
      replace JA := Lib.hid (blk_next HB.out JA.out)
      replace JB := Lib.hid (blk_next HB.out JB.out)
      replace P := Lib.hid (blk_next HB.out P.out)
      replace Q0 := Lib.hid (blk_next HB.out Q0.out)
      replace N := Lib.hid (blk_next HB.out N.out)
      clear HB
      go_wp2_with fail
      generalize w71.alloc (.cells #[.int .i64 sx, .int .i64 0, .int .i64 sz] 23) = WS73 at *
      generalize w71.heap.size = gs73 at *
      refine region_I (S := SK [(6, gs73, .cells #[.int .i64 sx, .int .i64 0, .int .i64 sz] 23), (8, g70, .cells #[.int .i64 sx, .int .i64 sz] 41), (10, g70, .cells #[.int .i64 sx, .int .i64 sz] 41)]) (by kernel_rfl) ?_
      have HAL := Lib.hid (fun (k : Nat) => (show SK [(6, gs73, .cells #[.int .i64 sx, .int .i64 0, .int .i64 sz] 23), (8, g70, .cells #[.int .i64 sx, .int .i64 sz] 41), (10, g70, .cells #[.int .i64 sx, .int .i64 sz] 41)] k WS73.drew from fun p hp e => by
        simp only [List.mem_cons, List.not_mem_nil, or_false] at hp
        rcases hp with rfl | rfl | rfl
        · exact S.out
        · exact N.out
        · exact N.out))
      have HD := Lib.hid (Below.drew (Below.refl WS73.heap.size WS73))
      replace NN := Lib.hid (Bgo NN.out HD.out)
      replace BA := Lib.hid (blk_next HD.out BA.out)
      replace BB := Lib.hid (blk_next HD.out BB.out)
      replace JA := Lib.hid (blk_next HD.out JA.out)
      replace JB := Lib.hid (blk_next HD.out JB.out)
      replace P := Lib.hid (blk_next HD.out P.out)
      replace Q0 := Lib.hid (blk_next HD.out Q0.out)
      replace N := Lib.hid (blk_next HD.out N.out)
      replace S := Lib.hid (blk_next HD.out S.out)
      clear HD
      refine only_I 0 (by kernel_rfl) rfl (fun K' hK' => ?_)
      go_simp
      refine hK'.out _ _ (fun k _ h => h) ?_
      clear hK' K'
      try simp only [Act.put, List.setIfInBounds_toArray, List.set_cons_zero, List.set_cons_succ]
      refine only_I 1 (by kernel_rfl) rfl (fun K' hK' => ?_)
      go_simp
      refine hK'.out _ _ (fun k _ h => h) ?_
      clear hK' K'
      try simp only [Act.put, List.setIfInBounds_toArray, List.set_cons_zero, List.set_cons_succ]
      refine only_I 2 (by kernel_rfl) rfl (fun K' hK' => ?_)
      go_simp
      refine hK'.out _ _ (fun k _ h => h) ?_
      clear hK' K'
      try simp only [Act.put, List.setIfInBounds_toArray, List.set_cons_zero, List.set_cons_succ]
      refine only_I 3 (by kernel_rfl) rfl (fun K' hK' => ?_)
      go_simp
      refine hK'.out _ _ (fun k _ h => h) ?_
      clear hK' K'
      try simp only [Act.put, List.setIfInBounds_toArray, List.set_cons_zero, List.set_cons_succ]
      refine only_I 4 (by kernel_rfl) rfl (fun K' hK' => ?_)
      go_simp
      refine hK'.out _ _ (fun k _ h => h) ?_
      clear hK' K'
      try simp only [Act.put, List.setIfInBounds_toArray, List.set_cons_zero, List.set_cons_succ]
      refine only_I 5 (by kernel_rfl) rfl (fun K' hK' => ?_)
      go_simp
      refine hK'.out _ _ (fun k _ h => h) ?_
      clear hK' K'
      try simp only [Act.put, List.setIfInBounds_toArray, List.set_cons_zero, List.set_cons_succ]
      refine take_I 6 (Cv sx 0 sz) (some 98) rfl (by kernel_rfl) (by kernel_rfl) (by kernel_rfl) rfl (fun _ _ _ h => h) (Or.inl ⟨by rfl, ?_⟩) (HAL.out 6) ?_
      · intro X hX
        have hh := hX (6, gs73, .cells #[.int .i64 sx, .int .i64 0, .int .i64 sz] 23) (List.Mem.head _) rfl
        have hh0 := blk_cell hh 0 _ rfl
        have hh1 := blk_cell hh 1 _ rfl
        have hh2 := blk_cell hh 2 _ rfl
        have hhl := blk_lt hh
        clear hh
        clear hX
        go_simp
      try simp only [Act.put, List.setIfInBounds_toArray, List.set_cons_zero, List.set_cons_succ]
      refine take_I 7 (.pointer (some ⟨g70, 0, none⟩)) (some 99) rfl (by kernel_rfl) (by kernel_rfl) (by kernel_rfl) rfl (fun _ _ _ h => h) (Or.inl ⟨by rfl, ?_⟩) (SK.drop (by simp)) ?_
      · intro X hX
        clear hX
        go_simp
      try simp only [Act.put, List.setIfInBounds_toArray, List.set_cons_zero, List.set_cons_succ]
      refine take_I 8 (.int .i64 sx) (some 100) rfl (by kernel_rfl) (by kernel_rfl) (by kernel_rfl) rfl (fun _ _ _ h => h) (Or.inl ⟨by rfl, ?_⟩) (HAL.out 8) ?_
      · intro X hX
        have hh := hX (8, g70, .cells #[.int .i64 sx, .int .i64 sz] 41) (List.Mem.tail _ (List.Mem.head _)) rfl
        have hh0 := blk_cell hh 0 _ rfl
        have hhl := blk_lt hh
        clear hh
        clear hX
        go_simp
      try simp only [Act.put, List.setIfInBounds_toArray, List.set_cons_zero, List.set_cons_succ]
      refine take_I 9 (.pointer (some ⟨g70, 1, none⟩)) (some 101) rfl (by kernel_rfl) (by kernel_rfl) (by kernel_rfl) rfl (fun _ _ _ h => h) (Or.inl ⟨by rfl, ?_⟩) (SK.drop (by simp)) ?_
      · intro X hX
        clear hX
        go_simp
      try simp only [Act.put, List.setIfInBounds_toArray, List.set_cons_zero, List.set_cons_succ]
      refine take_I 10 (.int .i64 sz) (some 102) rfl (by kernel_rfl) (by kernel_rfl) (by kernel_rfl) rfl (fun _ _ _ h => h) (Or.inl ⟨by rfl, ?_⟩) (HAL.out 10) ?_
      · intro X hX
        have hh := hX (10, g70, .cells #[.int .i64 sx, .int .i64 sz] 41) (List.Mem.tail _ (List.Mem.tail _ (List.Mem.head _))) rfl
        have hh1 := blk_cell hh 1 _ rfl
        have hhl := blk_lt hh
        clear hh
        clear hX
        go_simp
      try simp only [Act.put, List.setIfInBounds_toArray, List.set_cons_zero, List.set_cons_succ]
      refine only_I 11 (by kernel_rfl) rfl (fun K' hK' => ?_)
      go_simp
      go_at_call 20
      refine (of_calls sx 0 sz _).mono ?_
      rintro e x74 ⟨rfl, hb⟩
      replace NN := Lib.hid (Bgo NN.out hb)
      replace BA := Lib.hid (blk_next hb BA.out)
      replace BB := Lib.hid (blk_next hb BB.out)
      replace JA := Lib.hid (blk_next hb JA.out)
      replace JB := Lib.hid (blk_next hb JB.out)
      replace P := Lib.hid (blk_next hb P.out)
      replace Q0 := Lib.hid (blk_next hb Q0.out)
      replace N := Lib.hid (blk_next hb N.out)
      replace S := Lib.hid (blk_next hb S.out)
      go_simp
      refine hK'.out _ _ (fun k _ hS => hS.next hb) ?_
      clear hK' K'
      try simp only [Act.put, List.setIfInBounds_toArray, List.set_cons_zero, List.set_cons_succ]
      replace HAL := Lib.hid (fun k => (HAL.out k).next hb)
      refine only_I 12 (by kernel_rfl) rfl (fun K' hK' => ?_)
      go_simp
      refine hK'.out _ _ (fun k _ h => h) ?_
      clear hK' K'
      try simp only [Act.put, List.setIfInBounds_toArray, List.set_cons_zero, List.set_cons_succ]
      refine only_I 13 (by kernel_rfl) rfl (fun K' hK' => ?_)
      go_simp
      refine hK'.out _ _ (fun k _ h => h) ?_
      clear hK' K'
      try simp only [Act.put, List.setIfInBounds_toArray, List.set_cons_zero, List.set_cons_succ]
      refine only_I 14 (by kernel_rfl) rfl (fun K' hK' => ?_)
      go_simp
      refine hK'.out _ _ (fun k _ h => h) ?_
      clear hK' K'
      try simp only [Act.put, List.setIfInBounds_toArray, List.set_cons_zero, List.set_cons_succ]
      clear HAL hb
      refine done_I (by kernel_rfl) ?_ _
      go_wp2_with fail
      go_ret
      exact ⟨rfl, NN.out⟩
    · have S1 := Lib.hid (fun W => mul_calls _ _ _ _ _ _ _ _ _ _ hs W)
      clear hs NM SC
      rcases NA.out with ⟨nx, ny, hn, nb⟩ | hn
      · have N1 := Lib.hid (fun W => norm_calls hn W)
        have HN := Lib.hid hn
        clear hn NA
        have c_BA_0 := blk_cell BA.out 0 _ rfl
        have c_BA_1 := blk_cell BA.out 1 _ rfl
        have c_BA_2 := blk_cell BA.out 2 _ rfl
        have l_BA := blk_lt BA.out
        go_wp2_with fail
        clear c_BA_0 c_BA_1 c_BA_2 l_BA
        refine (N1.out _).mono ?_
        rintro e w75 ⟨rfl, hb⟩
        replace NN := Lib.hid (Bgo NN.out hb)
        replace BA := Lib.hid (blk_next hb BA.out)
        replace BB := Lib.hid (blk_next hb BB.out)
        replace JA := Lib.hid (blk_next hb JA.out)
        replace JB := Lib.hid (blk_next hb JB.out)
        replace P := Lib.hid (blk_next hb P.out)
        replace Q0 := Lib.hid (blk_next hb Q0.out)
        clear hb
        have HB : Hid (Below w75.heap.size w75 (w75.alloc (.cells #[.int .i64 nx, .int .i64 ny] 41))) := Lib.hid (Bal (Below.refl _ _) _)
        have N := Lib.hid (blk_new w75 (.cells #[.int .i64 nx, .int .i64 ny] 41))
        have LT_N : Hid (w.heap.size < w75.heap.size ∧ w.heap.size + 1 < w75.heap.size ∧ g8 < w75.heap.size ∧ g10 < w75.heap.size ∧ g66 < w75.heap.size ∧ w67.heap.size < w75.heap.size ∧ w.heap.size ≤ w75.heap.size) := Lib.hid ⟨blk_lt BA.out, blk_lt BB.out, blk_lt JA.out, blk_lt JB.out, blk_lt P.out, blk_lt Q0.out, NN.out.size⟩
        replace NN := Lib.hid (Bgo NN.out HB.out)
        replace BA := Lib.hid (blk_next HB.out BA.out)
        replace BB := Lib.hid (blk_next HB.out BB.out)
        replace JA := Lib.hid (blk_next HB.out JA.out)
        replace JB := Lib.hid (blk_next HB.out JB.out)
        replace P := Lib.hid (blk_next HB.out P.out)
        replace Q0 := Lib.hid (blk_next HB.out Q0.out)
        clear HB
        have c_BA_0 := blk_cell BA.out 0 _ rfl
        have f_BA_0 := blk_frozen BA.out 0
        have c_BA_1 := blk_cell BA.out 1 _ rfl
        have f_BA_1 := blk_frozen BA.out 1
        have c_BA_2 := blk_cell BA.out 2 _ rfl
        have f_BA_2 := blk_frozen BA.out 2
        have l_BA := blk_lt BA.out
        have c_JA_0 := blk_cell JA.out 0 _ rfl
        have f_JA_0 := blk_frozen JA.out 0
        have c_JA_1 := blk_cell JA.out 1 _ rfl
        have f_JA_1 := blk_frozen JA.out 1
        have c_JA_2 := blk_cell JA.out 2 _ rfl
        have f_JA_2 := blk_frozen JA.out 2
        have l_JA := blk_lt JA.out
        go_wp2_with fail
        clear c_BA_0 f_BA_0 c_BA_1 f_BA_1 c_BA_2 f_BA_2 l_BA c_JA_0 f_JA_0 c_JA_1 f_JA_1 c_JA_2 f_JA_2 l_JA
        generalize w75.alloc (.cells #[.int .i64 nx, .int .i64 ny] 41) = W76 at *
        generalize w75.heap.size = g76 at *
        refine (S1.out _).mono ?_
        rintro e w77 ⟨rfl, hb⟩
        replace NN := Lib.hid (Bgo NN.out hb)
        replace BA := Lib.hid (blk_next hb BA.out)
        replace BB := Lib.hid (blk_next hb BB.out)
        replace JA := Lib.hid (blk_next hb JA.out)
        replace JB := Lib.hid (blk_next hb JB.out)
        replace P := Lib.hid (blk_next hb P.out)
        replace Q0 := Lib.hid (blk_next hb Q0.out)
        replace N := Lib.hid (blk_next hb N.out)
        clear hb
        have HB : Hid (Below w77.heap.size w77 (w77.alloc (.cells #[.int .i64 0, .int .i64 0, .int .i64 0] 23))) := Lib.hid (Bal (Below.refl _ _) _)
        have S := Lib.hid (blk_new w77 (.cells #[.int .i64 0, .int .i64 0, .int .i64 0] 23))
        have LT_S : Hid (w.heap.size < w77.heap.size ∧ w.heap.size + 1 < w77.heap.size ∧ g8 < w77.heap.size ∧ g10 < w77.heap.size ∧ g66 < w77.heap.size ∧ w67.heap.size < w77.heap.size ∧ g76 < w77.heap.size ∧ w.heap.size ≤ w77.heap.size) := Lib.hid ⟨blk_lt BA.out, blk_lt BB.out, blk_lt JA.out, blk_lt JB.out, blk_lt P.out, blk_lt Q0.out, blk_lt N.out, NN.out.size⟩
        replace NN := Lib.hid (Bgo NN.out HB.out)
        replace BA := Lib.hid (blk_next HB.out BA.out)
        replace BB := Lib.hid (blk_next HB.out BB.out)
        replace JA := Lib.hid (blk_next HB.out JA.out)
        replace JB := Lib.hid (blk_next HB.out JB.out)
        replace P := Lib.hid (blk_next HB.out P.out)
        replace Q0 := Lib.hid (blk_next HB.out Q0.out)
        replace N := Lib.hid (blk_next HB.out N.out)
        clear HB
        go_wp2_with fail
        generalize w77.alloc (.cells #[.int .i64 0, .int .i64 0, .int .i64 0] 23) = WS79 at *
        generalize w77.heap.size = gs79 at *
        refine region_I (S := SK [(6, gs79, .cells #[.int .i64 0, .int .i64 0, .int .i64 0] 23), (8, g76, .cells #[.int .i64 nx, .int .i64 ny] 41), (10, g76, .cells #[.int .i64 nx, .int .i64 ny] 41)]) (by kernel_rfl) ?_
        have HAL := Lib.hid (fun (k : Nat) => (show SK [(6, gs79, .cells #[.int .i64 0, .int .i64 0, .int .i64 0] 23), (8, g76, .cells #[.int .i64 nx, .int .i64 ny] 41), (10, g76, .cells #[.int .i64 nx, .int .i64 ny] 41)] k WS79.drew from fun p hp e => by
          simp only [List.mem_cons, List.not_mem_nil, or_false] at hp
          rcases hp with rfl | rfl | rfl
          · exact S.out
          · exact N.out
          · exact N.out))
        have HD := Lib.hid (Below.drew (Below.refl WS79.heap.size WS79))
        replace NN := Lib.hid (Bgo NN.out HD.out)
        replace BA := Lib.hid (blk_next HD.out BA.out)
        replace BB := Lib.hid (blk_next HD.out BB.out)
        replace JA := Lib.hid (blk_next HD.out JA.out)
        replace JB := Lib.hid (blk_next HD.out JB.out)
        replace P := Lib.hid (blk_next HD.out P.out)
        replace Q0 := Lib.hid (blk_next HD.out Q0.out)
        replace N := Lib.hid (blk_next HD.out N.out)
        replace S := Lib.hid (blk_next HD.out S.out)
        clear HD
        refine only_I 0 (by kernel_rfl) rfl (fun K' hK' => ?_)
        go_simp
        refine hK'.out _ _ (fun k _ h => h) ?_
        clear hK' K'
        try simp only [Act.put, List.setIfInBounds_toArray, List.set_cons_zero, List.set_cons_succ]
        refine only_I 1 (by kernel_rfl) rfl (fun K' hK' => ?_)
        go_simp
        refine hK'.out _ _ (fun k _ h => h) ?_
        clear hK' K'
        try simp only [Act.put, List.setIfInBounds_toArray, List.set_cons_zero, List.set_cons_succ]
        refine only_I 2 (by kernel_rfl) rfl (fun K' hK' => ?_)
        go_simp
        refine hK'.out _ _ (fun k _ h => h) ?_
        clear hK' K'
        try simp only [Act.put, List.setIfInBounds_toArray, List.set_cons_zero, List.set_cons_succ]
        refine take_I 3 undef (some 95) rfl (by kernel_rfl) (by kernel_rfl) (by kernel_rfl) rfl (fun _ _ _ h => h) (Or.inr ⟨by rfl, rfl⟩) (HAL.out 3) ?_
        try simp only [Act.put, List.setIfInBounds_toArray, List.set_cons_zero, List.set_cons_succ]
        refine take_I 4 undef (some 96) rfl (by kernel_rfl) (by kernel_rfl) (by kernel_rfl) rfl (fun _ _ _ h => h) (Or.inr ⟨by rfl, rfl⟩) (HAL.out 4) ?_
        try simp only [Act.put, List.setIfInBounds_toArray, List.set_cons_zero, List.set_cons_succ]
        refine take_I 5 undef (some 97) rfl (by kernel_rfl) (by kernel_rfl) (by kernel_rfl) rfl (fun _ _ _ h => h) (Or.inr ⟨by rfl, rfl⟩) (HAL.out 5) ?_
        try simp only [Act.put, List.setIfInBounds_toArray, List.set_cons_zero, List.set_cons_succ]
        refine take_I 6 undef (some 98) rfl (by kernel_rfl) (by kernel_rfl) (by kernel_rfl) rfl (fun _ _ _ h => h) (Or.inr ⟨by rfl, rfl⟩) (HAL.out 6) ?_
        try simp only [Act.put, List.setIfInBounds_toArray, List.set_cons_zero, List.set_cons_succ]
        refine take_I 7 undef (some 99) rfl (by kernel_rfl) (by kernel_rfl) (by kernel_rfl) rfl (fun _ _ _ h => h) (Or.inr ⟨by rfl, rfl⟩) (HAL.out 7) ?_
        try simp only [Act.put, List.setIfInBounds_toArray, List.set_cons_zero, List.set_cons_succ]
        refine take_I 8 undef (some 100) rfl (by kernel_rfl) (by kernel_rfl) (by kernel_rfl) rfl (fun _ _ _ h => h) (Or.inr ⟨by rfl, rfl⟩) (HAL.out 8) ?_
        try simp only [Act.put, List.setIfInBounds_toArray, List.set_cons_zero, List.set_cons_succ]
        refine take_I 9 undef (some 101) rfl (by kernel_rfl) (by kernel_rfl) (by kernel_rfl) rfl (fun _ _ _ h => h) (Or.inr ⟨by rfl, rfl⟩) (HAL.out 9) ?_
        try simp only [Act.put, List.setIfInBounds_toArray, List.set_cons_zero, List.set_cons_succ]
        refine take_I 10 undef (some 102) rfl (by kernel_rfl) (by kernel_rfl) (by kernel_rfl) rfl (fun _ _ _ h => h) (Or.inr ⟨by rfl, rfl⟩) (HAL.out 10) ?_
        try simp only [Act.put, List.setIfInBounds_toArray, List.set_cons_zero, List.set_cons_succ]
        refine take_I 11 undef (some 103) rfl (by kernel_rfl) (by kernel_rfl) (by kernel_rfl) rfl (fun _ _ _ h => h) (Or.inr ⟨by rfl, rfl⟩) (HAL.out 11) ?_
        try simp only [Act.put, List.setIfInBounds_toArray, List.set_cons_zero, List.set_cons_succ]
        refine take_I 12 undef (some 104) rfl (by kernel_rfl) (by kernel_rfl) (by kernel_rfl) rfl (fun _ _ _ h => h) (Or.inr ⟨by rfl, rfl⟩) (HAL.out 12) ?_
        try simp only [Act.put, List.setIfInBounds_toArray, List.set_cons_zero, List.set_cons_succ]
        refine take_I 13 undef (some 105) rfl (by kernel_rfl) (by kernel_rfl) (by kernel_rfl) rfl (fun _ _ _ h => h) (Or.inr ⟨by rfl, rfl⟩) (HAL.out 13) ?_
        try simp only [Act.put, List.setIfInBounds_toArray, List.set_cons_zero, List.set_cons_succ]
        refine only_I 14 (by kernel_rfl) rfl (fun K' hK' => ?_)
        go_simp
        refine hK'.out _ _ (fun k _ h => h) ?_
        clear hK' K'
        try simp only [Act.put, List.setIfInBounds_toArray, List.set_cons_zero, List.set_cons_succ]
        clear HAL
        refine done_I (by kernel_rfl) ?_ _
        go_wp2_with fail
        go_ret
        exact ⟨rfl, NN.out⟩
      · have N1 := Lib.hid (fun W => norm_calls hn W)
        clear hn NA
        have c_BA_0 := blk_cell BA.out 0 _ rfl
        have c_BA_1 := blk_cell BA.out 1 _ rfl
        have c_BA_2 := blk_cell BA.out 2 _ rfl
        have l_BA := blk_lt BA.out
        go_wp2_with fail
        clear c_BA_0 c_BA_1 c_BA_2 l_BA
        refine (N1.out _).mono ?_
        rintro e w80 ⟨rfl, hb⟩
        replace NN := Lib.hid (Bgo NN.out hb)
        replace BA := Lib.hid (blk_next hb BA.out)
        replace BB := Lib.hid (blk_next hb BB.out)
        replace JA := Lib.hid (blk_next hb JA.out)
        replace JB := Lib.hid (blk_next hb JB.out)
        replace P := Lib.hid (blk_next hb P.out)
        replace Q0 := Lib.hid (blk_next hb Q0.out)
        clear hb
        have HB : Hid (Below w80.heap.size w80 (w80.alloc (.cells #[.int .i64 0, .int .i64 0] 41))) := Lib.hid (Bal (Below.refl _ _) _)
        have N := Lib.hid (blk_new w80 (.cells #[.int .i64 0, .int .i64 0] 41))
        have LT_N : Hid (w.heap.size < w80.heap.size ∧ w.heap.size + 1 < w80.heap.size ∧ g8 < w80.heap.size ∧ g10 < w80.heap.size ∧ g66 < w80.heap.size ∧ w67.heap.size < w80.heap.size ∧ w.heap.size ≤ w80.heap.size) := Lib.hid ⟨blk_lt BA.out, blk_lt BB.out, blk_lt JA.out, blk_lt JB.out, blk_lt P.out, blk_lt Q0.out, NN.out.size⟩
        replace NN := Lib.hid (Bgo NN.out HB.out)
        replace BA := Lib.hid (blk_next HB.out BA.out)
        replace BB := Lib.hid (blk_next HB.out BB.out)
        replace JA := Lib.hid (blk_next HB.out JA.out)
        replace JB := Lib.hid (blk_next HB.out JB.out)
        replace P := Lib.hid (blk_next HB.out P.out)
        replace Q0 := Lib.hid (blk_next HB.out Q0.out)
        clear HB
        have c_BA_0 := blk_cell BA.out 0 _ rfl
        have f_BA_0 := blk_frozen BA.out 0
        have c_BA_1 := blk_cell BA.out 1 _ rfl
        have f_BA_1 := blk_frozen BA.out 1
        have c_BA_2 := blk_cell BA.out 2 _ rfl
        have f_BA_2 := blk_frozen BA.out 2
        have l_BA := blk_lt BA.out
        have c_JA_0 := blk_cell JA.out 0 _ rfl
        have f_JA_0 := blk_frozen JA.out 0
        have c_JA_1 := blk_cell JA.out 1 _ rfl
        have f_JA_1 := blk_frozen JA.out 1
        have c_JA_2 := blk_cell JA.out 2 _ rfl
        have f_JA_2 := blk_frozen JA.out 2
        have l_JA := blk_lt JA.out
        go_wp2_with fail
        clear c_BA_0 f_BA_0 c_BA_1 f_BA_1 c_BA_2 f_BA_2 l_BA c_JA_0 f_JA_0 c_JA_1 f_JA_1 c_JA_2 f_JA_2 l_JA
        generalize w80.alloc (.cells #[.int .i64 0, .int .i64 0] 41) = W81 at *
        generalize w80.heap.size = g81 at *
        refine (S1.out _).mono ?_
        rintro e w82 ⟨rfl, hb⟩
        replace NN := Lib.hid (Bgo NN.out hb)
        replace BA := Lib.hid (blk_next hb BA.out)
        replace BB := Lib.hid (blk_next hb BB.out)
        replace JA := Lib.hid (blk_next hb JA.out)
        replace JB := Lib.hid (blk_next hb JB.out)
        replace P := Lib.hid (blk_next hb P.out)
        replace Q0 := Lib.hid (blk_next hb Q0.out)
        replace N := Lib.hid (blk_next hb N.out)
        clear hb
        have HB : Hid (Below w82.heap.size w82 (w82.alloc (.cells #[.int .i64 0, .int .i64 0, .int .i64 0] 23))) := Lib.hid (Bal (Below.refl _ _) _)
        have S := Lib.hid (blk_new w82 (.cells #[.int .i64 0, .int .i64 0, .int .i64 0] 23))
        have LT_S : Hid (w.heap.size < w82.heap.size ∧ w.heap.size + 1 < w82.heap.size ∧ g8 < w82.heap.size ∧ g10 < w82.heap.size ∧ g66 < w82.heap.size ∧ w67.heap.size < w82.heap.size ∧ g81 < w82.heap.size ∧ w.heap.size ≤ w82.heap.size) := Lib.hid ⟨blk_lt BA.out, blk_lt BB.out, blk_lt JA.out, blk_lt JB.out, blk_lt P.out, blk_lt Q0.out, blk_lt N.out, NN.out.size⟩
        replace NN := Lib.hid (Bgo NN.out HB.out)
        replace BA := Lib.hid (blk_next HB.out BA.out)
        replace BB := Lib.hid (blk_next HB.out BB.out)
        replace JA := Lib.hid (blk_next HB.out JA.out)
        replace JB := Lib.hid (blk_next HB.out JB.out)
        replace P := Lib.hid (blk_next HB.out P.out)
        replace Q0 := Lib.hid (blk_next HB.out Q0.out)
        replace N := Lib.hid (blk_next HB.out N.out)
        clear HB
        go_wp2_with fail
        generalize w82.alloc (.cells #[.int .i64 0, .int .i64 0, .int .i64 0] 23) = WS84 at *
        generalize w82.heap.size = gs84 at *
        refine region_I (S := SK [(6, gs84, .cells #[.int .i64 0, .int .i64 0, .int .i64 0] 23), (8, g81, .cells #[.int .i64 0, .int .i64 0] 41), (10, g81, .cells #[.int .i64 0, .int .i64 0] 41)]) (by kernel_rfl) ?_
        have HAL := Lib.hid (fun (k : Nat) => (show SK [(6, gs84, .cells #[.int .i64 0, .int .i64 0, .int .i64 0] 23), (8, g81, .cells #[.int .i64 0, .int .i64 0] 41), (10, g81, .cells #[.int .i64 0, .int .i64 0] 41)] k WS84.drew from fun p hp e => by
          simp only [List.mem_cons, List.not_mem_nil, or_false] at hp
          rcases hp with rfl | rfl | rfl
          · exact S.out
          · exact N.out
          · exact N.out))
        have HD := Lib.hid (Below.drew (Below.refl WS84.heap.size WS84))
        replace NN := Lib.hid (Bgo NN.out HD.out)
        replace BA := Lib.hid (blk_next HD.out BA.out)
        replace BB := Lib.hid (blk_next HD.out BB.out)
        replace JA := Lib.hid (blk_next HD.out JA.out)
        replace JB := Lib.hid (blk_next HD.out JB.out)
        replace P := Lib.hid (blk_next HD.out P.out)
        replace Q0 := Lib.hid (blk_next HD.out Q0.out)
        replace N := Lib.hid (blk_next HD.out N.out)
        replace S := Lib.hid (blk_next HD.out S.out)
        clear HD
        refine only_I 0 (by kernel_rfl) rfl (fun K' hK' => ?_)
        go_simp
        refine hK'.out _ _ (fun k _ h => h) ?_
        clear hK' K'
        try simp only [Act.put, List.setIfInBounds_toArray, List.set_cons_zero, List.set_cons_succ]
        refine only_I 1 (by kernel_rfl) rfl (fun K' hK' => ?_)
        go_simp
        refine hK'.out _ _ (fun k _ h => h) ?_
        clear hK' K'
        try simp only [Act.put, List.setIfInBounds_toArray, List.set_cons_zero, List.set_cons_succ]
        refine only_I 2 (by kernel_rfl) rfl (fun K' hK' => ?_)
        go_simp
        refine hK'.out _ _ (fun k _ h => h) ?_
        clear hK' K'
        try simp only [Act.put, List.setIfInBounds_toArray, List.set_cons_zero, List.set_cons_succ]
        refine take_I 3 undef (some 95) rfl (by kernel_rfl) (by kernel_rfl) (by kernel_rfl) rfl (fun _ _ _ h => h) (Or.inr ⟨by rfl, rfl⟩) (HAL.out 3) ?_
        try simp only [Act.put, List.setIfInBounds_toArray, List.set_cons_zero, List.set_cons_succ]
        refine take_I 4 undef (some 96) rfl (by kernel_rfl) (by kernel_rfl) (by kernel_rfl) rfl (fun _ _ _ h => h) (Or.inr ⟨by rfl, rfl⟩) (HAL.out 4) ?_
        try simp only [Act.put, List.setIfInBounds_toArray, List.set_cons_zero, List.set_cons_succ]
        refine take_I 5 undef (some 97) rfl (by kernel_rfl) (by kernel_rfl) (by kernel_rfl) rfl (fun _ _ _ h => h) (Or.inr ⟨by rfl, rfl⟩) (HAL.out 5) ?_
        try simp only [Act.put, List.setIfInBounds_toArray, List.set_cons_zero, List.set_cons_succ]
        refine take_I 6 undef (some 98) rfl (by kernel_rfl) (by kernel_rfl) (by kernel_rfl) rfl (fun _ _ _ h => h) (Or.inr ⟨by rfl, rfl⟩) (HAL.out 6) ?_
        try simp only [Act.put, List.setIfInBounds_toArray, List.set_cons_zero, List.set_cons_succ]
        refine take_I 7 undef (some 99) rfl (by kernel_rfl) (by kernel_rfl) (by kernel_rfl) rfl (fun _ _ _ h => h) (Or.inr ⟨by rfl, rfl⟩) (HAL.out 7) ?_
        try simp only [Act.put, List.setIfInBounds_toArray, List.set_cons_zero, List.set_cons_succ]
        refine take_I 8 undef (some 100) rfl (by kernel_rfl) (by kernel_rfl) (by kernel_rfl) rfl (fun _ _ _ h => h) (Or.inr ⟨by rfl, rfl⟩) (HAL.out 8) ?_
        try simp only [Act.put, List.setIfInBounds_toArray, List.set_cons_zero, List.set_cons_succ]
        refine take_I 9 undef (some 101) rfl (by kernel_rfl) (by kernel_rfl) (by kernel_rfl) rfl (fun _ _ _ h => h) (Or.inr ⟨by rfl, rfl⟩) (HAL.out 9) ?_
        try simp only [Act.put, List.setIfInBounds_toArray, List.set_cons_zero, List.set_cons_succ]
        refine take_I 10 undef (some 102) rfl (by kernel_rfl) (by kernel_rfl) (by kernel_rfl) rfl (fun _ _ _ h => h) (Or.inr ⟨by rfl, rfl⟩) (HAL.out 10) ?_
        try simp only [Act.put, List.setIfInBounds_toArray, List.set_cons_zero, List.set_cons_succ]
        refine take_I 11 undef (some 103) rfl (by kernel_rfl) (by kernel_rfl) (by kernel_rfl) rfl (fun _ _ _ h => h) (Or.inr ⟨by rfl, rfl⟩) (HAL.out 11) ?_
        try simp only [Act.put, List.setIfInBounds_toArray, List.set_cons_zero, List.set_cons_succ]
        refine take_I 12 undef (some 104) rfl (by kernel_rfl) (by kernel_rfl) (by kernel_rfl) rfl (fun _ _ _ h => h) (Or.inr ⟨by rfl, rfl⟩) (HAL.out 12) ?_
        try simp only [Act.put, List.setIfInBounds_toArray, List.set_cons_zero, List.set_cons_succ]
        refine take_I 13 undef (some 105) rfl (by kernel_rfl) (by kernel_rfl) (by kernel_rfl) rfl (fun _ _ _ h => h) (Or.inr ⟨by rfl, rfl⟩) (HAL.out 13) ?_
        try simp only [Act.put, List.setIfInBounds_toArray, List.set_cons_zero, List.set_cons_succ]
        refine only_I 14 (by kernel_rfl) rfl (fun K' hK' => ?_)
        go_simp
        refine hK'.out _ _ (fun k _ h => h) ?_
        clear hK' K'
        try simp only [Act.put, List.setIfInBounds_toArray, List.set_cons_zero, List.set_cons_succ]
        clear HAL
        refine done_I (by kernel_rfl) ?_ _
        go_wp2_with fail
        go_ret
        exact ⟨rfl, NN.out⟩

abbrev synS : ByteArray := { data := #[105, 110, 118, 97, 108, 105, 100, 32, 115, 121, 110, 116, 97, 120] }
abbrev rngS : ByteArray := { data := #[118, 97, 108, 117, 101, 32, 111, 117, 116, 32, 111, 102, 32, 114, 97, 110, 103, 101] }
noncomputable def low : Nat := (World.holding Tryd.prog default ⟨#[], #[], []⟩).heap.size
def vals : DataW Unit → Array Value
  | .agg l => (l.map fun d => match d with | .lit (.int k z) => Value.int k z | _ => undef).toArray
  | _ => #[]
def put (vs : Array Value) : Obj → Obj
  | .cells _ t frozen => .cells vs t frozen
  | o => o
noncomputable def laidWorld (os : Os) : World :=
  let w0 := World.holding Tryd.prog os ⟨#[.cells #[.string rngS] 108, .cells #[.string synS] 108], #[], []⟩
  { w0 with heap := ((((w0.heap.modify 4 (put (vals Rows.laid_math_bits_deBruijn32tab))).modify 5 (put (vals Rows.laid_math_bits_deBruijn64tab))).modify 0 (put (vals Rows.laid_internal_strconv_uint64pow10))).modify 3 (put #[.iface 106 (.pointer (some ⟨low, 0, none⟩))])).modify 2 (put #[.iface 106 (.pointer (some ⟨low + 1, 0, none⟩))]) }
theorem laid_met (os : Os) (args : Array Value) : laidMet Tryd.prog Rows.cxNormsRow.laid ((laidWorld os).forCall (fun _ _ => 0) ⟨#[], args, []⟩).memory :=
  laidMet_of_run' 8 (by kernel_rfl) (by kernel_rfl)

set_option maxRecDepth 100000 in
set_option maxHeartbeats 4000000 in
theorem lifted (os : Os) (started : os.Started) (H : Type) (enc : TypeId × Value → H) (F0 : Stop.Interp) :
    ReturnsInHanded {} Tryd.checked os 5 .any ((OpenSpec.ofChange Rows.cxNormsSpec).preRow enc Tryd.prog Tryd.f5 Rows.cxNormsRow.domain false Rows.cxNormsRow.laid) (((OpenSpec.ofChange Rows.cxNormsSpec).at F0).post enc Tryd.prog Tryd.f5 false true false false) := by
  refine returnsInHanded_of_row (C := Tryd.checked) (s := OpenSpec.ofChange Rows.cxNormsSpec) own started (by kernel_rfl) Tryd.func5
    (witness_row_at (enc := enc) (C := Tryd.checked) false (laidWorld os) #[.agg #[.int .i64 0, .int .i64 0, .int .i64 0], .agg #[.int .i64 0, .int .i64 0, .int .i64 0]] rfl (by kernel_rfl) (by kernel_rfl) (by kernel_rfl) (OpenSpec.preRow_of_B rfl 8 (by kernel_rfl) (by kernel_rfl) (laid_met os _))) ?_
  intro W base args ds gs before hval0 hW hcnd _ hsz0 hL hsh _
  have GLW := gl_of hL hsh
  clear hL hsh hsz0 hcnd
  have hval : ∀ (j : Nat) t v, Tryd.f5.params[j]? = some t → args[j]? = some v → Value.okWide Tryd.prog W .any base t v := hval0
  have hW' := hW
  obtain ⟨p, q, hA0, hV, rfl, hfz, hnd⟩ := hW
  have hA : DataW.TrodAll enc Tryd.prog W 0 (fun _ => true) true Tryd.f5.params.toList args.toList ds p := hA0
  rw [Tryd.params5] at hA hval
  obtain ⟨v0, vs0, d0, ds0, p0, q0, hargs, rfl, rfl, h0, r0⟩ := trodAll_cons hA
  obtain ⟨v1, vs1, d1, ds1, p1, q1, rfl, rfl, rfl, h1, r1⟩ := trodAll_cons r0
  obtain ⟨rfl, rfl, rfl⟩ := trodAll_nil r1
  obtain rfl : args = #[v0, v1] := by cases args; simp_all
  obtain ⟨rfl, rfl⟩ := trodVars_none hV
  have k0 := h0
  have lt0 : ∀ x ∈ p0, x.block < W.heap.size := by obtain ⟨m, hm⟩ := k0; exact DataW.trod_lt m _ _ _ hm
  obtain ⟨c0_0, c1_0, c2_0, y0_0, y1_0, y2_0, m0, rfl, _, _, t0_0, t1_0, t2_0⟩ := open_agg3 Tryd.underlying23 (by kernel_rfl) (show Tryd.prog.cellsOf 23 = 3 by kernel_rfl) (hval 0 23 v0 rfl rfl) h0
  obtain ⟨ar, e0_0, _, war⟩ := DataW.trod_int Tryd.underlying2 t0_0
  simp only [List.cons.injEq, and_true] at e0_0
  subst e0_0
  obtain ⟨ai, e1_0, _, wai⟩ := DataW.trod_int Tryd.underlying2 t1_0
  simp only [List.cons.injEq, and_true] at e1_0
  subst e1_0
  obtain ⟨ad, e2_0, _, wad⟩ := DataW.trod_int Tryd.underlying2 t2_0
  simp only [List.cons.injEq, and_true] at e2_0
  subst e2_0
  have k1 := h1
  have lt1 : ∀ x ∈ p1, x.block < W.heap.size := by obtain ⟨m, hm⟩ := k1; exact DataW.trod_lt m _ _ _ hm
  obtain ⟨c0_1, c1_1, c2_1, y0_1, y1_1, y2_1, m1, rfl, _, _, t0_1, t1_1, t2_1⟩ := open_agg3 Tryd.underlying23 (by kernel_rfl) (show Tryd.prog.cellsOf 23 = 3 by kernel_rfl) (hval 1 23 v1 rfl rfl) h1
  obtain ⟨br, e0_1, _, wbr⟩ := DataW.trod_int Tryd.underlying2 t0_1
  simp only [List.cons.injEq, and_true] at e0_1
  subst e0_1
  obtain ⟨bi, e1_1, _, wbi⟩ := DataW.trod_int Tryd.underlying2 t1_1
  simp only [List.cons.injEq, and_true] at e1_1
  subst e1_1
  obtain ⟨bd, e2_1, _, wbd⟩ := DataW.trod_int Tryd.underlying2 t2_1
  simp only [List.cons.injEq, and_true] at e2_1
  subst e2_1
  clear hA0 hval0
  refine (walk ar ai ad br bi bd W GLW).mono fun e W' ⟨he, bel⟩ => ?_
  subst he
  exact ⟨_, rfl, _, _, _, [], _, [], hW', trodAll_mk1 (shut_bool Tryd.underlying4 _), (trodAll_cons_mk (Below.trod laidOut (by kernel_rfl) (of_decide_eq_true (by kernel_rfl)) k0 bel lt0) (trodAll_cons_mk (Below.trod laidOut (by kernel_rfl) (of_decide_eq_true (by kernel_rfl)) k1 bel lt1) trodAll_mk0)), rfl, bel.frame _, fun h => by cases h⟩

theorem over : Rows.CxNormsSaid :=
  OpenClaim.holds_of_cond 5 Tryd.f5 rfl rfl rfl rfl rfl rfl rfl ⟨rfl, rfl, rfl, rfl, rfl⟩ rfl rfl rfl rfl rfl (by kernel_rfl) Tryd.func5 (by kernel_rfl)
    (of_decide_eq_true (by kernel_rfl)) (by unfold Func.isWrapper; first | (rw [if_pos (by decide +kernel)]; kernel_rfl) | (rw [if_neg (by decide +kernel)]; exact ⟨rfl, rfl⟩))
    (fun os started H enc _ F0 => by rw [OpenClaim.pre_eq_preRow]; exact lifted os started H enc F0)

theorem proved : Rows.CxNormsCardSaid :=
  Claim7.holds_tied_plain_at .later [] [.data, .data, .data, .sentinel, .sentinel] true (true, "79a2c85c093c7f4bbd60387b9b96cb032bdfb92f3488d33d2cf8f7a3fa8fd4c2") true
    over (fun _ h => by cases h) (by kernel_rfl) (fun _ h => by cases h) cxNorms_row_tie rfl ⟨rfl, rfl⟩ (by kernel_rfl) rfl
    (fun f fn hf hfn => by
      obtain rfl : f = 5 := Option.some.inj ((show Tryd.prog.funcNamed "fringe/fringelaw25.CxNorms" = some 5 by kernel_rfl).symm.trans hf) |>.symm
      obtain rfl : fn = Tryd.f5 := (Option.some.inj (Tryd.func5.symm.trans hfn)).symm
      exact ⟨by kernel_rfl, fun j t ht => by
        rw [Tryd.params5] at ht
        have hj : j < 2 := by
          have := (Array.getElem?_eq_some_iff.1 ht).1
          simpa using this
        obtain rfl | rfl : j = 0 ∨ j = 1 := by omega
        · have h3 : t = 23 := by simpa using ht.symm
          subst h3
          exact (show Tryd.prog.wantsStandIn 23 = false by kernel_rfl)
        · have h3 : t = 23 := by simpa using ht.symm
          subst h3
          exact (show Tryd.prog.wantsStandIn 23 = false by kernel_rfl)⟩)
    (by kernel_rfl)
#print axioms proved
end Go.Proofs.YtbbjclbpllfdeaaDoor.cxNorms
