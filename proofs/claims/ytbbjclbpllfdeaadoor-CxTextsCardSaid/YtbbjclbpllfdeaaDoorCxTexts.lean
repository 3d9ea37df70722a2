/- For every input the law CxTexts returns true and leaves its arguments as they were; the library's variables as the program's text lays them. -/
import Derived.Test.YtbbjclbpllfdeaaDoorRows
import Derived.Test.YtbbjclbpllfdeaaDoorCards
import Derived.Test.YtbbjclbpllfdeaaDoorTie
import Derived.Test.YtbbjclbpllfdeaaDoorCtk
import Derived.WalkKit
import Derived.ProofKit
import Derived.OpenShut
import Derived.ShutString
import Derived.ChangeOld
import Derived.Below
import Derived.Lib.SmallJoins
import Derived.Deep.DeepHandedRow
import Derived.LaidLaws
import Derived.SevenTiedAt
namespace Go.Proofs.YtbbjclbpllfdeaaDoor.cxTexts
open Go.ChangeShapes Go.WideShapes Go.ChangeAt Go.RowKit Go.Joins
open Go.ChangeMaps (open_string shut_string)
set_option linter.unusedVariables false

theorem own : ownKnob Tryd.prog.godebug = none := by kernel_rfl
theorem laidOut : laidOutB Tryd.prog = true := by kernel_rfl
open Cxm
set_option maxRecDepth 100000 in
set_option maxHeartbeats 16000000 in
theorem walk (ar ai ad : Int) (s : ByteArray) (w : World) (g : GL w) (h3 : s.size ≤ 9223372036854775807) :
    Calls Tryd.prog 3 #[Cv ar ai ad, .string s] w fun e w' => e = .returned (.bool true) ∧ Below w.heap.size w w' := by
  have GG := Lib.hid g
  have NN := Lib.hid (Below.refl w.heap.size w)
  clear g
  have TC := Lib.hid (fun W (h : GL W) => text_calls ar ai ad W h)
  have RT := Lib.hid (fun W => refText_calls ar ai ad W)
  have PS := Lib.hid (fun W (h : GL W) => parseX_calls s W h)
  have RS := Lib.hid (fun (h : s.size ≤ 100) W => refParse_calls s W h)
  cases ck : chkB ar ai ad
  · rw [chkE_no ck] at TC RT
    generalize txR ar ai ad = tx at *
    clear ck
    go_enter Tryd.func3, Tryd.ntmps3
    go_wp2_with fail
    have BA : Hid ((w.alloc (.cells #[.int .i64 ar, .int .i64 ai, .int .i64 ad] 23)).heap[w.heap.size]? = some (.cells #[.int .i64 ar, .int .i64 ai, .int .i64 ad] 23)) := Lib.hid (blk_new w _)
    replace NN : Hid (Below w.heap.size w (w.alloc (.cells #[.int .i64 ar, .int .i64 ai, .int .i64 ad] 23))) := Lib.hid (Bal NN.out _)
    generalize (w.alloc (.cells #[.int .i64 ar, .int .i64 ai, .int .i64 ad] 23)) = W1 at *
    refine (alive_calls _ (GG.out.next NN.out)).mono ?_
    rintro e w2 ⟨rfl, hb⟩
    replace NN := Lib.hid (Bgo NN.out hb)
    replace BA := Lib.hid (blk_next hb BA.out)
    clear hb
    have c_BA_0 := blk_cell BA.out 0 _ rfl
    have f_BA_0 := blk_frozen BA.out 0
    have c_BA_1 := blk_cell BA.out 1 _ rfl
    have f_BA_1 := blk_frozen BA.out 1
    have c_BA_2 := blk_cell BA.out 2 _ rfl
    have f_BA_2 := blk_frozen BA.out 2
    have l_BA := blk_lt BA.out
    go_wp2_with fail
    refine (TC.out _ (GG.out.next NN.out)).mono ?_
    rintro e w3 ⟨rfl, hb⟩
    clear c_BA_0 f_BA_0 c_BA_1 f_BA_1 c_BA_2 f_BA_2 l_BA
    replace NN := Lib.hid (Bgo NN.out hb)
    replace BA := Lib.hid (blk_next hb BA.out)
    clear hb
    have c_BA_0 := blk_cell BA.out 0 _ rfl
    have f_BA_0 := blk_frozen BA.out 0
    have c_BA_1 := blk_cell BA.out 1 _ rfl
    have f_BA_1 := blk_frozen BA.out 1
    have c_BA_2 := blk_cell BA.out 2 _ rfl
    have f_BA_2 := blk_frozen BA.out 2
    have l_BA := blk_lt BA.out
    go_wp2_with fail
    refine (RT.out _).mono ?_
    rintro e w4 ⟨rfl, hb⟩
    clear c_BA_0 f_BA_0 c_BA_1 f_BA_1 c_BA_2 f_BA_2 l_BA
    replace NN := Lib.hid (Bgo NN.out hb)
    replace BA := Lib.hid (blk_next hb BA.out)
    clear hb
    by_cases big : 100 < s.size
    · have bg : decide ((100 : Int) < (s.size : Int)) = true := decide_eq_true (by omega)
      clear big
      go_wp2_with fail
      go_ret
      exact ⟨rfl, NN.out⟩
    have bg : decide ((100 : Int) < (s.size : Int)) = false := decide_eq_false (by omega)
    have RS1 := Lib.hid (RS.out (by omega))
    clear big RS
    go_wp2_with fail
    refine (PS.out _ (GG.out.next NN.out)).mono ?_
    rintro e w5 ⟨p1, p2, p3, p4, rfl, hr, hb⟩
    have PU := Lib.hid hr
    clear hr
    replace NN := Lib.hid (Bgo NN.out hb)
    replace BA := Lib.hid (blk_next hb BA.out)
    clear hb
    have HB : Hid (Below w5.heap.size w5 (w5.alloc (.cells #[.int .i64 p1, .int .i64 p2, .int .i64 p3] 23))) := Lib.hid (Bal (Below.refl _ _) _)
    have P := Lib.hid (blk_new w5 (.cells #[.int .i64 p1, .int .i64 p2, .int .i64 p3] 23))
    have LT_P : Hid (w.heap.size < w5.heap.size ∧ w.heap.size ≤ w5.heap.size) := Lib.hid ⟨blk_lt BA.out, NN.out.size⟩
    replace NN := Lib.hid (Bgo NN.out HB.out)
    replace BA := Lib.hid (blk_next HB.out BA.out)
    clear HB
    go_wp2_with fail
    generalize w5.alloc (.cells #[.int .i64 p1, .int .i64 p2, .int .i64 p3] 23) = W6 at *
    generalize w5.heap.size = g6 at *
    refine (RS1.out _).mono ?_
    rintro e w7 ⟨q1, q2, q3, q4, rfl, hr, hb⟩
    have QU := PU.out.unique hr
    simp only [Prod.mk.injEq] at QU
    obtain ⟨rfl, rfl, rfl, rfl⟩ := QU
    clear hr PU
    replace NN := Lib.hid (Bgo NN.out hb)
    replace BA := Lib.hid (blk_next hb BA.out)
    replace P := Lib.hid (blk_next hb P.out)
    clear hb
    have HB : Hid (Below w7.heap.size w7 (w7.alloc (.cells #[.int .i64 p1, .int .i64 p2, .int .i64 p3] 23))) := Lib.hid (Bal (Below.refl _ _) _)
    have Q := Lib.hid (blk_new w7 (.cells #[.int .i64 p1, .int .i64 p2, .int .i64 p3] 23))
    have LT_Q : Hid (w.heap.size < w7.heap.size ∧ g6 < w7.heap.size ∧ w.heap.size ≤ w7.heap.size) := Lib.hid ⟨blk_lt BA.out, blk_lt P.out, NN.out.size⟩
    replace NN := Lib.hid (Bgo NN.out HB.out)
    replace BA := Lib.hid (blk_next HB.out BA.out)
    replace P := Lib.hid (blk_next HB.out P.out)
    clear HB
    have c_P_0 := blk_cell P.out 0 _ rfl
    have c_P_1 := blk_cell P.out 1 _ rfl
    have c_P_2 := blk_cell P.out 2 _ rfl
    have l_P := blk_lt P.out
    have c_Q_0 := blk_cell Q.out 0 _ rfl
    have c_Q_1 := blk_cell Q.out 1 _ rfl
    have c_Q_2 := blk_cell Q.out 2 _ rfl
    have l_Q := blk_lt Q.out
    go_wp2_with fail
    go_ret
    exact ⟨rfl, NN.out⟩
  · have PT := Lib.hid (fun W (h : GL W) => parseX_calls ⟨(txR ar ai ad).toArray⟩ W h)
    have PV : Hid (PX (⟨(txR ar ai ad).toArray⟩ : ByteArray).data.toList (ar, ai, ad, 0)) := Lib.hid (PX.some (chkE_yes ck) (by simp))
    rw [chkE_yes ck] at TC RT
    generalize txR ar ai ad = tx at *
    clear ck
    go_enter Tryd.func3, Tryd.ntmps3
    go_wp2_with fail
    have BA : Hid ((w.alloc (.cells #[.int .i64 ar, .int .i64 ai, .int .i64 ad] 23)).heap[w.heap.size]? = some (.cells #[.int .i64 ar, .int .i64 ai, .int .i64 ad] 23)) := Lib.hid (blk_new w _)
    replace NN : Hid (Below w.heap.size w (w.alloc (.cells #[.int .i64 ar, .int .i64 ai, .int .i64 ad] 23))) := Lib.hid (Bal NN.out _)
    generalize (w.alloc (.cells #[.int .i64 ar, .int .i64 ai, .int .i64 ad] 23)) = W9 at *
    refine (alive_calls _ (GG.out.next NN.out)).mono ?_
    rintro e w10 ⟨rfl, hb⟩
    replace NN := Lib.hid (Bgo NN.out hb)
    replace BA := Lib.hid (blk_next hb BA.out)
    clear hb
    have c_BA_0 := blk_cell BA.out 0 _ rfl
    have f_BA_0 := blk_frozen BA.out 0
    have c_BA_1 := blk_cell BA.out 1 _ rfl
    have f_BA_1 := blk_frozen BA.out 1
    have c_BA_2 := blk_cell BA.out 2 _ rfl
    have f_BA_2 := blk_frozen BA.out 2
    have l_BA := blk_lt BA.out
    go_wp2_with fail
    refine (TC.out _ (GG.out.next NN.out)).mono ?_
    rintro e w11 ⟨rfl, hb⟩
    clear c_BA_0 f_BA_0 c_BA_1 f_BA_1 c_BA_2 f_BA_2 l_BA
    replace NN := Lib.hid (Bgo NN.out hb)
    replace BA := Lib.hid (blk_next hb BA.out)
    clear hb
    have c_BA_0 := blk_cell BA.out 0 _ rfl
    have f_BA_0 := blk_frozen BA.out 0
    have c_BA_1 := blk_cell BA.out 1 _ rfl
    have f_BA_1 := blk_frozen BA.out 1
    have c_BA_2 := blk_cell BA.out 2 _ rfl
    have f_BA_2 := blk_frozen BA.out 2
    have l_BA := blk_lt BA.out
    go_wp2_with fail
    refine (RT.out _).mono ?_
    rintro e w12 ⟨rfl, hb⟩
    clear c_BA_0 f_BA_0 c_BA_1 f_BA_1 c_BA_2 f_BA_2 l_BA
    replace NN := Lib.hid (Bgo NN.out hb)
    replace BA := Lib.hid (blk_next hb BA.out)
    clear hb
    go_wp2_with fail
    refine (PT.out _ (GG.out.next NN.out)).mono ?_
    rintro e w13 ⟨u1, u2, u3, u4, rfl, hr, hb⟩
    have QU := PV.out.unique hr
    simp only [Prod.mk.injEq] at QU
    obtain ⟨rfl, rfl, rfl, rfl⟩ := QU
    clear hr PV
    replace NN := Lib.hid (Bgo NN.out hb)
    replace BA := Lib.hid (blk_next hb BA.out)
    clear hb
    have HB : Hid (Below w13.heap.size w13 (w13.alloc (.cells #[.int .i64 ar, .int .i64 ai, .int .i64 ad] 23))) := Lib.hid (Bal (Below.refl _ _) _)
    have B := Lib.hid (blk_new w13 (.cells #[.int .i64 ar, .int .i64 ai, .int .i64 ad] 23))
    have LT_B : Hid (w.heap.size < w13.heap.size ∧ w.heap.size ≤ w13.heap.size) := Lib.hid ⟨blk_lt BA.out, NN.out.size⟩
    replace NN := Lib.hid (Bgo NN.out HB.out)
    replace BA := Lib.hid (blk_next HB.out BA.out)
    clear HB
    by_cases big : 100 < s.size
    · have bg : decide ((100 : Int) < (s.size : Int)) = true := decide_eq_true (by omega)
      clear big
      have c_BA_0 := blk_cell BA.out 0 _ rfl
      have c_BA_1 := blk_cell BA.out 1 _ rfl
      have c_BA_2 := blk_cell BA.out 2 _ rfl
      have l_BA := blk_lt BA.out
      have c_B_0 := blk_cell B.out 0 _ rfl
      have c_B_1 := blk_cell B.out 1 _ rfl
      have c_B_2 := blk_cell B.out 2 _ rfl
      have l_B := blk_lt B.out
      go_wp2_with fail
      go_ret
      exact ⟨rfl, NN.out⟩
    have bg : decide ((100 : Int) < (s.size : Int)) = false := decide_eq_false (by omega)
    have RS1 := Lib.hid (RS.out (by omega))
    clear big RS
    have c_BA_0 := blk_cell BA.out 0 _ rfl
    have c_BA_1 := blk_cell BA.out 1 _ rfl
    have c_BA_2 := blk_cell BA.out 2 _ rfl
    have l_BA := blk_lt BA.out
    have c_B_0 := blk_cell B.out 0 _ rfl
    have c_B_1 := blk_cell B.out 1 _ rfl
    have c_B_2 := blk_cell B.out 2 _ rfl
    have l_B := blk_lt B.out
    go_wp2_with fail
    clear c_BA_0 c_BA_1 c_BA_2 l_BA c_B_0 c_B_1 c_B_2 l_B
    refine (PS.out _ (GG.out.next NN.out)).mono ?_
    rintro e w15 ⟨p1, p2, p3, p4, rfl, hr, hb⟩
    have PU := Lib.hid hr
    clear hr
    replace NN := Lib.hid (Bgo NN.out hb)
    replace BA := Lib.hid (blk_next hb BA.out)
    replace B := Lib.hid (blk_next hb B.out)
    clear hb
    have HB : Hid (Below w15.heap.size w15 (w15.alloc (.cells #[.int .i64 p1, .int .i64 p2, .int .i64 p3] 23))) := Lib.hid (Bal (Below.refl _ _) _)
    have P := Lib.hid (blk_new w15 (.cells #[.int .i64 p1, .int .i64 p2, .int .i64 p3] 23))
    have LT_P : Hid (w.heap.size < w15.heap.size ∧ w13.heap.size < w15.heap.size ∧ w.heap.size ≤ w15.heap.size) := Lib.hid ⟨blk_lt BA.out, blk_lt B.out, NN.out.size⟩
    replace NN := Lib.hid (Bgo NN.out HB.out)
    replace BA := Lib.hid (blk_next HB.out BA.out)
    replace B := Lib.hid (blk_next HB.out B.out)
    clear HB
    go_wp2_with fail
    generalize w15.alloc (.cells #[.int .i64 p1, .int .i64 p2, .int .i64 p3] 23) = W16 at *
    generalize w15.heap.size = g16 at *
    refine (RS1.out _).mono ?_
    rintro e w17 ⟨q1, q2, q3, q4, rfl, hr, hb⟩
    have QU := PU.out.unique hr
    simp only [Prod.mk.injEq] at QU
    obtain ⟨rfl, rfl, rfl, rfl⟩ := QU
    clear hr PU
    replace NN := Lib.hid (Bgo NN.out hb)
    replace BA := Lib.hid (blk_next hb BA.out)
    replace B := Lib.hid (blk_next hb B.out)
    replace P := Lib.hid (blk_next hb P.out)
    clear hb
    have HB : Hid (Below w17.heap.size w17 (w17.alloc (.cells #[.int .i64 p1, .int .i64 p2, .int .i64 p3] 23))) := Lib.hid (Bal (Below.refl _ _) _)
    have Q := Lib.hid (blk_new w17 (.cells #[.int .i64 p1, .int .i64 p2, .int .i64 p3] 23))
    have LT_Q : Hid (w.heap.size < w17.heap.size ∧ w13.heap.size < w17.heap.size ∧ g16 < w17.heap.size ∧ w.heap.size ≤ w17.heap.size) := Lib.hid ⟨blk_lt BA.out, blk_lt B.out, blk_lt P.out, NN.out.size⟩
    replace NN := Lib.hid (Bgo NN.out HB.out)
    replace BA := Lib.hid (blk_next HB.out BA.out)
    replace B := Lib.hid (blk_next HB.out B.out)
    replace P := Lib.hid (blk_next HB.out P.out)
    clear HB
    have c_P_0 := blk_cell P.out 0 _ rfl
    have c_P_1 := blk_cell P.out 1 _ rfl
    have c_P_2 := blk_cell P.out 2 _ rfl
    have l_P := blk_lt P.out
    have c_Q_0 := blk_cell Q.out 0 _ rfl
    have c_Q_1 := blk_cell Q.out 1 _ rfl
    have c_Q_2 := blk_cell Q.out 2 _ rfl
    have l_Q := blk_lt Q.out
    go_wp2_with fail
    go_ret
    exact ⟨rfl, NN.out⟩

abbrev synS : ByteArray := { data := #[105, 110, 118, 97, 108, 105, 100, 32, 115, 121, 110, 116, 97, 120] }
abbrev rngS : ByteArray := { data := #[118, 97, 108, 117, 101, 32, 111, 117, 116, 32, 111, 102, 32, 114, 97, 110, 103, 101] }
noncomputable def low : Nat := (World.holding Tryd.prog default ⟨#[], #[], []⟩).heap.size
def vals : DataW Unit → Array Value
  | .agg l => (l.map fun d => match d with | .lit (.int k z) => Value.int k z | _ => undef).toArray
  | _ => #[]
def put (vs : Array Value) : Obj → Obj
  | .cells _ t frozen => .cells vs t frozen
  | o => o
noncomputable def laidWorld (os : Os) : World :=
  let w0 := World.holding Tryd.prog os ⟨#[.cells #[.string rngS] 108, .cells #[.string synS] 108], #[], []⟩
  { w0 with heap := ((((w0.heap.modify 4 (put (vals Rows.laid_math_bits_deBruijn32tab))).modify 5 (put (vals Rows.laid_math_bits_deBruijn64tab))).modify 0 (put (vals Rows.laid_internal_strconv_uint64pow10))).modify 3 (put #[.iface 106 (.pointer (some ⟨low, 0, none⟩))])).modify 2 (put #[.iface 106 (.pointer (some ⟨low + 1, 0, none⟩))]) }
theorem laid_met (os : Os) (args : Array Value) : laidMet Tryd.prog Rows.cxTextsRow.laid ((laidWorld os).forCall (fun _ _ => 0) ⟨#[], args, []⟩).memory :=
  laidMet_of_run' 8 (by kernel_rfl) (by kernel_rfl)

set_option maxRecDepth 100000 in
set_option maxHeartbeats 4000000 in
theorem lifted (os : Os) (started : os.Started) (H : Type) (enc : TypeId × Value → H) (F0 : Stop.Interp) :
    ReturnsInHanded {} Tryd.checked os 3 .any ((OpenSpec.ofChange Rows.cxTextsSpec).preRow enc Tryd.prog Tryd.f3 Rows.cxTextsRow.domain false Rows.cxTextsRow.laid) (((OpenSpec.ofChange Rows.cxTextsSpec).at F0).post enc Tryd.prog Tryd.f3 false true false false) := by
  refine returnsInHanded_of_row (C := Tryd.checked) (s := OpenSpec.ofChange Rows.cxTextsSpec) own started (by kernel_rfl) Tryd.func3
    (witness_row_at (enc := enc) (C := Tryd.checked) false (laidWorld os) #[.agg #[.int .i64 0, .int .i64 0, .int .i64 0], .string ⟨#[]⟩] rfl (by kernel_rfl) (by kernel_rfl) (by kernel_rfl) (OpenSpec.preRow_of_B rfl 8 (by kernel_rfl) (by kernel_rfl) (laid_met os _))) ?_
  intro W base args ds gs before hval0 hW hcnd _ hsz0 hL hsh _
  have GLW := gl_of hL hsh
  clear hL hsh hsz0 hcnd
  have hval : ∀ (j : Nat) t v, Tryd.f3.params[j]? = some t → args[j]? = some v → Value.okWide Tryd.prog W .any base t v := hval0
  have hW' := hW
  obtain ⟨p, q, hA0, hV, rfl, hfz, hnd⟩ := hW
  have hA : DataW.TrodAll enc Tryd.prog W 0 (fun _ => true) true Tryd.f3.params.toList args.toList ds p := hA0
  rw [Tryd.params3] at hA hval
  obtain ⟨v0, vs0, d0, ds0, p0, q0, hargs, rfl, rfl, h0, r0⟩ := trodAll_cons hA
  obtain ⟨v1, vs1, d1, ds1, p1, q1, rfl, rfl, rfl, h1, r1⟩ := trodAll_cons r0
  obtain ⟨rfl, rfl, rfl⟩ := trodAll_nil r1
  obtain rfl : args = #[v0, v1] := by cases args; simp_all
  obtain ⟨rfl, rfl⟩ := trodVars_none hV
  have k0 := h0
  have lt0 : ∀ x ∈ p0, x.block < W.heap.size := by obtain ⟨m, hm⟩ := k0; exact DataW.trod_lt m _ _ _ hm
  obtain ⟨c0_0, c1_0, c2_0, y0_0, y1_0, y2_0, m0, rfl, _, _, t0_0, t1_0, t2_0⟩ := open_agg3 Tryd.underlying23 (by kernel_rfl) (show Tryd.prog.cellsOf 23 = 3 by kernel_rfl) (hval 0 23 v0 rfl rfl) h0
  obtain ⟨ar, e0_0, _, war⟩ := DataW.trod_int Tryd.underlying2 t0_0
  simp only [List.cons.injEq, and_true] at e0_0
  subst e0_0
  obtain ⟨ai, e1_0, _, wai⟩ := DataW.trod_int Tryd.underlying2 t1_0
  simp only [List.cons.injEq, and_true] at e1_0
  subst e1_0
  obtain ⟨ad, e2_0, _, wad⟩ := DataW.trod_int Tryd.underlying2 t2_0
  simp only [List.cons.injEq, and_true] at e2_0
  subst e2_0
  have k1 := h1
  have lt1 : ∀ x ∈ p1, x.block < W.heap.size := by obtain ⟨m, hm⟩ := k1; exact DataW.trod_lt m _ _ _ hm
  obtain ⟨str, rfl, _, _, hstr⟩ := open_string Tryd.underlying9 (hval 1 9 v1 rfl rfl) h1
  have hstrm : str.size ≤ 9223372036854775807 := by simpa [maxLen] using hstr
  clear hA0 hval0
  refine (walk ar ai ad str W GLW hstrm).mono fun e W' ⟨he, bel⟩ => ?_
  subst he
  exact ⟨_, rfl, _, _, _, [], _, [], hW', trodAll_mk1 (shut_bool Tryd.underlying4 _), (trodAll_cons_mk (Below.trod laidOut (by kernel_rfl) (of_decide_eq_true (by kernel_rfl)) k0 bel lt0) (trodAll_cons_mk (Below.trod laidOut (by kernel_rfl) (of_decide_eq_true (by kernel_rfl)) k1 bel lt1) trodAll_mk0)), rfl, bel.frame _, fun h => by cases h⟩

theorem over : Rows.CxTextsSaid :=
  OpenClaim.holds_of_cond 3 Tryd.f3 rfl rfl rfl rfl rfl rfl rfl ⟨rfl, rfl, rfl, rfl, rfl⟩ rfl rfl rfl rfl rfl (by kernel_rfl) Tryd.func3 (by kernel_rfl)
    (of_decide_eq_true (by kernel_rfl)) (by unfold Func.isWrapper; first | (rw [if_pos (by decide +kernel)]; kernel_rfl) | (rw [if_neg (by decide +kernel)]; exact ⟨rfl, rfl⟩))
    (fun os started H enc _ F0 => by rw [OpenClaim.pre_eq_preRow]; exact lifted os started H enc F0)

theorem proved : Rows.CxTextsCardSaid :=
  Claim7.holds_tied_plain_at .later [] [.data, .data, .data, .sentinel, .sentinel] true (true, "79a2c85c093c7f4bbd60387b9b96cb032bdfb92f3488d33d2cf8f7a3fa8fd4c2") true
    over (fun _ h => by cases h) (by kernel_rfl) (fun _ h => by cases h) cxTexts_row_tie rfl ⟨rfl, rfl⟩ (by kernel_rfl) rfl
    (fun f fn hf hfn => by
      obtain rfl : f = 3 := Option.some.inj ((show Tryd.prog.funcNamed "fringe/fringelaw25.CxTexts" = some 3 by kernel_rfl).symm.trans hf) |>.symm
      obtain rfl : fn = Tryd.f3 := (Option.some.inj (Tryd.func3.symm.trans hfn)).symm
      exact ⟨by kernel_rfl, fun j t ht => by
        rw [Tryd.params3] at ht
        have hj : j < 2 := by
          have := (Array.getElem?_eq_some_iff.1 ht).1
          simpa using this
        obtain rfl | rfl : j = 0 ∨ j = 1 := by omega
        · have h3 : t = 23 := by simpa using ht.symm
          subst h3
          exact (show Tryd.prog.wantsStandIn 23 = false by kernel_rfl)
        · have h3 : t = 9 := by simpa using ht.symm
          subst h3
          exact (show Tryd.prog.wantsStandIn 9 = false by kernel_rfl)⟩)
    (by kernel_rfl)
#print axioms proved
end Go.Proofs.YtbbjclbpllfdeaaDoor.cxTexts
