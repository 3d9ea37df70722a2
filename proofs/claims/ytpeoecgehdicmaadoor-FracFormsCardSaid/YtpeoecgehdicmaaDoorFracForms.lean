/- For every input the law FracForms returns true and leaves its arguments as they were; the library's variables as the program's text lays them. -/
import Derived.Test.YtpeoecgehdicmaaDoorRows
import Derived.Test.YtpeoecgehdicmaaDoorCards
import Derived.Test.YtpeoecgehdicmaaDoorTie
import Derived.Test.YtpeoecgehdicmaaDoorFtg
import Derived.Test.YtpeoecgehdicmaaDoorFtm
import Derived.Test.YtpeoecgehdicmaaDoorFtn
import Derived.WalkKit
import Derived.ProofKit
import Derived.OpenShut
import Derived.ShutString
import Derived.ChangeOld
import Derived.Below
import Derived.Lib.SmallJoins
import Derived.Deep.DeepHandedRow
import Derived.LaidLaws
import Derived.SevenTiedAt
namespace Go.Proofs.YtpeoecgehdicmaaDoor.fracForms
open Go.ChangeShapes Go.WideShapes Go.ChangeAt Go.RowKit Go.Joins
open Go.ChangeMaps (open_string shut_string)
set_option linter.unusedVariables false

theorem own : ownKnob Tryd.prog.godebug = none := by kernel_rfl
theorem laidOut : laidOutB Tryd.prog = true := by kernel_rfl
set_option maxRecDepth 100000 in
set_option maxHeartbeats 8000000 in
theorem walk (an ad : Int) (A : Option Addr) (c : Nat) (L : List Int) (s : ByteArray) (w : World) (g : GL w) (hL : ∀ x ∈ L, -9223372036854775808 ≤ x ∧ x ≤ 9223372036854775807) (h1 : L.length ≤ c) (h2 : c ≤ 9223372036854775807) (ha : Rd w 1 A L.length (lv L)) (h3 : s.size ≤ 9223372036854775807) :
    Calls Tryd.prog 3 #[Fv an ad, .slice A L.length c, .string s] w fun e w' => e = .returned (.bool true) ∧ Below w.heap.size w w' := by
  have GG := Lib.hid g
  have HL := Lib.hid hL
  have HA := Lib.hid ha
  have NN := Lib.hid (Below.refl w.heap.size w)
  clear g hL ha
  by_cases big : 120 < L.length
  · have bg : decide ((120 : Int) < ((L.length : Nat) : Int)) = true := decide_eq_true (by omega)
    clear big
    go_enter Tryd.func3, Tryd.ntmps3
    have HB : Hid (Below w.heap.size w (w.alloc (.cells #[.int .i64 an, .int .i64 ad] 23))) := Lib.hid (Bal (Below.refl _ _) _)
    have BA := Lib.hid (blk_new w (.cells #[.int .i64 an, .int .i64 ad] 23))
    have LT_BA : Hid (w.heap.size ≤ w.heap.size) := Lib.hid NN.out.size
    replace NN := Lib.hid (Bgo NN.out HB.out)
    replace GG := Lib.hid (GG.out.next HB.out)
    replace HA := Lib.hid (HA.out.next HB.out)
    clear HB
    go_wp2_with fail
    go_ret
    exact ⟨rfl, NN.out⟩
  have bg : decide ((120 : Int) < ((L.length : Nat) : Int)) = false := decide_eq_false (by omega)
  by_cases bs : 200 < s.size
  · have bh : decide ((200 : Int) < (s.size : Int)) = true := decide_eq_true (by omega)
    clear bs
    go_enter Tryd.func3, Tryd.ntmps3
    have HB : Hid (Below w.heap.size w (w.alloc (.cells #[.int .i64 an, .int .i64 ad] 23))) := Lib.hid (Bal (Below.refl _ _) _)
    have BA := Lib.hid (blk_new w (.cells #[.int .i64 an, .int .i64 ad] 23))
    have LT_BA : Hid (w.heap.size ≤ w.heap.size) := Lib.hid NN.out.size
    replace NN := Lib.hid (Bgo NN.out HB.out)
    replace GG := Lib.hid (GG.out.next HB.out)
    replace HA := Lib.hid (HA.out.next HB.out)
    clear HB
    go_wp2_with fail
    go_ret
    exact ⟨rfl, NN.out⟩
  have bh : decide ((200 : Int) < (s.size : Int)) = false := decide_eq_false (by omega)
  have ss : s.size ≤ 200 := by omega
  clear big bs
  obtain ⟨⟨r1, r2, r3⟩, hr⟩ : ∃ r, foldR L = r := ⟨_, rfl⟩
  have FO := Lib.hid (fun W h => fold_calls A c L W HL.out h1 h2 h)
  have RF := Lib.hid (fun W h => refFold_calls A c L W HL.out h1 h2 h)
  rw [hr] at FO RF
  clear hr
  have TC := Lib.hid (fun W (h : GL W) => text_calls an ad W h)
  have RT := Lib.hid (fun W => refText_calls an ad W)
  have EX := Lib.hid (fun W => expand_calls an ad W)
  have RE := Lib.hid (fun W => refExpand_calls an ad W)
  have PC := Lib.hid (fun W (h : GL W) => parseP_calls s W h)
  have RP := Lib.hid (fun W => refParse_calls s W ss)
  generalize txR an ad = tx at *
  generalize errF an ad = er at *
  generalize exR an ad = M at *
  go_enter Tryd.func3, Tryd.ntmps3
  have HB : Hid (Below w.heap.size w (w.alloc (.cells #[.int .i64 an, .int .i64 ad] 23))) := Lib.hid (Bal (Below.refl _ _) _)
  have BA := Lib.hid (blk_new w (.cells #[.int .i64 an, .int .i64 ad] 23))
  have LT_BA : Hid (w.heap.size ≤ w.heap.size) := Lib.hid NN.out.size
  replace NN := Lib.hid (Bgo NN.out HB.out)
  replace GG := Lib.hid (GG.out.next HB.out)
  replace HA := Lib.hid (HA.out.next HB.out)
  clear HB
  go_wp2_with fail
  generalize w.alloc (.cells #[.int .i64 an, .int .i64 ad] 23) = W1 at *
  refine (EX.out _).mono ?_
  rintro e w4 ⟨v, rfl, ho, hb⟩
  obtain ⟨A1, k1, rfl, k1a, k1b, hr⟩ := Rd.of_own ho
  have R1 := Lib.hid hr
  clear hr ho
  replace NN := Lib.hid (Bgo NN.out hb)
  replace GG := Lib.hid (GG.out.next hb)
  replace HA := Lib.hid (HA.out.next hb)
  replace BA := Lib.hid (blk_next hb BA.out)
  clear hb
  have c_BA_0 := blk_cell BA.out 0 _ rfl
  have f_BA_0 := blk_frozen BA.out 0
  have c_BA_1 := blk_cell BA.out 1 _ rfl
  have f_BA_1 := blk_frozen BA.out 1
  have l_BA := blk_lt BA.out
  go_wp2_with fail
  refine (RE.out _).mono ?_
  rintro e w5 ⟨v, rfl, ho, hb⟩
  obtain ⟨A2, k2, rfl, k2a, k2b, hr⟩ := Rd.of_own ho
  have R2 := Lib.hid hr
  clear hr ho
  clear c_BA_0 f_BA_0 c_BA_1 f_BA_1 l_BA
  replace NN := Lib.hid (Bgo NN.out hb)
  replace GG := Lib.hid (GG.out.next hb)
  replace HA := Lib.hid (HA.out.next hb)
  replace R1 := Lib.hid (R1.out.next hb)
  replace BA := Lib.hid (blk_next hb BA.out)
  clear hb
  have c_BA_0 := blk_cell BA.out 0 _ rfl
  have f_BA_0 := blk_frozen BA.out 0
  have c_BA_1 := blk_cell BA.out 1 _ rfl
  have f_BA_1 := blk_frozen BA.out 1
  have l_BA := blk_lt BA.out
  go_wp2_with fail
  refine (FO.out _ HA.out).mono ?_
  rintro e w6 ⟨rfl, hb⟩
  clear c_BA_0 f_BA_0 c_BA_1 f_BA_1 l_BA
  replace NN := Lib.hid (Bgo NN.out hb)
  replace GG := Lib.hid (GG.out.next hb)
  replace HA := Lib.hid (HA.out.next hb)
  replace R1 := Lib.hid (R1.out.next hb)
  replace R2 := Lib.hid (R2.out.next hb)
  replace BA := Lib.hid (blk_next hb BA.out)
  clear hb
  have HB : Hid (Below w6.heap.size w6 (w6.alloc (.cells #[.int .i64 r1, .int .i64 r2] 23))) := Lib.hid (Bal (Below.refl _ _) _)
  have Bd := Lib.hid (blk_new w6 (.cells #[.int .i64 r1, .int .i64 r2] 23))
  have LT_Bd : Hid (w.heap.size < w6.heap.size ∧ w.heap.size ≤ w6.heap.size) := Lib.hid ⟨blk_lt BA.out, NN.out.size⟩
  replace NN := Lib.hid (Bgo NN.out HB.out)
  replace GG := Lib.hid (GG.out.next HB.out)
  replace HA := Lib.hid (HA.out.next HB.out)
  replace R1 := Lib.hid (R1.out.next HB.out)
  replace R2 := Lib.hid (R2.out.next HB.out)
  replace BA := Lib.hid (blk_next HB.out BA.out)
  clear HB
  go_wp2_with fail
  generalize w6.alloc (.cells #[.int .i64 r1, .int .i64 r2] 23) = W7 at *
  generalize w6.heap.size = g7 at *
  refine (RF.out _ HA.out).mono ?_
  rintro e w8 ⟨rfl, hb⟩
  replace NN := Lib.hid (Bgo NN.out hb)
  replace GG := Lib.hid (GG.out.next hb)
  replace HA := Lib.hid (HA.out.next hb)
  replace R1 := Lib.hid (R1.out.next hb)
  replace R2 := Lib.hid (R2.out.next hb)
  replace BA := Lib.hid (blk_next hb BA.out)
  replace Bd := Lib.hid (blk_next hb Bd.out)
  clear hb
  have HB : Hid (Below w8.heap.size w8 (w8.alloc (.cells #[.int .i64 r1, .int .i64 r2] 23))) := Lib.hid (Bal (Below.refl _ _) _)
  have Bh := Lib.hid (blk_new w8 (.cells #[.int .i64 r1, .int .i64 r2] 23))
  have LT_Bh : Hid (w.heap.size < w8.heap.size ∧ g7 < w8.heap.size ∧ w.heap.size ≤ w8.heap.size) := Lib.hid ⟨blk_lt BA.out, blk_lt Bd.out, NN.out.size⟩
  replace NN := Lib.hid (Bgo NN.out HB.out)
  replace GG := Lib.hid (GG.out.next HB.out)
  replace HA := Lib.hid (HA.out.next HB.out)
  replace R1 := Lib.hid (R1.out.next HB.out)
  replace R2 := Lib.hid (R2.out.next HB.out)
  replace BA := Lib.hid (blk_next HB.out BA.out)
  replace Bd := Lib.hid (blk_next HB.out Bd.out)
  clear HB
  have c_BA_0 := blk_cell BA.out 0 _ rfl
  have f_BA_0 := blk_frozen BA.out 0
  have c_BA_1 := blk_cell BA.out 1 _ rfl
  have f_BA_1 := blk_frozen BA.out 1
  have l_BA := blk_lt BA.out
  go_wp2_with fail
  clear c_BA_0 f_BA_0 c_BA_1 f_BA_1 l_BA
  generalize w8.alloc (.cells #[.int .i64 r1, .int .i64 r2] 23) = W9 at *
  generalize w8.heap.size = g9 at *
  refine (TC.out _ GG.out).mono ?_
  rintro e w10 ⟨rfl, hb⟩
  replace NN := Lib.hid (Bgo NN.out hb)
  replace GG := Lib.hid (GG.out.next hb)
  replace HA := Lib.hid (HA.out.next hb)
  replace R1 := Lib.hid (R1.out.next hb)
  replace R2 := Lib.hid (R2.out.next hb)
  replace BA := Lib.hid (blk_next hb BA.out)
  replace Bd := Lib.hid (blk_next hb Bd.out)
  replace Bh := Lib.hid (blk_next hb Bh.out)
  clear hb
  have c_BA_0 := blk_cell BA.out 0 _ rfl
  have f_BA_0 := blk_frozen BA.out 0
  have c_BA_1 := blk_cell BA.out 1 _ rfl
  have f_BA_1 := blk_frozen BA.out 1
  have l_BA := blk_lt BA.out
  go_wp2_with fail
  refine (RT.out _).mono ?_
  rintro e w11 ⟨rfl, hb⟩
  clear c_BA_0 f_BA_0 c_BA_1 f_BA_1 l_BA
  replace NN := Lib.hid (Bgo NN.out hb)
  replace GG := Lib.hid (GG.out.next hb)
  replace HA := Lib.hid (HA.out.next hb)
  replace R1 := Lib.hid (R1.out.next hb)
  replace R2 := Lib.hid (R2.out.next hb)
  replace BA := Lib.hid (blk_next hb BA.out)
  replace Bd := Lib.hid (blk_next hb Bd.out)
  replace Bh := Lib.hid (blk_next hb Bh.out)
  clear hb
  go_wp2_with fail
  refine (PC.out _ GG.out).mono ?_
  rintro e w12 ⟨r, rfl, hr, hb⟩
  obtain ⟨x1, x2, x3⟩ := r
  have PU := Lib.hid hr
  clear hr
  replace NN := Lib.hid (Bgo NN.out hb)
  replace GG := Lib.hid (GG.out.next hb)
  replace HA := Lib.hid (HA.out.next hb)
  replace R1 := Lib.hid (R1.out.next hb)
  replace R2 := Lib.hid (R2.out.next hb)
  replace BA := Lib.hid (blk_next hb BA.out)
  replace Bd := Lib.hid (blk_next hb Bd.out)
  replace Bh := Lib.hid (blk_next hb Bh.out)
  clear hb
  have HB : Hid (Below w12.heap.size w12 (w12.alloc (.cells #[.int .i64 x1, .int .i64 x2] 23))) := Lib.hid (Bal (Below.refl _ _) _)
  have Bm := Lib.hid (blk_new w12 (.cells #[.int .i64 x1, .int .i64 x2] 23))
  have LT_Bm : Hid (w.heap.size < w12.heap.size ∧ g7 < w12.heap.size ∧ g9 < w12.heap.size ∧ w.heap.size ≤ w12.heap.size) := Lib.hid ⟨blk_lt BA.out, blk_lt Bd.out, blk_lt Bh.out, NN.out.size⟩
  replace NN := Lib.hid (Bgo NN.out HB.out)
  replace GG := Lib.hid (GG.out.next HB.out)
  replace HA := Lib.hid (HA.out.next HB.out)
  replace R1 := Lib.hid (R1.out.next HB.out)
  replace R2 := Lib.hid (R2.out.next HB.out)
  replace BA := Lib.hid (blk_next HB.out BA.out)
  replace Bd := Lib.hid (blk_next HB.out Bd.out)
  replace Bh := Lib.hid (blk_next HB.out Bh.out)
  clear HB
  go_wp2_with fail
  generalize w12.alloc (.cells #[.int .i64 x1, .int .i64 x2] 23) = W13 at *
  generalize w12.heap.size = g13 at *
  refine (RP.out _).mono ?_
  rintro e w14 ⟨r, rfl, hr, hb⟩
  obtain rfl := PU.out.unique hr
  clear hr PU
  replace NN := Lib.hid (Bgo NN.out hb)
  replace GG := Lib.hid (GG.out.next hb)
  replace HA := Lib.hid (HA.out.next hb)
  replace R1 := Lib.hid (R1.out.next hb)
  replace R2 := Lib.hid (R2.out.next hb)
  replace BA := Lib.hid (blk_next hb BA.out)
  replace Bd := Lib.hid (blk_next hb Bd.out)
  replace Bh := Lib.hid (blk_next hb Bh.out)
  replace Bm := Lib.hid (blk_next hb Bm.out)
  clear hb
  have HB : Hid (Below w14.heap.size w14 (w14.alloc (.cells #[.int .i64 x1, .int .i64 x2] 23))) := Lib.hid (Bal (Below.refl _ _) _)
  have Bo := Lib.hid (blk_new w14 (.cells #[.int .i64 x1, .int .i64 x2] 23))
  have LT_Bo : Hid (w.heap.size < w14.heap.size ∧ g7 < w14.heap.size ∧ g9 < w14.heap.size ∧ g13 < w14.heap.size ∧ w.heap.size ≤ w14.heap.size) := Lib.hid ⟨blk_lt BA.out, blk_lt Bd.out, blk_lt Bh.out, blk_lt Bm.out, NN.out.size⟩
  replace NN := Lib.hid (Bgo NN.out HB.out)
  replace GG := Lib.hid (GG.out.next HB.out)
  replace HA := Lib.hid (HA.out.next HB.out)
  replace R1 := Lib.hid (R1.out.next HB.out)
  replace R2 := Lib.hid (R2.out.next HB.out)
  replace BA := Lib.hid (blk_next HB.out BA.out)
  replace Bd := Lib.hid (blk_next HB.out Bd.out)
  replace Bh := Lib.hid (blk_next HB.out Bh.out)
  replace Bm := Lib.hid (blk_next HB.out Bm.out)
  clear HB
  go_wp2_with fail
  generalize w14.alloc (.cells #[.int .i64 x1, .int .i64 x2] 23) = W15 at *
  generalize w14.heap.size = g15 at *
  have SM := Lib.hid (sameC (n := M.length) (l := M) rfl W15 k1a k1b k2a k2b R1.out R2.out)
  with_reducible refine SM.out.mono ?_
  rintro e wz ⟨rfl, hb⟩
  replace NN := Lib.hid (Bgo NN.out hb)
  replace GG := Lib.hid (GG.out.next hb)
  replace HA := Lib.hid (HA.out.next hb)
  replace R1 := Lib.hid (R1.out.next hb)
  replace R2 := Lib.hid (R2.out.next hb)
  replace BA := Lib.hid (blk_next hb BA.out)
  replace Bd := Lib.hid (blk_next hb Bd.out)
  replace Bh := Lib.hid (blk_next hb Bh.out)
  replace Bm := Lib.hid (blk_next hb Bm.out)
  replace Bo := Lib.hid (blk_next hb Bo.out)
  clear hb SM
  have c_Bd_0 := blk_cell Bd.out 0 _ rfl
  have f_Bd_0 := blk_frozen Bd.out 0
  have c_Bd_1 := blk_cell Bd.out 1 _ rfl
  have f_Bd_1 := blk_frozen Bd.out 1
  have l_Bd := blk_lt Bd.out
  have c_Bh_0 := blk_cell Bh.out 0 _ rfl
  have f_Bh_0 := blk_frozen Bh.out 0
  have c_Bh_1 := blk_cell Bh.out 1 _ rfl
  have f_Bh_1 := blk_frozen Bh.out 1
  have l_Bh := blk_lt Bh.out
  have c_Bm_0 := blk_cell Bm.out 0 _ rfl
  have f_Bm_0 := blk_frozen Bm.out 0
  have c_Bm_1 := blk_cell Bm.out 1 _ rfl
  have f_Bm_1 := blk_frozen Bm.out 1
  have l_Bm := blk_lt Bm.out
  have c_Bo_0 := blk_cell Bo.out 0 _ rfl
  have f_Bo_0 := blk_frozen Bo.out 0
  have c_Bo_1 := blk_cell Bo.out 1 _ rfl
  have f_Bo_1 := blk_frozen Bo.out 1
  have l_Bo := blk_lt Bo.out
  go_wp2_with fail
  clear c_Bd_0 f_Bd_0 c_Bd_1 f_Bd_1 l_Bd c_Bh_0 f_Bh_0 c_Bh_1 f_Bh_1 l_Bh c_Bm_0 f_Bm_0 c_Bm_1 f_Bm_1 l_Bm c_Bo_0 f_Bo_0 c_Bo_1 f_Bo_1 l_Bo
  go_ret
  exact ⟨rfl, NN.out⟩
  
abbrev synS : ByteArray := { data := #[105, 110, 118, 97, 108, 105, 100, 32, 115, 121, 110, 116, 97, 120] }
abbrev rngS : ByteArray := { data := #[118, 97, 108, 117, 101, 32, 111, 117, 116, 32, 111, 102, 32, 114, 97, 110, 103, 101] }
noncomputable def low : Nat := (World.holding Tryd.prog default ⟨#[], #[], []⟩).heap.size
def vals : DataW Unit → Array Value
  | .agg l => (l.map fun d => match d with | .lit (.int k z) => Value.int k z | _ => undef).toArray
  | _ => #[]
def put (vs : Array Value) : Obj → Obj
  | .cells _ t frozen => .cells vs t frozen
  | o => o
noncomputable def laidWorld (os : Os) : World :=
  let w0 := World.holding Tryd.prog os ⟨#[.cells #[.string rngS] 125, .cells #[.string synS] 125], #[], []⟩
  { w0 with heap := ((((w0.heap.modify 6 (put (vals Rows.laid_math_bits_deBruijn32tab))).modify 7 (put (vals Rows.laid_math_bits_deBruijn64tab))).modify 2 (put (vals Rows.laid_internal_strconv_uint64pow10))).modify 5 (put #[.iface 123 (.pointer (some ⟨low, 0, none⟩))])).modify 4 (put #[.iface 123 (.pointer (some ⟨low + 1, 0, none⟩))]) }
theorem laid_met (os : Os) (args : Array Value) : laidMet Tryd.prog Rows.fracFormsRow.laid ((laidWorld os).forCall (fun _ _ => 0) ⟨#[], args, []⟩).memory :=
  laidMet_of_run' 8 (by kernel_rfl) (by kernel_rfl)

set_option maxRecDepth 100000 in
set_option maxHeartbeats 4000000 in
theorem lifted (os : Os) (started : os.Started) (H : Type) (enc : TypeId × Value → H) (F0 : Stop.Interp) :
    ReturnsInHanded {} Tryd.checked os 3 .any ((OpenSpec.ofChange Rows.fracFormsSpec).preRow enc Tryd.prog Tryd.f3 Rows.fracFormsRow.domain false Rows.fracFormsRow.laid) (((OpenSpec.ofChange Rows.fracFormsSpec).at F0).post enc Tryd.prog Tryd.f3 false true false false) := by
  refine returnsInHanded_of_row (C := Tryd.checked) (s := OpenSpec.ofChange Rows.fracFormsSpec) own started (by kernel_rfl) Tryd.func3
    (witness_row_at (enc := enc) (C := Tryd.checked) false (laidWorld os) #[.agg #[.int .i64 0, .int .i64 0], .slice none 0 0, .string ⟨#[]⟩] rfl (by kernel_rfl) (by kernel_rfl) (by kernel_rfl) (OpenSpec.preRow_of_B rfl 8 (by kernel_rfl) (by kernel_rfl) (laid_met os _))) ?_
  intro W base args ds gs before hval0 hW hcnd _ hsz0 hL hsh _
  have GLW := gl_of hL hsh
  clear hL hsh hsz0 hcnd
  have hval : ∀ (j : Nat) t v, Tryd.f3.params[j]? = some t → args[j]? = some v → Value.okWide Tryd.prog W .any base t v := hval0
  have hW' := hW
  obtain ⟨p, q, hA0, hV, rfl, hfz, hnd⟩ := hW
  have hA : DataW.TrodAll enc Tryd.prog W 0 (fun _ => true) true Tryd.f3.params.toList args.toList ds p := hA0
  rw [Tryd.params3] at hA hval
  obtain ⟨v0, vs0, d0, ds0, p0, q0, hargs, rfl, rfl, h0, r0⟩ := trodAll_cons hA
  obtain ⟨v1, vs1, d1, ds1, p1, q1, rfl, rfl, rfl, h1, r1⟩ := trodAll_cons r0
  obtain ⟨v2, vs2, d2, ds2, p2, q2, rfl, rfl, rfl, h2, r2⟩ := trodAll_cons r1
  obtain ⟨rfl, rfl, rfl⟩ := trodAll_nil r2
  obtain rfl : args = #[v0, v1, v2] := by cases args; simp_all
  obtain ⟨rfl, rfl⟩ := trodVars_none hV
  have k0 := h0
  have lt0 : ∀ x ∈ p0, x.block < W.heap.size := by obtain ⟨m, hm⟩ := k0; exact DataW.trod_lt m _ _ _ hm
  obtain ⟨c0_0, c1_0, y0_0, y1_0, m0, rfl, _, _, t0_0, t1_0⟩ := open_agg2 Tryd.underlying23 (by kernel_rfl) (show Tryd.prog.cellsOf 23 = 2 by kernel_rfl) (hval 0 23 v0 rfl rfl) h0
  obtain ⟨an, e0_0, _, wan⟩ := DataW.trod_int Tryd.underlying2 t0_0
  simp only [List.cons.injEq, and_true] at e0_0
  subst e0_0
  obtain ⟨ad, e1_0, _, wad⟩ := DataW.trod_int Tryd.underlying2 t1_0
  simp only [List.cons.injEq, and_true] at e1_0
  subst e1_0
  have k1 := h1
  have lt1 : ∀ x ∈ p1, x.block < W.heap.size := by obtain ⟨m, hm⟩ := k1; exact DataW.trod_lt m _ _ _ hm
  obtain ⟨sa1, sl1, sc1, rfl⟩ := okWide_slice Tryd.underlying24 (hval 1 24 v1 rfl rfl)
  obtain ⟨fu1, hf1⟩ := h1
  obtain ⟨A, L, c, e1, hn, hc, hs, hb1⟩ := open_nums (cs := [.slice sa1 sl1 sc1]) hf1
  simp only [List.cons.injEq, and_true, Value.slice.injEq] at e1
  obtain ⟨rfl, rfl, rfl⟩ := e1
  have k2 := h2
  have lt2 : ∀ x ∈ p2, x.block < W.heap.size := by obtain ⟨m, hm⟩ := k2; exact DataW.trod_lt m _ _ _ hm
  obtain ⟨str, rfl, _, _, hstr⟩ := open_string Tryd.underlying9 (hval 2 9 v2 rfl rfl) h2
  have hstrm : str.size ≤ 9223372036854775807 := by simpa [maxLen] using hstr
  clear hA0 hval0
  refine (walk an ad sa1 sc1 L str W GLW hb1 hn hc hs hstrm).mono fun e W' ⟨he, bel⟩ => ?_
  subst he
  exact ⟨_, rfl, _, _, _, [], _, [], hW', trodAll_mk1 (shut_bool Tryd.underlying4 _), (trodAll_cons_mk (Below.trod laidOut (by kernel_rfl) (of_decide_eq_true (by kernel_rfl)) k0 bel lt0) (trodAll_cons_mk (Below.trod laidOut (by kernel_rfl) (of_decide_eq_true (by kernel_rfl)) k1 bel lt1) (trodAll_cons_mk (Below.trod laidOut (by kernel_rfl) (of_decide_eq_true (by kernel_rfl)) k2 bel lt2) trodAll_mk0))), rfl, bel.frame _, fun h => by cases h⟩

theorem over : Rows.FracFormsSaid :=
  OpenClaim.holds_of_cond 3 Tryd.f3 rfl rfl rfl rfl rfl rfl rfl ⟨rfl, rfl, rfl, rfl, rfl⟩ rfl rfl rfl rfl rfl (by kernel_rfl) Tryd.func3 (by kernel_rfl)
    (of_decide_eq_true (by kernel_rfl)) (by unfold Func.isWrapper; first | (rw [if_pos (by decide +kernel)]; kernel_rfl) | (rw [if_neg (by decide +kernel)]; exact ⟨rfl, rfl⟩))
    (fun os started H enc _ F0 => by rw [OpenClaim.pre_eq_preRow]; exact lifted os started H enc F0)

theorem proved : Rows.FracFormsCardSaid :=
  Claim7.holds_tied_plain_at .later [] [.data, .data, .data, .sentinel, .sentinel] true (true, "43c78dc67c81c121e4f2f638ffa34a2371ed4a535b44984ce1144cd4d0a3dfce") true
    over (fun _ h => by cases h) (by kernel_rfl) (fun _ h => by cases h) fracForms_row_tie rfl ⟨rfl, rfl⟩ (by kernel_rfl) rfl
    (fun f fn hf hfn => by
      obtain rfl : f = 3 := Option.some.inj ((show Tryd.prog.funcNamed "fringe/fringelaw01.FracForms" = some 3 by kernel_rfl).symm.trans hf) |>.symm
      obtain rfl : fn = Tryd.f3 := (Option.some.inj (Tryd.func3.symm.trans hfn)).symm
      exact ⟨by kernel_rfl, fun j t ht => by
        rw [Tryd.params3] at ht
        have hj : j < 3 := by
          have := (Array.getElem?_eq_some_iff.1 ht).1
          simpa using this
        obtain rfl | rfl | rfl : j = 0 ∨ j = 1 ∨ j = 2 := by omega
        · have h3 : t = 23 := by simpa using ht.symm
          subst h3
          exact (show Tryd.prog.wantsStandIn 23 = false by kernel_rfl)
        · have h3 : t = 24 := by simpa using ht.symm
          subst h3
          exact (show Tryd.prog.wantsStandIn 24 = false by kernel_rfl)
        · have h3 : t = 9 := by simpa using ht.symm
          subst h3
          exact (show Tryd.prog.wantsStandIn 9 = false by kernel_rfl)⟩)
    (by kernel_rfl)
#print axioms proved
end Go.Proofs.YtpeoecgehdicmaaDoor.fracForms
