/- For every input the law StoreReads returns true and leaves its arguments as they were. -/
import Derived.Test.YtapehckcmmompaaRows
import Derived.Test.YtapehckcmmompaaM34
import Derived.Test.YtapehckcmmompaaM26
import Derived.Test.YtapehckcmmompaaM29
import Derived.WalkKit
import Derived.ProofKit
import Derived.OpenShut
import Derived.ShutString
import Derived.ChangeOld
import Derived.Below
import Derived.Lib.SmallJoins
namespace Go.Proofs.Ytapehckcmmompaa.storeReads
open Go.ChangeShapes Go.WideShapes Go.ChangeAt Go.RowKit Go.Joins
open Go.ChangeMaps (open_string shut_string)
set_option linter.unusedVariables false

theorem own : ownKnob Try.prog.godebug = none := by kernel_rfl
theorem laidOut : laidOutB Try.prog = true := by kernel_rfl
attribute [local go_sem ↓] Go.wp_at_zero Go.wp_at_succ
set_option linter.unusedSimpArgs false
set_option maxRecDepth 100000 in
set_option maxHeartbeats 16000000 in
theorem walk (x y : Int) (Ao : Option Addr) (co : Nat) (obs : List (List Nat)) (Al : Option Addr) (cl : Nat) (ls : List Int) (w : World) (ho1 : obs.length ≤ co) (ho2 : co ≤ 9223372036854775807) (ho : RMA 0 w Ao obs) (hl1 : ls.length ≤ cl) (hl2 : cl ≤ 9223372036854775807) (hl : RI 0 w Al ls) :
  Calls Try.prog 5 #[.int .i64 x, .int .i64 y, .slice Ao obs.length co, .slice Al ls.length cl] w fun e w' => e = .returned (.bool true) ∧ Below w.heap.size w w' := by
 have HO := Lib.hid ho
 have HI := Lib.hid hl
 have HBY := Lib.hid (RMA.byt ho)
 have NN := Lib.hid (Below.refl w.heap.size w)
 clear ho hl
 have AL := Lib.hid (fun (W : World) => alive_calls W)
 have NE := Lib.hid (fun (W : World) => new_calls x y W)
 by_cases hz : newE x y = 0
 rotate_left
 ·have f1 : (newE x y != 0) = true := by rw [bne_iff_ne]; exact hz
  have f2 : decide (newE x y = 0) = false := decide_eq_false hz
  generalize newE x y = ne at *
  obtain ⟨⟨y1, y2, y3, y4⟩, hy⟩ : ∃ r, newS x y = r := ⟨_, rfl⟩
  rw [hy] at NE
  clear hy
  go_enter Try.func5, Try.ntmps5
  go_wp2_with fail
  refine (AL.out _).mono ?_
  rintro e w1 ⟨rfl, hb⟩
  replace NN := Lib.hid (Bgo NN.out hb)
  clear hb
  go_wp2_with fail
  refine (NE.out _).mono ?_
  rintro e w2 ⟨v, u, rfl, ht, hu, hb⟩
  try simp only at ht hu
  obtain ⟨A1, c1, rfl, k1a, k1b⟩ := ht.form
  obtain ⟨B1, d1, rfl, k1c, k1d⟩ := hu.form
  have T1 := Lib.hid ht
  have U1 := Lib.hid hu
  clear ht hu
  replace NN := Lib.hid (Bgo NN.out hb)
  clear hb
  have HB : Hid (Below w2.heap.size w2 (w2.alloc (.cells #[.int .i64 y1, .int .i64 y2, .slice A1 y3.length c1, .slice B1 y4.length d1] 25))) := Lib.hid (Bal (Below.refl _ _) _)
  have S1 := Lib.hid (blk_new w2 (.cells #[.int .i64 y1, .int .i64 y2, .slice A1 y3.length c1, .slice B1 y4.length d1] 25))
  have LT_S1 : Hid (w.heap.size ≤ w2.heap.size) := Lib.hid NN.out.size
  replace NN := Lib.hid (Bgo NN.out HB.out)
  replace T1 := Lib.hid (T1.out.next HB.out)
  replace U1 := Lib.hid (U1.out.next HB.out)
  clear HB
  go_wp2_with fail
  generalize w2.alloc (.cells #[.int .i64 y1, .int .i64 y2, .slice A1 y3.length c1, .slice B1 y4.length d1] 25) = W3 at *
  generalize w2.heap.size = g3 at *
  go_ret
  exact ⟨rfl, NN.out⟩
 rw [hz] at NE
 by_cases q2 : 5 < obs.length
 ·have t2 : decide ((5 : Int) < (obs.length : Int)) = true := decide_eq_true (by omega)
  clear hz q2
  obtain ⟨⟨y1, y2, y3, y4⟩, hy⟩ : ∃ r, newS x y = r := ⟨_, rfl⟩
  rw [hy] at NE
  clear hy
  go_enter Try.func5, Try.ntmps5
  go_wp2_with fail
  refine (AL.out _).mono ?_
  rintro e w4 ⟨rfl, hb⟩
  replace NN := Lib.hid (Bgo NN.out hb)
  clear hb
  go_wp2_with fail
  refine (NE.out _).mono ?_
  rintro e w5 ⟨v, u, rfl, ht, hu, hb⟩
  try simp only at ht hu
  obtain ⟨A1, c1, rfl, k1a, k1b⟩ := ht.form
  obtain ⟨B1, d1, rfl, k1c, k1d⟩ := hu.form
  have T1 := Lib.hid ht
  have U1 := Lib.hid hu
  clear ht hu
  replace NN := Lib.hid (Bgo NN.out hb)
  clear hb
  have HB : Hid (Below w5.heap.size w5 (w5.alloc (.cells #[.int .i64 y1, .int .i64 y2, .slice A1 y3.length c1, .slice B1 y4.length d1] 25))) := Lib.hid (Bal (Below.refl _ _) _)
  have S1 := Lib.hid (blk_new w5 (.cells #[.int .i64 y1, .int .i64 y2, .slice A1 y3.length c1, .slice B1 y4.length d1] 25))
  have LT_S1 : Hid (w.heap.size ≤ w5.heap.size) := Lib.hid NN.out.size
  replace NN := Lib.hid (Bgo NN.out HB.out)
  replace T1 := Lib.hid (T1.out.next HB.out)
  replace U1 := Lib.hid (U1.out.next HB.out)
  clear HB
  go_wp2_with fail
  generalize w5.alloc (.cells #[.int .i64 y1, .int .i64 y2, .slice A1 y3.length c1, .slice B1 y4.length d1] 25) = W6 at *
  generalize w5.heap.size = g6 at *
  go_ret
  exact ⟨rfl, NN.out⟩
 have t2 : decide ((5 : Int) < (obs.length : Int)) = false := decide_eq_false (by omega)
 by_cases q3 : 20 < ls.length
 ·have t3 : decide ((20 : Int) < (ls.length : Int)) = true := decide_eq_true (by omega)
  clear hz q2 q3
  obtain ⟨⟨y1, y2, y3, y4⟩, hy⟩ : ∃ r, newS x y = r := ⟨_, rfl⟩
  rw [hy] at NE
  clear hy
  go_enter Try.func5, Try.ntmps5
  go_wp2_with fail
  refine (AL.out _).mono ?_
  rintro e w7 ⟨rfl, hb⟩
  replace NN := Lib.hid (Bgo NN.out hb)
  clear hb
  go_wp2_with fail
  refine (NE.out _).mono ?_
  rintro e w8 ⟨v, u, rfl, ht, hu, hb⟩
  try simp only at ht hu
  obtain ⟨A1, c1, rfl, k1a, k1b⟩ := ht.form
  obtain ⟨B1, d1, rfl, k1c, k1d⟩ := hu.form
  have T1 := Lib.hid ht
  have U1 := Lib.hid hu
  clear ht hu
  replace NN := Lib.hid (Bgo NN.out hb)
  clear hb
  have HB : Hid (Below w8.heap.size w8 (w8.alloc (.cells #[.int .i64 y1, .int .i64 y2, .slice A1 y3.length c1, .slice B1 y4.length d1] 25))) := Lib.hid (Bal (Below.refl _ _) _)
  have S1 := Lib.hid (blk_new w8 (.cells #[.int .i64 y1, .int .i64 y2, .slice A1 y3.length c1, .slice B1 y4.length d1] 25))
  have LT_S1 : Hid (w.heap.size ≤ w8.heap.size) := Lib.hid NN.out.size
  replace NN := Lib.hid (Bgo NN.out HB.out)
  replace T1 := Lib.hid (T1.out.next HB.out)
  replace U1 := Lib.hid (U1.out.next HB.out)
  clear HB
  go_wp2_with fail
  generalize w8.alloc (.cells #[.int .i64 y1, .int .i64 y2, .slice A1 y3.length c1, .slice B1 y4.length d1] 25) = W9 at *
  generalize w8.heap.size = g9 at *
  go_ret
  exact ⟨rfl, NN.out⟩
 have t3 : decide ((20 : Int) < (ls.length : Int)) = false := decide_eq_false (by omega)
 have h5 : obs.length ≤ 5 := by omega
 have h20 : ls.length ≤ 20 := by omega
 obtain ⟨Dn, P, rfl, rfl, hD1, hD8, hP4, hnew⟩ := new_facts hz
 rw [hnew] at NE
 have RS := Lib.hid (Rst.new hD1 hD8 hP4 obs)
 clear hz hnew q2 q3
 have tl : (List.replicate (Dn + P) (⟨false, []⟩ : Dk)).length = Dn + P := by simp
 generalize List.replicate (Dn + P) (⟨false, []⟩ : Dk) = t0 at *
 have TL := Lib.hid tl
 clear tl
 go_enter Try.func5, Try.ntmps5
 go_wp2_with fail
 refine (AL.out _).mono ?_
 rintro e w10 ⟨rfl, hb⟩
 replace NN := Lib.hid (Bgo NN.out hb)
 clear hb
 go_wp2_with fail
 refine (NE.out _).mono ?_
 rintro e w11 ⟨v, u, rfl, ht, hu, hb⟩
 try simp only at ht hu
 obtain ⟨A1, c1, rfl, k1a, k1b⟩ := ht.form
 obtain ⟨B1, d1, rfl, k1c, k1d⟩ := hu.form
 have T1 := Lib.hid ht
 have U1 := Lib.hid hu
 clear ht hu
 replace NN := Lib.hid (Bgo NN.out hb)
 clear hb
 have HB : Hid (Below w11.heap.size w11 (w11.alloc (.cells #[.int .i64 (Dn : Int), .int .i64 (P : Int), .slice A1 t0.length c1, .slice B1 0 d1] 25))) := Lib.hid (Bal (Below.refl _ _) _)
 have S1 := Lib.hid (blk_new w11 (.cells #[.int .i64 (Dn : Int), .int .i64 (P : Int), .slice A1 t0.length c1, .slice B1 0 d1] 25))
 have LT_S1 : Hid (w.heap.size ≤ w11.heap.size) := Lib.hid NN.out.size
 replace NN := Lib.hid (Bgo NN.out HB.out)
 replace T1 := Lib.hid (T1.out.next HB.out)
 replace U1 := Lib.hid (U1.out.next HB.out)
 clear HB
 go_wp2_with fail
 generalize w11.alloc (.cells #[.int .i64 (Dn : Int), .int .i64 (P : Int), .slice A1 t0.length c1, .slice B1 0 d1] 25) = W12 at *
 generalize w11.heap.size = g12 at *
 clear t2 t3
 have NNb := NN
 have S1b := S1
 have T1b := T1
 have U1b := U1
 go_loopw [12] (fun i wr => ∃ k : Nat, k ≤ obs.length ∧ i = .int .i64 k ∧ Hid (Below W12.heap.size W12 wr) ∧ Hid (∀ (j : Nat) (l : List Nat), j < k → obs[j]? = some l → l.length ≤ 60)) (fun i _ => obs.length - (intOf i).toNat)
 case atStart => exact ⟨0, by omega, rfl, Lib.hid (Below.refl _ _), Lib.hid (fun j l h => by omega)⟩
 case round =>
  obtain ⟨k, hk, rfl, N1, HS⟩ := hrel
  replace NN := Lib.hid (Bgo NN.out N1.out)
  replace T1 := Lib.hid (T1.out.next N1.out)
  replace U1 := Lib.hid (U1.out.next N1.out)
  replace S1 := Lib.hid (blk_next N1.out S1.out)
  by_cases hlt : k < obs.length
  ·have k1 : (0 : Int) ≤ (k : Int) := by omega
   have k2 : (k : Int) < (obs.length : Int) := by omega
   obtain ⟨l, hl⟩ := get_some hlt
   have hlk : l.length ≤ 9223372036854775807 := by obtain ⟨_, _, _, _, _, _, _, q1, q2, _⟩ := HO.out.at_ hl; omega
   obtain ⟨bo, oo, Aj, cj, rfl, lo, zo, _, _, _⟩ := (RMA.next NN.out HO.out).at_ hl
   by_cases h60 : 60 < l.length
   ·have t4 : decide ((60 : Int) < (l.length : Int)) = true := decide_eq_true (by omega)
    go_wp2_with fail
    go_ret
    exact ⟨rfl, NN.out⟩
   ·have t4 : decide ((60 : Int) < (l.length : Int)) = false := decide_eq_false (by omega)
    go_wp2_with fail
    refine ⟨⟨k + 1, by omega, by go_num, N1, Lib.hid (fun j l' hj hl' => ?_)⟩, by simp [intOf]; omega⟩
    rcases Nat.lt_or_ge j k with h | h
    ·exact HS.out j l' h hl'
    ·obtain rfl : j = k := by omega
     rw [hl] at hl'; cases hl'; omega
  have hko : k = obs.length := by omega
  have HS60 : Hid (∀ l ∈ obs, l.length ≤ 60) := Lib.hid (fun l hl => by
   obtain ⟨j, hj⟩ := List.mem_iff_getElem?.1 hl
   exact HS.out j l (by rw [hko]; exact get_lt hj) hj)
  have kx : decide ((k : Int) < (obs.length : Int)) = false := decide_eq_false (by omega)
  have HKO := Lib.hid hko
  clear hko NNb S1b T1b U1b HS
  have mkb : ∀ W : World, (Instr.makeSlice 61 (.int .i64 5) (.int .i64 5)).run Try.prog W = .ok (.slice (some ⟨W.heap.size, 0, none⟩) 5 5) (W.alloc (.cells (madeCells #[.bool false] 5) 4)) := fun W => make_bools W 5 (by omega)
  have LTG := Lib.hid (blk_lt S1.out)
  have HB : Hid (Below wr.heap.size wr (wr.alloc (.cells #[.string ⟨#[97]⟩, .string ⟨#[98]⟩, .string ⟨#[99]⟩, .string ⟨#[100]⟩, .string ⟨#[101]⟩] 9))) := Lib.hid (Bal (Below.refl _ _) _)
  have NM := Lib.hid (blk_new wr (.cells #[.string ⟨#[97]⟩, .string ⟨#[98]⟩, .string ⟨#[99]⟩, .string ⟨#[100]⟩, .string ⟨#[101]⟩] 9))
  have LT_NM : Hid (g12 < wr.heap.size ∧ w.heap.size ≤ wr.heap.size) := Lib.hid ⟨blk_lt S1.out, NN.out.size⟩
  replace NN := Lib.hid (Bgo NN.out HB.out)
  replace T1 := Lib.hid (T1.out.next HB.out)
  replace U1 := Lib.hid (U1.out.next HB.out)
  replace S1 := Lib.hid (blk_next HB.out S1.out)
  clear HB
  go_wp2_with fail
  clear mkb kx
  have LTP : Hid (g12 < wr.heap.size) := LTG
  have HB : Hid (Below (wr.alloc (.cells #[.string ⟨#[97]⟩, .string ⟨#[98]⟩, .string ⟨#[99]⟩, .string ⟨#[100]⟩, .string ⟨#[101]⟩] 9)).heap.size (wr.alloc (.cells #[.string ⟨#[97]⟩, .string ⟨#[98]⟩, .string ⟨#[99]⟩, .string ⟨#[100]⟩, .string ⟨#[101]⟩] 9)) ((wr.alloc (.cells #[.string ⟨#[97]⟩, .string ⟨#[98]⟩, .string ⟨#[99]⟩, .string ⟨#[100]⟩, .string ⟨#[101]⟩] 9)).alloc (.cells (madeCells #[.bool false] 5) 4))) := Lib.hid (Bal (Below.refl _ _) _)
  have PB : Hid (((wr.alloc (.cells #[.string ⟨#[97]⟩, .string ⟨#[98]⟩, .string ⟨#[99]⟩, .string ⟨#[100]⟩, .string ⟨#[101]⟩] 9)).alloc (.cells (madeCells #[.bool false] 5) 4)).heap[wr.heap.size + 1]? = some (pbO [false, false, false, false, false])) := Lib.hid (pb_new (blk_at _ (by simp)))
  replace NN := Lib.hid (Bgo NN.out HB.out)
  replace T1 := Lib.hid (T1.out.next HB.out)
  replace U1 := Lib.hid (U1.out.next HB.out)
  replace S1 := Lib.hid (blk_next HB.out S1.out)
  replace NM := Lib.hid (blk_next HB.out NM.out)
  clear HB
  generalize (wr.alloc (.cells #[.string ⟨#[97]⟩, .string ⟨#[98]⟩, .string ⟨#[99]⟩, .string ⟨#[100]⟩, .string ⟨#[101]⟩] 9)).alloc (.cells (madeCells #[.bool false] 5) 4) = WL at *
  have hgp : wr.heap.size + 1 = wr.heap.size + 1 := rfl
  generalize wr.heap.size = gn at *
  clear hgp
  have NE6 : Hid (w.heap.size ≤ g12 ∧ w.heap.size ≤ gn ∧ w.heap.size ≤ gn + 1 ∧ g12 ≠ gn + 1 ∧ g12 ≠ gn ∧ gn + 1 ≠ gn) := Lib.hid (by have a := LT_S1.out; have b := LT_NM.out; have c := LTP.out; omega)
  clear LT_S1 LT_NM LTP
  go_loopw [11, 15] (fun e i wr => ∃ (k : Nat) (ds : List Dk) (os : List Ob) (pl : List Bool) (Ax Bx : Option Addr) (cx dx By : Nat), k ≤ ls.length ∧ e = .int .i64 0 ∧ i = .int .i64 k ∧ Hid (Below w.heap.size w wr) ∧ Hid (wr.heap[g12]? = some (.cells #[.int .i64 (Dn : Int), .int .i64 (P : Int), .slice Ax ds.length cx, .slice Bx os.length dx] 25)) ∧ Hid (wr.heap[gn + 1]? = some (pbO pl)) ∧ Hid (wr.heap[gn]? = some (.cells #[.string ⟨#[97]⟩, .string ⟨#[98]⟩, .string ⟨#[99]⟩, .string ⟨#[100]⟩, .string ⟨#[101]⟩] 9)) ∧ Hid (OT By wr (.slice Ax ds.length cx) ds) ∧ Hid (OO By wr (.slice Bx os.length dx) os) ∧ (ds.length ≤ cx ∧ cx ≤ 9223372036854775807) ∧ (os.length ≤ dx ∧ dx ≤ 9223372036854775807) ∧ Hid (Rst Dn P obs pl ds os)) (fun _ i _ => ls.length - (intOf i).toNat)
  case atStart => exact ⟨0, t0, [], _, A1, B1, c1, d1, _, by omega, rfl, rfl, NN, S1, PB, NM, T1, U1, ⟨k1a, k1b⟩, ⟨k1c, k1d⟩, RS⟩
  case round =>
   clear NN S1 PB NM T1 U1 RS k1a k1b k1c k1d TL
   obtain ⟨k, ds, os, pl, Ax, Bx, cx, dx, By, hk, rfl, rfl, NN, S1, PB, NM, T1, U1, ⟨k1a, k1b⟩, ⟨k1c, k1d⟩, RS⟩ := hrel
   obtain ⟨hch, hdl, _, _, _, hos⟩ := RS.out.ok
   by_cases hlt : k < ls.length
   ·have HK := Lib.hid hlt
    have kx : decide ((k : Int) < (ls.length : Int)) = true := decide_eq_true (by omega)
    have k1 : (0 : Int) ≤ (k : Int) := by omega
    have k2 : (k : Int) < (ls.length : Int) := by omega
    have KC := Lib.hid (oRefCheck_calls (Dn : Int) (P : Int) Ax Bx cx dx By ds os wr k1a k1b k1c k1d T1.out.rd U1.out.ro RS.out.small)
    rw [hch] at KC
    have d1 : (((ds.length : Nat) : Int) != (Dn : Int) + (P : Int)) = false := by rw [hdl]; push_cast; simp
    have d2 : IntKind.i64.wrap ((Dn : Int) + (P : Int)) = (Dn : Int) + (P : Int) := IntWalk.i64_in _ (by omega)
    have HDL := Lib.hid hdl
    clear hch hdl hlt
    have c_S1_0 := blk_cell S1.out 0 _ rfl
    have f_S1_0 := blk_frozen S1.out 0
    have c_S1_1 := blk_cell S1.out 1 _ rfl
    have f_S1_1 := blk_frozen S1.out 1
    have c_S1_2 := blk_cell S1.out 2 _ rfl
    have f_S1_2 := blk_frozen S1.out 2
    have c_S1_3 := blk_cell S1.out 3 _ rfl
    have f_S1_3 := blk_frozen S1.out 3
    have l_S1 := blk_lt S1.out
    go_wp2_with fail
    refine (KC.out).mono ?_
    rintro e w14 ⟨rfl, hb⟩
    clear c_S1_0 f_S1_0 c_S1_1 f_S1_1 c_S1_2 f_S1_2 c_S1_3 f_S1_3 l_S1
    replace NN := Lib.hid (Bgo NN.out hb)
    replace T1 := Lib.hid (T1.out.next hb)
    replace U1 := Lib.hid (U1.out.next hb)
    replace PB := Lib.hid (blk_next hb PB.out)
    replace S1 := Lib.hid (blk_next hb S1.out)
    replace NM := Lib.hid (blk_next hb NM.out)
    clear hb
    have c_S1_0 := blk_cell S1.out 0 _ rfl
    have f_S1_0 := blk_frozen S1.out 0
    have c_S1_1 := blk_cell S1.out 1 _ rfl
    have f_S1_1 := blk_frozen S1.out 1
    have c_S1_2 := blk_cell S1.out 2 _ rfl
    have f_S1_2 := blk_frozen S1.out 2
    have c_S1_3 := blk_cell S1.out 3 _ rfl
    have f_S1_3 := blk_frozen S1.out 3
    have l_S1 := blk_lt S1.out
    clear KC
    obtain ⟨xn, hxn⟩ := get_some HK.out
    have HXN := Lib.hid hxn
    obtain ⟨bl, ol, rfl, hll, zl⟩ := (RI.next NN.out HI.out).at_ hxn
    clear hxn
    by_cases hneg : xn < 0
    rotate_left
    ·have x1 : decide (xn < 0) = false := decide_eq_false hneg
     have lds : 0 < ds.length := by rw [HDL.out]; omega
     obtain ⟨k3, e3, l3⟩ := tmod_nat (x := xn) (by omega) lds
     obtain ⟨dk, hdk⟩ := get_some l3
     have e4 : IntKind.i64.wrap ((k3 : Nat) : Int) = (k3 : Int) := IntWalk.i64_in _ (by have := HDL.out; omega)
     have e5 : decide (((ds.length : Nat) : Int) = 0) = false := decide_eq_false (by omega)
     have e6 : ((ds.length : Nat) : Int) ≠ 0 := by omega
     have e7 : (0 : Int) ≤ (k3 : Int) := by omega
     have e8 : (k3 : Int) < (ds.length : Int) := by omega
     obtain ⟨b5, o5, Ai, ci, rfl, l5, q4, _, _, _, _⟩ := T1.out.rd.at_ hdk
     by_cases hf : dk.failed = true
     ·have RB := Lib.hid (RS.out.back hdk hf)
      rw [hf] at q4
      go_wp2_with fail
      clear c_S1_0 f_S1_0 c_S1_1 f_S1_1 c_S1_2 f_S1_2 c_S1_3 f_S1_3 l_S1
      obtain ⟨ps, r1, r2, r3⟩ := RB.out
      have R3 := Lib.hid r3
      have RC := Lib.hid (replace_calls (Dn : Int) (P : Int) (some ⟨b5, o5, none⟩) Bx cx dx By ds os (k3 : Int) w14 k1a k1b k1c k1d T1.out.rd U1.out.ro RS.out.small)
      rw [r1, r2] at RC
      clear r1 r2 r3 RB e3 e4 e5 e6 l5 q4
      refine (RC.out).mono ?_
      rintro e w15 ⟨v, u, rfl, ht, hu, hb⟩
      try simp only at ht hu
      obtain ⟨A6, c6, rfl, k6a, k6b⟩ := ht.form
      obtain ⟨B6, d6, rfl, k6c, k6d⟩ := hu.form
      have T6 := Lib.hid ht
      have U6 := Lib.hid hu
      clear ht hu
      replace NN := Lib.hid (Bgo NN.out hb)
      replace T1 := Lib.hid (T1.out.next hb)
      replace U1 := Lib.hid (U1.out.next hb)
      replace PB := Lib.hid (blk_next hb PB.out)
      replace S1 := Lib.hid (blk_next hb S1.out)
      replace NM := Lib.hid (blk_next hb NM.out)
      clear hb
      clear RC
      have c_S1_0 := blk_cell S1.out 0 _ rfl
      have f_S1_0 := blk_frozen S1.out 0
      have c_S1_1 := blk_cell S1.out 1 _ rfl
      have f_S1_1 := blk_frozen S1.out 1
      have c_S1_2 := blk_cell S1.out 2 _ rfl
      have f_S1_2 := blk_frozen S1.out 2
      have c_S1_3 := blk_cell S1.out 3 _ rfl
      have f_S1_3 := blk_frozen S1.out 3
      have l_S1 := blk_lt S1.out
      go_wp2_with fail
      clear c_S1_0 f_S1_0 c_S1_1 f_S1_1 c_S1_2 f_S1_2 c_S1_3 f_S1_3 l_S1
      have Z1 : Hid (((((w15.setCell ⟨g12, 0, none⟩ (.int .i64 (Dn : Int))).setCell ⟨g12, 1, none⟩ (.int .i64 (P : Int))).setCell ⟨g12, 2, none⟩ (.slice A6 ps.length c6)).setCell ⟨g12, 3, none⟩ (.slice B6 os.length d6)).heap[g12]? = some (.cells #[.int .i64 (Dn : Int), .int .i64 (P : Int), .slice A6 ps.length c6, .slice B6 os.length d6] 25)) := Lib.hid (blk_set4 S1.out (.int .i64 (Dn : Int)) (.int .i64 (P : Int)) (.slice A6 ps.length c6) (.slice B6 os.length d6))
      replace NN : Hid (Below w.heap.size w ((((w15.setCell ⟨g12, 0, none⟩ (.int .i64 (Dn : Int))).setCell ⟨g12, 1, none⟩ (.int .i64 (P : Int))).setCell ⟨g12, 2, none⟩ (.slice A6 ps.length c6)).setCell ⟨g12, 3, none⟩ (.slice B6 os.length d6))) := Lib.hid (Bset4 NN.out NE6.out.1 (.int .i64 (Dn : Int)) (.int .i64 (P : Int)) (.slice A6 ps.length c6) (.slice B6 os.length d6))
      replace PB : Hid (((((w15.setCell ⟨g12, 0, none⟩ (.int .i64 (Dn : Int))).setCell ⟨g12, 1, none⟩ (.int .i64 (P : Int))).setCell ⟨g12, 2, none⟩ (.slice A6 ps.length c6)).setCell ⟨g12, 3, none⟩ (.slice B6 os.length d6)).heap[gn + 1]? = some (pbO pl)) := Lib.hid (blk_set4_other PB.out NE6.out.2.2.2.1 (.int .i64 (Dn : Int)) (.int .i64 (P : Int)) (.slice A6 ps.length c6) (.slice B6 os.length d6))
      replace NM : Hid (((((w15.setCell ⟨g12, 0, none⟩ (.int .i64 (Dn : Int))).setCell ⟨g12, 1, none⟩ (.int .i64 (P : Int))).setCell ⟨g12, 2, none⟩ (.slice A6 ps.length c6)).setCell ⟨g12, 3, none⟩ (.slice B6 os.length d6)).heap[gn]? = some (.cells #[.string ⟨#[97]⟩, .string ⟨#[98]⟩, .string ⟨#[99]⟩, .string ⟨#[100]⟩, .string ⟨#[101]⟩] 9)) := Lib.hid (blk_set4_other NM.out NE6.out.2.2.2.2.1 (.int .i64 (Dn : Int)) (.int .i64 (P : Int)) (.slice A6 ps.length c6) (.slice B6 os.length d6))
      replace T6 : Hid (OT w14.heap.size ((((w15.setCell ⟨g12, 0, none⟩ (.int .i64 (Dn : Int))).setCell ⟨g12, 1, none⟩ (.int .i64 (P : Int))).setCell ⟨g12, 2, none⟩ (.slice A6 ps.length c6)).setCell ⟨g12, 3, none⟩ (.slice B6 os.length d6)) (.slice A6 ps.length c6) ps) := Lib.hid (OT.set4_ T6.out S1.out (.int .i64 (Dn : Int)) (.int .i64 (P : Int)) (.slice A6 ps.length c6) (.slice B6 os.length d6))
      replace U6 : Hid (OO w14.heap.size ((((w15.setCell ⟨g12, 0, none⟩ (.int .i64 (Dn : Int))).setCell ⟨g12, 1, none⟩ (.int .i64 (P : Int))).setCell ⟨g12, 2, none⟩ (.slice A6 ps.length c6)).setCell ⟨g12, 3, none⟩ (.slice B6 os.length d6)) (.slice B6 os.length d6) os) := Lib.hid (OO.set4_ U6.out S1.out (.int .i64 (Dn : Int)) (.int .i64 (P : Int)) (.slice A6 ps.length c6) (.slice B6 os.length d6))
      replace S1 := Z1
      clear Z1
      generalize ((((w15.setCell ⟨g12, 0, none⟩ (.int .i64 (Dn : Int))).setCell ⟨g12, 1, none⟩ (.int .i64 (P : Int))).setCell ⟨g12, 2, none⟩ (.slice A6 ps.length c6)).setCell ⟨g12, 3, none⟩ (.slice B6 os.length d6)) = W16 at *
      refine ⟨⟨k + 1, ps, os, pl, A6, B6, c6, d6, _, HK.out, rfl, by go_num, NN, S1, PB, NM, T6, U6, ⟨k6a, k6b⟩, ⟨k6c, k6d⟩, R3⟩, by have := HK.out; simp [intOf]; omega⟩
     have hf' : dk.failed = false := by simpa using hf
     rw [hf'] at q4
     have FC := Lib.hid (fun (W : World) (h : RD By W (some ⟨b5, o5, none⟩) ds) => failed_calls (Dn : Int) (P : Int) (.slice Bx os.length dx) (some ⟨b5, o5, none⟩) cx By ds W k1a k1b h)
     clear hf
     go_wp2_with fail
     clear c_S1_0 f_S1_0 c_S1_1 f_S1_1 c_S1_2 f_S1_2 c_S1_3 f_S1_3 l_S1
     by_cases hp : faN ds < P
     ·have g1 : decide (((faN ds : Nat) : Int) < (P : Int)) = true := decide_eq_true (by omega)
      have RB := Lib.hid (RS.out.fail hdk hf' hp)
      have c_S1_0 := blk_cell S1.out 0 _ rfl
      have f_S1_0 := blk_frozen S1.out 0
      have c_S1_1 := blk_cell S1.out 1 _ rfl
      have f_S1_1 := blk_frozen S1.out 1
      have c_S1_2 := blk_cell S1.out 2 _ rfl
      have f_S1_2 := blk_frozen S1.out 2
      have c_S1_3 := blk_cell S1.out 3 _ rfl
      have f_S1_3 := blk_frozen S1.out 3
      have l_S1 := blk_lt S1.out
      refine (FC.out _ T1.out.rd).mono ?_
      rintro e w17 ⟨rfl, hb⟩
      clear c_S1_0 f_S1_0 c_S1_1 f_S1_1 c_S1_2 f_S1_2 c_S1_3 f_S1_3 l_S1
      replace NN := Lib.hid (Bgo NN.out hb)
      replace T1 := Lib.hid (T1.out.next hb)
      replace U1 := Lib.hid (U1.out.next hb)
      replace PB := Lib.hid (blk_next hb PB.out)
      replace S1 := Lib.hid (blk_next hb S1.out)
      replace NM := Lib.hid (blk_next hb NM.out)
      clear hb
      have c_S1_0 := blk_cell S1.out 0 _ rfl
      have f_S1_0 := blk_frozen S1.out 0
      have c_S1_1 := blk_cell S1.out 1 _ rfl
      have f_S1_1 := blk_frozen S1.out 1
      have c_S1_2 := blk_cell S1.out 2 _ rfl
      have f_S1_2 := blk_frozen S1.out 2
      have c_S1_3 := blk_cell S1.out 3 _ rfl
      have f_S1_3 := blk_frozen S1.out 3
      have l_S1 := blk_lt S1.out
      go_wp2_with fail
      clear c_S1_0 f_S1_0 c_S1_1 f_S1_1 c_S1_2 f_S1_2 c_S1_3 f_S1_3 l_S1
      obtain ⟨ps, r1, r2, r3⟩ := RB.out
      have R3 := Lib.hid r3
      have RC := Lib.hid (fail_calls (Dn : Int) (P : Int) (some ⟨b5, o5, none⟩) Bx cx dx By ds os (k3 : Int) w17 k1a k1b k1c k1d T1.out.rd U1.out.ro RS.out.small)
      rw [r1, r2] at RC
      clear r1 r2 r3 RB e3 e4 e5 e6 l5 q4 FC
      refine (RC.out).mono ?_
      rintro e w18 ⟨v, u, rfl, ht, hu, hb⟩
      try simp only at ht hu
      obtain ⟨A6, c6, rfl, k6a, k6b⟩ := ht.form
      obtain ⟨B6, d6, rfl, k6c, k6d⟩ := hu.form
      have T6 := Lib.hid ht
      have U6 := Lib.hid hu
      clear ht hu
      replace NN := Lib.hid (Bgo NN.out hb)
      replace T1 := Lib.hid (T1.out.next hb)
      replace U1 := Lib.hid (U1.out.next hb)
      replace PB := Lib.hid (blk_next hb PB.out)
      replace S1 := Lib.hid (blk_next hb S1.out)
      replace NM := Lib.hid (blk_next hb NM.out)
      clear hb
      clear RC
      have c_S1_0 := blk_cell S1.out 0 _ rfl
      have f_S1_0 := blk_frozen S1.out 0
      have c_S1_1 := blk_cell S1.out 1 _ rfl
      have f_S1_1 := blk_frozen S1.out 1
      have c_S1_2 := blk_cell S1.out 2 _ rfl
      have f_S1_2 := blk_frozen S1.out 2
      have c_S1_3 := blk_cell S1.out 3 _ rfl
      have f_S1_3 := blk_frozen S1.out 3
      have l_S1 := blk_lt S1.out
      go_wp2_with fail
      clear c_S1_0 f_S1_0 c_S1_1 f_S1_1 c_S1_2 f_S1_2 c_S1_3 f_S1_3 l_S1
      have Z1 : Hid (((((w18.setCell ⟨g12, 0, none⟩ (.int .i64 (Dn : Int))).setCell ⟨g12, 1, none⟩ (.int .i64 (P : Int))).setCell ⟨g12, 2, none⟩ (.slice A6 ps.length c6)).setCell ⟨g12, 3, none⟩ (.slice B6 os.length d6)).heap[g12]? = some (.cells #[.int .i64 (Dn : Int), .int .i64 (P : Int), .slice A6 ps.length c6, .slice B6 os.length d6] 25)) := Lib.hid (blk_set4 S1.out (.int .i64 (Dn : Int)) (.int .i64 (P : Int)) (.slice A6 ps.length c6) (.slice B6 os.length d6))
      replace NN : Hid (Below w.heap.size w ((((w18.setCell ⟨g12, 0, none⟩ (.int .i64 (Dn : Int))).setCell ⟨g12, 1, none⟩ (.int .i64 (P : Int))).setCell ⟨g12, 2, none⟩ (.slice A6 ps.length c6)).setCell ⟨g12, 3, none⟩ (.slice B6 os.length d6))) := Lib.hid (Bset4 NN.out NE6.out.1 (.int .i64 (Dn : Int)) (.int .i64 (P : Int)) (.slice A6 ps.length c6) (.slice B6 os.length d6))
      replace PB : Hid (((((w18.setCell ⟨g12, 0, none⟩ (.int .i64 (Dn : Int))).setCell ⟨g12, 1, none⟩ (.int .i64 (P : Int))).setCell ⟨g12, 2, none⟩ (.slice A6 ps.length c6)).setCell ⟨g12, 3, none⟩ (.slice B6 os.length d6)).heap[gn + 1]? = some (pbO pl)) := Lib.hid (blk_set4_other PB.out NE6.out.2.2.2.1 (.int .i64 (Dn : Int)) (.int .i64 (P : Int)) (.slice A6 ps.length c6) (.slice B6 os.length d6))
      replace NM : Hid (((((w18.setCell ⟨g12, 0, none⟩ (.int .i64 (Dn : Int))).setCell ⟨g12, 1, none⟩ (.int .i64 (P : Int))).setCell ⟨g12, 2, none⟩ (.slice A6 ps.length c6)).setCell ⟨g12, 3, none⟩ (.slice B6 os.length d6)).heap[gn]? = some (.cells #[.string ⟨#[97]⟩, .string ⟨#[98]⟩, .string ⟨#[99]⟩, .string ⟨#[100]⟩, .string ⟨#[101]⟩] 9)) := Lib.hid (blk_set4_other NM.out NE6.out.2.2.2.2.1 (.int .i64 (Dn : Int)) (.int .i64 (P : Int)) (.slice A6 ps.length c6) (.slice B6 os.length d6))
      replace T6 : Hid (OT w17.heap.size ((((w18.setCell ⟨g12, 0, none⟩ (.int .i64 (Dn : Int))).setCell ⟨g12, 1, none⟩ (.int .i64 (P : Int))).setCell ⟨g12, 2, none⟩ (.slice A6 ps.length c6)).setCell ⟨g12, 3, none⟩ (.slice B6 os.length d6)) (.slice A6 ps.length c6) ps) := Lib.hid (OT.set4_ T6.out S1.out (.int .i64 (Dn : Int)) (.int .i64 (P : Int)) (.slice A6 ps.length c6) (.slice B6 os.length d6))
      replace U6 : Hid (OO w17.heap.size ((((w18.setCell ⟨g12, 0, none⟩ (.int .i64 (Dn : Int))).setCell ⟨g12, 1, none⟩ (.int .i64 (P : Int))).setCell ⟨g12, 2, none⟩ (.slice A6 ps.length c6)).setCell ⟨g12, 3, none⟩ (.slice B6 os.length d6)) (.slice B6 os.length d6) os) := Lib.hid (OO.set4_ U6.out S1.out (.int .i64 (Dn : Int)) (.int .i64 (P : Int)) (.slice A6 ps.length c6) (.slice B6 os.length d6))
      replace S1 := Z1
      clear Z1
      generalize ((((w18.setCell ⟨g12, 0, none⟩ (.int .i64 (Dn : Int))).setCell ⟨g12, 1, none⟩ (.int .i64 (P : Int))).setCell ⟨g12, 2, none⟩ (.slice A6 ps.length c6)).setCell ⟨g12, 3, none⟩ (.slice B6 os.length d6)) = W19 at *
      refine ⟨⟨k + 1, ps, os, pl, A6, B6, c6, d6, _, HK.out, rfl, by go_num, NN, S1, PB, NM, T6, U6, ⟨k6a, k6b⟩, ⟨k6c, k6d⟩, R3⟩, by have := HK.out; simp [intOf]; omega⟩
     have g1 : decide (((faN ds : Nat) : Int) < (P : Int)) = false := decide_eq_false (by omega)
     have g2 : ¬ faN ds < P := hp
     have c_S1_0 := blk_cell S1.out 0 _ rfl
     have f_S1_0 := blk_frozen S1.out 0
     have c_S1_1 := blk_cell S1.out 1 _ rfl
     have f_S1_1 := blk_frozen S1.out 1
     have c_S1_2 := blk_cell S1.out 2 _ rfl
     have f_S1_2 := blk_frozen S1.out 2
     have c_S1_3 := blk_cell S1.out 3 _ rfl
     have f_S1_3 := blk_frozen S1.out 3
     have l_S1 := blk_lt S1.out
     refine (FC.out _ T1.out.rd).mono ?_
     rintro e w20 ⟨rfl, hb⟩
     clear c_S1_0 f_S1_0 c_S1_1 f_S1_1 c_S1_2 f_S1_2 c_S1_3 f_S1_3 l_S1
     replace NN := Lib.hid (Bgo NN.out hb)
     replace T1 := Lib.hid (T1.out.next hb)
     replace U1 := Lib.hid (U1.out.next hb)
     replace PB := Lib.hid (blk_next hb PB.out)
     replace S1 := Lib.hid (blk_next hb S1.out)
     replace NM := Lib.hid (blk_next hb NM.out)
     clear hb
     have c_S1_0 := blk_cell S1.out 0 _ rfl
     have f_S1_0 := blk_frozen S1.out 0
     have c_S1_1 := blk_cell S1.out 1 _ rfl
     have f_S1_1 := blk_frozen S1.out 1
     have c_S1_2 := blk_cell S1.out 2 _ rfl
     have f_S1_2 := blk_frozen S1.out 2
     have c_S1_3 := blk_cell S1.out 3 _ rfl
     have f_S1_3 := blk_frozen S1.out 3
     have l_S1 := blk_lt S1.out
     go_wp2_with fail
     clear c_S1_0 f_S1_0 c_S1_1 f_S1_1 c_S1_2 f_S1_2 c_S1_3 f_S1_3 l_S1
     refine ⟨⟨k + 1, ds, os, pl, (some ⟨b5, o5, none⟩), Bx, cx, dx, By, HK.out, rfl, by go_num, NN, S1, PB, NM, T1, U1, ⟨k1a, k1b⟩, ⟨k1c, k1d⟩, RS⟩, by have := HK.out; simp [intOf]; omega⟩
    have x1 : decide (xn < 0) = true := decide_eq_true hneg
    obtain ⟨q, hq⟩ : ∃ q, IntKind.i64.wrap (-1 - xn) = q := ⟨_, rfl⟩
    obtain ⟨kq, hkq⟩ : ∃ kq, Int.tmod q 5 = kq := ⟨_, rfl⟩
    have t5 := tmod_five q
    rw [hkq] at t5
    have e3 : IntKind.i64.wrap kq = kq := IntWalk.i64_in _ (by omega)
    by_cases k0 : kq < 0
    ·have y1 : decide (kq < 0) = true := decide_eq_true k0
     go_wp2_with fail
     clear c_S1_0 f_S1_0 c_S1_1 f_S1_1 c_S1_2 f_S1_2 c_S1_3 f_S1_3 l_S1
     refine ⟨⟨k + 1, ds, os, pl, Ax, Bx, cx, dx, By, HK.out, rfl, by go_num, NN, S1, PB, NM, T1, U1, ⟨k1a, k1b⟩, ⟨k1c, k1d⟩, RS⟩, by have := HK.out; simp [intOf]; omega⟩
    obtain ⟨kk, rfl⟩ : ∃ kk : Nat, kq = (kk : Int) := ⟨kq.toNat, by omega⟩
    have y1 : decide (((kk : Nat) : Int) < 0) = false := decide_eq_false k0
    have y2 : ¬ (((kk : Nat) : Int) < 0) := k0
    have kk5 : kk < 5 := by omega
    clear k0
    by_cases k5 : obs.length ≤ kk
    ·have y3 : decide (((obs.length : Nat) : Int) ≤ (kk : Int)) = true := decide_eq_true (by omega)
     go_wp2_with fail
     clear c_S1_0 f_S1_0 c_S1_1 f_S1_1 c_S1_2 f_S1_2 c_S1_3 f_S1_3 l_S1
     refine ⟨⟨k + 1, ds, os, pl, Ax, Bx, cx, dx, By, HK.out, rfl, by go_num, NN, S1, PB, NM, T1, U1, ⟨k1a, k1b⟩, ⟨k1c, k1d⟩, RS⟩, by have := HK.out; simp [intOf]; omega⟩
    have y3 : decide (((obs.length : Nat) : Int) ≤ (kk : Int)) = false := decide_eq_false (by omega)
    have y4 : ¬ obs.length ≤ kk := k5
    obtain ⟨v, hv⟩ := get_some (show kk < pl.length by rw [RS.out.five]; exact kk5)
    have HV := Lib.hid hv
    have z5 := pb_cell PB.out hv
    have l5 := blk_lt PB.out
    have y5 : (0 : Int) ≤ (kk : Int) := by omega
    have y6 : (kk : Int) < 5 := by omega
    clear hv
    cases v with
    | true =>
     go_wp2_with fail
     clear c_S1_0 f_S1_0 c_S1_1 f_S1_1 c_S1_2 f_S1_2 c_S1_3 f_S1_3 l_S1
     refine ⟨⟨k + 1, ds, os, pl, Ax, Bx, cx, dx, By, HK.out, rfl, by go_num, NN, S1, PB, NM, T1, U1, ⟨k1a, k1b⟩, ⟨k1c, k1d⟩, RS⟩, by have := HK.out; simp [intOf]; omega⟩
    | false =>
     go_wp2_with fail
     clear c_S1_0 f_S1_0 c_S1_1 f_S1_1 c_S1_2 f_S1_2 c_S1_3 f_S1_3 l_S1
     clear z5 l5 x1 y1 y2 y3 hq hkq e3 t5
     obtain ⟨b, hb⟩ := get_some (show kk < obs.length by omega)
     have lb := HS60.out b (List.mem_of_getElem? hb)
     obtain ⟨ps, po, r1, r2, r3⟩ := RS.out.put HV.out hb (by omega) (HBY.out b (List.mem_of_getElem? hb))
     have R3 := Lib.hid r3
     have y7 : (kk : Int) < (obs.length : Int) := by omega
     obtain ⟨bo, oo, Aj, cj, rfl, lo, zo, j1, j2, hrb⟩ := (RMA.next NN.out HO.out).at_ hb
     have HRB := Lib.hid hrb
     have zn := nms_cell NM.out kk5
     have ln := blk_lt NM.out
     have PC := Lib.hid (fun (W : World) (h1 : RD By W Ax ds) (h2 : RO By W Bx os) (h3 : RBA 0 W Aj b) => put_calls (Dn : Int) (P : Int) Ax Bx cx dx By ds os (nmK kk) Aj cj 0 b W k1a k1b k1c k1d h1 h2 RS.out.small (by have := nmK_size kk; omega) j1 j2 h3)
     rw [r1, r2] at PC
     clear r1 r2 r3 hb hrb y4
     have HDRW := Lib.hid (Below.drew (Below.refl w14.heap.size w14))
     replace NN := Lib.hid (Bgo NN.out HDRW.out)
     replace T1 := Lib.hid (T1.out.next HDRW.out)
     replace U1 := Lib.hid (U1.out.next HDRW.out)
     replace PB := Lib.hid (blk_next HDRW.out PB.out)
     replace HRB := Lib.hid (RBA.next HDRW.out HRB.out)
     replace S1 := Lib.hid (blk_next HDRW.out S1.out)
     replace NM := Lib.hid (blk_next HDRW.out NM.out)
     clear HDRW
     have HAL : Hid (∀ kx9 : Nat, SZ [(0, ⟨g12, 0, none⟩, .int .i64 (Dn : Int)), (0, ⟨g12, 1, none⟩, .int .i64 (P : Int)), (0, ⟨g12, 2, none⟩, .slice Ax ds.length cx), (0, ⟨g12, 3, none⟩, .slice Bx os.length dx), (4, ⟨gn, kk, none⟩, .string (nmK kk)), (8, ⟨bo, oo + kk, none⟩, .slice Aj b.length cj)] [] kx9 w14.drew) := Lib.hid (fun kx9 => by
      constructor
      ·intro p hp e
       simp only [List.mem_cons, List.not_mem_nil, or_false] at hp
       rcases hp with rfl | rfl | rfl | rfl | rfl | rfl
       ·exact ⟨blk_lt S1.out, blk_cell S1.out 0 _ rfl⟩
       ·exact ⟨blk_lt S1.out, blk_cell S1.out 1 _ rfl⟩
       ·exact ⟨blk_lt S1.out, blk_cell S1.out 2 _ rfl⟩
       ·exact ⟨blk_lt S1.out, blk_cell S1.out 3 _ rfl⟩
       ·exact ⟨ln, zn⟩
       ·exact ⟨lo, zo⟩
      ·intro p hp e
       exact absurd hp (by simp)
      )
     refine region_I (S := SZ [(0, ⟨g12, 0, none⟩, .int .i64 (Dn : Int)), (0, ⟨g12, 1, none⟩, .int .i64 (P : Int)), (0, ⟨g12, 2, none⟩, .slice Ax ds.length cx), (0, ⟨g12, 3, none⟩, .slice Bx os.length dx), (4, ⟨gn, kk, none⟩, .string (nmK kk)), (8, ⟨bo, oo + kk, none⟩, .slice Aj b.length cj)] []) (by kernel_rfl) ?_
     refine tJ 0 (.agg #[.int .i64 (Dn : Int), .int .i64 (P : Int), .slice Ax ds.length cx, .slice Bx os.length dx]) (some 103) rfl (HAL.out 0) (Or.inl ⟨by rfl, ?_⟩) ?_
     ·intro X hX
      obtain ⟨hz0, hc0⟩ := hX.1 (0, ⟨g12, 0, none⟩, .int .i64 (Dn : Int)) (List.Mem.head _) rfl
      simp only at hz0 hc0
      obtain ⟨hz1, hc1⟩ := hX.1 (0, ⟨g12, 1, none⟩, .int .i64 (P : Int)) (List.Mem.tail _ (List.Mem.head _)) rfl
      simp only at hz1 hc1
      obtain ⟨hz2, hc2⟩ := hX.1 (0, ⟨g12, 2, none⟩, .slice Ax ds.length cx) (List.Mem.tail _ (List.Mem.tail _ (List.Mem.head _))) rfl
      simp only at hz2 hc2
      obtain ⟨hz3, hc3⟩ := hX.1 (0, ⟨g12, 3, none⟩, .slice Bx os.length dx) (List.Mem.tail _ (List.Mem.tail _ (List.Mem.tail _ (List.Mem.head _)))) rfl
      simp only at hz3 hc3
      clear hX
      go_simp
     try simp only [Act.put, zA, zB, zC]
     refine tJ 1 (.slice (some ⟨gn, 0, none⟩) 5 5) (some 104) rfl (SZ.drop (by simp) (by simp)) (Or.inl ⟨by rfl, ?_⟩) ?_
     ·intro X hX
      clear hX
      go_simp
     try simp only [Act.put, zA, zB, zC]
     refine tJ 2 (.int .i64 (kk : Int)) (some 105) rfl (SZ.drop (by simp) (by simp)) (Or.inl ⟨by rfl, ?_⟩) ?_
     ·intro X hX
      clear hX
      go_simp
     try simp only [Act.put, zA, zB, zC]
     refine tJ 3 (.pointer (some ⟨gn, kk, none⟩)) (some 106) rfl (SZ.drop (by simp) (by simp)) (Or.inl ⟨by rfl, ?_⟩) ?_
     ·intro X hX
      clear hX
      go_simp
     try simp only [Act.put, zA, zB, zC]
     refine tJ 4 (.string (nmK kk)) (some 107) rfl (HAL.out 4) (Or.inl ⟨by rfl, ?_⟩) ?_
     ·intro X hX
      obtain ⟨hz4, hc4⟩ := hX.1 (4, ⟨gn, kk, none⟩, .string (nmK kk)) (List.Mem.tail _ (List.Mem.tail _ (List.Mem.tail _ (List.Mem.tail _ (List.Mem.head _))))) rfl
      simp only at hz4 hc4
      clear hX
      go_simp
     try simp only [Act.put, zA, zB, zC]
     refine tJ 5 (.slice (some ⟨bo, oo, none⟩) obs.length co) (some 108) rfl (SZ.drop (by simp) (by simp)) (Or.inl ⟨by rfl, ?_⟩) ?_
     ·intro X hX
      clear hX
      go_simp
     try simp only [Act.put, zA, zB, zC]
     refine tJ 6 (.int .i64 (kk : Int)) (some 109) rfl (SZ.drop (by simp) (by simp)) (Or.inl ⟨by rfl, ?_⟩) ?_
     ·intro X hX
      clear hX
      go_simp
     try simp only [Act.put, zA, zB, zC]
     refine tJ 7 (.pointer (some ⟨bo, oo + kk, none⟩)) (some 110) rfl (SZ.drop (by simp) (by simp)) (Or.inl ⟨by rfl, ?_⟩) ?_
     ·intro X hX
      clear hX
      go_simp
     try simp only [Act.put, zA, zB, zC]
     refine tJ 8 (.slice Aj b.length cj) (some 111) rfl (HAL.out 8) (Or.inl ⟨by rfl, ?_⟩) ?_
     ·intro X hX
      obtain ⟨hz5, hc5⟩ := hX.1 (8, ⟨bo, oo + kk, none⟩, .slice Aj b.length cj) (List.Mem.tail _ (List.Mem.tail _ (List.Mem.tail _ (List.Mem.tail _ (List.Mem.tail _ (List.Mem.head _)))))) rfl
      simp only at hz5 hc5
      clear hX
      go_simp
     try simp only [Act.put, zA, zB, zC]
     refine only_I 9 (by kernel_rfl) rfl (fun K' hK' => ?_)
     go_simp
     go_at_call 14
     refine (PC.out _ T1.out.rd U1.out.ro HRB.out).mono ?_
     rintro e x21 ⟨v, u, rfl, ht, hu, hb⟩
     try simp only at ht hu
     obtain ⟨A6, c6, rfl, k6a, k6b⟩ := ht.form
     obtain ⟨B6, d6, rfl, k6c, k6d⟩ := hu.form
     have T6 := Lib.hid ht
     have U6 := Lib.hid hu
     clear ht hu
     replace NN := Lib.hid (Bgo NN.out hb)
     replace T1 := Lib.hid (T1.out.next hb)
     replace U1 := Lib.hid (U1.out.next hb)
     replace PB := Lib.hid (blk_next hb PB.out)
     replace HRB := Lib.hid (RBA.next hb HRB.out)
     replace S1 := Lib.hid (blk_next hb S1.out)
     replace NM := Lib.hid (blk_next hb NM.out)
     go_simp
     refine hK'.out _ _ (fun _ _ hS => hS.next hb) ?_
     clear hK' K'
     try simp only [Act.put, zA, zB, zC]
     replace HAL := Lib.hid (fun kx9 => (HAL.out kx9).next hb)
     clear hb
     refine tJ 10 (.tuple #[Tv (Dn : Int) (P : Int) (.slice A6 ps.length c6) (.slice B6 po.length d6), .int .i64 0]) (some 102) rfl (SZ.drop (by simp) (by simp)) (Or.inl ⟨by rfl, ?_⟩) ?_
     ·intro X hX
      clear hX
      go_simp
     try simp only [Act.put, zA, zB, zC]
     refine tJ 11 (Tv (Dn : Int) (P : Int) (.slice A6 ps.length c6) (.slice B6 po.length d6)) (some 113) rfl (SZ.drop (by simp) (by simp)) (Or.inl ⟨by rfl, ?_⟩) ?_
     ·intro X hX
      clear hX
      go_simp
     try simp only [Act.put, zA, zB, zC]
     refine tJ 12 (.int .i64 0) (some 114) rfl (SZ.drop (by simp) (by simp)) (Or.inl ⟨by rfl, ?_⟩) ?_
     ·intro X hX
      clear hX
      go_simp
     try simp only [Act.put, zA, zB, zC]
     refine only_I 13 (by kernel_rfl) rfl (fun K' hK' => ?_)
     have sc0 := blk_cell S1.out 0 _ rfl
     have sf0 := blk_frozen S1.out 0
     have sc1 := blk_cell S1.out 1 _ rfl
     have sf1 := blk_frozen S1.out 1
     have sc2 := blk_cell S1.out 2 _ rfl
     have sf2 := blk_frozen S1.out 2
     have sc3 := blk_cell S1.out 3 _ rfl
     have sf3 := blk_frozen S1.out 3
     have sl := blk_lt S1.out
     go_simp
     refine hK'.out _ _ (fun kk hk hS => ⟨fun p hp e => ?_, fun p hp e => ?_⟩) ?_
     ·simp only [List.mem_cons, List.not_mem_nil, or_false] at hp
      rcases hp with rfl | rfl | rfl | rfl | rfl | rfl
      ·subst e; exact bfl (by kernel_rfl) hk
      ·subst e; exact bfl (by kernel_rfl) hk
      ·subst e; exact bfl (by kernel_rfl) hk
      ·subst e; exact bfl (by kernel_rfl) hk
      ·subst e; exact bfl (by kernel_rfl) hk
      ·subst e; exact bfl (by kernel_rfl) hk
     ·exact absurd hp (by simp)
     clear hK' K'
     try simp only [Act.put, zA, zB, zC]
     refine tJ 14 (.int .i64 0) (some 11) rfl (SZ.drop (by simp) (by simp)) (Or.inl ⟨by rfl, ?_⟩) ?_
     ·intro X hX
      clear hX
      go_simp
     try simp only [Act.put, zA, zB, zC]
     clear HAL
     refine done_I (by kernel_rfl) ?_ _
     have Z1 : Hid (((((x21.setCell ⟨g12, 0, none⟩ (.int .i64 (Dn : Int))).setCell ⟨g12, 1, none⟩ (.int .i64 (P : Int))).setCell ⟨g12, 2, none⟩ (.slice A6 ps.length c6)).setCell ⟨g12, 3, none⟩ (.slice B6 po.length d6)).heap[g12]? = some (.cells #[.int .i64 (Dn : Int), .int .i64 (P : Int), .slice A6 ps.length c6, .slice B6 po.length d6] 25)) := Lib.hid (blk_set4 S1.out (.int .i64 (Dn : Int)) (.int .i64 (P : Int)) (.slice A6 ps.length c6) (.slice B6 po.length d6))
     replace NN : Hid (Below w.heap.size w ((((x21.setCell ⟨g12, 0, none⟩ (.int .i64 (Dn : Int))).setCell ⟨g12, 1, none⟩ (.int .i64 (P : Int))).setCell ⟨g12, 2, none⟩ (.slice A6 ps.length c6)).setCell ⟨g12, 3, none⟩ (.slice B6 po.length d6))) := Lib.hid (Bset4 NN.out NE6.out.1 (.int .i64 (Dn : Int)) (.int .i64 (P : Int)) (.slice A6 ps.length c6) (.slice B6 po.length d6))
     replace PB : Hid (((((x21.setCell ⟨g12, 0, none⟩ (.int .i64 (Dn : Int))).setCell ⟨g12, 1, none⟩ (.int .i64 (P : Int))).setCell ⟨g12, 2, none⟩ (.slice A6 ps.length c6)).setCell ⟨g12, 3, none⟩ (.slice B6 po.length d6)).heap[gn + 1]? = some (pbO pl)) := Lib.hid (blk_set4_other PB.out NE6.out.2.2.2.1 (.int .i64 (Dn : Int)) (.int .i64 (P : Int)) (.slice A6 ps.length c6) (.slice B6 po.length d6))
     replace NM : Hid (((((x21.setCell ⟨g12, 0, none⟩ (.int .i64 (Dn : Int))).setCell ⟨g12, 1, none⟩ (.int .i64 (P : Int))).setCell ⟨g12, 2, none⟩ (.slice A6 ps.length c6)).setCell ⟨g12, 3, none⟩ (.slice B6 po.length d6)).heap[gn]? = some (.cells #[.string ⟨#[97]⟩, .string ⟨#[98]⟩, .string ⟨#[99]⟩, .string ⟨#[100]⟩, .string ⟨#[101]⟩] 9)) := Lib.hid (blk_set4_other NM.out NE6.out.2.2.2.2.1 (.int .i64 (Dn : Int)) (.int .i64 (P : Int)) (.slice A6 ps.length c6) (.slice B6 po.length d6))
     replace T6 : Hid (OT _ ((((x21.setCell ⟨g12, 0, none⟩ (.int .i64 (Dn : Int))).setCell ⟨g12, 1, none⟩ (.int .i64 (P : Int))).setCell ⟨g12, 2, none⟩ (.slice A6 ps.length c6)).setCell ⟨g12, 3, none⟩ (.slice B6 po.length d6)) (.slice A6 ps.length c6) ps) := Lib.hid (OT.set4_ T6.out S1.out (.int .i64 (Dn : Int)) (.int .i64 (P : Int)) (.slice A6 ps.length c6) (.slice B6 po.length d6))
     replace U6 : Hid (OO _ ((((x21.setCell ⟨g12, 0, none⟩ (.int .i64 (Dn : Int))).setCell ⟨g12, 1, none⟩ (.int .i64 (P : Int))).setCell ⟨g12, 2, none⟩ (.slice A6 ps.length c6)).setCell ⟨g12, 3, none⟩ (.slice B6 po.length d6)) (.slice B6 po.length d6) po) := Lib.hid (OO.set4_ U6.out S1.out (.int .i64 (Dn : Int)) (.int .i64 (P : Int)) (.slice A6 ps.length c6) (.slice B6 po.length d6))
     replace S1 := Z1
     clear Z1
     generalize ((((x21.setCell ⟨g12, 0, none⟩ (.int .i64 (Dn : Int))).setCell ⟨g12, 1, none⟩ (.int .i64 (P : Int))).setCell ⟨g12, 2, none⟩ (.slice A6 ps.length c6)).setCell ⟨g12, 3, none⟩ (.slice B6 po.length d6)) = W22 at *
     have z5 := pb_cell PB.out HV.out
     have z6 : (W22).frozen? ⟨gn + 1, kk, none⟩ = false := blk_frozen PB.out kk
     have l5 := blk_lt PB.out
     go_wp2_with fail
     have NA := NE6.out
     obtain ⟨na, nb, nc, nd, ne, nf⟩ := NA
     replace S1 := Lib.hid (blk_set_other (b' := gn + 1) S1.out (fun h => nd h.symm) kk (.bool true))
     replace NM := Lib.hid (blk_set_other (b' := gn + 1) NM.out nf kk (.bool true))
     replace T6 := Lib.hid (OT.same_ (o := kk) T6.out PB.out ne_bool_u8 ne_bool_sl ne_bool_dk (.bool true))
     replace U6 := Lib.hid (OO.set_ (o := kk) U6.out PB.out ne_bool_ob (.bool true))
     replace NN := Lib.hid (Bset1 NN.out nc kk (.bool true))
     replace PB := Lib.hid (pb_set (k := kk) PB.out)
     refine ⟨⟨k + 1, ps, po, (pl.set kk true), A6, B6, c6, d6, _, HK.out, rfl, by go_num, NN, S1, PB, NM, T6, U6, ⟨k6a, k6b⟩, ⟨k6c, k6d⟩, R3⟩, by have := HK.out; simp [intOf]; omega⟩
   have kx : decide ((k : Int) < (ls.length : Int)) = false := decide_eq_false (by omega)
   generalize wr = WK at *
   go_wp2_with fail
   clear kx hlt hk hch hdl
   have NNb := NN
   have S1b := S1
   have PBb := PB
   have NMb := NM
   have T1b := T1
   have U1b := U1
   clear NN S1 PB NM T1 U1
   go_loopw [19] (fun i wr => ∃ k : Nat, k ≤ obs.length ∧ i = .int .i64 k ∧ Hid (Below WK.heap.size WK wr)) (fun i _ => obs.length - (intOf i).toNat)
   case atStart => exact ⟨0, by omega, rfl, Lib.hid (Below.refl _ _)⟩
   case round =>
    obtain ⟨k, hk, rfl, N1⟩ := hrel
    have NN := NNb
    have S1 := S1b
    have PB := PBb
    have NM := NMb
    have T1 := T1b
    have U1 := U1b
    replace NN := Lib.hid (Bgo NN.out N1.out)
    replace T1 := Lib.hid (T1.out.next N1.out)
    replace U1 := Lib.hid (U1.out.next N1.out)
    replace PB := Lib.hid (blk_next N1.out PB.out)
    replace S1 := Lib.hid (blk_next N1.out S1.out)
    replace NM := Lib.hid (blk_next N1.out NM.out)
    by_cases hlt : k < obs.length
    rotate_left
    ·have kx : decide ((k : Int) < (obs.length : Int)) = false := decide_eq_false (by omega)
     go_wp2_with fail
     go_ret
     exact ⟨rfl, NN.out⟩
    have kx : decide ((k : Int) < (obs.length : Int)) = true := decide_eq_true (by omega)
    have HK := Lib.hid hlt
    have k5 : k < 5 := by omega
    go_wp2_with fail
    clear kx
    have y5 : (0 : Int) ≤ (k : Int) := by omega
    have y6 : (k : Int) < 5 := by omega
    have y7 : (k : Int) < (obs.length : Int) := by omega
    obtain ⟨b, hb⟩ := get_some hlt
    obtain ⟨g1, g2⟩ := RS.out.get hb
    have HBB := Lib.hid hb
    obtain ⟨v, hv⟩ := get_some (show k < pl.length by rw [RS.out.five]; exact k5)
    have HV := Lib.hid hv
    have ES : Hid (∃ r, getR (Dn : Int) (P : Int) ds os (nmK k) = r ∧ ((v = true ∧ r = (b, 0)) ∨ (v = false ∧ r = ([], 6)))) := Lib.hid (by cases v; exact ⟨_, g2 hv, .inr ⟨rfl, rfl⟩⟩; exact ⟨_, g1 hv, .inl ⟨rfl, rfl⟩⟩)
    clear g1 g2 hv hb hlt
    obtain ⟨⟨gl, ge⟩, er, ec⟩ := ES.out
    have GC := Lib.hid (fun (W : World) (h1 : RD By W Ax ds) (h2 : RO By W Bx os) => get_calls (Dn : Int) (P : Int) Ax Bx cx dx By ds os (nmK k) W k1a k1b k1c k1d h1 h2 RS.out.small)
    rw [er] at GC
    clear er ES
    have zn := nms_cell NM.out k5
    have ln := blk_lt NM.out
    have HDRW := Lib.hid (Below.drew (Below.refl wr.heap.size wr))
    replace NN := Lib.hid (Bgo NN.out HDRW.out)
    replace T1 := Lib.hid (T1.out.next HDRW.out)
    replace U1 := Lib.hid (U1.out.next HDRW.out)
    replace PB := Lib.hid (blk_next HDRW.out PB.out)
    replace N1 := Lib.hid (Bgo N1.out HDRW.out)
    replace S1 := Lib.hid (blk_next HDRW.out S1.out)
    replace NM := Lib.hid (blk_next HDRW.out NM.out)
    clear HDRW
    have HAL : Hid (∀ kx9 : Nat, SZ [(0, ⟨g12, 0, none⟩, .int .i64 (Dn : Int)), (0, ⟨g12, 1, none⟩, .int .i64 (P : Int)), (0, ⟨g12, 2, none⟩, .slice Ax ds.length cx), (0, ⟨g12, 3, none⟩, .slice Bx os.length dx), (4, ⟨gn, k, none⟩, .string (nmK k))] [] kx9 wr.drew) := Lib.hid (fun kx9 => by
     constructor
     ·intro p hp e
      simp only [List.mem_cons, List.not_mem_nil, or_false] at hp
      rcases hp with rfl | rfl | rfl | rfl | rfl
      ·exact ⟨blk_lt S1.out, blk_cell S1.out 0 _ rfl⟩
      ·exact ⟨blk_lt S1.out, blk_cell S1.out 1 _ rfl⟩
      ·exact ⟨blk_lt S1.out, blk_cell S1.out 2 _ rfl⟩
      ·exact ⟨blk_lt S1.out, blk_cell S1.out 3 _ rfl⟩
      ·exact ⟨ln, zn⟩
     ·intro p hp e
      exact absurd hp (by simp)
     )
    refine region_I (S := SZ [(0, ⟨g12, 0, none⟩, .int .i64 (Dn : Int)), (0, ⟨g12, 1, none⟩, .int .i64 (P : Int)), (0, ⟨g12, 2, none⟩, .slice Ax ds.length cx), (0, ⟨g12, 3, none⟩, .slice Bx os.length dx), (4, ⟨gn, k, none⟩, .string (nmK k))] []) (by kernel_rfl) ?_
    refine tJ 0 (.agg #[.int .i64 (Dn : Int), .int .i64 (P : Int), .slice Ax ds.length cx, .slice Bx os.length dx]) (some 154) rfl (HAL.out 0) (Or.inl ⟨by rfl, ?_⟩) ?_
    ·intro X hX
     obtain ⟨hz0, hc0⟩ := hX.1 (0, ⟨g12, 0, none⟩, .int .i64 (Dn : Int)) (List.Mem.head _) rfl
     simp only at hz0 hc0
     obtain ⟨hz1, hc1⟩ := hX.1 (0, ⟨g12, 1, none⟩, .int .i64 (P : Int)) (List.Mem.tail _ (List.Mem.head _)) rfl
     simp only at hz1 hc1
     obtain ⟨hz2, hc2⟩ := hX.1 (0, ⟨g12, 2, none⟩, .slice Ax ds.length cx) (List.Mem.tail _ (List.Mem.tail _ (List.Mem.head _))) rfl
     simp only at hz2 hc2
     obtain ⟨hz3, hc3⟩ := hX.1 (0, ⟨g12, 3, none⟩, .slice Bx os.length dx) (List.Mem.tail _ (List.Mem.tail _ (List.Mem.tail _ (List.Mem.head _)))) rfl
     simp only at hz3 hc3
     clear hX
     go_simp
    try simp only [Act.put, zA, zB, zC]
    refine tJ 1 (.slice (some ⟨gn, 0, none⟩) 5 5) (some 155) rfl (SZ.drop (by simp) (by simp)) (Or.inl ⟨by rfl, ?_⟩) ?_
    ·intro X hX
     clear hX
     go_simp
    try simp only [Act.put, zA, zB, zC]
    refine tJ 2 (.int .i64 (k : Int)) (some 156) rfl (SZ.drop (by simp) (by simp)) (Or.inl ⟨by rfl, ?_⟩) ?_
    ·intro X hX
     clear hX
     go_simp
    try simp only [Act.put, zA, zB, zC]
    refine tJ 3 (.pointer (some ⟨gn, k, none⟩)) (some 157) rfl (SZ.drop (by simp) (by simp)) (Or.inl ⟨by rfl, ?_⟩) ?_
    ·intro X hX
     clear hX
     go_simp
    try simp only [Act.put, zA, zB, zC]
    refine tJ 4 (.string (nmK k)) (some 158) rfl (HAL.out 4) (Or.inl ⟨by rfl, ?_⟩) ?_
    ·intro X hX
     obtain ⟨hz4, hc4⟩ := hX.1 (4, ⟨gn, k, none⟩, .string (nmK k)) (List.Mem.tail _ (List.Mem.tail _ (List.Mem.tail _ (List.Mem.tail _ (List.Mem.head _))))) rfl
     simp only at hz4 hc4
     clear hX
     go_simp
    try simp only [Act.put, zA, zB, zC]
    refine only_I 5 (by kernel_rfl) rfl (fun K' hK' => ?_)
    go_simp
    go_at_call 16
    refine (GC.out _ T1.out.rd U1.out.ro).mono ?_
    rintro e x23 ⟨v8, rfl, hr, hb⟩
    simp only at hr
    obtain ⟨A8, c8, rfl, k8a, k8b, hr⟩ := hr
    have R8 := Lib.hid hr
    clear hr
    replace NN := Lib.hid (Bgo NN.out hb)
    replace T1 := Lib.hid (T1.out.next hb)
    replace U1 := Lib.hid (U1.out.next hb)
    replace PB := Lib.hid (blk_next hb PB.out)
    replace N1 := Lib.hid (Bgo N1.out hb)
    replace S1 := Lib.hid (blk_next hb S1.out)
    replace NM := Lib.hid (blk_next hb NM.out)
    go_simp
    refine hK'.out _ _ (fun _ _ hS => hS.next hb) ?_
    clear hK' K'
    try simp only [Act.put, zA, zB, zC]
    replace HAL := Lib.hid (fun kx9 => (HAL.out kx9).next hb)
    clear hb
    refine tJ 6 (.tuple #[.slice A8 gl.length c8, .int .i64 ge]) (some 153) rfl (SZ.drop (by simp) (by simp)) (Or.inl ⟨by rfl, ?_⟩) ?_
    ·intro X hX
     clear hX
     go_simp
    try simp only [Act.put, zA, zB, zC]
    refine tJ 7 (.slice A8 gl.length c8) (some 160) rfl (SZ.drop (by simp) (by simp)) (Or.inl ⟨by rfl, ?_⟩) ?_
    ·intro X hX
     clear hX
     go_simp
    try simp only [Act.put, zA, zB, zC]
    refine tJ 8 (.int .i64 ge) (some 161) rfl (SZ.drop (by simp) (by simp)) (Or.inl ⟨by rfl, ?_⟩) ?_
    ·intro X hX
     clear hX
     go_simp
    try simp only [Act.put, zA, zB, zC]
    refine tJ 9 (.slice A8 gl.length c8) (some 20) rfl (SZ.drop (by simp) (by simp)) (Or.inl ⟨by rfl, ?_⟩) ?_
    ·intro X hX
     clear hX
     go_simp
    try simp only [Act.put, zA, zB, zC]
    refine tJ 10 (.int .i64 ge) (some 21) rfl (SZ.drop (by simp) (by simp)) (Or.inl ⟨by rfl, ?_⟩) ?_
    ·intro X hX
     clear hX
     go_simp
    try simp only [Act.put, zA, zB, zC]
    clear HAL
    refine done_I (by kernel_rfl) ?_ _
    go_wp2_with fail
    clear zn ln
    obtain ⟨bo, oo, Aj, cj, rfl, lo, zo, j1, j2, hrb⟩ := (RMA.next NN.out HO.out).at_ HBB.out
    have HRB := Lib.hid hrb
    clear hrb
    have zp := pb_cell PB.out HV.out
    have lp := blk_lt PB.out
    clear HV
    rcases ec with ⟨rfl, ec⟩ | ⟨rfl, ec⟩
    ·injection ec with e1 e2
     subst e1 e2
     have HDRW := Lib.hid (Below.drew (Below.refl x23.heap.size x23))
     replace NN := Lib.hid (Bgo NN.out HDRW.out)
     replace T1 := Lib.hid (T1.out.next HDRW.out)
     replace U1 := Lib.hid (U1.out.next HDRW.out)
     replace PB := Lib.hid (blk_next HDRW.out PB.out)
     replace N1 := Lib.hid (Bgo N1.out HDRW.out)
     replace R8 := Lib.hid (RBA.next HDRW.out R8.out)
     replace HRB := Lib.hid (RBA.next HDRW.out HRB.out)
     replace S1 := Lib.hid (blk_next HDRW.out S1.out)
     replace NM := Lib.hid (blk_next HDRW.out NM.out)
     clear HDRW
     have HAL : Hid (∀ kx9 : Nat, SZ [(3, ⟨(gn + 1), k, none⟩, .bool true), (13, ⟨bo, oo + k, none⟩, .slice Aj gl.length cj), (22, ⟨(gn + 1), k, none⟩, .bool true)] [(9, A8, gl), (14, Aj, gl)] kx9 x23.drew) := Lib.hid (fun kx9 => by
      constructor
      ·intro p hp e
       simp only [List.mem_cons, List.not_mem_nil, or_false] at hp
       rcases hp with rfl | rfl | rfl
       ·exact ⟨lp, zp⟩
       ·exact ⟨lo, zo⟩
       ·exact ⟨lp, zp⟩
      ·intro p hp e
       simp only [List.mem_cons, List.not_mem_nil, or_false] at hp
       rcases hp with rfl | rfl
       ·exact R8.out
       ·exact HRB.out
      )
     refine region_I (S := SZ [(3, ⟨(gn + 1), k, none⟩, .bool true), (13, ⟨bo, oo + k, none⟩, .slice Aj gl.length cj), (22, ⟨(gn + 1), k, none⟩, .bool true)] [(9, A8, gl), (14, Aj, gl)]) (by kernel_rfl) ?_
     refine tJ 0 (.slice (some ⟨gn + 1, 0, none⟩) 5 5) (some 162) rfl (SZ.drop (by simp) (by simp)) (Or.inl ⟨by rfl, ?_⟩) ?_
     ·intro X hX
      clear hX
      go_simp
     try simp only [Act.put, zA, zB, zC]
     refine tJ 1 (.int .i64 (k : Int)) (some 163) rfl (SZ.drop (by simp) (by simp)) (Or.inl ⟨by rfl, ?_⟩) ?_
     ·intro X hX
      clear hX
      go_simp
     try simp only [Act.put, zA, zB, zC]
     refine tJ 2 (.pointer (some ⟨(gn + 1), k, none⟩)) (some 164) rfl (SZ.drop (by simp) (by simp)) (Or.inl ⟨by rfl, ?_⟩) ?_
     ·intro X hX
      clear hX
      go_simp
     try simp only [Act.put, zA, zB, zC]
     refine tJ 3 (.bool true) (some 165) rfl (HAL.out 3) (Or.inl ⟨by rfl, ?_⟩) ?_
     ·intro X hX
      obtain ⟨hz0, hc0⟩ := hX.1 (3, ⟨(gn + 1), k, none⟩, .bool true) (List.Mem.head _) rfl
      simp only at hz0 hc0
      clear hX
      go_simp
     try simp only [Act.put, zA, zB, zC]
     refine tJ 4 (.bool true) (some 166) rfl (SZ.drop (by simp) (by simp)) (Or.inl ⟨by rfl, ?_⟩) ?_
     ·intro X hX
      clear hX
      go_simp
     try simp only [Act.put, zA, zB, zC]
     refine tJ 5 (.int .i64 0) (some 167) rfl (SZ.drop (by simp) (by simp)) (Or.inl ⟨by rfl, ?_⟩) ?_
     ·intro X hX
      clear hX
      go_simp
     try simp only [Act.put, zA, zB, zC]
     refine tJ 6 (.bool false) (some 168) rfl (SZ.drop (by simp) (by simp)) (Or.inl ⟨by rfl, ?_⟩) ?_
     ·intro X hX
      clear hX
      go_simp
     try simp only [Act.put, zA, zB, zC]
     refine tJ 7 (.bool false) (some 169) rfl (SZ.drop (by simp) (by simp)) (Or.inl ⟨by rfl, ?_⟩) ?_
     ·intro X hX
      clear hX
      go_simp
     try simp only [Act.put, zA, zB, zC]
     refine tJ 8 (.slice A8 gl.length c8) (some 170) rfl (SZ.drop (by simp) (by simp)) (Or.inl ⟨by rfl, ?_⟩) ?_
     ·intro X hX
      clear hX
      go_simp
     try simp only [Act.put, zA, zB, zC]
     refine tJ 9 (.string (bstr gl)) (some 171) rfl (HAL.out 9) (Or.inl ⟨by rfl, ?_⟩) ?_
     ·intro X hX
      have cv1 := fun c => conv_rba c (hX.2 (9, A8, gl) (List.Mem.head _) rfl)
      clear hX
      go_simp
     try simp only [Act.put, zA, zB, zC]
     refine tJ 10 (.slice (some ⟨bo, oo, none⟩) obs.length co) (some 172) rfl (SZ.drop (by simp) (by simp)) (Or.inl ⟨by rfl, ?_⟩) ?_
     ·intro X hX
      clear hX
      go_simp
     try simp only [Act.put, zA, zB, zC]
     refine tJ 11 (.int .i64 (k : Int)) (some 173) rfl (SZ.drop (by simp) (by simp)) (Or.inl ⟨by rfl, ?_⟩) ?_
     ·intro X hX
      clear hX
      go_simp
     try simp only [Act.put, zA, zB, zC]
     refine tJ 12 (.pointer (some ⟨bo, oo + k, none⟩)) (some 174) rfl (SZ.drop (by simp) (by simp)) (Or.inl ⟨by rfl, ?_⟩) ?_
     ·intro X hX
      clear hX
      go_simp
     try simp only [Act.put, zA, zB, zC]
     refine tJ 13 (.slice Aj gl.length cj) (some 175) rfl (HAL.out 13) (Or.inl ⟨by rfl, ?_⟩) ?_
     ·intro X hX
      obtain ⟨hz1, hc1⟩ := hX.1 (13, ⟨bo, oo + k, none⟩, .slice Aj gl.length cj) (List.Mem.tail _ (List.Mem.head _)) rfl
      simp only at hz1 hc1
      clear hX
      go_simp
     try simp only [Act.put, zA, zB, zC]
     refine tJ 14 (.string (bstr gl)) (some 176) rfl (HAL.out 14) (Or.inl ⟨by rfl, ?_⟩) ?_
     ·intro X hX
      have cv1 := fun c => conv_rba c (hX.2 (14, Aj, gl) (List.Mem.tail _ (List.Mem.head _)) rfl)
      clear hX
      go_simp
     try simp only [Act.put, zA, zB, zC]
     refine tJ 15 (.bool false) (some 177) rfl (SZ.drop (by simp) (by simp)) (Or.inl ⟨by rfl, ?_⟩) ?_
     ·intro X hX
      clear hX
      go_simp
     try simp only [Act.put, zA, zB, zC]
     refine tJ 16 (.bool false) (some 178) rfl (SZ.drop (by simp) (by simp)) (Or.inl ⟨by rfl, ?_⟩) ?_
     ·intro X hX
      clear hX
      go_simp
     try simp only [Act.put, zA, zB, zC]
     refine tJ 17 (.bool false) (some 179) rfl (SZ.drop (by simp) (by simp)) (Or.inl ⟨by rfl, ?_⟩) ?_
     ·intro X hX
      clear hX
      go_simp
     try simp only [Act.put, zA, zB, zC]
     refine tJ 18 (.bool false) (some 180) rfl (SZ.drop (by simp) (by simp)) (Or.inl ⟨by rfl, ?_⟩) ?_
     ·intro X hX
      clear hX
      go_simp
     try simp only [Act.put, zA, zB, zC]
     refine tJ 19 (.slice (some ⟨gn + 1, 0, none⟩) 5 5) (some 181) rfl (SZ.drop (by simp) (by simp)) (Or.inl ⟨by rfl, ?_⟩) ?_
     ·intro X hX
      clear hX
      go_simp
     try simp only [Act.put, zA, zB, zC]
     refine tJ 20 (.int .i64 (k : Int)) (some 182) rfl (SZ.drop (by simp) (by simp)) (Or.inl ⟨by rfl, ?_⟩) ?_
     ·intro X hX
      clear hX
      go_simp
     try simp only [Act.put, zA, zB, zC]
     refine tJ 21 (.pointer (some ⟨(gn + 1), k, none⟩)) (some 183) rfl (SZ.drop (by simp) (by simp)) (Or.inl ⟨by rfl, ?_⟩) ?_
     ·intro X hX
      clear hX
      go_simp
     try simp only [Act.put, zA, zB, zC]
     refine tJ 22 (.bool true) (some 184) rfl (HAL.out 22) (Or.inl ⟨by rfl, ?_⟩) ?_
     ·intro X hX
      obtain ⟨hz2, hc2⟩ := hX.1 (22, ⟨(gn + 1), k, none⟩, .bool true) (List.Mem.tail _ (List.Mem.tail _ (List.Mem.head _))) rfl
      simp only at hz2 hc2
      clear hX
      go_simp
     try simp only [Act.put, zA, zB, zC]
     refine tJ 23 (.bool false) (some 185) rfl (SZ.drop (by simp) (by simp)) (Or.inl ⟨by rfl, ?_⟩) ?_
     ·intro X hX
      clear hX
      go_simp
     try simp only [Act.put, zA, zB, zC]
     refine tJ 24 (.bool false) (some 186) rfl (SZ.drop (by simp) (by simp)) (Or.inl ⟨by rfl, ?_⟩) ?_
     ·intro X hX
      clear hX
      go_simp
     try simp only [Act.put, zA, zB, zC]
     refine tJ 25 undef (some 187) rfl (HAL.out 25) (Or.inr ⟨by rfl, rfl⟩) ?_
     try simp only [Act.put, zA, zB, zC]
     refine tJ 26 undef (some 188) rfl (HAL.out 26) (Or.inr ⟨by rfl, rfl⟩) ?_
     try simp only [Act.put, zA, zB, zC]
     refine tJ 27 (.bool false) (some 189) rfl (SZ.drop (by simp) (by simp)) (Or.inl ⟨by rfl, ?_⟩) ?_
     ·intro X hX
      clear hX
      go_simp
     try simp only [Act.put, zA, zB, zC]
     refine tJ 28 (.bool false) (some 190) rfl (SZ.drop (by simp) (by simp)) (Or.inl ⟨by rfl, ?_⟩) ?_
     ·intro X hX
      clear hX
      go_simp
     try simp only [Act.put, zA, zB, zC]
     clear HAL
     refine done_I (by kernel_rfl) ?_ _
     go_wp2_with fail
     refine ⟨⟨k + 1, HK.out, by go_num, N1⟩, by have := HK.out; simp [intOf]; omega⟩
    injection ec with e1 e2
    subst e1 e2
    have HDRW := Lib.hid (Below.drew (Below.refl x23.heap.size x23))
    replace NN := Lib.hid (Bgo NN.out HDRW.out)
    replace T1 := Lib.hid (T1.out.next HDRW.out)
    replace U1 := Lib.hid (U1.out.next HDRW.out)
    replace PB := Lib.hid (blk_next HDRW.out PB.out)
    replace N1 := Lib.hid (Bgo N1.out HDRW.out)
    replace R8 := Lib.hid (RBA.next HDRW.out R8.out)
    replace HRB := Lib.hid (RBA.next HDRW.out HRB.out)
    replace S1 := Lib.hid (blk_next HDRW.out S1.out)
    replace NM := Lib.hid (blk_next HDRW.out NM.out)
    clear HDRW
    have HAL : Hid (∀ kx9 : Nat, SZ [(3, ⟨(gn + 1), k, none⟩, .bool false), (22, ⟨(gn + 1), k, none⟩, .bool false)] [] kx9 x23.drew) := Lib.hid (fun kx9 => by
     constructor
     ·intro p hp e
      simp only [List.mem_cons, List.not_mem_nil, or_false] at hp
      rcases hp with rfl | rfl
      ·exact ⟨lp, zp⟩
      ·exact ⟨lp, zp⟩
     ·intro p hp e
      exact absurd hp (by simp)
     )
    refine region_I (S := SZ [(3, ⟨(gn + 1), k, none⟩, .bool false), (22, ⟨(gn + 1), k, none⟩, .bool false)] []) (by kernel_rfl) ?_
    refine tJ 0 (.slice (some ⟨gn + 1, 0, none⟩) 5 5) (some 162) rfl (SZ.drop (by simp) (by simp)) (Or.inl ⟨by rfl, ?_⟩) ?_
    ·intro X hX
     clear hX
     go_simp
    try simp only [Act.put, zA, zB, zC]
    refine tJ 1 (.int .i64 (k : Int)) (some 163) rfl (SZ.drop (by simp) (by simp)) (Or.inl ⟨by rfl, ?_⟩) ?_
    ·intro X hX
     clear hX
     go_simp
    try simp only [Act.put, zA, zB, zC]
    refine tJ 2 (.pointer (some ⟨(gn + 1), k, none⟩)) (some 164) rfl (SZ.drop (by simp) (by simp)) (Or.inl ⟨by rfl, ?_⟩) ?_
    ·intro X hX
     clear hX
     go_simp
    try simp only [Act.put, zA, zB, zC]
    refine tJ 3 (.bool false) (some 165) rfl (HAL.out 3) (Or.inl ⟨by rfl, ?_⟩) ?_
    ·intro X hX
     obtain ⟨hz0, hc0⟩ := hX.1 (3, ⟨(gn + 1), k, none⟩, .bool false) (List.Mem.head _) rfl
     simp only at hz0 hc0
     clear hX
     go_simp
    try simp only [Act.put, zA, zB, zC]
    refine tJ 4 (.bool false) (some 166) rfl (SZ.drop (by simp) (by simp)) (Or.inl ⟨by rfl, ?_⟩) ?_
    ·intro X hX
     clear hX
     go_simp
    try simp only [Act.put, zA, zB, zC]
    refine tJ 5 undef (some 167) rfl (HAL.out 5) (Or.inr ⟨by rfl, rfl⟩) ?_
    try simp only [Act.put, zA, zB, zC]
    refine tJ 6 undef (some 168) rfl (HAL.out 6) (Or.inr ⟨by rfl, rfl⟩) ?_
    try simp only [Act.put, zA, zB, zC]
    refine tJ 7 undef (some 169) rfl (HAL.out 7) (Or.inr ⟨by rfl, rfl⟩) ?_
    try simp only [Act.put, zA, zB, zC]
    refine tJ 8 undef (some 170) rfl (HAL.out 8) (Or.inr ⟨by rfl, rfl⟩) ?_
    try simp only [Act.put, zA, zB, zC]
    refine tJ 9 undef (some 171) rfl (HAL.out 9) (Or.inr ⟨by rfl, rfl⟩) ?_
    try simp only [Act.put, zA, zB, zC]
    refine tJ 10 undef (some 172) rfl (HAL.out 10) (Or.inr ⟨by rfl, rfl⟩) ?_
    try simp only [Act.put, zA, zB, zC]
    refine tJ 11 undef (some 173) rfl (HAL.out 11) (Or.inr ⟨by rfl, rfl⟩) ?_
    try simp only [Act.put, zA, zB, zC]
    refine tJ 12 undef (some 174) rfl (HAL.out 12) (Or.inr ⟨by rfl, rfl⟩) ?_
    try simp only [Act.put, zA, zB, zC]
    refine tJ 13 undef (some 175) rfl (HAL.out 13) (Or.inr ⟨by rfl, rfl⟩) ?_
    try simp only [Act.put, zA, zB, zC]
    refine tJ 14 undef (some 176) rfl (HAL.out 14) (Or.inr ⟨by rfl, rfl⟩) ?_
    try simp only [Act.put, zA, zB, zC]
    refine tJ 15 undef (some 177) rfl (HAL.out 15) (Or.inr ⟨by rfl, rfl⟩) ?_
    try simp only [Act.put, zA, zB, zC]
    refine tJ 16 undef (some 178) rfl (HAL.out 16) (Or.inr ⟨by rfl, rfl⟩) ?_
    try simp only [Act.put, zA, zB, zC]
    refine tJ 17 (.bool false) (some 179) rfl (SZ.drop (by simp) (by simp)) (Or.inl ⟨by rfl, ?_⟩) ?_
    ·intro X hX
     clear hX
     go_simp
    try simp only [Act.put, zA, zB, zC]
    refine tJ 18 (.bool false) (some 180) rfl (SZ.drop (by simp) (by simp)) (Or.inl ⟨by rfl, ?_⟩) ?_
    ·intro X hX
     clear hX
     go_simp
    try simp only [Act.put, zA, zB, zC]
    refine tJ 19 (.slice (some ⟨gn + 1, 0, none⟩) 5 5) (some 181) rfl (SZ.drop (by simp) (by simp)) (Or.inl ⟨by rfl, ?_⟩) ?_
    ·intro X hX
     clear hX
     go_simp
    try simp only [Act.put, zA, zB, zC]
    refine tJ 20 (.int .i64 (k : Int)) (some 182) rfl (SZ.drop (by simp) (by simp)) (Or.inl ⟨by rfl, ?_⟩) ?_
    ·intro X hX
     clear hX
     go_simp
    try simp only [Act.put, zA, zB, zC]
    refine tJ 21 (.pointer (some ⟨(gn + 1), k, none⟩)) (some 183) rfl (SZ.drop (by simp) (by simp)) (Or.inl ⟨by rfl, ?_⟩) ?_
    ·intro X hX
     clear hX
     go_simp
    try simp only [Act.put, zA, zB, zC]
    refine tJ 22 (.bool false) (some 184) rfl (HAL.out 22) (Or.inl ⟨by rfl, ?_⟩) ?_
    ·intro X hX
     obtain ⟨hz1, hc1⟩ := hX.1 (22, ⟨(gn + 1), k, none⟩, .bool false) (List.Mem.tail _ (List.Mem.head _)) rfl
     simp only at hz1 hc1
     clear hX
     go_simp
    try simp only [Act.put, zA, zB, zC]
    refine tJ 23 (.bool true) (some 185) rfl (SZ.drop (by simp) (by simp)) (Or.inl ⟨by rfl, ?_⟩) ?_
    ·intro X hX
     clear hX
     go_simp
    try simp only [Act.put, zA, zB, zC]
    refine tJ 24 (.bool true) (some 186) rfl (SZ.drop (by simp) (by simp)) (Or.inl ⟨by rfl, ?_⟩) ?_
    ·intro X hX
     clear hX
     go_simp
    try simp only [Act.put, zA, zB, zC]
    refine tJ 25 (.int .i64 6) (some 187) rfl (SZ.drop (by simp) (by simp)) (Or.inl ⟨by rfl, ?_⟩) ?_
    ·intro X hX
     clear hX
     go_simp
    try simp only [Act.put, zA, zB, zC]
    refine tJ 26 (.bool false) (some 188) rfl (SZ.drop (by simp) (by simp)) (Or.inl ⟨by rfl, ?_⟩) ?_
    ·intro X hX
     clear hX
     go_simp
    try simp only [Act.put, zA, zB, zC]
    refine tJ 27 (.bool false) (some 189) rfl (SZ.drop (by simp) (by simp)) (Or.inl ⟨by rfl, ?_⟩) ?_
    ·intro X hX
     clear hX
     go_simp
    try simp only [Act.put, zA, zB, zC]
    refine tJ 28 (.bool false) (some 190) rfl (SZ.drop (by simp) (by simp)) (Or.inl ⟨by rfl, ?_⟩) ?_
    ·intro X hX
     clear hX
     go_simp
    try simp only [Act.put, zA, zB, zC]
    clear HAL
    refine done_I (by kernel_rfl) ?_ _
    go_wp2_with fail
    refine ⟨⟨k + 1, HK.out, by go_num, N1⟩, by have := HK.out; simp [intOf]; omega⟩

set_option maxRecDepth 100000 in
theorem lifted (os : Os) (started : os.Started) (H : Type) (enc : TypeId × Value → H) :
  ReturnsInHanded {} Try.checked os 5 .any (Rows.storeReadsSpec.pre6 enc Try.prog Try.f5 Rows.storeReadsRow.domain false) (Rows.storeReadsSpec.post enc Try.prog Try.f5 false true false false) := by
 refine returnsInHanded_of_change (C := Try.checked) own started (by kernel_rfl) Try.func5
  (ChangeSpec.witness6 (enc := enc) (C := Try.checked) false ⟨#[], #[.int .i64 0, .int .i64 0, .slice none 0 0, .slice none 0 0], []⟩ 8 (by kernel_rfl) (by kernel_rfl) (by kernel_rfl) (by kernel_rfl)) ?_
 intro W base args ds gs before hval0 hW hcnd _
 have hval : ∀ (j : Nat) t v, Try.f5.params[j]? = some t → args[j]? = some v → Value.okWide Try.prog W .any base t v := hval0
 have hW' := hW
 obtain ⟨p, q, hA0, hV, rfl, hfz, hnd⟩ := hW
 have hA : DataW.TrodAll enc Try.prog W 0 (fun _ => true) true Try.f5.params.toList args.toList ds p := hA0
 rw [Try.params5] at hA hval
 obtain ⟨v0, vs0, d0, ds0, p0, q0, hargs, rfl, rfl, h0, r0⟩ := trodAll_cons hA
 obtain ⟨v1, vs1, d1, ds1, p1, q1, rfl, rfl, rfl, h1, r1⟩ := trodAll_cons r0
 obtain ⟨v2, vs2, d2, ds2, p2, q2, rfl, rfl, rfl, h2, r2⟩ := trodAll_cons r1
 obtain ⟨v3, vs3, d3, ds3, p3, q3, rfl, rfl, rfl, h3, r3⟩ := trodAll_cons r2
 obtain ⟨rfl, rfl, rfl⟩ := trodAll_nil r3
 obtain rfl : args = #[v0, v1, v2, v3] := by cases args; simp_all
 obtain ⟨rfl, rfl⟩ := trodVars_none hV
 have k0 := h0
 have lt0 : ∀ x ∈ p0, x.block < W.heap.size := by obtain ⟨m, hm⟩ := k0; exact DataW.trod_lt m _ _ _ hm
 obtain ⟨x, rfl, _, _, wx⟩ := open_int Try.underlying3 (hval 0 3 v0 rfl rfl) h0
 have k1 := h1
 have lt1 : ∀ x ∈ p1, x.block < W.heap.size := by obtain ⟨m, hm⟩ := k1; exact DataW.trod_lt m _ _ _ hm
 obtain ⟨y, rfl, _, _, wy⟩ := open_int Try.underlying3 (hval 1 3 v1 rfl rfl) h1
 have k2 := h2
 have lt2 : ∀ x ∈ p2, x.block < W.heap.size := by obtain ⟨m, hm⟩ := k2; exact DataW.trod_lt m _ _ _ hm
 obtain ⟨sa2, sl2, sc2, rfl⟩ := okWide_slice Try.underlying44 (hval 2 44 v2 rfl rfl)
 obtain ⟨fu2, hf2⟩ := h2
 obtain ⟨Ao, obs, co, e2, ho1, ho2, ho⟩ := open_blocks (cs := [.slice sa2 sl2 sc2]) hf2
 simp only [List.cons.injEq, and_true, Value.slice.injEq] at e2
 obtain ⟨rfl, rfl, rfl⟩ := e2
 have k3 := h3
 have lt3 : ∀ x ∈ p3, x.block < W.heap.size := by obtain ⟨m, hm⟩ := k3; exact DataW.trod_lt m _ _ _ hm
 obtain ⟨sa3, sl3, sc3, rfl⟩ := okWide_slice Try.underlying59 (hval 3 59 v3 rfl rfl)
 obtain ⟨fu3, hf3⟩ := h3
 obtain ⟨Al, ls, cl, e3, hl1, hl2, hl⟩ := open_disks (cs := [.slice sa3 sl3 sc3]) hf3
 simp only [List.cons.injEq, and_true, Value.slice.injEq] at e3
 obtain ⟨rfl, rfl, rfl⟩ := e3
 clear hA0 hval0
 refine (walk x y _ _ obs _ _ ls W ho1 ho2 ho hl1 hl2 hl).mono fun e W' ⟨he, bel⟩ => ?_
 subst he
 exact ⟨_, rfl, _, _, _, [], _, [], hW', trodAll_mk1 (shut_bool Try.underlying4 _), (trodAll_cons_mk (Below.trod laidOut (by kernel_rfl) (of_decide_eq_true (by kernel_rfl)) k0 bel lt0) (trodAll_cons_mk (Below.trod laidOut (by kernel_rfl) (of_decide_eq_true (by kernel_rfl)) k1 bel lt1) (trodAll_cons_mk (Below.trod laidOut (by kernel_rfl) (of_decide_eq_true (by kernel_rfl)) k2 bel lt2) (trodAll_cons_mk (Below.trod laidOut (by kernel_rfl) (of_decide_eq_true (by kernel_rfl)) k3 bel lt3) trodAll_mk0)))), rfl, bel.frame _, fun h => by cases h⟩

theorem over : Rows.storeReadsRow.holds Try.pinned (OpenSpec.ofChange Rows.storeReadsSpec) :=
 OpenClaim.holds_of_wide 5 Try.f5 rfl rfl rfl rfl rfl rfl rfl ⟨rfl, rfl, rfl, rfl, rfl⟩ rfl rfl rfl rfl rfl (by kernel_rfl) Try.func5 (by kernel_rfl)
  (of_decide_eq_true (by kernel_rfl)) (by unfold Func.isWrapper; first | (rw [if_pos (by decide +kernel)]; kernel_rfl) | (rw [if_neg (by decide +kernel)]; exact ⟨rfl, rfl⟩))
  (fun os started H enc _ => lifted os started H enc)

theorem proved : Rows.StoreReadsSaid := over
#print axioms proved
end Go.Proofs.Ytapehckcmmompaa.storeReads
