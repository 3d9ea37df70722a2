/- For every input the law StoreStripes returns true and leaves its arguments as they were. -/
import Derived.Test.YtapehckcmmompaaRows
import Derived.Test.YtapehckcmmompaaM24
import Derived.Test.YtapehckcmmompaaM26
import Derived.Test.YtapehckcmmompaaM27
import Derived.Test.YtapehckcmmompaaM03
import Derived.Test.YtapehckcmmompaaM14
import Derived.WalkKit
import Derived.ProofKit
import Derived.OpenShut
import Derived.ShutString
import Derived.ChangeOld
import Derived.Below
import Derived.Lib.SmallJoins
namespace Go.Proofs.Ytapehckcmmompaa.storeStripes
open Go.ChangeShapes Go.WideShapes Go.ChangeAt Go.RowKit Go.Joins
open Go.ChangeMaps (open_string shut_string)
set_option linter.unusedVariables false

theorem own : ownKnob Try.prog.godebug = none := by kernel_rfl
theorem laidOut : laidOutB Try.prog = true := by kernel_rfl
attribute [local go_sem ↓] Go.wp_at_zero Go.wp_at_succ
set_option linter.unusedSimpArgs false
attribute [local go_sem ↓] eqOb
attribute [local go_sem] eqO_self
theorem new_len (n : Nat) : (List.replicate n (⟨false, []⟩ : Dk)).length = n := by simp
set_option maxRecDepth 100000 in
set_option maxHeartbeats 16000000 in
theorem walk (x y : Int) (Ab : Option Addr) (cb : Nat) (b : List Nat) (z : Int) (w : World) (hb1 : b.length ≤ cb) (hb2 : cb ≤ 9223372036854775807) (hb : RBA 0 w Ab b) :
  Calls Try.prog 4 #[.int .i64 x, .int .i64 y, .slice Ab b.length cb, .int .i64 z] w fun e w' => e = .returned (.bool true) ∧ Below w.heap.size w w' := by
 have HBY := Lib.hid hb
 have BY := Lib.hid hb.1
 have NN := Lib.hid (Below.refl w.heap.size w)
 clear hb
 have AL := Lib.hid (fun (W : World) => alive_calls W)
 have NE := Lib.hid (fun (W : World) => new_calls x y W)
 by_cases hz : newE x y = 0
 rotate_left
 ·have f1 : (newE x y != 0) = true := by rw [bne_iff_ne]; exact hz
  have f2 : decide (newE x y = 0) = false := decide_eq_false hz
  generalize newE x y = ne at *
  obtain ⟨⟨y1, y2, y3, y4⟩, hy⟩ : ∃ r, newS x y = r := ⟨_, rfl⟩
  rw [hy] at NE
  clear hy
  go_enter Try.func4, Try.ntmps4
  go_wp2_with fail
  refine (AL.out _).mono ?_
  rintro e w1 ⟨rfl, hb⟩
  replace NN := Lib.hid (Bgo NN.out hb)
  clear hb
  go_wp2_with fail
  refine (NE.out _).mono ?_
  rintro e w2 ⟨v, u, rfl, ht, hu, hb⟩
  try simp only at ht hu
  obtain ⟨A1, c1, rfl, k1a, k1b⟩ := ht.form
  obtain ⟨B1, d1, rfl, k1c, k1d⟩ := hu.form
  have T1 := Lib.hid ht.rd
  have U1 := Lib.hid hu.ro
  clear ht hu
  replace NN := Lib.hid (Bgo NN.out hb)
  clear hb
  have HB : Hid (Below w2.heap.size w2 (w2.alloc (.cells #[.int .i64 y1, .int .i64 y2, .slice A1 y3.length c1, .slice B1 y4.length d1] 25))) := Lib.hid (Bal (Below.refl _ _) _)
  have S1 := Lib.hid (blk_new w2 (.cells #[.int .i64 y1, .int .i64 y2, .slice A1 y3.length c1, .slice B1 y4.length d1] 25))
  have LT_S1 : Hid (w.heap.size ≤ w2.heap.size) := Lib.hid NN.out.size
  replace NN := Lib.hid (Bgo NN.out HB.out)
  replace T1 := Lib.hid (T1.out.next HB.out)
  replace U1 := Lib.hid (U1.out.next HB.out)
  clear HB
  go_wp2_with fail
  generalize w2.alloc (.cells #[.int .i64 y1, .int .i64 y2, .slice A1 y3.length c1, .slice B1 y4.length d1] 25) = W3 at *
  generalize w2.heap.size = g3 at *
  go_ret
  exact ⟨rfl, NN.out⟩
 by_cases q2 : 200 < b.length
 ·have t2 : decide ((200 : Int) < (b.length : Int)) = true := decide_eq_true (by omega)
  rw [hz] at NE
  clear hz q2
  obtain ⟨⟨y1, y2, y3, y4⟩, hy⟩ : ∃ r, newS x y = r := ⟨_, rfl⟩
  rw [hy] at NE
  clear hy
  go_enter Try.func4, Try.ntmps4
  go_wp2_with fail
  refine (AL.out _).mono ?_
  rintro e w4 ⟨rfl, hb⟩
  replace NN := Lib.hid (Bgo NN.out hb)
  clear hb
  go_wp2_with fail
  refine (NE.out _).mono ?_
  rintro e w5 ⟨v, u, rfl, ht, hu, hb⟩
  try simp only at ht hu
  obtain ⟨A1, c1, rfl, k1a, k1b⟩ := ht.form
  obtain ⟨B1, d1, rfl, k1c, k1d⟩ := hu.form
  have T1 := Lib.hid ht.rd
  have U1 := Lib.hid hu.ro
  clear ht hu
  replace NN := Lib.hid (Bgo NN.out hb)
  clear hb
  have HB : Hid (Below w5.heap.size w5 (w5.alloc (.cells #[.int .i64 y1, .int .i64 y2, .slice A1 y3.length c1, .slice B1 y4.length d1] 25))) := Lib.hid (Bal (Below.refl _ _) _)
  have S1 := Lib.hid (blk_new w5 (.cells #[.int .i64 y1, .int .i64 y2, .slice A1 y3.length c1, .slice B1 y4.length d1] 25))
  have LT_S1 : Hid (w.heap.size ≤ w5.heap.size) := Lib.hid NN.out.size
  replace NN := Lib.hid (Bgo NN.out HB.out)
  replace T1 := Lib.hid (T1.out.next HB.out)
  replace U1 := Lib.hid (U1.out.next HB.out)
  clear HB
  go_wp2_with fail
  generalize w5.alloc (.cells #[.int .i64 y1, .int .i64 y2, .slice A1 y3.length c1, .slice B1 y4.length d1] 25) = W6 at *
  generalize w5.heap.size = g6 at *
  go_ret
  exact ⟨rfl, NN.out⟩
 have t2 : decide ((200 : Int) < (b.length : Int)) = false := decide_eq_false (by omega)
 have hb200 : b.length ≤ 200 := by omega
 obtain ⟨Dn, P, mn, ws, o, rfl, rfl, hD1, hD8, hP4, hnew, WH⟩ := whole_facts hz BY.out hb200
 rw [hz, hnew] at NE
 have HW := Lib.hid WH
 have EL := Lib.hid WH.len
 have tl := new_len (Dn + P)
 have PU := Lib.hid (fun (D A : Option Addr) (cd ca B : Nat) (W : World) (h1 : (Dn + P) ≤ cd) h2 h3 h4 h5 h6 (Ab : Option Addr) (cb Bb : Nat) hb1 hb2 hb3 => put_calls (Dn : Int) (P : Int) D A cd ca B (List.replicate (Dn + P) ⟨false, []⟩) [] nmA Ab cb Bb b W (by rw [tl]; exact h1) h2 h3 h4 h5 h6 (fun _ h => by cases h) (by decide) hb1 hb2 hb3)
 rw [WH.put, WH.val] at PU
 rw [tl] at PU
 have FA := Lib.hid (fun (D A : Option Addr) (cd ca B : Nat) (W : World) (h1 : (Dn + P) ≤ cd) h2 h3 h4 h5 h6 => fail_calls (Dn : Int) (P : Int) D A cd ca B (List.replicate (Dn + P) ⟨false, []⟩) [] z W (by rw [tl]; exact h1) h2 h3 h4 h5 h6 (fun _ h => by cases h))
 rw [tl] at FA
 have hPT := Lib.hid (WH.part z)
 have lo : ∀ o' ∈ [o], Lh o'.name := fun o' h => by simp at h; subst h; rw [WH.nam]; unfold Lh; decide
 have LO := Lib.hid lo
 have OKW := Lib.hid (chS_ok WH.chk)
 have m38 := WH.m38
 have bfit := WH.fit
 clear WH hz hnew lo q2
 generalize List.replicate (Dn + P) (⟨false, []⟩ : Dk) = t0 at *
 go_enter Try.func4, Try.ntmps4
 go_wp2_with fail
 refine (AL.out _).mono ?_
 rintro e w7 ⟨rfl, hb⟩
 replace NN := Lib.hid (Bgo NN.out hb)
 clear hb
 go_wp2_with fail
 refine (NE.out _).mono ?_
 rintro e w8 ⟨v, u, rfl, ht, hu, hb⟩
 try simp only at ht hu
 obtain ⟨A1, c1, rfl, k1a, k1b⟩ := ht.form
 obtain ⟨B1, d1, rfl, k1c, k1d⟩ := hu.form
 have T1 := Lib.hid ht.rd
 have U1 := Lib.hid hu.ro
 clear ht hu
 rw [tl] at k1a ⊢
 clear tl
 replace NN := Lib.hid (Bgo NN.out hb)
 clear hb
 have HB : Hid (Below w8.heap.size w8 (w8.alloc (.cells #[.int .i64 (Dn : Int), .int .i64 (P : Int), .slice A1 (Dn + P) c1, .slice B1 0 d1] 25))) := Lib.hid (Bal (Below.refl _ _) _)
 have S1 := Lib.hid (blk_new w8 (.cells #[.int .i64 (Dn : Int), .int .i64 (P : Int), .slice A1 (Dn + P) c1, .slice B1 0 d1] 25))
 have LT_S1 : Hid (w.heap.size ≤ w8.heap.size) := Lib.hid NN.out.size
 replace NN := Lib.hid (Bgo NN.out HB.out)
 replace T1 := Lib.hid (T1.out.next HB.out)
 replace U1 := Lib.hid (U1.out.next HB.out)
 clear HB
 have c_S1_0 := blk_cell S1.out 0 _ rfl
 have f_S1_0 := blk_frozen S1.out 0
 have c_S1_1 := blk_cell S1.out 1 _ rfl
 have f_S1_1 := blk_frozen S1.out 1
 have c_S1_2 := blk_cell S1.out 2 _ rfl
 have f_S1_2 := blk_frozen S1.out 2
 have c_S1_3 := blk_cell S1.out 3 _ rfl
 have f_S1_3 := blk_frozen S1.out 3
 have l_S1 := blk_lt S1.out
 go_wp2_with fail
 clear c_S1_0 f_S1_0 c_S1_1 f_S1_1 c_S1_2 f_S1_2 c_S1_3 f_S1_3 l_S1
 generalize w8.alloc (.cells #[.int .i64 (Dn : Int), .int .i64 (P : Int), .slice A1 (Dn + P) c1, .slice B1 0 d1] 25) = W9 at *
 generalize w8.heap.size = g9 at *
 refine (PU.out A1 B1 c1 d1 _ _ k1a k1b k1c k1d T1.out U1.out Ab cb 0 hb1 hb2 (RBA.next NN.out HBY.out)).mono ?_
 rintro e w10 ⟨v, u, rfl, ht, hu, hb⟩
 try simp only at ht hu
 obtain ⟨A2, c2, rfl, k2a, k2b⟩ := ht.form
 obtain ⟨B2, d2, rfl, k2c, k2d⟩ := hu.form
 have T2 := Lib.hid ht.rd
 have U2 := Lib.hid hu.ro
 clear ht hu
 replace NN := Lib.hid (Bgo NN.out hb)
 replace T1 := Lib.hid (T1.out.next hb)
 replace U1 := Lib.hid (U1.out.next hb)
 replace S1 := Lib.hid (blk_next hb S1.out)
 clear hb
 have HB : Hid (Below w10.heap.size w10 (w10.alloc (.cells #[.int .i64 (Dn : Int), .int .i64 (P : Int), .slice A2 ws.length c2, .slice B2 1 d2] 25))) := Lib.hid (Bal (Below.refl _ _) _)
 have S2 := Lib.hid (blk_new w10 (.cells #[.int .i64 (Dn : Int), .int .i64 (P : Int), .slice A2 ws.length c2, .slice B2 1 d2] 25))
 have LT_S2 : Hid (g9 < w10.heap.size ∧ w.heap.size ≤ w10.heap.size) := Lib.hid ⟨blk_lt S1.out, NN.out.size⟩
 replace NN := Lib.hid (Bgo NN.out HB.out)
 replace T1 := Lib.hid (T1.out.next HB.out)
 replace U1 := Lib.hid (U1.out.next HB.out)
 replace T2 := Lib.hid (T2.out.next HB.out)
 replace U2 := Lib.hid (U2.out.next HB.out)
 replace S1 := Lib.hid (blk_next HB.out S1.out)
 clear HB
 have c_S2_0 := blk_cell S2.out 0 _ rfl
 have f_S2_0 := blk_frozen S2.out 0
 have c_S2_1 := blk_cell S2.out 1 _ rfl
 have f_S2_1 := blk_frozen S2.out 1
 have c_S2_2 := blk_cell S2.out 2 _ rfl
 have f_S2_2 := blk_frozen S2.out 2
 have c_S2_3 := blk_cell S2.out 3 _ rfl
 have f_S2_3 := blk_frozen S2.out 3
 have l_S2 := blk_lt S2.out
 go_wp2_with fail
 clear c_S2_0 f_S2_0 c_S2_1 f_S2_1 c_S2_2 f_S2_2 c_S2_3 f_S2_3 l_S2
 generalize w10.alloc (.cells #[.int .i64 (Dn : Int), .int .i64 (P : Int), .slice A2 ws.length c2, .slice B2 1 d2] 25) = W11 at *
 generalize w10.heap.size = g11 at *
 have KW := Lib.hid (fun (Bx : Nat) (W : World) (h1 : RD Bx W A2 ws) (h2 : RO Bx W B2 [o]) => oRefCheck_calls (Dn : Int) (P : Int) A2 B2 c2 d2 _ ws [o] W k2a k2b k2c k2d h1 h2 LO.out)
 rw [HW.out.chk] at KW
 have KF := Lib.hid (fun (Bx : Nat) (W : World) (h1 : RD Bx W A2 ws) => failed_calls (Dn : Int) (P : Int) (.slice B2 [o].length d2) A2 c2 _ ws W k2a k2b h1)
 rw [HW.out.fa] at KF
 refine (KW.out _ _ T2.out U2.out).mono ?_
 rintro e w12 ⟨rfl, hb⟩
 replace NN := Lib.hid (Bgo NN.out hb)
 replace T1 := Lib.hid (T1.out.next hb)
 replace U1 := Lib.hid (U1.out.next hb)
 replace T2 := Lib.hid (T2.out.next hb)
 replace U2 := Lib.hid (U2.out.next hb)
 replace S1 := Lib.hid (blk_next hb S1.out)
 replace S2 := Lib.hid (blk_next hb S2.out)
 clear hb
 have c_S2_0 := blk_cell S2.out 0 _ rfl
 have f_S2_0 := blk_frozen S2.out 0
 have c_S2_1 := blk_cell S2.out 1 _ rfl
 have f_S2_1 := blk_frozen S2.out 1
 have c_S2_2 := blk_cell S2.out 2 _ rfl
 have f_S2_2 := blk_frozen S2.out 2
 have c_S2_3 := blk_cell S2.out 3 _ rfl
 have f_S2_3 := blk_frozen S2.out 3
 have l_S2 := blk_lt S2.out
 go_wp2_with fail
 refine (KF.out _ _ T2.out).mono ?_
 rintro e w13 ⟨rfl, hb⟩
 clear c_S2_0 f_S2_0 c_S2_1 f_S2_1 c_S2_2 f_S2_2 c_S2_3 f_S2_3 l_S2
 replace NN := Lib.hid (Bgo NN.out hb)
 replace T1 := Lib.hid (T1.out.next hb)
 replace U1 := Lib.hid (U1.out.next hb)
 replace T2 := Lib.hid (T2.out.next hb)
 replace U2 := Lib.hid (U2.out.next hb)
 replace S1 := Lib.hid (blk_next hb S1.out)
 replace S2 := Lib.hid (blk_next hb S2.out)
 clear hb
 have c_S2_0 := blk_cell S2.out 0 _ rfl
 have f_S2_0 := blk_frozen S2.out 0
 have c_S2_1 := blk_cell S2.out 1 _ rfl
 have f_S2_1 := blk_frozen S2.out 1
 have c_S2_2 := blk_cell S2.out 2 _ rfl
 have f_S2_2 := blk_frozen S2.out 2
 have c_S2_3 := blk_cell S2.out 3 _ rfl
 have f_S2_3 := blk_frozen S2.out 3
 have l_S2 := blk_lt S2.out
 obtain ⟨b2, o2, rfl, hl2, z0, z1, z2, z3, z4⟩ := U2.out.at_ (i := 0) rfl
 simp only [Nat.zero_mul, Nat.add_zero] at z0 z1 z2 z3 z4
 go_wp2_with fail
 clear c_S2_0 f_S2_0 c_S2_1 f_S2_1 c_S2_2 f_S2_2 c_S2_3 f_S2_3 l_S2
 clear hl2 z0 z1 z2 z3 z4
 have HB : Hid (Below w13.heap.size w13 (w13.alloc (.cells #[.string o.name, .int .i64 o.size, .int .i64 o.from_, .int .i64 o.many, .int .i64 o.dig] 50))) := Lib.hid (Bal (Below.refl _ _) _)
 have XO := Lib.hid (blk_new w13 (.cells #[.string o.name, .int .i64 o.size, .int .i64 o.from_, .int .i64 o.many, .int .i64 o.dig] 50))
 have LT_XO : Hid (g9 < w13.heap.size ∧ g11 < w13.heap.size ∧ w.heap.size ≤ w13.heap.size) := Lib.hid ⟨blk_lt S1.out, blk_lt S2.out, NN.out.size⟩
 replace NN := Lib.hid (Bgo NN.out HB.out)
 replace T1 := Lib.hid (T1.out.next HB.out)
 replace U1 := Lib.hid (U1.out.next HB.out)
 replace T2 := Lib.hid (T2.out.next HB.out)
 replace U2 := Lib.hid (U2.out.next HB.out)
 replace S1 := Lib.hid (blk_next HB.out S1.out)
 replace S2 := Lib.hid (blk_next HB.out S2.out)
 clear HB
 generalize w13.alloc (.cells #[.string o.name, .int .i64 o.size, .int .i64 o.from_, .int .i64 o.many, .int .i64 o.dig] 50) = W14 at *
 generalize w13.heap.size = g14 at *
 have es := HW.out.size
 have ef := HW.out.frm
 have em := HW.out.many
 have ed := HW.out.dig
 have EM := Lib.hid em
 have mD : mn * 8 * Dn = mn * Dn * 8 := by rw [Nat.mul_assoc, Nat.mul_comm 8 Dn, ← Nat.mul_assoc]
 obtain ⟨m1, hm1⟩ : ∃ m1, m1 = mn * Dn := ⟨_, rfl⟩
 have lm1 : m1 ≤ 38 * 8 := by rw [hm1]; exact Nat.mul_le_mul m38 hD8
 obtain ⟨r1, hr1⟩ : ∃ r1 : Int, r1 = ((mn : Int) - 1) * (Dn : Int) := ⟨_, rfl⟩
 have lr1 : r1 = (m1 : Int) - (Dn : Int) := by rw [hr1, hm1]; push_cast; grind
 have tg := HW.out.tight
 rw [← hr1] at tg
 have a1 : (mn : Int) * (Dn : Int) = (m1 : Int) := by rw [hm1]; push_cast; rfl
 have a2 : IntKind.i64.wrap (m1 : Int) = (m1 : Int) := IntWalk.i64_in _ (by omega)
 have a3 : IntKind.i64.wrap ((m1 : Int) * 8) = (m1 : Int) * 8 := IntWalk.i64_in _ (by omega)
 have a4 : IntKind.i64.wrap ((mn : Int) - 1) = (mn : Int) - 1 := IntWalk.i64_in _ (by omega)
 have a5 : ((mn : Int) - 1) * (Dn : Int) = r1 := hr1.symm
 have a6 : IntKind.i64.wrap r1 = r1 := IntWalk.i64_in _ (by omega)
 have a7 : IntKind.i64.wrap (r1 * 8) = r1 * 8 := IntWalk.i64_in _ (by omega)
 rw [mD, ← hm1] at bfit
 have a8 : decide ((m1 : Int) * 8 < (b.length : Int)) = false := decide_eq_false (by omega)
 have a9 : decide ((b.length : Int) ≤ r1 * 8) = false := decide_eq_false (by omega)
 have DC := Lib.hid (fun (W : World) (h : Below w.heap.size w W) => calls_below (digest_calls Ab cb 0 b W hb1 hb2 (RBA.next h HBY.out)))
 generalize digL b = dg at DC ed
 clear hr1 lr1 tg mD hm1
 have XP := XO
 rw [es, ef, em, ed] at XP
 clear es ef em ed
 have HDRW := Lib.hid (Below.drew (Below.refl W14.heap.size W14))
 replace NN := Lib.hid (Bgo NN.out HDRW.out)
 replace T1 := Lib.hid (T1.out.next HDRW.out)
 replace U1 := Lib.hid (U1.out.next HDRW.out)
 replace T2 := Lib.hid (T2.out.next HDRW.out)
 replace U2 := Lib.hid (U2.out.next HDRW.out)
 replace S1 := Lib.hid (blk_next HDRW.out S1.out)
 replace S2 := Lib.hid (blk_next HDRW.out S2.out)
 replace XO := Lib.hid (blk_next HDRW.out XO.out)
 replace XP := Lib.hid (blk_next HDRW.out XP.out)
 clear HDRW
 have HAL : Hid (∀ kk : Nat, SZ [(1, ⟨g14, 1, none⟩, .int .i64 ((b.length : Nat) : Int)), (7, ⟨g14, 2, none⟩, .int .i64 0), (12, ⟨g14, 3, none⟩, .int .i64 (mn : Int)), (22, ⟨g14, 3, none⟩, .int .i64 (mn : Int)), (38, ⟨g14, 4, none⟩, .int .i64 ((dg : Nat) : Int))] [] kk W14.drew) := Lib.hid (fun kk => by
  constructor
  ·intro p hp e
   simp only [List.mem_cons, List.not_mem_nil, or_false] at hp
   rcases hp with rfl | rfl | rfl | rfl | rfl
   ·exact ⟨blk_lt XP.out, blk_cell XP.out 1 _ rfl⟩
   ·exact ⟨blk_lt XP.out, blk_cell XP.out 2 _ rfl⟩
   ·exact ⟨blk_lt XP.out, blk_cell XP.out 3 _ rfl⟩
   ·exact ⟨blk_lt XP.out, blk_cell XP.out 3 _ rfl⟩
   ·exact ⟨blk_lt XP.out, blk_cell XP.out 4 _ rfl⟩
  ·intro p hp e
   exact absurd hp (by simp)
  )
 refine region_I (S := SZ [(1, ⟨g14, 1, none⟩, .int .i64 ((b.length : Nat) : Int)), (7, ⟨g14, 2, none⟩, .int .i64 0), (12, ⟨g14, 3, none⟩, .int .i64 (mn : Int)), (22, ⟨g14, 3, none⟩, .int .i64 (mn : Int)), (38, ⟨g14, 4, none⟩, .int .i64 ((dg : Nat) : Int))] []) (by kernel_rfl) ?_
 refine tJ 0 (.pointer (some ⟨g14, 1, none⟩)) (some 86) rfl (SZ.drop (by simp) (by simp)) (Or.inl ⟨by rfl, ?_⟩) ?_
 ·intro X hX
  clear hX
  go_simp
 try simp only [Act.put, zA, zB, zC]
 refine tJ 1 (.int .i64 ((b.length : Nat) : Int)) (some 87) rfl (HAL.out 1) (Or.inl ⟨by rfl, ?_⟩) ?_
 ·intro X hX
  obtain ⟨hz0, hc0⟩ := hX.1 (1, ⟨g14, 1, none⟩, .int .i64 ((b.length : Nat) : Int)) (List.Mem.head _) rfl
  simp only at hz0 hc0
  clear hX
  go_simp
 try simp only [Act.put, zA, zB, zC]
 refine tJ 2 (.slice Ab b.length cb) (some 88) rfl (SZ.drop (by simp) (by simp)) (Or.inl ⟨by rfl, ?_⟩) ?_
 ·intro X hX
  clear hX
  go_simp
 try simp only [Act.put, zA, zB, zC]
 refine tJ 3 (.int .i64 (b.length : Nat)) (some 89) rfl (SZ.drop (by simp) (by simp)) (Or.inl ⟨by rfl, ?_⟩) ?_
 ·intro X hX
  clear hX
  go_simp
 try simp only [Act.put, zA, zB, zC]
 refine tJ 4 (.bool false) (some 90) rfl (SZ.drop (by simp) (by simp)) (Or.inl ⟨by rfl, ?_⟩) ?_
 ·intro X hX
  clear hX
  go_simp
 try simp only [Act.put, zA, zB, zC]
 refine tJ 5 (.bool false) (some 91) rfl (SZ.drop (by simp) (by simp)) (Or.inl ⟨by rfl, ?_⟩) ?_
 ·intro X hX
  clear hX
  go_simp
 try simp only [Act.put, zA, zB, zC]
 refine tJ 6 (.pointer (some ⟨g14, 2, none⟩)) (some 92) rfl (SZ.drop (by simp) (by simp)) (Or.inl ⟨by rfl, ?_⟩) ?_
 ·intro X hX
  clear hX
  go_simp
 try simp only [Act.put, zA, zB, zC]
 refine tJ 7 (.int .i64 0) (some 93) rfl (HAL.out 7) (Or.inl ⟨by rfl, ?_⟩) ?_
 ·intro X hX
  obtain ⟨hz1, hc1⟩ := hX.1 (7, ⟨g14, 2, none⟩, .int .i64 0) (List.Mem.tail _ (List.Mem.head _)) rfl
  simp only at hz1 hc1
  clear hX
  go_simp
 try simp only [Act.put, zA, zB, zC]
 refine tJ 8 (.bool false) (some 94) rfl (SZ.drop (by simp) (by simp)) (Or.inl ⟨by rfl, ?_⟩) ?_
 ·intro X hX
  clear hX
  go_simp
 try simp only [Act.put, zA, zB, zC]
 refine tJ 9 (.bool false) (some 95) rfl (SZ.drop (by simp) (by simp)) (Or.inl ⟨by rfl, ?_⟩) ?_
 ·intro X hX
  clear hX
  go_simp
 try simp only [Act.put, zA, zB, zC]
 refine tJ 10 (.bool false) (some 96) rfl (SZ.drop (by simp) (by simp)) (Or.inl ⟨by rfl, ?_⟩) ?_
 ·intro X hX
  clear hX
  go_simp
 try simp only [Act.put, zA, zB, zC]
 refine tJ 11 (.pointer (some ⟨g14, 3, none⟩)) (some 97) rfl (SZ.drop (by simp) (by simp)) (Or.inl ⟨by rfl, ?_⟩) ?_
 ·intro X hX
  clear hX
  go_simp
 try simp only [Act.put, zA, zB, zC]
 refine tJ 12 (.int .i64 (mn : Int)) (some 98) rfl (HAL.out 12) (Or.inl ⟨by rfl, ?_⟩) ?_
 ·intro X hX
  obtain ⟨hz2, hc2⟩ := hX.1 (12, ⟨g14, 3, none⟩, .int .i64 (mn : Int)) (List.Mem.tail _ (List.Mem.tail _ (List.Mem.head _))) rfl
  simp only at hz2 hc2
  clear hX
  go_simp
 try simp only [Act.put, zA, zB, zC]
 refine tJ 13 (.int .i64 (Dn : Int)) (some 99) rfl (SZ.drop (by simp) (by simp)) (Or.inl ⟨by rfl, ?_⟩) ?_
 ·intro X hX
  clear hX
  go_simp
 try simp only [Act.put, zA, zB, zC]
 refine tJ 14 (.int .i64 (m1 : Int)) (some 100) rfl (SZ.drop (by simp) (by simp)) (Or.inl ⟨by rfl, ?_⟩) ?_
 ·intro X hX
  clear hX
  go_simp
 try simp only [Act.put, zA, zB, zC]
 refine tJ 15 (.int .i64 ((m1 : Int) * 8)) (some 101) rfl (SZ.drop (by simp) (by simp)) (Or.inl ⟨by rfl, ?_⟩) ?_
 ·intro X hX
  clear hX
  go_simp
 try simp only [Act.put, zA, zB, zC]
 refine tJ 16 (.slice Ab b.length cb) (some 102) rfl (SZ.drop (by simp) (by simp)) (Or.inl ⟨by rfl, ?_⟩) ?_
 ·intro X hX
  clear hX
  go_simp
 try simp only [Act.put, zA, zB, zC]
 refine tJ 17 (.int .i64 (b.length : Nat)) (some 103) rfl (SZ.drop (by simp) (by simp)) (Or.inl ⟨by rfl, ?_⟩) ?_
 ·intro X hX
  clear hX
  go_simp
 try simp only [Act.put, zA, zB, zC]
 refine tJ 18 (.bool false) (some 104) rfl (SZ.drop (by simp) (by simp)) (Or.inl ⟨by rfl, ?_⟩) ?_
 ·intro X hX
  clear hX
  go_simp
 try simp only [Act.put, zA, zB, zC]
 refine tJ 19 (.bool false) (some 105) rfl (SZ.drop (by simp) (by simp)) (Or.inl ⟨by rfl, ?_⟩) ?_
 ·intro X hX
  clear hX
  go_simp
 try simp only [Act.put, zA, zB, zC]
 refine tJ 20 (.bool false) (some 106) rfl (SZ.drop (by simp) (by simp)) (Or.inl ⟨by rfl, ?_⟩) ?_
 ·intro X hX
  clear hX
  go_simp
 try simp only [Act.put, zA, zB, zC]
 refine tJ 21 (.pointer (some ⟨g14, 3, none⟩)) (some 107) rfl (SZ.drop (by simp) (by simp)) (Or.inl ⟨by rfl, ?_⟩) ?_
 ·intro X hX
  clear hX
  go_simp
 try simp only [Act.put, zA, zB, zC]
 refine tJ 22 (.int .i64 (mn : Int)) (some 108) rfl (HAL.out 22) (Or.inl ⟨by rfl, ?_⟩) ?_
 ·intro X hX
  obtain ⟨hz3, hc3⟩ := hX.1 (22, ⟨g14, 3, none⟩, .int .i64 (mn : Int)) (List.Mem.tail _ (List.Mem.tail _ (List.Mem.tail _ (List.Mem.head _)))) rfl
  simp only at hz3 hc3
  clear hX
  go_simp
 try simp only [Act.put, zA, zB, zC]
 refine tJ 23 (.int .i64 ((mn : Int) - 1)) (some 109) rfl (SZ.drop (by simp) (by simp)) (Or.inl ⟨by rfl, ?_⟩) ?_
 ·intro X hX
  clear hX
  go_simp
 try simp only [Act.put, zA, zB, zC]
 refine tJ 24 (.int .i64 (Dn : Int)) (some 110) rfl (SZ.drop (by simp) (by simp)) (Or.inl ⟨by rfl, ?_⟩) ?_
 ·intro X hX
  clear hX
  go_simp
 try simp only [Act.put, zA, zB, zC]
 refine tJ 25 (.int .i64 r1) (some 111) rfl (SZ.drop (by simp) (by simp)) (Or.inl ⟨by rfl, ?_⟩) ?_
 ·intro X hX
  clear hX
  go_simp
 try simp only [Act.put, zA, zB, zC]
 refine tJ 26 (.int .i64 (r1 * 8)) (some 112) rfl (SZ.drop (by simp) (by simp)) (Or.inl ⟨by rfl, ?_⟩) ?_
 ·intro X hX
  clear hX
  go_simp
 try simp only [Act.put, zA, zB, zC]
 refine tJ 27 (.slice Ab b.length cb) (some 113) rfl (SZ.drop (by simp) (by simp)) (Or.inl ⟨by rfl, ?_⟩) ?_
 ·intro X hX
  clear hX
  go_simp
 try simp only [Act.put, zA, zB, zC]
 refine tJ 28 (.int .i64 (b.length : Nat)) (some 114) rfl (SZ.drop (by simp) (by simp)) (Or.inl ⟨by rfl, ?_⟩) ?_
 ·intro X hX
  clear hX
  go_simp
 try simp only [Act.put, zA, zB, zC]
 refine tJ 29 (.bool false) (some 115) rfl (SZ.drop (by simp) (by simp)) (Or.inl ⟨by rfl, ?_⟩) ?_
 ·intro X hX
  clear hX
  go_simp
 try simp only [Act.put, zA, zB, zC]
 refine tJ 30 (.bool false) (some 116) rfl (SZ.drop (by simp) (by simp)) (Or.inl ⟨by rfl, ?_⟩) ?_
 ·intro X hX
  clear hX
  go_simp
 try simp only [Act.put, zA, zB, zC]
 refine tJ 31 undef (some 117) rfl (HAL.out 31) (Or.inr ⟨by rfl, rfl⟩) ?_
 try simp only [Act.put, zA, zB, zC]
 refine tJ 32 undef (some 118) rfl (HAL.out 32) (Or.inr ⟨by rfl, rfl⟩) ?_
 try simp only [Act.put, zA, zB, zC]
 refine tJ 33 undef (some 119) rfl (HAL.out 33) (Or.inr ⟨by rfl, rfl⟩) ?_
 try simp only [Act.put, zA, zB, zC]
 refine tJ 34 (.bool false) (some 120) rfl (SZ.drop (by simp) (by simp)) (Or.inl ⟨by rfl, ?_⟩) ?_
 ·intro X hX
  clear hX
  go_simp
 try simp only [Act.put, zA, zB, zC]
 refine tJ 35 (.bool false) (some 121) rfl (SZ.drop (by simp) (by simp)) (Or.inl ⟨by rfl, ?_⟩) ?_
 ·intro X hX
  clear hX
  go_simp
 try simp only [Act.put, zA, zB, zC]
 refine tJ 36 (.bool false) (some 122) rfl (SZ.drop (by simp) (by simp)) (Or.inl ⟨by rfl, ?_⟩) ?_
 ·intro X hX
  clear hX
  go_simp
 try simp only [Act.put, zA, zB, zC]
 refine tJ 37 (.pointer (some ⟨g14, 4, none⟩)) (some 123) rfl (SZ.drop (by simp) (by simp)) (Or.inl ⟨by rfl, ?_⟩) ?_
 ·intro X hX
  clear hX
  go_simp
 try simp only [Act.put, zA, zB, zC]
 refine tJ 38 (.int .i64 ((dg : Nat) : Int)) (some 124) rfl (HAL.out 38) (Or.inl ⟨by rfl, ?_⟩) ?_
 ·intro X hX
  obtain ⟨hz4, hc4⟩ := hX.1 (38, ⟨g14, 4, none⟩, .int .i64 ((dg : Nat) : Int)) (List.Mem.tail _ (List.Mem.tail _ (List.Mem.tail _ (List.Mem.tail _ (List.Mem.head _))))) rfl
  simp only at hz4 hc4
  clear hX
  go_simp
 try simp only [Act.put, zA, zB, zC]
 refine tJ 39 (.slice Ab b.length cb) (some 125) rfl (SZ.drop (by simp) (by simp)) (Or.inl ⟨by rfl, ?_⟩) ?_
 ·intro X hX
  clear hX
  go_simp
 try simp only [Act.put, zA, zB, zC]
 refine only_I 40 (by kernel_rfl) rfl (fun K' hK' => ?_)
 go_simp
 go_at_call 18
 refine (DC.out _ NN.out).mono ?_
 rintro e x15 ⟨rfl, hb⟩
 replace NN := Lib.hid (Bgo NN.out hb)
 replace T1 := Lib.hid (T1.out.next hb)
 replace U1 := Lib.hid (U1.out.next hb)
 replace T2 := Lib.hid (T2.out.next hb)
 replace U2 := Lib.hid (U2.out.next hb)
 replace S1 := Lib.hid (blk_next hb S1.out)
 replace S2 := Lib.hid (blk_next hb S2.out)
 replace XO := Lib.hid (blk_next hb XO.out)
 replace XP := Lib.hid (blk_next hb XP.out)
 go_simp
 refine hK'.out _ _ (fun _ _ hS => hS.next hb) ?_
 clear hK' K'
 try simp only [Act.put, zA, zB, zC]
 replace HAL := Lib.hid (fun kk => (HAL.out kk).next hb)
 clear hb
 refine tJ 41 (.bool false) (some 127) rfl (SZ.drop (by simp) (by simp)) (Or.inl ⟨by rfl, ?_⟩) ?_
 ·intro X hX
  clear hX
  go_simp
 try simp only [Act.put, zA, zB, zC]
 refine tJ 42 (.bool false) (some 128) rfl (SZ.drop (by simp) (by simp)) (Or.inl ⟨by rfl, ?_⟩) ?_
 ·intro X hX
  clear hX
  go_simp
 try simp only [Act.put, zA, zB, zC]
 clear HAL
 refine done_I (by kernel_rfl) ?_ _
 clear a1 a2 a3 a4 a5 a6 a7 a8 a9
 go_wp2_with fail
 have NNb := NN
 have S1b := S1
 have S2b := S2
 have XOb := XO
 have XPb := XP
 have T1b := T1
 have U1b := U1
 have T2b := T2
 have U2b := U2
 clear NN S1 S2 XO XP T1 U1 T2 U2
 have e8 : (8 : Nat) ≤ 8 := Nat.le_refl _
 go_loopw [15] (fun i wr => ∃ k : Nat, k ≤ mn ∧ i = .int .i64 k ∧ Hid (Below x15.heap.size x15 wr)) (fun i _ => mn - (intOf i).toNat)
 case atStart => exact ⟨0, by omega, rfl, Lib.hid (Below.refl _ _)⟩
 case round =>
  obtain ⟨k, hk, rfl, N1⟩ := hrel
  have NN := NNb
  have S1 := S1b
  have S2 := S2b
  have XO := XOb
  have XP := XPb
  have T1 := T1b
  have U1 := U1b
  have T2 := T2b
  have U2 := U2b
  replace NN := Lib.hid (Bgo NN.out N1.out)
  replace T1 := Lib.hid (T1.out.next N1.out)
  replace U1 := Lib.hid (U1.out.next N1.out)
  replace T2 := Lib.hid (T2.out.next N1.out)
  replace U2 := Lib.hid (U2.out.next N1.out)
  replace S1 := Lib.hid (blk_next N1.out S1.out)
  replace S2 := Lib.hid (blk_next N1.out S2.out)
  replace XO := Lib.hid (blk_next N1.out XO.out)
  replace XP := Lib.hid (blk_next N1.out XP.out)
  by_cases hlt : k < mn
  rotate_left
  ·have hkm : k = mn := by omega
   have kx : decide ((k : Int) < (mn : Int)) = false := decide_eq_false (by omega)
   have c_XP_0 := blk_cell XP.out 0 _ rfl
   have f_XP_0 := blk_frozen XP.out 0
   have c_XP_1 := blk_cell XP.out 1 _ rfl
   have f_XP_1 := blk_frozen XP.out 1
   have c_XP_2 := blk_cell XP.out 2 _ rfl
   have f_XP_2 := blk_frozen XP.out 2
   have c_XP_3 := blk_cell XP.out 3 _ rfl
   have f_XP_3 := blk_frozen XP.out 3
   have c_XP_4 := blk_cell XP.out 4 _ rfl
   have f_XP_4 := blk_frozen XP.out 4
   have l_XP := blk_lt XP.out
   have c_S1_0 := blk_cell S1.out 0 _ rfl
   have f_S1_0 := blk_frozen S1.out 0
   have c_S1_1 := blk_cell S1.out 1 _ rfl
   have f_S1_1 := blk_frozen S1.out 1
   have c_S1_2 := blk_cell S1.out 2 _ rfl
   have f_S1_2 := blk_frozen S1.out 2
   have c_S1_3 := blk_cell S1.out 3 _ rfl
   have f_S1_3 := blk_frozen S1.out 3
   have l_S1 := blk_lt S1.out
   go_wp2_with fail
   clear c_XP_0 f_XP_0 c_XP_1 f_XP_1 c_XP_2 f_XP_2 c_XP_3 f_XP_3 c_XP_4 f_XP_4 l_XP c_S1_0 f_S1_0 c_S1_1 f_S1_1 c_S1_2 f_S1_2 c_S1_3 f_S1_3 l_S1
   clear kx N1 hkm hk NNb S1b S2b XOb XPb T1b U1b T2b U2b
   by_cases hf : faiE (Dn : Int) (P : Int) t0 [] z = 0
   rotate_left
   ·have f1 : (faiE (Dn : Int) (P : Int) t0 [] z != 0) = true := by rw [bne_iff_ne]; exact hf
    have f2 : decide (faiE (Dn : Int) (P : Int) t0 [] z = 0) = false := decide_eq_false hf
    clear hf
    generalize faiE (Dn : Int) (P : Int) t0 [] z = fe at *
    obtain ⟨⟨y1, y2, y3, y4⟩, hy⟩ : ∃ r, faiS (Dn : Int) (P : Int) t0 [] z = r := ⟨_, rfl⟩
    rw [hy] at FA
    clear hy hPT
    refine (FA.out A1 B1 c1 d1 _ _ k1a k1b k1c k1d T1.out U1.out).mono ?_
    rintro e w18 ⟨v, u, rfl, ht, hu, hb⟩
    try simp only at ht hu
    obtain ⟨A3, c3, rfl, k3a, k3b⟩ := ht.form
    obtain ⟨B3, d3, rfl, k3c, k3d⟩ := hu.form
    have T3 := Lib.hid ht.rd
    have U3 := Lib.hid hu.ro
    clear ht hu
    replace NN := Lib.hid (Bgo NN.out hb)
    replace T1 := Lib.hid (T1.out.next hb)
    replace U1 := Lib.hid (U1.out.next hb)
    replace T2 := Lib.hid (T2.out.next hb)
    replace U2 := Lib.hid (U2.out.next hb)
    replace S1 := Lib.hid (blk_next hb S1.out)
    replace S2 := Lib.hid (blk_next hb S2.out)
    replace XO := Lib.hid (blk_next hb XO.out)
    replace XP := Lib.hid (blk_next hb XP.out)
    clear hb
    have HB : Hid (Below w18.heap.size w18 (w18.alloc (.cells #[.int .i64 y1, .int .i64 y2, .slice A3 y3.length c3, .slice B3 y4.length d3] 25))) := Lib.hid (Bal (Below.refl _ _) _)
    have S3 := Lib.hid (blk_new w18 (.cells #[.int .i64 y1, .int .i64 y2, .slice A3 y3.length c3, .slice B3 y4.length d3] 25))
    have LT_S3 : Hid (g9 < w18.heap.size ∧ g11 < w18.heap.size ∧ g14 < w18.heap.size ∧ g14 < w18.heap.size ∧ w.heap.size ≤ w18.heap.size) := Lib.hid ⟨blk_lt S1.out, blk_lt S2.out, blk_lt XO.out, blk_lt XP.out, NN.out.size⟩
    replace NN := Lib.hid (Bgo NN.out HB.out)
    replace T1 := Lib.hid (T1.out.next HB.out)
    replace U1 := Lib.hid (U1.out.next HB.out)
    replace T2 := Lib.hid (T2.out.next HB.out)
    replace U2 := Lib.hid (U2.out.next HB.out)
    replace T3 := Lib.hid (T3.out.next HB.out)
    replace U3 := Lib.hid (U3.out.next HB.out)
    replace S1 := Lib.hid (blk_next HB.out S1.out)
    replace S2 := Lib.hid (blk_next HB.out S2.out)
    replace XO := Lib.hid (blk_next HB.out XO.out)
    replace XP := Lib.hid (blk_next HB.out XP.out)
    clear HB
    go_wp2_with fail
    generalize w18.alloc (.cells #[.int .i64 y1, .int .i64 y2, .slice A3 y3.length c3, .slice B3 y4.length d3] 25) = W19 at *
    generalize w18.heap.size = g19 at *
    go_ret
    exact ⟨rfl, NN.out⟩
   obtain ⟨ls, r1, r2, r3⟩ := hPT.out hf
   rw [r1, hf] at FA
   clear r1 hf hPT
   refine (FA.out A1 B1 c1 d1 _ _ k1a k1b k1c k1d T1.out U1.out).mono ?_
   rintro e w20 ⟨v, u, rfl, ht, hu, hb⟩
   try simp only at ht hu
   obtain ⟨A3, c3, rfl, k3a, k3b⟩ := ht.form
   obtain ⟨B3, d3, rfl, k3c, k3d⟩ := hu.form
   have T3 := Lib.hid ht.rd
   have U3 := Lib.hid hu.ro
   clear ht hu
   replace NN := Lib.hid (Bgo NN.out hb)
   replace T1 := Lib.hid (T1.out.next hb)
   replace U1 := Lib.hid (U1.out.next hb)
   replace T2 := Lib.hid (T2.out.next hb)
   replace U2 := Lib.hid (U2.out.next hb)
   replace S1 := Lib.hid (blk_next hb S1.out)
   replace S2 := Lib.hid (blk_next hb S2.out)
   replace XO := Lib.hid (blk_next hb XO.out)
   replace XP := Lib.hid (blk_next hb XP.out)
   clear hb
   have HB : Hid (Below w20.heap.size w20 (w20.alloc (.cells #[.int .i64 (Dn : Int), .int .i64 (P : Int), .slice A3 ls.length c3, .slice B3 0 d3] 25))) := Lib.hid (Bal (Below.refl _ _) _)
   have S3 := Lib.hid (blk_new w20 (.cells #[.int .i64 (Dn : Int), .int .i64 (P : Int), .slice A3 ls.length c3, .slice B3 0 d3] 25))
   have LT_S3 : Hid (g9 < w20.heap.size ∧ g11 < w20.heap.size ∧ g14 < w20.heap.size ∧ g14 < w20.heap.size ∧ w.heap.size ≤ w20.heap.size) := Lib.hid ⟨blk_lt S1.out, blk_lt S2.out, blk_lt XO.out, blk_lt XP.out, NN.out.size⟩
   replace NN := Lib.hid (Bgo NN.out HB.out)
   replace T1 := Lib.hid (T1.out.next HB.out)
   replace U1 := Lib.hid (U1.out.next HB.out)
   replace T2 := Lib.hid (T2.out.next HB.out)
   replace U2 := Lib.hid (U2.out.next HB.out)
   replace T3 := Lib.hid (T3.out.next HB.out)
   replace U3 := Lib.hid (U3.out.next HB.out)
   replace S1 := Lib.hid (blk_next HB.out S1.out)
   replace S2 := Lib.hid (blk_next HB.out S2.out)
   replace XO := Lib.hid (blk_next HB.out XO.out)
   replace XP := Lib.hid (blk_next HB.out XP.out)
   clear HB
   have c_S3_0 := blk_cell S3.out 0 _ rfl
   have f_S3_0 := blk_frozen S3.out 0
   have c_S3_1 := blk_cell S3.out 1 _ rfl
   have f_S3_1 := blk_frozen S3.out 1
   have c_S3_2 := blk_cell S3.out 2 _ rfl
   have f_S3_2 := blk_frozen S3.out 2
   have c_S3_3 := blk_cell S3.out 3 _ rfl
   have f_S3_3 := blk_frozen S3.out 3
   have l_S3 := blk_lt S3.out
   go_wp2_with fail
   clear c_S3_0 f_S3_0 c_S3_1 f_S3_1 c_S3_2 f_S3_2 c_S3_3 f_S3_3 l_S3
   generalize w20.alloc (.cells #[.int .i64 (Dn : Int), .int .i64 (P : Int), .slice A3 ls.length c3, .slice B3 0 d3] 25) = W21 at *
   generalize w20.heap.size = g21 at *
   have PV := Lib.hid (fun (D A : Option Addr) (cd ca B : Nat) (W : World) h1 h2 h3 h4 h5 h6 (Ab : Option Addr) (cb Bb : Nat) hb1 hb2 hb3 => put_calls (Dn : Int) (P : Int) D A cd ca B ls [] nmA Ab cb Bb b W h1 h2 h3 h4 h5 h6 (fun _ h => by cases h) (by decide) hb1 hb2 hb3)
   rcases Nat.eq_zero_or_pos P with hP | hP
   ·rw [r2 hP] at PV
    obtain ⟨⟨y1, y2, y3, y4⟩, hy⟩ : ∃ r, putS (Dn : Int) (P : Int) ls [] nmA b = r := ⟨_, rfl⟩
    rw [hy] at PV
    clear hy r2 r3
    refine (PV.out A3 B3 c3 d3 _ _ k3a k3b k3c k3d T3.out U3.out Ab cb 0 hb1 hb2 (RBA.next NN.out HBY.out)).mono ?_
    rintro e w22 ⟨v, u, rfl, ht, hu, hb⟩
    try simp only at ht hu
    obtain ⟨A4, c4, rfl, k4a, k4b⟩ := ht.form
    obtain ⟨B4, d4, rfl, k4c, k4d⟩ := hu.form
    have T4 := Lib.hid ht.rd
    have U4 := Lib.hid hu.ro
    clear ht hu
    replace NN := Lib.hid (Bgo NN.out hb)
    replace T1 := Lib.hid (T1.out.next hb)
    replace U1 := Lib.hid (U1.out.next hb)
    replace T2 := Lib.hid (T2.out.next hb)
    replace U2 := Lib.hid (U2.out.next hb)
    replace T3 := Lib.hid (T3.out.next hb)
    replace U3 := Lib.hid (U3.out.next hb)
    replace S1 := Lib.hid (blk_next hb S1.out)
    replace S2 := Lib.hid (blk_next hb S2.out)
    replace XO := Lib.hid (blk_next hb XO.out)
    replace XP := Lib.hid (blk_next hb XP.out)
    replace S3 := Lib.hid (blk_next hb S3.out)
    clear hb
    have HB : Hid (Below w22.heap.size w22 (w22.alloc (.cells #[.int .i64 y1, .int .i64 y2, .slice A4 y3.length c4, .slice B4 y4.length d4] 25))) := Lib.hid (Bal (Below.refl _ _) _)
    have S4 := Lib.hid (blk_new w22 (.cells #[.int .i64 y1, .int .i64 y2, .slice A4 y3.length c4, .slice B4 y4.length d4] 25))
    have LT_S4 : Hid (g9 < w22.heap.size ∧ g11 < w22.heap.size ∧ g14 < w22.heap.size ∧ g14 < w22.heap.size ∧ g21 < w22.heap.size ∧ w.heap.size ≤ w22.heap.size) := Lib.hid ⟨blk_lt S1.out, blk_lt S2.out, blk_lt XO.out, blk_lt XP.out, blk_lt S3.out, NN.out.size⟩
    replace NN := Lib.hid (Bgo NN.out HB.out)
    replace T1 := Lib.hid (T1.out.next HB.out)
    replace U1 := Lib.hid (U1.out.next HB.out)
    replace T2 := Lib.hid (T2.out.next HB.out)
    replace U2 := Lib.hid (U2.out.next HB.out)
    replace T3 := Lib.hid (T3.out.next HB.out)
    replace U3 := Lib.hid (U3.out.next HB.out)
    replace T4 := Lib.hid (T4.out.next HB.out)
    replace U4 := Lib.hid (U4.out.next HB.out)
    replace S1 := Lib.hid (blk_next HB.out S1.out)
    replace S2 := Lib.hid (blk_next HB.out S2.out)
    replace XO := Lib.hid (blk_next HB.out XO.out)
    replace XP := Lib.hid (blk_next HB.out XP.out)
    replace S3 := Lib.hid (blk_next HB.out S3.out)
    clear HB
    go_wp2_with fail
    generalize w22.alloc (.cells #[.int .i64 y1, .int .i64 y2, .slice A4 y3.length c4, .slice B4 y4.length d4] 25) = W23 at *
    generalize w22.heap.size = g23 at *
    go_ret
    exact ⟨rfl, NN.out⟩
   obtain ⟨pt, r4, r5, r6, r7, r8⟩ := r3 hP
   rw [r4, r5] at PV
   have R7 := Lib.hid r7
   have R8 := Lib.hid r8
   clear r2 r3 r4 r5 hP r7 r8
   refine (PV.out A3 B3 c3 d3 _ _ k3a k3b k3c k3d T3.out U3.out Ab cb 0 hb1 hb2 (RBA.next NN.out HBY.out)).mono ?_
   rintro e w24 ⟨v, u, rfl, ht, hu, hb⟩
   try simp only at ht hu
   obtain ⟨A4, c4, rfl, k4a, k4b⟩ := ht.form
   obtain ⟨B4, d4, rfl, k4c, k4d⟩ := hu.form
   have T4 := Lib.hid ht.rd
   have U4 := Lib.hid hu.ro
   clear ht hu
   replace NN := Lib.hid (Bgo NN.out hb)
   replace T1 := Lib.hid (T1.out.next hb)
   replace U1 := Lib.hid (U1.out.next hb)
   replace T2 := Lib.hid (T2.out.next hb)
   replace U2 := Lib.hid (U2.out.next hb)
   replace T3 := Lib.hid (T3.out.next hb)
   replace U3 := Lib.hid (U3.out.next hb)
   replace S1 := Lib.hid (blk_next hb S1.out)
   replace S2 := Lib.hid (blk_next hb S2.out)
   replace XO := Lib.hid (blk_next hb XO.out)
   replace XP := Lib.hid (blk_next hb XP.out)
   replace S3 := Lib.hid (blk_next hb S3.out)
   clear hb
   have HB : Hid (Below w24.heap.size w24 (w24.alloc (.cells #[.int .i64 (Dn : Int), .int .i64 (P : Int), .slice A4 pt.length c4, .slice B4 1 d4] 25))) := Lib.hid (Bal (Below.refl _ _) _)
   have S4 := Lib.hid (blk_new w24 (.cells #[.int .i64 (Dn : Int), .int .i64 (P : Int), .slice A4 pt.length c4, .slice B4 1 d4] 25))
   have LT_S4 : Hid (g9 < w24.heap.size ∧ g11 < w24.heap.size ∧ g14 < w24.heap.size ∧ g14 < w24.heap.size ∧ g21 < w24.heap.size ∧ w.heap.size ≤ w24.heap.size) := Lib.hid ⟨blk_lt S1.out, blk_lt S2.out, blk_lt XO.out, blk_lt XP.out, blk_lt S3.out, NN.out.size⟩
   replace NN := Lib.hid (Bgo NN.out HB.out)
   replace T1 := Lib.hid (T1.out.next HB.out)
   replace U1 := Lib.hid (U1.out.next HB.out)
   replace T2 := Lib.hid (T2.out.next HB.out)
   replace U2 := Lib.hid (U2.out.next HB.out)
   replace T3 := Lib.hid (T3.out.next HB.out)
   replace U3 := Lib.hid (U3.out.next HB.out)
   replace T4 := Lib.hid (T4.out.next HB.out)
   replace U4 := Lib.hid (U4.out.next HB.out)
   replace S1 := Lib.hid (blk_next HB.out S1.out)
   replace S2 := Lib.hid (blk_next HB.out S2.out)
   replace XO := Lib.hid (blk_next HB.out XO.out)
   replace XP := Lib.hid (blk_next HB.out XP.out)
   replace S3 := Lib.hid (blk_next HB.out S3.out)
   clear HB
   have c_S4_0 := blk_cell S4.out 0 _ rfl
   have f_S4_0 := blk_frozen S4.out 0
   have c_S4_1 := blk_cell S4.out 1 _ rfl
   have f_S4_1 := blk_frozen S4.out 1
   have c_S4_2 := blk_cell S4.out 2 _ rfl
   have f_S4_2 := blk_frozen S4.out 2
   have c_S4_3 := blk_cell S4.out 3 _ rfl
   have f_S4_3 := blk_frozen S4.out 3
   have l_S4 := blk_lt S4.out
   go_wp2_with fail
   clear c_S4_0 f_S4_0 c_S4_1 f_S4_1 c_S4_2 f_S4_2 c_S4_3 f_S4_3 l_S4
   generalize w24.alloc (.cells #[.int .i64 (Dn : Int), .int .i64 (P : Int), .slice A4 pt.length c4, .slice B4 1 d4] 25) = W25 at *
   generalize w24.heap.size = g25 at *
   have KP := Lib.hid (fun (Bx : Nat) (W : World) (h1 : RD Bx W A4 pt) (h2 : RO Bx W B4 [o]) => oRefCheck_calls (Dn : Int) (P : Int) A4 B4 c4 d4 _ pt [o] W k4a k4b k4c k4d h1 h2 LO.out)
   rw [r6] at KP
   have p1 : decide ((pt.length : Int) = (ws.length : Int)) = true := decide_eq_true (by rw [R7.out, EL.out])
   have p2 : ((pt.length : Int) != (ws.length : Int)) = false := by rw [R7.out, EL.out]; simp
   have p3 : pt.length = ws.length → True := fun _ => trivial
   have OKP := Lib.hid (chS_ok r6)
   clear r6 p3
   refine (KP.out _ _ T4.out U4.out).mono ?_
   rintro e w26 ⟨rfl, hb⟩
   replace NN := Lib.hid (Bgo NN.out hb)
   replace T1 := Lib.hid (T1.out.next hb)
   replace U1 := Lib.hid (U1.out.next hb)
   replace T2 := Lib.hid (T2.out.next hb)
   replace U2 := Lib.hid (U2.out.next hb)
   replace T3 := Lib.hid (T3.out.next hb)
   replace U3 := Lib.hid (U3.out.next hb)
   replace T4 := Lib.hid (T4.out.next hb)
   replace U4 := Lib.hid (U4.out.next hb)
   replace S1 := Lib.hid (blk_next hb S1.out)
   replace S2 := Lib.hid (blk_next hb S2.out)
   replace XO := Lib.hid (blk_next hb XO.out)
   replace XP := Lib.hid (blk_next hb XP.out)
   replace S3 := Lib.hid (blk_next hb S3.out)
   replace S4 := Lib.hid (blk_next hb S4.out)
   clear hb
   have c_S4_0 := blk_cell S4.out 0 _ rfl
   have f_S4_0 := blk_frozen S4.out 0
   have c_S4_1 := blk_cell S4.out 1 _ rfl
   have f_S4_1 := blk_frozen S4.out 1
   have c_S4_2 := blk_cell S4.out 2 _ rfl
   have f_S4_2 := blk_frozen S4.out 2
   have c_S4_3 := blk_cell S4.out 3 _ rfl
   have f_S4_3 := blk_frozen S4.out 3
   have l_S4 := blk_lt S4.out
   have c_S2_0 := blk_cell S2.out 0 _ rfl
   have f_S2_0 := blk_frozen S2.out 0
   have c_S2_1 := blk_cell S2.out 1 _ rfl
   have f_S2_1 := blk_frozen S2.out 1
   have c_S2_2 := blk_cell S2.out 2 _ rfl
   have f_S2_2 := blk_frozen S2.out 2
   have c_S2_3 := blk_cell S2.out 3 _ rfl
   have f_S2_3 := blk_frozen S2.out 3
   have l_S2 := blk_lt S2.out
   go_wp2_with fail
   clear c_S4_0 f_S4_0 c_S4_1 f_S4_1 c_S4_2 f_S4_2 c_S4_3 f_S4_3 l_S4 c_S2_0 f_S2_0 c_S2_1 f_S2_1 c_S2_2 f_S2_2 c_S2_3 f_S2_3 l_S2
   clear p1 p2
   clear S1 T1 U1 S3 T3 U3 U2
   have NNb := NN
   have S2b := S2
   have XOb := XO
   have XPb := XP
   have T2b := T2
   have T4b := T4
   have U4b := U4
   have S4b := S4
   clear NN S2 XO XP T2 T4 U4 S4
   go_loopw [26] (fun i wr => ∃ k : Nat, k ≤ mn ∧ i = .int .i64 k ∧ Hid (Below w26.heap.size w26 wr)) (fun i _ => mn - (intOf i).toNat)
   case atStart => exact ⟨0, by omega, rfl, Lib.hid (Below.refl _ _)⟩
   case round =>
    obtain ⟨k, hk, rfl, N1⟩ := hrel
    have NN := NNb
    have S2 := S2b
    have XO := XOb
    have XP := XPb
    have T2 := T2b
    have T4 := T4b
    have U4 := U4b
    have S4 := S4b
    replace NN := Lib.hid (Bgo NN.out N1.out)
    replace T2 := Lib.hid (T2.out.next N1.out)
    replace T4 := Lib.hid (T4.out.next N1.out)
    replace U4 := Lib.hid (U4.out.next N1.out)
    replace S2 := Lib.hid (blk_next N1.out S2.out)
    replace XO := Lib.hid (blk_next N1.out XO.out)
    replace XP := Lib.hid (blk_next N1.out XP.out)
    replace S4 := Lib.hid (blk_next N1.out S4.out)
    by_cases hlt : k < mn
    rotate_left
    ·have kx : decide ((k : Int) < (mn : Int)) = false := decide_eq_false (by omega)
     have c_XP_0 := blk_cell XP.out 0 _ rfl
     have f_XP_0 := blk_frozen XP.out 0
     have c_XP_1 := blk_cell XP.out 1 _ rfl
     have f_XP_1 := blk_frozen XP.out 1
     have c_XP_2 := blk_cell XP.out 2 _ rfl
     have f_XP_2 := blk_frozen XP.out 2
     have c_XP_3 := blk_cell XP.out 3 _ rfl
     have f_XP_3 := blk_frozen XP.out 3
     have c_XP_4 := blk_cell XP.out 4 _ rfl
     have f_XP_4 := blk_frozen XP.out 4
     have l_XP := blk_lt XP.out
     go_wp2_with fail
     clear c_XP_0 f_XP_0 c_XP_1 f_XP_1 c_XP_2 f_XP_2 c_XP_3 f_XP_3 c_XP_4 f_XP_4 l_XP
     obtain ⟨b4, o4, rfl, hl4, z0, z1, z2, z3, z4⟩ := U4.out.at_ (i := 0) rfl
     simp only [Nat.zero_mul, Nat.add_zero] at z0 z1 z2 z3 z4
     have HDRW := Lib.hid (Below.drew (Below.refl wr.heap.size wr))
     replace NN := Lib.hid (Bgo NN.out HDRW.out)
     replace T2 := Lib.hid (T2.out.next HDRW.out)
     replace T4 := Lib.hid (T4.out.next HDRW.out)
     replace U4 := Lib.hid (U4.out.next HDRW.out)
     replace N1 := Lib.hid (Bgo N1.out HDRW.out)
     replace S2 := Lib.hid (blk_next HDRW.out S2.out)
     replace XO := Lib.hid (blk_next HDRW.out XO.out)
     replace XP := Lib.hid (blk_next HDRW.out XP.out)
     replace S4 := Lib.hid (blk_next HDRW.out S4.out)
     clear HDRW
     have HAL : Hid (∀ kk : Nat, SZ [(3, ⟨g25, 3, none⟩, .slice (some ⟨b4, o4, none⟩) 1 d4), (5, ⟨b4, o4, none⟩, .string o.name), (5, ⟨b4, o4 + 1, none⟩, .int .i64 o.size), (5, ⟨b4, o4 + 2, none⟩, .int .i64 o.from_), (5, ⟨b4, o4 + 3, none⟩, .int .i64 o.many), (5, ⟨b4, o4 + 4, none⟩, .int .i64 o.dig), (6, ⟨g14, 0, none⟩, .string o.name), (6, ⟨g14, 1, none⟩, .int .i64 o.size), (6, ⟨g14, 2, none⟩, .int .i64 o.from_), (6, ⟨g14, 3, none⟩, .int .i64 o.many), (6, ⟨g14, 4, none⟩, .int .i64 o.dig)] [] kk wr.drew) := Lib.hid (fun kk => by
      constructor
      ·intro p hp e
       simp only [List.mem_cons, List.not_mem_nil, or_false] at hp
       rcases hp with rfl | rfl | rfl | rfl | rfl | rfl | rfl | rfl | rfl | rfl | rfl
       ·exact ⟨blk_lt S4.out, blk_cell S4.out 3 _ rfl⟩
       ·exact ⟨hl4, z0⟩
       ·exact ⟨hl4, z1⟩
       ·exact ⟨hl4, z2⟩
       ·exact ⟨hl4, z3⟩
       ·exact ⟨hl4, z4⟩
       ·exact ⟨blk_lt XO.out, blk_cell XO.out 0 _ rfl⟩
       ·exact ⟨blk_lt XO.out, blk_cell XO.out 1 _ rfl⟩
       ·exact ⟨blk_lt XO.out, blk_cell XO.out 2 _ rfl⟩
       ·exact ⟨blk_lt XO.out, blk_cell XO.out 3 _ rfl⟩
       ·exact ⟨blk_lt XO.out, blk_cell XO.out 4 _ rfl⟩
      ·intro p hp e
       exact absurd hp (by simp)
      )
     refine region_I (S := SZ [(3, ⟨g25, 3, none⟩, .slice (some ⟨b4, o4, none⟩) 1 d4), (5, ⟨b4, o4, none⟩, .string o.name), (5, ⟨b4, o4 + 1, none⟩, .int .i64 o.size), (5, ⟨b4, o4 + 2, none⟩, .int .i64 o.from_), (5, ⟨b4, o4 + 3, none⟩, .int .i64 o.many), (5, ⟨b4, o4 + 4, none⟩, .int .i64 o.dig), (6, ⟨g14, 0, none⟩, .string o.name), (6, ⟨g14, 1, none⟩, .int .i64 o.size), (6, ⟨g14, 2, none⟩, .int .i64 o.from_), (6, ⟨g14, 3, none⟩, .int .i64 o.many), (6, ⟨g14, 4, none⟩, .int .i64 o.dig)] []) (by kernel_rfl) ?_
     refine tJ 0 (.bool true) (some 251) rfl (SZ.drop (by simp) (by simp)) (Or.inl ⟨by rfl, ?_⟩) ?_
     ·intro X hX
      clear hX
      go_simp
     try simp only [Act.put, zA, zB, zC]
     refine tJ 1 (.bool true) (some 252) rfl (SZ.drop (by simp) (by simp)) (Or.inl ⟨by rfl, ?_⟩) ?_
     ·intro X hX
      clear hX
      go_simp
     try simp only [Act.put, zA, zB, zC]
     refine tJ 2 (.pointer (some ⟨g25, 3, none⟩)) (some 253) rfl (SZ.drop (by simp) (by simp)) (Or.inl ⟨by rfl, ?_⟩) ?_
     ·intro X hX
      clear hX
      go_simp
     try simp only [Act.put, zA, zB, zC]
     refine tJ 3 (.slice (some ⟨b4, o4, none⟩) 1 d4) (some 254) rfl (HAL.out 3) (Or.inl ⟨by rfl, ?_⟩) ?_
     ·intro X hX
      obtain ⟨hz0, hc0⟩ := hX.1 (3, ⟨g25, 3, none⟩, .slice (some ⟨b4, o4, none⟩) 1 d4) (List.Mem.head _) rfl
      simp only at hz0 hc0
      clear hX
      go_simp
     try simp only [Act.put, zA, zB, zC]
     refine tJ 4 (.pointer (some ⟨b4, o4, none⟩)) (some 255) rfl (SZ.drop (by simp) (by simp)) (Or.inl ⟨by rfl, ?_⟩) ?_
     ·intro X hX
      clear hX
      go_simp
     try simp only [Act.put, zA, zB, zC]
     refine tJ 5 (.agg #[.string o.name, .int .i64 o.size, .int .i64 o.from_, .int .i64 o.many, .int .i64 o.dig]) (some 256) rfl (HAL.out 5) (Or.inl ⟨by rfl, ?_⟩) ?_
     ·intro X hX
      obtain ⟨hz1, hc1⟩ := hX.1 (5, ⟨b4, o4, none⟩, .string o.name) (List.Mem.tail _ (List.Mem.head _)) rfl
      simp only at hz1 hc1
      obtain ⟨hz2, hc2⟩ := hX.1 (5, ⟨b4, o4 + 1, none⟩, .int .i64 o.size) (List.Mem.tail _ (List.Mem.tail _ (List.Mem.head _))) rfl
      simp only at hz2 hc2
      obtain ⟨hz3, hc3⟩ := hX.1 (5, ⟨b4, o4 + 2, none⟩, .int .i64 o.from_) (List.Mem.tail _ (List.Mem.tail _ (List.Mem.tail _ (List.Mem.head _)))) rfl
      simp only at hz3 hc3
      obtain ⟨hz4, hc4⟩ := hX.1 (5, ⟨b4, o4 + 3, none⟩, .int .i64 o.many) (List.Mem.tail _ (List.Mem.tail _ (List.Mem.tail _ (List.Mem.tail _ (List.Mem.head _))))) rfl
      simp only at hz4 hc4
      obtain ⟨hz5, hc5⟩ := hX.1 (5, ⟨b4, o4 + 4, none⟩, .int .i64 o.dig) (List.Mem.tail _ (List.Mem.tail _ (List.Mem.tail _ (List.Mem.tail _ (List.Mem.tail _ (List.Mem.head _)))))) rfl
      simp only at hz5 hc5
      clear hX
      go_simp
     try simp only [Act.put, zA, zB, zC]
     refine tJ 6 (.agg #[.string o.name, .int .i64 o.size, .int .i64 o.from_, .int .i64 o.many, .int .i64 o.dig]) (some 257) rfl (HAL.out 6) (Or.inl ⟨by rfl, ?_⟩) ?_
     ·intro X hX
      obtain ⟨hz6, hc6⟩ := hX.1 (6, ⟨g14, 0, none⟩, .string o.name) (List.Mem.tail _ (List.Mem.tail _ (List.Mem.tail _ (List.Mem.tail _ (List.Mem.tail _ (List.Mem.tail _ (List.Mem.head _))))))) rfl
      simp only at hz6 hc6
      obtain ⟨hz7, hc7⟩ := hX.1 (6, ⟨g14, 1, none⟩, .int .i64 o.size) (List.Mem.tail _ (List.Mem.tail _ (List.Mem.tail _ (List.Mem.tail _ (List.Mem.tail _ (List.Mem.tail _ (List.Mem.tail _ (List.Mem.head _)))))))) rfl
      simp only at hz7 hc7
      obtain ⟨hz8, hc8⟩ := hX.1 (6, ⟨g14, 2, none⟩, .int .i64 o.from_) (List.Mem.tail _ (List.Mem.tail _ (List.Mem.tail _ (List.Mem.tail _ (List.Mem.tail _ (List.Mem.tail _ (List.Mem.tail _ (List.Mem.tail _ (List.Mem.head _))))))))) rfl
      simp only at hz8 hc8
      obtain ⟨hz9, hc9⟩ := hX.1 (6, ⟨g14, 3, none⟩, .int .i64 o.many) (List.Mem.tail _ (List.Mem.tail _ (List.Mem.tail _ (List.Mem.tail _ (List.Mem.tail _ (List.Mem.tail _ (List.Mem.tail _ (List.Mem.tail _ (List.Mem.tail _ (List.Mem.head _)))))))))) rfl
      simp only at hz9 hc9
      obtain ⟨hz10, hc10⟩ := hX.1 (6, ⟨g14, 4, none⟩, .int .i64 o.dig) (List.Mem.tail _ (List.Mem.tail _ (List.Mem.tail _ (List.Mem.tail _ (List.Mem.tail _ (List.Mem.tail _ (List.Mem.tail _ (List.Mem.tail _ (List.Mem.tail _ (List.Mem.tail _ (List.Mem.head _))))))))))) rfl
      simp only at hz10 hc10
      clear hX
      go_simp
     try simp only [Act.put, zA, zB, zC]
     refine tJ 7 (.bool true) (some 258) rfl (SZ.drop (by simp) (by simp)) (Or.inl ⟨by rfl, ?_⟩) ?_
     ·intro X hX
      clear hX
      go_simp
     try simp only [Act.put, zA, zB, zC]
     refine tJ 8 (.bool true) (some 259) rfl (SZ.drop (by simp) (by simp)) (Or.inl ⟨by rfl, ?_⟩) ?_
     ·intro X hX
      clear hX
      go_simp
     try simp only [Act.put, zA, zB, zC]
     refine tJ 9 (.bool true) (some 8) rfl (SZ.drop (by simp) (by simp)) (Or.inl ⟨by rfl, ?_⟩) ?_
     ·intro X hX
      clear hX
      go_simp
     try simp only [Act.put, zA, zB, zC]
     clear HAL
     refine done_I (by kernel_rfl) ?_ _
     go_wp2_with fail
     go_ret
     exact ⟨rfl, NN.out⟩
    have kx : decide ((k : Int) < (mn : Int)) = true := decide_eq_true (by omega)
    have HK := Lib.hid hlt
    have c_XP_0 := blk_cell XP.out 0 _ rfl
    have f_XP_0 := blk_frozen XP.out 0
    have c_XP_1 := blk_cell XP.out 1 _ rfl
    have f_XP_1 := blk_frozen XP.out 1
    have c_XP_2 := blk_cell XP.out 2 _ rfl
    have f_XP_2 := blk_frozen XP.out 2
    have c_XP_3 := blk_cell XP.out 3 _ rfl
    have f_XP_3 := blk_frozen XP.out 3
    have c_XP_4 := blk_cell XP.out 4 _ rfl
    have f_XP_4 := blk_frozen XP.out 4
    have l_XP := blk_lt XP.out
    have c_S4_0 := blk_cell S4.out 0 _ rfl
    have f_S4_0 := blk_frozen S4.out 0
    have c_S4_1 := blk_cell S4.out 1 _ rfl
    have f_S4_1 := blk_frozen S4.out 1
    have c_S4_2 := blk_cell S4.out 2 _ rfl
    have f_S4_2 := blk_frozen S4.out 2
    have c_S4_3 := blk_cell S4.out 3 _ rfl
    have f_S4_3 := blk_frozen S4.out 3
    have l_S4 := blk_lt S4.out
    go_wp2_with fail
    have ST := Lib.hid (fun (Bx : Nat) (W : World) (h : RO Bx W B4 [o]) => stripes_calls (Dn : Int) (P : Int) (.slice A4 pt.length c4) B4 d4 Bx [o] W k4c k4d h OKP.out.sm (by simp))
    rw [show strN [o] = (mn : Int) by rw [strN_one, EM.out]] at ST
    refine (ST.out _ _ U4.out).mono ?_
    rintro e w27 ⟨rfl, hb⟩
    clear c_XP_0 f_XP_0 c_XP_1 f_XP_1 c_XP_2 f_XP_2 c_XP_3 f_XP_3 c_XP_4 f_XP_4 l_XP c_S4_0 f_S4_0 c_S4_1 f_S4_1 c_S4_2 f_S4_2 c_S4_3 f_S4_3 l_S4
    replace NN := Lib.hid (Bgo NN.out hb)
    replace T2 := Lib.hid (T2.out.next hb)
    replace T4 := Lib.hid (T4.out.next hb)
    replace U4 := Lib.hid (U4.out.next hb)
    replace N1 := Lib.hid (Bgo N1.out hb)
    replace S2 := Lib.hid (blk_next hb S2.out)
    replace XO := Lib.hid (blk_next hb XO.out)
    replace XP := Lib.hid (blk_next hb XP.out)
    replace S4 := Lib.hid (blk_next hb S4.out)
    clear hb
    go_wp2_with fail
    clear kx hlt
    obtain ⟨h20, hbk, hbl⟩ := OKW.out.conds (k := k) (by rw [strN_one, EM.out]; have := HK.out; omega)
    obtain ⟨g20, gbk, gbl⟩ := OKP.out.conds (k := k) (by rw [strN_one, EM.out]; have := HK.out; omega)
    have hfit := R8.out k HK.out
    have hlen : (strp pt k).length = (strp ws k).length := by rw [strp_len, strp_len, R7.out, EL.out]
    have SW := Lib.hid (fun (Bx : Nat) (W : World) (h1 : RD Bx W A2 ws) => refStripe_calls (Dn : Int) (P : Int) A2 (some ⟨b2, o2, none⟩) c2 1 d2 Bx ws k W k2a k2b h1 h20 hbk hbl)
    have SP := Lib.hid (fun (Bx : Nat) (W : World) (h1 : RD Bx W A4 pt) => refStripe_calls (Dn : Int) (P : Int) A4 B4 c4 1 d4 Bx pt k W k4a k4b h1 g20 gbk gbl)
    clear h20 hbk hbl g20 gbk gbl
    generalize strp ws k = sw at *
    generalize strp pt k = sp at *
    have HF := Lib.hid hfit
    have HLE := Lib.hid hlen
    clear hfit hlen
    have HDRW := Lib.hid (Below.drew (Below.refl w27.heap.size w27))
    replace NN := Lib.hid (Bgo NN.out HDRW.out)
    replace T2 := Lib.hid (T2.out.next HDRW.out)
    replace T4 := Lib.hid (T4.out.next HDRW.out)
    replace U4 := Lib.hid (U4.out.next HDRW.out)
    replace N1 := Lib.hid (Bgo N1.out HDRW.out)
    replace S2 := Lib.hid (blk_next HDRW.out S2.out)
    replace XO := Lib.hid (blk_next HDRW.out XO.out)
    replace XP := Lib.hid (blk_next HDRW.out XP.out)
    replace S4 := Lib.hid (blk_next HDRW.out S4.out)
    clear HDRW
    have HAL : Hid (∀ kk : Nat, SZ [(0, ⟨g25, 0, none⟩, .int .i64 (Dn : Int)), (0, ⟨g25, 1, none⟩, .int .i64 (P : Int)), (0, ⟨g25, 2, none⟩, .slice A4 pt.length c4), (0, ⟨g25, 3, none⟩, .slice B4 1 d4), (3, ⟨g11, 0, none⟩, .int .i64 (Dn : Int)), (3, ⟨g11, 1, none⟩, .int .i64 (P : Int)), (3, ⟨g11, 2, none⟩, .slice A2 ws.length c2), (3, ⟨g11, 3, none⟩, .slice (some ⟨b2, o2, none⟩) 1 d2)] [] kk w27.drew) := Lib.hid (fun kk => by
     constructor
     ·intro p hp e
      simp only [List.mem_cons, List.not_mem_nil, or_false] at hp
      rcases hp with rfl | rfl | rfl | rfl | rfl | rfl | rfl | rfl
      ·exact ⟨blk_lt S4.out, blk_cell S4.out 0 _ rfl⟩
      ·exact ⟨blk_lt S4.out, blk_cell S4.out 1 _ rfl⟩
      ·exact ⟨blk_lt S4.out, blk_cell S4.out 2 _ rfl⟩
      ·exact ⟨blk_lt S4.out, blk_cell S4.out 3 _ rfl⟩
      ·exact ⟨blk_lt S2.out, blk_cell S2.out 0 _ rfl⟩
      ·exact ⟨blk_lt S2.out, blk_cell S2.out 1 _ rfl⟩
      ·exact ⟨blk_lt S2.out, blk_cell S2.out 2 _ rfl⟩
      ·exact ⟨blk_lt S2.out, blk_cell S2.out 3 _ rfl⟩
     ·intro p hp e
      exact absurd hp (by simp)
     )
    refine region_I (S := SZ [(0, ⟨g25, 0, none⟩, .int .i64 (Dn : Int)), (0, ⟨g25, 1, none⟩, .int .i64 (P : Int)), (0, ⟨g25, 2, none⟩, .slice A4 pt.length c4), (0, ⟨g25, 3, none⟩, .slice B4 1 d4), (3, ⟨g11, 0, none⟩, .int .i64 (Dn : Int)), (3, ⟨g11, 1, none⟩, .int .i64 (P : Int)), (3, ⟨g11, 2, none⟩, .slice A2 ws.length c2), (3, ⟨g11, 3, none⟩, .slice (some ⟨b2, o2, none⟩) 1 d2)] []) (by kernel_rfl) ?_
    refine tJ 0 (.agg #[.int .i64 (Dn : Int), .int .i64 (P : Int), .slice A4 pt.length c4, .slice B4 1 d4]) (some 243) rfl (HAL.out 0) (Or.inl ⟨by rfl, ?_⟩) ?_
    ·intro X hX
     obtain ⟨hz0, hc0⟩ := hX.1 (0, ⟨g25, 0, none⟩, .int .i64 (Dn : Int)) (List.Mem.head _) rfl
     simp only at hz0 hc0
     obtain ⟨hz1, hc1⟩ := hX.1 (0, ⟨g25, 1, none⟩, .int .i64 (P : Int)) (List.Mem.tail _ (List.Mem.head _)) rfl
     simp only at hz1 hc1
     obtain ⟨hz2, hc2⟩ := hX.1 (0, ⟨g25, 2, none⟩, .slice A4 pt.length c4) (List.Mem.tail _ (List.Mem.tail _ (List.Mem.head _))) rfl
     simp only at hz2 hc2
     obtain ⟨hz3, hc3⟩ := hX.1 (0, ⟨g25, 3, none⟩, .slice B4 1 d4) (List.Mem.tail _ (List.Mem.tail _ (List.Mem.tail _ (List.Mem.head _)))) rfl
     simp only at hz3 hc3
     clear hX
     go_simp
    try simp only [Act.put, zA, zB, zC]
    refine tJ 1 (.int .i64 (k : Int)) (some 244) rfl (SZ.drop (by simp) (by simp)) (Or.inl ⟨by rfl, ?_⟩) ?_
    ·intro X hX
     clear hX
     go_simp
    try simp only [Act.put, zA, zB, zC]
    refine tJ 3 (.agg #[.int .i64 (Dn : Int), .int .i64 (P : Int), .slice A2 ws.length c2, .slice (some ⟨b2, o2, none⟩) 1 d2]) (some 246) rfl (HAL.out 3) (Or.inl ⟨by rfl, ?_⟩) ?_
    ·intro X hX
     obtain ⟨hz4, hc4⟩ := hX.1 (3, ⟨g11, 0, none⟩, .int .i64 (Dn : Int)) (List.Mem.tail _ (List.Mem.tail _ (List.Mem.tail _ (List.Mem.tail _ (List.Mem.head _))))) rfl
     simp only at hz4 hc4
     obtain ⟨hz5, hc5⟩ := hX.1 (3, ⟨g11, 1, none⟩, .int .i64 (P : Int)) (List.Mem.tail _ (List.Mem.tail _ (List.Mem.tail _ (List.Mem.tail _ (List.Mem.tail _ (List.Mem.head _)))))) rfl
     simp only at hz5 hc5
     obtain ⟨hz6, hc6⟩ := hX.1 (3, ⟨g11, 2, none⟩, .slice A2 ws.length c2) (List.Mem.tail _ (List.Mem.tail _ (List.Mem.tail _ (List.Mem.tail _ (List.Mem.tail _ (List.Mem.tail _ (List.Mem.head _))))))) rfl
     simp only at hz6 hc6
     obtain ⟨hz7, hc7⟩ := hX.1 (3, ⟨g11, 3, none⟩, .slice (some ⟨b2, o2, none⟩) 1 d2) (List.Mem.tail _ (List.Mem.tail _ (List.Mem.tail _ (List.Mem.tail _ (List.Mem.tail _ (List.Mem.tail _ (List.Mem.tail _ (List.Mem.head _)))))))) rfl
     simp only at hz7 hc7
     clear hX
     go_simp
    try simp only [Act.put, zA, zB, zC]
    refine tJ 4 (.int .i64 (k : Int)) (some 247) rfl (SZ.drop (by simp) (by simp)) (Or.inl ⟨by rfl, ?_⟩) ?_
    ·intro X hX
     clear hX
     go_simp
    try simp only [Act.put, zA, zB, zC]
    refine only_I 2 (by kernel_rfl) rfl (fun K' hK' => ?_)
    go_simp
    go_at_call 26
    refine (SP.out _ _ T4.out).mono ?_
    rintro e x28 ⟨v, rfl, hm, hb⟩
    simp only at hm
    obtain ⟨A7, c7, rfl, k7a, k7b, hm⟩ := OM.rm hm
    have M7 := Lib.hid hm
    clear hm
    replace NN := Lib.hid (Bgo NN.out hb)
    replace T2 := Lib.hid (T2.out.next hb)
    replace T4 := Lib.hid (T4.out.next hb)
    replace U4 := Lib.hid (U4.out.next hb)
    replace N1 := Lib.hid (Bgo N1.out hb)
    replace S2 := Lib.hid (blk_next hb S2.out)
    replace XO := Lib.hid (blk_next hb XO.out)
    replace XP := Lib.hid (blk_next hb XP.out)
    replace S4 := Lib.hid (blk_next hb S4.out)
    go_simp
    refine hK'.out _ _ (fun _ _ hS => hS.next hb) ?_
    clear hK' K'
    try simp only [Act.put, zA, zB, zC]
    replace HAL := Lib.hid (fun kk => (HAL.out kk).next hb)
    clear hb
    refine only_I 5 (by kernel_rfl) rfl (fun K' hK' => ?_)
    go_simp
    go_at_call 26
    refine (SW.out _ _ T2.out).mono ?_
    rintro e x29 ⟨v, rfl, hm, hb⟩
    simp only at hm
    obtain ⟨A8, c8, rfl, k8a, k8b, hm⟩ := OM.rm hm
    have M8 := Lib.hid hm
    clear hm
    replace NN := Lib.hid (Bgo NN.out hb)
    replace T2 := Lib.hid (T2.out.next hb)
    replace T4 := Lib.hid (T4.out.next hb)
    replace U4 := Lib.hid (U4.out.next hb)
    replace N1 := Lib.hid (Bgo N1.out hb)
    replace S2 := Lib.hid (blk_next hb S2.out)
    replace XO := Lib.hid (blk_next hb XO.out)
    replace XP := Lib.hid (blk_next hb XP.out)
    replace S4 := Lib.hid (blk_next hb S4.out)
    replace M7 := Lib.hid (RMA.next hb M7.out)
    go_simp
    refine hK'.out _ _ (fun _ _ hS => hS.next hb) ?_
    clear hK' K'
    try simp only [Act.put, zA, zB, zC]
    replace HAL := Lib.hid (fun kk => (HAL.out kk).next hb)
    clear hb
    refine only_I 6 (by kernel_rfl) rfl (fun K' hK' => ?_)
    go_simp
    go_at_call 29
    refine (refFits_calls (Dn : Int) (P : Int) A7 c7 _ sp (Dn : Int) (P : Int) A8 c8 _ sw _ k7a k7b M7.out k8a k8b M8.out HLE.out).mono ?_
    rintro e x30 ⟨rfl, hb⟩
    rw [HF.out]
    clear M7 M8
    replace NN := Lib.hid (Bgo NN.out hb)
    replace T2 := Lib.hid (T2.out.next hb)
    replace T4 := Lib.hid (T4.out.next hb)
    replace U4 := Lib.hid (U4.out.next hb)
    replace N1 := Lib.hid (Bgo N1.out hb)
    replace S2 := Lib.hid (blk_next hb S2.out)
    replace XO := Lib.hid (blk_next hb XO.out)
    replace XP := Lib.hid (blk_next hb XP.out)
    replace S4 := Lib.hid (blk_next hb S4.out)
    go_simp
    refine hK'.out _ _ (fun _ _ hS => hS.next hb) ?_
    clear hK' K'
    try simp only [Act.put, zA, zB, zC]
    replace HAL := Lib.hid (fun kk => (HAL.out kk).next hb)
    clear hb
    refine tJ 7 (.bool false) (some 250) rfl (SZ.drop (by simp) (by simp)) (Or.inl ⟨by rfl, ?_⟩) ?_
    ·intro X hX
     clear hX
     go_simp
    try simp only [Act.put, zA, zB, zC]
    clear HAL
    refine done_I (by kernel_rfl) ?_ _
    go_wp2_with fail
    refine ⟨⟨k + 1, HK.out, by go_num, N1⟩, by have := HK.out; simp [intOf]; omega⟩
  have kx : decide ((k : Int) < (mn : Int)) = true := decide_eq_true (by omega)
  have HK := Lib.hid hlt
  obtain ⟨h20, hbk, hbl⟩ := OKW.out.conds (k := k) (by rw [strN_one, EM.out]; omega)
  obtain ⟨s1, s2⟩ := HW.out.snd k hlt
  have SW := Lib.hid (fun (Bx : Nat) (W : World) (h1 : RD Bx W A2 ws) => refStripe_calls (Dn : Int) (P : Int) A2 (some ⟨b2, o2, none⟩) c2 1 d2 Bx ws k W k2a k2b h1 h20 hbk hbl)
  generalize strp ws k = sk at SW s1 s2
  have SO := Lib.hid (fun (A : Option Addr) (c Bx : Nat) (W : World) h1 h2 h3 => soundX_calls (Dn : Int) (P : Int) A c Bx sk W h1 h2 h3)
  rw [s1, s2] at SO
  clear h20 hbk hbl s1 s2
  have c_XP_0 := blk_cell XP.out 0 _ rfl
  have f_XP_0 := blk_frozen XP.out 0
  have c_XP_1 := blk_cell XP.out 1 _ rfl
  have f_XP_1 := blk_frozen XP.out 1
  have c_XP_2 := blk_cell XP.out 2 _ rfl
  have f_XP_2 := blk_frozen XP.out 2
  have c_XP_3 := blk_cell XP.out 3 _ rfl
  have f_XP_3 := blk_frozen XP.out 3
  have c_XP_4 := blk_cell XP.out 4 _ rfl
  have f_XP_4 := blk_frozen XP.out 4
  have l_XP := blk_lt XP.out
  have c_S2_0 := blk_cell S2.out 0 _ rfl
  have f_S2_0 := blk_frozen S2.out 0
  have c_S2_1 := blk_cell S2.out 1 _ rfl
  have f_S2_1 := blk_frozen S2.out 1
  have c_S2_2 := blk_cell S2.out 2 _ rfl
  have f_S2_2 := blk_frozen S2.out 2
  have c_S2_3 := blk_cell S2.out 3 _ rfl
  have f_S2_3 := blk_frozen S2.out 3
  have l_S2 := blk_lt S2.out
  go_wp2_with fail
  refine (SW.out _ _ T2.out).mono ?_
  rintro e w16 ⟨v, rfl, hm, hb⟩
  simp only at hm
  obtain ⟨A7, c7, rfl, k7a, k7b, hm⟩ := OM.rm hm
  have M7 := Lib.hid hm
  clear hm
  clear c_XP_0 f_XP_0 c_XP_1 f_XP_1 c_XP_2 f_XP_2 c_XP_3 f_XP_3 c_XP_4 f_XP_4 l_XP c_S2_0 f_S2_0 c_S2_1 f_S2_1 c_S2_2 f_S2_2 c_S2_3 f_S2_3 l_S2
  replace NN := Lib.hid (Bgo NN.out hb)
  replace T1 := Lib.hid (T1.out.next hb)
  replace U1 := Lib.hid (U1.out.next hb)
  replace T2 := Lib.hid (T2.out.next hb)
  replace U2 := Lib.hid (U2.out.next hb)
  replace N1 := Lib.hid (Bgo N1.out hb)
  replace S1 := Lib.hid (blk_next hb S1.out)
  replace S2 := Lib.hid (blk_next hb S2.out)
  replace XO := Lib.hid (blk_next hb XO.out)
  replace XP := Lib.hid (blk_next hb XP.out)
  clear hb
  go_wp2_with fail
  refine (SO.out _ _ _ _ k7a k7b M7.out).mono ?_
  rintro e w17 ⟨rfl, hb⟩
  clear M7 k7a k7b SW SO
  replace NN := Lib.hid (Bgo NN.out hb)
  replace T1 := Lib.hid (T1.out.next hb)
  replace U1 := Lib.hid (U1.out.next hb)
  replace T2 := Lib.hid (T2.out.next hb)
  replace U2 := Lib.hid (U2.out.next hb)
  replace N1 := Lib.hid (Bgo N1.out hb)
  replace S1 := Lib.hid (blk_next hb S1.out)
  replace S2 := Lib.hid (blk_next hb S2.out)
  replace XO := Lib.hid (blk_next hb XO.out)
  replace XP := Lib.hid (blk_next hb XP.out)
  clear hb
  go_wp2_with fail
  clear kx hlt
  go_loopw [18] (fun i wr => ∃ i1 : Nat, i1 ≤ Dn ∧ i = .int .i64 i1 ∧ Hid (Below x15.heap.size x15 wr)) (fun i _ => Dn - (intOf i).toNat)
  case atStart => exact ⟨0, by omega, rfl, N1⟩
  case round =>
   clear N1
   obtain ⟨i, hi, rfl, N1⟩ := hrel
   clear NN S1 S2 XO XP T1 U1 T2 U2
   have NN := NNb
   have S1 := S1b
   have S2 := S2b
   have XO := XOb
   have XP := XPb
   have T1 := T1b
   have U1 := U1b
   have T2 := T2b
   have U2 := U2b
   replace NN := Lib.hid (Bgo NN.out N1.out)
   replace T1 := Lib.hid (T1.out.next N1.out)
   replace U1 := Lib.hid (U1.out.next N1.out)
   replace T2 := Lib.hid (T2.out.next N1.out)
   replace U2 := Lib.hid (U2.out.next N1.out)
   replace S1 := Lib.hid (blk_next N1.out S1.out)
   replace S2 := Lib.hid (blk_next N1.out S2.out)
   replace XO := Lib.hid (blk_next N1.out XO.out)
   replace XP := Lib.hid (blk_next N1.out XP.out)
   by_cases hli : i < Dn
   rotate_left
   ·have ix : decide ((i : Int) < (Dn : Int)) = false := decide_eq_false (by omega)
    have ixn : ¬ i < Dn := hli
    go_wp2_with fail
    refine ⟨⟨k + 1, by have := HK.out; omega, by go_num, N1⟩, by have := HK.out; simp [intOf]; omega⟩
   have ix : decide ((i : Int) < (Dn : Int)) = true := decide_eq_true (by omega)
   have HI := Lib.hid hli
   go_wp2_with fail
   clear ix hli
   go_loopw [19] (fun i wr => ∃ c : Nat, c ≤ 8 ∧ i = .int .i64 c ∧ Hid (Below x15.heap.size x15 wr)) (fun i _ => 8 - (intOf i).toNat)
   case atStart => exact ⟨0, by omega, rfl, N1⟩
   case round =>
    clear N1
    obtain ⟨c, hc, rfl, N1⟩ := hrel
    clear NN S1 S2 XO XP T1 U1 T2 U2
    have NN := NNb
    have S1 := S1b
    have S2 := S2b
    have XO := XOb
    have XP := XPb
    have T1 := T1b
    have U1 := U1b
    have T2 := T2b
    have U2 := U2b
    replace NN := Lib.hid (Bgo NN.out N1.out)
    replace T1 := Lib.hid (T1.out.next N1.out)
    replace U1 := Lib.hid (U1.out.next N1.out)
    replace T2 := Lib.hid (T2.out.next N1.out)
    replace U2 := Lib.hid (U2.out.next N1.out)
    replace S1 := Lib.hid (blk_next N1.out S1.out)
    replace S2 := Lib.hid (blk_next N1.out S2.out)
    replace XO := Lib.hid (blk_next N1.out XO.out)
    replace XP := Lib.hid (blk_next N1.out XP.out)
    by_cases hlc : c < 8
    rotate_left
    ·have cx : decide ((c : Int) < 8) = false := decide_eq_false (by omega)
     have cxn : ¬ c < 8 := hlc
     go_wp2_with fail
     refine ⟨⟨i + 1, by have := HI.out; omega, by go_num, N1⟩, by have := HI.out; simp [intOf]; omega⟩
    have cx : decide ((c : Int) < 8) = true := decide_eq_true (by omega)
    obtain ⟨x, l, hx, hl, hy⟩ := HW.out.byte i k c HI.out HK.out hlc
    obtain ⟨m2, hm2⟩ : ∃ m2, m2 = k * Dn := ⟨_, rfl⟩
    have lm2 : m2 ≤ 38 * 8 := by rw [hm2]; exact Nat.mul_le_mul (by have := HK.out; omega) hD8
    obtain ⟨nn, hnn⟩ : ∃ nn, nn = (m2 + i) * 8 + c := ⟨_, rfl⟩
    have HI' := HI.out
    rw [← hm2, ← hnn] at hy
    have b1 : (k : Int) * (Dn : Int) = (m2 : Int) := by rw [hm2]; push_cast; rfl
    have b2 : IntKind.i64.wrap (m2 : Int) = (m2 : Int) := IntWalk.i64_in _ (by omega)
    have b3 : IntKind.i64.wrap ((m2 : Int) + (i : Int)) = (m2 : Int) + (i : Int) := IntWalk.i64_in _ (by omega)
    have b4 : IntKind.i64.wrap (((m2 : Int) + (i : Int)) * 8) = ((m2 : Int) + (i : Int)) * 8 := IntWalk.i64_in _ (by omega)
    have b5 : ((m2 : Int) + (i : Int)) * 8 + (c : Int) = (nn : Int) := by omega
    have b6 : IntKind.i64.wrap (nn : Int) = (nn : Int) := IntWalk.i64_in _ (by omega)
    have HC' := Lib.hid (show c + 1 ≤ 8 by omega)
    clear hm2 hnn hlc
    have LX := get_lt hx
    have LK := get_lt hl
    have LC := get_lt hy
    obtain ⟨b5', o5, Ai, ci, rfl, l5, _, q5, ci1, ci2, hr⟩ := T2.out.at_ hx
    obtain ⟨b6', o6, Al, cl, rfl, l6, q6, cl1, cl2, hr2⟩ := hr.at_ hl
    obtain ⟨b7', o7, rfl, l7, q7, _⟩ := hr2.at_ hy
    have u1 : (0 : Int) ≤ (i : Int) := by omega
    have u2 : (i : Int) < (ws.length : Int) := by omega
    have u3 : (0 : Int) ≤ (k : Int) := by omega
    have u4 : (k : Int) < (x.blocks.length : Int) := by omega
    have u5 : (0 : Int) ≤ (c : Int) := by omega
    have u6 : (c : Int) < (l.length : Int) := by omega
    clear hr hr2 hx hl LX LK LC
    by_cases hn : nn < b.length
    rotate_left
    ·rw [if_neg hn] at q7
     have n1 : decide ((nn : Int) < (b.length : Int)) = false := decide_eq_false (by omega)
     have n2 : ¬ nn < b.length := hn
     clear hy hn
     have c_S2_0 := blk_cell S2.out 0 _ rfl
     have f_S2_0 := blk_frozen S2.out 0
     have c_S2_1 := blk_cell S2.out 1 _ rfl
     have f_S2_1 := blk_frozen S2.out 1
     have c_S2_2 := blk_cell S2.out 2 _ rfl
     have f_S2_2 := blk_frozen S2.out 2
     have c_S2_3 := blk_cell S2.out 3 _ rfl
     have f_S2_3 := blk_frozen S2.out 3
     have l_S2 := blk_lt S2.out
     go_wp2_with fail
     refine ⟨⟨c + 1, HC'.out, by go_num, N1⟩, by have := HC'.out; simp [intOf]; omega⟩
    have n1 : decide ((nn : Int) < (b.length : Int)) = true := decide_eq_true (by omega)
    have n3 : (nn : Int) < (b.length : Int) := by omega
    have n4 : (0 : Int) ≤ (nn : Int) := by omega
    have hbn : b[nn]? = some (b.getD nn 0) := by rw [List.getElem?_eq_getElem hn, List.getD_eq_getElem?_getD, List.getElem?_eq_getElem hn]; rfl
    rw [if_pos hn] at q7
    obtain ⟨b8', o8, rfl, l8, q8, _⟩ := (RBA.next NN.out HBY.out).at_ hbn
    clear hy hbn hn
    generalize b.getD nn 0 = yy at *
    have c_S2_0 := blk_cell S2.out 0 _ rfl
    have f_S2_0 := blk_frozen S2.out 0
    have c_S2_1 := blk_cell S2.out 1 _ rfl
    have f_S2_1 := blk_frozen S2.out 1
    have c_S2_2 := blk_cell S2.out 2 _ rfl
    have f_S2_2 := blk_frozen S2.out 2
    have c_S2_3 := blk_cell S2.out 3 _ rfl
    have f_S2_3 := blk_frozen S2.out 3
    have l_S2 := blk_lt S2.out
    go_wp2_with fail
    refine ⟨⟨c + 1, HC'.out, by go_num, N1⟩, by have := HC'.out; simp [intOf]; omega⟩

set_option maxRecDepth 100000 in
theorem lifted (os : Os) (started : os.Started) (H : Type) (enc : TypeId × Value → H) :
  ReturnsInHanded {} Try.checked os 4 .any (Rows.storeStripesSpec.pre6 enc Try.prog Try.f4 Rows.storeStripesRow.domain false) (Rows.storeStripesSpec.post enc Try.prog Try.f4 false true false false) := by
 refine returnsInHanded_of_change (C := Try.checked) own started (by kernel_rfl) Try.func4
  (ChangeSpec.witness6 (enc := enc) (C := Try.checked) false ⟨#[], #[.int .i64 0, .int .i64 0, .slice none 0 0, .int .i64 0], []⟩ 8 (by kernel_rfl) (by kernel_rfl) (by kernel_rfl) (by kernel_rfl)) ?_
 intro W base args ds gs before hval0 hW hcnd _
 have hval : ∀ (j : Nat) t v, Try.f4.params[j]? = some t → args[j]? = some v → Value.okWide Try.prog W .any base t v := hval0
 have hW' := hW
 obtain ⟨p, q, hA0, hV, rfl, hfz, hnd⟩ := hW
 have hA : DataW.TrodAll enc Try.prog W 0 (fun _ => true) true Try.f4.params.toList args.toList ds p := hA0
 rw [Try.params4] at hA hval
 obtain ⟨v0, vs0, d0, ds0, p0, q0, hargs, rfl, rfl, h0, r0⟩ := trodAll_cons hA
 obtain ⟨v1, vs1, d1, ds1, p1, q1, rfl, rfl, rfl, h1, r1⟩ := trodAll_cons r0
 obtain ⟨v2, vs2, d2, ds2, p2, q2, rfl, rfl, rfl, h2, r2⟩ := trodAll_cons r1
 obtain ⟨v3, vs3, d3, ds3, p3, q3, rfl, rfl, rfl, h3, r3⟩ := trodAll_cons r2
 obtain ⟨rfl, rfl, rfl⟩ := trodAll_nil r3
 obtain rfl : args = #[v0, v1, v2, v3] := by cases args; simp_all
 obtain ⟨rfl, rfl⟩ := trodVars_none hV
 have k0 := h0
 have lt0 : ∀ x ∈ p0, x.block < W.heap.size := by obtain ⟨m, hm⟩ := k0; exact DataW.trod_lt m _ _ _ hm
 obtain ⟨x, rfl, _, _, wx⟩ := open_int Try.underlying3 (hval 0 3 v0 rfl rfl) h0
 have k1 := h1
 have lt1 : ∀ x ∈ p1, x.block < W.heap.size := by obtain ⟨m, hm⟩ := k1; exact DataW.trod_lt m _ _ _ hm
 obtain ⟨y, rfl, _, _, wy⟩ := open_int Try.underlying3 (hval 1 3 v1 rfl rfl) h1
 have k2 := h2
 have lt2 : ∀ x ∈ p2, x.block < W.heap.size := by obtain ⟨m, hm⟩ := k2; exact DataW.trod_lt m _ _ _ hm
 obtain ⟨sa2, sl2, sc2, rfl⟩ := okWide_slice Try.underlying26 (hval 2 26 v2 rfl rfl)
 obtain ⟨fu2, hf2⟩ := h2
 obtain ⟨Ab, b, cb, e2, hb1, hb2, hbb⟩ := open_bytes (cs := [.slice sa2 sl2 sc2]) hf2
 simp only [List.cons.injEq, and_true, Value.slice.injEq] at e2
 obtain ⟨rfl, rfl, rfl⟩ := e2
 have k3 := h3
 have lt3 : ∀ x ∈ p3, x.block < W.heap.size := by obtain ⟨m, hm⟩ := k3; exact DataW.trod_lt m _ _ _ hm
 obtain ⟨z, rfl, _, _, wz⟩ := open_int Try.underlying3 (hval 3 3 v3 rfl rfl) h3
 clear hA0 hval0
 refine (walk x y _ _ b z W hb1 hb2 hbb).mono fun e W' ⟨he, bel⟩ => ?_
 subst he
 exact ⟨_, rfl, _, _, _, [], _, [], hW', trodAll_mk1 (shut_bool Try.underlying4 _), (trodAll_cons_mk (Below.trod laidOut (by kernel_rfl) (of_decide_eq_true (by kernel_rfl)) k0 bel lt0) (trodAll_cons_mk (Below.trod laidOut (by kernel_rfl) (of_decide_eq_true (by kernel_rfl)) k1 bel lt1) (trodAll_cons_mk (Below.trod laidOut (by kernel_rfl) (of_decide_eq_true (by kernel_rfl)) k2 bel lt2) (trodAll_cons_mk (Below.trod laidOut (by kernel_rfl) (of_decide_eq_true (by kernel_rfl)) k3 bel lt3) trodAll_mk0)))), rfl, bel.frame _, fun h => by cases h⟩

theorem over : Rows.storeStripesRow.holds Try.pinned (OpenSpec.ofChange Rows.storeStripesSpec) :=
 OpenClaim.holds_of_wide 4 Try.f4 rfl rfl rfl rfl rfl rfl rfl ⟨rfl, rfl, rfl, rfl, rfl⟩ rfl rfl rfl rfl rfl (by kernel_rfl) Try.func4 (by kernel_rfl)
  (of_decide_eq_true (by kernel_rfl)) (by unfold Func.isWrapper; first | (rw [if_pos (by decide +kernel)]; kernel_rfl) | (rw [if_neg (by decide +kernel)]; exact ⟨rfl, rfl⟩))
  (fun os started H enc _ => lifted os started H enc)

theorem proved : Rows.StoreStripesSaid := over
#print axioms proved
end Go.Proofs.Ytapehckcmmompaa.storeStripes
