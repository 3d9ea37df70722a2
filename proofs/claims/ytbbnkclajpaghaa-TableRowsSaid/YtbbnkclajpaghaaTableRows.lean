/- For every input the law TableRows returns true and leaves its arguments as they were. -/
import Derived.Test.YtbbnkclajpaghaaRows
import Derived.Test.YtbbnkclajpaghaaTs
import Derived.Test.YtbbnkclajpaghaaTh
import Derived.Test.YtbbnkclajpaghaaTk
import Derived.Test.YtbbnkclajpaghaaTo
import Derived.Test.YtbbnkclajpaghaaTp
import Derived.Test.YtbbnkclajpaghaaTq
import Derived.OwnWalk
import Derived.Laws.OwnMore
import Derived.WalkKit
import Derived.ProofKit
import Derived.OpenShut
import Derived.ShutString
import Derived.ChangeOld
import Derived.Below
import Derived.Lib.SmallJoins
namespace Go.Proofs.Ytbbnkclajpaghaa.tableRows
open Go.ChangeShapes Go.WideShapes Go.ChangeAt Go.RowKit Go.Joins
open Go.ChangeMaps (open_string shut_string)
set_option linter.unusedVariables false

theorem own : ownKnob Try.prog.godebug = none := by kernel_rfl
theorem laidOut : laidOutB Try.prog = true := by kernel_rfl
attribute [local go_sem ↓] Go.wp_at_zero Go.wp_at_succ
set_option linter.unusedSimpArgs false
theorem len_put (l : List Vr) (r : Vr) (hl : l.length ≤ 300) : (putL l r).length ≤ 1000000 := by
  unfold putL
  split
  · have h1 := (List.takeWhile_sublist (fun x => decide (vkey x < vkey r)) (l := l)).length_le
    have h2 := (List.dropWhile_sublist (fun x => decide (vkey x < vkey r)) (l := l)).length_le
    simp only [List.length_append, List.length_cons]; omega
  · simp
theorem len_sel (l : List Vr) (i j : Int) (hl : l.length ≤ 300) : (selL l i j).length ≤ 1000000 := by
  unfold selL
  split
  · have := List.length_filter_le (selB i j) l; omega
  · simp
theorem len_drp (l : List Vr) (t c : Int) (b : List Bool) (hl : l.length ≤ 300) : (drpL l t c b).length ≤ 1000000 := by
  unfold drpL
  split
  · rw [List.length_map]; omega
  · simp
set_option maxRecDepth 100000 in
set_option maxHeartbeats 16000000 in
theorem walk (A Am : Option Addr) (cap cm : Nat) (l : List Vr) (r : Vr) (i j mt mc : Int) (bits : List Bool) (w : World) (hc : l.length ≤ cap) (hc' : cap ≤ 9223372036854775807) (hbc : bits.length ≤ cm) (hl : RT w A l) (hb : RB w Am bits) :
    Calls Try.prog 3 #[.slice A l.length cap, Rv r, .int .i64 i, .int .i64 j, Mv mt mc Am bits.length cm] w fun e w' => e = .returned (.bool true) ∧ Below w.heap.size w w' := by
  have HL := Lib.hid hl
  have HB := Lib.hid hb
  have NN := Lib.hid (Below.refl w.heap.size w)
  have GR := Lib.hid (fun W => great_calls mt mc Am bits.length cm W)
  have LG := Lib.hid (fun W => long_calls A l.length cap W)
  clear hl hb
  rcases hlb : longB l.length with _ | _
  rotate_left
  · rw [hlb] at LG
    clear hlb
    go_enter Try.func3, Try.ntmps3
    go_wp2_with fail
    have R6 : Hid (((w.alloc (.cells #[.int .i64 r.t, .int .i64 r.c, .int .i64 r.i, .int .i64 r.j, .int .i64 r.re, .int .i64 r.im, .int .i64 r.dn, .int .i64 r.n] 28)).alloc (.cells #[.int .i64 mt, .int .i64 mc, .slice Am bits.length cm] 31)).heap[w.heap.size]? = some (.cells #[.int .i64 r.t, .int .i64 r.c, .int .i64 r.i, .int .i64 r.j, .int .i64 r.re, .int .i64 r.im, .int .i64 r.dn, .int .i64 r.n] 28)) := Lib.hid (blk_alloc (blk_new w _) _)
    have M9 : Hid (((w.alloc (.cells #[.int .i64 r.t, .int .i64 r.c, .int .i64 r.i, .int .i64 r.j, .int .i64 r.re, .int .i64 r.im, .int .i64 r.dn, .int .i64 r.n] 28)).alloc (.cells #[.int .i64 mt, .int .i64 mc, .slice Am bits.length cm] 31)).heap[w.heap.size + 1]? = some (.cells #[.int .i64 mt, .int .i64 mc, .slice Am bits.length cm] 31)) := Lib.hid (blk_at _ (by simp))
    replace NN : Hid (Below w.heap.size w ((w.alloc (.cells #[.int .i64 r.t, .int .i64 r.c, .int .i64 r.i, .int .i64 r.j, .int .i64 r.re, .int .i64 r.im, .int .i64 r.dn, .int .i64 r.n] 28)).alloc (.cells #[.int .i64 mt, .int .i64 mc, .slice Am bits.length cm] 31))) := Lib.hid (Bal (Bal NN.out _) _)
    generalize ((w.alloc (.cells #[.int .i64 r.t, .int .i64 r.c, .int .i64 r.i, .int .i64 r.j, .int .i64 r.re, .int .i64 r.im, .int .i64 r.dn, .int .i64 r.n] 28)).alloc (.cells #[.int .i64 mt, .int .i64 mc, .slice Am bits.length cm] 31)) = W1 at *
    refine (LG.out _).mono ?_
    rintro e w2 ⟨rfl, hb⟩
    replace NN := Lib.hid (Bgo NN.out hb)
    replace R6 := Lib.hid (blk_next hb R6.out)
    replace M9 := Lib.hid (blk_next hb M9.out)
    clear hb
    go_wp2_with fail
    go_ret
    exact ⟨rfl, NN.out⟩
  have h300 : l.length ≤ 300 := by
    unfold longB at hlb
    simp at hlb
    omega
  rw [hlb] at LG
  clear hlb
  by_cases hg : 600 < bits.length
  · rw [decide_eq_true hg] at GR
    clear hg
    go_enter Try.func3, Try.ntmps3
    go_wp2_with fail
    have R6 : Hid (((w.alloc (.cells #[.int .i64 r.t, .int .i64 r.c, .int .i64 r.i, .int .i64 r.j, .int .i64 r.re, .int .i64 r.im, .int .i64 r.dn, .int .i64 r.n] 28)).alloc (.cells #[.int .i64 mt, .int .i64 mc, .slice Am bits.length cm] 31)).heap[w.heap.size]? = some (.cells #[.int .i64 r.t, .int .i64 r.c, .int .i64 r.i, .int .i64 r.j, .int .i64 r.re, .int .i64 r.im, .int .i64 r.dn, .int .i64 r.n] 28)) := Lib.hid (blk_alloc (blk_new w _) _)
    have M9 : Hid (((w.alloc (.cells #[.int .i64 r.t, .int .i64 r.c, .int .i64 r.i, .int .i64 r.j, .int .i64 r.re, .int .i64 r.im, .int .i64 r.dn, .int .i64 r.n] 28)).alloc (.cells #[.int .i64 mt, .int .i64 mc, .slice Am bits.length cm] 31)).heap[w.heap.size + 1]? = some (.cells #[.int .i64 mt, .int .i64 mc, .slice Am bits.length cm] 31)) := Lib.hid (blk_at _ (by simp))
    replace NN : Hid (Below w.heap.size w ((w.alloc (.cells #[.int .i64 r.t, .int .i64 r.c, .int .i64 r.i, .int .i64 r.j, .int .i64 r.re, .int .i64 r.im, .int .i64 r.dn, .int .i64 r.n] 28)).alloc (.cells #[.int .i64 mt, .int .i64 mc, .slice Am bits.length cm] 31))) := Lib.hid (Bal (Bal NN.out _) _)
    generalize ((w.alloc (.cells #[.int .i64 r.t, .int .i64 r.c, .int .i64 r.i, .int .i64 r.j, .int .i64 r.re, .int .i64 r.im, .int .i64 r.dn, .int .i64 r.n] 28)).alloc (.cells #[.int .i64 mt, .int .i64 mc, .slice Am bits.length cm] 31)) = W3 at *
    refine (LG.out _).mono ?_
    rintro e w4 ⟨rfl, hb⟩
    replace NN := Lib.hid (Bgo NN.out hb)
    replace R6 := Lib.hid (blk_next hb R6.out)
    replace M9 := Lib.hid (blk_next hb M9.out)
    clear hb
    have c_M9_0 := blk_cell M9.out 0 _ rfl
    have f_M9_0 := blk_frozen M9.out 0
    have c_M9_1 := blk_cell M9.out 1 _ rfl
    have f_M9_1 := blk_frozen M9.out 1
    have c_M9_2 := blk_cell M9.out 2 _ rfl
    have f_M9_2 := blk_frozen M9.out 2
    have l_M9 := blk_lt M9.out
    go_wp2_with fail
    refine (GR.out _).mono ?_
    rintro e w5 ⟨rfl, hb⟩
    clear c_M9_0 f_M9_0 c_M9_1 f_M9_1 c_M9_2 f_M9_2 l_M9
    replace NN := Lib.hid (Bgo NN.out hb)
    replace R6 := Lib.hid (blk_next hb R6.out)
    replace M9 := Lib.hid (blk_next hb M9.out)
    clear hb
    go_wp2_with fail
    go_ret
    exact ⟨rfl, NN.out⟩
  rw [decide_eq_false hg] at GR
  have hbl : bits.length ≤ 1000000 := by omega
  clear hg
  go_enter Try.func3, Try.ntmps3
  go_wp2_with fail
  have R6 : Hid (((w.alloc (.cells #[.int .i64 r.t, .int .i64 r.c, .int .i64 r.i, .int .i64 r.j, .int .i64 r.re, .int .i64 r.im, .int .i64 r.dn, .int .i64 r.n] 28)).alloc (.cells #[.int .i64 mt, .int .i64 mc, .slice Am bits.length cm] 31)).heap[w.heap.size]? = some (.cells #[.int .i64 r.t, .int .i64 r.c, .int .i64 r.i, .int .i64 r.j, .int .i64 r.re, .int .i64 r.im, .int .i64 r.dn, .int .i64 r.n] 28)) := Lib.hid (blk_alloc (blk_new w _) _)
  have M9 : Hid (((w.alloc (.cells #[.int .i64 r.t, .int .i64 r.c, .int .i64 r.i, .int .i64 r.j, .int .i64 r.re, .int .i64 r.im, .int .i64 r.dn, .int .i64 r.n] 28)).alloc (.cells #[.int .i64 mt, .int .i64 mc, .slice Am bits.length cm] 31)).heap[w.heap.size + 1]? = some (.cells #[.int .i64 mt, .int .i64 mc, .slice Am bits.length cm] 31)) := Lib.hid (blk_at _ (by simp))
  replace NN : Hid (Below w.heap.size w ((w.alloc (.cells #[.int .i64 r.t, .int .i64 r.c, .int .i64 r.i, .int .i64 r.j, .int .i64 r.re, .int .i64 r.im, .int .i64 r.dn, .int .i64 r.n] 28)).alloc (.cells #[.int .i64 mt, .int .i64 mc, .slice Am bits.length cm] 31))) := Lib.hid (Bal (Bal NN.out _) _)
  generalize ((w.alloc (.cells #[.int .i64 r.t, .int .i64 r.c, .int .i64 r.i, .int .i64 r.j, .int .i64 r.re, .int .i64 r.im, .int .i64 r.dn, .int .i64 r.n] 28)).alloc (.cells #[.int .i64 mt, .int .i64 mc, .slice Am bits.length cm] 31)) = W6 at *
  refine (LG.out _).mono ?_
  rintro e w7 ⟨rfl, hb⟩
  replace NN := Lib.hid (Bgo NN.out hb)
  replace R6 := Lib.hid (blk_next hb R6.out)
  replace M9 := Lib.hid (blk_next hb M9.out)
  clear hb
  have c_M9_0 := blk_cell M9.out 0 _ rfl
  have f_M9_0 := blk_frozen M9.out 0
  have c_M9_1 := blk_cell M9.out 1 _ rfl
  have f_M9_1 := blk_frozen M9.out 1
  have c_M9_2 := blk_cell M9.out 2 _ rfl
  have f_M9_2 := blk_frozen M9.out 2
  have l_M9 := blk_lt M9.out
  go_wp2_with fail
  refine (GR.out _).mono ?_
  rintro e w8 ⟨rfl, hb⟩
  clear c_M9_0 f_M9_0 c_M9_1 f_M9_1 c_M9_2 f_M9_2 l_M9
  replace NN := Lib.hid (Bgo NN.out hb)
  replace R6 := Lib.hid (blk_next hb R6.out)
  replace M9 := Lib.hid (blk_next hb M9.out)
  clear hb
  have OO : Hid (OR (w.heap.size + 2) (w8.alloc (.cells #[] 28)) (.slice (some ⟨w8.heap.size, 0, none⟩) 0 0) []) := Lib.hid (World.ownsRow_lit w8 #[] 0 (blk_lt M9.out) (by decide) rfl)
  have RL : Hid (RT (w8.alloc (.cells #[] 28)) A l) := Lib.hid (HL.out.next (Bal NN.out _))
  have SZ : Hid (w.heap.size + 2 ≤ (w8.alloc (.cells #[] 28)).heap.size) := Lib.hid (by rw [World.size_alloc]; have := blk_lt M9.out; omega)
  have LL : Hid (([] : List Vr).length + l.length ≤ 1000) := Lib.hid (by simp; omega)
  have NA : Hid (Below w.heap.size w (w8.alloc (.cells #[] 28))) := Lib.hid (Bal NN.out _)
  have RA6 := Lib.hid (blk_alloc R6.out (.cells #[] 28))
  have MA9 := Lib.hid (blk_alloc M9.out (.cells #[] 28))
  have R6_ := R6
  have M9_ := M9
  have NN_ := NN
  clear R6 M9 NN
  go_wp2_with ((at_builtin; refine wpList_app rfl _ _ rfl (w.heap.size + 2) _ [] rfl A l.length cap l rfl OO.out rfl RL.out LL.out SZ.out ?_; intro v1 y1 o1 q1 t1; obtain ⟨AO, cO, hv1, g1, g2, g3, g4⟩ := OR.form o1; rw [List.nil_append] at hv1 g1 g3; subst hv1; have RO := Lib.hid g3; have HO := Lib.hid g4; have R6 := Lib.hid (blk_B q1 RA6.out (Nat.lt_succ_of_lt (Nat.lt_succ_self _))); have M9 := Lib.hid (blk_B q1 MA9.out (Nat.lt_succ_self _)); have NN := Lib.hid (NA.out.trans (q1.mono (Nat.le_add_right _ 2))); have c_R6_0 := blk_cell R6.out 0 _ rfl; have f_R6_0 := blk_frozen R6.out 0; have c_R6_1 := blk_cell R6.out 1 _ rfl; have f_R6_1 := blk_frozen R6.out 1; have c_R6_2 := blk_cell R6.out 2 _ rfl; have f_R6_2 := blk_frozen R6.out 2; have c_R6_3 := blk_cell R6.out 3 _ rfl; have f_R6_3 := blk_frozen R6.out 3; have c_R6_4 := blk_cell R6.out 4 _ rfl; have f_R6_4 := blk_frozen R6.out 4; have c_R6_5 := blk_cell R6.out 5 _ rfl; have f_R6_5 := blk_frozen R6.out 5; have c_R6_6 := blk_cell R6.out 6 _ rfl; have f_R6_6 := blk_frozen R6.out 6; have c_R6_7 := blk_cell R6.out 7 _ rfl; have f_R6_7 := blk_frozen R6.out 7; have l_R6 := blk_lt R6.out; have c_M9_0 := blk_cell M9.out 0 _ rfl; have f_M9_0 := blk_frozen M9.out 0; have c_M9_1 := blk_cell M9.out 1 _ rfl; have f_M9_1 := blk_frozen M9.out 1; have c_M9_2 := blk_cell M9.out 2 _ rfl; have f_M9_2 := blk_frozen M9.out 2; have l_M9 := blk_lt M9.out; clear R6_ M9_ NN_ o1 q1 t1 g3 g4 OO RL SZ LL NA RA6 MA9))
  refine (put_calls r RO.out HO.out g1 g2).mono ?_
  rintro e w9 ⟨va, rfl, oa, hb⟩
  clear c_R6_0 f_R6_0 c_R6_1 f_R6_1 c_R6_2 f_R6_2 c_R6_3 f_R6_3 c_R6_4 f_R6_4 c_R6_5 f_R6_5 c_R6_6 f_R6_6 c_R6_7 f_R6_7 l_R6 c_M9_0 f_M9_0 c_M9_1 f_M9_1 c_M9_2 f_M9_2 l_M9
  replace NN := Lib.hid (Bgo NN.out hb)
  replace RO := Lib.hid (Rd.next hb RO.out)
  replace HO := Lib.hid (fun b off h => Nat.lt_of_lt_of_le (HO.out b off h) hb.size)
  replace R6 := Lib.hid (blk_next hb R6.out)
  replace M9 := Lib.hid (blk_next hb M9.out)
  clear hb
  obtain ⟨Aa, ca, rfl, ka, ka', ra, -⟩ := OR.form oa
  have Ra := Lib.hid ra
  clear ra oa ka'
  have c_R6_0 := blk_cell R6.out 0 _ rfl
  have f_R6_0 := blk_frozen R6.out 0
  have c_R6_1 := blk_cell R6.out 1 _ rfl
  have f_R6_1 := blk_frozen R6.out 1
  have c_R6_2 := blk_cell R6.out 2 _ rfl
  have f_R6_2 := blk_frozen R6.out 2
  have c_R6_3 := blk_cell R6.out 3 _ rfl
  have f_R6_3 := blk_frozen R6.out 3
  have c_R6_4 := blk_cell R6.out 4 _ rfl
  have f_R6_4 := blk_frozen R6.out 4
  have c_R6_5 := blk_cell R6.out 5 _ rfl
  have f_R6_5 := blk_frozen R6.out 5
  have c_R6_6 := blk_cell R6.out 6 _ rfl
  have f_R6_6 := blk_frozen R6.out 6
  have c_R6_7 := blk_cell R6.out 7 _ rfl
  have f_R6_7 := blk_frozen R6.out 7
  have l_R6 := blk_lt R6.out
  go_wp2_with fail
  refine (refput_calls r (HL.out.next NN.out) hc hc').mono ?_
  rintro e w10 ⟨vb, rfl, ob, hb⟩
  clear c_R6_0 f_R6_0 c_R6_1 f_R6_1 c_R6_2 f_R6_2 c_R6_3 f_R6_3 c_R6_4 f_R6_4 c_R6_5 f_R6_5 c_R6_6 f_R6_6 c_R6_7 f_R6_7 l_R6
  replace NN := Lib.hid (Bgo NN.out hb)
  replace RO := Lib.hid (Rd.next hb RO.out)
  replace HO := Lib.hid (fun b off h => Nat.lt_of_lt_of_le (HO.out b off h) hb.size)
  replace Ra := Lib.hid (Rd.next hb Ra.out)
  replace R6 := Lib.hid (blk_next hb R6.out)
  replace M9 := Lib.hid (blk_next hb M9.out)
  clear hb
  obtain ⟨Ab, cb, rfl, kb, kb', rb, -⟩ := OR.form ob
  have Rb := Lib.hid rb
  clear rb ob kb'
  go_wp2_with fail
  refine (select_calls i j RO.out HO.out g1 g2).mono ?_
  rintro e w11 ⟨vx, rfl, ox, hb⟩
  replace NN := Lib.hid (Bgo NN.out hb)
  replace RO := Lib.hid (Rd.next hb RO.out)
  replace HO := Lib.hid (fun b off h => Nat.lt_of_lt_of_le (HO.out b off h) hb.size)
  replace Ra := Lib.hid (Rd.next hb Ra.out)
  replace Rb := Lib.hid (Rd.next hb Rb.out)
  replace R6 := Lib.hid (blk_next hb R6.out)
  replace M9 := Lib.hid (blk_next hb M9.out)
  clear hb
  obtain ⟨Ax, cx, rfl, kx, kx', rx, -⟩ := OR.form ox
  have Rx := Lib.hid rx
  clear rx ox kx'
  go_wp2_with fail
  refine (refselect_calls i j (HL.out.next NN.out) hc hc').mono ?_
  rintro e w12 ⟨vy, rfl, oy, hb⟩
  replace NN := Lib.hid (Bgo NN.out hb)
  replace RO := Lib.hid (Rd.next hb RO.out)
  replace HO := Lib.hid (fun b off h => Nat.lt_of_lt_of_le (HO.out b off h) hb.size)
  replace Ra := Lib.hid (Rd.next hb Ra.out)
  replace Rb := Lib.hid (Rd.next hb Rb.out)
  replace Rx := Lib.hid (Rd.next hb Rx.out)
  replace R6 := Lib.hid (blk_next hb R6.out)
  replace M9 := Lib.hid (blk_next hb M9.out)
  clear hb
  obtain ⟨Ay, cy, rfl, ky, ky', ry, -⟩ := OR.form oy
  have Ry := Lib.hid ry
  clear ry oy ky'
  have c_M9_0 := blk_cell M9.out 0 _ rfl
  have f_M9_0 := blk_frozen M9.out 0
  have c_M9_1 := blk_cell M9.out 1 _ rfl
  have f_M9_1 := blk_frozen M9.out 1
  have c_M9_2 := blk_cell M9.out 2 _ rfl
  have f_M9_2 := blk_frozen M9.out 2
  have l_M9 := blk_lt M9.out
  go_wp2_with fail
  refine (drop_calls mt mc RO.out HO.out g1 g2 (HB.out.next NN.out) hbl hbc).mono ?_
  rintro e w13 ⟨vu, rfl, ou, hb⟩
  clear c_M9_0 f_M9_0 c_M9_1 f_M9_1 c_M9_2 f_M9_2 l_M9
  replace NN := Lib.hid (Bgo NN.out hb)
  replace RO := Lib.hid (Rd.next hb RO.out)
  replace HO := Lib.hid (fun b off h => Nat.lt_of_lt_of_le (HO.out b off h) hb.size)
  replace Ra := Lib.hid (Rd.next hb Ra.out)
  replace Rb := Lib.hid (Rd.next hb Rb.out)
  replace Rx := Lib.hid (Rd.next hb Rx.out)
  replace Ry := Lib.hid (Rd.next hb Ry.out)
  replace R6 := Lib.hid (blk_next hb R6.out)
  replace M9 := Lib.hid (blk_next hb M9.out)
  clear hb
  obtain ⟨Au, cu, rfl, ku, ku', ru, -⟩ := OR.form ou
  have Ru := Lib.hid ru
  clear ru ou ku'
  have c_M9_0 := blk_cell M9.out 0 _ rfl
  have f_M9_0 := blk_frozen M9.out 0
  have c_M9_1 := blk_cell M9.out 1 _ rfl
  have f_M9_1 := blk_frozen M9.out 1
  have c_M9_2 := blk_cell M9.out 2 _ rfl
  have f_M9_2 := blk_frozen M9.out 2
  have l_M9 := blk_lt M9.out
  go_wp2_with fail
  refine (refdrop_calls mt mc (HL.out.next NN.out) hc hc' (HB.out.next NN.out) hbl hbc).mono ?_
  rintro e w14 ⟨vv, rfl, ov, hb⟩
  clear c_M9_0 f_M9_0 c_M9_1 f_M9_1 c_M9_2 f_M9_2 l_M9
  replace NN := Lib.hid (Bgo NN.out hb)
  replace RO := Lib.hid (Rd.next hb RO.out)
  replace HO := Lib.hid (fun b off h => Nat.lt_of_lt_of_le (HO.out b off h) hb.size)
  replace Ra := Lib.hid (Rd.next hb Ra.out)
  replace Rb := Lib.hid (Rd.next hb Rb.out)
  replace Rx := Lib.hid (Rd.next hb Rx.out)
  replace Ry := Lib.hid (Rd.next hb Ry.out)
  replace Ru := Lib.hid (Rd.next hb Ru.out)
  replace R6 := Lib.hid (blk_next hb R6.out)
  replace M9 := Lib.hid (blk_next hb M9.out)
  clear hb
  obtain ⟨Av, cv, rfl, kv, kv', rv, -⟩ := OR.form ov
  have Rv := Lib.hid rv
  clear rv ov kv'
  go_wp2_with fail
  refine (chk_calls RO.out HO.out g1 g2).mono ?_
  rintro e w15 ⟨rfl, hb⟩
  replace NN := Lib.hid (Bgo NN.out hb)
  replace RO := Lib.hid (Rd.next hb RO.out)
  replace HO := Lib.hid (fun b off h => Nat.lt_of_lt_of_le (HO.out b off h) hb.size)
  replace Ra := Lib.hid (Rd.next hb Ra.out)
  replace Rb := Lib.hid (Rd.next hb Rb.out)
  replace Rx := Lib.hid (Rd.next hb Rx.out)
  replace Ry := Lib.hid (Rd.next hb Ry.out)
  replace Ru := Lib.hid (Rd.next hb Ru.out)
  replace Rv := Lib.hid (Rd.next hb Rv.out)
  replace R6 := Lib.hid (blk_next hb R6.out)
  replace M9 := Lib.hid (blk_next hb M9.out)
  clear hb
  go_wp2_with fail
  refine (refchk_calls (HL.out.next NN.out) hc hc').mono ?_
  rintro e w16 ⟨rfl, hb⟩
  replace NN := Lib.hid (Bgo NN.out hb)
  replace RO := Lib.hid (Rd.next hb RO.out)
  replace HO := Lib.hid (fun b off h => Nat.lt_of_lt_of_le (HO.out b off h) hb.size)
  replace Ra := Lib.hid (Rd.next hb Ra.out)
  replace Rb := Lib.hid (Rd.next hb Rb.out)
  replace Rx := Lib.hid (Rd.next hb Rx.out)
  replace Ry := Lib.hid (Rd.next hb Ry.out)
  replace Ru := Lib.hid (Rd.next hb Ru.out)
  replace Rv := Lib.hid (Rd.next hb Rv.out)
  replace R6 := Lib.hid (blk_next hb R6.out)
  replace M9 := Lib.hid (blk_next hb M9.out)
  clear hb
  go_wp2_with fail
  refine (same_calls Ra.out Rb.out ka kb (len_put l r h300)).mono ?_
  rintro e w17 ⟨rfl, hb⟩
  replace NN := Lib.hid (Bgo NN.out hb)
  replace RO := Lib.hid (Rd.next hb RO.out)
  replace HO := Lib.hid (fun b off h => Nat.lt_of_lt_of_le (HO.out b off h) hb.size)
  replace Ra := Lib.hid (Rd.next hb Ra.out)
  replace Rb := Lib.hid (Rd.next hb Rb.out)
  replace Rx := Lib.hid (Rd.next hb Rx.out)
  replace Ry := Lib.hid (Rd.next hb Ry.out)
  replace Ru := Lib.hid (Rd.next hb Ru.out)
  replace Rv := Lib.hid (Rd.next hb Rv.out)
  replace R6 := Lib.hid (blk_next hb R6.out)
  replace M9 := Lib.hid (blk_next hb M9.out)
  clear hb
  go_wp2_with fail
  refine (same_calls Rx.out Ry.out kx ky (len_sel l i j h300)).mono ?_
  rintro e w18 ⟨rfl, hb⟩
  replace NN := Lib.hid (Bgo NN.out hb)
  replace RO := Lib.hid (Rd.next hb RO.out)
  replace HO := Lib.hid (fun b off h => Nat.lt_of_lt_of_le (HO.out b off h) hb.size)
  replace Ra := Lib.hid (Rd.next hb Ra.out)
  replace Rb := Lib.hid (Rd.next hb Rb.out)
  replace Rx := Lib.hid (Rd.next hb Rx.out)
  replace Ry := Lib.hid (Rd.next hb Ry.out)
  replace Ru := Lib.hid (Rd.next hb Ru.out)
  replace Rv := Lib.hid (Rd.next hb Rv.out)
  replace R6 := Lib.hid (blk_next hb R6.out)
  replace M9 := Lib.hid (blk_next hb M9.out)
  clear hb
  go_wp2_with fail
  refine (same_calls Ru.out Rv.out ku kv (len_drp l mt mc bits h300)).mono ?_
  rintro e w19 ⟨rfl, hb⟩
  replace NN := Lib.hid (Bgo NN.out hb)
  replace RO := Lib.hid (Rd.next hb RO.out)
  replace HO := Lib.hid (fun b off h => Nat.lt_of_lt_of_le (HO.out b off h) hb.size)
  replace Ra := Lib.hid (Rd.next hb Ra.out)
  replace Rb := Lib.hid (Rd.next hb Rb.out)
  replace Rx := Lib.hid (Rd.next hb Rx.out)
  replace Ry := Lib.hid (Rd.next hb Ry.out)
  replace Ru := Lib.hid (Rd.next hb Ru.out)
  replace Rv := Lib.hid (Rd.next hb Rv.out)
  replace R6 := Lib.hid (blk_next hb R6.out)
  replace M9 := Lib.hid (blk_next hb M9.out)
  clear hb
  go_wp2_with fail
  refine (same_calls RO.out (HL.out.next NN.out) g1 hc (by omega)).mono ?_
  rintro e w20 ⟨rfl, hb⟩
  replace NN := Lib.hid (Bgo NN.out hb)
  replace RO := Lib.hid (Rd.next hb RO.out)
  replace HO := Lib.hid (fun b off h => Nat.lt_of_lt_of_le (HO.out b off h) hb.size)
  replace Ra := Lib.hid (Rd.next hb Ra.out)
  replace Rb := Lib.hid (Rd.next hb Rb.out)
  replace Rx := Lib.hid (Rd.next hb Rx.out)
  replace Ry := Lib.hid (Rd.next hb Ry.out)
  replace Ru := Lib.hid (Rd.next hb Ru.out)
  replace Rv := Lib.hid (Rd.next hb Rv.out)
  replace R6 := Lib.hid (blk_next hb R6.out)
  replace M9 := Lib.hid (blk_next hb M9.out)
  clear hb
  go_wp2_with fail
  go_ret
  exact ⟨rfl, NN.out⟩

set_option maxRecDepth 100000 in
theorem lifted (os : Os) (started : os.Started) (H : Type) (enc : TypeId × Value → H) :
    ReturnsInHanded {} Try.checked os 3 .any (Rows.tableRowsSpec.pre6 enc Try.prog Try.f3 Rows.tableRowsRow.domain false) (Rows.tableRowsSpec.post enc Try.prog Try.f3 false true false false) := by
  refine returnsInHanded_of_change (C := Try.checked) own started (by kernel_rfl) Try.func3
    (ChangeSpec.witness6 (enc := enc) (C := Try.checked) false ⟨#[], #[.slice none 0 0, .agg #[.int .i64 0, .int .i64 0, .int .i64 0, .int .i64 0, .int .i64 0, .int .i64 0, .int .i64 0, .int .i64 0], .int .i64 0, .int .i64 0, .agg #[.int .i64 0, .int .i64 0, .slice none 0 0]], []⟩ 8 (by kernel_rfl) (by kernel_rfl) (by kernel_rfl) (by kernel_rfl)) ?_
  intro W base args ds gs before hval0 hW hcnd _
  have hval : ∀ (j : Nat) t v, Try.f3.params[j]? = some t → args[j]? = some v → Value.okWide Try.prog W .any base t v := hval0
  have hW' := hW
  obtain ⟨p, q, hA0, hV, rfl, hfz, hnd⟩ := hW
  have hA : DataW.TrodAll enc Try.prog W 0 (fun _ => true) true Try.f3.params.toList args.toList ds p := hA0
  rw [Try.params3] at hA hval
  obtain ⟨v0, vs0, d0, ds0, p0, q0, hargs, rfl, rfl, h0, r0⟩ := trodAll_cons hA
  obtain ⟨v1, vs1, d1, ds1, p1, q1, rfl, rfl, rfl, h1, r1⟩ := trodAll_cons r0
  obtain ⟨v2, vs2, d2, ds2, p2, q2, rfl, rfl, rfl, h2, r2⟩ := trodAll_cons r1
  obtain ⟨v3, vs3, d3, ds3, p3, q3, rfl, rfl, rfl, h3, r3⟩ := trodAll_cons r2
  obtain ⟨v4, vs4, d4, ds4, p4, q4, rfl, rfl, rfl, h4, r4⟩ := trodAll_cons r3
  obtain ⟨rfl, rfl, rfl⟩ := trodAll_nil r4
  obtain rfl : args = #[v0, v1, v2, v3, v4] := by cases args; simp_all
  obtain ⟨rfl, rfl⟩ := trodVars_none hV
  have k0 := h0
  have lt0 : ∀ x ∈ p0, x.block < W.heap.size := by obtain ⟨m, hm⟩ := k0; exact DataW.trod_lt m _ _ _ hm
  obtain ⟨A, l, cap, rfl, hc, hc', hl⟩ := open_rowsv (hval 0 22 v0 rfl rfl) h0
  have k1 := h1
  have lt1 : ∀ x ∈ p1, x.block < W.heap.size := by obtain ⟨m, hm⟩ := k1; exact DataW.trod_lt m _ _ _ hm
  obtain ⟨r, rfl⟩ := open_row (hval 1 28 v1 rfl rfl) h1
  have k2 := h2
  have lt2 : ∀ x ∈ p2, x.block < W.heap.size := by obtain ⟨m, hm⟩ := k2; exact DataW.trod_lt m _ _ _ hm
  obtain ⟨i, rfl, _, _, wi⟩ := open_int Try.underlying3 (hval 2 3 v2 rfl rfl) h2
  have k3 := h3
  have lt3 : ∀ x ∈ p3, x.block < W.heap.size := by obtain ⟨m, hm⟩ := k3; exact DataW.trod_lt m _ _ _ hm
  obtain ⟨j, rfl, _, _, wj⟩ := open_int Try.underlying3 (hval 3 3 v3 rfl rfl) h3
  have k4 := h4
  have lt4 : ∀ x ∈ p4, x.block < W.heap.size := by obtain ⟨m, hm⟩ := k4; exact DataW.trod_lt m _ _ _ hm
  obtain ⟨mt, mc, Am, bits, cm, rfl, hbc, hb⟩ := open_mask (hval 4 31 v4 rfl rfl) h4
  clear hA0 hval0
  refine (walk A Am cap cm l r i j mt mc bits W hc hc' hbc hl hb).mono fun e W' ⟨he, bel⟩ => ?_
  subst he
  exact ⟨_, rfl, _, _, _, [], _, [], hW', trodAll_mk1 (shut_bool Try.underlying4 _), (trodAll_cons_mk (Below.trod laidOut (by kernel_rfl) (of_decide_eq_true (by kernel_rfl)) k0 bel lt0) (trodAll_cons_mk (Below.trod laidOut (by kernel_rfl) (of_decide_eq_true (by kernel_rfl)) k1 bel lt1) (trodAll_cons_mk (Below.trod laidOut (by kernel_rfl) (of_decide_eq_true (by kernel_rfl)) k2 bel lt2) (trodAll_cons_mk (Below.trod laidOut (by kernel_rfl) (of_decide_eq_true (by kernel_rfl)) k3 bel lt3) (trodAll_cons_mk (Below.trod laidOut (by kernel_rfl) (of_decide_eq_true (by kernel_rfl)) k4 bel lt4) trodAll_mk0))))), rfl, bel.frame _, fun h => by cases h⟩

theorem over : Rows.tableRowsRow.holds Try.pinned (OpenSpec.ofChange Rows.tableRowsSpec) :=
  OpenClaim.holds_of_wide 3 Try.f3 rfl rfl rfl rfl rfl rfl rfl ⟨rfl, rfl, rfl, rfl, rfl⟩ rfl rfl rfl rfl rfl (by kernel_rfl) Try.func3 (by kernel_rfl)
    (of_decide_eq_true (by kernel_rfl)) (by unfold Func.isWrapper; first | (rw [if_pos (by decide +kernel)]; kernel_rfl) | (rw [if_neg (by decide +kernel)]; exact ⟨rfl, rfl⟩))
    (fun os started H enc _ => lifted os started H enc)

theorem proved : Rows.TableRowsSaid := over
#print axioms proved
end Go.Proofs.Ytbbnkclajpaghaa.tableRows
