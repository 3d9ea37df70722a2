/- For every input the law TableAverages returns true and leaves its arguments as they were. -/
import Derived.Test.YtbbnkclajpaghaaRows
import Derived.Test.YtbbnkclajpaghaaMA21
import Derived.Test.YtbbnkclajpaghaaRe
import Derived.OwnWalk
import Derived.Laws.OwnMore
import Derived.WalkKit
import Derived.ProofKit
import Derived.OpenShut
import Derived.ShutString
import Derived.ChangeOld
import Derived.Below
import Derived.Lib.SmallJoins
namespace Go.Proofs.Ytbbnkclajpaghaa.tableAverages
open Go.ChangeShapes Go.WideShapes Go.ChangeAt Go.RowKit Go.Joins
open Go.ChangeMaps (open_string shut_string)
set_option linter.unusedVariables false

theorem own : ownKnob Try.prog.godebug = none := by kernel_rfl
theorem laidOut : laidOutB Try.prog = true := by kernel_rfl
attribute [local go_sem ↓] Go.wp_at_zero Go.wp_at_succ
set_option linter.unusedSimpArgs false
theorem len_avg (l : List Vr) (a b : Int) (hl : l.length ≤ 300) : (avgL l a b).length ≤ 1000000 := by
  unfold avgL
  split
  · rename_i h
    unfold avgE at h
    split at h
    · rename_i h1; exact absurd h h1
    · rename_i h1
      split at h
      · omega
      · rename_i h2
        have g := chkE_good (show chkE l = 0 by omega)
        exact Nat.le_trans (avR_len (by omega) (by omega) (goodF_row g.1)) (by omega)
  · simp
set_option maxRecDepth 100000 in
set_option maxHeartbeats 16000000 in
theorem walk (A : Option Addr) (cap : Nat) (l : List Vr) (a b : Int) (w : World) (hc : l.length ≤ cap) (hc' : cap ≤ 9223372036854775807) (hl : RT w A l) :
    Calls Try.prog 4 #[.slice A l.length cap, .int .i64 a, .int .i64 b] w fun e w' => e = .returned (.bool true) ∧ Below w.heap.size w w' := by
  have HL := Lib.hid hl
  have NN := Lib.hid (Below.refl w.heap.size w)
  have LG := Lib.hid (fun W => long_calls A l.length cap W)
  clear hl
  rcases hlb : longB l.length with _ | _
  rotate_left
  · rw [hlb] at LG
    clear hlb
    go_enter Try.func4, Try.ntmps4
    go_wp2_with fail
    refine (LG.out _).mono ?_
    rintro e w1 ⟨rfl, hb⟩
    replace NN := Lib.hid (Bgo NN.out hb)
    clear hb
    go_wp2_with fail
    go_ret
    exact ⟨rfl, NN.out⟩
  have h300 : l.length ≤ 300 := by
    unfold longB at hlb
    simp at hlb
    omega
  rw [hlb] at LG
  clear hlb
  go_enter Try.func4, Try.ntmps4
  go_wp2_with fail
  refine (LG.out _).mono ?_
  rintro e w2 ⟨rfl, hb⟩
  replace NN := Lib.hid (Bgo NN.out hb)
  clear hb
  have OO : Hid (OV w.heap.size (w2.alloc (.cells #[] 28)) (.slice (some ⟨w2.heap.size, 0, none⟩) 0 0) []) := Lib.hid (World.ownsRow_lit w2 #[] 0 NN.out.size (by decide) rfl)
  have RL : Hid (RT (w2.alloc (.cells #[] 28)) A l) := Lib.hid (HL.out.next (Bal NN.out _))
  have SZ : Hid (w.heap.size ≤ (w2.alloc (.cells #[] 28)).heap.size) := Lib.hid (by rw [World.size_alloc]; have := NN.out.size; omega)
  have LL : Hid (([] : List Vr).length + l.length ≤ 100000) := Lib.hid (by simp; omega)
  have NA : Hid (Below w.heap.size w (w2.alloc (.cells #[] 28))) := Lib.hid (Bal NN.out _)
  have NN_ := NN
  clear NN
  go_wp2_with ((at_builtin; refine wpList_gapp tyV rfl _ _ rfl w.heap.size _ [] rfl A l.length cap l rfl OO.out rfl RL.out LL.out SZ.out ?_; intro v1 y1 o1 q1 t1; obtain ⟨AO, cO, hv1, g1, g2, g3, g4⟩ := OG.form o1; rw [List.nil_append] at hv1 g1 g3; subst hv1; have RO := Lib.hid g3; have HO := Lib.hid g4; have NN := Lib.hid (NA.out.trans q1); clear NN_ o1 q1 t1 g3 g4 OO RL SZ LL NA))
  refine (average_calls a b RO.out HO.out g1 g2).mono ?_
  rintro e w3 ⟨va, rfl, oa, hb⟩
  replace NN := Lib.hid (Bgo NN.out hb)
  replace RO := Lib.hid (Rd.next hb RO.out)
  replace HO := Lib.hid (fun b off h => Nat.lt_of_lt_of_le (HO.out b off h) hb.size)
  clear hb
  obtain ⟨Aa, ca, rfl, ka, ka', ra, -⟩ := OR.form oa
  have Ra := Lib.hid ra
  clear ra oa ka'
  go_wp2_with fail
  refine (raverage_calls a b (HL.out.next NN.out) hc hc').mono ?_
  rintro e w4 ⟨vb, rfl, ob, hb⟩
  replace NN := Lib.hid (Bgo NN.out hb)
  replace RO := Lib.hid (Rd.next hb RO.out)
  replace HO := Lib.hid (fun b off h => Nat.lt_of_lt_of_le (HO.out b off h) hb.size)
  replace Ra := Lib.hid (Rd.next hb Ra.out)
  clear hb
  obtain ⟨Ab, cb, rfl, kb, kb', rb, -⟩ := OR.form ob
  have Rb := Lib.hid rb
  clear rb ob kb'
  go_wp2_with fail
  refine (same_calls Ra.out Rb.out ka kb (len_avg l a b h300)).mono ?_
  rintro e w5 ⟨rfl, hb⟩
  replace NN := Lib.hid (Bgo NN.out hb)
  replace RO := Lib.hid (Rd.next hb RO.out)
  replace HO := Lib.hid (fun b off h => Nat.lt_of_lt_of_le (HO.out b off h) hb.size)
  replace Ra := Lib.hid (Rd.next hb Ra.out)
  replace Rb := Lib.hid (Rd.next hb Rb.out)
  clear hb
  go_wp2_with fail
  refine (same_calls RO.out (HL.out.next NN.out) g1 hc (by omega)).mono ?_
  rintro e w6 ⟨rfl, hb⟩
  replace NN := Lib.hid (Bgo NN.out hb)
  replace RO := Lib.hid (Rd.next hb RO.out)
  replace HO := Lib.hid (fun b off h => Nat.lt_of_lt_of_le (HO.out b off h) hb.size)
  replace Ra := Lib.hid (Rd.next hb Ra.out)
  replace Rb := Lib.hid (Rd.next hb Rb.out)
  clear hb
  go_wp2_with fail
  go_ret
  exact ⟨rfl, NN.out⟩

set_option maxRecDepth 100000 in
theorem lifted (os : Os) (started : os.Started) (H : Type) (enc : TypeId × Value → H) :
    ReturnsInHanded {} Try.checked os 4 .any (Rows.tableAveragesSpec.pre6 enc Try.prog Try.f4 Rows.tableAveragesRow.domain false) (Rows.tableAveragesSpec.post enc Try.prog Try.f4 false true false false) := by
  refine returnsInHanded_of_change (C := Try.checked) own started (by kernel_rfl) Try.func4
    (ChangeSpec.witness6 (enc := enc) (C := Try.checked) false ⟨#[], #[.slice none 0 0, .int .i64 0, .int .i64 0], []⟩ 8 (by kernel_rfl) (by kernel_rfl) (by kernel_rfl) (by kernel_rfl)) ?_
  intro W base args ds gs before hval0 hW hcnd _
  have hval : ∀ (j : Nat) t v, Try.f4.params[j]? = some t → args[j]? = some v → Value.okWide Try.prog W .any base t v := hval0
  have hW' := hW
  obtain ⟨p, q, hA0, hV, rfl, hfz, hnd⟩ := hW
  have hA : DataW.TrodAll enc Try.prog W 0 (fun _ => true) true Try.f4.params.toList args.toList ds p := hA0
  rw [Try.params4] at hA hval
  obtain ⟨v0, vs0, d0, ds0, p0, q0, hargs, rfl, rfl, h0, r0⟩ := trodAll_cons hA
  obtain ⟨v1, vs1, d1, ds1, p1, q1, rfl, rfl, rfl, h1, r1⟩ := trodAll_cons r0
  obtain ⟨v2, vs2, d2, ds2, p2, q2, rfl, rfl, rfl, h2, r2⟩ := trodAll_cons r1
  obtain ⟨rfl, rfl, rfl⟩ := trodAll_nil r2
  obtain rfl : args = #[v0, v1, v2] := by cases args; simp_all
  obtain ⟨rfl, rfl⟩ := trodVars_none hV
  have k0 := h0
  have lt0 : ∀ x ∈ p0, x.block < W.heap.size := by obtain ⟨m, hm⟩ := k0; exact DataW.trod_lt m _ _ _ hm
  obtain ⟨A, l, cap, rfl, hc, hc', hl⟩ := open_rowsv (hval 0 22 v0 rfl rfl) h0
  have k1 := h1
  have lt1 : ∀ x ∈ p1, x.block < W.heap.size := by obtain ⟨m, hm⟩ := k1; exact DataW.trod_lt m _ _ _ hm
  obtain ⟨a, rfl, _, _, wi⟩ := open_int Try.underlying3 (hval 1 3 v1 rfl rfl) h1
  have k2 := h2
  have lt2 : ∀ x ∈ p2, x.block < W.heap.size := by obtain ⟨m, hm⟩ := k2; exact DataW.trod_lt m _ _ _ hm
  obtain ⟨b, rfl, _, _, wj⟩ := open_int Try.underlying3 (hval 2 3 v2 rfl rfl) h2
  clear hA0 hval0
  refine (walk A cap l a b W hc hc' hl).mono fun e W' ⟨he, bel⟩ => ?_
  subst he
  exact ⟨_, rfl, _, _, _, [], _, [], hW', trodAll_mk1 (shut_bool Try.underlying4 _), (trodAll_cons_mk (Below.trod laidOut (by kernel_rfl) (of_decide_eq_true (by kernel_rfl)) k0 bel lt0) (trodAll_cons_mk (Below.trod laidOut (by kernel_rfl) (of_decide_eq_true (by kernel_rfl)) k1 bel lt1) (trodAll_cons_mk (Below.trod laidOut (by kernel_rfl) (of_decide_eq_true (by kernel_rfl)) k2 bel lt2) trodAll_mk0))), rfl, bel.frame _, fun h => by cases h⟩

theorem over : Rows.tableAveragesRow.holds Try.pinned (OpenSpec.ofChange Rows.tableAveragesSpec) :=
  OpenClaim.holds_of_wide 4 Try.f4 rfl rfl rfl rfl rfl rfl rfl ⟨rfl, rfl, rfl, rfl, rfl⟩ rfl rfl rfl rfl rfl (by kernel_rfl) Try.func4 (by kernel_rfl)
    (of_decide_eq_true (by kernel_rfl)) (by unfold Func.isWrapper; first | (rw [if_pos (by decide +kernel)]; kernel_rfl) | (rw [if_neg (by decide +kernel)]; exact ⟨rfl, rfl⟩))
    (fun os started H enc _ => lifted os started H enc)

theorem proved : Rows.TableAveragesSaid := over
#print axioms proved
end Go.Proofs.Ytbbnkclajpaghaa.tableAverages
