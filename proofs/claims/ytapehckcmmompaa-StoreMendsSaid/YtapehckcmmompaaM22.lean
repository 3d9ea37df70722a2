/- Several texts in one. -/
import Derived.Test.YtapehckcmmompaaM11
namespace Go.Proofs.Ytapehckcmmompaa
open Go.ChangeShapes Go.WideShapes Go.ChangeAt Go.RowKit
set_option linter.unusedVariables false
set_option maxRecDepth 100000
attribute [local go_sem ↓] Go.wp_at_zero Go.wp_at_succ
def grD (d : Dk) : Bool := decide (16 < d.blocks.length) || d.blocks.any fun b => decide (20 < b.length)
def grB (ds : List Dk) (os : List Ob) : Bool := ds.any grD || (os.any (fun o => decide (100 < o.name.size)) || (decide (20 < ds.length) || decide (20 < os.length)))
theorem grB_not {ds : List Dk} {os : List Ob} (h : grB ds os = false) : ds.length ≤ 20 ∧ os.length ≤ 20 ∧ (∀ o ∈ os, o.name.size ≤ 100) ∧ (∀ d ∈ ds, d.blocks.length ≤ 16 ∧ ∀ b ∈ d.blocks, b.length ≤ 20) := by
 unfold grB at h
 simp only [Bool.or_eq_false_iff, decide_eq_false_iff_not, List.any_eq_false] at h
 obtain ⟨h1, h2, h3, h4⟩ := h
 refine ⟨by omega, by omega, fun o ho => by have := h2 o ho; simpa using this, fun d hd => ?_⟩
 have := h1 d hd
 unfold grD at this
 simp only [Bool.or_eq_true, decide_eq_true_eq, List.any_eq_true, not_or, not_exists, not_and] at this
 exact ⟨by omega, fun b hb => by have := this.2 b hb; omega⟩
set_option maxHeartbeats 8000000 in
theorem great_calls (d p : Int) (D A : Option Addr) (cd ca B : Nat) (ds : List Dk) (os : List Ob) (w : World) (hnd : ds.length ≤ cd) (hcd : cd ≤ 9223372036854775807) (hna : os.length ≤ ca) (hca : ca ≤ 9223372036854775807) (hd : RD B w D ds) (hs : RO B w A os) :
  Calls Try.prog 10 #[Tv d p (.slice D ds.length cd) (.slice A os.length ca)] w fun e w' => e = .returned (.bool (grB ds os)) ∧ Below w.heap.size w w' := by
 have HD := Lib.hid (hd.next (Bal (Below.refl w.heap.size w) (.cells #[.int .i64 d, .int .i64 p, .slice D ds.length cd, .slice A os.length ca] 25)))
 have HS := Lib.hid (hs.next (Bal (Below.refl w.heap.size w) (.cells #[.int .i64 d, .int .i64 p, .slice D ds.length cd, .slice A os.length ca] 25)))
 have NN := Lib.hid (Bal (Below.refl w.heap.size w) (.cells #[.int .i64 d, .int .i64 p, .slice D ds.length cd, .slice A os.length ca] 25))
 have K := Lib.hid (blk_new w (.cells #[.int .i64 d, .int .i64 p, .slice D ds.length cd, .slice A os.length ca] 25))
 clear hd hs
 have B1 : Hid (∀ d ∈ ds, grD d = true → grB ds os = true) := Lib.hid (fun d hd h => by unfold grB; rw [List.any_eq_true.2 ⟨d, hd, h⟩, Bool.true_or])
 have B2 : Hid (∀ o ∈ os, 100 < o.name.size → grB ds os = true) := Lib.hid (fun o ho h => by unfold grB; rw [List.any_eq_true.2 ⟨o, ho, decide_eq_true h⟩]; simp)
 have GD : Hid ((∀ d ∈ ds, grD d = false) → (∀ o ∈ os, ¬ 100 < o.name.size) → grB ds os = (decide (20 < ds.length) || decide (20 < os.length))) := Lib.hid (fun h1 h2 => by
  unfold grB
  rw [List.any_eq_false.2 (fun d hd => by rw [h1 d hd]; simp), List.any_eq_false.2 (fun o ho => by simpa using h2 o ho)]; rfl)
 generalize grB ds os = res at *
 go_enter Try.func10, Try.ntmps10
 go_wp2_with fail
 generalize w.alloc (.cells #[.int .i64 d, .int .i64 p, .slice D ds.length cd, .slice A os.length ca] 25) = W0 at *
 have k2 := blk_cell K.out 2 _ rfl
 have k3 := blk_cell K.out 3 _ rfl
 have kl := blk_lt K.out
 go_loop [3] (fun i => ∃ k : Nat, k ≤ ds.length ∧ i = .int .i64 k ∧ Hid (∀ (j : Nat) (o : Dk), j < k → ds[j]? = some o → grD o = false)) (fun i => ds.length - (intOf i).toNat)
 case atStart => exact ⟨0, by omega, rfl, Lib.hid (fun j o h => by omega)⟩
 case round =>
  obtain ⟨k, hk, rfl, G1⟩ := hrel
  by_cases hlt : k < ds.length
  ·obtain ⟨o, ho⟩ := get_some hlt
   obtain ⟨b, off, Ai, ci, rfl, hb, c0, c1, h2, h3, HM⟩ := HD.out.at_ ho
   have HM := Lib.hid HM
   have HO := Lib.hid ho
   have kk : k + 1 ≤ ds.length := hlt
   obtain ⟨f, m⟩ := o
   simp only at c0 c1 h2
   clear ho
   by_cases q : 16 < m.length
   ·have e : decide ((16 : Int) < (m.length : Int)) = true := decide_eq_true (by omega)
    have R : Hid (res = true) := Lib.hid (B1.out _ (List.mem_of_getElem? HO.out) (by unfold grD; rw [decide_eq_true q]; rfl))
    clear B1 B2 GD G1
    go_wp2_with fail
    go_ret
    exact ⟨ret_bool R.out.symm, NN.out⟩
   ·have e : decide ((16 : Int) < (m.length : Int)) = false := decide_eq_false (by omega)
    go_wp2_with fail
    go_loop [4] (fun i => ∃ j : Nat, j ≤ m.length ∧ i = .int .i64 j ∧ Hid (∀ (t : Nat) (l : List Nat), t < j → m[t]? = some l → ¬ 20 < l.length)) (fun i => m.length - (intOf i).toNat)
    case atStart => exact ⟨0, by omega, rfl, Lib.hid (fun j o h => by omega)⟩
    case round =>
     obtain ⟨j, hj, rfl, G2⟩ := hrel
     by_cases hlt2 : j < m.length
     ·obtain ⟨l, hl⟩ := get_some hlt2
      obtain ⟨b2, off2, A2, c2, rfl, hb2, i1, i2, i3, _⟩ := HM.out.at_ hl
      have HLL := Lib.hid hl
      clear hl
      by_cases q2 : 20 < l.length
      ·have e2 : decide ((20 : Int) < (l.length : Int)) = true := decide_eq_true (by omega)
       have R : Hid (res = true) := Lib.hid (B1.out _ (List.mem_of_getElem? HO.out) (by unfold grD; rw [List.any_eq_true.2 ⟨l, List.mem_of_getElem? HLL.out, decide_eq_true q2⟩]; simp))
       clear B1 B2 GD G1 G2
       go_wp2_with fail
       go_ret
       exact ⟨ret_bool R.out.symm, NN.out⟩
      ·have e2 : decide ((20 : Int) < (l.length : Int)) = false := decide_eq_false (by omega)
       have G3 : Hid (∀ (t : Nat) (l : List Nat), t < j + 1 → m[t]? = some l → ¬ 20 < l.length) := Lib.hid (fun t l' ht h => by
        by_cases x : t = j
        ·subst x
         rw [HLL.out] at h
         cases h; exact q2
        ·exact G2.out t l' (by omega) h)
       have jj : j + 1 ≤ m.length := hlt2
       clear B1 B2 GD G1 G2
       go_wp2_with fail
       go_round
       case rel => exact ⟨j + 1, jj, by go_num, G3⟩
       case measure => simp [intOf]; omega
     ·obtain rfl : j = m.length := by omega
      have G3 : Hid (∀ (t : Nat) (o : Dk), t < k + 1 → ds[t]? = some o → grD o = false) := Lib.hid (fun t o ht h => by
       by_cases x : t = k
       ·subst x
        rw [HO.out] at h
        cases h
        unfold grD
        rw [decide_eq_false q, Bool.false_or, List.any_eq_false]
        intro l hl
        obtain ⟨i, hi⟩ := List.mem_iff_getElem?.1 hl
        simpa using G2.out i l (get_lt hi) hi
       ·exact G1.out t o (by omega) h)
      clear B1 B2 GD G1 G2
      go_wp2_with fail
      go_round
      case rel => exact ⟨k + 1, kk, by go_num, G3⟩
      case measure => simp [intOf]; omega
  ·obtain rfl : k = ds.length := by omega
   have D0 : Hid (∀ d ∈ ds, grD d = false) := Lib.hid (fun d hd => by obtain ⟨i, hi⟩ := List.mem_iff_getElem?.1 hd; exact G1.out i d (get_lt hi) hi)
   replace GD := Lib.hid (GD.out D0.out)
   clear B1 G1 D0 hk
   go_wp2_with fail
   go_loop [5] (fun i => ∃ k : Nat, k ≤ os.length ∧ i = .int .i64 k ∧ Hid (∀ (j : Nat) (o : Ob), j < k → os[j]? = some o → ¬ 100 < o.name.size)) (fun i => os.length - (intOf i).toNat)
   case atStart => exact ⟨0, by omega, rfl, Lib.hid (fun j o h => by omega)⟩
   case round =>
    obtain ⟨k, hk, rfl, G1⟩ := hrel
    by_cases hlt : k < os.length
    ·obtain ⟨o, ho⟩ := get_some hlt
     obtain ⟨b, off, rfl, hb, c0, _⟩ := HS.out.at_ ho
     have HO := Lib.hid ho
     have kk : k + 1 ≤ os.length := hlt
     clear ho
     by_cases q : 100 < o.name.size
     ·have e : decide ((100 : Int) < (o.name.size : Int)) = true := decide_eq_true (by omega)
      have R : Hid (res = true) := Lib.hid (B2.out _ (List.mem_of_getElem? HO.out) q)
      clear B2 GD G1
      go_wp2_with fail
      go_ret
      exact ⟨ret_bool R.out.symm, NN.out⟩
     ·have e : decide ((100 : Int) < (o.name.size : Int)) = false := decide_eq_false (by omega)
      have G3 : Hid (∀ (j : Nat) (o : Ob), j < k + 1 → os[j]? = some o → ¬ 100 < o.name.size) := Lib.hid (fun t l' ht h => by
        by_cases x : t = k
        ·subst x
         rw [HO.out] at h
         cases h; exact q
        ·exact G1.out t l' (by omega) h)
      clear B2 GD G1
      go_wp2_with fail
      go_round
      case rel => exact ⟨k + 1, kk, by go_num, G3⟩
      case measure => simp [intOf]; omega
    ·obtain rfl : k = os.length := by omega
     have D0 : Hid (∀ o ∈ os, ¬ 100 < o.name.size) := Lib.hid (fun d hd => by obtain ⟨i, hi⟩ := List.mem_iff_getElem?.1 hd; exact G1.out i d (get_lt hi) hi)
     replace GD := Lib.hid (GD.out D0.out)
     clear B2 G1 D0 hk
     by_cases q : 20 < ds.length
     ·have e : decide ((20 : Int) < (ds.length : Int)) = true := decide_eq_true (by omega)
      have R : Hid (res = true) := Lib.hid (by rw [GD.out, decide_eq_true q]; rfl)
      clear GD
      go_wp2_with fail
      go_ret
      exact ⟨ret_bool R.out.symm, NN.out⟩
     ·have e : decide ((20 : Int) < (ds.length : Int)) = false := decide_eq_false (by omega)
      have R : Hid (res = decide (20 < os.length)) := Lib.hid (by rw [GD.out, decide_eq_false q]; rfl)
      clear GD
      by_cases q2 : 20 < os.length
      ·have e2 : decide ((20 : Int) < (os.length : Int)) = true := decide_eq_true (by omega)
       rw [decide_eq_true q2] at R
       go_wp2_with fail
       go_ret
       exact ⟨ret_bool R.out.symm, NN.out⟩
      ·have e2 : decide ((20 : Int) < (os.length : Int)) = false := decide_eq_false (by omega)
       rw [decide_eq_false q2] at R
       go_wp2_with fail
       go_ret
       exact ⟨ret_bool R.out.symm, NN.out⟩
end Go.Proofs.Ytapehckcmmompaa
