/- Several texts in one. -/
import Derived.WalkKit
import Derived.ProofKit
import Derived.Lib.Hide
import Derived.WalkLawsBesides
import Derived.WalkSpells
import Derived.Outline
import Derived.Deep.QuietTactic
import Derived.BigQuiet
import Derived.WalkSmall
import Derived.Maps.AppendAt
import Derived.Deep.AppendLies
import Derived.RegionTactic
import Derived.Deep.DrawnRows
import Derived.Deep.RegionHeld3
import Derived.OpenShut
import Derived.StillTail
import Derived.StillTailTactics
import Derived.Handy
import Derived.RangeFuncNested
import Derived.RangeFuncLeaves
import Derived.RangeFuncBound
import Derived.Shelf.Abstract
import Derived.Shelf.RegionOpen
import Derived.OwnWalkIn
import Derived.TacticsInMore
import Derived.LoopNIn
import Derived.LoopIn
import Derived.Test.YtbbnkclajpaghaaGreatDoorMS00
import Derived.Test.YtbbnkclajpaghaaGreatDoorMS01
namespace Go.Proofs.YtbbnkclajpaghaaGreatDoor
open Go.ChangeShapes Go.WideShapes Go.ChangeAt Go.RowKit
set_option linter.unusedVariables false
set_option maxRecDepth 100000
structure Vr where
 t : Int
 c : Int
 i : Int
 j : Int
 re : Int
 im : Int
 dn : Int
 n : Int
abbrev Cv (r : Vr) : Value := .agg #[.int .i64 r.re, .int .i64 r.im, .int .i64 r.dn]
abbrev Wv (r : Vr) : Value := .agg #[.int .i64 r.i, .int .i64 r.j, .int .i64 r.re, .int .i64 r.im, .int .i64 r.dn, .int .i64 r.n]
abbrev Rwv (r : Vr) : Value := .agg #[.int .i64 r.t, .int .i64 r.c, .int .i64 r.i, .int .i64 r.j, .int .i64 r.re, .int .i64 r.im, .int .i64 r.dn, .int .i64 r.n]
def vr8 (r : Vr) : List Value := [.int .i64 r.t, .int .i64 r.c, .int .i64 r.i, .int .i64 r.j, .int .i64 r.re, .int .i64 r.im, .int .i64 r.dn, .int .i64 r.n]
def vrc (l : List Vr) : List Value := l.flatMap vr8
theorem vr8_len (r : Vr) : (vr8 r).length = 8 := rfl
theorem vrc_append (l m : List Vr) : vrc (l ++ m) = vrc l ++ vrc m := by simp [vrc]
theorem vrc_one (l : List Vr) : ∀ u ∈ vrc l, u.oneCell' = true := by
 intro u hu
 obtain ⟨s, _, hs⟩ := List.mem_flatMap.1 hu
 simp [vr8] at hs
 rcases hs with rfl | rfl | rfl | rfl | rfl | rfl | rfl | rfl <;> rfl
abbrev valB (a b c : Int) : Bool := Cxm.chkB a b c
def visB (r : Vr) : Bool := decide (0 ≤ r.i) && (decide (r.i < r.j) && (decide (r.j < 8) && (valB r.re r.im r.dn && (decide (0 ≤ r.n) && decide (r.n ≤ 1000000)))))
def rowB (r : Vr) : Bool := decide (0 ≤ r.t) && (decide (r.t < 64) && (decide (0 ≤ r.c) && (decide (r.c < 16) && visB r)))
def vkey (r : Vr) : Int := ((r.t * 16 + r.c) * 8 + r.i) * 8 + r.j
def kcmp (x y : Int) : Int := if x < y then -1 else if x = y then 0 else 1
def orI (a b : Int) : Int := if a = 0 then b else a
def rcmp (r s : Vr) : Int := orI (kcmp r.t s.t) (orI (kcmp r.c s.c) (orI (kcmp r.i s.i) (kcmp r.j s.j)))
theorem rowB_facts {r : Vr} (h : rowB r = true) : 0 ≤ r.t ∧ r.t < 64 ∧ 0 ≤ r.c ∧ r.c < 16 ∧ 0 ≤ r.i ∧ r.i < r.j ∧ r.j < 8 := by
 simp only [rowB, visB, Bool.and_eq_true, decide_eq_true_eq] at h
 omega
theorem rcmp_key {r s : Vr} (hr : rowB r = true) (hs : rowB s = true) : rcmp r s = kcmp (vkey r) (vkey s) := by
 have h1 := rowB_facts hr
 have h2 := rowB_facts hs
 unfold rcmp orI kcmp vkey
 repeat' split
 all_goals omega
theorem kcmp_ge {x y : Int} : 0 ≤ kcmp x y ↔ y ≤ x := by
 unfold kcmp
 repeat' split
 all_goals omega
def goodF : Option Vr → List Vr → Bool
 | _, [] => true
 | none, r :: l => rowB r && goodF (some r) l
 | some q, r :: l => rowB r && (decide (vkey q < vkey r) && goodF (some r) l)
def goodB (l : List Vr) : Bool := goodF none l
def chkE (l : List Vr) : Int := if 200 < l.length then 4 else if goodB l then 0 else 8
theorem goodF_none {q : Option Vr} {l : List Vr} (h : goodF q l = true) : goodF none l = true := by
 cases l with
 | nil => rfl
 | cons r l =>
  cases q with
  | none => exact h
  | some q => simp only [goodF, Bool.and_eq_true] at h ⊢; exact ⟨h.1, h.2.2⟩
theorem goodF_append {q : Option Vr} {l m : List Vr} : goodF q (l ++ m) = (goodF q l && goodF (match l.getLast? with | none => q | some x => some x) m) := by
 induction l generalizing q with
 | nil => simp [goodF]
 | cons r l ih =>
  have hl : (match (r :: l).getLast? with | none => q | some x => some x) = (match l.getLast? with | none => some r | some x => some x) := by
   rw [List.getLast?_cons]; cases l.getLast? <;> rfl
  rw [hl]
  cases q with
  | none => simp only [List.cons_append, goodF, ih, Bool.and_assoc]
  | some q => simp only [List.cons_append, goodF, ih, Bool.and_assoc]
theorem goodF_row {q : Option Vr} {l : List Vr} (h : goodF q l = true) : ∀ r ∈ l, rowB r = true := by
 induction l generalizing q with
 | nil => simp
 | cons r l ih =>
  intro x hx
  have h' := goodF_none h
  simp only [goodF, Bool.and_eq_true] at h'
  rcases List.mem_cons.1 hx with rfl | hx
  ·exact h'.1
  ·exact ih h'.2 x hx
end Go.Proofs.YtbbnkclajpaghaaGreatDoor
namespace Go.Proofs.YtbbnkclajpaghaaGreatDoor
open Go.ChangeShapes Go.WideShapes Go.ChangeAt Go.RowKit
set_option linter.unusedVariables false
set_option maxRecDepth 100000
theorem fm_len {α : Type} (f : α → List Value) (sz : Nat) (hf : ∀ x, (f x).length = sz) (l : List α) : (l.flatMap f).length = l.length * sz := by
 induction l with
 | nil => simp
 | cons x l ih => rw [List.flatMap_cons, List.length_append, ih, hf, List.length_cons, Nat.succ_mul]; omega
theorem fm_get {α : Type} (f : α → List Value) (sz : Nat) (hf : ∀ x, (f x).length = sz) (l : List α) (i j : Nat) (hi : i < l.length) (hj : j < sz) : (l.flatMap f)[i * sz + j]? = (f l[i])[j]? := by
 induction l generalizing i with
 | nil => simp at hi
 | cons x l ih =>
  cases i with
  | zero =>
   rw [List.flatMap_cons, Nat.zero_mul, Nat.zero_add, List.getElem?_append_left (by rw [hf]; exact hj)]; rfl
  | succ i =>
   rw [List.flatMap_cons, List.getElem?_append_right (by rw [hf, Nat.succ_mul]; omega), hf]
   have := ih i (by simpa using hi)
   rw [← show (i * sz + j) = (i + 1) * sz + j - sz by rw [Nat.succ_mul]; omega, this]
   rfl
theorem Rd.at_ {w : World} {size n : Nat} {A : Option Addr} {α : Type} {f : α → List Value} {l : List α} (h : Rd w size A l.length (l.flatMap f)) (hf : ∀ x, (f x).length = size) {i : Nat} (hi : i < l.length) :
  ∃ b off, A = some ⟨b, off, none⟩ ∧ b < w.heap.size ∧ ∀ j u, (f l[i])[j]? = some u → w.cell? ⟨b, off + i * size + j, none⟩ = some u := by
 obtain ⟨b, off, e, hl, hc⟩ := h.2 (by omega)
 refine ⟨b, off, e, hl, fun j u hu => ?_⟩
 have hj : j < size := by
  have := (List.getElem?_eq_some_iff.1 hu).1
  rw [hf] at this; exact this
 rw [Nat.add_assoc]
 exact hc (i * size + j) u (by rw [fm_get f size hf l i j hi hj]; exact hu)
section
variable {P : Program} (w : World)
end
abbrev RT (w : World) (A : Option Addr) (l : List Vr) : Prop := Rd w 8 A l.length (vrc l)
theorem RT.at_ {w : World} {A : Option Addr} {l : List Vr} (h : RT w A l) {i : Nat} (hi : i < l.length) : ∃ b off, A = some ⟨b, off, none⟩ ∧ b < w.heap.size ∧
  w.cell? ⟨b, off + i * 8, none⟩ = some (.int .i64 l[i].t) ∧ w.cell? ⟨b, off + i * 8 + 1, none⟩ = some (.int .i64 l[i].c) ∧ w.cell? ⟨b, off + i * 8 + 2, none⟩ = some (.int .i64 l[i].i) ∧ w.cell? ⟨b, off + i * 8 + 3, none⟩ = some (.int .i64 l[i].j) ∧
  w.cell? ⟨b, off + i * 8 + 4, none⟩ = some (.int .i64 l[i].re) ∧ w.cell? ⟨b, off + i * 8 + 5, none⟩ = some (.int .i64 l[i].im) ∧ w.cell? ⟨b, off + i * 8 + 6, none⟩ = some (.int .i64 l[i].dn) ∧ w.cell? ⟨b, off + i * 8 + 7, none⟩ = some (.int .i64 l[i].n) := by
 obtain ⟨b, off, e, hl, hc⟩ := Rd.at_ (n := 0) h vr8_len hi
 exact ⟨b, off, e, hl, hc 0 _ rfl, hc 1 _ rfl, hc 2 _ rfl, hc 3 _ rfl, hc 4 _ rfl, hc 5 _ rfl, hc 6 _ rfl, hc 7 _ rfl⟩
end Go.Proofs.YtbbnkclajpaghaaGreatDoor
namespace Go.Proofs.YtbbnkclajpaghaaGreatDoor
open Go.ChangeShapes Go.WideShapes Go.ChangeAt Go.RowKit Cxm
set_option linter.unusedVariables false
set_option maxRecDepth 100000
set_option maxHeartbeats 400000 in
theorem wgcd_calls (a b : Int) (ha : -4000000000000000000 ≤ a) (ha' : a ≤ 4000000000000000000) (hb : -4000000000000000000 ≤ b) (hb' : b ≤ 4000000000000000000) (w : World) :
  Calls Tryz.prog 122 #[.int .i64 a, .int .i64 b] w fun e w' => e = .returned (.int .i64 (g2 a b)) ∧ ∃ m, w' = w.drewN m := by
 generalize hg : g2 a b = g
 have HG := Lib.hid hg
 clear hg
 go_enter Tryz.func122, Tryz.ntmps122
 go_wp2
 go_loopw [0, 1] (fun p q wr => ∃ x y : Int, ∃ n : Nat, p = .int .i64 x ∧ q = .int .i64 y ∧ wr = w.drewN n ∧ Hid (g2 x y = g) ∧ -4000000000000000000 ≤ x ∧ x ≤ 4000000000000000000 ∧ -4000000000000000000 ≤ y ∧ y ≤ 4000000000000000000) (fun _ q _ => (intOf q).natAbs)
 case atStart => exact ⟨a, b, 0, rfl, rfl, rfl, HG, by omega, by omega, by omega, by omega⟩
 case round =>
  obtain ⟨x, y, n, rfl, rfl, rfl, HX, h1, h2, h3, h4⟩ := hrel
  by_cases hy : y = 0
  ·have hy' : (y != 0) = false := by simp [hy]
   have HY := Lib.hid hy
   clear hy
   go_wp2
   all_goals
    go_ret
    refine ⟨ret_int ?_, n, rfl⟩
    have e := HX.out
    rw [HY.out, g2_zero] at e
    omega
  ·have hy' : (y != 0) = true := by simp [hy]
   have HY := Lib.hid hy
   clear hy
   have hb := tmod_bd x y HY.out
   have HS := Lib.hid (g2_step x y)
   have hw : IntKind.i64.wrap (x.tmod y) = x.tmod y := IntWalk.i64_in _ (by omega)
   go_wp2
   go_quiet (fail)
   go_wp2
   refine ⟨⟨y, x.tmod y, n + nq, rfl, rfl, by rw [World.drewN_drewN], Lib.hid (by rw [HS.out]; exact HX.out), by omega, by omega, by omega, by omega⟩, ?_⟩
   simp only [intOf]; omega
theorem fits_calls (a : Int) (w : World) :
  Calls Tryz.prog 121 #[.int .i64 a] w fun e w' => e = .returned (.bool (fitsB a)) ∧ ∃ m, w' = w.drewN m := by
 by_cases h : -1000000000 ≤ a
 all_goals
  go_enter Tryz.func121, Tryz.ntmps121
  go_wp2
  go_ret
  refine ⟨?_, 0, rfl⟩
  simp [fitsB, h]
  try omega
theorem fits_bd {x : Int} (h : fitsB x = true) : -1000000000 ≤ x ∧ x ≤ 1000000000 := by simpa [fitsB] using h
theorem isWeight_calls (n : Int) (w : World) : Calls Tryz.prog 91 #[.int .i64 n] w fun e w' => e = .returned (.bool (decide (0 ≤ n) && decide (n ≤ 1000000))) ∧ ∃ m, w' = w.drewN m := by
 by_cases h : 0 ≤ n
 all_goals
  go_enter Tryz.func91, Tryz.ntmps91
  go_wp2
  go_ret
  refine ⟨?_, 0, rfl⟩
  simp [h]
  try omega
set_option maxHeartbeats 2000000 in
theorem isValue_calls (re im dn : Int) (w : World) : Calls Tryz.prog 105 #[.agg #[.int .i64 re, .int .i64 im, .int .i64 dn]] w fun e w' => e = .returned (.bool (chkB re im dn)) ∧ Below w.heap.size w w' := by
 generalize hv : chkB re im dn = v
 have hc : dn < 1 ∨ (1 ≤ dn ∧ 1000000000 < dn) ∨ (1 ≤ dn ∧ dn ≤ 1000000000) := by omega
 have FI : Hid (∀ x : Int, ∀ W : World, Calls Tryz.prog 121 #[.int .i64 x] W fun e w' => e = .returned (.bool (fitsB x)) ∧ ∃ m, w' = W.drewN m) := Lib.hid fun x W => fits_calls x W
 rcases hc with c | ⟨c, c2⟩ | ⟨c, c2⟩
 ·have F : v = false := by rw [← hv]; unfold chkB; rw [decide_eq_false (by omega)]; rfl
  have HF := Lib.hid F
  have d1 : decide (1 ≤ dn) = false := by simpa using c
  clear F hv FI
  go_enter Tryz.func105, Tryz.ntmps105
  go_wp2_with fail
  go_quiet (fail)
  go_wp2_with fail
  go_ret
  exact ⟨ret_bool HF.out.symm, below_drewN (Bal (Below.refl _ _) _) _⟩
 ·have F : v = false := by rw [← hv]; unfold chkB; rw [decide_eq_false (by omega)]; rfl
  have HF := Lib.hid F
  have d1 : decide (1 ≤ dn) = true := by simpa using c
  have d2 : decide (dn ≤ 1000000000) = false := by simpa using c2
  clear F hv FI
  go_enter Tryz.func105, Tryz.ntmps105
  go_wp2_with fail
  go_quiet (fail)
  go_wp2_with fail
  go_ret
  exact ⟨ret_bool HF.out.symm, below_drewN (Bal (Below.refl _ _) _) _⟩
 have d1 : decide (1 ≤ dn) = true := by simpa using c
 have d2 : decide (dn ≤ 1000000000) = true := by simpa using c2
 have hv1 : (fitsB re && (fitsB im && decide (g3 re im dn = 1))) = v := by rw [← hv]; unfold chkB; rw [decide_eq_true (by omega : 1 ≤ dn ∧ dn ≤ 1000000000)]; rfl
 clear hv
 have F1 := FI.out re
 cases hr : fitsB re
 ·have HF : Hid (v = false) := Lib.hid (by rw [← hv1, hr]; rfl)
  rw [hr] at F1
  have HF1 := Lib.hid F1
  clear hv1 FI F1 hr
  go_enter Tryz.func105, Tryz.ntmps105
  go_wp2_with fail
  go_quiet ((go_at_call 121; (with_reducible exact quiet_more (HF1.out _))))
  go_wp2_with fail
  go_ret
  exact ⟨ret_bool HF.out.symm, below_drewN (Bal (Below.refl _ _) _) _⟩
 have F2 := FI.out im
 cases hi : fitsB im
 ·have HF : Hid (v = false) := Lib.hid (by rw [← hv1, hr, hi]; rfl)
  rw [hr] at F1
  rw [hi] at F2
  have HF1 := Lib.hid F1
  have HF2 := Lib.hid F2
  clear hv1 FI F1 F2 hr hi
  go_enter Tryz.func105, Tryz.ntmps105
  go_wp2_with fail
  go_quiet ((first | (go_at_call 121; (with_reducible exact quiet_more (HF1.out _))) | (go_at_call 121; (with_reducible exact quiet_more (HF2.out _)))))
  go_wp2_with fail
  go_ret
  exact ⟨ret_bool HF.out.symm, below_drewN (Bal (Below.refl _ _) _) _⟩
 have b1 := fits_bd hr
 have b2 := fits_bd hi
 have gb := g2_bd re im 1000000000 (by omega) (by omega)
 have gn := g2_nonneg re im
 have G1 : Hid (∀ W : World, Calls Tryz.prog 122 #[.int .i64 re, .int .i64 im] W fun e w' => e = .returned (.int .i64 (g2 re im)) ∧ ∃ m, w' = W.drewN m) := Lib.hid fun W => wgcd_calls re im (by omega) (by omega) (by omega) (by omega) W
 have hv2 : decide (g3 re im dn = 1) = v := by rw [← hv1, hr, hi]; rfl
 unfold g3 at hv2
 generalize g2 re im = x at *
 have G2 : Hid (∀ W : World, Calls Tryz.prog 122 #[.int .i64 x, .int .i64 dn] W fun e w' => e = .returned (.int .i64 (g2 x dn)) ∧ ∃ m, w' = W.drewN m) := Lib.hid fun W => wgcd_calls x dn (by omega) (by omega) (by omega) (by omega) W
 generalize g2 x dn = y at *
 have HF := Lib.hid hv2
 rw [hr] at F1
 rw [hi] at F2
 have HF1 := Lib.hid F1
 have HF2 := Lib.hid F2
 clear hv1 hv2 FI F1 F2 hr hi b1 b2 gb gn
 go_enter Tryz.func105, Tryz.ntmps105
 go_wp2_with fail
 go_quiet ((first | (go_at_call 121; (with_reducible exact quiet_more (HF1.out _))) | (go_at_call 121; (with_reducible exact quiet_more (HF2.out _))) | (go_at_call 122; (with_reducible exact quiet_more (G1.out _))) | (go_at_call 122; (with_reducible exact quiet_more (G2.out _)))))
 go_wp2_with fail
 go_ret
 exact ⟨ret_bool HF.out, below_drewN (Bal (Below.refl _ _) _) _⟩
end Go.Proofs.YtbbnkclajpaghaaGreatDoor
namespace Go.Proofs.YtbbnkclajpaghaaGreatDoor
open Go.ChangeShapes Go.WideShapes Go.ChangeAt Go.RowKit Cxm
set_option linter.unusedVariables false
set_option maxRecDepth 100000
def visE (r : Vr) : Int := bif visB r then 0 else 8
theorem visE_zero (r : Vr) : decide (visE r = 0) = visB r := by unfold visE; cases visB r <;> rfl
set_option maxHeartbeats 2000000 in
theorem wcheck_calls (r : Vr) (w : World) : Calls Tryz.prog 77 #[Wv r] w fun e w' => e = .returned (.int .i64 (visE r)) ∧ Below w.heap.size w w' := by
 obtain ⟨t, c, i, j, re, im, dn, n⟩ := r
 have IV : Hid (∀ W : World, Calls Tryz.prog 105 #[.agg #[.int .i64 re, .int .i64 im, .int .i64 dn]] W fun e w' => e = .returned (.bool (chkB re im dn)) ∧ Below W.heap.size W w') := Lib.hid (isValue_calls re im dn)
 have IW : Hid (∀ W : World, Calls Tryz.prog 91 #[.int .i64 n] W fun e w' => e = .returned (.bool (decide (0 ≤ n) && decide (n ≤ 1000000))) ∧ Below W.heap.size W w') := Lib.hid (fun W => (isWeight_calls n W).mono fun _ _ ⟨h, m, hm⟩ => ⟨h, hm ▸ below_drewN (Below.refl _ _) _⟩)
 generalize hv : visE ⟨t, c, i, j, re, im, dn, n⟩ = v
 simp only [visE, visB, valB] at hv
 generalize chkB re im dn = b1 at *
 generalize hb2 : (decide (0 ≤ n) && decide (n ≤ 1000000)) = b2 at *
 have HV := Lib.hid hv
 have NN := Lib.hid (Below.refl w.heap.size w)
 clear hv hb2
 have hc : i < 0 ∨ (0 ≤ i ∧ j ≤ i) ∨ (0 ≤ i ∧ i < j ∧ 8 ≤ j) ∨ (0 ≤ i ∧ i < j ∧ j < 8) := by omega
 rcases hc with h | ⟨h, h'⟩ | ⟨h, h', h''⟩ | ⟨h, h', h''⟩
 ·have F : Hid (v = 8) := Lib.hid (by rw [← HV.out, decide_eq_false (by omega : ¬ 0 ≤ i)]; rfl)
  clear HV IV IW
  go_enter Tryz.func77, Tryz.ntmps77
  go_wp2_with fail
  go_ret
  exact ⟨ret_int F.out.symm, Bal NN.out _⟩
 ·have F : Hid (v = 8) := Lib.hid (by rw [← HV.out, decide_eq_true h, decide_eq_false (by omega : ¬ i < j)]; rfl)
  clear HV IV IW
  go_enter Tryz.func77, Tryz.ntmps77
  go_wp2_with fail
  go_ret
  exact ⟨ret_int F.out.symm, Bal NN.out _⟩
 ·have F : Hid (v = 8) := Lib.hid (by rw [← HV.out, decide_eq_true h, decide_eq_true h', decide_eq_false (by omega : ¬ j < 8)]; rfl)
  clear HV IV IW
  go_enter Tryz.func77, Tryz.ntmps77
  go_wp2_with fail
  go_ret
  exact ⟨ret_int F.out.symm, Bal NN.out _⟩
 ·have F : Hid ((bif b1 && b2 then 0 else 8) = v) := Lib.hid (by rw [← HV.out, decide_eq_true h, decide_eq_true h', decide_eq_true h'']; rfl)
  clear HV
  go_enter Tryz.func77, Tryz.ntmps77
  go_wp2_with fail
  have V0 : Hid ((w.alloc (.cells #[.int .i64 i, .int .i64 j, .int .i64 re, .int .i64 im, .int .i64 dn, .int .i64 n] 42)).heap[w.heap.size]? = some (.cells #[.int .i64 i, .int .i64 j, .int .i64 re, .int .i64 im, .int .i64 dn, .int .i64 n] 42)) := Lib.hid (blk_new w _)
  replace NN : Hid (Below w.heap.size w (w.alloc (.cells #[.int .i64 i, .int .i64 j, .int .i64 re, .int .i64 im, .int .i64 dn, .int .i64 n] 42))) := Lib.hid (Bal NN.out _)
  generalize (w.alloc (.cells #[.int .i64 i, .int .i64 j, .int .i64 re, .int .i64 im, .int .i64 dn, .int .i64 n] 42)) = W1 at *
  have c_V0_0 := blk_cell V0.out 0 _ rfl
  have f_V0_0 := blk_frozen V0.out 0
  have c_V0_1 := blk_cell V0.out 1 _ rfl
  have f_V0_1 := blk_frozen V0.out 1
  have c_V0_2 := blk_cell V0.out 2 _ rfl
  have f_V0_2 := blk_frozen V0.out 2
  have c_V0_3 := blk_cell V0.out 3 _ rfl
  have f_V0_3 := blk_frozen V0.out 3
  have c_V0_4 := blk_cell V0.out 4 _ rfl
  have f_V0_4 := blk_frozen V0.out 4
  have c_V0_5 := blk_cell V0.out 5 _ rfl
  have f_V0_5 := blk_frozen V0.out 5
  have l_V0 := blk_lt V0.out
  go_wp2_with fail
  refine (IV.out _).mono ?_
  rintro e w2 ⟨rfl, hb⟩
  clear c_V0_0 f_V0_0 c_V0_1 f_V0_1 c_V0_2 f_V0_2 c_V0_3 f_V0_3 c_V0_4 f_V0_4 c_V0_5 f_V0_5 l_V0
  replace NN := Lib.hid (Bgo NN.out hb)
  replace V0 := Lib.hid (blk_next hb V0.out)
  clear hb
  have c_V0_0 := blk_cell V0.out 0 _ rfl
  have f_V0_0 := blk_frozen V0.out 0
  have c_V0_1 := blk_cell V0.out 1 _ rfl
  have f_V0_1 := blk_frozen V0.out 1
  have c_V0_2 := blk_cell V0.out 2 _ rfl
  have f_V0_2 := blk_frozen V0.out 2
  have c_V0_3 := blk_cell V0.out 3 _ rfl
  have f_V0_3 := blk_frozen V0.out 3
  have c_V0_4 := blk_cell V0.out 4 _ rfl
  have f_V0_4 := blk_frozen V0.out 4
  have c_V0_5 := blk_cell V0.out 5 _ rfl
  have f_V0_5 := blk_frozen V0.out 5
  have l_V0 := blk_lt V0.out
  cases b1
  ·clear IV IW
   go_wp2_with fail
   clear c_V0_0 f_V0_0 c_V0_1 f_V0_1 c_V0_2 f_V0_2 c_V0_3 f_V0_3 c_V0_4 f_V0_4 c_V0_5 f_V0_5 l_V0
   go_ret
   exact ⟨ret_int F.out, NN.out⟩
  ·clear IV
   go_wp2_with fail
   refine (IW.out _).mono ?_
   rintro e w3 ⟨rfl, hb⟩
   clear c_V0_0 f_V0_0 c_V0_1 f_V0_1 c_V0_2 f_V0_2 c_V0_3 f_V0_3 c_V0_4 f_V0_4 c_V0_5 f_V0_5 l_V0
   replace NN := Lib.hid (Bgo NN.out hb)
   replace V0 := Lib.hid (blk_next hb V0.out)
   clear hb
   cases b2 <;> (clear IW; go_wp2_with fail; go_ret; exact ⟨ret_int F.out, NN.out⟩)
theorem g3_alt (a b c : Int) : g2 b (g2 a c) = g3 a b c := by
 have h1 := g2_nonneg b (g2 a c)
 have h2 := g3_nonneg a b c
 have h3 : (g2 b (g2 a c)).natAbs = (g3 a b c).natAbs := by
  rw [g2_nat, g2_nat, g3_nat]
  rw [← Nat.gcd_assoc, Nat.gcd_comm b.natAbs]
 omega
theorem g2_abs_right (a b : Int) : g2 a (b.natAbs : Int) = g2 a b := by unfold g2 Int.gcd; simp
set_option maxHeartbeats 2000000 in
theorem common_calls (a b c : Int) (ha : -1000000000 ≤ a) (ha' : a ≤ 1000000000) (hb : -1000000000 ≤ b) (hb' : b ≤ 1000000000) (hc : 1 ≤ c) (hc' : c ≤ 1000000000) (w : World) :
  Calls Tryz.prog 68 #[.int .i64 a, .int .i64 b, .int .i64 c] w fun e w' => e = .returned (.int .i64 (g3 a b c)) ∧ Below w.heap.size w w' := by
 obtain ⟨g, hg⟩ : ∃ g, g2 a c = g := ⟨_, rfl⟩
 have hv := g3_alt a b c
 generalize g3 a b c = v at *
 rw [hg] at hv
 have HG := Lib.hid hg
 have HV := Lib.hid hv
 have NN := Lib.hid (Below.refl w.heap.size w)
 clear hg hv
 go_enter Tryz.func68, Tryz.ntmps68
 go_wp2
 go_loopw [0, 2] (fun p q wr => ∃ x z : Int, p = .int .i64 x ∧ q = .int .i64 z ∧ w = wr ∧ Hid (g2 x z = g) ∧ -1000000000 ≤ x ∧ x ≤ 1000000000 ∧ -1000000000 ≤ z ∧ z ≤ 1000000000) (fun p _ _ => (intOf p).natAbs)
 case atStart => exact ⟨a, c, rfl, rfl, rfl, HG, by omega, by omega, by omega, by omega⟩
 case round =>
  obtain ⟨x, z, rfl, rfl, rfl, HX, h1, h2, h3, h4⟩ := hrel
  by_cases hx : x = 0
  ·subst hx
   have hx' : ((0 : Int) != 0) = false := rfl
   have HZ : Hid (g2 b z = v) := Lib.hid (by
    have e := HX.out
    rw [g2_comm, g2_zero] at e
    rw [← HV.out, ← e, g2_abs_right])
   clear HX HG HV h1 h2
   go_wp2
   go_loopw [1, 2] (fun p q wr => ∃ y t : Int, p = .int .i64 y ∧ q = .int .i64 t ∧ w = wr ∧ Hid (g2 y t = v) ∧ -1000000000 ≤ y ∧ y ≤ 1000000000 ∧ -1000000000 ≤ t ∧ t ≤ 1000000000) (fun p _ _ => (intOf p).natAbs)
   case atStart => exact ⟨b, z, rfl, rfl, rfl, HZ, by omega, by omega, by omega, by omega⟩
   case round =>
    obtain ⟨y, t, rfl, rfl, rfl, HY, k1, k2, k3, k4⟩ := hrel
    by_cases hy : y = 0
    ·subst hy
     have hy' : ((0 : Int) != 0) = false := rfl
     have e := HY.out
     rw [g2_comm, g2_zero] at e
     have HE := Lib.hid e
     have hn : IntKind.i64.wrap (-t) = -t := IntWalk.i64_in _ (by omega)
     clear e HY HZ
     go_wp2
     all_goals
      go_ret
      refine ⟨ret_int ?_, NN.out⟩
      have e := HE.out
      omega
    ·have hy' : (y != 0) = true := by simp [hy]
     have HN := Lib.hid hy
     clear hy
     have hb := tmod_bd t y HN.out
     have HS := Lib.hid (g2_step t y)
     have hw : IntKind.i64.wrap (t.tmod y) = t.tmod y := IntWalk.i64_in _ (by omega)
     go_wp2
     refine ⟨⟨t.tmod y, y, rfl, rfl, trivial, Lib.hid (by rw [g2_comm, HS.out, g2_comm]; exact HY.out), by omega, by omega, by omega, by omega⟩, ?_⟩
     simp only [intOf]; omega
  ·have hx' : (x != 0) = true := by simp [hx]
   have HN := Lib.hid hx
   clear hx
   have hb := tmod_bd z x HN.out
   have HS := Lib.hid (g2_step z x)
   have hw : IntKind.i64.wrap (z.tmod x) = z.tmod x := IntWalk.i64_in _ (by omega)
   go_wp2
   refine ⟨⟨z.tmod x, x, rfl, rfl, trivial, Lib.hid (by rw [g2_comm, HS.out, g2_comm]; exact HX.out), by omega, by omega, by omega, by omega⟩, ?_⟩
   simp only [intOf]; omega
set_option maxHeartbeats 2000000 in
theorem refValid_calls (re im dn : Int) (w : World) : Calls Tryz.prog 49 #[.agg #[.int .i64 re, .int .i64 im, .int .i64 dn]] w fun e w' => e = .returned (.bool (chkB re im dn)) ∧ Below w.heap.size w w' := by
 generalize hv : chkB re im dn = v
 have NN := Lib.hid (Below.refl w.heap.size w)
 by_cases c : 1 ≤ dn ∧ dn ≤ 1000000000 ∧ -1000000000 ≤ re ∧ re ≤ 1000000000 ∧ -1000000000 ≤ im ∧ im ≤ 1000000000
 ·obtain ⟨c1, c2, c3, c4, c5, c6⟩ := c
  have hv1 : decide (g3 re im dn = 1) = v := by rw [← hv]; unfold chkB fitsB; rw [decide_eq_true (show 1 ≤ dn ∧ dn ≤ 1000000000 from ⟨c1, c2⟩), decide_eq_true (show -1000000000 ≤ re ∧ re ≤ 1000000000 from ⟨c3, c4⟩), decide_eq_true (show -1000000000 ≤ im ∧ im ≤ 1000000000 from ⟨c5, c6⟩)]; rfl
  have CC := Lib.hid (common_calls re im dn c3 c4 c5 c6 c1 c2)
  generalize g3 re im dn = g at *
  have HV := Lib.hid hv1
  clear hv hv1
  go_enter Tryz.func49, Tryz.ntmps49
  go_wp2_with fail
  have V0 : Hid ((w.alloc (.cells #[.int .i64 re, .int .i64 im, .int .i64 dn] 40)).heap[w.heap.size]? = some (.cells #[.int .i64 re, .int .i64 im, .int .i64 dn] 40)) := Lib.hid (blk_new w _)
  replace NN : Hid (Below w.heap.size w (w.alloc (.cells #[.int .i64 re, .int .i64 im, .int .i64 dn] 40))) := Lib.hid (Bal NN.out _)
  generalize (w.alloc (.cells #[.int .i64 re, .int .i64 im, .int .i64 dn] 40)) = W1 at *
  have c_V0_0 := blk_cell V0.out 0 _ rfl
  have f_V0_0 := blk_frozen V0.out 0
  have c_V0_1 := blk_cell V0.out 1 _ rfl
  have f_V0_1 := blk_frozen V0.out 1
  have c_V0_2 := blk_cell V0.out 2 _ rfl
  have f_V0_2 := blk_frozen V0.out 2
  have l_V0 := blk_lt V0.out
  go_wp2_with fail
  refine (CC.out _).mono ?_
  rintro e w2 ⟨rfl, hb⟩
  clear c_V0_0 f_V0_0 c_V0_1 f_V0_1 c_V0_2 f_V0_2 l_V0
  replace NN := Lib.hid (Bgo NN.out hb)
  replace V0 := Lib.hid (blk_next hb V0.out)
  clear hb
  go_wp2_with fail
  go_ret
  exact ⟨ret_bool HV.out, NN.out⟩
 ·have HV : Hid (v = false) := Lib.hid (by
   rw [← hv]
   cases h : chkB re im dn
   ·rfl
   ·have := chk_iff.1 h; omega)
  have hc : dn < 1 ∨ (1 ≤ dn ∧ 1000000000 < dn) ∨ (1 ≤ dn ∧ dn ≤ 1000000000 ∧ re < -1000000000) ∨ (1 ≤ dn ∧ dn ≤ 1000000000 ∧ -1000000000 ≤ re ∧ 1000000000 < re) ∨ (1 ≤ dn ∧ dn ≤ 1000000000 ∧ -1000000000 ≤ re ∧ re ≤ 1000000000 ∧ im < -1000000000) ∨ (1 ≤ dn ∧ dn ≤ 1000000000 ∧ -1000000000 ≤ re ∧ re ≤ 1000000000 ∧ -1000000000 ≤ im ∧ 1000000000 < im) := by omega
  clear c hv
  rcases hc with h | ⟨h, h1⟩ | ⟨h, h1, h2⟩ | ⟨h, h1, h2, h3⟩ | ⟨h, h1, h2, h3, h4⟩ | ⟨h, h1, h2, h3, h4, h5⟩
  all_goals
   go_enter Tryz.func49, Tryz.ntmps49
   go_wp2_with fail
   go_ret
   exact ⟨ret_bool HV.out.symm, Bal NN.out _⟩
set_option maxHeartbeats 2000000 in
theorem rcheck_calls (r : Vr) (w : World) : Calls Tryz.prog 26 #[Wv r] w fun e w' => e = .returned (.int .i64 (visE r)) ∧ Below w.heap.size w w' := by
 obtain ⟨t, c, i, j, re, im, dn, n⟩ := r
 have IV : Hid (∀ W : World, Calls Tryz.prog 49 #[.agg #[.int .i64 re, .int .i64 im, .int .i64 dn]] W fun e w' => e = .returned (.bool (chkB re im dn)) ∧ Below W.heap.size W w') := Lib.hid (refValid_calls re im dn)
 generalize hv : visE ⟨t, c, i, j, re, im, dn, n⟩ = v
 simp only [visE, visB, valB] at hv
 generalize chkB re im dn = b1 at *
 have HV := Lib.hid hv
 have NN := Lib.hid (Below.refl w.heap.size w)
 clear hv
 have hc : i < 0 ∨ (0 ≤ i ∧ j ≤ i) ∨ (0 ≤ i ∧ i < j ∧ 8 ≤ j) ∨ (0 ≤ i ∧ i < j ∧ j < 8) := by omega
 rcases hc with h | ⟨h, h'⟩ | ⟨h, h', h''⟩ | ⟨h, h', h''⟩
 ·have F : Hid (v = 8) := Lib.hid (by rw [← HV.out, decide_eq_false (by omega : ¬ 0 ≤ i)]; rfl)
  clear HV IV
  go_enter Tryz.func26, Tryz.ntmps26
  go_wp2_with fail
  go_ret
  exact ⟨ret_int F.out.symm, Bal NN.out _⟩
 ·have F : Hid (v = 8) := Lib.hid (by rw [← HV.out, decide_eq_true h, decide_eq_false (by omega : ¬ i < j)]; rfl)
  clear HV IV
  go_enter Tryz.func26, Tryz.ntmps26
  go_wp2_with fail
  go_ret
  exact ⟨ret_int F.out.symm, Bal NN.out _⟩
 ·have F : Hid (v = 8) := Lib.hid (by rw [← HV.out, decide_eq_true h, decide_eq_true h', decide_eq_false (by omega : ¬ j < 8)]; rfl)
  clear HV IV
  go_enter Tryz.func26, Tryz.ntmps26
  go_wp2_with fail
  go_ret
  exact ⟨ret_int F.out.symm, Bal NN.out _⟩
 ·have F : Hid ((bif b1 && (decide (0 ≤ n) && decide (n ≤ 1000000)) then 0 else 8) = v) := Lib.hid (by rw [← HV.out, decide_eq_true h, decide_eq_true h', decide_eq_true h'']; rfl)
  clear HV
  go_enter Tryz.func26, Tryz.ntmps26
  go_wp2_with fail
  have V0 : Hid ((w.alloc (.cells #[.int .i64 i, .int .i64 j, .int .i64 re, .int .i64 im, .int .i64 dn, .int .i64 n] 42)).heap[w.heap.size]? = some (.cells #[.int .i64 i, .int .i64 j, .int .i64 re, .int .i64 im, .int .i64 dn, .int .i64 n] 42)) := Lib.hid (blk_new w _)
  replace NN : Hid (Below w.heap.size w (w.alloc (.cells #[.int .i64 i, .int .i64 j, .int .i64 re, .int .i64 im, .int .i64 dn, .int .i64 n] 42))) := Lib.hid (Bal NN.out _)
  generalize (w.alloc (.cells #[.int .i64 i, .int .i64 j, .int .i64 re, .int .i64 im, .int .i64 dn, .int .i64 n] 42)) = W1 at *
  have c_V0_0 := blk_cell V0.out 0 _ rfl
  have f_V0_0 := blk_frozen V0.out 0
  have c_V0_1 := blk_cell V0.out 1 _ rfl
  have f_V0_1 := blk_frozen V0.out 1
  have c_V0_2 := blk_cell V0.out 2 _ rfl
  have f_V0_2 := blk_frozen V0.out 2
  have c_V0_3 := blk_cell V0.out 3 _ rfl
  have f_V0_3 := blk_frozen V0.out 3
  have c_V0_4 := blk_cell V0.out 4 _ rfl
  have f_V0_4 := blk_frozen V0.out 4
  have c_V0_5 := blk_cell V0.out 5 _ rfl
  have f_V0_5 := blk_frozen V0.out 5
  have l_V0 := blk_lt V0.out
  go_wp2_with fail
  refine (IV.out _).mono ?_
  rintro e w2 ⟨rfl, hb⟩
  clear c_V0_0 f_V0_0 c_V0_1 f_V0_1 c_V0_2 f_V0_2 c_V0_3 f_V0_3 c_V0_4 f_V0_4 c_V0_5 f_V0_5 l_V0
  replace NN := Lib.hid (Bgo NN.out hb)
  replace V0 := Lib.hid (blk_next hb V0.out)
  clear hb
  have c_V0_0 := blk_cell V0.out 0 _ rfl
  have f_V0_0 := blk_frozen V0.out 0
  have c_V0_1 := blk_cell V0.out 1 _ rfl
  have f_V0_1 := blk_frozen V0.out 1
  have c_V0_2 := blk_cell V0.out 2 _ rfl
  have f_V0_2 := blk_frozen V0.out 2
  have c_V0_3 := blk_cell V0.out 3 _ rfl
  have f_V0_3 := blk_frozen V0.out 3
  have c_V0_4 := blk_cell V0.out 4 _ rfl
  have f_V0_4 := blk_frozen V0.out 4
  have c_V0_5 := blk_cell V0.out 5 _ rfl
  have f_V0_5 := blk_frozen V0.out 5
  have l_V0 := blk_lt V0.out
  cases b1
  ·clear IV
   go_wp2_with fail
   clear c_V0_0 f_V0_0 c_V0_1 f_V0_1 c_V0_2 f_V0_2 c_V0_3 f_V0_3 c_V0_4 f_V0_4 c_V0_5 f_V0_5 l_V0
   go_ret
   exact ⟨ret_int F.out, NN.out⟩
  ·clear IV
   have hn : n < 0 ∨ (0 ≤ n ∧ n ≤ 1000000) ∨ (0 ≤ n ∧ 1000000 < n) := by omega
   rcases hn with hn | ⟨hn, hn'⟩ | ⟨hn, hn'⟩
   ·replace F := Lib.hid (by have f := F.out; rw [decide_eq_false (by omega : ¬ 0 ≤ n)] at f; exact f)
    go_wp2_with fail
    go_ret
    exact ⟨ret_int F.out, NN.out⟩
   ·replace F := Lib.hid (by have f := F.out; rw [decide_eq_true hn, decide_eq_true hn'] at f; exact f)
    go_wp2_with fail
    go_ret
    exact ⟨ret_int F.out, NN.out⟩
   ·replace F := Lib.hid (by have f := F.out; rw [decide_eq_true hn, decide_eq_false (by omega : ¬ n ≤ 1000000)] at f; exact f)
    go_wp2_with fail
    go_ret
    exact ⟨ret_int F.out, NN.out⟩
end Go.Proofs.YtbbnkclajpaghaaGreatDoor
namespace Go.Proofs.YtbbnkclajpaghaaGreatDoor
open Go.ChangeShapes Go.WideShapes Go.ChangeAt Go.RowKit Cxm
set_option linter.unusedVariables false
set_option maxRecDepth 100000
set_option maxHeartbeats 2000000 in
theorem rowvalid_calls (r : Vr) (w : World) : Calls Tryz.prog 45 #[Rwv r] w fun e w' => e = .returned (.bool (rowB r)) ∧ Below w.heap.size w w' := by
 have HC : Hid (∀ W : World, Calls Tryz.prog 77 #[Wv r] W fun e w' => e = .returned (.int .i64 (visE r)) ∧ Below W.heap.size W w') := Lib.hid (wcheck_calls r)
 have hz := visE_zero r
 generalize hv : rowB r = v
 unfold rowB at hv
 rw [← hz] at hv
 obtain ⟨t, c, i, j, re, im, dn, n⟩ := r
 dsimp only [Wv] at HC
 generalize visE ⟨t, c, i, j, re, im, dn, n⟩ = x at *
 dsimp only at hv
 have HV := Lib.hid hv
 have NN := Lib.hid (Below.refl w.heap.size w)
 clear hv hz
 have hc : t < 0 ∨ (0 ≤ t ∧ 64 ≤ t) ∨ (0 ≤ t ∧ t < 64 ∧ c < 0) ∨ (0 ≤ t ∧ t < 64 ∧ 0 ≤ c ∧ 16 ≤ c) ∨ (0 ≤ t ∧ t < 64 ∧ 0 ≤ c ∧ c < 16) := by omega
 rcases hc with h | ⟨h, h1⟩ | ⟨h, h1, h2⟩ | ⟨h, h1, h2, h3⟩ | ⟨h, h1, h2, h3⟩
 ·have F : Hid (v = false) := Lib.hid (by rw [← HV.out, decide_eq_false (by omega : ¬ 0 ≤ t)]; rfl)
  clear HV HC
  go_enter Tryz.func45, Tryz.ntmps45
  go_wp2_with fail
  go_ret
  exact ⟨ret_bool F.out.symm, Bal NN.out _⟩
 ·have F : Hid (v = false) := Lib.hid (by rw [← HV.out, decide_eq_true h, decide_eq_false (by omega : ¬ t < 64)]; rfl)
  clear HV HC
  go_enter Tryz.func45, Tryz.ntmps45
  go_wp2_with fail
  go_ret
  exact ⟨ret_bool F.out.symm, Bal NN.out _⟩
 ·have F : Hid (v = false) := Lib.hid (by rw [← HV.out, decide_eq_true h, decide_eq_true h1, decide_eq_false (by omega : ¬ 0 ≤ c)]; rfl)
  clear HV HC
  go_enter Tryz.func45, Tryz.ntmps45
  go_wp2_with fail
  go_ret
  exact ⟨ret_bool F.out.symm, Bal NN.out _⟩
 ·have F : Hid (v = false) := Lib.hid (by rw [← HV.out, decide_eq_true h, decide_eq_true h1, decide_eq_true h2, decide_eq_false (by omega : ¬ c < 16)]; rfl)
  clear HV HC
  go_enter Tryz.func45, Tryz.ntmps45
  go_wp2_with fail
  go_ret
  exact ⟨ret_bool F.out.symm, Bal NN.out _⟩
 ·have F : Hid (decide (x = 0) = v) := Lib.hid (by rw [← HV.out, decide_eq_true h, decide_eq_true h1, decide_eq_true h2, decide_eq_true h3]; rfl)
  clear HV
  go_enter Tryz.func45, Tryz.ntmps45
  go_wp2_with fail
  have V0 : Hid ((w.alloc (.cells #[.int .i64 t, .int .i64 c, .int .i64 i, .int .i64 j, .int .i64 re, .int .i64 im, .int .i64 dn, .int .i64 n] 67)).heap[w.heap.size]? = some (.cells #[.int .i64 t, .int .i64 c, .int .i64 i, .int .i64 j, .int .i64 re, .int .i64 im, .int .i64 dn, .int .i64 n] 67)) := Lib.hid (blk_new w _)
  replace NN : Hid (Below w.heap.size w (w.alloc (.cells #[.int .i64 t, .int .i64 c, .int .i64 i, .int .i64 j, .int .i64 re, .int .i64 im, .int .i64 dn, .int .i64 n] 67))) := Lib.hid (Bal NN.out _)
  generalize (w.alloc (.cells #[.int .i64 t, .int .i64 c, .int .i64 i, .int .i64 j, .int .i64 re, .int .i64 im, .int .i64 dn, .int .i64 n] 67)) = W1 at *
  have c_V0_0 := blk_cell V0.out 0 _ rfl
  have f_V0_0 := blk_frozen V0.out 0
  have c_V0_1 := blk_cell V0.out 1 _ rfl
  have f_V0_1 := blk_frozen V0.out 1
  have c_V0_2 := blk_cell V0.out 2 _ rfl
  have f_V0_2 := blk_frozen V0.out 2
  have c_V0_3 := blk_cell V0.out 3 _ rfl
  have f_V0_3 := blk_frozen V0.out 3
  have c_V0_4 := blk_cell V0.out 4 _ rfl
  have f_V0_4 := blk_frozen V0.out 4
  have c_V0_5 := blk_cell V0.out 5 _ rfl
  have f_V0_5 := blk_frozen V0.out 5
  have c_V0_6 := blk_cell V0.out 6 _ rfl
  have f_V0_6 := blk_frozen V0.out 6
  have c_V0_7 := blk_cell V0.out 7 _ rfl
  have f_V0_7 := blk_frozen V0.out 7
  have l_V0 := blk_lt V0.out
  go_wp2_with fail
  refine (HC.out _).mono ?_
  rintro e w2 ⟨rfl, hb⟩
  clear c_V0_0 f_V0_0 c_V0_1 f_V0_1 c_V0_2 f_V0_2 c_V0_3 f_V0_3 c_V0_4 f_V0_4 c_V0_5 f_V0_5 c_V0_6 f_V0_6 c_V0_7 f_V0_7 l_V0
  replace NN := Lib.hid (Bgo NN.out hb)
  replace V0 := Lib.hid (blk_next hb V0.out)
  clear hb
  go_wp2_with fail
  go_ret
  exact ⟨ret_bool F.out, NN.out⟩
set_option maxHeartbeats 2000000 in
theorem refvalid_calls (r : Vr) (w : World) : Calls Tryz.prog 39 #[Rwv r] w fun e w' => e = .returned (.bool (rowB r)) ∧ Below w.heap.size w w' := by
 have HC : Hid (∀ W : World, Calls Tryz.prog 26 #[Wv r] W fun e w' => e = .returned (.int .i64 (visE r)) ∧ Below W.heap.size W w') := Lib.hid (rcheck_calls r)
 have hz := visE_zero r
 generalize hv : rowB r = v
 unfold rowB at hv
 rw [← hz] at hv
 obtain ⟨t, c, i, j, re, im, dn, n⟩ := r
 dsimp only [Wv] at HC
 generalize visE ⟨t, c, i, j, re, im, dn, n⟩ = x at *
 dsimp only at hv
 have HV := Lib.hid hv
 have NN := Lib.hid (Below.refl w.heap.size w)
 clear hv hz
 have hc : t < 0 ∨ (0 ≤ t ∧ 64 ≤ t) ∨ (0 ≤ t ∧ t < 64 ∧ c < 0) ∨ (0 ≤ t ∧ t < 64 ∧ 0 ≤ c ∧ 16 ≤ c) ∨ (0 ≤ t ∧ t < 64 ∧ 0 ≤ c ∧ c < 16) := by omega
 rcases hc with h | ⟨h, h1⟩ | ⟨h, h1, h2⟩ | ⟨h, h1, h2, h3⟩ | ⟨h, h1, h2, h3⟩
 ·have F : Hid (v = false) := Lib.hid (by rw [← HV.out, decide_eq_false (by omega : ¬ 0 ≤ t)]; rfl)
  clear HV HC
  go_enter Tryz.func39, Tryz.ntmps39
  go_wp2_with fail
  go_ret
  exact ⟨ret_bool F.out.symm, Bal NN.out _⟩
 ·have F : Hid (v = false) := Lib.hid (by rw [← HV.out, decide_eq_true h, decide_eq_false (by omega : ¬ t < 64)]; rfl)
  clear HV HC
  go_enter Tryz.func39, Tryz.ntmps39
  go_wp2_with fail
  go_ret
  exact ⟨ret_bool F.out.symm, Bal NN.out _⟩
 ·have F : Hid (v = false) := Lib.hid (by rw [← HV.out, decide_eq_true h, decide_eq_true h1, decide_eq_false (by omega : ¬ 0 ≤ c)]; rfl)
  clear HV HC
  go_enter Tryz.func39, Tryz.ntmps39
  go_wp2_with fail
  go_ret
  exact ⟨ret_bool F.out.symm, Bal NN.out _⟩
 ·have F : Hid (v = false) := Lib.hid (by rw [← HV.out, decide_eq_true h, decide_eq_true h1, decide_eq_true h2, decide_eq_false (by omega : ¬ c < 16)]; rfl)
  clear HV HC
  go_enter Tryz.func39, Tryz.ntmps39
  go_wp2_with fail
  go_ret
  exact ⟨ret_bool F.out.symm, Bal NN.out _⟩
 ·have F : Hid (decide (x = 0) = v) := Lib.hid (by rw [← HV.out, decide_eq_true h, decide_eq_true h1, decide_eq_true h2, decide_eq_true h3]; rfl)
  clear HV
  go_enter Tryz.func39, Tryz.ntmps39
  go_wp2_with fail
  have V0 : Hid ((w.alloc (.cells #[.int .i64 t, .int .i64 c, .int .i64 i, .int .i64 j, .int .i64 re, .int .i64 im, .int .i64 dn, .int .i64 n] 44)).heap[w.heap.size]? = some (.cells #[.int .i64 t, .int .i64 c, .int .i64 i, .int .i64 j, .int .i64 re, .int .i64 im, .int .i64 dn, .int .i64 n] 44)) := Lib.hid (blk_new w _)
  replace NN : Hid (Below w.heap.size w (w.alloc (.cells #[.int .i64 t, .int .i64 c, .int .i64 i, .int .i64 j, .int .i64 re, .int .i64 im, .int .i64 dn, .int .i64 n] 44))) := Lib.hid (Bal NN.out _)
  generalize (w.alloc (.cells #[.int .i64 t, .int .i64 c, .int .i64 i, .int .i64 j, .int .i64 re, .int .i64 im, .int .i64 dn, .int .i64 n] 44)) = W1 at *
  have c_V0_0 := blk_cell V0.out 0 _ rfl
  have f_V0_0 := blk_frozen V0.out 0
  have c_V0_1 := blk_cell V0.out 1 _ rfl
  have f_V0_1 := blk_frozen V0.out 1
  have c_V0_2 := blk_cell V0.out 2 _ rfl
  have f_V0_2 := blk_frozen V0.out 2
  have c_V0_3 := blk_cell V0.out 3 _ rfl
  have f_V0_3 := blk_frozen V0.out 3
  have c_V0_4 := blk_cell V0.out 4 _ rfl
  have f_V0_4 := blk_frozen V0.out 4
  have c_V0_5 := blk_cell V0.out 5 _ rfl
  have f_V0_5 := blk_frozen V0.out 5
  have c_V0_6 := blk_cell V0.out 6 _ rfl
  have f_V0_6 := blk_frozen V0.out 6
  have c_V0_7 := blk_cell V0.out 7 _ rfl
  have f_V0_7 := blk_frozen V0.out 7
  have l_V0 := blk_lt V0.out
  go_wp2_with fail
  refine (HC.out _).mono ?_
  rintro e w2 ⟨rfl, hb⟩
  clear c_V0_0 f_V0_0 c_V0_1 f_V0_1 c_V0_2 f_V0_2 c_V0_3 f_V0_3 c_V0_4 f_V0_4 c_V0_5 f_V0_5 c_V0_6 f_V0_6 c_V0_7 f_V0_7 l_V0
  replace NN := Lib.hid (Bgo NN.out hb)
  replace V0 := Lib.hid (blk_next hb V0.out)
  clear hb
  go_wp2_with fail
  go_ret
  exact ⟨ret_bool F.out, NN.out⟩
theorem keyn_calls (t c i j : Int) (h : -1000000000 ≤ t ∧ t ≤ 1000000000 ∧ -1000000000 ≤ c ∧ c ≤ 1000000000 ∧ -1000000000 ≤ i ∧ i ≤ 1000000000 ∧ -1000000000 ≤ j ∧ j ≤ 1000000000) (w : World) : Calls Tryz.prog 44 #[.int .i64 t, .int .i64 c, .int .i64 i, .int .i64 j] w fun e w' => e = .returned (.int .i64 (((t * 16 + c) * 8 + i) * 8 + j)) ∧ w' = w := by
 obtain ⟨h1, h2, h3, h4, h5, h6, h7, h8⟩ := h
 go_enter Tryz.func44, Tryz.ntmps44
 go_wp2
 go_ret
 exact ⟨ret_int (by omega), rfl⟩
set_option maxHeartbeats 1000000 in
theorem key_calls (r : Vr) (hr : rowB r = true) (w : World) : Calls Tryz.prog 19 #[Rwv r] w fun e w' => e = .returned (.int .i64 (vkey r)) ∧ Below w.heap.size w w' := by
 have f := rowB_facts hr
 have CC := Lib.hid (keyn_calls r.t r.c r.i r.j (by omega))
 obtain ⟨t, c, i, j, re, im, dn, n⟩ := r
 dsimp only at CC
 have HV : Hid (((t * 16 + c) * 8 + i) * 8 + j = vkey ⟨t, c, i, j, re, im, dn, n⟩) := Lib.hid rfl
 generalize vkey ⟨t, c, i, j, re, im, dn, n⟩ = v at *
 generalize ((t * 16 + c) * 8 + i) * 8 + j = y at *
 have NN := Lib.hid (Below.refl w.heap.size w)
 clear f hr
 go_enter Tryz.func19, Tryz.ntmps19
 go_wp2_with fail
 have V0 : Hid ((w.alloc (.cells #[.int .i64 t, .int .i64 c, .int .i64 i, .int .i64 j, .int .i64 re, .int .i64 im, .int .i64 dn, .int .i64 n] 44)).heap[w.heap.size]? = some (.cells #[.int .i64 t, .int .i64 c, .int .i64 i, .int .i64 j, .int .i64 re, .int .i64 im, .int .i64 dn, .int .i64 n] 44)) := Lib.hid (blk_new w _)
 replace NN : Hid (Below w.heap.size w (w.alloc (.cells #[.int .i64 t, .int .i64 c, .int .i64 i, .int .i64 j, .int .i64 re, .int .i64 im, .int .i64 dn, .int .i64 n] 44))) := Lib.hid (Bal NN.out _)
 generalize (w.alloc (.cells #[.int .i64 t, .int .i64 c, .int .i64 i, .int .i64 j, .int .i64 re, .int .i64 im, .int .i64 dn, .int .i64 n] 44)) = W1 at *
 have c_V0_0 := blk_cell V0.out 0 _ rfl
 have f_V0_0 := blk_frozen V0.out 0
 have c_V0_1 := blk_cell V0.out 1 _ rfl
 have f_V0_1 := blk_frozen V0.out 1
 have c_V0_2 := blk_cell V0.out 2 _ rfl
 have f_V0_2 := blk_frozen V0.out 2
 have c_V0_3 := blk_cell V0.out 3 _ rfl
 have f_V0_3 := blk_frozen V0.out 3
 have c_V0_4 := blk_cell V0.out 4 _ rfl
 have f_V0_4 := blk_frozen V0.out 4
 have c_V0_5 := blk_cell V0.out 5 _ rfl
 have f_V0_5 := blk_frozen V0.out 5
 have c_V0_6 := blk_cell V0.out 6 _ rfl
 have f_V0_6 := blk_frozen V0.out 6
 have c_V0_7 := blk_cell V0.out 7 _ rfl
 have f_V0_7 := blk_frozen V0.out 7
 have l_V0 := blk_lt V0.out
 go_wp2_with fail
 refine (CC.out _).mono ?_
 rintro e w1 ⟨rfl, rfl⟩
 go_wp2_with fail
 go_ret
 exact ⟨ret_int HV.out, NN.out⟩
theorem isNaN_calls (x : Int) (w : World) : Calls Tryz.prog 101 #[.int .i64 x] w fun e w' => e = .returned (.bool false) ∧ w' = w := by
 go_enter Tryz.func101, Tryz.ntmps101
 go_wp2
 go_ret
 exact ⟨rfl, rfl⟩
set_option maxHeartbeats 1000000 in
theorem cmp_calls (x y : Int) (w : World) : Calls Tryz.prog 74 #[.int .i64 x, .int .i64 y] w fun e w' => e = .returned (.int .i64 (kcmp x y)) ∧ w' = w := by
 have NX := Lib.hid (isNaN_calls x)
 have NY := Lib.hid (isNaN_calls y)
 generalize hv : kcmp x y = v
 unfold kcmp at hv
 have HV := Lib.hid hv
 clear hv
 have hc : x < y ∨ x = y ∨ y < x := by omega
 rcases hc with h | h | h
 ·have F : Hid (v = -1) := Lib.hid (by rw [← HV.out, if_pos h])
  clear HV
  go_enter Tryz.func74, Tryz.ntmps74
  go_wp2_with fail
  refine (NX.out _).mono ?_
  rintro e w1 ⟨rfl, rfl⟩
  go_wp2_with fail
  refine (NY.out _).mono ?_
  rintro e w1 ⟨rfl, rfl⟩
  go_wp2_with fail
  go_ret
  exact ⟨ret_int F.out.symm, rfl⟩
 ·have F : Hid (v = 0) := Lib.hid (by rw [← HV.out, if_neg (by omega), if_pos h])
  subst h
  clear HV NY
  go_enter Tryz.func74, Tryz.ntmps74
  go_wp2_with fail
  refine (NX.out _).mono ?_
  rintro e w1 ⟨rfl, rfl⟩
  go_wp2_with fail
  refine (NX.out _).mono ?_
  rintro e w1 ⟨rfl, rfl⟩
  go_wp2_with fail
  go_ret
  exact ⟨ret_int F.out.symm, rfl⟩
 ·have F : Hid (v = 1) := Lib.hid (by rw [← HV.out, if_neg (by omega), if_neg (by omega)])
  clear HV
  go_enter Tryz.func74, Tryz.ntmps74
  go_wp2_with fail
  refine (NX.out _).mono ?_
  rintro e w1 ⟨rfl, rfl⟩
  go_wp2_with fail
  refine (NY.out _).mono ?_
  rintro e w1 ⟨rfl, rfl⟩
  go_wp2_with fail
  go_ret
  exact ⟨ret_int F.out.symm, rfl⟩
set_option maxHeartbeats 2000000 in
theorem or_calls (b : Nat) (x0 x1 x2 x3 : Int) (T : TypeId) (w : World) (hb : w.heap[b]? = some (.cells #[.int .i64 x0, .int .i64 x1, .int .i64 x2, .int .i64 x3] T)) :
  Calls Tryz.prog 73 #[.slice (some ⟨b, 0, none⟩) 4 4] w fun e w' => e = .returned (.int .i64 (orI x0 (orI x1 (orI x2 x3)))) ∧ w' = w := by
 generalize hv : orI x0 (orI x1 (orI x2 x3)) = v
 unfold orI at hv
 have c0 := blk_cell hb 0 (.int .i64 x0) rfl
 have c1 := blk_cell hb 1 (.int .i64 x1) rfl
 have c2 := blk_cell hb 2 (.int .i64 x2) rfl
 have c3 := blk_cell hb 3 (.int .i64 x3) rfl
 have lt := blk_lt hb
 clear hb
 have hc : x0 ≠ 0 ∨ (x0 = 0 ∧ x1 ≠ 0) ∨ (x0 = 0 ∧ x1 = 0 ∧ x2 ≠ 0) ∨ (x0 = 0 ∧ x1 = 0 ∧ x2 = 0 ∧ x3 ≠ 0) ∨ (x0 = 0 ∧ x1 = 0 ∧ x2 = 0 ∧ x3 = 0) := by omega
 rcases hc with h | ⟨rfl, h⟩ | ⟨rfl, rfl, h⟩ | ⟨rfl, rfl, rfl, h⟩ | ⟨rfl, rfl, rfl, rfl⟩
 ·have F : Hid (v = x0) := Lib.hid (by rw [← hv, if_neg h])
  have q : (x0 != 0) = true := by simp [h]
  clear hv h
  go_enter Tryz.func73, Tryz.ntmps73
  go_wp2
  go_rounds 1
  go_ret
  exact ⟨ret_int F.out.symm, rfl⟩
 ·have F : Hid (v = x1) := Lib.hid (by rw [← hv]; simp [h])
  have q : (x1 != 0) = true := by simp [h]
  clear hv h
  go_enter Tryz.func73, Tryz.ntmps73
  go_wp2
  go_rounds 2
  go_ret
  exact ⟨ret_int F.out.symm, rfl⟩
 ·have F : Hid (v = x2) := Lib.hid (by rw [← hv]; simp [h])
  have q : (x2 != 0) = true := by simp [h]
  clear hv h
  go_enter Tryz.func73, Tryz.ntmps73
  go_wp2
  go_rounds 3
  go_ret
  exact ⟨ret_int F.out.symm, rfl⟩
 ·have F : Hid (v = x3) := Lib.hid (by rw [← hv]; simp)
  have q : (x3 != 0) = true := by simp [h]
  clear hv h
  go_enter Tryz.func73, Tryz.ntmps73
  go_wp2
  go_rounds 4
  go_ret
  exact ⟨ret_int F.out.symm, rfl⟩
 ·have F : Hid (v = 0) := Lib.hid (by rw [← hv]; simp)
  clear hv
  go_enter Tryz.func73, Tryz.ntmps73
  go_wp2
  go_rounds 5
  go_ret
  exact ⟨ret_int F.out.symm, rfl⟩
set_option maxHeartbeats 4000000 in
set_option maxRecDepth 100000 in
theorem compare_calls (r s : Vr) (w : World) : Calls Tryz.prog 42 #[Rwv r, Rwv s] w fun e w' => e = .returned (.int .i64 (rcmp r s)) ∧ Below w.heap.size w w' := by
 have HV : Hid (orI (kcmp r.t s.t) (orI (kcmp r.c s.c) (orI (kcmp r.i s.i) (kcmp r.j s.j))) = rcmp r s) := Lib.hid rfl
 obtain ⟨t, c, i, j, re, im, dn, n⟩ := r
 obtain ⟨t', c', i', j', re', im', dn', n'⟩ := s
 dsimp only at HV
 have C0 := Lib.hid (cmp_calls t t')
 have C1 := Lib.hid (cmp_calls c c')
 have C2 := Lib.hid (cmp_calls i i')
 have C3 := Lib.hid (cmp_calls j j')
 generalize rcmp ⟨t, c, i, j, re, im, dn, n⟩ ⟨t', c', i', j', re', im', dn', n'⟩ = v at *
 generalize kcmp t t' = x0 at *
 generalize kcmp c c' = x1 at *
 generalize kcmp i i' = x2 at *
 generalize kcmp j j' = x3 at *
 have NN := Lib.hid (Below.refl w.heap.size w)
 go_enter Tryz.func42, Tryz.ntmps42
 go_wp2_with fail
 have V0 : Hid (((w.alloc (.cells #[.int .i64 t, .int .i64 c, .int .i64 i, .int .i64 j, .int .i64 re, .int .i64 im, .int .i64 dn, .int .i64 n] 67)).alloc (.cells #[.int .i64 t', .int .i64 c', .int .i64 i', .int .i64 j', .int .i64 re', .int .i64 im', .int .i64 dn', .int .i64 n'] 67)).heap[w.heap.size]? = some (.cells #[.int .i64 t, .int .i64 c, .int .i64 i, .int .i64 j, .int .i64 re, .int .i64 im, .int .i64 dn, .int .i64 n] 67)) := Lib.hid (blk_alloc (blk_new w _) _)
 have V1 : Hid (((w.alloc (.cells #[.int .i64 t, .int .i64 c, .int .i64 i, .int .i64 j, .int .i64 re, .int .i64 im, .int .i64 dn, .int .i64 n] 67)).alloc (.cells #[.int .i64 t', .int .i64 c', .int .i64 i', .int .i64 j', .int .i64 re', .int .i64 im', .int .i64 dn', .int .i64 n'] 67)).heap[w.heap.size + 1]? = some (.cells #[.int .i64 t', .int .i64 c', .int .i64 i', .int .i64 j', .int .i64 re', .int .i64 im', .int .i64 dn', .int .i64 n'] 67)) := Lib.hid (blk_at _ (by simp))
 replace NN : Hid (Below w.heap.size w ((w.alloc (.cells #[.int .i64 t, .int .i64 c, .int .i64 i, .int .i64 j, .int .i64 re, .int .i64 im, .int .i64 dn, .int .i64 n] 67)).alloc (.cells #[.int .i64 t', .int .i64 c', .int .i64 i', .int .i64 j', .int .i64 re', .int .i64 im', .int .i64 dn', .int .i64 n'] 67))) := Lib.hid (Bal (Bal NN.out _) _)
 generalize ((w.alloc (.cells #[.int .i64 t, .int .i64 c, .int .i64 i, .int .i64 j, .int .i64 re, .int .i64 im, .int .i64 dn, .int .i64 n] 67)).alloc (.cells #[.int .i64 t', .int .i64 c', .int .i64 i', .int .i64 j', .int .i64 re', .int .i64 im', .int .i64 dn', .int .i64 n'] 67)) = W1 at *
 have c_V0_0 := blk_cell V0.out 0 _ rfl
 have f_V0_0 := blk_frozen V0.out 0
 have c_V0_1 := blk_cell V0.out 1 _ rfl
 have f_V0_1 := blk_frozen V0.out 1
 have c_V0_2 := blk_cell V0.out 2 _ rfl
 have f_V0_2 := blk_frozen V0.out 2
 have c_V0_3 := blk_cell V0.out 3 _ rfl
 have f_V0_3 := blk_frozen V0.out 3
 have c_V0_4 := blk_cell V0.out 4 _ rfl
 have f_V0_4 := blk_frozen V0.out 4
 have c_V0_5 := blk_cell V0.out 5 _ rfl
 have f_V0_5 := blk_frozen V0.out 5
 have c_V0_6 := blk_cell V0.out 6 _ rfl
 have f_V0_6 := blk_frozen V0.out 6
 have c_V0_7 := blk_cell V0.out 7 _ rfl
 have f_V0_7 := blk_frozen V0.out 7
 have l_V0 := blk_lt V0.out
 have c_V1_0 := blk_cell V1.out 0 _ rfl
 have f_V1_0 := blk_frozen V1.out 0
 have c_V1_1 := blk_cell V1.out 1 _ rfl
 have f_V1_1 := blk_frozen V1.out 1
 have c_V1_2 := blk_cell V1.out 2 _ rfl
 have f_V1_2 := blk_frozen V1.out 2
 have c_V1_3 := blk_cell V1.out 3 _ rfl
 have f_V1_3 := blk_frozen V1.out 3
 have c_V1_4 := blk_cell V1.out 4 _ rfl
 have f_V1_4 := blk_frozen V1.out 4
 have c_V1_5 := blk_cell V1.out 5 _ rfl
 have f_V1_5 := blk_frozen V1.out 5
 have c_V1_6 := blk_cell V1.out 6 _ rfl
 have f_V1_6 := blk_frozen V1.out 6
 have c_V1_7 := blk_cell V1.out 7 _ rfl
 have f_V1_7 := blk_frozen V1.out 7
 have l_V1 := blk_lt V1.out
 go_wp2_with fail
 refine wp_region_still_tail 24 (by kernel_rfl) (by kernel_rfl) ?_
 simp only [List.take_succ_cons, List.take_zero, List.drop_succ_cons, List.drop_zero]
 repeat still_step
 still_call (C0.out _)
 repeat still_step
 still_call (C1.out _)
 repeat still_step
 still_call (C2.out _)
 repeat still_step
 still_call (C3.out _)
 repeat still_step
 refine wpStill_nil ?_
 clear c_V0_0 f_V0_0 c_V0_1 f_V0_1 c_V0_2 f_V0_2 c_V0_3 f_V0_3 c_V0_4 f_V0_4 c_V0_5 f_V0_5 c_V0_6 f_V0_6 c_V0_7 f_V0_7 l_V0 c_V1_0 f_V1_0 c_V1_1 f_V1_1 c_V1_2 f_V1_2 c_V1_3 f_V1_3 c_V1_4 f_V1_4 c_V1_5 f_V1_5 c_V1_6 f_V1_6 c_V1_7 f_V1_7 l_V1
 go_wp2_with fail
 have VB : (W1.alloc (.cells #[.int .i64 x0, .int .i64 x1, .int .i64 x2, .int .i64 x3] 3)).drew.heap[W1.heap.size]? = some (.cells #[.int .i64 x0, .int .i64 x1, .int .i64 x2, .int .i64 x3] 3) := blk_new W1 _
 refine (or_calls W1.heap.size x0 x1 x2 x3 _ _ VB).mono ?_
 rintro e w2 ⟨rfl, rfl⟩
 go_wp2_with fail
 go_ret
 exact ⟨ret_int HV.out, (Bal NN.out _).drew⟩
end Go.Proofs.YtbbnkclajpaghaaGreatDoor
namespace Go.Proofs.YtbbnkclajpaghaaGreatDoor
open Go Go.RowKit
set_option linter.unusedVariables false
set_option maxRecDepth 100000
section
variable {P : Program}
def SeqN (P : Program) (g : Nat) (lb : Array Value) (encs : Nat → Array Value) (n₀ N : Nat) (w : World) : Prop :=
 ∀ (l : Nat) (J Jx : Nat → World → Prop) (W : World), Below w.heap.size w W → AbidesFrom W.heap.size J → AbidesFrom W.heap.size Jx →
  (∀ k W1, J k W1 → k < N → YieldAt Fence.wide 0 P l (encs k) W1 fun e W' =>
   (e = .returned (.bool true) ∧ J (k + 1) W' ∧ Below n₀ W1 W') ∨ (e = .returned (.bool false) ∧ Jx k W')) →
  J 0 W → CallsIn Fence.wide 0 P g (#[.func (.yield l) #[] #[]] ++ lb) W fun e W' => (∃ v, e = .returned v) ∧ (J N W' ∨ ∃ k, k < N ∧ Jx k W')
def roundN (B n₀ : Nat) (I : Nat → World → Prop) (Ix : Code → Nat → World → Prop) (k : Nat) (W : World) : Exit → Act → World → Prop
 | .normal, _, W' => KeepsFrom B W W' ∧ Below n₀ W W' ∧ I (k + 1) W'
 | .ret, _, W' => KeepsFrom B W W' ∧ Ix .ret k W'
 | .exit i, _, W' => KeepsFrom B W W' ∧ Ix (.exit i) k W'
 | .goto t, _, W' => KeepsFrom B W W' ∧ Ix (.goto t) k W'
 | .panic _, _, _ => False
 | .outgrown, _, _ => False
theorem keeps_of_below {B : Nat} {W W' : World} (h : Below W.heap.size W W') : KeepsFrom B W W' := ⟨h.size, fun k o _ hk _ => (h.block k (Array.getElem?_eq_some_iff.1 hk).1).trans hk⟩
theorem range_n {g : Operand} {ps : Array Tmp} {assign body : Code} {Q : Exit → Act → World → Prop} {a : Act} {w : World} (gf : Nat) (lb : Array Value)
  (hg : a.eval g = .func (.func gf) #[] lb) (eg : ∀ args w, (callFunc gf args).run P w = .ok (.enter gf args) w)
  (encs : Nat → Array Value) (n₀ N : Nat) (hseq : SeqN P gf lb encs n₀ N w) (hn : n₀ ≤ w.heap.size) (hps : ∀ k, (encs k).size = ps.size)
  (I : Nat → World → Prop) (Ix : Code → Nat → World → Prop) (Ax : Nat → Act → World → Prop) (hI : OwnFrom w.heap.size I) (hIx : ∀ c, OwnFrom w.heap.size (Ix c)) (hAx : ∀ a', OwnFrom w.heap.size (fun k => Ax k a'))
  (h0 : I 0 w)
  (hassign : ∀ (l k : Nat) (W : World) (K : Act → World → Prop), I k W → k < N → (∀ a' W', KeepsFrom w.heap.size W W' → Below n₀ W W' → Ax k a' W' → K a' W') →
   assign.wpIn (Fence.wide.inRound l) 0 P (Exit.then K fun _ _ _ => False) { tmps := (ps.zip (encs k)).foldl (fun t (p, v) => t.setIfInBounds p v) a.tmps, defers := [] } W)
  (hbody : ∀ (l k : Nat) (a' : Act) (W : World), Ax k a' W → k < N → body.wpIn (Fence.wide.inRound l) 0 P (roundN w.heap.size n₀ I Ix k W) a' W)
  (hdone : ∀ (D : Nat) (W : World), w.heap.size ≤ D → I N W → W.heap[D]? = some (.deferred (some [])) → Q .normal { a with defers := { target := .collected D, args := #[] } :: a.defers } W)
  (hstop : ∀ (D : Nat) (c : Code) (k : Nat) (W : World), w.heap.size ≤ D → k < N → Ix c k W → W.heap[D]? = some (.deferred (some [])) → c.wpIn Fence.wide 0 P Q { a with defers := { target := .collected D, args := #[] } :: a.defers } W) :
  (Code.rangeFunc g ps assign body).wpIn Fence.wide 0 P Q a w := by
 refine wpIn_rangeFunc fun fn _ => ?_
 obtain ⟨D, hD⟩ : ∃ D, D = w.heap.size := ⟨_, rfl⟩
 obtain ⟨rc, hrc⟩ : ∃ rc : LoopState → Option Code → Loop, rc = fun st pe => { state := st, pending := pe, fn, tmps := a.tmps, params := ps, assign, body, defers := D } := ⟨_, rfl⟩
 have rc_p : ∀ st pe, (rc st pe).params = ps := fun st pe => by rw [hrc]
 obtain ⟨W1, hW1⟩ : ∃ W1, (w.alloc (.deferred (some []))).alloc (.loop (rc .ready none)) = W1 := ⟨_, rfl⟩
 have s1 : (w.alloc (.deferred (some []))).heap.size = D + 1 := by rw [World.size_alloc, hD]
 have hsz : W1.heap.size = D + 2 := by rw [← hW1, World.size_alloc, s1]
 have hL1 : W1.heap[D + 1]? = some (.loop (rc .ready none)) := by
  have := World.alloc_heap_new (w.alloc (.deferred (some []))) (.loop (rc .ready none))
  rw [s1, hW1] at this; exact this
 have hK1 : W1.heap[D]? = some (.deferred (some [])) := by
  have h2 := World.alloc_heap_new w (.deferred (some []))
  rw [← hD] at h2
  rw [← hW1]; exact (Below.heap_alloc _ _ _ (by rw [s1]; omega)).trans h2
 have hI1 : I 0 W1 := by rw [← hW1]; exact hI.alloc _ (hI.alloc _ h0)
 have hb1 : Below w.heap.size w W1 := by
  rw [← hW1]; exact ((Below.refl _ w).alloc (Nat.le_refl _) _).alloc (by simp) _
 refine ⟨D + 1, [{ target := .collected D, args := #[] }], W1, { target := .fn (.func gf) lb, args := #[.func (.yield (D + 1)) #[] #[]] }, W1, gf, #[.func (.yield (D + 1)) #[] #[]] ++ lb, W1, ?_, ?_, fun _ _ => trivial, ?_, fun h => by simp [Fence.wide] at h, ?_⟩
 ·rw [← hW1, hrc, hD]; exact run_enterLoop_outer _ _ _ _ _
 ·simp only [resolve, hg]
  simp [go_sem]
 ·simp [invoke, go_sem, eg]
 -- the book of the loop: its record lies at D + 1, the block for deferred calls at D
 have turn : ∀ {β : Type} {X : β → World → Prop} (hX : OwnFrom w.heap.size X) {s : β} {W : World} {o : Obj} (o' : Obj), X s W → W.heap[D + 1]? = some o → o.isCells = false → X s (W.putObj (D + 1) o') := fun hX _ _ _ o' h ho hc => hX.putObj o' h (by omega) ho hc
 have put_same : ∀ {W : World} {o : Obj} (o' : Obj), W.heap[D + 1]? = some o → (W.putObj (D + 1) o').heap[D + 1]? = some o' := fun _ h => World.putObj_heap_same (Array.getElem?_eq_some_iff.1 h).1
 have put_D : ∀ {W : World} (o' : Obj), W.heap[D]? = some (.deferred (some [])) → (W.putObj (D + 1) o').heap[D]? = some (.deferred (some [])) := fun _ h => (World.putObj_heap_other (by omega)).trans h
 have put_b : ∀ {W : World} {o : Obj} (o' : Obj), W.heap[D + 1]? = some o → o.isCells = false → o.isWalk = false → Below n₀ W (W.putObj (D + 1) o') := fun {W} o o' h hc hw => belowK_b hn W (D + 1) o o' (by omega) h hc hw
 have frm : ∀ {A B : World} {row : Option Nat}, (∀ r, row = some r → W1.heap.size ≤ r ∧ ∃ o : Obj, A.heap[r]? = some o ∧ o.isWalk = true) → (∀ r, row = some r → w.heap.size ≤ r ∧ ∃ o : Obj, A.heap[r]? = some o ∧ o.isCells = false) :=
  fun hr r e => by obtain ⟨hB, o, ho, hw⟩ := hr r e; exact ⟨by omega, o, ho, Obj.not_cells_of_walk hw⟩
 have stay : ∀ {A B : World} {row : Option Nat} (_ : A.grownBy B row) (_ : ∀ r, row = some r → W1.heap.size ≤ r ∧ ∃ o : Obj, A.heap[r]? = some o ∧ o.isWalk = true) {k : Nat} {o : Obj}, A.heap[k]? = some o → o.isWalk = false → B.heap[k]? = some o :=
  fun hg' hr _ _ hk hw => (grownBy_keeps hg' (fun r e => (hr r e).2) hk hw).trans hk
 refine (hseq (D + 1)
  (fun k W => I k W ∧ W.heap[D + 1]? = some (.loop (rc .ready none)) ∧ W.heap[D]? = some (.deferred (some [])))
  (fun k W => ∃ c, Ix c k W ∧ W.heap[D + 1]? = some (.loop (rc .done (some c))) ∧ W.heap[D]? = some (.deferred (some [])))
  W1 hb1
  (fun s A B row hs hg' hr => ⟨hI s A B row hs.1 hg' (frm (B := B) hr), stay hg' hr hs.2.1 rfl, stay hg' hr hs.2.2 rfl⟩)
  (fun s A B row hs hg' hr => by
   obtain ⟨c, hc, hl, hk⟩ := hs
   exact ⟨c, hIx c s A B row hc hg' (frm (B := B) hr), stay hg' hr hl rfl, stay hg' hr hk rfl⟩)
  ?_ ⟨hI1, hL1, hK1⟩).mono ?_
 ·-- a round
  rintro k W ⟨hi, hl, hk⟩ hlt
  have hy := run_yield (P := P) (args := encs k) hl (by rw [rc_p]; exact hps k)
  rw [hrc] at hy
  refine ⟨fn, _, assign, body, hy, roundIn_of_wpIn trivial (hassign _ k W _ hi hlt fun a₁ W₁ hf₁ hb₁ hx₁ => ?_)⟩
  have hl₁ := hf₁.same _ _ (by omega) hl rfl
  have hk₁ := hf₁.same _ _ (by omega) hk rfl
  refine ⟨_, run_beginRound hl₁ (by rw [hrc]), ?_⟩
  obtain ⟨bz, hbz⟩ : ∃ bz : Loop, bz = { rc .ready none with state := .busy } := ⟨_, rfl⟩
  rw [← hbz]
  have hl₂ := put_same (.loop bz) hl₁
  have hk₂ := put_D (.loop bz) hk₁
  have hx₂ := turn (hAx a₁) (.loop bz) hx₁ hl₁ rfl
  have hb₂ := hb₁.trans (put_b (.loop bz) hl₁ rfl rfl)
  refine wpIn_mono (hbody _ k a₁ _ hx₂ hlt) ?_
  have fin : ∀ (jump : Option Code) (W3 : World), KeepsFrom w.heap.size (W₁.putObj (D + 1) (.loop bz)) W3 →
    (Instr.endRound (D + 1) jump).run P W3 = .ok (.bool jump.isNone) (W3.putObj (D + 1) (.loop (rc (if jump.isNone then .ready else .done) jump))) ∧ W3.heap[D + 1]? = some (.loop bz) ∧ W3.heap[D]? = some (.deferred (some [])) := fun jump W3 h3 => by
   have hl3 := h3.same _ _ (by omega) hl₂ rfl
   have he := run_endRound (P := P) jump hl3
   rw [hbz, hrc] at he
   rw [hrc]
   exact ⟨he, hl3, h3.same _ _ (by omega) hk₂ rfl⟩
  rintro e a3 W3 hp
  cases e with
  | normal =>
   obtain ⟨h3, hb3, hi3⟩ := hp
   obtain ⟨hr, hl3, hk3⟩ := fin none W3 h3
   exact ⟨_, _, hr, .inl ⟨rfl, ⟨turn hI _ hi3 hl3 rfl, put_same _ hl3, put_D _ hk3⟩, (hb₂.trans hb3).trans (put_b _ hl3 rfl rfl)⟩⟩
  | ret =>
   obtain ⟨h3, hi3⟩ := hp
   obtain ⟨hr, hl3, hk3⟩ := fin (some .ret) W3 h3
   exact ⟨_, _, hr, .inr ⟨rfl, .ret, turn (hIx _) _ hi3 hl3 rfl, put_same _ hl3, put_D _ hk3⟩⟩
  | exit i =>
   obtain ⟨h3, hi3⟩ := hp
   obtain ⟨hr, hl3, hk3⟩ := fin (some (.exit i)) W3 h3
   exact ⟨_, _, hr, .inr ⟨rfl, .exit i, turn (hIx _) _ hi3 hl3 rfl, put_same _ hl3, put_D _ hk3⟩⟩
  | goto t =>
   obtain ⟨h3, hi3⟩ := hp
   obtain ⟨hr, hl3, hk3⟩ := fin (some (.goto t)) W3 h3
   exact ⟨_, _, hr, .inr ⟨rfl, .goto t, turn (hIx _) _ hi3 hl3 rfl, put_same _ hl3, put_D _ hk3⟩⟩
  | panic ch => exact hp.elim
  | outgrown => exact hp.elim
 ·-- behind the iterator
  rintro e W2 ⟨⟨v, rfl⟩, (⟨hi, hl, hk⟩ | ⟨k, hlt, c, hi, hl, hk⟩)⟩
  ·have he := run_endLoop (P := P) hl (by rw [hrc]; simp)
   rw [hrc] at he
   exact ⟨none, _, he, hdone D _ (by omega) (turn hI _ hi hl rfl) (put_D _ hk)⟩
  ·have he := run_endLoop (P := P) hl (by rw [hrc]; simp)
   rw [hrc] at he
   exact ⟨some c, _, he, hstop D c k _ (by omega) hlt (turn (hIx c) _ hi hl rfl) (put_D _ hk)⟩
end
end Go.Proofs.YtbbnkclajpaghaaGreatDoor
namespace Go.Proofs.YtbbnkclajpaghaaGreatDoor
open Go.ChangeShapes Go.WideShapes Go.ChangeAt Go.RowKit
set_option linter.unusedVariables false
set_option maxRecDepth 100000
attribute [local go_sem] Oper.semAt_some
def zvr : Vr := ⟨0, 0, 0, 0, 0, 0, 0, 0⟩
def rowAt (l : List Vr) (k : Nat) : Vr := l.getD k zvr
theorem rowAt_lt {l : List Vr} {k : Nat} (h : k < l.length) : rowAt l k = l[k] := by simp [rowAt, List.getD, h]
theorem rows_calls (A : Option Addr) (n c : Nat) (w : World) : Calls Tryz.prog 27 #[.slice A n c] w fun e w' =>
  e = .returned (.func (.func 50) #[] #[.pointer (some ⟨w.heap.size, 0, none⟩)]) ∧ w' = w.alloc (.cells #[.slice A n c] 22) := by
 go_enter Tryz.func27, Tryz.ntmps27
 go_wp2
 go_ret
 exact ⟨rfl, rfl⟩
abbrev encR (l : List Vr) (k : Nat) : Array Value := #[.int .i64 (k : Int), Rwv (rowAt l k)]
set_option maxRecDepth 100000 in
set_option maxHeartbeats 4000000 in
theorem rows_seq {A : Option Addr} {c n₀ Bt : Nat} {l : List Vr} {w : World} (hl : RT w A l) (hA : ∀ b off, A = some ⟨b, off, none⟩ → b < n₀) (h6 : l.length ≤ 1000000)
  (hn : n₀ ≤ w.heap.size) (hB : w.heap[Bt]? = some (.cells #[.slice A l.length c] 22)) :
  SeqN Tryz.prog 50 #[.pointer (some ⟨Bt, 0, none⟩)] (encR l) n₀ l.length w := by
 intro lp J Jx W hW hJ hJx hY h0
 have VB := blk_next hW hB
 have HL := Lib.hid (hl.next hW)
 have HA := Lib.hid hA
 have cB := blk_cell VB 0 (.slice A l.length c) rfl
 have lB := blk_lt VB
 clear hl hA hB VB
 refine callsIn_of_wp Tryz.func50 rfl trivial ?_ rfl
 simp only [Tryz.ntmps50, List.size_toArray, List.length_cons, List.length_nil, Nat.reduceAdd, Nat.reduceSub, Array.replicate_succ, Array.replicate_zero, List.push_toArray, List.append_toArray, List.nil_append, List.cons_append]
 gi_wp2
 gi_loopw [7] (fun i wr => ∃ k : Nat, k ≤ l.length ∧ i = .int .i64 k ∧ Hid (J k wr) ∧ Hid (Below n₀ W wr) ∧ Hid (W.heap.size ≤ wr.heap.size)) (fun i _ => l.length - (intOf i).toNat)
 case atStart => exact ⟨0, Nat.zero_le _, rfl, Lib.hid h0, Lib.hid (Below.refl _ _), Lib.hid (Nat.le_refl _)⟩
 case round =>
  obtain ⟨k, hk, rfl, hJs, hnx, hsz⟩ := hrel
  by_cases hlt : k < l.length
  ·obtain ⟨b, off, hb, hbl, c0, c1, c2, c3, c4, c5, c6, c7⟩ := RT.at_ HL.out hlt
   have bn := HA.out b off hb
   subst hb
   rw [← rowAt_lt hlt] at c0 c1 c2 c3 c4 c5 c6 c7
   replace c0 := (hnx.out.cell (p := ⟨b, off + k * 8, none⟩) bn).trans c0
   replace c1 := (hnx.out.cell (p := ⟨b, off + k * 8 + 1, none⟩) bn).trans c1
   replace c2 := (hnx.out.cell (p := ⟨b, off + k * 8 + 2, none⟩) bn).trans c2
   replace c3 := (hnx.out.cell (p := ⟨b, off + k * 8 + 3, none⟩) bn).trans c3
   replace c4 := (hnx.out.cell (p := ⟨b, off + k * 8 + 4, none⟩) bn).trans c4
   replace c5 := (hnx.out.cell (p := ⟨b, off + k * 8 + 5, none⟩) bn).trans c5
   replace c6 := (hnx.out.cell (p := ⟨b, off + k * 8 + 6, none⟩) bn).trans c6
   replace c7 := (hnx.out.cell (p := ⟨b, off + k * 8 + 7, none⟩) bn).trans c7
   generalize hr : rowAt l k = r at *
   obtain ⟨fn, tmps, assign, body, hy, hR⟩ := hY k (wr.alloc (.cells #[.int .i64 r.t, .int .i64 r.c, .int .i64 r.i, .int .i64 r.j, .int .i64 r.re, .int .i64 r.im, .int .i64 r.dn, .int .i64 r.n] 44)) (hJ k wr _ none hJs.out (World.grownBy_alloc wr _ none) (fun _ e => by cases e)) hlt
   dsimp only [encR] at hy
   rw [hr] at hy
   have hb1 : Below n₀ wr (wr.alloc (.cells #[.int .i64 r.t, .int .i64 r.c, .int .i64 r.i, .int .i64 r.j, .int .i64 r.re, .int .i64 r.im, .int .i64 r.dn, .int .i64 r.n] 44)) := (Below.refl n₀ wr).alloc (by have := hsz.out; have := hW.size; omega) _
   have HX := Lib.hid (hnx.out.trans hb1)
   have HZ : Hid (W.heap.size ≤ (wr.alloc (.cells #[.int .i64 r.t, .int .i64 r.c, .int .i64 r.i, .int .i64 r.j, .int .i64 r.re, .int .i64 r.im, .int .i64 r.dn, .int .i64 r.n] 44)).heap.size) := Lib.hid (by rw [World.size_alloc]; have := hsz.out; omega)
   clear hbl hr hb1
   gi_wp2
   refine ⟨rfl, ?_⟩
   refine hR.mono ?_
   rintro e W3 (⟨rfl, hJ3, hk3⟩ | ⟨rfl, hJx3⟩)
   ·gi_wp2
    go_roundw
    case rel => exact ⟨k + 1, by omega, by simp, Lib.hid hJ3, Lib.hid (HX.out.trans hk3), Lib.hid (Nat.le_trans HZ.out hk3.size)⟩
    case measure => simp [intOf]; omega
   ·gi_wp2
    refine bodyPost_ret (results_none rfl _ _ _) rfl ?_
    exact ⟨⟨_, rfl⟩, .inr ⟨k, hlt, hJx3⟩⟩
  ·have e : k = l.length := by omega
   subst e
   gi_wp2
   go_end0
   exact ⟨⟨_, rfl⟩, .inl hJs.out⟩
end Go.Proofs.YtbbnkclajpaghaaGreatDoor
