/- Several texts in one. -/
import Derived.StillTail
import Derived.Deep.RegionHeld3
import Derived.OpenShut
import Derived.Deep.Slices
import Derived.Deep.Fields
import Derived.ChangeSame
import Derived.ChangeArms
import Derived.Lib.SmallJoins
import Derived.OwnWalk
import Derived.Test.YtbbnkclajpaghaaMA00
import Derived.Test.YtbbnkclajpaghaaMA02
import Derived.Test.YtbbnkclajpaghaaMA03
import Derived.Test.YtbbnkclajpaghaaMA04
import Derived.Test.YtbbnkclajpaghaaMA08
namespace Go.Proofs.Ytbbnkclajpaghaa
set_option linter.unusedVariables false
set_option linter.unusedSimpArgs false
def upK (xs : List Vr) (n : Nat) : Int × List Vr := avF (((List.range' n (65536 - n)).map Int.ofNat).map (byK xs))
theorem upK_zero (xs : List Vr) : upK xs 0 = avK allK xs := by
 unfold upK avK allK
 rw [List.range_eq_range']
theorem upK_step {xs : List Vr} {n : Nat} (h : n < 65536) : upK xs n = avF (byK xs (n : Int) :: ((List.range' (n + 1) (65536 - (n + 1))).map Int.ofNat).map (byK xs)) := by
 unfold upK
 rw [show 65536 - n = (65536 - (n + 1)) + 1 by omega, List.range'_succ]
 rfl
theorem upK_end (xs : List Vr) : upK xs 65536 = avF [] := by
 unfold upK
 rw [Nat.sub_self]
 rfl
theorem up_skip {xs : List Vr} {n : Nat} (h : n < 65536) (h' : (meanF (byK xs (n : Int))).1 = 18) (O : List Vr) : andF O (upK xs n) = andF O (upK xs (n + 1)) := by
 rw [upK_step h]; exact avF_skip h' O _
theorem up_bad {xs : List Vr} {n : Nat} (h : n < 65536) (h1 : (meanF (byK xs (n : Int))).1 ≠ 18) (h2 : (meanF (byK xs (n : Int))).1 ≠ 0) (O : List Vr) : andF O (upK xs n) = ((meanF (byK xs (n : Int))).1, []) := by
 rw [upK_step h]; exact avF_bad h1 h2 O _
theorem up_good {xs : List Vr} {n : Nat} (h : n < 65536) (h' : (meanF (byK xs (n : Int))).1 = 0) (O : List Vr) : andF O (upK xs n) = andF (O ++ [(meanF (byK xs (n : Int))).2]) (upK xs (n + 1)) := by
 rw [upK_step h]; exact avF_good h' O _
theorem up_far {xs O : List Vr} : ∀ {d n : Nat}, n + d ≤ 65536 → (∀ r ∈ xs, vkey r < (n : Int) ∨ ((n + d : Nat) : Int) ≤ vkey r) → andF O (upK xs n) = andF O (upK xs (n + d))
 | 0, _, _, _ => rfl
 | d + 1, n, h, he => by
  have e : byK xs (n : Int) = [] := List.filter_eq_nil_iff.2 fun r hr => by have := he r hr; simp; omega
  rw [up_skip (by omega) (by rw [e, meanF_nil]), up_far (d := d) (n := n + 1) (by omega) (fun r hr => by have := he r hr; omega), show n + 1 + d = n + (d + 1) by omega]
theorem up_to {xs : List Vr} {n m : Nat} (O : List Vr) (h1 : n ≤ m) (h2 : m ≤ 65536) (he : ∀ r ∈ xs, vkey r < (n : Int) ∨ (m : Int) ≤ vkey r) : andF O (upK xs n) = andF O (upK xs m) := by
 obtain ⟨d, rfl⟩ : ∃ d, m = n + d := ⟨m - n, by omega⟩
 exact up_far h2 he
def tcB (p q : Int) (r : Vr) : Bool := decide (r.t = p) && decide (r.c = q)
theorem av_facts {a b : Int} {l : List Vr} (ha : 1 ≤ a) (hb : 1 ≤ b) (ht : ∀ r ∈ l, rowB r = true) : ∀ r ∈ l.map (avT a b), rowB r = true ∧ r.t * a < 64 ∧ r.c * b < 16 := fun r hr => by
 obtain ⟨q, hq, rfl⟩ := List.mem_map.1 hr
 have f := rowB_facts (ht q hq)
 refine ⟨avT_row ha hb (ht q hq), ?_, ?_⟩
 ·rw [avT_quo ha hb (ht q hq)]
  have := Int.ediv_mul_le q.t (b := a) (by omega)
  show q.t / a * a < 64
  omega
 ·rw [avT_quo ha hb (ht q hq)]
  have := Int.ediv_mul_le q.c (b := b) (by omega)
  show q.c / b * b < 16
  omega
theorem quo_lt {x y a n : Int} (ha : 1 ≤ a) (h : x * a < n) (h' : n ≤ y * a) : x < y := by
 refine Int.lt_of_not_ge fun hge => ?_
 have := Int.mul_le_mul_of_nonneg_right hge (show 0 ≤ a by omega)
 omega
theorem key_is {r : Vr} (h : rowB r = true) (p q i j : Int) (hp : 0 ≤ q ∧ q < 16 ∧ 0 ≤ i ∧ i < 8 ∧ 0 ≤ j ∧ j < 8) : vkey r = ((p * 16 + q) * 8 + i) * 8 + j ↔ r.t = p ∧ r.c = q ∧ r.i = i ∧ r.j = j := by
 have f := rowB_facts h
 unfold vkey
 omega
theorem own_key {xs : List Vr} (h : ∀ r ∈ xs, rowB r = true) (p q i j : Int) (hp : 0 ≤ q ∧ q < 16 ∧ 0 ≤ i ∧ i < 8 ∧ 0 ≤ j ∧ j < 8) : (xs.filter (tcB p q)).filter (selB i j) = byK xs (((p * 16 + q) * 8 + i) * 8 + j) := by
 unfold byK
 rw [List.filter_filter]
 refine List.filter_congr fun r hr => ?_
 have k := key_is (h r hr) p q i j hp
 simp only [tcB, selB]
 rw [Bool.eq_iff_iff]
 simp only [Bool.and_eq_true, decide_eq_true_eq, beq_iff_eq]
 rw [k]
 omega
theorem grp_facts {xs : List Vr} {p q i j : Int} {r : Vr} (h : r ∈ (xs.filter (tcB p q)).filter (selB i j)) : r ∈ xs ∧ r.t = p ∧ r.c = q ∧ r.i = i ∧ r.j = j := by
 have h1 := List.mem_filter.1 h
 have h2 := List.mem_filter.1 h1.1
 simp only [tcB, selB, Bool.and_eq_true, decide_eq_true_eq] at h1 h2
 exact ⟨h2.1, h2.2.1, h2.2.2, h1.2.1, h1.2.2⟩
theorem hdV_mem {l : List Vr} (h : l ≠ []) : hdV l ∈ l := by
 cases l with
 | nil => exact absurd rfl h
 | cons r l => exact List.mem_cons_self ..
theorem wgt_ne {l : List Vr} (h : wgt l ≠ 0) : l ≠ [] := fun e => h (by rw [e]; rfl)
theorem end_time {xs O : List Vr} {a b : Int} (ha : 1 ≤ a) (hx : ∀ r ∈ xs, rowB r = true ∧ r.t * a < 64 ∧ r.c * b < 16) {p : Nat} (hp : p ≤ 64) (h : 64 ≤ (p : Int) * a) : andF O (upK xs (p * 1024)) = (0, O) := by
 rw [up_to O (show p * 1024 ≤ 65536 by omega) (Nat.le_refl _) (fun r hr => .inl ?_), upK_end, andF_end]
 have f := rowB_facts (hx r hr).1
 have := quo_lt ha (hx r hr).2.1 h
 unfold vkey
 omega
theorem end_chan {xs O : List Vr} {a b : Int} (hb : 1 ≤ b) (hx : ∀ r ∈ xs, rowB r = true ∧ r.t * a < 64 ∧ r.c * b < 16) {p q : Nat} (hp : p < 64) (hq : q ≤ 16) (h : 16 ≤ (q : Int) * b) : andF O (upK xs (p * 1024 + q * 64)) = andF O (upK xs ((p + 1) * 1024)) := by
 refine up_to O (by omega) (by omega) fun r hr => ?_
 have f := rowB_facts (hx r hr).1
 have := quo_lt hb (hx r hr).2.2 h
 unfold vkey
 omega
theorem end_none {xs O : List Vr} (hx : ∀ r ∈ xs, rowB r = true) {p q : Nat} (hp : p < 64) (hq : q < 16) (h : xs.filter (tcB p q) = []) : andF O (upK xs (p * 1024 + q * 64)) = andF O (upK xs (p * 1024 + (q + 1) * 64)) := by
 refine up_to O (by omega) (by omega) fun r hr => ?_
 have f := rowB_facts (hx r hr)
 have g := List.filter_eq_nil_iff.1 h r hr
 simp only [tcB, Bool.and_eq_true, decide_eq_true_eq] at g
 unfold vkey
 omega
theorem end_low {xs O : List Vr} (hx : ∀ r ∈ xs, rowB r = true) {n i : Nat} (hn : n % 64 = 0) (hi : i < 8) (h : n + 64 ≤ 65536) : andF O (upK xs (n + i * 8)) = andF O (upK xs (n + i * 8 + (i + 1))) := by
 refine up_to O (by omega) (by omega) fun r hr => ?_
 have f := rowB_facts (hx r hr)
 unfold vkey
 omega
end Go.Proofs.Ytbbnkclajpaghaa
namespace Go.Proofs.Ytbbnkclajpaghaa
open Go Go.RowKit
set_option linter.unusedVariables false
set_option maxRecDepth 100000
section
variable {P : Program} {ops : Array Oper} {Q : Exit → Act → World → Prop} {md : Region.Mode} {S : Nat → World → Prop}
end
def SZ (L : List (Nat × Addr × Value)) (C : List (Nat × Option Addr × List Nat)) (k : Nat) (X : World) : Prop := (∀ p ∈ L, p.1 = k → p.2.1.block < X.heap.size ∧ X.cell? p.2.1 = some p.2.2) ∧ ∀ p ∈ C, p.1 ≠ k
theorem SZ.next {L : List (Nat × Addr × Value)} {C : List (Nat × Option Addr × List Nat)} {k : Nat} {X Y : World} (h : SZ L C k X) (hb : Below X.heap.size X Y) : SZ L C k Y := by
 refine ⟨fun p hp e => ?_, h.2⟩
 obtain ⟨h1, h2⟩ := h.1 p hp e
 exact ⟨Nat.lt_of_lt_of_le h1 hb.size, (hb.cell h1).trans h2⟩
theorem SZ.drop {L : List (Nat × Addr × Value)} {C : List (Nat × Option Addr × List Nat)} {k : Nat} {X : World} (h : ∀ p ∈ L, p.1 ≠ k) (h2 : ∀ p ∈ C, p.1 ≠ k) : SZ L C k X := ⟨fun p hp e => absurd e (h p hp), h2⟩
end Go.Proofs.Ytbbnkclajpaghaa
namespace Go.Proofs.Ytbbnkclajpaghaa
open Go.ChangeShapes Go.WideShapes Go.ChangeAt Go.RowKit
set_option linter.unusedVariables false
set_option maxRecDepth 100000
set_option linter.unusedSimpArgs false
set_option maxRecDepth 100000 in
set_option maxHeartbeats 8000000 in
theorem refchk_calls {A : Option Addr} {c : Nat} {l : List Vr} {w : World} (hl : RT w A l) (hc : l.length ≤ c) (hc' : c ≤ 9223372036854775807) : Calls Try.prog 14 #[.slice A l.length c] w fun e w' =>
  e = .returned (.int .i64 (chkE l)) ∧ Below w.heap.size w w' := by
 have HL := Lib.hid hl
 have NN := Lib.hid (Below.refl w.heap.size w)
 clear hl
 by_cases h2 : 200 < l.length
 ·have FV : Hid (chkE l = 4) := Lib.hid (by unfold chkE; rw [if_pos h2])
  generalize chkE l = v at *
  go_enter Try.func14, Try.ntmps14
  go_wp2_with fail
  go_ret
  exact ⟨ret_int FV.out.symm, NN.out⟩
 have FV : Hid (chkE l = if goodB l then 0 else 8) := Lib.hid (by unfold chkE; rw [if_neg h2])
 generalize chkE l = v at *
 go_enter Try.func14, Try.ntmps14
 go_wp2_with fail
 go_loopw [3] (fun p wr => ∃ k : Nat, k ≤ l.length ∧ p = .int .i64 k ∧ Hid (Below w.heap.size w wr) ∧ Hid (goodB (l.take k) = true)) (fun p _ => l.length - (intOf p).toNat)
 case atStart => exact ⟨0, Nat.zero_le _, rfl, NN, Lib.hid rfl⟩
 case round =>
  clear NN
  obtain ⟨k, hk, rfl, NN, HG⟩ := hrel
  by_cases hlt : l.length ≤ k
  ·have e : k = l.length := by omega
   subst e
   have HR : Hid (v = 0) := Lib.hid (by rw [FV.out, ← List.take_length (l := l), HG.out]; rfl)
   clear hk hlt
   go_wp2_with fail
   go_ret
   exact ⟨ret_int HR.out.symm, NN.out⟩
  replace hlt : k < l.length := by omega
  obtain ⟨b, off, eA, bl, a0, a1, a2, a3, a4, a5, a6, a7⟩ := RT.at_ HL.out hlt
  have HVC := Lib.hid (refvalid_calls (rowAt l k))
  have HGT := Lib.hid (good_take hlt HG.out)
  have HRA := Lib.hid (rowAt_lt hlt)
  rw [← rowAt_lt hlt] at a0 a1 a2 a3 a4 a5 a6 a7
  generalize hr : rowAt l k = r at *
  have BL := Lib.hid bl
  subst eA
  have HC : Hid (∀ X : World, Below w.heap.size w X → b < X.heap.size ∧ X.cell? ⟨b, off + k * 8, none⟩ = some (.int .i64 r.t) ∧ X.cell? ⟨b, off + k * 8 + 1, none⟩ = some (.int .i64 r.c) ∧ X.cell? ⟨b, off + k * 8 + 2, none⟩ = some (.int .i64 r.i) ∧ X.cell? ⟨b, off + k * 8 + 3, none⟩ = some (.int .i64 r.j) ∧ X.cell? ⟨b, off + k * 8 + 4, none⟩ = some (.int .i64 r.re) ∧ X.cell? ⟨b, off + k * 8 + 5, none⟩ = some (.int .i64 r.im) ∧ X.cell? ⟨b, off + k * 8 + 6, none⟩ = some (.int .i64 r.dn) ∧ X.cell? ⟨b, off + k * 8 + 7, none⟩ = some (.int .i64 r.n)) :=
   Lib.hid (fun X hX => ⟨Nat.lt_of_lt_of_le bl hX.size, (hX.cell (p := ⟨b, off + k * 8, none⟩) bl).trans a0, (hX.cell (p := ⟨b, off + k * 8 + 1, none⟩) bl).trans a1, (hX.cell (p := ⟨b, off + k * 8 + 2, none⟩) bl).trans a2, (hX.cell (p := ⟨b, off + k * 8 + 3, none⟩) bl).trans a3, (hX.cell (p := ⟨b, off + k * 8 + 4, none⟩) bl).trans a4, (hX.cell (p := ⟨b, off + k * 8 + 5, none⟩) bl).trans a5, (hX.cell (p := ⟨b, off + k * 8 + 6, none⟩) bl).trans a6, (hX.cell (p := ⟨b, off + k * 8 + 7, none⟩) bl).trans a7⟩)
  clear a0 a1 a2 a3 a4 a5 a6 a7 bl
  have hck : k < c := by omega
  obtain ⟨lb, b0, b1, b2, b3, b4, b5, b6, b7⟩ := HC.out wr NN.out
  go_wp2_with fail
  refine (HVC.out _).mono ?_
  rintro e w1 ⟨rfl, hb⟩
  replace NN := Lib.hid (Bgo NN.out hb)
  clear lb b0 b1 b2 b3 b4 b5 b6 b7 hb
  cases hB : rowB r
  ·have HR : Hid (v = 8) := Lib.hid (by rw [FV.out, good_prefix (k + 1) (by rw [HGT.out, hB]; rfl)]; rfl)
   clear hB
   go_wp2_with fail
   go_ret
   exact ⟨ret_int HR.out.symm, NN.out⟩
  have HRB := Lib.hid hB
  rw [hB, Bool.true_and] at HGT
  clear hB
  go_wp2_with fail
  by_cases h0 : k = 0
  ·have HGN : Hid (goodB (List.take (k + 1) l) = true) := Lib.hid (by rw [HGT.out, h0]; rfl)
   have d0 : decide (0 < k) = false := decide_eq_false (by omega)
   clear HGT h0
   go_quiet (fail)
   go_wp2_with fail
   refine ⟨⟨k + 1, by omega, by go_num, Lib.hid (below_drewN NN.out _), HGN⟩, by simp [intOf]; omega⟩
  obtain ⟨m, hkm⟩ : ∃ m, k = m + 1 := ⟨k - 1, by omega⟩
  have HSB := Lib.hid (good_last (by omega) HG.out (by omega : 0 < k))
  have HS2 : Hid (lastR l k = rowAt l m) := Lib.hid (by rw [hkm]; rfl)
  rw [HS2.out] at HSB HGT
  rw [decide_eq_false h0, Bool.false_or] at HGT
  have hml : m < l.length := by omega
  obtain ⟨b', off', eA, bl', e0, e1, e2, e3, e4, e5, e6, e7⟩ := RT.at_ HL.out hml
  injection eA with eA
  injection eA with eA1 eA2
  subst eA1 eA2
  rw [← rowAt_lt hml] at e0 e1 e2 e3 e4 e5 e6 e7
  generalize hs : rowAt l m = s at *
  have KR : Hid (∀ X : World, Calls Try.prog 22 #[Rwv r] X fun e w' => e = .returned (.int .i64 (vkey r)) ∧ Below X.heap.size X w') := Lib.hid (key_calls r HRB.out)
  have KS : Hid (∀ X : World, Calls Try.prog 22 #[Rwv s] X fun e w' => e = .returned (.int .i64 (vkey s)) ∧ Below X.heap.size X w') := Lib.hid (key_calls s HSB.out)
  generalize vkey s = ks at *
  generalize vkey r = kr at *
  have BN := NN.out
  obtain ⟨lb, b0, b1, b2, b3, b4, b5, b6, b7⟩ := HC.out w1 BN
  replace e0 := (BN.cell (p := ⟨b, off + m * 8, none⟩) bl').trans e0
  replace e1 := (BN.cell (p := ⟨b, off + m * 8 + 1, none⟩) bl').trans e1
  replace e2 := (BN.cell (p := ⟨b, off + m * 8 + 2, none⟩) bl').trans e2
  replace e3 := (BN.cell (p := ⟨b, off + m * 8 + 3, none⟩) bl').trans e3
  replace e4 := (BN.cell (p := ⟨b, off + m * 8 + 4, none⟩) bl').trans e4
  replace e5 := (BN.cell (p := ⟨b, off + m * 8 + 5, none⟩) bl').trans e5
  replace e6 := (BN.cell (p := ⟨b, off + m * 8 + 6, none⟩) bl').trans e6
  replace e7 := (BN.cell (p := ⟨b, off + m * 8 + 7, none⟩) bl').trans e7
  have d0 : decide (0 < k) = true := decide_eq_true (by omega)
  have d1 : (0 < k) = True := by simp; omega
  have hw : IntKind.i64.wrap ((k : Int) - 1) = (m : Int) := by rw [hkm]; rw [IntWalk.i64_in _ (by omega)]; omega
  have hmc : m < c := by omega
  clear BN hs hr hkm HS2 h0 bl'
  have HHC := HC
  clear HC
  have HDRW := Lib.hid (Below.drew (Below.refl w1.heap.size w1))
  replace NN := Lib.hid (Bgo NN.out HDRW.out)
  clear HDRW
  have HAL : Hid (∀ kx9 : Nat, SZ [(7, ⟨b, off + m * 8, none⟩, .int .i64 s.t), (7, ⟨b, off + m * 8 + 1, none⟩, .int .i64 s.c), (7, ⟨b, off + m * 8 + 2, none⟩, .int .i64 s.i), (7, ⟨b, off + m * 8 + 3, none⟩, .int .i64 s.j), (7, ⟨b, off + m * 8 + 4, none⟩, .int .i64 s.re), (7, ⟨b, off + m * 8 + 5, none⟩, .int .i64 s.im), (7, ⟨b, off + m * 8 + 6, none⟩, .int .i64 s.dn), (7, ⟨b, off + m * 8 + 7, none⟩, .int .i64 s.n), (12, ⟨b, off + k * 8, none⟩, .int .i64 r.t), (12, ⟨b, off + k * 8 + 1, none⟩, .int .i64 r.c), (12, ⟨b, off + k * 8 + 2, none⟩, .int .i64 r.i), (12, ⟨b, off + k * 8 + 3, none⟩, .int .i64 r.j), (12, ⟨b, off + k * 8 + 4, none⟩, .int .i64 r.re), (12, ⟨b, off + k * 8 + 5, none⟩, .int .i64 r.im), (12, ⟨b, off + k * 8 + 6, none⟩, .int .i64 r.dn), (12, ⟨b, off + k * 8 + 7, none⟩, .int .i64 r.n)] [] kx9 w1.drew) := Lib.hid (fun kx9 => by
   constructor
   ·intro p hp e
    simp only [List.mem_cons, List.not_mem_nil, or_false] at hp
    rcases hp with rfl | rfl | rfl | rfl | rfl | rfl | rfl | rfl | rfl | rfl | rfl | rfl | rfl | rfl | rfl | rfl
    ·exact ⟨lb, e0⟩
    ·exact ⟨lb, e1⟩
    ·exact ⟨lb, e2⟩
    ·exact ⟨lb, e3⟩
    ·exact ⟨lb, e4⟩
    ·exact ⟨lb, e5⟩
    ·exact ⟨lb, e6⟩
    ·exact ⟨lb, e7⟩
    ·exact ⟨lb, b0⟩
    ·exact ⟨lb, b1⟩
    ·exact ⟨lb, b2⟩
    ·exact ⟨lb, b3⟩
    ·exact ⟨lb, b4⟩
    ·exact ⟨lb, b5⟩
    ·exact ⟨lb, b6⟩
    ·exact ⟨lb, b7⟩
   ·intro p hp e
    exact absurd hp (by simp)
   )
  refine region_I (S := SZ [(7, ⟨b, off + m * 8, none⟩, .int .i64 s.t), (7, ⟨b, off + m * 8 + 1, none⟩, .int .i64 s.c), (7, ⟨b, off + m * 8 + 2, none⟩, .int .i64 s.i), (7, ⟨b, off + m * 8 + 3, none⟩, .int .i64 s.j), (7, ⟨b, off + m * 8 + 4, none⟩, .int .i64 s.re), (7, ⟨b, off + m * 8 + 5, none⟩, .int .i64 s.im), (7, ⟨b, off + m * 8 + 6, none⟩, .int .i64 s.dn), (7, ⟨b, off + m * 8 + 7, none⟩, .int .i64 s.n), (12, ⟨b, off + k * 8, none⟩, .int .i64 r.t), (12, ⟨b, off + k * 8 + 1, none⟩, .int .i64 r.c), (12, ⟨b, off + k * 8 + 2, none⟩, .int .i64 r.i), (12, ⟨b, off + k * 8 + 3, none⟩, .int .i64 r.j), (12, ⟨b, off + k * 8 + 4, none⟩, .int .i64 r.re), (12, ⟨b, off + k * 8 + 5, none⟩, .int .i64 r.im), (12, ⟨b, off + k * 8 + 6, none⟩, .int .i64 r.dn), (12, ⟨b, off + k * 8 + 7, none⟩, .int .i64 r.n)] []) (by kernel_rfl) ?_
  refine take_I 0 (.int .i64 (k : Int)) (some 19) rfl (by kernel_rfl) (by kernel_rfl) (by kernel_rfl) rfl (fun _ _ _ h => h) (Or.inl ⟨by rfl, ?_⟩) (SZ.drop (by simp) (by simp)) ?_
  ·intro X hX
   clear hX
   go_simp
  try simp only [Act.put, zA, zB, zC]
  refine take_I 1 (.bool true) (some 20) rfl (by kernel_rfl) (by kernel_rfl) (by kernel_rfl) rfl (fun _ _ _ h => h) (Or.inl ⟨by rfl, ?_⟩) (SZ.drop (by simp) (by simp)) ?_
  ·intro X hX
   clear hX
   go_simp
  try simp only [Act.put, zA, zB, zC]
  refine take_I 2 (.bool true) (some 21) rfl (by kernel_rfl) (by kernel_rfl) (by kernel_rfl) rfl (fun _ _ _ h => h) (Or.inl ⟨by rfl, ?_⟩) (SZ.drop (by simp) (by simp)) ?_
  ·intro X hX
   clear hX
   go_simp
  try simp only [Act.put, zA, zB, zC]
  refine take_I 3 (.slice (some ⟨b, off, none⟩) l.length c) (some 22) rfl (by kernel_rfl) (by kernel_rfl) (by kernel_rfl) rfl (fun _ _ _ h => h) (Or.inl ⟨by rfl, ?_⟩) (SZ.drop (by simp) (by simp)) ?_
  ·intro X hX
   clear hX
   go_simp
  try simp only [Act.put, zA, zB, zC]
  refine take_I 4 (.int .i64 (k : Int)) (some 23) rfl (by kernel_rfl) (by kernel_rfl) (by kernel_rfl) rfl (fun _ _ _ h => h) (Or.inl ⟨by rfl, ?_⟩) (SZ.drop (by simp) (by simp)) ?_
  ·intro X hX
   clear hX
   go_simp
  try simp only [Act.put, zA, zB, zC]
  refine take_I 5 (.int .i64 (m : Int)) (some 24) rfl (by kernel_rfl) (by kernel_rfl) (by kernel_rfl) rfl (fun _ _ _ h => h) (Or.inl ⟨by rfl, ?_⟩) (SZ.drop (by simp) (by simp)) ?_
  ·intro X hX
   clear hX
   go_simp
  try simp only [Act.put, zA, zB, zC]
  refine take_I 6 (.pointer (some ⟨b, off + m * 8, none⟩)) (some 25) rfl (by kernel_rfl) (by kernel_rfl) (by kernel_rfl) rfl (fun _ _ _ h => h) (Or.inl ⟨by rfl, ?_⟩) (SZ.drop (by simp) (by simp)) ?_
  ·intro X hX
   clear hX
   go_simp
  try simp only [Act.put, zA, zB, zC]
  refine take_I 7 (.agg #[.int .i64 s.t, .int .i64 s.c, .int .i64 s.i, .int .i64 s.j, .int .i64 s.re, .int .i64 s.im, .int .i64 s.dn, .int .i64 s.n]) (some 26) rfl (by kernel_rfl) (by kernel_rfl) (by kernel_rfl) rfl (fun _ _ _ h => h) (Or.inl ⟨by rfl, ?_⟩) (HAL.out 7) ?_
  ·intro X hX
   obtain ⟨hz0, hc0⟩ := hX.1 (7, ⟨b, off + m * 8, none⟩, .int .i64 s.t) (List.Mem.head _) rfl
   simp only at hz0 hc0
   obtain ⟨hz1, hc1⟩ := hX.1 (7, ⟨b, off + m * 8 + 1, none⟩, .int .i64 s.c) (List.Mem.tail _ (List.Mem.head _)) rfl
   simp only at hz1 hc1
   obtain ⟨hz2, hc2⟩ := hX.1 (7, ⟨b, off + m * 8 + 2, none⟩, .int .i64 s.i) (List.Mem.tail _ (List.Mem.tail _ (List.Mem.head _))) rfl
   simp only at hz2 hc2
   obtain ⟨hz3, hc3⟩ := hX.1 (7, ⟨b, off + m * 8 + 3, none⟩, .int .i64 s.j) (List.Mem.tail _ (List.Mem.tail _ (List.Mem.tail _ (List.Mem.head _)))) rfl
   simp only at hz3 hc3
   obtain ⟨hz4, hc4⟩ := hX.1 (7, ⟨b, off + m * 8 + 4, none⟩, .int .i64 s.re) (List.Mem.tail _ (List.Mem.tail _ (List.Mem.tail _ (List.Mem.tail _ (List.Mem.head _))))) rfl
   simp only at hz4 hc4
   obtain ⟨hz5, hc5⟩ := hX.1 (7, ⟨b, off + m * 8 + 5, none⟩, .int .i64 s.im) (List.Mem.tail _ (List.Mem.tail _ (List.Mem.tail _ (List.Mem.tail _ (List.Mem.tail _ (List.Mem.head _)))))) rfl
   simp only at hz5 hc5
   obtain ⟨hz6, hc6⟩ := hX.1 (7, ⟨b, off + m * 8 + 6, none⟩, .int .i64 s.dn) (List.Mem.tail _ (List.Mem.tail _ (List.Mem.tail _ (List.Mem.tail _ (List.Mem.tail _ (List.Mem.tail _ (List.Mem.head _))))))) rfl
   simp only at hz6 hc6
   obtain ⟨hz7, hc7⟩ := hX.1 (7, ⟨b, off + m * 8 + 7, none⟩, .int .i64 s.n) (List.Mem.tail _ (List.Mem.tail _ (List.Mem.tail _ (List.Mem.tail _ (List.Mem.tail _ (List.Mem.tail _ (List.Mem.tail _ (List.Mem.head _)))))))) rfl
   simp only at hz7 hc7
   clear hX
   go_simp
  try simp only [Act.put, zA, zB, zC]
  refine take_I 9 (.slice (some ⟨b, off, none⟩) l.length c) (some 28) rfl (by kernel_rfl) (by kernel_rfl) (by kernel_rfl) rfl (fun _ _ _ h => h) (Or.inl ⟨by rfl, ?_⟩) (SZ.drop (by simp) (by simp)) ?_
  ·intro X hX
   clear hX
   go_simp
  try simp only [Act.put, zA, zB, zC]
  refine take_I 10 (.int .i64 (k : Int)) (some 29) rfl (by kernel_rfl) (by kernel_rfl) (by kernel_rfl) rfl (fun _ _ _ h => h) (Or.inl ⟨by rfl, ?_⟩) (SZ.drop (by simp) (by simp)) ?_
  ·intro X hX
   clear hX
   go_simp
  try simp only [Act.put, zA, zB, zC]
  refine take_I 11 (.pointer (some ⟨b, off + k * 8, none⟩)) (some 30) rfl (by kernel_rfl) (by kernel_rfl) (by kernel_rfl) rfl (fun _ _ _ h => h) (Or.inl ⟨by rfl, ?_⟩) (SZ.drop (by simp) (by simp)) ?_
  ·intro X hX
   clear hX
   go_simp
  try simp only [Act.put, zA, zB, zC]
  refine take_I 12 (.agg #[.int .i64 r.t, .int .i64 r.c, .int .i64 r.i, .int .i64 r.j, .int .i64 r.re, .int .i64 r.im, .int .i64 r.dn, .int .i64 r.n]) (some 31) rfl (by kernel_rfl) (by kernel_rfl) (by kernel_rfl) rfl (fun _ _ _ h => h) (Or.inl ⟨by rfl, ?_⟩) (HAL.out 12) ?_
  ·intro X hX
   obtain ⟨hz8, hc8⟩ := hX.1 (12, ⟨b, off + k * 8, none⟩, .int .i64 r.t) (List.Mem.tail _ (List.Mem.tail _ (List.Mem.tail _ (List.Mem.tail _ (List.Mem.tail _ (List.Mem.tail _ (List.Mem.tail _ (List.Mem.tail _ (List.Mem.head _))))))))) rfl
   simp only at hz8 hc8
   obtain ⟨hz9, hc9⟩ := hX.1 (12, ⟨b, off + k * 8 + 1, none⟩, .int .i64 r.c) (List.Mem.tail _ (List.Mem.tail _ (List.Mem.tail _ (List.Mem.tail _ (List.Mem.tail _ (List.Mem.tail _ (List.Mem.tail _ (List.Mem.tail _ (List.Mem.tail _ (List.Mem.head _)))))))))) rfl
   simp only at hz9 hc9
   obtain ⟨hz10, hc10⟩ := hX.1 (12, ⟨b, off + k * 8 + 2, none⟩, .int .i64 r.i) (List.Mem.tail _ (List.Mem.tail _ (List.Mem.tail _ (List.Mem.tail _ (List.Mem.tail _ (List.Mem.tail _ (List.Mem.tail _ (List.Mem.tail _ (List.Mem.tail _ (List.Mem.tail _ (List.Mem.head _))))))))))) rfl
   simp only at hz10 hc10
   obtain ⟨hz11, hc11⟩ := hX.1 (12, ⟨b, off + k * 8 + 3, none⟩, .int .i64 r.j) (List.Mem.tail _ (List.Mem.tail _ (List.Mem.tail _ (List.Mem.tail _ (List.Mem.tail _ (List.Mem.tail _ (List.Mem.tail _ (List.Mem.tail _ (List.Mem.tail _ (List.Mem.tail _ (List.Mem.tail _ (List.Mem.head _)))))))))))) rfl
   simp only at hz11 hc11
   obtain ⟨hz12, hc12⟩ := hX.1 (12, ⟨b, off + k * 8 + 4, none⟩, .int .i64 r.re) (List.Mem.tail _ (List.Mem.tail _ (List.Mem.tail _ (List.Mem.tail _ (List.Mem.tail _ (List.Mem.tail _ (List.Mem.tail _ (List.Mem.tail _ (List.Mem.tail _ (List.Mem.tail _ (List.Mem.tail _ (List.Mem.tail _ (List.Mem.head _))))))))))))) rfl
   simp only at hz12 hc12
   obtain ⟨hz13, hc13⟩ := hX.1 (12, ⟨b, off + k * 8 + 5, none⟩, .int .i64 r.im) (List.Mem.tail _ (List.Mem.tail _ (List.Mem.tail _ (List.Mem.tail _ (List.Mem.tail _ (List.Mem.tail _ (List.Mem.tail _ (List.Mem.tail _ (List.Mem.tail _ (List.Mem.tail _ (List.Mem.tail _ (List.Mem.tail _ (List.Mem.tail _ (List.Mem.head _)))))))))))))) rfl
   simp only at hz13 hc13
   obtain ⟨hz14, hc14⟩ := hX.1 (12, ⟨b, off + k * 8 + 6, none⟩, .int .i64 r.dn) (List.Mem.tail _ (List.Mem.tail _ (List.Mem.tail _ (List.Mem.tail _ (List.Mem.tail _ (List.Mem.tail _ (List.Mem.tail _ (List.Mem.tail _ (List.Mem.tail _ (List.Mem.tail _ (List.Mem.tail _ (List.Mem.tail _ (List.Mem.tail _ (List.Mem.tail _ (List.Mem.head _))))))))))))))) rfl
   simp only at hz14 hc14
   obtain ⟨hz15, hc15⟩ := hX.1 (12, ⟨b, off + k * 8 + 7, none⟩, .int .i64 r.n) (List.Mem.tail _ (List.Mem.tail _ (List.Mem.tail _ (List.Mem.tail _ (List.Mem.tail _ (List.Mem.tail _ (List.Mem.tail _ (List.Mem.tail _ (List.Mem.tail _ (List.Mem.tail _ (List.Mem.tail _ (List.Mem.tail _ (List.Mem.tail _ (List.Mem.tail _ (List.Mem.tail _ (List.Mem.head _)))))))))))))))) rfl
   simp only at hz15 hc15
   clear hX
   go_simp
  try simp only [Act.put, zA, zB, zC]
  refine only_I 8 (by kernel_rfl) rfl (fun K' hK' => ?_)
  go_simp
  go_at_call 22
  refine (KS.out _).mono ?_
  rintro e x1 ⟨rfl, hb⟩
  replace NN := Lib.hid (Bgo NN.out hb)
  go_simp
  refine hK'.out _ _ (fun _ _ hS => hS.next hb) ?_
  clear hK' K'
  try simp only [Act.put, zA, zB, zC]
  replace HAL := Lib.hid (fun kx9 => (HAL.out kx9).next hb)
  clear hb
  refine only_I 13 (by kernel_rfl) rfl (fun K' hK' => ?_)
  go_simp
  go_at_call 22
  refine (KR.out _).mono ?_
  rintro e x2 ⟨rfl, hb⟩
  replace NN := Lib.hid (Bgo NN.out hb)
  go_simp
  refine hK'.out _ _ (fun _ _ hS => hS.next hb) ?_
  clear hK' K'
  try simp only [Act.put, zA, zB, zC]
  replace HAL := Lib.hid (fun kx9 => (HAL.out kx9).next hb)
  clear hb
  refine take_I 14 (.bool (decide (kr ≤ ks))) (some 33) rfl (by kernel_rfl) (by kernel_rfl) (by kernel_rfl) rfl (fun _ _ _ h => h) (Or.inl ⟨by rfl, ?_⟩) (SZ.drop (by simp) (by simp)) ?_
  ·intro X hX
   clear hX
   go_simp
  try simp only [Act.put, zA, zB, zC]
  refine take_I 15 (.bool (decide (kr ≤ ks))) (some 34) rfl (by kernel_rfl) (by kernel_rfl) (by kernel_rfl) rfl (fun _ _ _ h => h) (Or.inl ⟨by rfl, ?_⟩) (SZ.drop (by simp) (by simp)) ?_
  ·intro X hX
   clear hX
   go_simp
  try simp only [Act.put, zA, zB, zC]
  clear HAL
  refine done_I (by kernel_rfl) ?_ _
  clear d0 d1 hw
  by_cases hx : ks < kr
  ·have d2 : decide (kr ≤ ks) = false := decide_eq_false (by omega)
   have HGN : Hid (goodB (List.take (k + 1) l) = true) := Lib.hid (by rw [HGT.out]; exact decide_eq_true hx)
   clear HGT
   go_wp2_with fail
   all_goals first | (exfalso; omega; done) | (refine ⟨⟨k + 1, by omega, by go_num, NN, HGN⟩, by simp [intOf]; omega⟩)
  ·have d2 : decide (kr ≤ ks) = true := decide_eq_true (by omega)
   have HR : Hid (v = 8) := Lib.hid (by rw [FV.out, good_prefix (k + 1) (by rw [HGT.out]; exact decide_eq_false hx)]; rfl)
   clear HGT
   go_wp2_with fail
   all_goals first | (exfalso; omega; done) | (go_ret; exact ⟨ret_int HR.out.symm, NN.out⟩)
end Go.Proofs.Ytbbnkclajpaghaa
namespace Go.Proofs.Ytbbnkclajpaghaa
open Go.ChangeShapes Go.WideShapes Go.ChangeAt Go.RowKit
set_option linter.unusedVariables false
set_option maxRecDepth 100000
set_option linter.unusedSimpArgs false
attribute [local go_sem] Oper.semAt_some
abbrev RB (w : World) (A : Option Addr) (b : List Bool) : Prop := Rd w 1 A b.length (b.map Value.bool)
theorem RB.at_ {w : World} {A : Option Addr} {b : List Bool} (h : RB w A b) {q : Nat} (hq : q < b.length) : ∃ bb off, A = some ⟨bb, off, none⟩ ∧ bb < w.heap.size ∧ w.cell? ⟨bb, off + q, none⟩ = some (.bool (b.getD q false)) := by
 obtain ⟨bb, off, e, hl, hc⟩ := h.2 (by omega)
 refine ⟨bb, off, e, hl, hc q _ ?_⟩
 simp [List.getD, hq]
end Go.Proofs.Ytbbnkclajpaghaa
namespace Go.Proofs.Ytbbnkclajpaghaa
open Go.ChangeShapes Go.WideShapes Go.ChangeAt Go.RowKit Go.Deep Go.Joins
set_option linter.unusedVariables false
set_option maxRecDepth 100000
set_option linter.unusedSimpArgs false
instance : Inhabited Vr := ⟨⟨0, 0, 0, 0, 0, 0, 0, 0⟩⟩
theorem plain_addr {w : World} {a : Addr} {v : Value} (h : w.cell? a = some v) : a = ⟨a.block, a.off, none⟩ := by
 rcases a with ⟨b, o, s⟩
 cases s with
 | none => rfl
 | some s =>
  unfold World.cell? at h
  split at h
  ·simp at h
  ·cases h
theorem add_plain (b o j : Nat) : (⟨b, o, none⟩ : Addr).add j = ⟨b, o + j, none⟩ := by
 simp [Addr.add]
theorem list3 {α : Type} {cs : List α} (h : cs.length = 3) : ∃ c0 c1 c2, cs = [c0, c1, c2] := by
 match cs, h with
 | [c0, c1, c2], _ => exact ⟨c0, c1, c2, rfl⟩
theorem list4 {α : Type} {cs : List α} (h : cs.length = 4) : ∃ c0 c1 c2 c3, cs = [c0, c1, c2, c3] := by
 match cs, h with
 | [c0, c1, c2, c3], _ => exact ⟨c0, c1, c2, c3, rfl⟩
theorem list6 {α : Type} {cs : List α} (h : cs.length = 6) : ∃ c0 c1 c2 c3 c4 c5, cs = [c0, c1, c2, c3, c4, c5] := by
 match cs, h with
 | [c0, c1, c2, c3, c4, c5], _ => exact ⟨c0, c1, c2, c3, c4, c5, rfl⟩
theorem list8 {α : Type} {cs : List α} (h : cs.length = 8) : ∃ c0 c1 c2 c3 c4 c5 c6 c7, cs = [c0, c1, c2, c3, c4, c5, c6, c7] := by
 match cs, h with
 | [c0, c1, c2, c3, c4, c5, c6, c7], _ => exact ⟨c0, c1, c2, c3, c4, c5, c6, c7, rfl⟩
theorem cof_i : Try.prog.cellsOf 3 = 1 := by kernel_rfl
theorem cof_l : Try.prog.cellsOf 2 = 1 := by kernel_rfl
theorem cof_c : Try.prog.cellsOf 24 = 3 := by kernel_rfl
theorem cof_v : Try.prog.cellsOf 26 = 6 := by kernel_rfl
theorem cof_r : Try.prog.cellsOf 28 = 8 := by kernel_rfl
section
variable {H : Type} {enc : TypeId × Value → H} {w : World} {base : Nat} {spare : Nat → Bool} {held : Bool}
theorem int_oneT {n : Nat} {c : Value} {x : Option (DataW H × List MemPlace)} {y : DataW H × List MemPlace} (hx : x = some y) (h : DataW.trod enc Try.prog w base spare held n 3 [c] = x) : ∃ a : Int, c = .int .i64 a := by
 subst hx
 obtain ⟨a, e, _⟩ := DataW.trod_int Try.underlying3 h
 simp only [List.cons.injEq, and_true] at e
 exact ⟨a, e⟩
theorem long_one {n : Nat} {c : Value} {x : Option (DataW H × List MemPlace)} {y : DataW H × List MemPlace} (hx : x = some y) (h : DataW.trod enc Try.prog w base spare held n 2 [c] = x) : ∃ a : Int, c = .int .i64 a := by
 subst hx
 obtain ⟨a, e, _⟩ := DataW.trod_int Try.underlying2 h
 simp only [List.cons.injEq, and_true] at e
 exact ⟨a, e⟩
theorem cx_cells {fuel : Nat} {cs : List Value} {x : DataW H × List MemPlace} (h : DataW.trod enc Try.prog w base spare held fuel 24 cs = some x) : ∃ a b c : Int, cs = [.int .i64 a, .int .i64 b, .int .i64 c] := by
 obtain ⟨xs, n, _, _, hl, hx, hf⟩ := DataW.trod_struct Try.underlying24 h
 rw [cof_c] at hl
 obtain ⟨u0, u1, u2, rfl⟩ := list3 hl
 obtain ⟨x0, x1, x2, rfl⟩ := list3 hx
 have h0 := hf 0 _ rfl
 have h1 := hf 1 _ rfl
 have h2 := hf 2 _ rfl
 change DataW.trod enc Try.prog w base spare held n 2 (([u0, u1, u2].drop 0).take (Try.prog.cellsOf 2)) = _ at h0
 rw [cof_l] at h0
 change DataW.trod enc Try.prog w base spare held n 2 (([u0, u1, u2].drop 1).take (Try.prog.cellsOf 2)) = _ at h1
 rw [cof_l] at h1
 change DataW.trod enc Try.prog w base spare held n 2 (([u0, u1, u2].drop 2).take (Try.prog.cellsOf 2)) = _ at h2
 rw [cof_l] at h2
 obtain ⟨a, rfl⟩ := long_one rfl h0
 obtain ⟨b, rfl⟩ := long_one rfl h1
 obtain ⟨c, rfl⟩ := long_one rfl h2
 exact ⟨a, b, c, rfl⟩
theorem vis_cells {fuel : Nat} {cs : List Value} {x : DataW H × List MemPlace} (h : DataW.trod enc Try.prog w base spare held fuel 26 cs = some x) : ∃ i j a b c n : Int, cs = [.int .i64 i, .int .i64 j, .int .i64 a, .int .i64 b, .int .i64 c, .int .i64 n] := by
 obtain ⟨xs, n, _, _, hl, hx, hf⟩ := DataW.trod_struct Try.underlying26 h
 rw [cof_v] at hl
 obtain ⟨u0, u1, u2, u3, u4, u5, rfl⟩ := list6 hl
 obtain ⟨x0, x1, x2, x3, rfl⟩ := list4 hx
 have h0 := hf 0 _ rfl
 have h1 := hf 1 _ rfl
 have h2 := hf 2 _ rfl
 have h3 := hf 3 _ rfl
 change DataW.trod enc Try.prog w base spare held n 3 (([u0, u1, u2, u3, u4, u5].drop 0).take (Try.prog.cellsOf 3)) = _ at h0
 rw [cof_i] at h0
 change DataW.trod enc Try.prog w base spare held n 3 (([u0, u1, u2, u3, u4, u5].drop 1).take (Try.prog.cellsOf 3)) = _ at h1
 rw [cof_i] at h1
 change DataW.trod enc Try.prog w base spare held n 24 (([u0, u1, u2, u3, u4, u5].drop 2).take (Try.prog.cellsOf 24)) = _ at h2
 rw [cof_c] at h2
 change DataW.trod enc Try.prog w base spare held n 3 (([u0, u1, u2, u3, u4, u5].drop 5).take (Try.prog.cellsOf 3)) = _ at h3
 rw [cof_i] at h3
 obtain ⟨i, rfl⟩ := int_oneT rfl h0
 obtain ⟨j, rfl⟩ := int_oneT rfl h1
 obtain ⟨a, b, c, e⟩ := cx_cells (x := x2) h2
 obtain ⟨m, rfl⟩ := int_oneT rfl h3
 simp at e
 obtain ⟨rfl, rfl, rfl⟩ := e
 exact ⟨i, j, a, b, c, m, rfl⟩
theorem row_cells {fuel : Nat} {cs : List Value} {x : DataW H × List MemPlace} (h : DataW.trod enc Try.prog w base spare held fuel 28 cs = some x) : ∃ r : Vr, cs = vr8 r := by
 obtain ⟨xs, n, _, _, hl, hx, hf⟩ := DataW.trod_struct Try.underlying28 h
 rw [cof_r] at hl
 obtain ⟨u0, u1, u2, u3, u4, u5, u6, u7, rfl⟩ := list8 hl
 obtain ⟨x0, x1, x2, rfl⟩ := list3 hx
 have h0 := hf 0 _ rfl
 have h1 := hf 1 _ rfl
 have h2 := hf 2 _ rfl
 change DataW.trod enc Try.prog w base spare held n 3 (([u0, u1, u2, u3, u4, u5, u6, u7].drop 0).take (Try.prog.cellsOf 3)) = _ at h0
 rw [cof_i] at h0
 change DataW.trod enc Try.prog w base spare held n 3 (([u0, u1, u2, u3, u4, u5, u6, u7].drop 1).take (Try.prog.cellsOf 3)) = _ at h1
 rw [cof_i] at h1
 change DataW.trod enc Try.prog w base spare held n 26 (([u0, u1, u2, u3, u4, u5, u6, u7].drop 2).take (Try.prog.cellsOf 26)) = _ at h2
 rw [cof_v] at h2
 obtain ⟨t, rfl⟩ := int_oneT rfl h0
 obtain ⟨c, rfl⟩ := int_oneT rfl h1
 obtain ⟨i, j, a, b, d, m, e⟩ := vis_cells (x := x2) h2
 simp at e
 obtain ⟨rfl, rfl, rfl, rfl, rfl, rfl⟩ := e
 exact ⟨⟨t, c, i, j, a, b, d, m⟩, rfl⟩
theorem open_vrows {fuel : Nat} {cs : List Value} {x : DataW H × List MemPlace} (h : DataW.trod enc Try.prog w base spare held fuel 22 cs = some x) :
  ∃ (a : Option Addr) (l : List Vr) (cap : Nat), cs = [.slice a l.length cap] ∧ l.length ≤ cap ∧ cap ≤ 9223372036854775807 ∧ RT w a l := by
 rcases open_slice und_vis h with ⟨rfl, _⟩ | ⟨a, len, cap, m, n, D, Pl, rfl, hb, hl, hm, hmm, hx, hi⟩
 ·exact ⟨none, [], 0, rfl, Nat.le_refl _, by omega, RT.empty _ _⟩
 ·have hle : len ≤ m := by rw [hmm]; split <;> omega
  have key : ∀ i, i < len → ∃ r : Vr, ∀ j, j < 8 → w.cell? (a.add (i * 8 + j)) = (vr8 r)[j]? := by
   intro i hil
   obtain ⟨cs', hc, ht⟩ := hi i (by omega)
   rw [cof_r] at hc
   obtain ⟨r, rfl⟩ := row_cells ht
   obtain ⟨_, _, hat⟩ := World.cells?_some hc
   exact ⟨r, fun j hj => by rw [← Go.Deep.add_add]; exact hat j hj⟩
  obtain ⟨f, hf⟩ := choose_lt key
  refine ⟨some a, (List.range len).map f, cap, by simp, by simpa using hl, by simpa [maxLen] using hm, fm_len _ _ vr8_len _, fun hn => ?_⟩
  have hn' : 0 < len := by simpa using hn
  have h0 := hf 0 hn' 0 (by omega)
  have ha : a = ⟨a.block, a.off, none⟩ := plain_addr (by simpa [Addr.add, vr8] using h0)
  have hlt := World.block_lt_of_cell? w (a.add (0 * 8 + 0)) h0
  refine ⟨a.block, a.off, by rw [← ha], hlt, fun j u hu => ?_⟩
  have hj : j < len * 8 := by
   have := (List.getElem?_eq_some_iff.1 hu).1
   rw [show (vrc ((List.range len).map f)).length = ((List.range len).map f).length * 8 from fm_len _ _ vr8_len _] at this
   simpa using this
  have e : j / 8 * 8 + j % 8 = j := by omega
  have hi8 : j / 8 < ((List.range len).map f).length := by simp; omega
  have g := fm_get vr8 8 vr8_len ((List.range len).map f) (j / 8) (j % 8) hi8 (by omega)
  rw [e] at g
  have h1 := hf (j / 8) (by omega) (j % 8) (by omega)
  rw [e, ha, add_plain] at h1
  have h2 : w.cell? ⟨a.block, a.off + j, none⟩ = (vr8 (f (j / 8)))[j % 8]? := h1
  rw [h2]
  unfold vrc at hu
  rw [g] at hu
  simpa using hu
set_option maxRecDepth 100000 in
theorem open_rowsv {r : Reach} {b0 : Nat} {v : Value} {d : DataW H} {p : List MemPlace} (hv : Value.okWide Try.prog w r b0 22 v) (h : DataW.Trod enc Try.prog w base spare held 22 v d p) :
  ∃ (A : Option Addr) (l : List Vr) (cap : Nat), v = .slice A l.length cap ∧ l.length ≤ cap ∧ cap ≤ 9223372036854775807 ∧ RT w A l := by
 obtain ⟨fuel, hf⟩ := h
 obtain ⟨sa, sl, sc, rfl⟩ := okWide_slice und_vis hv
 obtain ⟨A, l, cap, e, h1, h2, h3⟩ := open_vrows (cs := [.slice sa sl sc]) hf
 simp only [List.cons.injEq, and_true, Value.slice.injEq] at e
 obtain ⟨rfl, rfl, rfl⟩ := e
 exact ⟨_, l, _, rfl, h1, h2, h3⟩
end
end Go.Proofs.Ytbbnkclajpaghaa
namespace Go.Proofs.Ytbbnkclajpaghaa
open Go.ChangeShapes Go.WideShapes Go.ChangeAt Go.RowKit
set_option linter.unusedVariables false
set_option maxRecDepth 100000
set_option linter.unusedSimpArgs false
set_option maxRecDepth 100000 in
set_option maxHeartbeats 4000000 in
theorem same_calls {A B : Option Addr} {ca cb : Nat} {l : List Vr} {w : World} (ha : RT w A l) (hb : RT w B l) (h1 : l.length ≤ ca) (h2 : l.length ≤ cb) (hn : l.length ≤ 1000000) : Calls Try.prog 15 #[.slice A l.length ca, .slice B l.length cb] w fun e w' =>
  e = .returned (.bool true) ∧ Below w.heap.size w w' := by
 have HA := Lib.hid ha
 have HB := Lib.hid hb
 have NN := Lib.hid (Below.refl w.heap.size w)
 clear ha hb
 go_enter Try.func15, Try.ntmps15
 go_wp2_with fail
 go_loopw [5] (fun p wr => ∃ k m : Nat, k ≤ l.length ∧ p = .int .i64 (k : Int) ∧ wr = w.drewN m) (fun p _ => l.length - (intOf p).toNat)
 case atStart => exact ⟨0, 0, Nat.zero_le _, rfl, rfl⟩
 case round =>
  obtain ⟨k, m, hk, rfl, rfl⟩ := hrel
  by_cases hlt : l.length ≤ k
  ·have e : k = l.length := by omega
   subst e
   go_wp2_with fail
   go_ret
   exact ⟨rfl, below_drewN NN.out _⟩
  replace hlt : k < l.length := by omega
  obtain ⟨b, bo, eb, bl, a0, a1, a2, a3, a4, a5, a6, a7⟩ := RT.at_ HA.out hlt
  rw [← rowAt_lt hlt] at a0 a1 a2 a3 a4 a5 a6 a7
  subst eb
  obtain ⟨z, zo, ez, zl, g0, g1, g2, g3, g4, g5, g6, g7⟩ := RT.at_ HB.out hlt
  rw [← rowAt_lt hlt] at g0 g1 g2 g3 g4 g5 g6 g7
  subst ez
  generalize rowAt l k = s at *
  have k1 : k < ca := by omega
  have k2 : k < cb := by omega
  go_wp2_with fail
  go_quiet (fail)
  go_wp2_with fail
  refine ⟨⟨k + 1, m + nq, by omega, by go_num, rfl⟩, by simp [intOf]; omega⟩
def longB (n : Nat) : Bool := (decide (60 < n) && decide (n ≤ 200)) || decide (300 < n)
theorem long_calls (A : Option Addr) (n c : Nat) (w : World) : Calls Try.prog 5 #[.slice A n c] w fun e w' => e = .returned (.bool (longB n)) ∧ Below w.heap.size w w' := by
 have NN := Lib.hid (Below.refl w.heap.size w)
 have hc : n ≤ 60 ∨ (60 < n ∧ n ≤ 200) ∨ (200 < n ∧ n ≤ 300) ∨ 300 < n := by omega
 generalize hv : longB n = v
 unfold longB at hv
 have HV := Lib.hid hv
 clear hv
 rcases hc with h | ⟨h, h'⟩ | ⟨h, h'⟩ | h
 ·have F : Hid (v = false) := Lib.hid (by rw [← HV.out, decide_eq_false (by omega : ¬ 60 < n), decide_eq_false (by omega : ¬ 300 < n)]; rfl)
  clear HV
  have q1 : decide ((60 : Int) < (n : Int)) = false := decide_eq_false (by omega)
  have q3 : decide ((300 : Int) < (n : Int)) = false := decide_eq_false (by omega)
  go_enter Try.func5, Try.ntmps5
  go_wp2_with fail
  all_goals first | (exfalso; omega; done) | (go_ret; refine ⟨ret_bool ?_, NN.out⟩; rw [F.out])
 ·have F : Hid (v = true) := Lib.hid (by rw [← HV.out, decide_eq_true h, decide_eq_true h']; rfl)
  clear HV
  have q1 : decide ((60 : Int) < (n : Int)) = true := decide_eq_true (by omega)
  have q2 : decide ((n : Int) ≤ 200) = true := decide_eq_true (by omega)
  have q3 : decide ((300 : Int) < (n : Int)) = false := decide_eq_false (by omega)
  go_enter Try.func5, Try.ntmps5
  go_wp2_with fail
  all_goals first | (exfalso; omega; done) | (go_ret; refine ⟨ret_bool ?_, NN.out⟩; rw [F.out])
 ·have F : Hid (v = false) := Lib.hid (by rw [← HV.out, decide_eq_false (by omega : ¬ n ≤ 200), decide_eq_false (by omega : ¬ 300 < n)]; simp)
  clear HV
  have q1 : decide ((60 : Int) < (n : Int)) = true := decide_eq_true (by omega)
  have q2 : decide ((n : Int) ≤ 200) = false := decide_eq_false (by omega)
  have q3 : decide ((300 : Int) < (n : Int)) = false := decide_eq_false (by omega)
  go_enter Try.func5, Try.ntmps5
  go_wp2_with fail
  all_goals first | (exfalso; omega; done) | (go_ret; refine ⟨ret_bool ?_, NN.out⟩; rw [F.out])
 ·have F : Hid (v = true) := Lib.hid (by rw [← HV.out, decide_eq_true h]; simp)
  clear HV
  have q1 : decide ((60 : Int) < (n : Int)) = true := decide_eq_true (by omega)
  have q2 : decide ((n : Int) ≤ 200) = false := decide_eq_false (by omega)
  have q3 : decide ((300 : Int) < (n : Int)) = true := decide_eq_true (by omega)
  go_enter Try.func5, Try.ntmps5
  go_wp2_with fail
  all_goals first | (exfalso; omega; done) | (go_ret; refine ⟨ret_bool ?_, NN.out⟩; rw [F.out])
end Go.Proofs.Ytbbnkclajpaghaa
