/- Several texts in one. -/
import Derived.Test.YtbbnkclajpaghaaRows
import Derived.WalkKit
import Derived.WalkSmall
import Derived.ProofKit
import Derived.OpenShut
import Derived.WalkLawsBesides
import Derived.WalkSpells
import Derived.Outline
import Derived.Lib.Hide
import Derived.Deep.QuietTactic
import Derived.BigQuiet
import Derived.RegionTactic
import Derived.Deep.RegionHeld3
import Derived.Deep.DrawnRows
import Derived.Laws.BitsAllLaws
import Derived.StillTailTactics
namespace Go.Proofs.Ytbbnkclajpaghaa.Cxm
set_option linter.unusedVariables false
set_option maxRecDepth 100000
def g2 (a b : Int) : Int := (Int.gcd a b : Nat)
def g3 (a b c : Int) : Int := g2 (g2 a b) c
def fitsB (x : Int) : Bool := decide (-1000000000 ≤ x ∧ x ≤ 1000000000)
def chkB (re im den : Int) : Bool := decide (1 ≤ den ∧ den ≤ 1000000000) && (fitsB re && (fitsB im && decide (g3 re im den = 1)))
def sg (re im den : Int) : Int := if den < 0 then -(g3 re im den) else g3 re im den
theorem g2_nonneg (a b : Int) : 0 ≤ g2 a b := by unfold g2; omega
theorem g3_nonneg (a b c : Int) : 0 ≤ g3 a b c := g2_nonneg _ _
theorem g2_nat (a b : Int) : (g2 a b).natAbs = Nat.gcd a.natAbs b.natAbs := by unfold g2 Int.gcd; omega
theorem g3_nat (a b c : Int) : (g3 a b c).natAbs = Nat.gcd (Nat.gcd a.natAbs b.natAbs) c.natAbs := by unfold g3; rw [g2_nat, g2_nat]
theorem g2_comm (a b : Int) : g2 a b = g2 b a := by unfold g2; rw [Int.gcd_comm]
theorem g2_zero (a : Int) : g2 a 0 = a.natAbs := by unfold g2; simp
theorem g2_step (a b : Int) : g2 b (a.tmod b) = g2 a b := by
 unfold g2 Int.gcd
 rw [Int.natAbs_tmod]
 congr 1
 rw [Nat.gcd_comm, ← Nat.gcd_rec, Nat.gcd_comm]
theorem tmod_bd (a b : Int) (hb : b ≠ 0) : (a.tmod b).natAbs < b.natAbs := by
 rw [Int.natAbs_tmod]; exact Nat.mod_lt _ (by omega)
theorem g2_le {a b : Int} (h : b ≠ 0) : g2 a b ≤ b.natAbs := by
 have e := g2_nat a b
 have n := g2_nonneg a b
 have := Nat.le_of_dvd (by omega) (Nat.gcd_dvd_right a.natAbs b.natAbs)
 omega
theorem g2_bd (a b K : Int) (ha : a.natAbs ≤ K) (hb : b.natAbs ≤ K) : g2 a b ≤ K := by
 by_cases h : b = 0
 ·subst h; rw [g2_zero]; exact ha
 ·have := g2_le (a := a) h; omega
theorem chk_iff {a b c : Int} : chkB a b c = true ↔ (1 ≤ c ∧ c ≤ 1000000000) ∧ (-1000000000 ≤ a ∧ a ≤ 1000000000) ∧ (-1000000000 ≤ b ∧ b ≤ 1000000000) ∧ g3 a b c = 1 := by
 simp [chkB, fitsB]
theorem mul_bd {a b A B : Int} (ha : -A ≤ a) (ha' : a ≤ A) (hb : -B ≤ b) (hb' : b ≤ B) : -(A * B) ≤ a * b ∧ a * b ≤ A * B := by
 have hA : 0 ≤ A := by omega
 have hB : 0 ≤ B := by omega
 have h : (a * b).natAbs ≤ A.natAbs * B.natAbs := by
  rw [Int.natAbs_mul]; exact Nat.mul_le_mul (by omega) (by omega)
 rw [← Int.natAbs_mul] at h
 have : 0 ≤ A * B := Int.mul_nonneg hA hB
 omega
def divR (p2 q2 n2 d2 e2 : Int) : Int × Int × Int × Int :=
 if fitsB (p2 * d2) && (fitsB (q2 * d2) && fitsB (n2 * e2)) then (p2 * d2, q2 * d2, n2 * e2, 0) else (0, 0, 0, 16)
end Go.Proofs.Ytbbnkclajpaghaa.Cxm
namespace Go.Proofs.Ytbbnkclajpaghaa
set_option linter.unusedVariables false
set_option maxRecDepth 100000
def valD (d1 d2 : Int) : Int := (Nat.lcm d1.natAbs d2.natAbs : Nat)
def valO (n1 d1 n2 d2 : Int) : Option (Int × Int × Int) :=
 if valD d1 d2 ≤ 1000000000 ∧ Cxm.chkB (n1 * (valD d1 d2 / d1)) (n2 * (valD d1 d2 / d2)) (valD d1 d2) = true then some (n1 * (valD d1 d2 / d1), n2 * (valD d1 d2 / d2), valD d1 d2) else none
end Go.Proofs.Ytbbnkclajpaghaa
namespace Go.Proofs.Ytbbnkclajpaghaa
open Go.RowKit
theorem blk_lt {w : World} {b : Nat} {o : Obj} (h : w.heap[b]? = some o) : b < w.heap.size := (Array.getElem?_eq_some_iff.1 h).1
theorem blk_next {W w1 : World} (hb : Below W.heap.size W w1) {b : Nat} {o : Obj} (h : W.heap[b]? = some o) : w1.heap[b]? = some o := (hb.block b (blk_lt h)).trans h
theorem blk_alloc {w : World} {b : Nat} {o : Obj} (h : w.heap[b]? = some o) (x : Obj) : (w.alloc x).heap[b]? = some o := (Below.heap_alloc w x b (blk_lt h)).trans h
theorem blk_new (w : World) (x : Obj) : (w.alloc x).heap[w.heap.size]? = some x := heap_alloc_new w x
theorem blk_at {w : World} {b : Nat} (x : Obj) (h : b = w.heap.size) : (w.alloc x).heap[b]? = some x := by rw [h]; exact heap_alloc_new w x
theorem blk_drewN {w : World} {b : Nat} {o : Obj} (h : w.heap[b]? = some o) (n : Nat) : (w.drewN n).heap[b]? = some o := h
theorem blk_cell {w : World} {b : Nat} {cs : Array Value} {t : TypeId} (h : w.heap[b]? = some (.cells cs t)) (o : Nat) (v : Value) (hv : cs[o]? = some v) : w.cell? ⟨b, o, none⟩ = some v := by
 simp [World.cell?, h, hv]
theorem blk_frozen {w : World} {b : Nat} {cs : Array Value} {t : TypeId} (h : w.heap[b]? = some (.cells cs t)) (o : Nat) : w.frozen? ⟨b, o, none⟩ = false := by
 simp [World.frozen?, h]
theorem blk_set {w : World} {b : Nat} {cs : Array Value} {t : TypeId} {fz : Nat × Nat} (h : w.heap[b]? = some (.cells cs t fz)) (o : Nat) (v : Value) : (w.setCell ⟨b, o, none⟩ v).heap[b]? = some (.cells (cs.setIfInBounds o v) t fz) := by
 simp [World.setCell, Array.getElem?_modify, h]
theorem blk_set_other {w : World} {b : Nat} {x : Obj} (h : w.heap[b]? = some x) {b' : Nat} (hne : b' ≠ b) (o : Nat) (v : Value) : (w.setCell ⟨b', o, none⟩ v).heap[b]? = some x := by
 simp [World.setCell, Array.getElem?_modify, h, hne]
theorem Bset1 {w W : World} (h : Below w.heap.size w W) {B : Nat} (hB : w.heap.size ≤ B) (o : Nat) (x : Value) : Below w.heap.size w (W.setCell ⟨B, o, none⟩ x) := h.setCell hB x
end Go.Proofs.Ytbbnkclajpaghaa
namespace Go.Proofs.Ytbbnkclajpaghaa
open Go.ChangeShapes Go.WideShapes Go.ChangeAt Go.RowKit
set_option linter.unusedVariables false
set_option maxRecDepth 100000
theorem Bgo {w W w1 : World} (h : Below w.heap.size w W) (hb : Below W.heap.size W w1) : Below w.heap.size w w1 := h.trans (hb.mono h.size)
theorem Bal {w W : World} (h : Below w.heap.size w W) (o : Obj) : Below w.heap.size w (W.alloc o) := h.alloc h.size o
theorem ret_int {k : IntKind} {a b : Int} (h : a = b) : Ending.returned (.int k a) = .returned (.int k b) := by rw [h]
theorem ret_bool {a b : Bool} (h : a = b) : Ending.returned (.bool a) = .returned (.bool b) := by rw [h]
theorem size_calls (n : Int) (w : World) (h1 : -9223372036854775808 ≤ n) (h2 : n ≤ 9223372036854775807) :
  Calls Try.prog 80 #[.int .i64 n] w fun e w' => e = .returned (.int .u64 (n.natAbs : Int)) ∧ w = w' := by
 by_cases h : n < 0
 ·go_enter Try.func80, Try.ntmps80
  go_wp2
  go_ret
  refine ⟨ret_int ?_, rfl⟩
  rw [IntKind.wrap_u64, IntKind.wrap_u64]; omega
 ·go_enter Try.func80, Try.ntmps80
  go_wp2
  go_ret
  refine ⟨ret_int ?_, rfl⟩
  omega
theorem gcd_calls (x y : Nat) (w : World) (hx : x < 18446744073709551616) (hy : y < 18446744073709551616) :
  Calls Try.prog 81 #[.int .u64 x, .int .u64 y] w fun e w' => e = .returned (.int .u64 (Nat.gcd x y)) ∧ ∃ n, w' = w.drewN n := by
 generalize hg : Nat.gcd x y = g
 have HG := Lib.hid hg
 clear hg
 go_enter Try.func81, Try.ntmps81
 go_wp2_with fail
 go_loopw [0, 1] (fun a b wr => ∃ u v n : Nat, u < 18446744073709551616 ∧ v < 18446744073709551616 ∧ a = .int .u64 u ∧ b = .int .u64 v ∧ Hid (Nat.gcd u v = g) ∧ wr = w.drewN n) (fun _ b _ => (intOf b).toNat)
 case atStart => exact ⟨x, y, 0, hx, hy, rfl, rfl, HG, rfl⟩
 case round =>
  obtain ⟨u, v, n, hu, hv, rfl, rfl, HE, rfl⟩ := hrel
  by_cases hv0 : v = 0
  ·subst hv0
   go_wp2_with fail
   go_ret
   refine ⟨ret_int ?_, n, rfl⟩
   rw [← HE.out]; simp
  ·have q1 : ((v : Int) != 0) = true := by rw [bne_iff_ne]; omega
   have q2 : (0 : Int) < (v : Int) := by omega
   have q3 : ¬ ((v : Int) = 0) := by omega
   have hlt : u % v < v := Nat.mod_lt _ (by omega)
   have HR : Hid (Nat.gcd v (u % v) = g) := Lib.hid (by rw [← HE.out, Nat.gcd_comm u v, Nat.gcd_rec v u, Nat.gcd_comm])
   go_wp2_with fail
   go_quiet (fail)
   go_wp2_with fail
   refine ⟨⟨v, u % v, n + nq, hv, by omega, rfl, by rw [Int.natCast_emod], HR, by rw [World.drewN_drewN]⟩, ?_⟩
   show ((u : Int) % (v : Int)).toNat < ((v : Int)).toNat
   rw [← Int.natCast_emod, Int.toNat_natCast, Int.toNat_natCast]
   exact hlt
theorem refGcd_calls (x y : Nat) (w : World) (hx : x < 18446744073709551616) (hy : y < 18446744073709551616) :
  Calls Try.prog 69 #[.int .u64 x, .int .u64 y] w fun e w' => e = .returned (.int .u64 (Nat.gcd x y)) ∧ ∃ n, w' = w.drewN n := by
 generalize hg : Nat.gcd x y = g
 have HG := Lib.hid hg
 clear hg
 go_enter Try.func69, Try.ntmps69
 go_wp2_with fail
 go_loopw [0, 1] (fun a b wr => ∃ u v n : Nat, u < 18446744073709551616 ∧ v < 18446744073709551616 ∧ a = .int .u64 u ∧ b = .int .u64 v ∧ Hid (Nat.gcd u v = g) ∧ wr = w.drewN n) (fun _ b _ => (intOf b).toNat)
 case atStart => exact ⟨x, y, 0, hx, hy, rfl, rfl, HG, rfl⟩
 case round =>
  obtain ⟨u, v, n, hu, hv, rfl, rfl, HE, rfl⟩ := hrel
  by_cases hv0 : v = 0
  ·subst hv0
   go_wp2_with fail
   go_ret
   refine ⟨ret_int ?_, n, rfl⟩
   rw [← HE.out]; simp
  ·have q1 : ((v : Int) != 0) = true := by rw [bne_iff_ne]; omega
   have q2 : (0 : Int) < (v : Int) := by omega
   have q3 : ¬ ((v : Int) = 0) := by omega
   have hlt : u % v < v := Nat.mod_lt _ (by omega)
   have HR : Hid (Nat.gcd v (u % v) = g) := Lib.hid (by rw [← HE.out, Nat.gcd_comm u v, Nat.gcd_rec v u, Nat.gcd_comm])
   go_wp2_with fail
   go_quiet (fail)
   go_wp2_with fail
   refine ⟨⟨v, u % v, n + nq, hv, by omega, rfl, by rw [Int.natCast_emod], HR, by rw [World.drewN_drewN]⟩, ?_⟩
   show ((u : Int) % (v : Int)).toNat < ((v : Int)).toNat
   rw [← Int.natCast_emod, Int.toNat_natCast, Int.toNat_natCast]
   exact hlt
theorem abs_calls (n : Int) (w : World) (h1 : -9223372036854775808 ≤ n) (h2 : n ≤ 9223372036854775807) :
  Calls Try.prog 70 #[.int .i64 n] w fun e w' => e = .returned (.int .u64 (n.natAbs : Int)) ∧ w = w' := by
 by_cases h : 0 ≤ n
 ·go_enter Try.func70, Try.ntmps70
  go_wp2
  go_ret
  refine ⟨ret_int ?_, rfl⟩
  omega
 ·go_enter Try.func70, Try.ntmps70
  go_wp2
  go_ret
  refine ⟨ret_int ?_, rfl⟩
  first | omega | (simp only [IntKind.wrap_u64]; omega)
end Go.Proofs.Ytbbnkclajpaghaa
namespace Go.Proofs.Ytbbnkclajpaghaa
open Go.ChangeShapes Go.WideShapes Go.ChangeAt Go.RowKit
set_option linter.unusedVariables false
set_option maxRecDepth 100000
attribute [local go_sem ↓] Go.wp_at_zero Go.wp_at_succ
theorem quiet_left {P : Program} {f : FuncId} {args : Array Value} {w : World} {n : Nat} {v : Value}
  (h : Calls P f args (w.drewN n) fun e w' => e = .returned v ∧ w.drewN n = w') : Calls P f args (w.drewN n) fun e w'' => e = .returned v ∧ ∃ m, w'' = w.drewN m :=
 h.mono fun _ _ ⟨he, hm⟩ => ⟨he, n, hm.symm⟩
theorem quiet_more {P : Program} {f : FuncId} {args : Array Value} {w : World} {n : Nat} {v : Value}
  (h : Calls P f args (w.drewN n) fun e w' => e = .returned v ∧ ∃ m, w' = (w.drewN n).drewN m) : Calls P f args (w.drewN n) fun e w'' => e = .returned v ∧ ∃ m, w'' = w.drewN m :=
 h.mono fun _ _ ⟨he, m, hm⟩ => ⟨he, n + m, by rw [hm, World.drewN_drewN]⟩
theorem below_drewN {B : Nat} {a w : World} (h : Below B a w) (n : Nat) : Below B a (w.drewN n) := ⟨h.os, h.tape, h.output, h.size, h.block⟩
abbrev Fv (n d : Int) : Value := .agg #[.int .i64 n, .int .i64 d]
def okF (n d : Int) : Bool := decide (1 ≤ d ∧ d ≤ 1000000000000000000 ∧ -1000000000000000000 ≤ n ∧ n ≤ 1000000000000000000) && (Nat.gcd n.natAbs d.natAbs == 1)
def errF (n d : Int) : Int := if okF n d then 0 else 8
theorem errF_out {n d : Int} (h : ¬ (1 ≤ d ∧ d ≤ 1000000000000000000 ∧ -1000000000000000000 ≤ n ∧ n ≤ 1000000000000000000)) : errF n d = 8 := by
 unfold errF okF; rw [decide_eq_false h]; rfl
theorem errF_in {n d : Int} (h : 1 ≤ d ∧ d ≤ 1000000000000000000 ∧ -1000000000000000000 ≤ n ∧ n ≤ 1000000000000000000) : errF n d = if (Nat.gcd n.natAbs d.natAbs == 1) then 0 else 8 := by
 unfold errF okF; rw [decide_eq_true h]; rfl
set_option maxHeartbeats 2000000 in
theorem fcheck_calls (n d : Int) (w : World) :
  Calls Try.prog 88 #[Fv n d] w fun e w' => e = .returned (.int .i64 (errF n d)) ∧ Below w.heap.size w w' := by
 by_cases hin : 1 ≤ d ∧ d ≤ 1000000000000000000 ∧ -1000000000000000000 ≤ n ∧ n ≤ 1000000000000000000
 ·have F := Lib.hid (errF_in hin)
  generalize errF n d = v at *
  obtain ⟨h1, h2, h3, h4⟩ := hin
  obtain ⟨g, hg⟩ : ∃ g : Nat, Nat.gcd n.natAbs d.natAbs = g := ⟨_, rfl⟩
  have GC : Hid (∀ W : World, Calls Try.prog 81 #[.int .u64 (n.natAbs : Int), .int .u64 (d.natAbs : Int)] W fun e w' => e = .returned (.int .u64 (g : Int)) ∧ ∃ m, w' = W.drewN m) := Lib.hid (fun W => by
   have := gcd_calls n.natAbs d.natAbs W (by omega) (by omega)
   rw [hg] at this; exact this)
  rw [hg] at F
  clear hg
  by_cases hg1 : g = 1
  ·have F2 : Hid (v = 0) := Lib.hid (by rw [F.out, hg1]; rfl)
   have q : ((g : Int) != 1) = false := by rw [hg1]; rfl
   clear hg1 F
   go_enter Try.func88, Try.ntmps88
   go_wp2_with fail
   go_quiet ((first | (go_at_call 80; exact quiet_left (size_calls _ _ (by omega) (by omega))) | (go_at_call 81; exact quiet_more (GC.out _))))
   go_wp2_with fail
   go_ret
   exact ⟨ret_int F2.out.symm, below_drewN (Bal (Below.refl _ _) _) _⟩
  ·have F2 : Hid (v = 8) := Lib.hid (by rw [F.out, if_neg (by simpa using hg1)])
   have q : ((g : Int) != 1) = true := by rw [bne_iff_ne]; omega
   clear hg1 F
   go_enter Try.func88, Try.ntmps88
   go_wp2_with fail
   go_quiet ((first | (go_at_call 80; exact quiet_left (size_calls _ _ (by omega) (by omega))) | (go_at_call 81; exact quiet_more (GC.out _))))
   go_wp2_with fail
   go_ret
   exact ⟨ret_int F2.out.symm, below_drewN (Bal (Below.refl _ _) _) _⟩
 ·have F := Lib.hid (errF_out hin)
  generalize errF n d = v at *
  have hc : d < 1 ∨ (1 ≤ d ∧ 1000000000000000000 < d) ∨ (1 ≤ d ∧ d ≤ 1000000000000000000 ∧ n < -1000000000000000000) ∨ (1 ≤ d ∧ d ≤ 1000000000000000000 ∧ -1000000000000000000 ≤ n ∧ 1000000000000000000 < n) := by omega
  clear hin
  rcases hc with h | ⟨h, h'⟩ | ⟨h, h', h''⟩ | ⟨h, h', h'', h3⟩
  all_goals
   go_enter Try.func88, Try.ntmps88
   go_wp2_with fail
   go_ret
   exact ⟨ret_int F.out.symm, Bal (Below.refl _ _) _⟩
end Go.Proofs.Ytbbnkclajpaghaa
namespace Go.Proofs.Ytbbnkclajpaghaa
open Go.ChangeShapes Go.WideShapes Go.ChangeAt Go.RowKit
set_option linter.unusedVariables false
set_option maxRecDepth 100000
attribute [local go_sem ↓] Go.wp_at_zero Go.wp_at_succ
set_option maxHeartbeats 4000000 in
theorem refCheck_calls (n d : Int) (w : World) :
  Calls Try.prog 87 #[Fv n d] w fun e w' => e = .returned (.int .i64 (errF n d)) ∧ Below w.heap.size w w' := by
 by_cases hin : 1 ≤ d ∧ d ≤ 1000000000000000000 ∧ -1000000000000000000 ≤ n ∧ n ≤ 1000000000000000000
 ·have F := Lib.hid (errF_in hin)
  generalize errF n d = v at *
  obtain ⟨h1, h2, h3, h4⟩ := hin
  obtain ⟨g, hg⟩ : ∃ g : Nat, Nat.gcd n.natAbs d.natAbs = g := ⟨_, rfl⟩
  have GC : Hid (∀ W : World, Calls Try.prog 69 #[.int .u64 (n.natAbs : Int), .int .u64 d] W fun e w' => e = .returned (.int .u64 (g : Int)) ∧ ∃ m, w' = W.drewN m) := Lib.hid (fun W => by
   have := refGcd_calls n.natAbs d.natAbs W (by omega) (by omega)
   rw [hg, show ((d.natAbs : Nat) : Int) = d by omega] at this; exact this)
  rw [hg] at F
  clear hg
  have k1 : decide (d < 1) = false := by simp; omega
  have k2 : decide (1000000000000000000 < d) = false := by simp; omega
  have k3 : decide (n < -1000000000000000000) = false := by simp; omega
  have k4 : decide (1000000000000000000 < n) = false := by simp; omega
  have hw1 : IntKind.u64.wrap d = d := by rw [IntKind.wrap_u64]; omega
  by_cases hg1 : g = 1
  ·have F2 : Hid (v = 0) := Lib.hid (by rw [F.out, hg1]; rfl)
   have q : ((g : Int) != 1) = false := by rw [hg1]; rfl
   clear hg1 F
   go_enter Try.func87, Try.ntmps87
   go_wp2_with fail
   go_quiet ((first | (go_at_call 70; exact quiet_left (abs_calls _ _ (by omega) (by omega))) | (go_at_call 69; exact quiet_more (GC.out _))))
   go_wp2_with fail
   go_ret
   exact ⟨ret_int F2.out.symm, below_drewN (Bal (Below.refl _ _) _) _⟩
  ·have F2 : Hid (v = 8) := Lib.hid (by rw [F.out, if_neg (by simpa using hg1)])
   have q : ((g : Int) != 1) = true := by rw [bne_iff_ne]; omega
   clear hg1 F
   go_enter Try.func87, Try.ntmps87
   go_wp2_with fail
   go_quiet ((first | (go_at_call 70; exact quiet_left (abs_calls _ _ (by omega) (by omega))) | (go_at_call 69; exact quiet_more (GC.out _))))
   go_wp2_with fail
   go_ret
   exact ⟨ret_int F2.out.symm, below_drewN (Bal (Below.refl _ _) _) _⟩
 ·have F := Lib.hid (errF_out hin)
  generalize errF n d = v at *
  have hc : decide (d < 1) = true ∨ (decide (d < 1) = false ∧ decide (1000000000000000000 < d) = true) ∨ (decide (d < 1) = false ∧ decide (1000000000000000000 < d) = false ∧ decide (n < -1000000000000000000) = true) ∨ (decide (d < 1) = false ∧ decide (1000000000000000000 < d) = false ∧ decide (n < -1000000000000000000) = false ∧ decide (1000000000000000000 < n) = true) := by
   simp only [decide_eq_true_eq, decide_eq_false_iff_not]; omega
  clear hin
  rcases hc with h | ⟨h, h'⟩ | ⟨h, h', h''⟩ | ⟨h, h', h'', h3⟩
  all_goals
   go_enter Try.func87, Try.ntmps87
   go_wp2_with fail
   go_quiet (fail)
   go_wp2_with fail
   go_ret
   exact ⟨ret_int F.out.symm, below_drewN (Bal (Below.refl _ _) _) _⟩
def errB (an ad bn bd : Int) : Int := if errF an ad ≠ 0 then errF an ad else errF bn bd
theorem blk1 (w : World) (x y : Obj) : ((w.alloc x).alloc y).heap[w.heap.size]? = some x := blk_alloc (blk_new w x) y
theorem blk2 (w : World) (x y : Obj) : ((w.alloc x).alloc y).heap[w.heap.size + 1]? = some y := blk_at y (by simp)
set_option maxHeartbeats 1000000 in
theorem both_calls (an ad bn bd : Int) (w : World) :
  Calls Try.prog 83 #[Fv an ad, Fv bn bd] w fun e w' => e = .returned (.int .i64 (errB an ad bn bd)) ∧ Below w.heap.size w w' := by
 have F : Hid (errB an ad bn bd = if errF an ad ≠ 0 then errF an ad else errF bn bd) := Lib.hid rfl
 have C1 := Lib.hid (fcheck_calls an ad)
 have C2 := Lib.hid (fcheck_calls bn bd)
 generalize errB an ad bn bd = v at *
 generalize errF an ad = e1 at *
 generalize errF bn bd = e2 at *
 by_cases h : e1 = 0
 ·subst h
  go_enter Try.func83, Try.ntmps83
  go_wp2_with fail
  refine (C1.out _).mono ?_
  rintro e w1 ⟨rfl, hb⟩
  have X := Lib.hid (blk_next hb (blk2 w _ _))
  have x0 : w1.cell? ⟨w.heap.size + 1, 0, none⟩ = some (.int .i64 bn) := blk_cell X.out 0 _ rfl
  have x1 : w1.cell? ⟨w.heap.size + 1, 1, none⟩ = some (.int .i64 bd) := blk_cell X.out 1 _ rfl
  have N1 : Hid (Below w.heap.size w w1) := Lib.hid (Bgo (Bal (Bal (Below.refl _ _) _) _) hb)
  clear hb
  go_wp2_with fail
  refine (C2.out _).mono ?_
  rintro e w2 ⟨rfl, hb⟩
  have N2 : Hid (Below w.heap.size w w2) := Lib.hid (Bgo N1.out hb)
  clear hb
  go_wp2_with fail
  go_ret
  exact ⟨ret_int (by rw [F.out]; simp), N2.out⟩
 ·have hne : (e1 != 0) = true := by simpa using h
  go_enter Try.func83, Try.ntmps83
  go_wp2_with fail
  refine (C1.out _).mono ?_
  rintro e w1 ⟨rfl, hb⟩
  have N1 : Hid (Below w.heap.size w w1) := Lib.hid (Bgo (Bal (Bal (Below.refl _ _) _) _) hb)
  clear hb
  go_wp2_with fail
  go_ret
  exact ⟨ret_int (by rw [F.out, if_pos h]), N1.out⟩
set_option maxHeartbeats 1000000 in
theorem refBoth_calls (an ad bn bd : Int) (w : World) :
  Calls Try.prog 73 #[Fv an ad, Fv bn bd] w fun e w' => e = .returned (.int .i64 (errB an ad bn bd)) ∧ Below w.heap.size w w' := by
 have F : Hid (errB an ad bn bd = if errF an ad ≠ 0 then errF an ad else errF bn bd) := Lib.hid rfl
 have C1 := Lib.hid (refCheck_calls an ad)
 have C2 := Lib.hid (refCheck_calls bn bd)
 generalize errB an ad bn bd = v at *
 generalize errF an ad = e1 at *
 generalize errF bn bd = e2 at *
 by_cases h : e1 = 0
 ·subst h
  go_enter Try.func73, Try.ntmps73
  go_wp2_with fail
  refine (C1.out _).mono ?_
  rintro e w1 ⟨rfl, hb⟩
  have X := Lib.hid (blk_next hb (blk2 w _ _))
  have x0 : w1.cell? ⟨w.heap.size + 1, 0, none⟩ = some (.int .i64 bn) := blk_cell X.out 0 _ rfl
  have x1 : w1.cell? ⟨w.heap.size + 1, 1, none⟩ = some (.int .i64 bd) := blk_cell X.out 1 _ rfl
  have N1 : Hid (Below w.heap.size w w1) := Lib.hid (Bgo (Bal (Bal (Below.refl _ _) _) _) hb)
  clear hb
  go_wp2_with fail
  refine (C2.out _).mono ?_
  rintro e w2 ⟨rfl, hb⟩
  have N2 : Hid (Below w.heap.size w w2) := Lib.hid (Bgo N1.out hb)
  clear hb
  go_wp2_with fail
  go_ret
  exact ⟨ret_int (by rw [F.out]; simp), N2.out⟩
 ·have hne : (e1 != 0) = true := by simpa using h
  go_enter Try.func73, Try.ntmps73
  go_wp2_with fail
  refine (C1.out _).mono ?_
  rintro e w1 ⟨rfl, hb⟩
  have X := Lib.hid (blk_next hb (blk1 w _ _))
  have x0 : w1.cell? ⟨w.heap.size, 0, none⟩ = some (.int .i64 an) := blk_cell X.out 0 _ rfl
  have x1 : w1.cell? ⟨w.heap.size, 1, none⟩ = some (.int .i64 ad) := blk_cell X.out 1 _ rfl
  have N1 : Hid (Below w.heap.size w w1) := Lib.hid (Bgo (Bal (Bal (Below.refl _ _) _) _) hb)
  clear hb
  go_wp2_with fail
  refine (C1.out _).mono ?_
  rintro e w2 ⟨rfl, hb⟩
  have N2 : Hid (Below w.heap.size w w2) := Lib.hid (Bgo N1.out hb)
  clear hb
  go_wp2_with fail
  go_ret
  exact ⟨ret_int (by rw [F.out, if_pos h]), N2.out⟩
end Go.Proofs.Ytbbnkclajpaghaa
namespace Go.Proofs.Ytbbnkclajpaghaa
open Go.ChangeShapes Go.WideShapes Go.ChangeAt Go.RowKit
set_option linter.unusedVariables false
set_option maxRecDepth 100000
attribute [local go_sem ↓] Go.wp_at_zero Go.wp_at_succ
abbrev Rv (r : Int × Int × Int) : Value := .tuple #[Fv r.1 r.2.1, .int .i64 r.2.2]
def lowF (neg : Bool) (n d : Nat) : Int × Int × Int := if 1000000000000000000 < n ∨ 1000000000000000000 < d then (0, 0, 16) else (if neg then -(n : Int) else (n : Int), (d : Int), 0)
set_option maxHeartbeats 1000000 in
theorem build_calls (neg : Bool) (n d : Nat) (w : World) (hn : n < 18446744073709551616) (hd : d < 18446744073709551616) :
  Calls Try.prog 82 #[.bool neg, .int .u64 n, .int .u64 d] w fun e w' => e = .returned (Rv (lowF neg n d)) ∧ Below w.heap.size w w' := by
 have hv : (1000000000000000000 < n ∨ 1000000000000000000 < d) ∨ (n ≤ 1000000000000000000 ∧ d ≤ 1000000000000000000) := by omega
 rcases hv with h | ⟨h, h'⟩
 ·have F : Hid (lowF neg n d = (0, 0, 16)) := Lib.hid (by unfold lowF; rw [if_pos h])
  generalize lowF neg n d = v at *
  rcases h with h | h
  ·go_enter Try.func82, Try.ntmps82
   go_wp2_with fail
   refine bodyPost_ret (v := .tuple #[Fv 0 0, .int .i64 16]) (by simp [results, Try.results82, go_sem]) rfl ⟨by rw [F.out], ?_⟩
   repeat (first | exact Below.refl _ _ | refine Bal ?_ _ | refine Bset1 ?_ (by simp) _ _)
  ·have h9 : n ≤ 1000000000000000000 ∨ 1000000000000000000 < n := by omega
   rcases h9 with h9 | h9
   all_goals
    go_enter Try.func82, Try.ntmps82
    go_wp2_with fail
    refine bodyPost_ret (v := .tuple #[Fv 0 0, .int .i64 16]) (by simp [results, Try.results82, go_sem]) rfl ⟨by rw [F.out], ?_⟩
    repeat (first | exact Below.refl _ _ | refine Bal ?_ _ | refine Bset1 ?_ (by simp) _ _)
 ·have F : Hid (lowF neg n d = (if neg then -(n : Int) else (n : Int), (d : Int), 0)) := Lib.hid (by unfold lowF; rw [if_neg (by omega)])
  generalize lowF neg n d = v at *
  cases neg
  ·go_enter Try.func82, Try.ntmps82
   go_wp2_with fail
   refine bodyPost_ret (v := .tuple #[Fv n d, .int .i64 0]) (by simp [results, Try.results82, go_sem]) rfl ⟨by rw [F.out]; rfl, ?_⟩
   repeat (first | exact Below.refl _ _ | refine Bal ?_ _ | refine Bset1 ?_ (by simp) _ _)
  ·go_enter Try.func82, Try.ntmps82
   go_wp2_with fail
   refine bodyPost_ret (v := .tuple #[Fv (-(n : Int)) d, .int .i64 0]) (by simp [results, Try.results82, go_sem]) rfl ⟨by rw [F.out]; rfl, ?_⟩
   repeat (first | exact Below.refl _ _ | refine Bal ?_ _ | refine Bset1 ?_ (by simp) _ _)
theorem and32 (n : Nat) (hn : n < 18446744073709551616) : bits .and .u64 (n : Int) 4294967295 = ((n % 4294967296 : Nat) : Int) := by
 have := u64_and_nat n 4294967295 hn (by omega)
 rw [show ((4294967295 : Nat) : Int) = 4294967295 from rfl] at this
 rw [this]
 congr 1
 exact Nat.and_two_pow_sub_one_eq_mod n 32
set_option maxHeartbeats 1000000 in
theorem big_calls (n : Nat) (w : World) (hn : n < 18446744073709551616) :
  Calls Try.prog 72 #[.int .u64 n] w fun e w' => e = .returned (.agg #[.int .u64 (n % 4294967296 : Nat), .int .u64 (n / 4294967296 : Nat), .int .u64 0, .int .u64 0]) ∧ Below w.heap.size w w' := by
 go_enter Try.func72, Try.ntmps72
 go_wp2_with fail
 refine bodyPost_ret (v := .agg #[.int .u64 (bits .and .u64 (n : Int) 4294967295), .int .u64 ((n : Int) / 4294967296), .int .u64 0, .int .u64 0]) (by simp [results, Try.results72, go_sem]) rfl ⟨?_, Bal (Below.refl _ _) _⟩
 rw [and32 n hn, Int.natCast_ediv]; rfl
theorem or32 (a b : Nat) (ha : a < 4294967296) (hb : b < 4294967296) : bits .or .u64 ((b : Int) * 4294967296) (a : Int) = ((b * 4294967296 + a : Nat) : Int) := by
 have h := u64_or_nat (b * 4294967296) a (by omega) (by omega)
 rw [show (((b * 4294967296 : Nat) : Nat) : Int) = (b : Int) * 4294967296 by omega] at h
 rw [h]
 congr 1
 have h2 := Nat.shiftLeft_add_eq_or_of_lt (i := 32) (b := a) (by omega) b
 rw [Nat.shiftLeft_eq] at h2
 exact h2.symm
theorem and63 (n : Nat) (hn : n < 18446744073709551616) : bits .and .u64 (n : Int) 9223372036854775807 = ((n % 9223372036854775808 : Nat) : Int) := by
 have := u64_and_nat n 9223372036854775807 hn (by omega)
 rw [show ((9223372036854775807 : Nat) : Int) = 9223372036854775807 from rfl] at this
 rw [this]
 congr 1
 exact Nat.and_two_pow_sub_one_eq_mod n 63
set_option maxHeartbeats 1000000 in
theorem small_calls (a b c d : Nat) (w : World) (ha : a < 4294967296) (hb : b < 4294967296) :
  Calls Try.prog 86 #[.agg #[.int .u64 a, .int .u64 b, .int .u64 c, .int .u64 d]] w fun e w' => e = .returned (.tuple #[.int .i64 ((b * 4294967296 + a) % 9223372036854775808 : Nat), .bool (decide (c = 0) && (decide (d = 0) && decide (b * 4294967296 + a ≤ 1000000000000000000)))]) ∧ Below w.heap.size w w' := by
 have ho := or32 a b ha hb
 obtain ⟨v, hv⟩ : ∃ v : Nat, b * 4294967296 + a = v := ⟨_, rfl⟩
 have hvb : v < 18446744073709551616 := by omega
 rw [hv] at ho ⊢
 have hn := and63 v hvb
 have hm : v % 9223372036854775808 < 9223372036854775808 := Nat.mod_lt _ (by omega)
 clear hv
 obtain ⟨m, hme⟩ : ∃ m : Nat, v % 9223372036854775808 = m := ⟨_, rfl⟩
 rw [hme] at hn hm ⊢
 clear hme
 have hw : wrap64 (m : Int) = (m : Int) := IntWalk.wrap64_in _ ⟨by omega, by omega⟩
 by_cases hc : c = 0
 ·subst hc
  by_cases hd : d = 0
  ·subst hd
   go_enter Try.func86, Try.ntmps86
   go_wp2_with fail
   go_ret2
   exact ⟨by simp; omega, Bal (Below.refl _ _) _⟩
  ·have q : ((d : Int) == 0) = false := by simpa using hd
   have q2 : decide (d = 0) = false := by simpa using hd
   go_enter Try.func86, Try.ntmps86
   go_wp2_with fail
   go_ret2
   exact ⟨by simp [q2], Bal (Below.refl _ _) _⟩
 ·have q : ((c : Int) == 0) = false := by simpa using hc
  have q2 : decide (c = 0) = false := by simpa using hc
  go_enter Try.func86, Try.ntmps86
  go_wp2_with fail
  go_ret2
  exact ⟨by simp [q2], Bal (Below.refl _ _) _⟩
end Go.Proofs.Ytbbnkclajpaghaa
namespace Go.Proofs.Ytbbnkclajpaghaa
open Go.ChangeShapes Go.WideShapes Go.ChangeAt Go.RowKit
set_option linter.unusedVariables false
set_option maxRecDepth 100000
attribute [local go_sem ↓] Go.wp_at_zero Go.wp_at_succ
def bigN (a b c d : Nat) : Nat := a + 4294967296 * (b + 4294967296 * (c + 4294967296 * d))
abbrev Bv (a b c d : Nat) : Value := .agg #[.int .u64 a, .int .u64 b, .int .u64 c, .int .u64 d]
theorem blk3c (w : World) (x y z : Obj) : (((w.alloc x).alloc y).alloc z).heap[w.heap.size + 1 + 1]? = some z := blk_at z (by simp)
theorem blk3b (w : World) (x y z : Obj) : (((w.alloc x).alloc y).alloc z).heap[w.heap.size + 1]? = some y := blk_alloc (blk_at y (by simp)) z
theorem big_le {a b c d : Nat} (ha : a < 4294967296) (hb : b < 4294967296) : (decide (c = 0) && (decide (d = 0) && decide (b * 4294967296 + a ≤ 1000000000000000000))) = decide (bigN a b c d ≤ 1000000000000000000) := by
 rw [Bool.eq_iff_iff, Bool.and_eq_true, Bool.and_eq_true, decide_eq_true_eq, decide_eq_true_eq, decide_eq_true_eq, decide_eq_true_eq]
 unfold bigN
 omega
theorem big_mod {a b c d : Nat} (ha : a < 4294967296) (hb : b < 4294967296) (h : bigN a b c d ≤ 1000000000000000000) : (b * 4294967296 + a) % 9223372036854775808 = bigN a b c d := by
 unfold bigN at *; omega
set_option maxHeartbeats 2000000 in
theorem lowest_calls (neg : Bool) (a b c d a' b' c' d' : Nat) (w : World) (ha : a < 4294967296) (hb : b < 4294967296) (ha' : a' < 4294967296) (hb' : b' < 4294967296) :
  Calls Try.prog 71 #[.bool neg, Bv a b c d, Bv a' b' c' d'] w fun e w' => e = .returned (Rv (lowF neg (bigN a b c d) (bigN a' b' c' d'))) ∧ Below w.heap.size w w' := by
 have C1 := Lib.hid (fun W => small_calls a b c d W ha hb)
 have C2 := Lib.hid (fun W => small_calls a' b' c' d' W ha' hb')
 rw [big_le ha hb] at C1
 rw [big_le ha' hb'] at C2
 have M1 := Lib.hid (fun h => big_mod (c := c) (d := d) ha hb h)
 have M2 := Lib.hid (fun h => big_mod (c := c') (d := d') ha' hb' h)
 have F : Hid (lowF neg (bigN a b c d) (bigN a' b' c' d') = if 1000000000000000000 < bigN a b c d ∨ 1000000000000000000 < bigN a' b' c' d' then (0, 0, 16) else (if neg then -((bigN a b c d : Nat) : Int) else ((bigN a b c d : Nat) : Int), ((bigN a' b' c' d' : Nat) : Int), 0)) := Lib.hid rfl
 generalize lowF neg (bigN a b c d) (bigN a' b' c' d') = v at *
 generalize bigN a b c d = x at *
 generalize bigN a' b' c' d' = y at *
 have hm1 : (b * 4294967296 + a) % 9223372036854775808 < 9223372036854775808 := Nat.mod_lt _ (by omega)
 have hm2 : (b' * 4294967296 + a') % 9223372036854775808 < 9223372036854775808 := Nat.mod_lt _ (by omega)
 obtain ⟨m, em⟩ : ∃ m, (b * 4294967296 + a) % 9223372036854775808 = m := ⟨_, rfl⟩
 obtain ⟨m', em'⟩ : ∃ m, (b' * 4294967296 + a') % 9223372036854775808 = m := ⟨_, rfl⟩
 rw [em] at C1 M1 hm1
 rw [em'] at C2 M2 hm2
 clear em em'
 have cases4 : 1000000000000000000 < x ∨ (x ≤ 1000000000000000000 ∧ 1000000000000000000 < y) ∨ (x ≤ 1000000000000000000 ∧ y ≤ 1000000000000000000) := by omega
 rcases cases4 with h | ⟨h, h'⟩ | ⟨h, h'⟩
 ·have q1 : decide (x ≤ 1000000000000000000) = false := by simp; omega
  have F2 : Hid (v = (0, 0, 16)) := Lib.hid (by rw [F.out, if_pos (.inl h)])
  rw [q1] at C1
  clear q1 M1 M2 F
  go_enter Try.func71, Try.ntmps71
  go_wp2_with fail
  refine (C1.out _).mono ?_
  rintro e w1 ⟨rfl, hb1⟩
  have X1 := Lib.hid (blk_next hb1 (blk3b w _ _ _))
  have Z1 : Hid (w1.heap[w.heap.size + 1 + 1]? = some (.cells #[.int .i64 0, .int .i64 0] 80)) := Lib.hid (blk_next hb1 (blk3c w _ _ _))
  have N1 : Hid (Below w.heap.size w w1) := Lib.hid (Bgo (Bal (Bal (Bal (Below.refl _ _) _) _) _) hb1)
  have x0 : w1.cell? ⟨w.heap.size + 1, 0, none⟩ = some (.int .u64 a') := blk_cell X1.out 0 _ rfl
  have x1 : w1.cell? ⟨w.heap.size + 1, 1, none⟩ = some (.int .u64 b') := blk_cell X1.out 1 _ rfl
  have x2 : w1.cell? ⟨w.heap.size + 1, 2, none⟩ = some (.int .u64 c') := blk_cell X1.out 2 _ rfl
  have x3 : w1.cell? ⟨w.heap.size + 1, 3, none⟩ = some (.int .u64 d') := blk_cell X1.out 3 _ rfl
  clear hb1
  go_wp2_with fail
  clear x0 x1 x2 x3
  refine (C2.out _).mono ?_
  rintro e w2 ⟨rfl, hb2⟩
  have Z2 := Lib.hid (blk_next hb2 Z1.out)
  have N2 : Hid (Below w.heap.size w w2) := Lib.hid (Bgo N1.out hb2)
  clear hb2 Z1 N1 X1
  have z0 : w2.cell? ⟨w.heap.size + 1 + 1, 0, none⟩ = some (.int .i64 0) := blk_cell Z2.out 0 _ rfl
  have z1 : w2.cell? ⟨w.heap.size + 1 + 1, 1, none⟩ = some (.int .i64 0) := blk_cell Z2.out 1 _ rfl
  have f0 : w2.frozen? ⟨w.heap.size + 1 + 1, 0, none⟩ = false := blk_frozen Z2.out 0
  have f1 : w2.frozen? ⟨w.heap.size + 1 + 1, 1, none⟩ = false := blk_frozen Z2.out 1
  go_wp2_with fail
  have e1 : ((w2.setCell ⟨w.heap.size + 1 + 1, 0, none⟩ (.int .i64 0)).setCell ⟨w.heap.size + 1 + 1, 1, none⟩ (.int .i64 0)).cell? ⟨w.heap.size + 1 + 1, 0, none⟩ = some (.int .i64 0) := blk_cell (blk_set (blk_set Z2.out 0 _) 1 _) 0 _ rfl
  have e2 : ((w2.setCell ⟨w.heap.size + 1 + 1, 0, none⟩ (.int .i64 0)).setCell ⟨w.heap.size + 1 + 1, 1, none⟩ (.int .i64 0)).cell? ⟨w.heap.size + 1 + 1, 1, none⟩ = some (.int .i64 0) := blk_cell (blk_set (blk_set Z2.out 0 _) 1 _) 1 _ rfl
  refine bodyPost_ret (v := .tuple #[Fv 0 0, .int .i64 16]) (by simp [results, Try.results71, go_sem, e1, e2]) rfl ⟨by rw [F2.out], Bset1 (Bset1 N2.out (by omega) _ _) (by omega) _ _⟩
 ·have q1 : decide (x ≤ 1000000000000000000) = true := by simp; omega
  have q2 : decide (y ≤ 1000000000000000000) = false := by simp; omega
  have F2 : Hid (v = (0, 0, 16)) := Lib.hid (by rw [F.out, if_pos (.inr h')])
  rw [q1] at C1
  rw [q2] at C2
  clear q1 q2 M1 M2 F
  go_enter Try.func71, Try.ntmps71
  go_wp2_with fail
  refine (C1.out _).mono ?_
  rintro e w1 ⟨rfl, hb1⟩
  have X1 := Lib.hid (blk_next hb1 (blk3b w _ _ _))
  have Z1 : Hid (w1.heap[w.heap.size + 1 + 1]? = some (.cells #[.int .i64 0, .int .i64 0] 80)) := Lib.hid (blk_next hb1 (blk3c w _ _ _))
  have N1 : Hid (Below w.heap.size w w1) := Lib.hid (Bgo (Bal (Bal (Bal (Below.refl _ _) _) _) _) hb1)
  have x0 : w1.cell? ⟨w.heap.size + 1, 0, none⟩ = some (.int .u64 a') := blk_cell X1.out 0 _ rfl
  have x1 : w1.cell? ⟨w.heap.size + 1, 1, none⟩ = some (.int .u64 b') := blk_cell X1.out 1 _ rfl
  have x2 : w1.cell? ⟨w.heap.size + 1, 2, none⟩ = some (.int .u64 c') := blk_cell X1.out 2 _ rfl
  have x3 : w1.cell? ⟨w.heap.size + 1, 3, none⟩ = some (.int .u64 d') := blk_cell X1.out 3 _ rfl
  clear hb1
  go_wp2_with fail
  clear x0 x1 x2 x3
  refine (C2.out _).mono ?_
  rintro e w2 ⟨rfl, hb2⟩
  have Z2 := Lib.hid (blk_next hb2 Z1.out)
  have N2 : Hid (Below w.heap.size w w2) := Lib.hid (Bgo N1.out hb2)
  clear hb2 Z1 N1 X1
  have z0 : w2.cell? ⟨w.heap.size + 1 + 1, 0, none⟩ = some (.int .i64 0) := blk_cell Z2.out 0 _ rfl
  have z1 : w2.cell? ⟨w.heap.size + 1 + 1, 1, none⟩ = some (.int .i64 0) := blk_cell Z2.out 1 _ rfl
  have f0 : w2.frozen? ⟨w.heap.size + 1 + 1, 0, none⟩ = false := blk_frozen Z2.out 0
  have f1 : w2.frozen? ⟨w.heap.size + 1 + 1, 1, none⟩ = false := blk_frozen Z2.out 1
  go_wp2_with fail
  have e1 : ((w2.setCell ⟨w.heap.size + 1 + 1, 0, none⟩ (.int .i64 0)).setCell ⟨w.heap.size + 1 + 1, 1, none⟩ (.int .i64 0)).cell? ⟨w.heap.size + 1 + 1, 0, none⟩ = some (.int .i64 0) := blk_cell (blk_set (blk_set Z2.out 0 _) 1 _) 0 _ rfl
  have e2 : ((w2.setCell ⟨w.heap.size + 1 + 1, 0, none⟩ (.int .i64 0)).setCell ⟨w.heap.size + 1 + 1, 1, none⟩ (.int .i64 0)).cell? ⟨w.heap.size + 1 + 1, 1, none⟩ = some (.int .i64 0) := blk_cell (blk_set (blk_set Z2.out 0 _) 1 _) 1 _ rfl
  refine bodyPost_ret (v := .tuple #[Fv 0 0, .int .i64 16]) (by simp [results, Try.results71, go_sem, e1, e2]) rfl ⟨by rw [F2.out], Bset1 (Bset1 N2.out (by omega) _ _) (by omega) _ _⟩
 ·have q1 : decide (x ≤ 1000000000000000000) = true := by simp; omega
  have q2 : decide (y ≤ 1000000000000000000) = true := by simp; omega
  have F2 : Hid (v = (if neg then -(x : Int) else (x : Int), (y : Int), 0)) := Lib.hid (by rw [F.out, if_neg (by omega)])
  rw [q1, M1.out h] at C1
  rw [q2, M2.out h'] at C2
  clear q1 q2 M1 M2 F hm1 hm2
  cases neg
  case false =>
   go_enter Try.func71, Try.ntmps71
   go_wp2_with fail
   refine (C1.out _).mono ?_
   rintro e w1 ⟨rfl, hb1⟩
   have X1 := Lib.hid (blk_next hb1 (blk3b w _ _ _))
   have Z1 : Hid (w1.heap[w.heap.size + 1 + 1]? = some (.cells #[.int .i64 0, .int .i64 0] 80)) := Lib.hid (blk_next hb1 (blk3c w _ _ _))
   have N1 : Hid (Below w.heap.size w w1) := Lib.hid (Bgo (Bal (Bal (Bal (Below.refl _ _) _) _) _) hb1)
   have x0 : w1.cell? ⟨w.heap.size + 1, 0, none⟩ = some (.int .u64 a') := blk_cell X1.out 0 _ rfl
   have x1 : w1.cell? ⟨w.heap.size + 1, 1, none⟩ = some (.int .u64 b') := blk_cell X1.out 1 _ rfl
   have x2 : w1.cell? ⟨w.heap.size + 1, 2, none⟩ = some (.int .u64 c') := blk_cell X1.out 2 _ rfl
   have x3 : w1.cell? ⟨w.heap.size + 1, 3, none⟩ = some (.int .u64 d') := blk_cell X1.out 3 _ rfl
   clear hb1
   go_wp2_with fail
   clear x0 x1 x2 x3
   refine (C2.out _).mono ?_
   rintro e w2 ⟨rfl, hb2⟩
   have Z2 := Lib.hid (blk_next hb2 Z1.out)
   have N2 : Hid (Below w.heap.size w w2) := Lib.hid (Bgo N1.out hb2)
   clear hb2 Z1 N1 X1
   have z0 : w2.cell? ⟨w.heap.size + 1 + 1, 0, none⟩ = some (.int .i64 0) := blk_cell Z2.out 0 _ rfl
   have z1 : w2.cell? ⟨w.heap.size + 1 + 1, 1, none⟩ = some (.int .i64 0) := blk_cell Z2.out 1 _ rfl
   have f0 : w2.frozen? ⟨w.heap.size + 1 + 1, 0, none⟩ = false := blk_frozen Z2.out 0
   have f1 : w2.frozen? ⟨w.heap.size + 1 + 1, 1, none⟩ = false := blk_frozen Z2.out 1
   go_wp2_with fail
   have e1 : ((w2.setCell ⟨w.heap.size + 1 + 1, 0, none⟩ (.int .i64 (x : Int))).setCell ⟨w.heap.size + 1 + 1, 1, none⟩ (.int .i64 (y : Int))).cell? ⟨w.heap.size + 1 + 1, 0, none⟩ = some (.int .i64 (x : Int)) := blk_cell (blk_set (blk_set Z2.out 0 _) 1 _) 0 _ rfl
   have e2 : ((w2.setCell ⟨w.heap.size + 1 + 1, 0, none⟩ (.int .i64 (x : Int))).setCell ⟨w.heap.size + 1 + 1, 1, none⟩ (.int .i64 (y : Int))).cell? ⟨w.heap.size + 1 + 1, 1, none⟩ = some (.int .i64 (y : Int)) := blk_cell (blk_set (blk_set Z2.out 0 _) 1 _) 1 _ rfl
   refine bodyPost_ret (v := .tuple #[Fv (x : Int) (y : Int), .int .i64 0]) (by simp [results, Try.results71, go_sem, e1, e2]) rfl ⟨by rw [F2.out]; rfl, Bset1 (Bset1 N2.out (by omega) _ _) (by omega) _ _⟩
  case true =>
   go_enter Try.func71, Try.ntmps71
   go_wp2_with fail
   refine (C1.out _).mono ?_
   rintro e w1 ⟨rfl, hb1⟩
   have X1 := Lib.hid (blk_next hb1 (blk3b w _ _ _))
   have Z1 : Hid (w1.heap[w.heap.size + 1 + 1]? = some (.cells #[.int .i64 0, .int .i64 0] 80)) := Lib.hid (blk_next hb1 (blk3c w _ _ _))
   have N1 : Hid (Below w.heap.size w w1) := Lib.hid (Bgo (Bal (Bal (Bal (Below.refl _ _) _) _) _) hb1)
   have x0 : w1.cell? ⟨w.heap.size + 1, 0, none⟩ = some (.int .u64 a') := blk_cell X1.out 0 _ rfl
   have x1 : w1.cell? ⟨w.heap.size + 1, 1, none⟩ = some (.int .u64 b') := blk_cell X1.out 1 _ rfl
   have x2 : w1.cell? ⟨w.heap.size + 1, 2, none⟩ = some (.int .u64 c') := blk_cell X1.out 2 _ rfl
   have x3 : w1.cell? ⟨w.heap.size + 1, 3, none⟩ = some (.int .u64 d') := blk_cell X1.out 3 _ rfl
   clear hb1
   go_wp2_with fail
   clear x0 x1 x2 x3
   refine (C2.out _).mono ?_
   rintro e w2 ⟨rfl, hb2⟩
   have Z2 := Lib.hid (blk_next hb2 Z1.out)
   have N2 : Hid (Below w.heap.size w w2) := Lib.hid (Bgo N1.out hb2)
   clear hb2 Z1 N1 X1
   have z0 : w2.cell? ⟨w.heap.size + 1 + 1, 0, none⟩ = some (.int .i64 0) := blk_cell Z2.out 0 _ rfl
   have z1 : w2.cell? ⟨w.heap.size + 1 + 1, 1, none⟩ = some (.int .i64 0) := blk_cell Z2.out 1 _ rfl
   have f0 : w2.frozen? ⟨w.heap.size + 1 + 1, 0, none⟩ = false := blk_frozen Z2.out 0
   have f1 : w2.frozen? ⟨w.heap.size + 1 + 1, 1, none⟩ = false := blk_frozen Z2.out 1
   go_wp2_with fail
   have e1 : ((w2.setCell ⟨w.heap.size + 1 + 1, 0, none⟩ (.int .i64 (-(x : Int)))).setCell ⟨w.heap.size + 1 + 1, 1, none⟩ (.int .i64 (y : Int))).cell? ⟨w.heap.size + 1 + 1, 0, none⟩ = some (.int .i64 (-(x : Int))) := blk_cell (blk_set (blk_set Z2.out 0 _) 1 _) 0 _ rfl
   have e2 : ((w2.setCell ⟨w.heap.size + 1 + 1, 0, none⟩ (.int .i64 (-(x : Int)))).setCell ⟨w.heap.size + 1 + 1, 1, none⟩ (.int .i64 (y : Int))).cell? ⟨w.heap.size + 1 + 1, 1, none⟩ = some (.int .i64 (y : Int)) := blk_cell (blk_set (blk_set Z2.out 0 _) 1 _) 1 _ rfl
   refine bodyPost_ret (v := .tuple #[Fv (-(x : Int)) (y : Int), .int .i64 0]) (by simp [results, Try.results71, go_sem, e1, e2]) rfl ⟨by rw [F2.out]; rfl, Bset1 (Bset1 N2.out (by omega) _ _) (by omega) _ _⟩
end Go.Proofs.Ytbbnkclajpaghaa
namespace Go.Proofs.Ytbbnkclajpaghaa
open Go.ChangeShapes Go.WideShapes Go.ChangeAt Go.RowKit
set_option linter.unusedVariables false
set_option maxRecDepth 100000
attribute [local go_sem ↓] Go.wp_at_zero Go.wp_at_succ
theorem wrapN (q : Nat) (h : q < 18446744073709551616) : IntKind.u64.wrap (q : Int) = (q : Int) := by rw [IntKind.wrap_u64]; omega
def makeF (num den : Int) : Int × Int × Int := if den = 0 then (0, 0, 18) else lowF (decide (num < 0) != decide (den < 0)) (num.natAbs / Nat.gcd num.natAbs den.natAbs) (den.natAbs / Nat.gcd num.natAbs den.natAbs)
set_option maxHeartbeats 2000000 in
theorem make_calls (num den : Int) (w : World) (h1 : -9223372036854775808 ≤ num) (h2 : num ≤ 9223372036854775807) (h3 : -9223372036854775808 ≤ den) (h4 : den ≤ 9223372036854775807) :
  Calls Try.prog 65 #[.int .i64 num, .int .i64 den] w fun e w' => e = .returned (Rv (makeF num den)) ∧ Below w.heap.size w w' := by
 by_cases hd : den = 0
 ·have F : Hid (makeF num den = (0, 0, 18)) := Lib.hid (by unfold makeF; rw [if_pos hd])
  generalize makeF num den = v at *
  subst hd
  go_enter Try.func65, Try.ntmps65
  go_wp2_with fail
  refine bodyPost_ret (v := .tuple #[Fv 0 0, .int .i64 18]) (by simp [results, Try.results65, go_sem]) rfl ⟨by rw [F.out], ?_⟩
  repeat (first | exact Below.refl _ _ | refine Bal ?_ _ | refine Bset1 ?_ (by simp) _ _)
 ·have F : Hid (makeF num den = lowF (decide (num < 0) != decide (den < 0)) (num.natAbs / Nat.gcd num.natAbs den.natAbs) (den.natAbs / Nat.gcd num.natAbs den.natAbs)) := Lib.hid (by unfold makeF; rw [if_neg hd])
  have hne : (den == 0) = false := by simpa using hd
  generalize makeF num den = v at *
  have hg0 : 0 < Nat.gcd num.natAbs den.natAbs := Nat.gcd_pos_of_pos_right _ (by omega)
  have S1 := Lib.hid (fun W => size_calls num W h1 h2)
  have S2 := Lib.hid (fun W => size_calls den W h3 h4)
  have hx : num.natAbs ≤ 9223372036854775808 := by omega
  have hy : den.natAbs ≤ 9223372036854775808 := by omega
  generalize num.natAbs = x at *
  generalize den.natAbs = y at *
  have GC := Lib.hid (fun W => gcd_calls x y W (by omega) (by omega))
  generalize Nat.gcd x y = g at *
  have tx : (x : Int).tdiv (g : Int) = ((x / g : Nat) : Int) := by rw [Int.tdiv_eq_ediv_of_nonneg (by omega), Int.natCast_ediv]
  have ty : (y : Int).tdiv (g : Int) = ((y / g : Nat) : Int) := by rw [Int.tdiv_eq_ediv_of_nonneg (by omega), Int.natCast_ediv]
  have hx1 : x / g ≤ 9223372036854775808 := Nat.le_trans (Nat.div_le_self _ _) hx
  have hy1 : y / g ≤ 9223372036854775808 := Nat.le_trans (Nat.div_le_self _ _) hy
  generalize x / g = x1 at *
  generalize y / g = y1 at *
  have BC : Hid (∀ W, Calls Try.prog 82 #[.bool (!(decide (num < 0) == decide (den < 0))), .int .u64 x1, .int .u64 y1] W fun e w' => e = .returned (Rv (lowF (decide (num < 0) != decide (den < 0)) x1 y1)) ∧ Below W.heap.size W w') := Lib.hid (fun W => build_calls (decide (num < 0) != decide (den < 0)) x1 y1 W (by omega) (by omega))
  go_enter Try.func65, Try.ntmps65
  go_wp2_with fail
  refine (S1.out _).mono ?_
  rintro e w1 ⟨rfl, rfl⟩
  go_wp2_with fail
  refine (S2.out _).mono ?_
  rintro e w2 ⟨rfl, rfl⟩
  go_wp2_with fail
  refine (GC.out _).mono ?_
  rintro e w3 ⟨rfl, n3, rfl⟩
  go_wp2_with fail
  have Z0 : Hid (((w.alloc (.cells #[.int .i64 0, .int .i64 0] 80)).drewN n3).heap[w.heap.size]? = some (.cells #[.int .i64 0, .int .i64 0] 80)) := Lib.hid (blk_new w _)
  have N0 : Hid (Below w.heap.size w ((w.alloc (.cells #[.int .i64 0, .int .i64 0] 80)).drewN n3)) := Lib.hid (below_drewN (Bal (Below.refl _ _) _) _)
  generalize (w.alloc (.cells #[.int .i64 0, .int .i64 0] 80)).drewN n3 = W at *
  have gp2 : ¬ ((g : Int) = 0) := by omega
  have gp3 : ((g : Int) == 0) = false := by simpa using gp2
  have wx : IntKind.u64.wrap (x1 : Int) = (x1 : Int) := wrapN _ (by omega)
  have wy : IntKind.u64.wrap (y1 : Int) = (y1 : Int) := wrapN _ (by omega)
  generalize lowF (decide (num < 0) != decide (den < 0)) x1 y1 = r at *
  obtain ⟨r1, r2, r3⟩ := r
  have gp4 : ¬ g = 0 := by omega
  go_region_held3 (fun W => True) (trivial) ((go_at_call 82; (with_reducible refine (BC.out _).mono ?_); rintro e w4 ⟨rfl, hb⟩; have Z1 : Hid (w4.heap[w.heap.size]? = some (.cells #[.int .i64 0, .int .i64 0] 80)) := Lib.hid (by first | exact blk_next hb Z0.out | exact blk_next (W := W.drew) hb Z0.out); have N1 : Hid (Below w.heap.size w w4) := Lib.hid (by first | exact Bgo N0.out hb | exact Bgo N0.out.drew hb); have z0 : w4.cell? ⟨w.heap.size, 0, none⟩ = some (.int .i64 0) := blk_cell Z1.out 0 _ rfl; have z1 : w4.cell? ⟨w.heap.size, 1, none⟩ = some (.int .i64 0) := blk_cell Z1.out 1 _ rfl; have f0 : w4.frozen? ⟨w.heap.size, 0, none⟩ = false := blk_frozen Z1.out 0; have f1 : w4.frozen? ⟨w.heap.size, 1, none⟩ = false := blk_frozen Z1.out 1; clear hb))
  go_wp2_with fail
  have e1 : ((w4.setCell ⟨w.heap.size, 0, none⟩ (.int .i64 r1)).setCell ⟨w.heap.size, 1, none⟩ (.int .i64 r2)).cell? ⟨w.heap.size, 0, none⟩ = some (.int .i64 r1) := blk_cell (blk_set (blk_set Z1.out 0 _) 1 _) 0 _ rfl
  have e2 : ((w4.setCell ⟨w.heap.size, 0, none⟩ (.int .i64 r1)).setCell ⟨w.heap.size, 1, none⟩ (.int .i64 r2)).cell? ⟨w.heap.size, 1, none⟩ = some (.int .i64 r2) := blk_cell (blk_set (blk_set Z1.out 0 _) 1 _) 1 _ rfl
  refine bodyPost_ret (v := .tuple #[Fv r1 r2, .int .i64 r3]) (by simp [results, Try.results65, go_sem, e1, e2]) rfl ⟨by rw [F.out], Bset1 (Bset1 N1.out (by omega) _ _) (by omega) _ _⟩
theorem bigN_two (n : Nat) (h : n < 18446744073709551616) : bigN (n % 4294967296) (n / 4294967296) 0 0 = n := by
 unfold bigN; omega
set_option maxHeartbeats 2000000 in
theorem refMake_calls (num den : Int) (w : World) (h1 : -9223372036854775808 ≤ num) (h2 : num ≤ 9223372036854775807) (h3 : -9223372036854775808 ≤ den) (h4 : den ≤ 9223372036854775807) :
  Calls Try.prog 55 #[.int .i64 num, .int .i64 den] w fun e w' => e = .returned (Rv (makeF num den)) ∧ Below w.heap.size w w' := by
 by_cases hd : den = 0
 ·have F : Hid (makeF num den = (0, 0, 18)) := Lib.hid (by unfold makeF; rw [if_pos hd])
  generalize makeF num den = v at *
  subst hd
  go_enter Try.func55, Try.ntmps55
  go_wp2_with fail
  refine bodyPost_ret (v := .tuple #[Fv 0 0, .int .i64 18]) (by simp [results, Try.results55, go_sem]) rfl ⟨by rw [F.out], ?_⟩
  repeat (first | exact Below.refl _ _ | refine Bal ?_ _ | refine Bset1 ?_ (by simp) _ _)
 ·have F : Hid (makeF num den = lowF (decide (num < 0) != decide (den < 0)) (num.natAbs / Nat.gcd num.natAbs den.natAbs) (den.natAbs / Nat.gcd num.natAbs den.natAbs)) := Lib.hid (by unfold makeF; rw [if_neg hd])
  have hne : (den == 0) = false := by simpa using hd
  generalize makeF num den = v at *
  have hg0 : 0 < Nat.gcd num.natAbs den.natAbs := Nat.gcd_pos_of_pos_right _ (by omega)
  have S1 := Lib.hid (fun W => abs_calls num W h1 h2)
  have S2 := Lib.hid (fun W => abs_calls den W h3 h4)
  have hx : num.natAbs ≤ 9223372036854775808 := by omega
  have hy : den.natAbs ≤ 9223372036854775808 := by omega
  generalize num.natAbs = x at *
  generalize den.natAbs = y at *
  have GC := Lib.hid (fun W => refGcd_calls x y W (by omega) (by omega))
  generalize Nat.gcd x y = g at *
  have hxg : x / g < 18446744073709551616 := Nat.lt_of_le_of_lt (Nat.div_le_self _ _) (by omega)
  have hyg : y / g < 18446744073709551616 := Nat.lt_of_le_of_lt (Nat.div_le_self _ _) (by omega)
  have B1 : Hid (∀ W, Calls Try.prog 72 #[.int .u64 ((x : Int) / (g : Int))] W fun e w' => e = .returned (Bv ((x / g) % 4294967296) ((x / g) / 4294967296) 0 0) ∧ Below W.heap.size W w') := Lib.hid (fun W => by
   have := big_calls (x / g) W hxg
   rw [show (((x / g : Nat) : Nat) : Int) = (x : Int) / (g : Int) from Int.natCast_ediv x g] at this
   exact this)
  have B2 : Hid (∀ W, Calls Try.prog 72 #[.int .u64 ((y : Int) / (g : Int))] W fun e w' => e = .returned (Bv ((y / g) % 4294967296) ((y / g) / 4294967296) 0 0) ∧ Below W.heap.size W w') := Lib.hid (fun W => by
   have := big_calls (y / g) W hyg
   rw [show (((y / g : Nat) : Nat) : Int) = (y : Int) / (g : Int) from Int.natCast_ediv y g] at this
   exact this)
  have LC : Hid (∀ W, Calls Try.prog 71 #[.bool (!(decide (num < 0) == decide (den < 0))), Bv ((x / g) % 4294967296) ((x / g) / 4294967296) 0 0, Bv ((y / g) % 4294967296) ((y / g) / 4294967296) 0 0] W fun e w' => e = .returned (Rv v) ∧ Below W.heap.size W w') := Lib.hid (fun W => by
   have := lowest_calls (!(decide (num < 0) == decide (den < 0))) ((x / g) % 4294967296) ((x / g) / 4294967296) 0 0 ((y / g) % 4294967296) ((y / g) / 4294967296) 0 0 W (Nat.mod_lt _ (by omega)) (by omega) (Nat.mod_lt _ (by omega)) (by omega)
   rw [bigN_two _ hxg, bigN_two _ hyg] at this
   rw [F.out]; exact this)
  clear F
  obtain ⟨p0, hp0⟩ : ∃ p, (x / g) % 4294967296 = p := ⟨_, rfl⟩
  obtain ⟨p1, hp1⟩ : ∃ p, (x / g) / 4294967296 = p := ⟨_, rfl⟩
  obtain ⟨s0, hs0⟩ : ∃ p, (y / g) % 4294967296 = p := ⟨_, rfl⟩
  obtain ⟨s1, hs1⟩ : ∃ p, (y / g) / 4294967296 = p := ⟨_, rfl⟩
  rw [hp0, hp1] at B1 LC
  rw [hs0, hs1] at B2 LC
  clear hp0 hp1 hs0 hs1
  have wx : IntKind.u64.wrap ((x : Int) / (g : Int)) = (x : Int) / (g : Int) := by
   rw [← Int.natCast_ediv]; exact wrapN _ hxg
  have wy : IntKind.u64.wrap ((y : Int) / (g : Int)) = (y : Int) / (g : Int) := by
   rw [← Int.natCast_ediv]; exact wrapN _ hyg
  have gp : (0 : Int) < (g : Int) := by omega
  have gp4 : ¬ g = 0 := by omega
  have gp5 : (g == 0) = false := by simpa using gp4
  obtain ⟨r1, r2, r3⟩ := v
  go_enter Try.func55, Try.ntmps55
  go_wp2_with fail
  refine (S1.out _).mono ?_
  rintro e w1 ⟨rfl, rfl⟩
  go_wp2_with fail
  refine (S2.out _).mono ?_
  rintro e w2 ⟨rfl, rfl⟩
  go_wp2_with fail
  refine (GC.out _).mono ?_
  rintro e w3 ⟨rfl, n3, rfl⟩
  have Z0 : Hid (((w.alloc (.cells #[.int .i64 0, .int .i64 0] 80)).drewN n3).heap[w.heap.size]? = some (.cells #[.int .i64 0, .int .i64 0] 80)) := Lib.hid (blk_new w _)
  have N0 : Hid (Below w.heap.size w ((w.alloc (.cells #[.int .i64 0, .int .i64 0] 80)).drewN n3)) := Lib.hid (below_drewN (Bal (Below.refl _ _) _) _)
  generalize (w.alloc (.cells #[.int .i64 0, .int .i64 0] 80)).drewN n3 = W at *
  go_wp2_with fail
  refine (S1.out _).mono ?_
  rintro e w4 ⟨rfl, rfl⟩
  go_wp2_with fail
  refine (B1.out _).mono ?_
  rintro e w5 ⟨rfl, hb5⟩
  go_wp2_with fail
  refine (S2.out _).mono ?_
  rintro e w5' ⟨rfl, rfl⟩
  go_wp2_with fail
  refine (B2.out _).mono ?_
  rintro e w6 ⟨rfl, hb6⟩
  go_wp2_with fail
  refine (LC.out _).mono ?_
  rintro e w7 ⟨rfl, hb7⟩
  have Z1 := Lib.hid (blk_next hb7 (blk_next hb6 (blk_next hb5 Z0.out)))
  have N1 : Hid (Below w.heap.size w w7) := Lib.hid (Bgo (Bgo (Bgo N0.out hb5) hb6) hb7)
  have z0 : w7.cell? ⟨w.heap.size, 0, none⟩ = some (.int .i64 0) := blk_cell Z1.out 0 _ rfl
  have z1 : w7.cell? ⟨w.heap.size, 1, none⟩ = some (.int .i64 0) := blk_cell Z1.out 1 _ rfl
  have f0 : w7.frozen? ⟨w.heap.size, 0, none⟩ = false := blk_frozen Z1.out 0
  have f1 : w7.frozen? ⟨w.heap.size, 1, none⟩ = false := blk_frozen Z1.out 1
  clear hb5 hb6 hb7
  go_wp2_with fail
  have e1 : ((w7.setCell ⟨w.heap.size, 0, none⟩ (.int .i64 r1)).setCell ⟨w.heap.size, 1, none⟩ (.int .i64 r2)).cell? ⟨w.heap.size, 0, none⟩ = some (.int .i64 r1) := blk_cell (blk_set (blk_set Z1.out 0 _) 1 _) 0 _ rfl
  have e2 : ((w7.setCell ⟨w.heap.size, 0, none⟩ (.int .i64 r1)).setCell ⟨w.heap.size, 1, none⟩ (.int .i64 r2)).cell? ⟨w.heap.size, 1, none⟩ = some (.int .i64 r2) := blk_cell (blk_set (blk_set Z1.out 0 _) 1 _) 1 _ rfl
  refine bodyPost_ret (v := .tuple #[Fv r1 r2, .int .i64 r3]) (by simp [results, Try.results55, go_sem, e1, e2]) rfl ⟨rfl, Bset1 (Bset1 N1.out (by omega) _ _) (by omega) _ _⟩
end Go.Proofs.Ytbbnkclajpaghaa
namespace Go.Proofs.Ytbbnkclajpaghaa
open Go.ChangeShapes Go.WideShapes Go.ChangeAt Go.RowKit
set_option linter.unusedVariables false
set_option maxRecDepth 100000
attribute [local go_sem ↓] Go.wp_at_zero Go.wp_at_succ
theorem prod_lt {a b m : Nat} (ha : a ≤ m) (hb : b ≤ m) : a * b ≤ m * m := Nat.mul_le_mul ha hb
theorem mul64_plain {x y x0 x1 y0 y1 a b c d : Nat} (hx : x = 4294967296 * x1 + x0) (hy : y = 4294967296 * y1 + y0) (ha : x0 * y0 = a) (hb : x1 * y0 = b) (hc : x0 * y1 = c) (hd : x1 * y1 = d) : x * y = 18446744073709551616 * d + 4294967296 * (b + c) + a := by
 subst hx hy ha hb hc hd
 grind
set_option maxHeartbeats 1000000 in
theorem mul64_calls (x y : Nat) (w : World) (hx : x < 18446744073709551616) (hy : y < 18446744073709551616) :
  Calls Try.prog 89 #[.int .u64 x, .int .u64 y] w fun e w' => e = .returned (.tuple #[.int .u64 (x * y / 18446744073709551616 : Nat), .int .u64 (x * y % 18446744073709551616 : Nat)]) ∧ w = w' := by
 have b0 : x % 4294967296 ≤ 4294967295 := by omega
 have b1 : x / 4294967296 ≤ 4294967295 := by omega
 have b2 : y % 4294967296 ≤ 4294967295 := by omega
 have b3 : y / 4294967296 ≤ 4294967295 := by omega
 have EX : x = 4294967296 * (x / 4294967296) + x % 4294967296 := by omega
 have EY : y = 4294967296 * (y / 4294967296) + y % 4294967296 := by omega
 have r1 := and32 x hx
 have r2 : (x : Int) / 4294967296 = ((x / 4294967296 : Nat) : Int) := (Int.natCast_ediv x 4294967296).symm
 have r3 := and32 y hy
 have r4 : (y : Int) / 4294967296 = ((y / 4294967296 : Nat) : Int) := (Int.natCast_ediv y 4294967296).symm
 generalize x % 4294967296 = x0 at *
 generalize x / 4294967296 = x1 at *
 generalize y % 4294967296 = y0 at *
 generalize y / 4294967296 = y1 at *
 have p1 := prod_lt b0 b2
 have p2 := prod_lt b1 b2
 have p3 := prod_lt b0 b3
 have p4 := prod_lt b1 b3
 have PL := mul64_plain EX EY rfl rfl rfl rfl
 have m1 : (x0 : Int) * (y0 : Int) = ((x0 * y0 : Nat) : Int) := (Int.natCast_mul x0 y0).symm
 have m2 : (x1 : Int) * (y0 : Int) = ((x1 * y0 : Nat) : Int) := (Int.natCast_mul x1 y0).symm
 have m3 : (x0 : Int) * (y1 : Int) = ((x0 * y1 : Nat) : Int) := (Int.natCast_mul x0 y1).symm
 have m4 : (x1 : Int) * (y1 : Int) = ((x1 * y1 : Nat) : Int) := (Int.natCast_mul x1 y1).symm
 have m5 : IntKind.u64.wrap ((x : Int) * (y : Int)) = ((x * y % 18446744073709551616 : Nat) : Int) := by
  rw [IntKind.wrap_u64, ← Int.natCast_mul]; omega
 clear EX EY
 generalize x0 * y0 = a at *
 generalize x1 * y0 = b at *
 generalize x0 * y1 = c at *
 generalize x1 * y1 = d at *
 obtain ⟨hi, ehi⟩ : ∃ hi, x * y / 18446744073709551616 = hi := ⟨_, rfl⟩
 have EH : Hid (hi = d + (b + a / 4294967296) / 4294967296 + ((b + a / 4294967296) % 4294967296 + c) / 4294967296) := Lib.hid (by
  generalize x * y = xy at *; omega)
 have bh : hi ≤ 18446744073709551615 := by
  generalize hxy : x * y = xy at *
  have : xy ≤ 18446744073709551615 * 18446744073709551615 := by rw [← hxy]; exact prod_lt (by omega) (by omega)
  omega
 rw [ehi]
 clear ehi PL
 generalize x * y % 18446744073709551616 = lo at *
 have n1 : (a : Int) / 4294967296 = ((a / 4294967296 : Nat) : Int) := (Int.natCast_ediv a 4294967296).symm
 have l1 : a / 4294967296 ≤ 4294967295 := by omega
 generalize a / 4294967296 = q at *
 have n2 : (b : Int) + (q : Int) = ((b + q : Nat) : Int) := by omega
 have l2 : b + q < 18446744073709551616 := by omega
 have n3 := and32 (b + q) l2
 have n4 : ((b + q : Nat) : Int) / 4294967296 = (((b + q) / 4294967296 : Nat) : Int) := (Int.natCast_ediv (b + q) 4294967296).symm
 have l3 : (b + q) % 4294967296 ≤ 4294967295 := by omega
 have l4 : (b + q) / 4294967296 ≤ 4294967295 := by omega
 generalize (b + q) % 4294967296 = s at *
 generalize (b + q) / 4294967296 = t at *
 generalize b + q = u at *
 have n5 : (s : Int) + (c : Int) = ((s + c : Nat) : Int) := by omega
 have n6 : ((s + c : Nat) : Int) / 4294967296 = (((s + c) / 4294967296 : Nat) : Int) := (Int.natCast_ediv (s + c) 4294967296).symm
 have l5 : s + c < 18446744073709551616 := by omega
 have l6 : (s + c) / 4294967296 ≤ 4294967295 := by omega
 generalize (s + c) / 4294967296 = v at *
 generalize s + c = z at *
 have n7 : (d : Int) + (t : Int) = ((d + t : Nat) : Int) := by omega
 have l7 : d + t < 18446744073709551616 := by omega
 generalize hdt : d + t = dt at *
 have n8 : (dt : Int) + (v : Int) = (hi : Int) := by have := EH.out; omega
 clear EH
 go_enter Try.func89, Try.ntmps89
 go_wp2_with fail
 go_ret2
 exact ⟨rfl, rfl⟩
end Go.Proofs.Ytbbnkclajpaghaa
namespace Go.Proofs.Ytbbnkclajpaghaa
open Go.ChangeShapes Go.WideShapes Go.ChangeAt Go.RowKit
set_option linter.unusedVariables false
set_option maxRecDepth 100000
attribute [local go_sem ↓] Go.wp_at_zero Go.wp_at_succ
def mulF (an ad bn bd : Int) : Int × Int × Int :=
 lowF (decide (an < 0) != decide (bn < 0)) ((an.natAbs / Nat.gcd an.natAbs bd.natAbs) * (bn.natAbs / Nat.gcd bn.natAbs ad.natAbs)) ((ad.natAbs / Nat.gcd bn.natAbs ad.natAbs) * (bd.natAbs / Nat.gcd an.natAbs bd.natAbs))
theorem lowF_great {neg : Bool} {n d : Nat} (h : 1000000000000000000 < n ∨ 1000000000000000000 < d) : lowF neg n d = (0, 0, 16) := by unfold lowF; rw [if_pos h]
theorem tdivN (x g : Nat) : (x : Int).tdiv (g : Int) = ((x / g : Nat) : Int) := by rw [Int.tdiv_eq_ediv_of_nonneg (by omega), Int.natCast_ediv]
structure PK (w W : World) (an ad bn bd : Int) : Prop where
 a : W.heap[w.heap.size]? = some (.cells #[.int .i64 an, .int .i64 ad] 80)
 b : W.heap[w.heap.size + 1]? = some (.cells #[.int .i64 bn, .int .i64 bd] 80)
 z : W.heap[w.heap.size + 1 + 1]? = some (.cells #[.int .i64 0, .int .i64 0] 80)
 n : Below w.heap.size w W
theorem PK.next {w W W' : World} {an ad bn bd : Int} (h : PK w W an ad bn bd) (hb : Below W.heap.size W W') : PK w W' an ad bn bd := ⟨blk_next hb h.a, blk_next hb h.b, blk_next hb h.z, Bgo h.n hb⟩
theorem PK.drewN {w W : World} {an ad bn bd : Int} (h : PK w W an ad bn bd) (n : Nat) : PK w (W.drewN n) an ad bn bd := h.next (below_drewN (Below.refl _ _) n)
theorem PK.init (w : World) (an ad bn bd : Int) : PK w (((w.alloc (.cells #[.int .i64 an, .int .i64 ad] 80)).alloc (.cells #[.int .i64 bn, .int .i64 bd] 80)).alloc (.cells #[.int .i64 0, .int .i64 0] 80)) an ad bn bd :=
 ⟨blk_alloc (blk_alloc (blk_new w _) _) _, blk3b w _ _ _, blk3c w _ _ _, Bal (Bal (Bal (Below.refl _ _) _) _) _⟩
theorem undrewB {a b : World} (h : Below a.drew.heap.size a.drew b) : Below a.heap.size a b := ⟨h.os, h.tape, h.output, h.size, h.block⟩
set_option maxRecDepth 100000 in
set_option maxHeartbeats 4000000 in
theorem product_calls (an ad bn bd : Int) (w : World) (h1 : -9223372036854775808 ≤ an) (h2 : an ≤ 9223372036854775807) (h3 : 1 ≤ ad) (h4 : ad ≤ 9223372036854775807) (h5 : -9223372036854775808 ≤ bn) (h6 : bn ≤ 9223372036854775807) (h7 : 1 ≤ bd) (h8 : bd ≤ 9223372036854775807) :
  Calls Try.prog 84 #[Fv an ad, Fv bn bd] w fun e w' => e = .returned (Rv (mulF an ad bn bd)) ∧ Below w.heap.size w w' := by
 have F : Hid (mulF an ad bn bd = lowF (decide (an < 0) != decide (bn < 0)) ((an.natAbs / Nat.gcd an.natAbs bd.natAbs) * (bn.natAbs / Nat.gcd bn.natAbs ad.natAbs)) ((ad.natAbs / Nat.gcd bn.natAbs ad.natAbs) * (bd.natAbs / Nat.gcd an.natAbs bd.natAbs))) := Lib.hid rfl
 generalize mulF an ad bn bd = res at *
 have S1 := Lib.hid (fun W => size_calls an W h1 h2)
 have S2 := Lib.hid (fun W => size_calls ad W (by omega) h4)
 have S3 := Lib.hid (fun W => size_calls bn W h5 h6)
 have S4 := Lib.hid (fun W => size_calls bd W (by omega) h8)
 have hx : an.natAbs ≤ 9223372036854775808 := by omega
 have hy : ad.natAbs ≤ 9223372036854775808 := by omega
 have hu : bn.natAbs ≤ 9223372036854775808 := by omega
 have hv : bd.natAbs ≤ 9223372036854775808 := by omega
 have hg0 : 0 < Nat.gcd an.natAbs bd.natAbs := Nat.gcd_pos_of_pos_right _ (by omega)
 have hh0 : 0 < Nat.gcd bn.natAbs ad.natAbs := Nat.gcd_pos_of_pos_right _ (by omega)
 generalize an.natAbs = x at *
 generalize ad.natAbs = y at *
 generalize bn.natAbs = u at *
 generalize bd.natAbs = v at *
 have G1 := Lib.hid (fun W => gcd_calls x v W (by omega) (by omega))
 have G2 := Lib.hid (fun W => gcd_calls u y W (by omega) (by omega))
 generalize Nat.gcd x v = g at *
 generalize Nat.gcd u y = h at *
 have t1 := tdivN x g
 have t2 := tdivN u h
 have t3 := tdivN y h
 have t4 := tdivN v g
 have l1 : x / g ≤ 9223372036854775808 := Nat.le_trans (Nat.div_le_self _ _) hx
 have l2 : u / h ≤ 9223372036854775808 := Nat.le_trans (Nat.div_le_self _ _) hu
 have l3 : y / h ≤ 9223372036854775808 := Nat.le_trans (Nat.div_le_self _ _) hy
 have l4 : v / g ≤ 9223372036854775808 := Nat.le_trans (Nat.div_le_self _ _) hv
 generalize x / g = x1 at *
 generalize u / h = u1 at *
 generalize y / h = y1 at *
 generalize v / g = v1 at *
 have M1 := Lib.hid (fun W => mul64_calls x1 u1 W (by omega) (by omega))
 have M2 := Lib.hid (fun W => mul64_calls y1 v1 W (by omega) (by omega))
 generalize x1 * u1 = P at *
 generalize y1 * v1 = Q at *
 have hp : P % 18446744073709551616 < 18446744073709551616 := Nat.mod_lt _ (by omega)
 have hq : Q % 18446744073709551616 < 18446744073709551616 := Nat.mod_lt _ (by omega)
 have BC : Hid (∀ W, Calls Try.prog 82 #[.bool (!(decide (an < 0) == decide (bn < 0))), .int .u64 (P % 18446744073709551616 : Nat), .int .u64 (Q % 18446744073709551616 : Nat)] W fun e w' => e = .returned (Rv (lowF (decide (an < 0) != decide (bn < 0)) (P % 18446744073709551616) (Q % 18446744073709551616))) ∧ Below W.heap.size W w') := Lib.hid (fun W => build_calls (decide (an < 0) != decide (bn < 0)) _ _ W hp hq)
 have BIG : Hid (¬ P / 18446744073709551616 = 0 ∨ ¬ Q / 18446744073709551616 = 0 → res = (0, 0, 16)) := Lib.hid (fun hh => by rw [F.out]; exact lowF_great (by omega))
 have SML : Hid (P / 18446744073709551616 = 0 → Q / 18446744073709551616 = 0 → res = lowF (decide (an < 0) != decide (bn < 0)) (P % 18446744073709551616) (Q % 18446744073709551616)) := Lib.hid (fun e1 e2 => by rw [F.out]; congr 1 <;> omega)
 clear F
 generalize P % 18446744073709551616 = p0 at *
 generalize Q % 18446744073709551616 = q0 at *
 generalize P / 18446744073709551616 = p1 at *
 generalize Q / 18446744073709551616 = q1 at *
 have gp4 : ¬ g = 0 := by omega
 have hp4 : ¬ h = 0 := by omega
 have wx : IntKind.u64.wrap (x1 : Int) = (x1 : Int) := wrapN _ (by omega)
 have wu : IntKind.u64.wrap (u1 : Int) = (u1 : Int) := wrapN _ (by omega)
 have wy : IntKind.u64.wrap (y1 : Int) = (y1 : Int) := wrapN _ (by omega)
 have wv : IntKind.u64.wrap (v1 : Int) = (v1 : Int) := wrapN _ (by omega)
 go_enter Try.func84, Try.ntmps84
 go_wp2_with fail
 go_quiet ((first | (go_at_call 80; (with_reducible exact quiet_left (S1.out _))) | (go_at_call 80; (with_reducible exact quiet_left (S2.out _))) | (go_at_call 80; (with_reducible exact quiet_left (S3.out _))) | (go_at_call 80; (with_reducible exact quiet_left (S4.out _)))))
 have K := Lib.hid ((PK.init w an ad bn bd).drewN nq)
 generalize (((w.alloc (.cells #[.int .i64 an, .int .i64 ad] 80)).alloc (.cells #[.int .i64 bn, .int .i64 bd] 80)).alloc (.cells #[.int .i64 0, .int .i64 0] 80)).drewN nq = W0 at *
 go_wp2_with fail
 refine (G1.out _).mono ?_
 rintro e w1 ⟨rfl, n1, rfl⟩
 replace K := Lib.hid (K.out.drewN n1)
 generalize W0.drewN n1 = W1 at *
 go_wp2_with fail
 refine (G2.out _).mono ?_
 rintro e w2 ⟨rfl, n2, rfl⟩
 replace K := Lib.hid (K.out.drewN n2)
 generalize W1.drewN n2 = W2 at *
 go_wp2_with fail
 go_quiet ((go_at_call 89; (with_reducible exact quiet_left (M1.out _))))
 replace K := Lib.hid (K.out.drewN nq)
 generalize W2.drewN nq = W3 at *
 go_wp2_with fail
 go_quiet ((go_at_call 89; (with_reducible exact quiet_left (M2.out _))))
 replace K := Lib.hid (K.out.drewN nq)
 generalize W3.drewN nq = W4 at *
 clear t1 t2 t3 t4 wx wu wy wv
 have a0 := blk_cell K.out.a 0 _ rfl
 have b0 := blk_cell K.out.b 0 _ rfl
 have z0 := blk_cell K.out.z 0 _ rfl
 have z1 := blk_cell K.out.z 1 _ rfl
 have f0 := blk_frozen K.out.z 0
 have f1 := blk_frozen K.out.z 1
 by_cases c1 : p1 = 0
 ·have c1' : ((p1 : Int) != 0) = false := by rw [c1]; rfl
  by_cases c2 : q1 = 0
  ·have c2' : ((q1 : Int) != 0) = false := by rw [c2]; rfl
   have F2 := Lib.hid (SML.out c1 c2)
   clear SML BIG c1 c2
   generalize lowF (decide (an < 0) != decide (bn < 0)) p0 q0 = r at *
   obtain ⟨r1, r2, r3⟩ := r
   go_wp2_with fail
   refine (BC.out _).mono ?_
   rintro e w4 ⟨rfl, hb⟩
   replace K := Lib.hid (K.out.next hb)
   clear hb a0 b0 z0 z1 f0 f1
   have z0 := blk_cell K.out.z 0 _ rfl
   have z1 := blk_cell K.out.z 1 _ rfl
   have f0 := blk_frozen K.out.z 0
   have f1 := blk_frozen K.out.z 1
   go_wp2_with fail
   have e1 := blk_cell (blk_set (blk_set K.out.z 0 (.int .i64 r1)) 1 (.int .i64 r2)) 0 _ rfl
   have e2 := blk_cell (blk_set (blk_set K.out.z 0 (.int .i64 r1)) 1 (.int .i64 r2)) 1 _ rfl
   refine bodyPost_ret (v := .tuple #[Fv r1 r2, .int .i64 r3]) (by simp [results, Try.results84, go_sem, e1, e2]) rfl ⟨by rw [F2.out], Bset1 (Bset1 K.out.n (by omega) _ _) (by omega) _ _⟩
  ·have c2' : ((q1 : Int) != 0) = true := by rw [bne_iff_ne]; omega
   have F2 := Lib.hid (BIG.out (.inr c2))
   clear SML BIG c1 c2
   go_wp2_with fail
   have e1 := blk_cell (blk_set (blk_set K.out.z 0 (.int .i64 0)) 1 (.int .i64 0)) 0 _ rfl
   have e2 := blk_cell (blk_set (blk_set K.out.z 0 (.int .i64 0)) 1 (.int .i64 0)) 1 _ rfl
   refine bodyPost_ret (v := .tuple #[Fv 0 0, .int .i64 16]) (by simp [results, Try.results84, go_sem, e1, e2]) rfl ⟨by rw [F2.out], Bset1 (Bset1 K.out.n (by omega) _ _) (by omega) _ _⟩
 ·have c1' : ((p1 : Int) != 0) = true := by rw [bne_iff_ne]; omega
  have F2 := Lib.hid (BIG.out (.inl c1))
  clear SML BIG c1
  go_wp2_with fail
  have e1 := blk_cell (blk_set (blk_set K.out.z 0 (.int .i64 0)) 1 (.int .i64 0)) 0 _ rfl
  have e2 := blk_cell (blk_set (blk_set K.out.z 0 (.int .i64 0)) 1 (.int .i64 0)) 1 _ rfl
  refine bodyPost_ret (v := .tuple #[Fv 0 0, .int .i64 16]) (by simp [results, Try.results84, go_sem, e1, e2]) rfl ⟨by rw [F2.out], Bset1 (Bset1 K.out.n (by omega) _ _) (by omega) _ _⟩
end Go.Proofs.Ytbbnkclajpaghaa
