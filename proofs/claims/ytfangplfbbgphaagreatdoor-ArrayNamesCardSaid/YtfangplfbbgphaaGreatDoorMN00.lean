/- Several texts in one. -/
import Derived.Test.YtfangplfbbgphaaGreatDoorRows
import Derived.WalkKit
import Derived.WalkSmall
import Derived.ProofKit
import Derived.OpenShut
import Derived.WalkLawsBesides
import Derived.WalkSpells
import Derived.Outline
import Derived.Lib.Hide
import Derived.Deep.QuietTactic
import Derived.BigQuiet
import Derived.RegionTactic
import Derived.Deep.RegionHeld3
import Derived.Deep.DrawnRows
import Derived.Laws.BitsAllLaws
import Derived.StillTailTactics
import Derived.Maps.AppendAt
import Derived.Deep.AppendLies
import Derived.OwnWalk
import Derived.Laws.OwnMore
import Derived.Deep.DeepCutAuto
import Derived.Deep.RegionLaw
import Derived.StillTail
namespace Go.Proofs.YtfangplfbbgphaaGreatDoor
open Go.RowKit
theorem blk_lt {w : World} {b : Nat} {o : Obj} (h : w.heap[b]? = some o) : b < w.heap.size := (Array.getElem?_eq_some_iff.1 h).1
theorem blk_next {W w1 : World} (hb : Below W.heap.size W w1) {b : Nat} {o : Obj} (h : W.heap[b]? = some o) : w1.heap[b]? = some o := (hb.block b (blk_lt h)).trans h
theorem blk_alloc {w : World} {b : Nat} {o : Obj} (h : w.heap[b]? = some o) (x : Obj) : (w.alloc x).heap[b]? = some o := (Below.heap_alloc w x b (blk_lt h)).trans h
theorem blk_new (w : World) (x : Obj) : (w.alloc x).heap[w.heap.size]? = some x := heap_alloc_new w x
theorem blk_at {w : World} {b : Nat} (x : Obj) (h : b = w.heap.size) : (w.alloc x).heap[b]? = some x := by rw [h]; exact heap_alloc_new w x
theorem blk_drewN {w : World} {b : Nat} {o : Obj} (h : w.heap[b]? = some o) (n : Nat) : (w.drewN n).heap[b]? = some o := h
theorem blk_cell {w : World} {b : Nat} {cs : Array Value} {t : TypeId} (h : w.heap[b]? = some (.cells cs t)) (o : Nat) (v : Value) (hv : cs[o]? = some v) : w.cell? ⟨b, o, none⟩ = some v := by
 simp [World.cell?, h, hv]
theorem blk_frozen {w : World} {b : Nat} {cs : Array Value} {t : TypeId} (h : w.heap[b]? = some (.cells cs t)) (o : Nat) : w.frozen? ⟨b, o, none⟩ = false := by
 simp [World.frozen?, h]
theorem blk_set {w : World} {b : Nat} {cs : Array Value} {t : TypeId} {fz : Nat × Nat} (h : w.heap[b]? = some (.cells cs t fz)) (o : Nat) (v : Value) : (w.setCell ⟨b, o, none⟩ v).heap[b]? = some (.cells (cs.setIfInBounds o v) t fz) := by
 simp [World.setCell, Array.getElem?_modify, h]
theorem blk_set_other {w : World} {b : Nat} {x : Obj} (h : w.heap[b]? = some x) {b' : Nat} (hne : b' ≠ b) (o : Nat) (v : Value) : (w.setCell ⟨b', o, none⟩ v).heap[b]? = some x := by
 simp [World.setCell, Array.getElem?_modify, h, hne]
theorem Bset1 {w W : World} (h : Below w.heap.size w W) {B : Nat} (hB : w.heap.size ≤ B) (o : Nat) (x : Value) : Below w.heap.size w (W.setCell ⟨B, o, none⟩ x) := h.setCell hB x
end Go.Proofs.YtfangplfbbgphaaGreatDoor
namespace Go.Proofs.YtfangplfbbgphaaGreatDoor
open Go.ChangeShapes Go.WideShapes Go.ChangeAt Go.RowKit
set_option linter.unusedVariables false
set_option maxRecDepth 100000
theorem Bgo {w W w1 : World} (h : Below w.heap.size w W) (hb : Below W.heap.size W w1) : Below w.heap.size w w1 := h.trans (hb.mono h.size)
theorem Bal {w W : World} (h : Below w.heap.size w W) (o : Obj) : Below w.heap.size w (W.alloc o) := h.alloc h.size o
theorem ret_int {k : IntKind} {a b : Int} (h : a = b) : Ending.returned (.int k a) = .returned (.int k b) := by rw [h]
theorem ret_bool {a b : Bool} (h : a = b) : Ending.returned (.bool a) = .returned (.bool b) := by rw [h]
theorem size_calls (n : Int) (w : World) (h1 : -9223372036854775808 ≤ n) (h2 : n ≤ 9223372036854775807) :
  Calls Tryz.prog 100 #[.int .i64 n] w fun e w' => e = .returned (.int .u64 (n.natAbs : Int)) ∧ w = w' := by
 by_cases h : n < 0
 ·go_enter Tryz.func100, Tryz.ntmps100
  go_wp2
  go_ret
  refine ⟨ret_int ?_, rfl⟩
  rw [IntKind.wrap_u64, IntKind.wrap_u64]; omega
 ·go_enter Tryz.func100, Tryz.ntmps100
  go_wp2
  go_ret
  refine ⟨ret_int ?_, rfl⟩
  omega
theorem gcd_calls (x y : Nat) (w : World) (hx : x < 18446744073709551616) (hy : y < 18446744073709551616) :
  Calls Tryz.prog 101 #[.int .u64 x, .int .u64 y] w fun e w' => e = .returned (.int .u64 (Nat.gcd x y)) ∧ ∃ n, w' = w.drewN n := by
 generalize hg : Nat.gcd x y = g
 have HG := Lib.hid hg
 clear hg
 go_enter Tryz.func101, Tryz.ntmps101
 go_wp2_with fail
 go_loopw [0, 1] (fun a b wr => ∃ u v n : Nat, u < 18446744073709551616 ∧ v < 18446744073709551616 ∧ a = .int .u64 u ∧ b = .int .u64 v ∧ Hid (Nat.gcd u v = g) ∧ wr = w.drewN n) (fun _ b _ => (intOf b).toNat)
 case atStart => exact ⟨x, y, 0, hx, hy, rfl, rfl, HG, rfl⟩
 case round =>
  obtain ⟨u, v, n, hu, hv, rfl, rfl, HE, rfl⟩ := hrel
  by_cases hv0 : v = 0
  ·subst hv0
   go_wp2_with fail
   go_ret
   refine ⟨ret_int ?_, n, rfl⟩
   rw [← HE.out]; simp
  ·have q1 : ((v : Int) != 0) = true := by rw [bne_iff_ne]; omega
   have q2 : (0 : Int) < (v : Int) := by omega
   have q3 : ¬ ((v : Int) = 0) := by omega
   have hlt : u % v < v := Nat.mod_lt _ (by omega)
   have HR : Hid (Nat.gcd v (u % v) = g) := Lib.hid (by rw [← HE.out, Nat.gcd_comm u v, Nat.gcd_rec v u, Nat.gcd_comm])
   go_wp2_with fail
   go_quiet (fail)
   go_wp2_with fail
   refine ⟨⟨v, u % v, n + nq, hv, by omega, rfl, by rw [Int.natCast_emod], HR, by rw [World.drewN_drewN]⟩, ?_⟩
   show ((u : Int) % (v : Int)).toNat < ((v : Int)).toNat
   rw [← Int.natCast_emod, Int.toNat_natCast, Int.toNat_natCast]
   exact hlt
end Go.Proofs.YtfangplfbbgphaaGreatDoor
namespace Go.Proofs.YtfangplfbbgphaaGreatDoor
open Go.ChangeShapes Go.WideShapes Go.ChangeAt Go.RowKit
set_option linter.unusedVariables false
set_option maxRecDepth 100000
attribute [local go_sem ↓] Go.wp_at_zero Go.wp_at_succ
theorem quiet_left {P : Program} {f : FuncId} {args : Array Value} {w : World} {n : Nat} {v : Value}
  (h : Calls P f args (w.drewN n) fun e w' => e = .returned v ∧ w.drewN n = w') : Calls P f args (w.drewN n) fun e w'' => e = .returned v ∧ ∃ m, w'' = w.drewN m :=
 h.mono fun _ _ ⟨he, hm⟩ => ⟨he, n, hm.symm⟩
theorem quiet_more {P : Program} {f : FuncId} {args : Array Value} {w : World} {n : Nat} {v : Value}
  (h : Calls P f args (w.drewN n) fun e w' => e = .returned v ∧ ∃ m, w' = (w.drewN n).drewN m) : Calls P f args (w.drewN n) fun e w'' => e = .returned v ∧ ∃ m, w'' = w.drewN m :=
 h.mono fun _ _ ⟨he, m, hm⟩ => ⟨he, n + m, by rw [hm, World.drewN_drewN]⟩
theorem below_drewN {B : Nat} {a w : World} (h : Below B a w) (n : Nat) : Below B a (w.drewN n) := ⟨h.os, h.tape, h.output, h.size, h.block⟩
abbrev Fv (n d : Int) : Value := .agg #[.int .i64 n, .int .i64 d]
def okF (n d : Int) : Bool := decide (1 ≤ d ∧ d ≤ 1000000000000000000 ∧ -1000000000000000000 ≤ n ∧ n ≤ 1000000000000000000) && (Nat.gcd n.natAbs d.natAbs == 1)
def errF (n d : Int) : Int := if okF n d then 0 else 8
theorem errF_out {n d : Int} (h : ¬ (1 ≤ d ∧ d ≤ 1000000000000000000 ∧ -1000000000000000000 ≤ n ∧ n ≤ 1000000000000000000)) : errF n d = 8 := by
 unfold errF okF; rw [decide_eq_false h]; rfl
theorem errF_in {n d : Int} (h : 1 ≤ d ∧ d ≤ 1000000000000000000 ∧ -1000000000000000000 ≤ n ∧ n ≤ 1000000000000000000) : errF n d = if (Nat.gcd n.natAbs d.natAbs == 1) then 0 else 8 := by
 unfold errF okF; rw [decide_eq_true h]; rfl
set_option maxHeartbeats 2000000 in
theorem check_calls (n d : Int) (w : World) :
  Calls Tryz.prog 75 #[Fv n d] w fun e w' => e = .returned (.int .i64 (errF n d)) ∧ Below w.heap.size w w' := by
 by_cases hin : 1 ≤ d ∧ d ≤ 1000000000000000000 ∧ -1000000000000000000 ≤ n ∧ n ≤ 1000000000000000000
 ·have F := Lib.hid (errF_in hin)
  generalize errF n d = v at *
  obtain ⟨h1, h2, h3, h4⟩ := hin
  obtain ⟨g, hg⟩ : ∃ g : Nat, Nat.gcd n.natAbs d.natAbs = g := ⟨_, rfl⟩
  have GC : Hid (∀ W : World, Calls Tryz.prog 101 #[.int .u64 (n.natAbs : Int), .int .u64 (d.natAbs : Int)] W fun e w' => e = .returned (.int .u64 (g : Int)) ∧ ∃ m, w' = W.drewN m) := Lib.hid (fun W => by
   have := gcd_calls n.natAbs d.natAbs W (by omega) (by omega)
   rw [hg] at this; exact this)
  rw [hg] at F
  clear hg
  by_cases hg1 : g = 1
  ·have F2 : Hid (v = 0) := Lib.hid (by rw [F.out, hg1]; rfl)
   have q : ((g : Int) != 1) = false := by rw [hg1]; rfl
   clear hg1 F
   go_enter Tryz.func75, Tryz.ntmps75
   go_wp2_with fail
   go_quiet ((first | (go_at_call 100; exact quiet_left (size_calls _ _ (by omega) (by omega))) | (go_at_call 101; exact quiet_more (GC.out _))))
   go_wp2_with fail
   go_ret
   exact ⟨ret_int F2.out.symm, below_drewN (Bal (Below.refl _ _) _) _⟩
  ·have F2 : Hid (v = 8) := Lib.hid (by rw [F.out, if_neg (by simpa using hg1)])
   have q : ((g : Int) != 1) = true := by rw [bne_iff_ne]; omega
   clear hg1 F
   go_enter Tryz.func75, Tryz.ntmps75
   go_wp2_with fail
   go_quiet ((first | (go_at_call 100; exact quiet_left (size_calls _ _ (by omega) (by omega))) | (go_at_call 101; exact quiet_more (GC.out _))))
   go_wp2_with fail
   go_ret
   exact ⟨ret_int F2.out.symm, below_drewN (Bal (Below.refl _ _) _) _⟩
 ·have F := Lib.hid (errF_out hin)
  generalize errF n d = v at *
  have hc : d < 1 ∨ (1 ≤ d ∧ 1000000000000000000 < d) ∨ (1 ≤ d ∧ d ≤ 1000000000000000000 ∧ n < -1000000000000000000) ∨ (1 ≤ d ∧ d ≤ 1000000000000000000 ∧ -1000000000000000000 ≤ n ∧ 1000000000000000000 < n) := by omega
  clear hin
  rcases hc with h | ⟨h, h'⟩ | ⟨h, h', h''⟩ | ⟨h, h', h'', h3⟩
  all_goals
   go_enter Tryz.func75, Tryz.ntmps75
   go_wp2_with fail
   go_ret
   exact ⟨ret_int F.out.symm, Bal (Below.refl _ _) _⟩
end Go.Proofs.YtfangplfbbgphaaGreatDoor
namespace Go.Proofs.YtfangplfbbgphaaGreatDoor
open Go.ChangeShapes Go.WideShapes Go.ChangeAt Go.RowKit
set_option linter.unusedVariables false
set_option maxRecDepth 100000
attribute [local go_sem ↓] Go.wp_at_zero Go.wp_at_succ
def errB (an ad bn bd : Int) : Int := if errF an ad ≠ 0 then errF an ad else errF bn bd
theorem blk1 (w : World) (x y : Obj) : ((w.alloc x).alloc y).heap[w.heap.size]? = some x := blk_alloc (blk_new w x) y
theorem blk2 (w : World) (x y : Obj) : ((w.alloc x).alloc y).heap[w.heap.size + 1]? = some y := blk_at y (by simp)
set_option maxHeartbeats 1000000 in
theorem both_calls (an ad bn bd : Int) (w : World) :
  Calls Tryz.prog 70 #[Fv an ad, Fv bn bd] w fun e w' => e = .returned (.int .i64 (errB an ad bn bd)) ∧ Below w.heap.size w w' := by
 have F : Hid (errB an ad bn bd = if errF an ad ≠ 0 then errF an ad else errF bn bd) := Lib.hid rfl
 have C1 := Lib.hid (check_calls an ad)
 have C2 := Lib.hid (check_calls bn bd)
 generalize errB an ad bn bd = v at *
 generalize errF an ad = e1 at *
 generalize errF bn bd = e2 at *
 by_cases h : e1 = 0
 ·subst h
  go_enter Tryz.func70, Tryz.ntmps70
  go_wp2_with fail
  refine (C1.out _).mono ?_
  rintro e w1 ⟨rfl, hb⟩
  have X := Lib.hid (blk_next hb (blk2 w _ _))
  have x0 : w1.cell? ⟨w.heap.size + 1, 0, none⟩ = some (.int .i64 bn) := blk_cell X.out 0 _ rfl
  have x1 : w1.cell? ⟨w.heap.size + 1, 1, none⟩ = some (.int .i64 bd) := blk_cell X.out 1 _ rfl
  have N1 : Hid (Below w.heap.size w w1) := Lib.hid (Bgo (Bal (Bal (Below.refl _ _) _) _) hb)
  clear hb
  go_wp2_with fail
  refine (C2.out _).mono ?_
  rintro e w2 ⟨rfl, hb⟩
  have N2 : Hid (Below w.heap.size w w2) := Lib.hid (Bgo N1.out hb)
  clear hb
  go_wp2_with fail
  go_ret
  exact ⟨ret_int (by rw [F.out]; simp), N2.out⟩
 ·have hne : (e1 != 0) = true := by simpa using h
  go_enter Tryz.func70, Tryz.ntmps70
  go_wp2_with fail
  refine (C1.out _).mono ?_
  rintro e w1 ⟨rfl, hb⟩
  have N1 : Hid (Below w.heap.size w w1) := Lib.hid (Bgo (Bal (Bal (Below.refl _ _) _) _) hb)
  clear hb
  go_wp2_with fail
  go_ret
  exact ⟨ret_int (by rw [F.out, if_pos h]), N1.out⟩
end Go.Proofs.YtfangplfbbgphaaGreatDoor
namespace Go.Proofs.YtfangplfbbgphaaGreatDoor
open Go.ChangeShapes Go.WideShapes Go.ChangeAt Go.RowKit
set_option linter.unusedVariables false
set_option maxRecDepth 100000
set_option linter.unusedSimpArgs false
attribute [local go_sem ↓] Go.wp_at_zero Go.wp_at_succ
abbrev Gv (a b : Int) : Value := .agg #[.int .i64 a, .int .i64 b]
def okG (a b : Int) : Prop := 1 ≤ a ∧ a ≤ 1000 ∧ 1 ≤ b ∧ b ≤ 1000
instance (a b : Int) : Decidable (okG a b) := by unfold okG; infer_instance
def errG (a b : Int) : Int := if okG a b then 0 else 2
def prmB (n d : Int) : Bool := okF n d && (decide (d ≤ 20) && (decide (-20 ≤ n) && decide (n ≤ 20)))
theorem gcheck_calls (a b : Int) (w : World) : Calls Tryz.prog 64 #[Gv a b] w fun e w' => e = .returned (.int .i64 (errG a b)) ∧ Below w.heap.size w w' := by
 have hc : a < 1 ∨ (1 ≤ a ∧ 1000 < a) ∨ (1 ≤ a ∧ a ≤ 1000 ∧ b < 1) ∨ (1 ≤ a ∧ a ≤ 1000 ∧ 1 ≤ b ∧ 1000 < b) ∨ (1 ≤ a ∧ a ≤ 1000 ∧ 1 ≤ b ∧ b ≤ 1000) := by omega
 have F : Hid (errG a b = if okG a b then 0 else 2) := Lib.hid rfl
 generalize errG a b = v at *
 rcases hc with h | ⟨h, h'⟩ | ⟨h, h', h''⟩ | ⟨h, h', h'', h3⟩ | ⟨h, h', h'', h3⟩
 all_goals
  first | (replace F : Hid (v = 0) := Lib.hid (F.out.trans (if_pos (by unfold okG; omega)))) | (replace F : Hid (v = 2) := Lib.hid (F.out.trans (if_neg (by unfold okG; omega))))
  go_enter Tryz.func64, Tryz.ntmps64
  go_wp2_with fail
  go_ret
  exact ⟨ret_int F.out.symm, Bal (Below.refl _ _) _⟩
theorem whole_calls (n : Int) (w : World) : Calls Tryz.prog 98 #[.int .i64 n] w fun e w' => e = .returned (Fv n 1) ∧ Below w.heap.size w w' := by
 go_enter Tryz.func98, Tryz.ntmps98
 go_wp2_with fail
 exact bodyPost_ret (v := Fv n 1) (by simp [results, Tryz.results98, go_sem]) rfl ⟨rfl, Bal (Below.refl _ _) _⟩
theorem refOf_calls (n : Int) (w : World) : Calls Tryz.prog 46 #[.int .i64 n] w fun e w' => e = .returned (Fv n 1) ∧ Below w.heap.size w w' := by
 go_enter Tryz.func46, Tryz.ntmps46
 go_wp2_with fail
 exact bodyPost_ret (v := Fv n 1) (by simp [results, Tryz.results46, go_sem]) rfl ⟨rfl, Bal (Below.refl _ _) _⟩
end Go.Proofs.YtfangplfbbgphaaGreatDoor
namespace Go.Proofs.YtfangplfbbgphaaGreatDoor
open Go.ChangeShapes Go.WideShapes Go.ChangeAt Go.RowKit
set_option linter.unusedVariables false
set_option maxRecDepth 100000
attribute [local go_sem ↓] Go.wp_at_zero Go.wp_at_succ
abbrev Rv (r : Int × Int × Int) : Value := .tuple #[Fv r.1 r.2.1, .int .i64 r.2.2]
def lowF (neg : Bool) (n d : Nat) : Int × Int × Int := if 1000000000000000000 < n ∨ 1000000000000000000 < d then (0, 0, 16) else (if neg then -(n : Int) else (n : Int), (d : Int), 0)
set_option maxHeartbeats 1000000 in
theorem build_calls (neg : Bool) (n d : Nat) (w : World) (hn : n < 18446744073709551616) (hd : d < 18446744073709551616) :
  Calls Tryz.prog 108 #[.bool neg, .int .u64 n, .int .u64 d] w fun e w' => e = .returned (Rv (lowF neg n d)) ∧ Below w.heap.size w w' := by
 have hv : (1000000000000000000 < n ∨ 1000000000000000000 < d) ∨ (n ≤ 1000000000000000000 ∧ d ≤ 1000000000000000000) := by omega
 rcases hv with h | ⟨h, h'⟩
 ·have F : Hid (lowF neg n d = (0, 0, 16)) := Lib.hid (by unfold lowF; rw [if_pos h])
  generalize lowF neg n d = v at *
  rcases h with h | h
  ·go_enter Tryz.func108, Tryz.ntmps108
   go_wp2_with fail
   refine bodyPost_ret (v := .tuple #[Fv 0 0, .int .i64 16]) (by simp [results, Tryz.results108, go_sem]) rfl ⟨by rw [F.out], ?_⟩
   repeat (first | exact Below.refl _ _ | refine Bal ?_ _ | refine Bset1 ?_ (by simp) _ _)
  ·have h9 : n ≤ 1000000000000000000 ∨ 1000000000000000000 < n := by omega
   rcases h9 with h9 | h9
   all_goals
    go_enter Tryz.func108, Tryz.ntmps108
    go_wp2_with fail
    refine bodyPost_ret (v := .tuple #[Fv 0 0, .int .i64 16]) (by simp [results, Tryz.results108, go_sem]) rfl ⟨by rw [F.out], ?_⟩
    repeat (first | exact Below.refl _ _ | refine Bal ?_ _ | refine Bset1 ?_ (by simp) _ _)
 ·have F : Hid (lowF neg n d = (if neg then -(n : Int) else (n : Int), (d : Int), 0)) := Lib.hid (by unfold lowF; rw [if_neg (by omega)])
  generalize lowF neg n d = v at *
  cases neg
  ·go_enter Tryz.func108, Tryz.ntmps108
   go_wp2_with fail
   refine bodyPost_ret (v := .tuple #[Fv n d, .int .i64 0]) (by simp [results, Tryz.results108, go_sem]) rfl ⟨by rw [F.out]; rfl, ?_⟩
   repeat (first | exact Below.refl _ _ | refine Bal ?_ _ | refine Bset1 ?_ (by simp) _ _)
  ·go_enter Tryz.func108, Tryz.ntmps108
   go_wp2_with fail
   refine bodyPost_ret (v := .tuple #[Fv (-(n : Int)) d, .int .i64 0]) (by simp [results, Tryz.results108, go_sem]) rfl ⟨by rw [F.out]; rfl, ?_⟩
   repeat (first | exact Below.refl _ _ | refine Bal ?_ _ | refine Bset1 ?_ (by simp) _ _)
theorem and32 (n : Nat) (hn : n < 18446744073709551616) : bits .and .u64 (n : Int) 4294967295 = ((n % 4294967296 : Nat) : Int) := by
 have := u64_and_nat n 4294967295 hn (by omega)
 rw [show ((4294967295 : Nat) : Int) = 4294967295 from rfl] at this
 rw [this]
 congr 1
 exact Nat.and_two_pow_sub_one_eq_mod n 32
end Go.Proofs.YtfangplfbbgphaaGreatDoor
namespace Go.Proofs.YtfangplfbbgphaaGreatDoor
open Go.ChangeShapes Go.WideShapes Go.ChangeAt Go.RowKit
set_option linter.unusedVariables false
set_option maxRecDepth 100000
attribute [local go_sem ↓] Go.wp_at_zero Go.wp_at_succ
abbrev Bv (a b c d : Nat) : Value := .agg #[.int .u64 a, .int .u64 b, .int .u64 c, .int .u64 d]
theorem blk3c (w : World) (x y z : Obj) : (((w.alloc x).alloc y).alloc z).heap[w.heap.size + 1 + 1]? = some z := blk_at z (by simp)
theorem blk3b (w : World) (x y z : Obj) : (((w.alloc x).alloc y).alloc z).heap[w.heap.size + 1]? = some y := blk_alloc (blk_at y (by simp)) z
end Go.Proofs.YtfangplfbbgphaaGreatDoor
namespace Go.Proofs.YtfangplfbbgphaaGreatDoor
open Go.ChangeShapes Go.WideShapes Go.ChangeAt Go.RowKit
set_option linter.unusedVariables false
set_option maxRecDepth 100000
attribute [local go_sem ↓] Go.wp_at_zero Go.wp_at_succ
theorem wrapN (q : Nat) (h : q < 18446744073709551616) : IntKind.u64.wrap (q : Int) = (q : Int) := by rw [IntKind.wrap_u64]; omega
def makeF (num den : Int) : Int × Int × Int := if den = 0 then (0, 0, 18) else lowF (decide (num < 0) != decide (den < 0)) (num.natAbs / Nat.gcd num.natAbs den.natAbs) (den.natAbs / Nat.gcd num.natAbs den.natAbs)
set_option maxHeartbeats 2000000 in
theorem make_calls (num den : Int) (w : World) (h1 : -9223372036854775808 ≤ num) (h2 : num ≤ 9223372036854775807) (h3 : -9223372036854775808 ≤ den) (h4 : den ≤ 9223372036854775807) :
  Calls Tryz.prog 125 #[.int .i64 num, .int .i64 den] w fun e w' => e = .returned (Rv (makeF num den)) ∧ Below w.heap.size w w' := by
 by_cases hd : den = 0
 ·have F : Hid (makeF num den = (0, 0, 18)) := Lib.hid (by unfold makeF; rw [if_pos hd])
  generalize makeF num den = v at *
  subst hd
  go_enter Tryz.func125, Tryz.ntmps125
  go_wp2_with fail
  refine bodyPost_ret (v := .tuple #[Fv 0 0, .int .i64 18]) (by simp [results, Tryz.results125, go_sem]) rfl ⟨by rw [F.out], ?_⟩
  repeat (first | exact Below.refl _ _ | refine Bal ?_ _ | refine Bset1 ?_ (by simp) _ _)
 ·have F : Hid (makeF num den = lowF (decide (num < 0) != decide (den < 0)) (num.natAbs / Nat.gcd num.natAbs den.natAbs) (den.natAbs / Nat.gcd num.natAbs den.natAbs)) := Lib.hid (by unfold makeF; rw [if_neg hd])
  have hne : (den == 0) = false := by simpa using hd
  generalize makeF num den = v at *
  have hg0 : 0 < Nat.gcd num.natAbs den.natAbs := Nat.gcd_pos_of_pos_right _ (by omega)
  have S1 := Lib.hid (fun W => size_calls num W h1 h2)
  have S2 := Lib.hid (fun W => size_calls den W h3 h4)
  have hx : num.natAbs ≤ 9223372036854775808 := by omega
  have hy : den.natAbs ≤ 9223372036854775808 := by omega
  generalize num.natAbs = x at *
  generalize den.natAbs = y at *
  have GC := Lib.hid (fun W => gcd_calls x y W (by omega) (by omega))
  generalize Nat.gcd x y = g at *
  have tx : (x : Int).tdiv (g : Int) = ((x / g : Nat) : Int) := by rw [Int.tdiv_eq_ediv_of_nonneg (by omega), Int.natCast_ediv]
  have ty : (y : Int).tdiv (g : Int) = ((y / g : Nat) : Int) := by rw [Int.tdiv_eq_ediv_of_nonneg (by omega), Int.natCast_ediv]
  have hx1 : x / g ≤ 9223372036854775808 := Nat.le_trans (Nat.div_le_self _ _) hx
  have hy1 : y / g ≤ 9223372036854775808 := Nat.le_trans (Nat.div_le_self _ _) hy
  generalize x / g = x1 at *
  generalize y / g = y1 at *
  have BC : Hid (∀ W, Calls Tryz.prog 108 #[.bool (!(decide (num < 0) == decide (den < 0))), .int .u64 x1, .int .u64 y1] W fun e w' => e = .returned (Rv (lowF (decide (num < 0) != decide (den < 0)) x1 y1)) ∧ Below W.heap.size W w') := Lib.hid (fun W => build_calls (decide (num < 0) != decide (den < 0)) x1 y1 W (by omega) (by omega))
  go_enter Tryz.func125, Tryz.ntmps125
  go_wp2_with fail
  refine (S1.out _).mono ?_
  rintro e w1 ⟨rfl, rfl⟩
  go_wp2_with fail
  refine (S2.out _).mono ?_
  rintro e w2 ⟨rfl, rfl⟩
  go_wp2_with fail
  refine (GC.out _).mono ?_
  rintro e w3 ⟨rfl, n3, rfl⟩
  go_wp2_with fail
  have Z0 : Hid (((w.alloc (.cells #[.int .i64 0, .int .i64 0] 36)).drewN n3).heap[w.heap.size]? = some (.cells #[.int .i64 0, .int .i64 0] 36)) := Lib.hid (blk_new w _)
  have N0 : Hid (Below w.heap.size w ((w.alloc (.cells #[.int .i64 0, .int .i64 0] 36)).drewN n3)) := Lib.hid (below_drewN (Bal (Below.refl _ _) _) _)
  generalize (w.alloc (.cells #[.int .i64 0, .int .i64 0] 36)).drewN n3 = W at *
  have gp2 : ¬ ((g : Int) = 0) := by omega
  have gp3 : ((g : Int) == 0) = false := by simpa using gp2
  have wx : IntKind.u64.wrap (x1 : Int) = (x1 : Int) := wrapN _ (by omega)
  have wy : IntKind.u64.wrap (y1 : Int) = (y1 : Int) := wrapN _ (by omega)
  generalize lowF (decide (num < 0) != decide (den < 0)) x1 y1 = r at *
  obtain ⟨r1, r2, r3⟩ := r
  have gp4 : ¬ g = 0 := by omega
  go_region_held3 (fun W => True) (trivial) ((go_at_call 108; (with_reducible refine (BC.out _).mono ?_); rintro e w4 ⟨rfl, hb⟩; have Z1 : Hid (w4.heap[w.heap.size]? = some (.cells #[.int .i64 0, .int .i64 0] 36)) := Lib.hid (by first | exact blk_next hb Z0.out | exact blk_next (W := W.drew) hb Z0.out); have N1 : Hid (Below w.heap.size w w4) := Lib.hid (by first | exact Bgo N0.out hb | exact Bgo N0.out.drew hb); have z0 : w4.cell? ⟨w.heap.size, 0, none⟩ = some (.int .i64 0) := blk_cell Z1.out 0 _ rfl; have z1 : w4.cell? ⟨w.heap.size, 1, none⟩ = some (.int .i64 0) := blk_cell Z1.out 1 _ rfl; have f0 : w4.frozen? ⟨w.heap.size, 0, none⟩ = false := blk_frozen Z1.out 0; have f1 : w4.frozen? ⟨w.heap.size, 1, none⟩ = false := blk_frozen Z1.out 1; clear hb))
  go_wp2_with fail
  have e1 : ((w4.setCell ⟨w.heap.size, 0, none⟩ (.int .i64 r1)).setCell ⟨w.heap.size, 1, none⟩ (.int .i64 r2)).cell? ⟨w.heap.size, 0, none⟩ = some (.int .i64 r1) := blk_cell (blk_set (blk_set Z1.out 0 _) 1 _) 0 _ rfl
  have e2 : ((w4.setCell ⟨w.heap.size, 0, none⟩ (.int .i64 r1)).setCell ⟨w.heap.size, 1, none⟩ (.int .i64 r2)).cell? ⟨w.heap.size, 1, none⟩ = some (.int .i64 r2) := blk_cell (blk_set (blk_set Z1.out 0 _) 1 _) 1 _ rfl
  refine bodyPost_ret (v := .tuple #[Fv r1 r2, .int .i64 r3]) (by simp [results, Tryz.results125, go_sem, e1, e2]) rfl ⟨by rw [F.out], Bset1 (Bset1 N1.out (by omega) _ _) (by omega) _ _⟩
end Go.Proofs.YtfangplfbbgphaaGreatDoor
namespace Go.Proofs.YtfangplfbbgphaaGreatDoor
open Go.ChangeShapes Go.WideShapes Go.ChangeAt Go.RowKit
set_option linter.unusedVariables false
set_option maxRecDepth 100000
set_option linter.unusedSimpArgs false
attribute [local go_sem ↓] Go.wp_at_zero Go.wp_at_succ
theorem prm_yes {n d : Int} (h : okF n d = true) (h1 : d ≤ 20) (h2 : -20 ≤ n) (h3 : n ≤ 20) : prmB n d = true := by unfold prmB; rw [h, decide_eq_true h1, decide_eq_true h2, decide_eq_true h3]; rfl
theorem prm_no {n d : Int} (h : okF n d = true) (h1 : ¬ (d ≤ 20 ∧ -20 ≤ n ∧ n ≤ 20)) : prmB n d = false := by
 unfold prmB; rw [h]; simp only [Bool.true_and, Bool.and_eq_false_iff, decide_eq_false_iff_not]; omega
theorem prm_bad {n d : Int} (h : okF n d = false) : prmB n d = false := by unfold prmB; rw [h]; rfl
theorem prm_facts {n d : Int} (h : prmB n d = true) : okF n d = true ∧ 1 ≤ d ∧ d ≤ 20 ∧ -20 ≤ n ∧ n ≤ 20 := by
 unfold prmB at h
 simp only [Bool.and_eq_true, decide_eq_true_eq] at h
 obtain ⟨h0, h1, h2, h3⟩ := h
 have h4 := h0
 unfold okF at h4
 simp only [Bool.and_eq_true, decide_eq_true_eq] at h4
 exact ⟨h0, h4.1.1, h1, h2, h3⟩
set_option maxRecDepth 100000 in
set_option maxHeartbeats 4000000 in
theorem param_calls (n d : Int) (w : World) : Calls Tryz.prog 95 #[Fv n d] w fun e w' => e = .returned (.bool (prmB n d)) ∧ Below w.heap.size w w' := by
 have C1 := Lib.hid (fun W => check_calls n d W)
 have NN := Lib.hid (Below.refl w.heap.size w)
 have HY := Lib.hid (fun (h : okF n d = true) (h1 : d ≤ 20) (h2 : -20 ≤ n) (h3 : n ≤ 20) => prm_yes h h1 h2 h3)
 have HN := Lib.hid (fun (h : okF n d = true) (h1 : ¬ (d ≤ 20 ∧ -20 ≤ n ∧ n ≤ 20)) => prm_no h h1)
 have HB := Lib.hid (fun (h : okF n d = false) => prm_bad h)
 generalize prmB n d = v at *
 cases ck : okF n d
 ·have E8 : errF n d = 8 := by unfold errF; rw [ck]; rfl
  rw [E8] at C1
  have FV := Lib.hid (HB.out ck)
  clear E8 ck HY HN HB
  go_enter Tryz.func95, Tryz.ntmps95
  go_wp2_with fail
  have P : Hid ((w.alloc (.cells #[.int .i64 n, .int .i64 d] 36)).heap[w.heap.size]? = some (.cells #[.int .i64 n, .int .i64 d] 36)) := Lib.hid (blk_new w _)
  replace NN : Hid (Below w.heap.size w (w.alloc (.cells #[.int .i64 n, .int .i64 d] 36))) := Lib.hid (Bal NN.out _)
  generalize (w.alloc (.cells #[.int .i64 n, .int .i64 d] 36)) = W1 at *
  refine (C1.out _).mono ?_
  rintro e w2 ⟨rfl, hb⟩
  replace NN := Lib.hid (Bgo NN.out hb)
  replace P := Lib.hid (blk_next hb P.out)
  clear hb
  have c_P_0 := blk_cell P.out 0 _ rfl
  have f_P_0 := blk_frozen P.out 0
  have c_P_1 := blk_cell P.out 1 _ rfl
  have f_P_1 := blk_frozen P.out 1
  have l_P := blk_lt P.out
  go_wp2_with fail
  go_ret
  exact ⟨ret_bool FV.out.symm, NN.out⟩
 ·have E0 : errF n d = 0 := by unfold errF; rw [ck]; rfl
  rw [E0] at C1
  have HK := Lib.hid ck
  clear E0 ck HB
  have hc : 20 < d ∨ (d ≤ 20 ∧ n < -20) ∨ (d ≤ 20 ∧ -20 ≤ n ∧ 20 < n) ∨ (d ≤ 20 ∧ -20 ≤ n ∧ n ≤ 20) := by omega
  rcases hc with h | ⟨h, h1⟩ | ⟨h, h1, h2⟩ | ⟨h, h1, h2⟩
  ·have FV := Lib.hid (HN.out HK.out (by omega))
   clear HY HN HK
   go_enter Tryz.func95, Tryz.ntmps95
   go_wp2_with fail
   have P : Hid ((w.alloc (.cells #[.int .i64 n, .int .i64 d] 36)).heap[w.heap.size]? = some (.cells #[.int .i64 n, .int .i64 d] 36)) := Lib.hid (blk_new w _)
   replace NN : Hid (Below w.heap.size w (w.alloc (.cells #[.int .i64 n, .int .i64 d] 36))) := Lib.hid (Bal NN.out _)
   generalize (w.alloc (.cells #[.int .i64 n, .int .i64 d] 36)) = W3 at *
   refine (C1.out _).mono ?_
   rintro e w4 ⟨rfl, hb⟩
   replace NN := Lib.hid (Bgo NN.out hb)
   replace P := Lib.hid (blk_next hb P.out)
   clear hb
   have c_P_0 := blk_cell P.out 0 _ rfl
   have f_P_0 := blk_frozen P.out 0
   have c_P_1 := blk_cell P.out 1 _ rfl
   have f_P_1 := blk_frozen P.out 1
   have l_P := blk_lt P.out
   go_wp2_with fail
   all_goals first | (exfalso; omega; done) | skip
   go_ret
   first | exact ⟨ret_bool FV.out.symm, NN.out⟩ | (refine ⟨ret_bool ?_, NN.out⟩; rw [FV.out]; first | exact decide_eq_false (by omega) | exact decide_eq_true (by omega))
  ·have FV := Lib.hid (HN.out HK.out (by omega))
   clear HY HN HK
   go_enter Tryz.func95, Tryz.ntmps95
   go_wp2_with fail
   have P : Hid ((w.alloc (.cells #[.int .i64 n, .int .i64 d] 36)).heap[w.heap.size]? = some (.cells #[.int .i64 n, .int .i64 d] 36)) := Lib.hid (blk_new w _)
   replace NN : Hid (Below w.heap.size w (w.alloc (.cells #[.int .i64 n, .int .i64 d] 36))) := Lib.hid (Bal NN.out _)
   generalize (w.alloc (.cells #[.int .i64 n, .int .i64 d] 36)) = W5 at *
   refine (C1.out _).mono ?_
   rintro e w6 ⟨rfl, hb⟩
   replace NN := Lib.hid (Bgo NN.out hb)
   replace P := Lib.hid (blk_next hb P.out)
   clear hb
   have c_P_0 := blk_cell P.out 0 _ rfl
   have f_P_0 := blk_frozen P.out 0
   have c_P_1 := blk_cell P.out 1 _ rfl
   have f_P_1 := blk_frozen P.out 1
   have l_P := blk_lt P.out
   go_wp2_with fail
   all_goals first | (exfalso; omega; done) | skip
   go_ret
   first | exact ⟨ret_bool FV.out.symm, NN.out⟩ | (refine ⟨ret_bool ?_, NN.out⟩; rw [FV.out]; first | exact decide_eq_false (by omega) | exact decide_eq_true (by omega))
  ·have FV := Lib.hid (HN.out HK.out (by omega))
   clear HY HN HK
   go_enter Tryz.func95, Tryz.ntmps95
   go_wp2_with fail
   have P : Hid ((w.alloc (.cells #[.int .i64 n, .int .i64 d] 36)).heap[w.heap.size]? = some (.cells #[.int .i64 n, .int .i64 d] 36)) := Lib.hid (blk_new w _)
   replace NN : Hid (Below w.heap.size w (w.alloc (.cells #[.int .i64 n, .int .i64 d] 36))) := Lib.hid (Bal NN.out _)
   generalize (w.alloc (.cells #[.int .i64 n, .int .i64 d] 36)) = W7 at *
   refine (C1.out _).mono ?_
   rintro e w8 ⟨rfl, hb⟩
   replace NN := Lib.hid (Bgo NN.out hb)
   replace P := Lib.hid (blk_next hb P.out)
   clear hb
   have c_P_0 := blk_cell P.out 0 _ rfl
   have f_P_0 := blk_frozen P.out 0
   have c_P_1 := blk_cell P.out 1 _ rfl
   have f_P_1 := blk_frozen P.out 1
   have l_P := blk_lt P.out
   go_wp2_with fail
   all_goals first | (exfalso; omega; done) | skip
   go_ret
   first | exact ⟨ret_bool FV.out.symm, NN.out⟩ | (refine ⟨ret_bool ?_, NN.out⟩; rw [FV.out]; first | exact decide_eq_false (by omega) | exact decide_eq_true (by omega))
  ·have FV := Lib.hid (HY.out HK.out h h1 h2)
   clear HY HN HK
   go_enter Tryz.func95, Tryz.ntmps95
   go_wp2_with fail
   have P : Hid ((w.alloc (.cells #[.int .i64 n, .int .i64 d] 36)).heap[w.heap.size]? = some (.cells #[.int .i64 n, .int .i64 d] 36)) := Lib.hid (blk_new w _)
   replace NN : Hid (Below w.heap.size w (w.alloc (.cells #[.int .i64 n, .int .i64 d] 36))) := Lib.hid (Bal NN.out _)
   generalize (w.alloc (.cells #[.int .i64 n, .int .i64 d] 36)) = W9 at *
   refine (C1.out _).mono ?_
   rintro e w10 ⟨rfl, hb⟩
   replace NN := Lib.hid (Bgo NN.out hb)
   replace P := Lib.hid (blk_next hb P.out)
   clear hb
   have c_P_0 := blk_cell P.out 0 _ rfl
   have f_P_0 := blk_frozen P.out 0
   have c_P_1 := blk_cell P.out 1 _ rfl
   have f_P_1 := blk_frozen P.out 1
   have l_P := blk_lt P.out
   go_wp2_with fail
   all_goals first | (exfalso; omega; done) | skip
   go_ret
   first | exact ⟨ret_bool FV.out.symm, NN.out⟩ | (refine ⟨ret_bool ?_, NN.out⟩; rw [FV.out]; first | exact decide_eq_false (by omega) | exact decide_eq_true (by omega))
end Go.Proofs.YtfangplfbbgphaaGreatDoor
namespace Go.Proofs.YtfangplfbbgphaaGreatDoor
open Go.ChangeShapes Go.WideShapes Go.ChangeAt Go.RowKit
set_option linter.unusedVariables false
set_option maxRecDepth 100000
attribute [local go_sem ↓] Go.wp_at_zero Go.wp_at_succ
theorem prod_lt {a b m : Nat} (ha : a ≤ m) (hb : b ≤ m) : a * b ≤ m * m := Nat.mul_le_mul ha hb
theorem mul64_plain {x y x0 x1 y0 y1 a b c d : Nat} (hx : x = 4294967296 * x1 + x0) (hy : y = 4294967296 * y1 + y0) (ha : x0 * y0 = a) (hb : x1 * y0 = b) (hc : x0 * y1 = c) (hd : x1 * y1 = d) : x * y = 18446744073709551616 * d + 4294967296 * (b + c) + a := by
 subst hx hy ha hb hc hd
 grind
set_option maxHeartbeats 1000000 in
theorem mul64_calls (x y : Nat) (w : World) (hx : x < 18446744073709551616) (hy : y < 18446744073709551616) :
  Calls Tryz.prog 102 #[.int .u64 x, .int .u64 y] w fun e w' => e = .returned (.tuple #[.int .u64 (x * y / 18446744073709551616 : Nat), .int .u64 (x * y % 18446744073709551616 : Nat)]) ∧ w = w' := by
 have b0 : x % 4294967296 ≤ 4294967295 := by omega
 have b1 : x / 4294967296 ≤ 4294967295 := by omega
 have b2 : y % 4294967296 ≤ 4294967295 := by omega
 have b3 : y / 4294967296 ≤ 4294967295 := by omega
 have EX : x = 4294967296 * (x / 4294967296) + x % 4294967296 := by omega
 have EY : y = 4294967296 * (y / 4294967296) + y % 4294967296 := by omega
 have r1 := and32 x hx
 have r2 : (x : Int) / 4294967296 = ((x / 4294967296 : Nat) : Int) := (Int.natCast_ediv x 4294967296).symm
 have r3 := and32 y hy
 have r4 : (y : Int) / 4294967296 = ((y / 4294967296 : Nat) : Int) := (Int.natCast_ediv y 4294967296).symm
 generalize x % 4294967296 = x0 at *
 generalize x / 4294967296 = x1 at *
 generalize y % 4294967296 = y0 at *
 generalize y / 4294967296 = y1 at *
 have p1 := prod_lt b0 b2
 have p2 := prod_lt b1 b2
 have p3 := prod_lt b0 b3
 have p4 := prod_lt b1 b3
 have PL := mul64_plain EX EY rfl rfl rfl rfl
 have m1 : (x0 : Int) * (y0 : Int) = ((x0 * y0 : Nat) : Int) := (Int.natCast_mul x0 y0).symm
 have m2 : (x1 : Int) * (y0 : Int) = ((x1 * y0 : Nat) : Int) := (Int.natCast_mul x1 y0).symm
 have m3 : (x0 : Int) * (y1 : Int) = ((x0 * y1 : Nat) : Int) := (Int.natCast_mul x0 y1).symm
 have m4 : (x1 : Int) * (y1 : Int) = ((x1 * y1 : Nat) : Int) := (Int.natCast_mul x1 y1).symm
 have m5 : IntKind.u64.wrap ((x : Int) * (y : Int)) = ((x * y % 18446744073709551616 : Nat) : Int) := by
  rw [IntKind.wrap_u64, ← Int.natCast_mul]; omega
 clear EX EY
 generalize x0 * y0 = a at *
 generalize x1 * y0 = b at *
 generalize x0 * y1 = c at *
 generalize x1 * y1 = d at *
 obtain ⟨hi, ehi⟩ : ∃ hi, x * y / 18446744073709551616 = hi := ⟨_, rfl⟩
 have EH : Hid (hi = d + (b + a / 4294967296) / 4294967296 + ((b + a / 4294967296) % 4294967296 + c) / 4294967296) := Lib.hid (by
  generalize x * y = xy at *; omega)
 have bh : hi ≤ 18446744073709551615 := by
  generalize hxy : x * y = xy at *
  have : xy ≤ 18446744073709551615 * 18446744073709551615 := by rw [← hxy]; exact prod_lt (by omega) (by omega)
  omega
 rw [ehi]
 clear ehi PL
 generalize x * y % 18446744073709551616 = lo at *
 have n1 : (a : Int) / 4294967296 = ((a / 4294967296 : Nat) : Int) := (Int.natCast_ediv a 4294967296).symm
 have l1 : a / 4294967296 ≤ 4294967295 := by omega
 generalize a / 4294967296 = q at *
 have n2 : (b : Int) + (q : Int) = ((b + q : Nat) : Int) := by omega
 have l2 : b + q < 18446744073709551616 := by omega
 have n3 := and32 (b + q) l2
 have n4 : ((b + q : Nat) : Int) / 4294967296 = (((b + q) / 4294967296 : Nat) : Int) := (Int.natCast_ediv (b + q) 4294967296).symm
 have l3 : (b + q) % 4294967296 ≤ 4294967295 := by omega
 have l4 : (b + q) / 4294967296 ≤ 4294967295 := by omega
 generalize (b + q) % 4294967296 = s at *
 generalize (b + q) / 4294967296 = t at *
 generalize b + q = u at *
 have n5 : (s : Int) + (c : Int) = ((s + c : Nat) : Int) := by omega
 have n6 : ((s + c : Nat) : Int) / 4294967296 = (((s + c) / 4294967296 : Nat) : Int) := (Int.natCast_ediv (s + c) 4294967296).symm
 have l5 : s + c < 18446744073709551616 := by omega
 have l6 : (s + c) / 4294967296 ≤ 4294967295 := by omega
 generalize (s + c) / 4294967296 = v at *
 generalize s + c = z at *
 have n7 : (d : Int) + (t : Int) = ((d + t : Nat) : Int) := by omega
 have l7 : d + t < 18446744073709551616 := by omega
 generalize hdt : d + t = dt at *
 have n8 : (dt : Int) + (v : Int) = (hi : Int) := by have := EH.out; omega
 clear EH
 go_enter Tryz.func102, Tryz.ntmps102
 go_wp2_with fail
 go_ret2
 exact ⟨rfl, rfl⟩
end Go.Proofs.YtfangplfbbgphaaGreatDoor
namespace Go.Proofs.YtfangplfbbgphaaGreatDoor
open Go.ChangeShapes Go.WideShapes Go.ChangeAt Go.RowKit
set_option linter.unusedVariables false
set_option maxRecDepth 100000
attribute [local go_sem ↓] Go.wp_at_zero Go.wp_at_succ
def mulF (an ad bn bd : Int) : Int × Int × Int :=
 lowF (decide (an < 0) != decide (bn < 0)) ((an.natAbs / Nat.gcd an.natAbs bd.natAbs) * (bn.natAbs / Nat.gcd bn.natAbs ad.natAbs)) ((ad.natAbs / Nat.gcd bn.natAbs ad.natAbs) * (bd.natAbs / Nat.gcd an.natAbs bd.natAbs))
theorem lowF_great {neg : Bool} {n d : Nat} (h : 1000000000000000000 < n ∨ 1000000000000000000 < d) : lowF neg n d = (0, 0, 16) := by unfold lowF; rw [if_pos h]
theorem tdivN (x g : Nat) : (x : Int).tdiv (g : Int) = ((x / g : Nat) : Int) := by rw [Int.tdiv_eq_ediv_of_nonneg (by omega), Int.natCast_ediv]
structure PK (w W : World) (an ad bn bd : Int) : Prop where
 a : W.heap[w.heap.size]? = some (.cells #[.int .i64 an, .int .i64 ad] 36)
 b : W.heap[w.heap.size + 1]? = some (.cells #[.int .i64 bn, .int .i64 bd] 36)
 z : W.heap[w.heap.size + 1 + 1]? = some (.cells #[.int .i64 0, .int .i64 0] 36)
 n : Below w.heap.size w W
theorem PK.next {w W W' : World} {an ad bn bd : Int} (h : PK w W an ad bn bd) (hb : Below W.heap.size W W') : PK w W' an ad bn bd := ⟨blk_next hb h.a, blk_next hb h.b, blk_next hb h.z, Bgo h.n hb⟩
theorem PK.drewN {w W : World} {an ad bn bd : Int} (h : PK w W an ad bn bd) (n : Nat) : PK w (W.drewN n) an ad bn bd := h.next (below_drewN (Below.refl _ _) n)
theorem PK.init (w : World) (an ad bn bd : Int) : PK w (((w.alloc (.cells #[.int .i64 an, .int .i64 ad] 36)).alloc (.cells #[.int .i64 bn, .int .i64 bd] 36)).alloc (.cells #[.int .i64 0, .int .i64 0] 36)) an ad bn bd :=
 ⟨blk_alloc (blk_alloc (blk_new w _) _) _, blk3b w _ _ _, blk3c w _ _ _, Bal (Bal (Bal (Below.refl _ _) _) _) _⟩
theorem undrewB {a b : World} (h : Below a.drew.heap.size a.drew b) : Below a.heap.size a b := ⟨h.os, h.tape, h.output, h.size, h.block⟩
set_option maxRecDepth 100000 in
set_option maxHeartbeats 4000000 in
theorem product_calls (an ad bn bd : Int) (w : World) (h1 : -9223372036854775808 ≤ an) (h2 : an ≤ 9223372036854775807) (h3 : 1 ≤ ad) (h4 : ad ≤ 9223372036854775807) (h5 : -9223372036854775808 ≤ bn) (h6 : bn ≤ 9223372036854775807) (h7 : 1 ≤ bd) (h8 : bd ≤ 9223372036854775807) :
  Calls Tryz.prog 126 #[Fv an ad, Fv bn bd] w fun e w' => e = .returned (Rv (mulF an ad bn bd)) ∧ Below w.heap.size w w' := by
 have F : Hid (mulF an ad bn bd = lowF (decide (an < 0) != decide (bn < 0)) ((an.natAbs / Nat.gcd an.natAbs bd.natAbs) * (bn.natAbs / Nat.gcd bn.natAbs ad.natAbs)) ((ad.natAbs / Nat.gcd bn.natAbs ad.natAbs) * (bd.natAbs / Nat.gcd an.natAbs bd.natAbs))) := Lib.hid rfl
 generalize mulF an ad bn bd = res at *
 have S1 := Lib.hid (fun W => size_calls an W h1 h2)
 have S2 := Lib.hid (fun W => size_calls ad W (by omega) h4)
 have S3 := Lib.hid (fun W => size_calls bn W h5 h6)
 have S4 := Lib.hid (fun W => size_calls bd W (by omega) h8)
 have hx : an.natAbs ≤ 9223372036854775808 := by omega
 have hy : ad.natAbs ≤ 9223372036854775808 := by omega
 have hu : bn.natAbs ≤ 9223372036854775808 := by omega
 have hv : bd.natAbs ≤ 9223372036854775808 := by omega
 have hg0 : 0 < Nat.gcd an.natAbs bd.natAbs := Nat.gcd_pos_of_pos_right _ (by omega)
 have hh0 : 0 < Nat.gcd bn.natAbs ad.natAbs := Nat.gcd_pos_of_pos_right _ (by omega)
 generalize an.natAbs = x at *
 generalize ad.natAbs = y at *
 generalize bn.natAbs = u at *
 generalize bd.natAbs = v at *
 have G1 := Lib.hid (fun W => gcd_calls x v W (by omega) (by omega))
 have G2 := Lib.hid (fun W => gcd_calls u y W (by omega) (by omega))
 generalize Nat.gcd x v = g at *
 generalize Nat.gcd u y = h at *
 have t1 := tdivN x g
 have t2 := tdivN u h
 have t3 := tdivN y h
 have t4 := tdivN v g
 have l1 : x / g ≤ 9223372036854775808 := Nat.le_trans (Nat.div_le_self _ _) hx
 have l2 : u / h ≤ 9223372036854775808 := Nat.le_trans (Nat.div_le_self _ _) hu
 have l3 : y / h ≤ 9223372036854775808 := Nat.le_trans (Nat.div_le_self _ _) hy
 have l4 : v / g ≤ 9223372036854775808 := Nat.le_trans (Nat.div_le_self _ _) hv
 generalize x / g = x1 at *
 generalize u / h = u1 at *
 generalize y / h = y1 at *
 generalize v / g = v1 at *
 have M1 := Lib.hid (fun W => mul64_calls x1 u1 W (by omega) (by omega))
 have M2 := Lib.hid (fun W => mul64_calls y1 v1 W (by omega) (by omega))
 generalize x1 * u1 = P at *
 generalize y1 * v1 = Q at *
 have hp : P % 18446744073709551616 < 18446744073709551616 := Nat.mod_lt _ (by omega)
 have hq : Q % 18446744073709551616 < 18446744073709551616 := Nat.mod_lt _ (by omega)
 have BC : Hid (∀ W, Calls Tryz.prog 108 #[.bool (!(decide (an < 0) == decide (bn < 0))), .int .u64 (P % 18446744073709551616 : Nat), .int .u64 (Q % 18446744073709551616 : Nat)] W fun e w' => e = .returned (Rv (lowF (decide (an < 0) != decide (bn < 0)) (P % 18446744073709551616) (Q % 18446744073709551616))) ∧ Below W.heap.size W w') := Lib.hid (fun W => build_calls (decide (an < 0) != decide (bn < 0)) _ _ W hp hq)
 have BIG : Hid (¬ P / 18446744073709551616 = 0 ∨ ¬ Q / 18446744073709551616 = 0 → res = (0, 0, 16)) := Lib.hid (fun hh => by rw [F.out]; exact lowF_great (by omega))
 have SML : Hid (P / 18446744073709551616 = 0 → Q / 18446744073709551616 = 0 → res = lowF (decide (an < 0) != decide (bn < 0)) (P % 18446744073709551616) (Q % 18446744073709551616)) := Lib.hid (fun e1 e2 => by rw [F.out]; congr 1 <;> omega)
 clear F
 generalize P % 18446744073709551616 = p0 at *
 generalize Q % 18446744073709551616 = q0 at *
 generalize P / 18446744073709551616 = p1 at *
 generalize Q / 18446744073709551616 = q1 at *
 have gp4 : ¬ g = 0 := by omega
 have hp4 : ¬ h = 0 := by omega
 have wx : IntKind.u64.wrap (x1 : Int) = (x1 : Int) := wrapN _ (by omega)
 have wu : IntKind.u64.wrap (u1 : Int) = (u1 : Int) := wrapN _ (by omega)
 have wy : IntKind.u64.wrap (y1 : Int) = (y1 : Int) := wrapN _ (by omega)
 have wv : IntKind.u64.wrap (v1 : Int) = (v1 : Int) := wrapN _ (by omega)
 go_enter Tryz.func126, Tryz.ntmps126
 go_wp2_with fail
 go_quiet ((first | (go_at_call 100; (with_reducible exact quiet_left (S1.out _))) | (go_at_call 100; (with_reducible exact quiet_left (S2.out _))) | (go_at_call 100; (with_reducible exact quiet_left (S3.out _))) | (go_at_call 100; (with_reducible exact quiet_left (S4.out _)))))
 have K := Lib.hid ((PK.init w an ad bn bd).drewN nq)
 generalize (((w.alloc (.cells #[.int .i64 an, .int .i64 ad] 36)).alloc (.cells #[.int .i64 bn, .int .i64 bd] 36)).alloc (.cells #[.int .i64 0, .int .i64 0] 36)).drewN nq = W0 at *
 go_wp2_with fail
 refine (G1.out _).mono ?_
 rintro e w1 ⟨rfl, n1, rfl⟩
 replace K := Lib.hid (K.out.drewN n1)
 generalize W0.drewN n1 = W1 at *
 go_wp2_with fail
 refine (G2.out _).mono ?_
 rintro e w2 ⟨rfl, n2, rfl⟩
 replace K := Lib.hid (K.out.drewN n2)
 generalize W1.drewN n2 = W2 at *
 go_wp2_with fail
 go_quiet ((go_at_call 102; (with_reducible exact quiet_left (M1.out _))))
 replace K := Lib.hid (K.out.drewN nq)
 generalize W2.drewN nq = W3 at *
 go_wp2_with fail
 go_quiet ((go_at_call 102; (with_reducible exact quiet_left (M2.out _))))
 replace K := Lib.hid (K.out.drewN nq)
 generalize W3.drewN nq = W4 at *
 clear t1 t2 t3 t4 wx wu wy wv
 have a0 := blk_cell K.out.a 0 _ rfl
 have b0 := blk_cell K.out.b 0 _ rfl
 have z0 := blk_cell K.out.z 0 _ rfl
 have z1 := blk_cell K.out.z 1 _ rfl
 have f0 := blk_frozen K.out.z 0
 have f1 := blk_frozen K.out.z 1
 by_cases c1 : p1 = 0
 ·have c1' : ((p1 : Int) != 0) = false := by rw [c1]; rfl
  by_cases c2 : q1 = 0
  ·have c2' : ((q1 : Int) != 0) = false := by rw [c2]; rfl
   have F2 := Lib.hid (SML.out c1 c2)
   clear SML BIG c1 c2
   generalize lowF (decide (an < 0) != decide (bn < 0)) p0 q0 = r at *
   obtain ⟨r1, r2, r3⟩ := r
   go_wp2_with fail
   refine (BC.out _).mono ?_
   rintro e w4 ⟨rfl, hb⟩
   replace K := Lib.hid (K.out.next hb)
   clear hb a0 b0 z0 z1 f0 f1
   have z0 := blk_cell K.out.z 0 _ rfl
   have z1 := blk_cell K.out.z 1 _ rfl
   have f0 := blk_frozen K.out.z 0
   have f1 := blk_frozen K.out.z 1
   go_wp2_with fail
   have e1 := blk_cell (blk_set (blk_set K.out.z 0 (.int .i64 r1)) 1 (.int .i64 r2)) 0 _ rfl
   have e2 := blk_cell (blk_set (blk_set K.out.z 0 (.int .i64 r1)) 1 (.int .i64 r2)) 1 _ rfl
   refine bodyPost_ret (v := .tuple #[Fv r1 r2, .int .i64 r3]) (by simp [results, Tryz.results126, go_sem, e1, e2]) rfl ⟨by rw [F2.out], Bset1 (Bset1 K.out.n (by omega) _ _) (by omega) _ _⟩
  ·have c2' : ((q1 : Int) != 0) = true := by rw [bne_iff_ne]; omega
   have F2 := Lib.hid (BIG.out (.inr c2))
   clear SML BIG c1 c2
   go_wp2_with fail
   have e1 := blk_cell (blk_set (blk_set K.out.z 0 (.int .i64 0)) 1 (.int .i64 0)) 0 _ rfl
   have e2 := blk_cell (blk_set (blk_set K.out.z 0 (.int .i64 0)) 1 (.int .i64 0)) 1 _ rfl
   refine bodyPost_ret (v := .tuple #[Fv 0 0, .int .i64 16]) (by simp [results, Tryz.results126, go_sem, e1, e2]) rfl ⟨by rw [F2.out], Bset1 (Bset1 K.out.n (by omega) _ _) (by omega) _ _⟩
 ·have c1' : ((p1 : Int) != 0) = true := by rw [bne_iff_ne]; omega
  have F2 := Lib.hid (BIG.out (.inl c1))
  clear SML BIG c1
  go_wp2_with fail
  have e1 := blk_cell (blk_set (blk_set K.out.z 0 (.int .i64 0)) 1 (.int .i64 0)) 0 _ rfl
  have e2 := blk_cell (blk_set (blk_set K.out.z 0 (.int .i64 0)) 1 (.int .i64 0)) 1 _ rfl
  refine bodyPost_ret (v := .tuple #[Fv 0 0, .int .i64 16]) (by simp [results, Tryz.results126, go_sem, e1, e2]) rfl ⟨by rw [F2.out], Bset1 (Bset1 K.out.n (by omega) _ _) (by omega) _ _⟩
end Go.Proofs.YtfangplfbbgphaaGreatDoor
namespace Go.Proofs.YtfangplfbbgphaaGreatDoor
open Go.ChangeShapes Go.WideShapes Go.ChangeAt Go.RowKit
set_option linter.unusedVariables false
set_option maxRecDepth 100000
attribute [local go_sem ↓] Go.wp_at_zero Go.wp_at_succ
def dg : Nat → Nat → Nat
 | n, 0 => n % 4294967296
 | n, i + 1 => dg (n / 4294967296) i
abbrev Dv (n : Nat) : Value := Bv (dg n 0) (dg n 1) (dg n 2) (dg n 3)
end Go.Proofs.YtfangplfbbgphaaGreatDoor
namespace Go.Proofs.YtfangplfbbgphaaGreatDoor
open Go.ChangeShapes Go.WideShapes Go.ChangeAt Go.RowKit
set_option linter.unusedVariables false
set_option maxRecDepth 100000
attribute [local go_sem ↓] Go.wp_at_zero Go.wp_at_succ
structure VF (n d : Int) : Prop where
 d1 : 1 ≤ d
 d2 : d ≤ 1000000000000000000
 n1 : -1000000000000000000 ≤ n
 n2 : n ≤ 1000000000000000000
 g : Nat.gcd n.natAbs d.natAbs = 1
theorem errF_ok {n d : Int} (h : errF n d = 0) : VF n d := by
 unfold errF at h
 by_cases c : okF n d = true
 ·unfold okF at c
  rw [Bool.and_eq_true, decide_eq_true_eq, beq_iff_eq] at c
  exact ⟨c.1.1, c.1.2.1, c.1.2.2.1, c.1.2.2.2, c.2⟩
 ·rw [if_neg c] at h; cases h
theorem VF.err {n d : Int} (h : VF n d) : errF n d = 0 := by
 rw [errF_in ⟨h.d1, h.d2, h.n1, h.n2⟩, h.g]; rfl
theorem errB_ok {an ad bn bd : Int} (h : errB an ad bn bd = 0) : VF an ad ∧ VF bn bd := by
 unfold errB at h
 by_cases c : errF an ad ≠ 0
 ·rw [if_pos c] at h; exact absurd h c
 ·rw [if_neg c] at h
  exact ⟨errF_ok (by simpa using c), errF_ok h⟩
theorem VF.both {an ad bn bd : Int} (h : VF an ad) (k : VF bn bd) : errB an ad bn bd = 0 := by
 unfold errB; rw [if_neg (by rw [h.err]; decide)]; exact k.err
def mulR (an ad bn bd : Int) : Int × Int × Int := if errB an ad bn bd = 0 then mulF an ad bn bd else (0, 0, errB an ad bn bd)
def divR (an ad bn bd : Int) : Int × Int × Int := if errB an ad bn bd = 0 then (if bn = 0 then (0, 0, 18) else if bn < 0 then mulF an ad (-bd) (-bn) else mulF an ad bd bn) else (0, 0, errB an ad bn bd)
theorem VF.over {n d : Int} (h : VF n d) : (n < 0 → VF (-d) (-n)) ∧ (0 < n → VF d n) := by
 have g2 : Nat.gcd d.natAbs n.natAbs = 1 := by rw [Nat.gcd_comm]; exact h.g
 have := h.d1
 have := h.d2
 have := h.n1
 have := h.n2
 refine ⟨fun hn => ⟨by omega, by omega, by omega, by omega, ?_⟩, fun hn => ⟨by omega, by omega, by omega, by omega, g2⟩⟩
 rw [Int.natAbs_neg, Int.natAbs_neg]; exact g2
set_option maxRecDepth 100000 in
set_option maxHeartbeats 8000000 in
theorem mul_calls (an ad bn bd : Int) (w : World) :
  Calls Tryz.prog 97 #[Fv an ad, Fv bn bd] w fun e w' => e = .returned (Rv (mulR an ad bn bd)) ∧ Below w.heap.size w w' := by
 have C1 := Lib.hid (fun W => both_calls an ad bn bd W)
 by_cases ck : errB an ad bn bd = 0
 rotate_left
 ·have F : Hid (mulR an ad bn bd = (0, 0, errB an ad bn bd)) := Lib.hid (by unfold mulR; rw [if_neg ck])
  have ck' : (errB an ad bn bd != 0) = true := by rw [bne_iff_ne]; exact ck
  generalize mulR an ad bn bd = res at *
  generalize errB an ad bn bd = er at *
  clear ck
  go_enter Tryz.func97, Tryz.ntmps97
  go_wp2_with fail
  refine (C1.out _).mono ?_
  rintro e w1 ⟨rfl, hb⟩
  have K := Lib.hid ((PK.init w an ad bn bd).next hb)
  clear hb
  have z0 := blk_cell K.out.z 0 _ rfl
  have z1 := blk_cell K.out.z 1 _ rfl
  have f0 := blk_frozen K.out.z 0
  have f1 := blk_frozen K.out.z 1
  go_wp2_with fail
  have e1 := blk_cell (blk_set (blk_set K.out.z 0 (.int .i64 0)) 1 (.int .i64 0)) 0 _ rfl
  have e2 := blk_cell (blk_set (blk_set K.out.z 0 (.int .i64 0)) 1 (.int .i64 0)) 1 _ rfl
  refine bodyPost_ret (v := .tuple #[Fv 0 0, .int .i64 er]) (by simp [results, Tryz.results97, go_sem, e1, e2]) rfl ⟨by rw [F.out], Bset1 (Bset1 K.out.n (by omega) _ _) (by omega) _ _⟩
 ·have F : Hid (mulR an ad bn bd = mulF an ad bn bd) := Lib.hid (by unfold mulR; rw [if_pos ck])
  obtain ⟨va, vb⟩ := errB_ok ck
  rw [ck] at C1
  have PC := Lib.hid (fun W => product_calls an ad bn bd W (by have := va.n1; omega) (by have := va.n2; omega) va.d1 (by have := va.d2; omega) (by have := vb.n1; omega) (by have := vb.n2; omega) vb.d1 (by have := vb.d2; omega))
  generalize mulR an ad bn bd = res at *
  generalize mulF an ad bn bd = r at *
  obtain ⟨r1, r2, r3⟩ := r
  clear ck va vb
  go_enter Tryz.func97, Tryz.ntmps97
  go_wp2_with fail
  refine (C1.out _).mono ?_
  rintro e w1 ⟨rfl, hb⟩
  have K := Lib.hid ((PK.init w an ad bn bd).next hb)
  clear hb
  have a0 := blk_cell K.out.a 0 _ rfl
  have a1 := blk_cell K.out.a 1 _ rfl
  have b0 := blk_cell K.out.b 0 _ rfl
  have b1 := blk_cell K.out.b 1 _ rfl
  go_wp2_with fail
  refine (PC.out _).mono ?_
  rintro e w2 ⟨rfl, hb⟩
  replace K := Lib.hid (K.out.next hb)
  clear hb
  clear a0 a1 b0 b1
  have z0 := blk_cell K.out.z 0 _ rfl
  have z1 := blk_cell K.out.z 1 _ rfl
  have f0 := blk_frozen K.out.z 0
  have f1 := blk_frozen K.out.z 1
  go_wp2_with fail
  have e1 := blk_cell (blk_set (blk_set K.out.z 0 (.int .i64 r1)) 1 (.int .i64 r2)) 0 _ rfl
  have e2 := blk_cell (blk_set (blk_set K.out.z 0 (.int .i64 r1)) 1 (.int .i64 r2)) 1 _ rfl
  refine bodyPost_ret (v := .tuple #[Fv r1 r2, .int .i64 r3]) (by simp [results, Tryz.results97, go_sem, e1, e2]) rfl ⟨by rw [F.out], Bset1 (Bset1 K.out.n (by omega) _ _) (by omega) _ _⟩
end Go.Proofs.YtfangplfbbgphaaGreatDoor
namespace Go.Proofs.YtfangplfbbgphaaGreatDoor
open Go.ChangeShapes Go.WideShapes Go.ChangeAt Go.RowKit
set_option linter.unusedVariables false
set_option maxRecDepth 100000
attribute [local go_sem ↓] Go.wp_at_zero Go.wp_at_succ
def cmpI (x y : Int) : Int := if y < x then 1 else if x = y then 0 else -1
theorem cmpI_gt {x y : Int} (h : y < x) : cmpI x y = 1 := by unfold cmpI; rw [if_pos h]
theorem cmpI_eq {x y : Int} (h : x = y) : cmpI x y = 0 := by unfold cmpI; rw [if_neg (by omega), if_pos h]
theorem cmpI_lt {x y : Int} (h : x < y) : cmpI x y = -1 := by unfold cmpI; rw [if_neg (by omega), if_neg (by omega)]
theorem wider_calls (ah al bh bl : Nat) (w : World) (h1 : al < 18446744073709551616) (h2 : bl < 18446744073709551616) :
  Calls Tryz.prog 104 #[.int .u64 ah, .int .u64 al, .int .u64 bh, .int .u64 bl] w fun e w' => e = .returned (.int .i64 (cmpI ((18446744073709551616 * ah + al : Nat) : Int) ((18446744073709551616 * bh + bl : Nat) : Int))) ∧ w = w' := by
 have hc : bh < ah ∨ (ah = bh ∧ bl < al) ∨ (ah = bh ∧ al = bl) ∨ (ah = bh ∧ al < bl) ∨ ah < bh := by omega
 rcases hc with h | ⟨h, h'⟩ | ⟨h, h'⟩ | ⟨h, h'⟩ | h
 ·rw [cmpI_gt (by omega)]
  have q1 : decide ((bh : Int) < (ah : Int)) = true := decide_eq_true (by omega)
  have q2 : ((ah : Int) == (bh : Int)) = false := by rw [beq_eq_false_iff_ne]; omega
  go_enter Tryz.func104, Tryz.ntmps104
  go_wp2_with fail
  go_ret
  exact ⟨rfl, rfl⟩
 ·rw [cmpI_gt (by omega)]
  subst h
  have q0 : ¬ ah < ah := by omega
  go_enter Tryz.func104, Tryz.ntmps104
  go_wp2_with fail
  go_ret
  exact ⟨rfl, rfl⟩
 ·rw [cmpI_eq (by omega)]
  subst h h'
  have q0 : ¬ ah < ah := by omega
  have q1 : ¬ al < al := by omega
  go_enter Tryz.func104, Tryz.ntmps104
  go_wp2_with fail
  go_ret
  exact ⟨rfl, rfl⟩
 ·rw [cmpI_lt (by omega)]
  subst h
  have q0 : ¬ ah < ah := by omega
  have q1 : ¬ bl < al := by omega
  have q2 : ((al : Int) == (bl : Int)) = false := by rw [beq_eq_false_iff_ne]; omega
  go_enter Tryz.func104, Tryz.ntmps104
  go_wp2_with fail
  go_ret
  exact ⟨rfl, rfl⟩
 ·rw [cmpI_lt (by omega)]
  have q0 : ¬ bh < ah := by omega
  have q2 : ((ah : Int) == (bh : Int)) = false := by rw [beq_eq_false_iff_ne]; omega
  go_enter Tryz.func104, Tryz.ntmps104
  go_wp2_with fail
  go_ret
  exact ⟨rfl, rfl⟩
end Go.Proofs.YtfangplfbbgphaaGreatDoor
set_option linter.unusedVariables false
set_option maxRecDepth 100000
namespace Farey
def ex (x y : Int) : List Int := if h : 0 < y then (x / y) :: ex y (x % y) else []
termination_by y.toNat
decreasing_by
  have h1 := Int.emod_lt_of_pos x h
  have h2 := Int.emod_nonneg x (show y ≠ 0 by omega)
  omega
end Farey
namespace Go.Proofs.YtfangplfbbgphaaGreatDoor
open Go.ChangeShapes Go.WideShapes Go.ChangeAt Go.RowKit
set_option linter.unusedVariables false
set_option maxRecDepth 100000
attribute [local go_sem ↓] Go.wp_at_zero Go.wp_at_succ
structure P1 (w W : World) (N D : Int) : Prop where
 a : W.heap[w.heap.size]? = some (.cells #[.int .i64 N, .int .i64 D] 36)
 z : W.heap[w.heap.size + 1]? = some (.cells #[.int .i64 0, .int .i64 0] 36)
 n : Below w.heap.size w W
theorem P1.next {w W W' : World} {N D : Int} (h : P1 w W N D) (hb : Below W.heap.size W W') : P1 w W' N D := ⟨blk_next hb h.a, blk_next hb h.z, Bgo h.n hb⟩
theorem P1.drewN {w W : World} {N D : Int} (h : P1 w W N D) (n : Nat) : P1 w (W.drewN n) N D := h.next (below_drewN (Below.refl _ _) n)
theorem P1.init (w : World) (N D : Int) : P1 w ((w.alloc (.cells #[.int .i64 N, .int .i64 D] 36)).alloc (.cells #[.int .i64 0, .int .i64 0] 36)) N D := ⟨blk1 w _ _, blk2 w _ _, Bal (Bal (Below.refl _ _) _) _⟩
end Go.Proofs.YtfangplfbbgphaaGreatDoor
namespace Go.Proofs.YtfangplfbbgphaaGreatDoor
open Go.ChangeShapes Go.WideShapes Go.ChangeAt Go.RowKit
set_option linter.unusedVariables false
set_option maxRecDepth 100000
def Rd (w : World) (size : Nat) (A : Option Addr) (n : Nat) (xs : List Value) : Prop :=
 xs.length = n * size ∧ (0 < n → ∃ b off, A = some ⟨b, off, none⟩ ∧ b < w.heap.size ∧ ∀ j u, xs[j]? = some u → w.cell? ⟨b, off + j, none⟩ = some u)
theorem Rd.next {w w' : World} (hb : Below w.heap.size w w') {size n : Nat} {A : Option Addr} {xs : List Value} (h : Rd w size A n xs) : Rd w' size A n xs :=
 ⟨h.1, fun hn => by
  obtain ⟨b, off, e, hl, hc⟩ := h.2 hn
  exact ⟨b, off, e, Nat.lt_of_lt_of_le hl hb.size, fun j u hu => (hb.cell hl).trans (hc j u hu)⟩⟩
theorem Rd.of_own {w : World} {base : Nat} {e : TypeId} {size n : Nat} {v : Value} {xs : List Value} (h : w.ownsRow base e size v n xs) : ∃ A cap, v = .slice A n cap ∧ n ≤ cap ∧ cap ≤ 9223372036854775807 ∧ Rd w size A n xs := by
 have h1 := h.1
 rcases h.2 with ⟨h3, h2⟩ | ⟨g, cap, cur, hv, hb, hg, hc, hm, hs, ht⟩
 ·subst h2; exact ⟨none, 0, h3, by omega, by omega, h1, fun hn => absurd hn (by omega)⟩
 ·refine ⟨_, cap, hv, hc, by simpa [maxLen] using hm, h1, fun hn => ⟨g, 0, rfl, blk_lt hg, fun j u hu => ?_⟩⟩
  refine blk_cell hg (0 + j) u ?_
  rw [← ht, List.getElem?_take] at hu
  split at hu
  ·simpa using hu
  ·simp at hu
section
variable {P : Program} (w : World)
theorem run_append_nilsrc (base : Nat) (t ty e : TypeId) (i : TypeInfo) (size : Nat) (ht : P.underlying t = some (.slice e)) (hi : P.info? e = some i)
  (v : Value) (n : Nat) (xs : List Value) (hown : w.ownsRow base e size v n xs) (c : Nat) : (Builtin.append_ #[t, t] ty #[v, .slice none 0 c]).run P w = .ok v w := by
 rcases hown.2 with ⟨rfl, rfl⟩ | ⟨g, cap, cur, rfl, _, _, hnc, _⟩
 ·simp [Builtin.append_, run_underlying ht, sizeOf, typeInfo, hi, Builtin.lenOf, Builtin.firstCells]
 ·simp [Builtin.append_, run_underlying ht, sizeOf, typeInfo, hi, Builtin.lenOf, Builtin.firstCells, hnc, storeCells]
theorem run_append_rd (base : Nat) (t ty e : TypeId) (i : TypeInfo) (z : Value) (size bytes : Nat) (ht : P.underlying t = some (.slice e)) (hi : P.info? e = some i) (hz : i.zero = some z)
  (hsize : i.size = size) (hby : i.bytes = bytes) (hzs : z.cells.size = size) (hsz : 0 < size)
  (v : Value) (n : Nat) (xs : List Value) (hown : w.ownsRow base e size v n xs)
  (A : Option Addr) (m c : Nat) (news : List Value) (hr : Rd w size A m news) (h1 : ∀ u ∈ news, u.oneCell' = true)
  (h63 : n + m ≤ maxLen) (hbytes : (n + m) * bytes ≤ 140737488355328) (hbase : base ≤ w.heap.size) :
  ∃ v' w', (Builtin.append_ #[t, t] ty #[v, .slice A m c]).run P w = .ok v' w' ∧ w'.ownsRow base e size v' (n + m) (xs ++ news) ∧ w.grownBy w' v.ownBlock ∧
   (v'.ownBlock = v.ownBlock ∨ v'.ownBlock = some w.heap.size) := by
 rcases Nat.eq_zero_or_pos m with h0 | h0
 ·subst h0
  have hn : news = [] := List.eq_nil_of_length_eq_zero (by simpa using hr.1)
  subst hn
  rcases A with _ | ad
  ·exact ⟨v, w, run_append_nilsrc w base t ty e i size ht hi v n xs hown c, by simpa using hown, World.grownBy.refl w _, .inl rfl⟩
  ·obtain ⟨v', w', hrun, h2, h3, _, h5⟩ := run_append_own_at (P := P) w base t ty e i z size bytes ht hi hz hsize hby hzs hsz v n xs hown ad 0 c [] (by simp) (by simp) (by simp) h63 hbytes hbase
   exact ⟨v', w', hrun, h2, h3, h5⟩
 ·obtain ⟨b, off, rfl, hl, hc⟩ := hr.2 h0
  have hcells : ∀ j u, news[j]? = some u → w.cell? ((⟨b, off, none⟩ : Addr).add j) = some u := by
   intro j u hu
   have e : (⟨b, off, none⟩ : Addr).add j = ⟨b, off + j, none⟩ := by
    unfold Addr.add; split
    ·rename_i h; subst h; rfl
    ·rfl
   rw [e]; exact hc j u hu
  obtain ⟨v', w', hrun, h2, h3, _, h5⟩ := run_append_own_at (P := P) w base t ty e i z size bytes ht hi hz hsize hby hzs hsz v n xs hown ⟨b, off, none⟩ m c news hr.1 hcells h1 h63 hbytes hbase
  exact ⟨v', w', hrun, h2, h3, h5⟩
theorem wp_append_rd {o : Oper} {a : Act} {K : Act → World → Prop} {Q : Exit → Act → World → Prop} (s x : Operand) (t : TypeId)
  (ho : o.op = .call { callee := .builtin .append, args := #[s, x], argTypes := #[t, t] })
  (base : Nat) (e : TypeId) (i : TypeInfo) (z : Value) (size bytes : Nat) (ht : P.underlying t = some (.slice e)) (hi : P.info? e = some i) (hz : i.zero = some z)
  (hsize : i.size = size) (hby : i.bytes = bytes) (hzs : z.cells.size = size) (hsz : 0 < size)
  (v : Value) (n : Nat) (xs : List Value) (hs : a.eval s = v) (hown : w.ownsRow base e size v n xs)
  (A : Option Addr) (m c : Nat) (news : List Value) (hx : a.eval x = .slice A m c) (hr : Rd w size A m news) (h1 : ∀ u ∈ news, u.oneCell' = true)
  (h63 : n + m ≤ maxLen) (hbytes : (n + m) * bytes ≤ 140737488355328) (hbase : base ≤ w.heap.size)
  (h : ∀ v' w', w'.ownsRow base e size v' (n + m) (xs ++ news) → w.grownBy w' v.ownBlock → (v'.ownBlock = v.ownBlock ∨ v'.ownBlock = some w.heap.size) → K (a.put o.dst v') w') : o.wp P a w K Q := by
 obtain ⟨v', w', hrun, h2, h3, h4⟩ := run_append_rd (P := P) w base t o.type e i z size bytes ht hi hz hsize hby hzs hsz v n xs hown A m c news hr h1 h63 hbytes hbase
 unfold Oper.wp execOp
 simp only [ho, resolve, invoke, builtin, Sem.run_bind, Sem.run_pure, Result.andThen_ok, List.map_toArray, List.map_cons, List.map_nil, hs, hx, hrun]
 exact h v' w' h2 h3 h4
theorem wpList_append_rd {ops : Array Oper} {rest : List Oper} {o : Oper} {a : Act} {Q : Exit → Act → World → Prop} (hgd : o.guard = none) (s x : Operand) (t : TypeId)
  (ho : o.op = .call { callee := .builtin .append, args := #[s, x], argTypes := #[t, t] })
  (base : Nat) (e : TypeId) (i : TypeInfo) (z : Value) (size bytes : Nat) (ht : P.underlying t = some (.slice e)) (hi : P.info? e = some i) (hz : i.zero = some z)
  (hsize : i.size = size) (hby : i.bytes = bytes) (hzs : z.cells.size = size) (hsz : 0 < size)
  (v : Value) (n : Nat) (xs : List Value) (hs : a.eval s = v) (hown : w.ownsRow base e size v n xs)
  (A : Option Addr) (m c : Nat) (news : List Value) (hx : a.eval x = .slice A m c) (hr : Rd w size A m news) (h1 : ∀ u ∈ news, u.oneCell' = true)
  (h63 : n + m ≤ maxLen) (hbytes : (n + m) * bytes ≤ 140737488355328) (hbase : base ≤ w.heap.size)
  (h : ∀ v' w', w'.ownsRow base e size v' (n + m) (xs ++ news) → w.grownBy w' v.ownBlock → (v'.ownBlock = v.ownBlock ∨ v'.ownBlock = some w.heap.size) → wpList P ops Q rest (a.put o.dst v') w') : wpList P ops Q (o :: rest) a w :=
 wpList_plain hgd fun _ hK => wp_append_rd w s x t ho base e i z size bytes ht hi hz hsize hby hzs hsz v n xs hs hown A m c news hx hr h1 h63 hbytes hbase fun v' w' h2 h3 h4 => hK _ _ (h v' w' h2 h3 h4)
theorem step_append_rd {ops : Array Oper} {o : Oper} {a : Act} {K : Act → World → Prop} {Q : Exit → Act → World → Prop} {E : Prop} (hgd : o.guard = none) (s x : Operand) (t : TypeId)
  (ho : o.op = .call { callee := .builtin .append, args := #[s, x], argTypes := #[t, t] })
  (base : Nat) (e : TypeId) (i : TypeInfo) (z : Value) (size bytes : Nat) (ht : P.underlying t = some (.slice e)) (hi : P.info? e = some i) (hz : i.zero = some z)
  (hsize : i.size = size) (hby : i.bytes = bytes) (hzs : z.cells.size = size) (hsz : 0 < size)
  (v : Value) (n : Nat) (xs : List Value) (hs : a.eval s = v) (hown : w.ownsRow base e size v n xs)
  (A : Option Addr) (m c : Nat) (news : List Value) (hx : a.eval x = .slice A m c) (hr : Rd w size A m news) (h1 : ∀ u ∈ news, u.oneCell' = true)
  (h63 : n + m ≤ maxLen) (hbytes : (n + m) * bytes ≤ 140737488355328) (hbase : base ≤ w.heap.size)
  (h : ∀ v' w', w'.ownsRow base e size v' (n + m) (xs ++ news) → w.grownBy w' v.ownBlock → (v'.ownBlock = v.ownBlock ∨ v'.ownBlock = some w.heap.size) → K (a.put o.dst v') w') :
  if Region.wanted o (yielded ops a.tmps) = true then Oper.wp P o a w K Q else E := by
 have hw : Region.wanted o (yielded ops a.tmps) = true := by simp [Region.wanted, hgd]
 rw [if_pos hw]
 exact wp_append_rd w s x t ho base e i z size bytes ht hi hz hsize hby hzs hsz v n xs hs hown A m c news hx hr h1 h63 hbytes hbase h
end
theorem own_next {W w1 : World} (hb : Below W.heap.size W w1) {base : Nat} {e : TypeId} {size : Nat} {v : Value} {n : Nat} {xs : List Value} (h : W.ownsRow base e size v n xs) : w1.ownsRow base e size v n xs := by
 obtain ⟨h1, h2 | ⟨g, cap, cur, e1, e2, e3, e4⟩⟩ := h
 ·exact ⟨h1, .inl h2⟩
 ·exact ⟨h1, .inr ⟨g, cap, cur, e1, e2, blk_next hb e3, e4⟩⟩
theorem own_mono {W : World} {base base' : Nat} {e : TypeId} {size : Nat} {v : Value} {n : Nat} {xs : List Value} (h : W.ownsRow base e size v n xs) (hB : base' ≤ base) : W.ownsRow base' e size v n xs := by
 obtain ⟨h1, h2 | ⟨g, cap, cur, e1, e2, e3, e4⟩⟩ := h
 ·exact ⟨h1, .inl h2⟩
 ·exact ⟨h1, .inr ⟨g, cap, cur, e1, by omega, e3, e4⟩⟩
theorem get_some {α : Type} {m : List α} {i : Nat} (h : i < m.length) : ∃ l, m[i]? = some l := ⟨m[i], List.getElem?_eq_getElem h⟩
theorem get_lt {α : Type} {m : List α} {i : Nat} {l : α} (h : m[i]? = some l) : i < m.length := (List.getElem?_eq_some_iff.1 h).1
def lv (l : List Int) : List Value := l.map fun (x : Int) => Value.int .i64 x
theorem lv_len (l : List Int) : (lv l).length = l.length := by simp [lv]
theorem lv_get {l : List Int} {k : Nat} {x : Int} (h : l[k]? = some x) : (lv l)[k]? = some (.int .i64 x) := by simp [lv, h]
end Go.Proofs.YtfangplfbbgphaaGreatDoor
namespace Go.Proofs.YtfangplfbbgphaaGreatDoor
open Go
set_option linter.unusedVariables false
set_option maxRecDepth 100000
section
variable {P : Program} {ops : Array Oper} {Q : Exit → Act → World → Prop} {md : Region.Mode} {S : Nat → World → Prop}
theorem edge_ne {i j : Nat} {oj : Oper} {done : Array Bool} (hoj : ops[j]? = some oj) (hj : j ∈ Region.ready md ops done) (hi : i ∈ Region.ready md ops done) : ∀ e ∈ oj.after, Region.binds md e = true → e.on ≠ i := fun e he hb heq => by
 obtain ⟨_, o', ho', hall⟩ := mem_ready.1 hj
 have : o' = oj := Option.some.inj (ho'.symm.trans hoj)
 subst this
 have h1 := hall e he hb
 rw [heq, getD_both (mem_ready.1 hi).1] at h1
 cases h1
end
theorem zA {α : Type} (l : List α) (i : Nat) (a : α) : l.toArray.setIfInBounds i a = (l.set i a).toArray := List.setIfInBounds_toArray ..
theorem zB {α : Type} {a b : α} {l : List α} : (a :: l).set 0 b = b :: l := rfl
theorem zC {α : Type} {a b : α} {l : List α} {n : Nat} : (a :: l).set (n + 1) b = a :: l.set n b := rfl
end Go.Proofs.YtfangplfbbgphaaGreatDoor
