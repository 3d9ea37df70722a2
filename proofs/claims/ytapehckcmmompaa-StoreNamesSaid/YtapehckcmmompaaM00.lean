/- Several texts in one. -/
import Derived.Test.YtapehckcmmompaaRows
import Derived.WalkKit
import Derived.ProofKit
import Derived.OpenShut
import Derived.WalkLawsBesides
import Derived.WalkSpells
import Derived.Outline
import Derived.Laws.BitsAllLaws
import Derived.Lib.Hide
import Derived.WalkSmall
import Derived.Deep.QuietTactic
import Derived.BigQuiet
import Derived.RegionTactic
import Derived.Deep.RegionHeld3
import Derived.Deep.RegionLaw
import Derived.Deep.RegionWith
import Derived.Deep.DrawnRows
import Derived.Maps.AppendAt
import Derived.Deep.AppendLies
import Derived.Deep.Draws
import Derived.OwnWalk
import Derived.Laws.OwnMore
import Derived.Laws.BytesArg
import Derived.Lib.SliceRun
namespace Go.Proofs.Ytapehckcmmompaa.Gf
set_option maxRecDepth 100000
def xt (p : Nat) : Nat := if 256 ≤ 2 * p then (2 * p) ^^^ 285 else 2 * p
def mulTo (a b : Nat) : Nat → Nat × Nat
 | 0 => (a, 0)
 | k + 1 => (xt (mulTo a b k).1, if b / 2 ^ k % 2 = 1 then (mulTo a b k).2 ^^^ (mulTo a b k).1 else (mulTo a b k).2)
def gm (a b : Nat) : Nat := (mulTo a b 8).2
theorem xor_lt {a b : Nat} (ha : a < 256) (hb : b < 256) : a ^^^ b < 256 := Nat.xor_lt_two_pow (n := 8) ha hb
theorem xt_lt {p : Nat} (h : p < 256) : xt p < 256 := by
 have : ∀ p < 256, xt p < 256 := by decide +kernel
 exact this p h
theorem xt_xor {x y : Nat} (hx : x < 256) (hy : y < 256) : xt (x ^^^ y) = xt x ^^^ xt y := by
 have : ∀ x < 256, ∀ y < 256, xt (x ^^^ y) = xt x ^^^ xt y := by decide +kernel
 exact this x hx y hy
theorem mulTo_lt {a b : Nat} (ha : a < 256) (k : Nat) : (mulTo a b k).1 < 256 ∧ (mulTo a b k).2 < 256 := by
 induction k with
 | zero => exact ⟨ha, by simp [mulTo]⟩
 | succ k ih =>
  refine ⟨xt_lt ih.1, ?_⟩
  simp only [mulTo]; split
  ·exact xor_lt ih.2 ih.1
  ·exact ih.2
theorem gm_lt {a b : Nat} (ha : a < 256) : gm a b < 256 := (mulTo_lt ha 8).2
def xp (a : Nat) : Nat → Nat
 | 0 => a
 | k + 1 => xt (xp a k)
theorem xp_lt {a : Nat} (ha : a < 256) (k : Nat) : xp a k < 256 := by
 induction k with
 | zero => exact ha
 | succ k ih => exact xt_lt ih
theorem xp_xor {a b : Nat} (ha : a < 256) (hb : b < 256) (k : Nat) : xp (a ^^^ b) k = xp a k ^^^ xp b k := by
 induction k with
 | zero => rfl
 | succ k ih => simp only [xp]; rw [ih, xt_xor (xp_lt ha k) (xp_lt hb k)]
def sh (b k a : Nat) : Nat := if b / 2 ^ k % 2 = 1 then a else 0
theorem mulTo_fst (a b k : Nat) : (mulTo a b k).1 = xp a k := by
 induction k with
 | zero => rfl
 | succ k ih => simp only [mulTo, xp, ih]
def sumTo (a b : Nat) : Nat → Nat
 | 0 => 0
 | k + 1 => sumTo a b k ^^^ sh b k (xp a k)
theorem mulTo_snd (a b k : Nat) : (mulTo a b k).2 = sumTo a b k := by
 induction k with
 | zero => rfl
 | succ k ih =>
  simp only [mulTo, sumTo, ih, mulTo_fst, sh]
  split
  ·rfl
  ·simp
theorem sh_xor (b k x y : Nat) : sh b k (x ^^^ y) = sh b k x ^^^ sh b k y := by
 unfold sh; split <;> simp
theorem sumTo_xor {x y : Nat} (b : Nat) (hx : x < 256) (hy : y < 256) (k : Nat) : sumTo (x ^^^ y) b k = sumTo x b k ^^^ sumTo y b k := by
 induction k with
 | zero => simp [sumTo]
 | succ k ih =>
  simp only [sumTo]
  rw [ih, xp_xor hx hy, sh_xor]; ac_rfl
theorem gm_xor_left {x y : Nat} (b : Nat) (hx : x < 256) (hy : y < 256) : gm (x ^^^ y) b = gm x b ^^^ gm y b := by
 unfold gm; rw [mulTo_snd, mulTo_snd, mulTo_snd]; exact sumTo_xor b hx hy 8
theorem sh_xor_bit (b c k a : Nat) : sh (b ^^^ c) k a = sh b k a ^^^ sh c k a := by
 have h : ∀ n : Nat, (n / 2 ^ k % 2 = 1) ↔ n.testBit k = true := by
  intro n; rw [Nat.testBit_eq_decide_div_mod_eq]; simp
 unfold sh
 simp only [h, Nat.testBit_xor]
 cases b.testBit k <;> cases c.testBit k <;> simp
theorem gm_xor_right (a b c : Nat) : gm a (b ^^^ c) = gm a b ^^^ gm a c := by
 unfold gm; rw [mulTo_snd, mulTo_snd, mulTo_snd]
 have : ∀ k, sumTo a (b ^^^ c) k = sumTo a b k ^^^ sumTo a c k := by
  intro k
  induction k with
  | zero => simp [sumTo]
  | succ k ih => simp only [sumTo]; rw [ih, sh_xor_bit]; ac_rfl
 exact this 8
theorem gm_zero_left (b : Nat) : gm 0 b = 0 := by
 have := gm_xor_left (x := 0) (y := 0) b (by omega) (by omega)
 simpa using this
theorem gm_zero_right (a : Nat) : gm a 0 = 0 := by
 have := gm_xor_right a 0 0
 simpa using this
theorem bits8 : ∀ x < 256, x = (if x / 1 % 2 = 1 then 1 else 0) ^^^ (if x / 2 % 2 = 1 then 2 else 0) ^^^ (if x / 4 % 2 = 1 then 4 else 0) ^^^ (if x / 8 % 2 = 1 then 8 else 0) ^^^ (if x / 16 % 2 = 1 then 16 else 0) ^^^ (if x / 32 % 2 = 1 then 32 else 0) ^^^ (if x / 64 % 2 = 1 then 64 else 0) ^^^ (if x / 128 % 2 = 1 then 128 else 0) := by decide +kernel
theorem additive_ext {f g : Nat → Nat} (hf : ∀ x y, x < 256 → y < 256 → f (x ^^^ y) = f x ^^^ f y) (hg : ∀ x y, x < 256 → y < 256 → g (x ^^^ y) = g x ^^^ g y)
  (h1 : f 1 = g 1) (h2 : f 2 = g 2) (h4 : f 4 = g 4) (h8 : f 8 = g 8) (h16 : f 16 = g 16) (h32 : f 32 = g 32) (h64 : f 64 = g 64) (h128 : f 128 = g 128) :
  ∀ x, x < 256 → f x = g x := by
 intro x hx
 have f0 : f 0 = 0 := by have := hf 0 0 (by omega) (by omega); simpa using this
 have g0 : g 0 = 0 := by have := hg 0 0 (by omega) (by omega); simpa using this
 have step : ∀ (c : Prop) [Decidable c] (u : Nat), f u = g u → f (if c then u else 0) = g (if c then u else 0) := by
  intro c _ u hu; split
  ·exact hu
  ·rw [f0, g0]
 have B : ∀ (c : Prop) [Decidable c] (u : Nat), u < 256 → (if c then u else 0) < 256 := by
  intro c _ u hu; split <;> omega
 have add : ∀ x y, x < 256 → y < 256 → f x = g x → f y = g y → f (x ^^^ y) = g (x ^^^ y) := by
  intro x y hx hy e1 e2; rw [hf x y hx hy, hg x y hx hy, e1, e2]
 rw [bits8 x hx]
 refine add _ _ ?_ (B _ _ (by omega)) ?_ (step _ _ h128)
 ·repeat (first | exact B _ _ (by omega) | apply xor_lt)
 refine add _ _ ?_ (B _ _ (by omega)) ?_ (step _ _ h64)
 ·repeat (first | exact B _ _ (by omega) | apply xor_lt)
 refine add _ _ ?_ (B _ _ (by omega)) ?_ (step _ _ h32)
 ·repeat (first | exact B _ _ (by omega) | apply xor_lt)
 refine add _ _ ?_ (B _ _ (by omega)) ?_ (step _ _ h16)
 ·repeat (first | exact B _ _ (by omega) | apply xor_lt)
 refine add _ _ ?_ (B _ _ (by omega)) ?_ (step _ _ h8)
 ·repeat (first | exact B _ _ (by omega) | apply xor_lt)
 refine add _ _ ?_ (B _ _ (by omega)) ?_ (step _ _ h4)
 ·repeat (first | exact B _ _ (by omega) | apply xor_lt)
 exact add _ _ (B _ _ (by omega)) (B _ _ (by omega)) (step _ _ h1) (step _ _ h2)
def pw : List Nat := [1, 2, 4, 8, 16, 32, 64, 128]
theorem comm_base : ∀ x ∈ pw, ∀ y ∈ pw, gm x y = gm y x := by decide +kernel
theorem gm_comm {a b : Nat} (ha : a < 256) (hb : b < 256) : gm a b = gm b a := by
 have base : ∀ y ∈ pw, ∀ x, x < 256 → gm x y = gm y x := by
  intro y hy
  have hy' : y < 256 := by revert y; decide
  apply additive_ext (f := fun x => gm x y) (g := fun x => gm y x) (fun x z hx hz => gm_xor_left y hx hz) (fun x z _ _ => gm_xor_right y x z)
  all_goals exact comm_base _ (by decide) _ hy
 apply additive_ext (f := fun b => gm a b) (g := fun b => gm b a) (fun x z _ _ => gm_xor_right a x z) (fun x z hx hz => gm_xor_left a hx hz) _ _ _ _ _ _ _ _ b hb
 all_goals exact base _ (by decide) a ha
theorem assoc_base : ∀ x ∈ pw, ∀ y ∈ pw, ∀ z ∈ pw, gm (gm x y) z = gm x (gm y z) := by decide +kernel
theorem gm_assoc {a b c : Nat} (ha : a < 256) (hb : b < 256) (hc : c < 256) : gm (gm a b) c = gm a (gm b c) := by
 have pwl : ∀ y ∈ pw, y < 256 := by decide
 have b1 : ∀ y ∈ pw, ∀ z ∈ pw, ∀ x, x < 256 → gm (gm x y) z = gm x (gm y z) := by
  intro y hy z hz
  apply additive_ext (f := fun x => gm (gm x y) z) (g := fun x => gm x (gm y z))
   (fun x u hx hu => by simp only [gm_xor_left y hx hu, gm_xor_left z (gm_lt hx) (gm_lt hu)]) (fun x u hx hu => gm_xor_left _ hx hu)
  all_goals exact assoc_base _ (by decide) _ hy _ hz
 have b2 : ∀ z ∈ pw, ∀ x, x < 256 → ∀ y, y < 256 → gm (gm x y) z = gm x (gm y z) := by
  intro z hz x hx
  apply additive_ext (f := fun y => gm (gm x y) z) (g := fun y => gm x (gm y z))
   (fun y u hy hu => by simp only [gm_xor_right x y u, gm_xor_left z (gm_lt hx) (gm_lt hx)]) (fun y u hy hu => by simp only [gm_xor_left z hy hu, gm_xor_right])
  all_goals exact b1 _ (by decide) _ hz x hx
 apply additive_ext (f := fun z => gm (gm a b) z) (g := fun z => gm a (gm b z)) (fun y u _ _ => gm_xor_right _ y u) (fun y u _ _ => by simp only [gm_xor_right]) _ _ _ _ _ _ _ _ c hc
 all_goals exact b2 _ (by decide) a ha b hb
theorem gm_one_right {a : Nat} (ha : a < 256) : gm a 1 = a := by
 have : ∀ a < 256, gm a 1 = a := by decide +kernel
 exact this a ha
theorem gm_one_left {a : Nat} (ha : a < 256) : gm 1 a = a := by rw [gm_comm (by omega) ha, gm_one_right ha]
def invTo (a : Nat) : Nat → Nat × Nat
 | 0 => (1, a)
 | k + 1 => (gm (invTo a k).1 (gm (invTo a k).2 (invTo a k).2), gm (invTo a k).2 (invTo a k).2)
def gi (a : Nat) : Nat := (invTo a 7).1
theorem invTo_lt {a : Nat} (ha : a < 256) (k : Nat) : (invTo a k).1 < 256 ∧ (invTo a k).2 < 256 := by
 induction k with
 | zero => exact ⟨by simp [invTo], ha⟩
 | succ k ih =>
  simp only [invTo]
  exact ⟨gm_lt ih.1, gm_lt ih.2⟩
theorem gi_lt {a : Nat} (ha : a < 256) : gi a < 256 := (invTo_lt ha 7).1
end Go.Proofs.Ytapehckcmmompaa.Gf
namespace Go.Proofs.Ytapehckcmmompaa
open Go.ChangeShapes Go.WideShapes Go.ChangeAt Go.RowKit Gf
theorem bitTest (b k : Nat) (hb : b < 256) : (bits BinOp.and IntKind.u8 ((b : Int) / 2 ^ k) 1 == 1) = decide (b / 2 ^ k % 2 = 1) := by
 have e : ((b : Int) / 2 ^ k) = ((b / 2 ^ k : Nat) : Int) := by simp
 have hl : b / 2 ^ k < 256 := Nat.lt_of_le_of_lt (Nat.div_le_self _ _) hb
 have := u8_and_nat (b / 2 ^ k) 1 hl (by omega)
 rw [e]
 have e1 : ((1 : Nat) : Int) = 1 := rfl
 rw [e1] at this
 rw [this, nat_mask1, Bool.eq_iff_iff]
 simp; omega
theorem topTest (P : Nat) (hP : P < 256) : (bits BinOp.and IntKind.u64 ((P : Int) * 2) 256 != 0) = decide (256 ≤ 2 * P) := by
 have := u64_and_nat (2 * P) 256 (by omega) (by omega)
 have e : ((P : Int) * 2) = ((2 * P : Nat) : Int) := by omega
 have e1 : ((256 : Nat) : Int) = 256 := rfl
 rw [e1] at this
 rw [e, this]
 have q := nat_bit 8 (2 * P)
 have e2 : (2 ^ 8 : Nat) = 256 := rfl
 rw [e2] at q
 rw [q, Bool.eq_iff_iff]
 simp; omega
theorem xorU64 (a b : Nat) (ha : a < 512) (hb : b < 512) : bits BinOp.xor IntKind.u64 (a : Int) (b : Int) = ((a ^^^ b : Nat) : Int) := u64_xor_nat a b (by omega) (by omega)
theorem xtHi (P : Nat) (hP : P < 256) (h : 256 ≤ 2 * P) : bits BinOp.xor IntKind.u64 ((P : Int) * 2) 285 = ((xt P : Nat) : Int) := by
 have := xorU64 (2 * P) 285 (by omega) (by omega)
 have e : ((P : Int) * 2) = ((2 * P : Nat) : Int) := by omega
 rw [e, xt, if_pos h]; exact this
theorem xtLo (P : Nat) (h : ¬ 256 ≤ 2 * P) : ((P : Int) * 2) = ((xt P : Nat) : Int) := by
 rw [xt, if_neg h]; omega
theorem int_eq {k : IntKind} {a b : Int} (h : a = b) : Value.int k a = Value.int k b := by rw [h]
theorem ret_int {k : IntKind} {a b : Int} (h : a = b) : Ending.returned (.int k a) = .returned (.int k b) := by rw [h]
set_option maxHeartbeats 400000 in
theorem mul_calls (a b : Nat) (ha : a < 256) (hb : b < 256) (w : World) :
  Calls Try.prog 88 #[.int .u8 a, .int .u8 b] w fun e w' => e = .returned (.int .u8 (gm a b : Nat)) ∧ w = w' := by
 go_enter Try.func88, Try.ntmps88
 go_wp2
 go_loop [5, 6, 7] (fun p s i => ∃ k : Nat, k ≤ 8 ∧ i = .int .i64 k ∧ p = .int .u64 ((mulTo a b k).1 : Nat) ∧ s = .int .u64 ((mulTo a b k).2 : Nat)) (fun _ _ i => 8 - (intOf i).toNat)
 case atStart => exact ⟨0, by omega, rfl, rfl, rfl⟩
 case round =>
  obtain ⟨k, hk, rfl, rfl, rfl⟩ := hrel
  have hP := (mulTo_lt (b := b) ha k).1
  have hS := (mulTo_lt (b := b) ha k).2
  by_cases hlt : k < 8
  ·have H1 : Hid ((mulTo a b (k + 1)).1 = xt (mulTo a b k).1) := Lib.hid rfl
   have H2 : Hid ((mulTo a b (k + 1)).2 = if b / 2 ^ k % 2 = 1 then (mulTo a b k).2 ^^^ (mulTo a b k).1 else (mulTo a b k).2) := Lib.hid rfl
   generalize (mulTo a b k).1 = P at *
   generalize (mulTo a b k).2 = S at *
   have ht1 := bitTest b k hb
   have ht2 := topTest P hP
   by_cases c1 : b / 2 ^ k % 2 = 1 <;> by_cases c2 : 256 ≤ 2 * P
   all_goals
    have d1 := ht1
    have d2 := ht2
    first | rw [decide_eq_true c1] at d1 | rw [decide_eq_false c1] at d1
    first | rw [decide_eq_true c2] at d2 | rw [decide_eq_false c2] at d2
    have C1 := Lib.hid c1
    have C2 := Lib.hid c2
    clear c1 c2 ht1 ht2
    go_wp2
    refine ⟨⟨k + 1, by omega, by go_num, ?_, ?_⟩, by simp [intOf]; omega⟩
    ·rw [H1.out]
     first | exact int_eq (xtHi P hP C2.out) | exact int_eq (xtLo P C2.out)
    ·rw [H2.out]
     first | (rw [if_pos C1.out]; exact int_eq (xorU64 S P (by omega) (by omega))) | rw [if_neg C1.out]
  ·obtain rfl : k = 8 := by omega
   go_wp2
   go_ret
   exact ⟨rfl, rfl⟩
set_option maxHeartbeats 400000 in
theorem inverse_calls (a : Nat) (ha : a < 256) (w : World) :
  Calls Try.prog 89 #[.int .u8 a] w fun e w' => e = .returned (.int .u8 (gi a : Nat)) ∧ w = w' := by
 go_enter Try.func89, Try.ntmps89
 go_wp2
 go_loop [3, 4, 5] (fun r p i => ∃ k : Nat, k ≤ 7 ∧ i = .int .i64 ((k : Int) + 1) ∧ r = .int .u8 ((invTo a k).1 : Nat) ∧ p = .int .u8 ((invTo a k).2 : Nat)) (fun _ _ i => 8 - (intOf i).toNat)
 case atStart => exact ⟨0, by omega, rfl, rfl, rfl⟩
 case round =>
  obtain ⟨k, hk, rfl, rfl, rfl⟩ := hrel
  have hR := (invTo_lt ha k).1
  have hP := (invTo_lt ha k).2
  by_cases hlt : k < 7
  ·have H1 : Hid ((invTo a (k + 1)).1 = gm (invTo a k).1 (gm (invTo a k).2 (invTo a k).2)) := Lib.hid rfl
   have H2 : Hid ((invTo a (k + 1)).2 = gm (invTo a k).2 (invTo a k).2) := Lib.hid rfl
   generalize (invTo a k).1 = R at *
   generalize (invTo a k).2 = P at *
   go_wp2_with fail
   refine (mul_calls P P hP hP _).mono ?_
   rintro e w' ⟨rfl, rfl⟩
   go_wp2_with fail
   refine (mul_calls R (gm P P) hR (gm_lt hP) _).mono ?_
   rintro e w' ⟨rfl, rfl⟩
   go_wp2_with fail
   refine ⟨⟨k + 1, by omega, by go_num, ?_, ?_⟩, by simp [intOf]; omega⟩
   ·rw [H1.out]
   ·rw [H2.out]
  ·obtain rfl : k = 7 := by omega
   go_wp2
   go_ret
   exact ⟨rfl, rfl⟩
end Go.Proofs.Ytapehckcmmompaa
namespace Go.Proofs.Ytapehckcmmompaa
open Go.RowKit
theorem blk_lt {w : World} {b : Nat} {o : Obj} (h : w.heap[b]? = some o) : b < w.heap.size := (Array.getElem?_eq_some_iff.1 h).1
theorem blk_next {W w1 : World} (hb : Below W.heap.size W w1) {b : Nat} {o : Obj} (h : W.heap[b]? = some o) : w1.heap[b]? = some o := (hb.block b (blk_lt h)).trans h
theorem blk_alloc {w : World} {b : Nat} {o : Obj} (h : w.heap[b]? = some o) (x : Obj) : (w.alloc x).heap[b]? = some o := (Below.heap_alloc w x b (blk_lt h)).trans h
theorem blk_new (w : World) (x : Obj) : (w.alloc x).heap[w.heap.size]? = some x := heap_alloc_new w x
theorem blk_at {w : World} {b : Nat} (x : Obj) (h : b = w.heap.size) : (w.alloc x).heap[b]? = some x := by rw [h]; exact heap_alloc_new w x
theorem blk_drewN {w : World} {b : Nat} {o : Obj} (h : w.heap[b]? = some o) (n : Nat) : (w.drewN n).heap[b]? = some o := h
theorem blk_cell {w : World} {b : Nat} {cs : Array Value} {t : TypeId} (h : w.heap[b]? = some (.cells cs t)) (o : Nat) (v : Value) (hv : cs[o]? = some v) : w.cell? ⟨b, o, none⟩ = some v := by
 simp [World.cell?, h, hv]
theorem blk_frozen {w : World} {b : Nat} {cs : Array Value} {t : TypeId} (h : w.heap[b]? = some (.cells cs t)) (o : Nat) : w.frozen? ⟨b, o, none⟩ = false := by
 simp [World.frozen?, h]
theorem blk_set {w : World} {b : Nat} {cs : Array Value} {t : TypeId} {fz : Nat × Nat} (h : w.heap[b]? = some (.cells cs t fz)) (o : Nat) (v : Value) : (w.setCell ⟨b, o, none⟩ v).heap[b]? = some (.cells (cs.setIfInBounds o v) t fz) := by
 simp [World.setCell, Array.getElem?_modify, h]
theorem blk_set_other {w : World} {b : Nat} {x : Obj} (h : w.heap[b]? = some x) {b' : Nat} (hne : b' ≠ b) (o : Nat) (v : Value) : (w.setCell ⟨b', o, none⟩ v).heap[b]? = some x := by
 simp [World.setCell, Array.getElem?_modify, h, hne]
theorem Bset1 {w W : World} (h : Below w.heap.size w W) {B : Nat} (hB : w.heap.size ≤ B) (o : Nat) (x : Value) : Below w.heap.size w (W.setCell ⟨B, o, none⟩ x) := h.setCell hB x
end Go.Proofs.Ytapehckcmmompaa
namespace Go.Proofs.Ytapehckcmmompaa
open Go.ChangeShapes Go.WideShapes Go.ChangeAt Go.RowKit Gf
set_option linter.unusedVariables false
set_option maxRecDepth 100000
theorem Bgo {w W w1 : World} (h : Below w.heap.size w W) (hb : Below W.heap.size W w1) : Below w.heap.size w w1 := h.trans (hb.mono h.size)
theorem Bal {w W : World} (h : Below w.heap.size w W) (o : Obj) : Below w.heap.size w (W.alloc o) := h.alloc h.size o
theorem below_drewN {B : Nat} {a w : World} (h : Below B a w) (n : Nat) : Below B a (w.drewN n) := ⟨h.os, h.tape, h.output, h.size, h.block⟩
theorem ret_bool {a b : Bool} (h : a = b) : Ending.returned (.bool a) = .returned (.bool b) := by rw [h]
def bv (l : List Nat) : List Value := l.map fun (x : Nat) => Value.int .u8 (x : Int)
def Byt (l : List Nat) : Prop := ∀ x ∈ l, x < 256
theorem bv_len (l : List Nat) : (bv l).length = l.length := by simp [bv]
theorem bv_get {l : List Nat} {k x : Nat} (h : l[k]? = some x) : (bv l)[k]? = some (.int .u8 (x : Int)) := by simp [bv, h]
theorem bv_one (l : List Nat) : ∀ u ∈ bv l, u.oneCell' = true := by
 intro u hu
 obtain ⟨x, _, rfl⟩ := List.mem_map.1 hu
 rfl
theorem bv_append (l m : List Nat) : bv (l ++ m) = bv l ++ bv m := by simp [bv]
theorem bv_set (l : List Nat) (k x : Nat) : (bv l).set k (.int .u8 (x : Int)) = bv (l.set k x) := by simp [bv, List.map_set]
theorem Byt.at_ {l : List Nat} (h : Byt l) {k x : Nat} (hk : l[k]? = some x) : x < 256 := h x (List.mem_of_getElem? hk)
theorem Byt.set_ {l : List Nat} (h : Byt l) (k : Nat) {x : Nat} (hx : x < 256) : Byt (l.set k x) := fun y hy => by
 rcases List.mem_or_eq_of_mem_set hy with h' | rfl
 ·exact h y h'
 ·exact hx
theorem Byt.append {l m : List Nat} (h : Byt l) (h' : Byt m) : Byt (l ++ m) := fun x hx => by
 rcases List.mem_append.1 hx with h1 | h1
 ·exact h x h1
 ·exact h' x h1
theorem Byt.nil : Byt [] := fun x hx => by simp at hx
def Hd (B : Nat) (w : World) (A : Option Addr) (xs : List Value) : Prop :=
 ∀ (j : Nat) (u : Value), xs[j]? = some u → ∃ b off, A = some ⟨b, off, none⟩ ∧ B ≤ b ∧ b < w.heap.size ∧ w.cell? ⟨b, off + j, none⟩ = some u
theorem Hd.mono {B B' : Nat} {w : World} {A : Option Addr} {xs : List Value} (h : Hd B w A xs) (hB : B' ≤ B) : Hd B' w A xs := fun j u hu => by
 obtain ⟨b, off, e, h1, h2, h3⟩ := h j u hu
 exact ⟨b, off, e, by omega, h2, h3⟩
theorem Hd.keep {B : Nat} {w w' : World} {A : Option Addr} {xs : List Value} (h : Hd B w A xs) (hs : w.heap.size ≤ w'.heap.size) (hk : ∀ p : Addr, B ≤ p.block → p.block < w.heap.size → w'.cell? p = w.cell? p) : Hd B w' A xs := fun j u hu => by
 obtain ⟨b, off, e, h1, h2, h3⟩ := h j u hu
 exact ⟨b, off, e, h1, by omega, (hk _ h1 h2).trans h3⟩
theorem Hd.next {B : Nat} {w w' : World} {A : Option Addr} {xs : List Value} (hb : Below w.heap.size w w') (h : Hd B w A xs) : Hd B w' A xs := h.keep hb.size fun p _ hp => hb.cell hp
theorem Hd.nil (B : Nat) (w : World) (A : Option Addr) : Hd B w A [] := fun j u hu => by simp at hu
theorem Hd.take_ {B : Nat} {w : World} {A : Option Addr} {xs : List Value} (h : Hd B w A xs) (k : Nat) : Hd B w A (xs.take k) := fun j u hu => by
 rw [List.getElem?_take] at hu
 split at hu
 ·exact h j u hu
 ·simp at hu
theorem Hd.of_own {w : World} {base : Nat} {e : TypeId} {n cap : Nat} {A : Option Addr} {xs : List Value} (h : w.ownsRow base e 1 (.slice A n cap) n xs) : Hd base w A xs := fun j u hu => by
 rcases h.2 with ⟨_, h2⟩ | ⟨g, cap', cur, hv, hb, hg, hc, hm, hs, ht⟩
 ·have h1 := h.1
  rw [h2] at h1
  have : xs = [] := List.eq_nil_of_length_eq_zero (by simpa using h1)
  subst this; cases hu
 ·simp only [Value.slice.injEq] at hv
  refine ⟨g, 0, hv.1, hb, blk_lt hg, blk_cell hg (0 + j) u ?_⟩
  rw [← ht, List.getElem?_take] at hu
  split at hu
  ·simpa using hu
  ·cases hu
theorem own_form {w : World} {base : Nat} {e : TypeId} {n : Nat} {v : Value} {xs : List Value} (h : w.ownsRow base e 1 v n xs) : ∃ A cap, v = .slice A n cap ∧ n ≤ cap ∧ cap ≤ 9223372036854775807 ∧ xs.length = n := by
 have h1 := h.1
 rcases h.2 with ⟨h3, h2⟩ | ⟨g, cap, cur, hv, hb, hg, hc, hm, hs, ht⟩
 ·subst h2; exact ⟨none, 0, h3, by omega, by omega, by simpa using h1⟩
 ·exact ⟨_, cap, hv, hc, by simpa [maxLen] using hm, by simpa using h1⟩
def RBA (B : Nat) (w : World) (A : Option Addr) (l : List Nat) : Prop := Byt l ∧ Hd B w A (bv l)
def RB (B : Nat) (w : World) (v : Value) (l : List Nat) : Prop := ∃ A c, v = .slice A l.length c ∧ l.length ≤ c ∧ c ≤ 9223372036854775807 ∧ RBA B w A l
theorem RBA.next {B : Nat} {w w' : World} {A : Option Addr} {l : List Nat} (hb : Below w.heap.size w w') (h : RBA B w A l) : RBA B w' A l := ⟨h.1, h.2.next hb⟩
theorem RBA.mono {B B' : Nat} {w : World} {A : Option Addr} {l : List Nat} (h : RBA B w A l) (hB : B' ≤ B) : RBA B' w A l := ⟨h.1, h.2.mono hB⟩
theorem RBA.at_ {B : Nat} {w : World} {A : Option Addr} {l : List Nat} (h : RBA B w A l) {k x : Nat} (hk : l[k]? = some x) :
  ∃ b off, A = some ⟨b, off, none⟩ ∧ b < w.heap.size ∧ w.cell? ⟨b, off + k, none⟩ = some (.int .u8 (x : Int)) ∧ x < 256 := by
 obtain ⟨b, off, e, _, h2, h3⟩ := h.2 k _ (bv_get hk)
 exact ⟨b, off, e, h2, h3, h.1.at_ hk⟩
theorem RB.next {B : Nat} {w w' : World} {v : Value} {l : List Nat} (hb : Below w.heap.size w w') (h : RB B w v l) : RB B w' v l := by
 obtain ⟨A, c, e, h1, h2, h3⟩ := h
 exact ⟨A, c, e, h1, h2, h3.next hb⟩
theorem RB.mono {B B' : Nat} {w : World} {v : Value} {l : List Nat} (h : RB B w v l) (hB : B' ≤ B) : RB B' w v l := by
 obtain ⟨A, c, e, h1, h2, h3⟩ := h
 exact ⟨A, c, e, h1, h2, h3.mono hB⟩
abbrev OB (B : Nat) (w : World) (v : Value) (l : List Nat) : Prop := w.ownsRow B 5 1 v l.length (bv l)
theorem OB.rb {B : Nat} {w : World} {v : Value} {l : List Nat} (h : OB B w v l) (hl : Byt l) : RB B w v l := by
 obtain ⟨A, c, rfl, h1, h2, _⟩ := own_form h
 exact ⟨A, c, rfl, h1, h2, hl, Hd.of_own h⟩
def RMA (B : Nat) (w : World) (A : Option Addr) (m : List (List Nat)) : Prop :=
 ∃ us : List Value, us.length = m.length ∧ Hd B w A us ∧ ∀ (i : Nat) (u : Value) (l : List Nat), us[i]? = some u → m[i]? = some l → RB B w u l
def RM (B : Nat) (w : World) (v : Value) (m : List (List Nat)) : Prop := ∃ A c, v = .slice A m.length c ∧ m.length ≤ c ∧ c ≤ 9223372036854775807 ∧ RMA B w A m
theorem RMA.next {B : Nat} {w w' : World} {A : Option Addr} {m : List (List Nat)} (hb : Below w.heap.size w w') (h : RMA B w A m) : RMA B w' A m := by
 obtain ⟨us, h1, h2, h3⟩ := h
 exact ⟨us, h1, h2.next hb, fun i u l hu hl => (h3 i u l hu hl).next hb⟩
theorem RMA.mono {B B' : Nat} {w : World} {A : Option Addr} {m : List (List Nat)} (h : RMA B w A m) (hB : B' ≤ B) : RMA B' w A m := by
 obtain ⟨us, h1, h2, h3⟩ := h
 exact ⟨us, h1, h2.mono hB, fun i u l hu hl => (h3 i u l hu hl).mono hB⟩
theorem RM.next {B : Nat} {w w' : World} {v : Value} {m : List (List Nat)} (hb : Below w.heap.size w w') (h : RM B w v m) : RM B w' v m := by
 obtain ⟨A, c, e, h1, h2, h3⟩ := h
 exact ⟨A, c, e, h1, h2, h3.next hb⟩
theorem RM.mono {B B' : Nat} {w : World} {v : Value} {m : List (List Nat)} (h : RM B w v m) (hB : B' ≤ B) : RM B' w v m := by
 obtain ⟨A, c, e, h1, h2, h3⟩ := h
 exact ⟨A, c, e, h1, h2, h3.mono hB⟩
theorem RMA.at_ {B : Nat} {w : World} {A : Option Addr} {m : List (List Nat)} (h : RMA B w A m) {i : Nat} {l : List Nat} (hi : m[i]? = some l) :
  ∃ b off Ai ci, A = some ⟨b, off, none⟩ ∧ b < w.heap.size ∧ w.cell? ⟨b, off + i, none⟩ = some (.slice Ai l.length ci) ∧ l.length ≤ ci ∧ ci ≤ 9223372036854775807 ∧ RBA B w Ai l := by
 obtain ⟨us, h1, h2, h3⟩ := h
 have hlt : i < us.length := by rw [h1]; exact (List.getElem?_eq_some_iff.1 hi).1
 have hu : us[i]? = some us[i] := List.getElem?_eq_getElem hlt
 obtain ⟨b, off, e, _, hl, hc⟩ := h2 i _ hu
 obtain ⟨Ai, ci, e', k1, k2, k3⟩ := h3 i _ l hu hi
 exact ⟨b, off, Ai, ci, e, hl, by rw [← e']; exact hc, k1, k2, k3⟩
theorem RMA.byt {B : Nat} {w : World} {A : Option Addr} {m : List (List Nat)} (h : RMA B w A m) : ∀ l ∈ m, Byt l := fun l hl => by
 obtain ⟨i, hi, rfl⟩ := List.mem_iff_getElem.1 hl
 obtain ⟨_, _, _, _, _, _, _, _, _, h'⟩ := h.at_ (List.getElem?_eq_getElem hi)
 exact h'.1
theorem RMA.nil (B : Nat) (w : World) (A : Option Addr) : RMA B w A [] := ⟨[], rfl, Hd.nil _ _ _, fun i u l hu => by simp at hu⟩
theorem get_some {α : Type} {m : List α} {i : Nat} (h : i < m.length) : ∃ l, m[i]? = some l := ⟨m[i], List.getElem?_eq_getElem h⟩
theorem get_lt {α : Type} {m : List α} {i : Nat} {l : α} (h : m[i]? = some l) : i < m.length := (List.getElem?_eq_some_iff.1 h).1
abbrev Sv (D M : Int) (v : Value) : Value := .agg #[.int .i64 D, .int .i64 M, v]
end Go.Proofs.Ytapehckcmmompaa
namespace Go.Proofs.Ytapehckcmmompaa
def szL : List (List Nat) → Nat
 | [] => 0
 | l :: m => if l.length = 0 then szL m else l.length
def lostN : List (List Nat) → Nat
 | [] => 0
 | l :: m => (if l.length = 0 then 1 else 0) + lostN m
theorem szL_at {m : List (List Nat)} {k : Nat} {l : List Nat} (hk : m[k]? = some l) (h0 : l.length ≠ 0) (h : ∀ (j : Nat) (l' : List Nat), j < k → m[j]? = some l' → l'.length = 0) : szL m = l.length := by
 induction m generalizing k with
 | nil => simp at hk
 | cons x m ih =>
  cases k with
  | zero =>
   simp at hk; subst hk
   unfold szL; rw [if_neg h0]
  | succ k =>
   have hx := h 0 x (by omega) rfl
   unfold szL; rw [if_pos hx]
   exact ih (by simpa using hk) (fun j l' hj hl => h (j + 1) l' (by omega) (by simpa using hl))
theorem szL_none {m : List (List Nat)} (h : ∀ (j : Nat) (l' : List Nat), m[j]? = some l' → l'.length = 0) : szL m = 0 := by
 induction m with
 | nil => rfl
 | cons x m ih =>
  unfold szL; rw [if_pos (h 0 x rfl)]
  exact ih (fun j l' hl => h (j + 1) l' (by simpa using hl))
theorem szL_mem {m : List (List Nat)} (h : szL m ≠ 0) : ∃ l ∈ m, l.length = szL m := by
 induction m with
 | nil => exact absurd rfl h
 | cons x m ih =>
  by_cases hx : x.length = 0
  ·have e : szL (x :: m) = szL m := by rw [szL, if_pos hx]
   rw [e] at h ⊢
   obtain ⟨l, hl, he⟩ := ih h
   exact ⟨l, List.mem_cons_of_mem _ hl, he⟩
  ·have e : szL (x :: m) = x.length := by rw [szL, if_neg hx]
   exact ⟨x, List.mem_cons_self, e.symm⟩
theorem lostN_append (a b : List (List Nat)) : lostN (a ++ b) = lostN a + lostN b := by
 induction a with
 | nil => simp [lostN]
 | cons x a ih => simp only [List.cons_append, lostN, ih]; omega
theorem take_snoc' {α : Type} {m : List α} {k : Nat} {l : α} (h : m[k]? = some l) : m.take (k + 1) = m.take k ++ [l] := by
 rw [List.take_add_one, h]; rfl
theorem lostN_snoc {m : List (List Nat)} {k : Nat} {l : List Nat} (h : m[k]? = some l) : lostN (m.take (k + 1)) = lostN (m.take k) + (if l.length = 0 then 1 else 0) := by
 rw [take_snoc' h, lostN_append]; simp [lostN]
theorem lostN_le (m : List (List Nat)) : lostN m ≤ m.length := by
 induction m with
 | nil => simp [lostN]
 | cons x m ih => simp only [lostN, List.length_cons]; split <;> omega
def okN (D M : Int) : Bool := decide (1 ≤ D) && (decide (D ≤ 8) && (decide (0 ≤ M) && decide (M ≤ 4)))
def okM (m : List (List Nat)) : Bool := m.all fun l => decide (l.length = 0) || decide (l.length = szL m)
def chkE (D M : Int) (m : List (List Nat)) : Int :=
 if 12 < m.length then 4 else if okN D M = false then 8 else if (m.length : Int) ≠ D + M then 8 else if szL m < 1 ∨ 64 < szL m then 8 else if okM m then 0 else 8
theorem okM_false {m : List (List Nat)} {k : Nat} {l : List Nat} (hk : m[k]? = some l) (h0 : l.length ≠ 0) (h1 : l.length ≠ szL m) : okM m = false := by
 unfold okM
 rw [List.all_eq_false]
 exact ⟨l, List.mem_of_getElem? hk, by simp [h1]; intro h; exact h0 (by simp [h])⟩
theorem okM_true {m : List (List Nat)} (h : ∀ (j : Nat) (l' : List Nat), m[j]? = some l' → l'.length = 0 ∨ l'.length = szL m) : okM m = true := by
 unfold okM
 rw [List.all_eq_true]
 intro l hl
 obtain ⟨j, hj, rfl⟩ := List.mem_iff_getElem.1 hl
 rcases h j _ (List.getElem?_eq_getElem hj) with h' | h' <;> simp [h']
theorem okM_out {m : List (List Nat)} (h : okM m = true) {l : List Nat} (hl : l ∈ m) : l.length = 0 ∨ l.length = szL m := by
 unfold okM at h
 rw [List.all_eq_true] at h
 have := h l hl
 simpa using this
structure Ok (D M : Nat) (m : List (List Nat)) : Prop where
 d1 : 1 ≤ D
 d8 : D ≤ 8
 m4 : M ≤ 4
 len : m.length = D + M
 s1 : 1 ≤ szL m
 s64 : szL m ≤ 64
 each : ∀ l ∈ m, l.length = 0 ∨ l.length = szL m
theorem chkE_ok {D M : Int} {m : List (List Nat)} (h : chkE D M m = 0) : Ok D.toNat M.toNat m ∧ D = (D.toNat : Int) ∧ M = (M.toNat : Int) := by
 unfold chkE at h
 by_cases h1 : 12 < m.length
 ·rw [if_pos h1] at h; cases h
 rw [if_neg h1] at h
 by_cases h2 : okN D M = false
 ·rw [if_pos h2] at h; cases h
 rw [if_neg h2] at h
 by_cases h3 : (m.length : Int) ≠ D + M
 ·rw [if_pos h3] at h; cases h
 rw [if_neg h3] at h
 by_cases h4 : szL m < 1 ∨ 64 < szL m
 ·rw [if_pos h4] at h; cases h
 rw [if_neg h4] at h
 by_cases h5 : okM m = true
 ·have h2' : okN D M = true := by simpa using h2
  unfold okN at h2'
  simp only [Bool.and_eq_true, decide_eq_true_eq] at h2'
  exact ⟨⟨by omega, by omega, by omega, by omega, by omega, by omega, fun l hl => okM_out h5 hl⟩, by omega, by omega⟩
 ·rw [if_neg h5] at h; cases h
theorem ok_chkE {D M : Nat} {m : List (List Nat)} (h : Ok D M m) : chkE D M m = 0 := by
 have h1 := h.d1
 have h2 := h.d8
 have h3 := h.m4
 have h4 := h.len
 have h5 := h.s1
 have h6 := h.s64
 have a : okN (D : Int) (M : Int) = true := by unfold okN; simp only [Bool.and_eq_true, decide_eq_true_eq]; omega
 have b : okM m = true := okM_true fun j l' hl => h.each l' (List.mem_of_getElem? hl)
 unfold chkE
 rw [if_neg (by omega), if_neg (by rw [a]; decide), if_neg (by omega), if_neg (by omega), if_pos b]
end Go.Proofs.Ytapehckcmmompaa
namespace Go.Proofs.Ytapehckcmmompaa
open Go.ChangeShapes Go.WideShapes Go.ChangeAt Go.RowKit Gf
set_option linter.unusedVariables false
set_option maxRecDepth 100000
theorem size_calls (D M : Int) (A : Option Addr) (c B : Nat) (m : List (List Nat)) (w : World) (hn : m.length ≤ c) (hc : c ≤ 9223372036854775807) (hs : RMA B w A m) :
  Calls Try.prog 74 #[Sv D M (.slice A m.length c)] w fun e w' => e = .returned (.int .i64 (szL m : Nat)) ∧ Below w.heap.size w w' := by
 generalize hv : szL m = v
 have HV := Lib.hid hv
 have HS := Lib.hid hs
 clear hs hv
 go_enter Try.func74, Try.ntmps74
 go_wp2_with fail
 go_loop [8] (fun i => ∃ k : Nat, k ≤ m.length ∧ i = .int .i64 k ∧ Hid (∀ (j : Nat) (l' : List Nat), j < k → m[j]? = some l' → l'.length = 0)) (fun i => m.length - (intOf i).toNat)
 case atStart => exact ⟨0, by omega, rfl, Lib.hid (fun j l' h => by omega)⟩
 case round =>
  obtain ⟨k, hk, rfl, HN⟩ := hrel
  by_cases hlt : k < m.length
  ·obtain ⟨l, hl⟩ := get_some hlt
   obtain ⟨b, off, Ai, ci, rfl, hb, h1, h2, h3, _⟩ := HS.out.at_ hl
   have HL := Lib.hid hl
   clear hl
   by_cases h0 : l.length = 0
   ·have q : ((l.length : Int) != 0) = false := by rw [h0]; rfl
    have H0 := Lib.hid h0
    clear h0
    go_wp2_with fail
    refine ⟨⟨k + 1, by omega, by go_num, Lib.hid ?_⟩, by simp [intOf]; omega⟩
    intro j l' hj hl'
    by_cases e : j = k
    ·subst e; rw [HL.out] at hl'; cases hl'; exact H0.out
    ·exact HN.out j l' (by omega) hl'
   ·have q : ((l.length : Int) != 0) = true := by rw [bne_iff_ne]; omega
    have H0 := Lib.hid h0
    clear h0
    go_wp2_with fail
    go_ret
    refine ⟨ret_int ?_, Bal (Below.refl _ _) _⟩
    rw [← HV.out, szL_at HL.out H0.out HN.out]
  ·obtain rfl : k = m.length := by omega
   go_wp2_with fail
   go_ret
   refine ⟨ret_int ?_, Bal (Below.refl _ _) _⟩
   rw [← HV.out, szL_none (fun j l' hl => HN.out j l' (get_lt hl) hl)]; rfl
theorem lost_calls (D M : Int) (A : Option Addr) (c B : Nat) (m : List (List Nat)) (w : World) (hn : m.length ≤ c) (hc : c ≤ 9223372036854775807) (hs : RMA B w A m) :
  Calls Try.prog 75 #[Sv D M (.slice A m.length c)] w fun e w' => e = .returned (.int .i64 (lostN m : Nat)) ∧ Below w.heap.size w w' := by
 generalize hv : lostN m = v
 have HV := Lib.hid hv
 have HS := Lib.hid hs
 clear hs hv
 go_enter Try.func75, Try.ntmps75
 go_wp2_with fail
 go_loop [3, 9] (fun s i => ∃ k t : Nat, k ≤ m.length ∧ t ≤ k ∧ i = .int .i64 k ∧ s = .int .i64 t ∧ Hid (lostN (m.take k) = t)) (fun _ i => m.length - (intOf i).toNat)
 case atStart => exact ⟨0, 0, by omega, by omega, rfl, rfl, Lib.hid (by simp [lostN])⟩
 case round =>
  obtain ⟨k, t, hk, ht, rfl, rfl, HN⟩ := hrel
  by_cases hlt : k < m.length
  ·obtain ⟨l, hl⟩ := get_some hlt
   obtain ⟨b, off, Ai, ci, rfl, hb, h1, h2, h3, _⟩ := HS.out.at_ hl
   have HL := Lib.hid hl
   clear hl
   by_cases h0 : l.length = 0
   ·have q : ((l.length : Int) == 0) = true := by rw [h0]; rfl
    have H0 := Lib.hid h0
    clear h0
    go_wp2_with fail
    refine ⟨⟨k + 1, t + 1, by omega, by omega, by go_num, by go_num, Lib.hid ?_⟩, by simp [intOf]; omega⟩
    rw [lostN_snoc HL.out, HN.out, if_pos H0.out]
   ·have q : ((l.length : Int) == 0) = false := by rw [beq_eq_false_iff_ne]; omega
    have H0 := Lib.hid h0
    clear h0
    go_wp2_with fail
    refine ⟨⟨k + 1, t, by omega, by omega, by go_num, rfl, Lib.hid ?_⟩, by simp [intOf]; omega⟩
    rw [lostN_snoc HL.out, HN.out, if_neg H0.out, Nat.add_zero]
  ·obtain rfl : k = m.length := by omega
   go_wp2_with fail
   go_ret
   refine ⟨ret_int ?_, Bal (Below.refl _ _) _⟩
   rw [← HV.out, ← HN.out, List.take_of_length_le (Nat.le_refl _)]
end Go.Proofs.Ytapehckcmmompaa
namespace Go.Proofs.Ytapehckcmmompaa
open Go.ChangeShapes Go.WideShapes Go.ChangeAt Go.RowKit Gf
set_option linter.unusedVariables false
set_option maxRecDepth 100000
theorem chk_many {D M : Int} {m : List (List Nat)} (h : 12 < m.length) : chkE D M m = 4 := by unfold chkE; rw [if_pos h]
theorem chk_num {D M : Int} {m : List (List Nat)} (h : ¬ 12 < m.length) (h2 : okN D M = false) : chkE D M m = 8 := by unfold chkE; rw [if_neg h, if_pos h2]
theorem chk_len {D M : Int} {m : List (List Nat)} (h : ¬ 12 < m.length) (h2 : okN D M = true) (h3 : (m.length : Int) ≠ D + M) : chkE D M m = 8 := by unfold chkE; rw [if_neg h, if_neg (by rw [h2]; decide), if_pos h3]
theorem chk_size {D M : Int} {m : List (List Nat)} (h : ¬ 12 < m.length) (h2 : okN D M = true) (h3 : (m.length : Int) = D + M) (h4 : szL m < 1 ∨ 64 < szL m) : chkE D M m = 8 := by
 unfold chkE; rw [if_neg h, if_neg (by rw [h2]; decide), if_neg (by omega), if_pos h4]
theorem chk_each {D M : Int} {m : List (List Nat)} (h : ¬ 12 < m.length) (h2 : okN D M = true) (h3 : (m.length : Int) = D + M) (h4 : ¬ (szL m < 1 ∨ 64 < szL m)) : chkE D M m = if okM m then 0 else 8 := by
 unfold chkE; rw [if_neg h, if_neg (by rw [h2]; decide), if_neg (by omega), if_neg h4]
theorem okN_false {D M : Int} (h : okN D M = false) : D < 1 ∨ (1 ≤ D ∧ 8 < D) ∨ (1 ≤ D ∧ D ≤ 8 ∧ M < 0) ∨ (1 ≤ D ∧ D ≤ 8 ∧ 0 ≤ M ∧ 4 < M) := by
 have h' : ¬ okN D M = true := by rw [h]; decide
 unfold okN at h'
 simp only [Bool.and_eq_true, decide_eq_true_eq] at h'
 omega
theorem okN_true {D M : Int} (h : okN D M = true) : 1 ≤ D ∧ D ≤ 8 ∧ 0 ≤ M ∧ M ≤ 4 := by
 unfold okN at h
 simpa only [Bool.and_eq_true, decide_eq_true_eq] using h
set_option maxHeartbeats 1000000 in
theorem check_calls (D M : Int) (A : Option Addr) (c B : Nat) (m : List (List Nat)) (w : World) (hn : m.length ≤ c) (hc : c ≤ 9223372036854775807) (hs : RMA B w A m) :
  Calls Try.prog 57 #[Sv D M (.slice A m.length c)] w fun e w' => e = .returned (.int .i64 (chkE D M m)) ∧ Below w.heap.size w w' := by
 by_cases c1 : 12 < m.length
 ·have F := Lib.hid (chk_many (D := D) (M := M) c1)
  generalize chkE D M m = v at *
  clear hs
  go_enter Try.func57, Try.ntmps57
  go_wp2_with fail
  go_ret
  exact ⟨ret_int F.out.symm, Bal (Below.refl _ _) _⟩
 cases c2 : okN D M
 ·have F := Lib.hid (chk_num c1 c2)
  have hx := okN_false c2
  generalize chkE D M m = v at *
  clear hs c2
  rcases hx with h | ⟨h, h'⟩ | ⟨h, h', h''⟩ | ⟨h, h', h'', h3⟩
  all_goals
   go_enter Try.func57, Try.ntmps57
   go_wp2_with fail
   go_ret
   exact ⟨ret_int F.out.symm, Bal (Below.refl _ _) _⟩
 obtain ⟨d1, d2, d3, d4⟩ := okN_true c2
 by_cases c3 : (m.length : Int) = D + M
 ·have SC := Lib.hid (fun W (h : RMA B W A m) => size_calls D M A c B m W hn hc h)
  have HS := Lib.hid hs
  by_cases c4 : szL m < 1 ∨ 64 < szL m
  ·have F := Lib.hid (chk_size c1 c2 c3 c4)
   generalize chkE D M m = v at *
   have q : ((m.length : Int) != D + M) = false := by rw [c3]; simp
   generalize szL m = z at *
   clear hs c2 c3
   rcases c4 with h | h
   ·go_enter Try.func57, Try.ntmps57
    go_wp2_with fail
    refine (SC.out _ (HS.out.next (Bal (Below.refl _ _) _))).mono ?_
    rintro e w1 ⟨rfl, hb1⟩
    go_wp2_with fail
    go_ret
    exact ⟨ret_int F.out.symm, Bgo (Bal (Below.refl _ _) _) hb1⟩
   ·have h' : ¬ z < 1 := by omega
    go_enter Try.func57, Try.ntmps57
    go_wp2_with fail
    refine (SC.out _ (HS.out.next (Bal (Below.refl _ _) _))).mono ?_
    rintro e w1 ⟨rfl, hb1⟩
    go_wp2_with fail
    go_ret
    exact ⟨ret_int F.out.symm, Bgo (Bal (Below.refl _ _) _) hb1⟩
  ·have F := Lib.hid (chk_each c1 c2 c3 c4)
   generalize chkE D M m = v at *
   have q : ((m.length : Int) != D + M) = false := by rw [c3]; simp
   obtain ⟨z, hz⟩ : ∃ z, szL m = z := ⟨_, rfl⟩
   have c5 : 1 ≤ szL m := by omega
   have c6 : szL m ≤ 64 := by omega
   rw [hz] at SC c5 c6
   have HZ := Lib.hid hz
   clear hs c2 c3 c4 hz
   go_enter Try.func57, Try.ntmps57
   go_wp2_with fail
   refine (SC.out _ (HS.out.next (Bal (Below.refl _ _) _))).mono ?_
   rintro e w1 ⟨rfl, hb1⟩
   have N1 := Lib.hid (Bgo (Bal (Below.refl _ _) _) hb1)
   have S1 := Lib.hid (HS.out.next N1.out)
   have X1 := Lib.hid (blk_next hb1 (blk_new w _))
   have x2 : w1.cell? ⟨w.heap.size, 2, none⟩ = some (.slice A m.length c) := blk_cell X1.out 2 _ rfl
   clear hb1
   go_wp2_with fail
   go_loop [48] (fun i => ∃ k : Nat, k ≤ m.length ∧ i = .int .i64 k ∧ Hid (∀ (j : Nat) (l' : List Nat), j < k → m[j]? = some l' → l'.length = 0 ∨ l'.length = szL m)) (fun i => m.length - (intOf i).toNat)
   case atStart => exact ⟨0, by omega, rfl, Lib.hid (fun j l' h => by omega)⟩
   case round =>
    obtain ⟨k, hk, rfl, HN⟩ := hrel
    by_cases hlt : k < m.length
    ·obtain ⟨l, hl⟩ := get_some hlt
     obtain ⟨b, off, Ai, ci, rfl, hb, h1, h2, h3, _⟩ := S1.out.at_ hl
     have HL := Lib.hid hl
     clear hl
     by_cases h0 : l.length = 0
     ·have q1 : ((l.length : Int) != 0) = false := by rw [h0]; rfl
      have H0 := Lib.hid h0
      clear h0
      go_wp2_with fail
      refine ⟨⟨k + 1, by omega, by go_num, Lib.hid ?_⟩, by simp [intOf]; omega⟩
      intro j l' hj hl'
      by_cases e : j = k
      ·subst e; rw [HL.out] at hl'; cases hl'; exact .inl H0.out
      ·exact HN.out j l' (by omega) hl'
     ·have q1 : ((l.length : Int) != 0) = true := by rw [bne_iff_ne]; omega
      have H0 := Lib.hid h0
      by_cases h9 : l.length = z
      ·have q2 : ((l.length : Int) != (z : Int)) = false := by rw [h9]; simp
       have H9 := Lib.hid h9
       clear h0 h9
       go_wp2_with fail
       refine ⟨⟨k + 1, by omega, by go_num, Lib.hid ?_⟩, by simp [intOf]; omega⟩
       intro j l' hj hl'
       by_cases e : j = k
       ·subst e; rw [HL.out] at hl'; cases hl'; exact .inr (by rw [HZ.out]; exact H9.out)
       ·exact HN.out j l' (by omega) hl'
      ·have q2 : ((l.length : Int) != (z : Int)) = true := by rw [bne_iff_ne]; omega
       have H9 := Lib.hid h9
       clear h0 h9
       go_wp2_with fail
       go_ret
       refine ⟨ret_int ?_, N1.out⟩
       rw [F.out, okM_false HL.out H0.out (by rw [HZ.out]; exact H9.out)]; rfl
    ·obtain rfl : k = m.length := by omega
     go_wp2_with fail
     go_ret
     refine ⟨ret_int ?_, N1.out⟩
     rw [F.out, okM_true (fun j l' hl => HN.out j l' (get_lt hl) hl)]; rfl
 ·have F := Lib.hid (chk_len c1 c2 c3)
  generalize chkE D M m = v at *
  have q : ((m.length : Int) != D + M) = true := by rw [bne_iff_ne]; exact c3
  clear hs c2 c3
  go_enter Try.func57, Try.ntmps57
  go_wp2_with fail
  go_ret
  exact ⟨ret_int F.out.symm, Bal (Below.refl _ _) _⟩
end Go.Proofs.Ytapehckcmmompaa
namespace Go.Proofs.Ytapehckcmmompaa
open Go.ChangeShapes Go.WideShapes Go.ChangeAt Go.RowKit
set_option linter.unusedVariables false
set_option maxRecDepth 100000
def Rd (w : World) (size : Nat) (A : Option Addr) (n : Nat) (xs : List Value) : Prop :=
 xs.length = n * size ∧ (0 < n → ∃ b off, A = some ⟨b, off, none⟩ ∧ b < w.heap.size ∧ ∀ j u, xs[j]? = some u → w.cell? ⟨b, off + j, none⟩ = some u)
theorem Hd.rd {B : Nat} {w : World} {A : Option Addr} {xs : List Value} {n : Nat} (h : Hd B w A xs) (hn : xs.length = n) : Rd w 1 A n xs := by
 refine ⟨by omega, fun h0 => ?_⟩
 have hg : xs[0]? = some (xs[0]'(by omega)) := List.getElem?_eq_getElem (by omega)
 obtain ⟨b, off, e, _, hl, _⟩ := h 0 _ hg
 refine ⟨b, off, e, hl, fun j u hu => ?_⟩
 obtain ⟨b', off', e', _, _, hc⟩ := h j u hu
 rw [e] at e'
 injection e' with e'
 injection e' with e1 e2
 subst e1 e2
 exact hc
section
variable {P : Program} (w : World)
theorem run_append_nilsrc (base : Nat) (t ty e : TypeId) (i : TypeInfo) (size : Nat) (ht : P.underlying t = some (.slice e)) (hi : P.info? e = some i)
  (v : Value) (n : Nat) (xs : List Value) (hown : w.ownsRow base e size v n xs) (c : Nat) : (Builtin.append_ #[t, t] ty #[v, .slice none 0 c]).run P w = .ok v w := by
 rcases hown.2 with ⟨rfl, rfl⟩ | ⟨g, cap, cur, rfl, _, _, hnc, _⟩
 ·simp [Builtin.append_, run_underlying ht, sizeOf, typeInfo, hi, Builtin.lenOf, Builtin.firstCells]
 ·simp [Builtin.append_, run_underlying ht, sizeOf, typeInfo, hi, Builtin.lenOf, Builtin.firstCells, hnc, storeCells]
theorem run_append_rd (base : Nat) (t ty e : TypeId) (i : TypeInfo) (z : Value) (size bytes : Nat) (ht : P.underlying t = some (.slice e)) (hi : P.info? e = some i) (hz : i.zero = some z)
  (hsize : i.size = size) (hby : i.bytes = bytes) (hzs : z.cells.size = size) (hsz : 0 < size)
  (v : Value) (n : Nat) (xs : List Value) (hown : w.ownsRow base e size v n xs)
  (A : Option Addr) (m c : Nat) (news : List Value) (hr : Rd w size A m news) (h1 : ∀ u ∈ news, u.oneCell' = true)
  (h63 : n + m ≤ maxLen) (hbytes : (n + m) * bytes ≤ 140737488355328) (hbase : base ≤ w.heap.size) :
  ∃ v' w', (Builtin.append_ #[t, t] ty #[v, .slice A m c]).run P w = .ok v' w' ∧ w'.ownsRow base e size v' (n + m) (xs ++ news) ∧ w.grownBy w' v.ownBlock ∧
   (v'.ownBlock = v.ownBlock ∨ v'.ownBlock = some w.heap.size) := by
 rcases Nat.eq_zero_or_pos m with h0 | h0
 ·subst h0
  have hn : news = [] := List.eq_nil_of_length_eq_zero (by simpa using hr.1)
  subst hn
  rcases A with _ | ad
  ·exact ⟨v, w, run_append_nilsrc w base t ty e i size ht hi v n xs hown c, by simpa using hown, World.grownBy.refl w _, .inl rfl⟩
  ·obtain ⟨v', w', hrun, h2, h3, _, h5⟩ := run_append_own_at (P := P) w base t ty e i z size bytes ht hi hz hsize hby hzs hsz v n xs hown ad 0 c [] (by simp) (by simp) (by simp) h63 hbytes hbase
   exact ⟨v', w', hrun, h2, h3, h5⟩
 ·obtain ⟨b, off, rfl, hl, hc⟩ := hr.2 h0
  have hcells : ∀ j u, news[j]? = some u → w.cell? ((⟨b, off, none⟩ : Addr).add j) = some u := by
   intro j u hu
   have e : (⟨b, off, none⟩ : Addr).add j = ⟨b, off + j, none⟩ := by
    unfold Addr.add; split
    ·rename_i h; subst h; rfl
    ·rfl
   rw [e]; exact hc j u hu
  obtain ⟨v', w', hrun, h2, h3, _, h5⟩ := run_append_own_at (P := P) w base t ty e i z size bytes ht hi hz hsize hby hzs hsz v n xs hown ⟨b, off, none⟩ m c news hr.1 hcells h1 h63 hbytes hbase
  exact ⟨v', w', hrun, h2, h3, h5⟩
theorem wp_append_rd {o : Oper} {a : Act} {K : Act → World → Prop} {Q : Exit → Act → World → Prop} (s x : Operand) (t : TypeId)
  (ho : o.op = .call { callee := .builtin .append, args := #[s, x], argTypes := #[t, t] })
  (base : Nat) (e : TypeId) (i : TypeInfo) (z : Value) (size bytes : Nat) (ht : P.underlying t = some (.slice e)) (hi : P.info? e = some i) (hz : i.zero = some z)
  (hsize : i.size = size) (hby : i.bytes = bytes) (hzs : z.cells.size = size) (hsz : 0 < size)
  (v : Value) (n : Nat) (xs : List Value) (hs : a.eval s = v) (hown : w.ownsRow base e size v n xs)
  (A : Option Addr) (m c : Nat) (news : List Value) (hx : a.eval x = .slice A m c) (hr : Rd w size A m news) (h1 : ∀ u ∈ news, u.oneCell' = true)
  (h63 : n + m ≤ maxLen) (hbytes : (n + m) * bytes ≤ 140737488355328) (hbase : base ≤ w.heap.size)
  (h : ∀ v' w', w'.ownsRow base e size v' (n + m) (xs ++ news) → w.grownBy w' v.ownBlock → (v'.ownBlock = v.ownBlock ∨ v'.ownBlock = some w.heap.size) → K (a.put o.dst v') w') : o.wp P a w K Q := by
 obtain ⟨v', w', hrun, h2, h3, h4⟩ := run_append_rd (P := P) w base t o.type e i z size bytes ht hi hz hsize hby hzs hsz v n xs hown A m c news hr h1 h63 hbytes hbase
 unfold Oper.wp execOp
 simp only [ho, resolve, invoke, builtin, Sem.run_bind, Sem.run_pure, Result.andThen_ok, List.map_toArray, List.map_cons, List.map_nil, hs, hx, hrun]
 exact h v' w' h2 h3 h4
theorem wpList_append_rd {ops : Array Oper} {rest : List Oper} {o : Oper} {a : Act} {Q : Exit → Act → World → Prop} (hgd : o.guard = none) (s x : Operand) (t : TypeId)
  (ho : o.op = .call { callee := .builtin .append, args := #[s, x], argTypes := #[t, t] })
  (base : Nat) (e : TypeId) (i : TypeInfo) (z : Value) (size bytes : Nat) (ht : P.underlying t = some (.slice e)) (hi : P.info? e = some i) (hz : i.zero = some z)
  (hsize : i.size = size) (hby : i.bytes = bytes) (hzs : z.cells.size = size) (hsz : 0 < size)
  (v : Value) (n : Nat) (xs : List Value) (hs : a.eval s = v) (hown : w.ownsRow base e size v n xs)
  (A : Option Addr) (m c : Nat) (news : List Value) (hx : a.eval x = .slice A m c) (hr : Rd w size A m news) (h1 : ∀ u ∈ news, u.oneCell' = true)
  (h63 : n + m ≤ maxLen) (hbytes : (n + m) * bytes ≤ 140737488355328) (hbase : base ≤ w.heap.size)
  (h : ∀ v' w', w'.ownsRow base e size v' (n + m) (xs ++ news) → w.grownBy w' v.ownBlock → (v'.ownBlock = v.ownBlock ∨ v'.ownBlock = some w.heap.size) → wpList P ops Q rest (a.put o.dst v') w') : wpList P ops Q (o :: rest) a w :=
 wpList_plain hgd fun _ hK => wp_append_rd w s x t ho base e i z size bytes ht hi hz hsize hby hzs hsz v n xs hs hown A m c news hx hr h1 h63 hbytes hbase fun v' w' h2 h3 h4 => hK _ _ (h v' w' h2 h3 h4)
theorem step_append_rd {ops : Array Oper} {o : Oper} {a : Act} {K : Act → World → Prop} {Q : Exit → Act → World → Prop} {E : Prop} (hgd : o.guard = none) (s x : Operand) (t : TypeId)
  (ho : o.op = .call { callee := .builtin .append, args := #[s, x], argTypes := #[t, t] })
  (base : Nat) (e : TypeId) (i : TypeInfo) (z : Value) (size bytes : Nat) (ht : P.underlying t = some (.slice e)) (hi : P.info? e = some i) (hz : i.zero = some z)
  (hsize : i.size = size) (hby : i.bytes = bytes) (hzs : z.cells.size = size) (hsz : 0 < size)
  (v : Value) (n : Nat) (xs : List Value) (hs : a.eval s = v) (hown : w.ownsRow base e size v n xs)
  (A : Option Addr) (m c : Nat) (news : List Value) (hx : a.eval x = .slice A m c) (hr : Rd w size A m news) (h1 : ∀ u ∈ news, u.oneCell' = true)
  (h63 : n + m ≤ maxLen) (hbytes : (n + m) * bytes ≤ 140737488355328) (hbase : base ≤ w.heap.size)
  (h : ∀ v' w', w'.ownsRow base e size v' (n + m) (xs ++ news) → w.grownBy w' v.ownBlock → (v'.ownBlock = v.ownBlock ∨ v'.ownBlock = some w.heap.size) → K (a.put o.dst v') w') :
  if Region.wanted o (yielded ops a.tmps) = true then Oper.wp P o a w K Q else E := by
 have hw : Region.wanted o (yielded ops a.tmps) = true := by simp [Region.wanted, hgd]
 rw [if_pos hw]
 exact wp_append_rd w s x t ho base e i z size bytes ht hi hz hsize hby hzs hsz v n xs hs hown A m c news hx hr h1 h63 hbytes hbase h
end
end Go.Proofs.Ytapehckcmmompaa
namespace Go.Proofs.Ytapehckcmmompaa
open Go.ChangeShapes Go.WideShapes Go.ChangeAt Go.RowKit Gf
set_option linter.unusedVariables false
set_option maxRecDepth 100000
attribute [local go_sem ↓] Go.wp_at_zero Go.wp_at_succ
def fac (D j i : Nat) : Nat := gi ((D + j) ^^^ i)
theorem fac_lt {D j i : Nat} (h : D + j < 256) (hi : i < 256) : fac D j i < 256 := gi_lt (xor_lt h hi)
def addK (s b : List Nat) (f k : Nat) : List Nat := (List.range s.length).map fun i => if i < k then s.getD i 0 ^^^ gm f (b.getD i 0) else s.getD i 0
def addR (s b : List Nat) (f : Nat) : List Nat := (List.range s.length).map fun i => s.getD i 0 ^^^ gm f (b.getD i 0)
theorem addR_len (s b : List Nat) (f : Nat) : (addR s b f).length = s.length := by simp [addR]
theorem addK_zero (s b : List Nat) (f : Nat) : addK s b f 0 = s := by
 apply List.ext_getElem?
 intro i
 simp only [addK, List.getElem?_map]
 by_cases h : i < s.length
 ·rw [List.getElem?_range h, List.getElem?_eq_getElem h]; simp [List.getD_eq_getElem?_getD, h]
 ·rw [List.getElem?_eq_none (by simpa using h), List.getElem?_eq_none (by simpa using h)]; rfl
theorem addK_full {s b : List Nat} {k : Nat} (f : Nat) (h : b.length ≤ k) : addK s b f k = addR s b f := by
 unfold addK addR
 apply List.map_congr_left
 intro i hi
 by_cases hk : i < k
 ·rw [if_pos hk]
 ·rw [if_neg hk, List.getD_eq_getElem?_getD (l := b), List.getElem?_eq_none (by omega)]; simp [gm_zero_right]
theorem addK_at {s b : List Nat} {f k x : Nat} (h : s[k]? = some x) : (addK s b f k)[k]? = some x := by
 have hl := get_lt h
 simp only [addK, List.getElem?_map, List.getElem?_range hl, Option.map_some]
 simp [List.getD_eq_getElem?_getD, h]
theorem addK_succ {s b : List Nat} {f k x y : Nat} (h : s[k]? = some x) (hb : b[k]? = some y) : addK s b f (k + 1) = (addK s b f k).set k (x ^^^ gm f y) := by
 apply List.ext_getElem?
 intro i
 have hl := get_lt h
 rw [List.getElem?_set]
 by_cases hi : i < s.length
 ·simp only [addK, List.getElem?_map, List.getElem?_range hi, Option.map_some]
  by_cases e : k = i
  ·subst e
   rw [if_pos rfl]
   have e1 : s.getD k 0 = x := by rw [List.getD_eq_getElem?_getD, h]; rfl
   have e2 : b.getD k 0 = y := by rw [List.getD_eq_getElem?_getD, hb]; rfl
   rw [if_pos (by omega), e1, e2]
   simp [hl]
  ·rw [if_neg e]
   congr 1
   by_cases hk : i < k
   ·rw [if_pos (by omega), if_pos hk]
   ·rw [if_neg (by omega), if_neg hk]
 ·rw [List.getElem?_eq_none (by simp [addK]; omega)]
  by_cases e : k = i
  ·omega
  ·rw [if_neg e, List.getElem?_eq_none (by simp [addK]; omega)]
theorem addR_byt {s b : List Nat} {f : Nat} (hs : Byt s) (hf : f < 256) : Byt (addR s b f) := by
 intro x hx
 simp only [addR, List.mem_map, List.mem_range] at hx
 obtain ⟨i, hi, rfl⟩ := hx
 refine xor_lt ?_ (gm_lt hf)
 rw [List.getD_eq_getElem?_getD, List.getElem?_eq_getElem hi]
 exact hs _ (List.getElem_mem hi)
theorem factor_calls (D j i : Nat) (w : World) (h : D + j < 256) (hi : i < 256) :
  Calls Try.prog 82 #[.int .i64 D, .int .i64 j, .int .i64 i] w fun e w' => e = .returned (.int .u8 (fac D j i : Nat)) ∧ w = w' := by
 go_enter Try.func82, Try.ntmps82
 go_wp2_with fail
 rw [show ((D : Int) + (j : Int)) = ((D + j : Nat) : Int) by omega, u8_xor_nat (D + j) i h hi]
 refine (inverse_calls _ (xor_lt h hi) _).mono ?_
 rintro e w' ⟨rfl, rfl⟩
 go_wp2_with fail
 go_ret
 exact ⟨rfl, rfl⟩
theorem only_drew {a w : World} {row : Option Nat} (h : a.grownBy w row) : a.grownBy w.drew row := ⟨h.os, h.tape, h.output, h.size, h.block⟩
theorem add_calls (g cap Bs : Nat) (s : List Nat) (A : Option Addr) (c B : Nat) (l : List Nat) (f : Nat) (w : World) (hf : f < 256) (hs : Byt s) (hln : l.length ≤ s.length)
  (ho : w.ownsRow Bs 5 1 (.slice (some ⟨g, 0, none⟩) s.length cap) s.length (bv s)) (hlc : l.length ≤ c) (hc : c ≤ 9223372036854775807) (hr : RBA B w A l)
  (hne : ∀ b off, A = some ⟨b, off, none⟩ → l ≠ [] → b ≠ g) :
  Calls Try.prog 81 #[.slice (some ⟨g, 0, none⟩) s.length cap, .slice A l.length c, .int .u8 f] w fun e w' => e = .returned (.tuple #[]) ∧ w'.ownsRow Bs 5 1 (.slice (some ⟨g, 0, none⟩) s.length cap) s.length (bv (addR s l f)) ∧ w.grownBy w' (some g) := by
 have HO := Lib.hid ho
 have HR := Lib.hid hr
 have HN := Lib.hid hne
 have HSB := Lib.hid hs
 obtain ⟨hsc, hcm⟩ : s.length ≤ cap ∧ cap ≤ 9223372036854775807 := by
  obtain ⟨A', c', e', k1, k2, _⟩ := own_form ho
  simp only [Value.slice.injEq, true_and] at e'
  rw [e'.2]; exact ⟨k1, k2⟩
 clear ho hr hne hs
 go_enter Try.func81, Try.ntmps81
 go_wp2_with fail
 go_loopw [10] (fun i wr => ∃ k : Nat, k ≤ l.length ∧ i = .int .i64 k ∧ Hid (wr.ownsRow Bs 5 1 (.slice (some ⟨g, 0, none⟩) s.length cap) s.length (bv (addK s l f k))) ∧ Hid (w.grownBy wr (some g))) (fun i _ => l.length - (intOf i).toNat)
 case atStart => exact ⟨0, by omega, rfl, by rw [addK_zero]; exact HO, Lib.hid (World.grownBy.refl _ _)⟩
 case round =>
  obtain ⟨k, hk, rfl, O, G⟩ := hrel
  by_cases hlt : k < l.length
  ·obtain ⟨y, hy⟩ := get_some hlt
   obtain ⟨x, hx⟩ := get_some (show k < s.length by omega)
   obtain ⟨b, off, rfl, hb, hcell, hy2⟩ := HR.out.at_ hy
   have hbg : b ≠ g := HN.out b off rfl (by intro h; rw [h] at hlt; simp at hlt)
   have c1 : wr.cell? ⟨b, off + k, none⟩ = some (.int .u8 (y : Int)) := by
    rw [← hcell]; exact G.out.cell_far _ hb (by simpa using hbg)
   have c2 : wr.cell? ⟨g, k, none⟩ = some (.int .u8 (x : Int)) := by
    rw [O.out.cellAt k (by omega)]; exact bv_get (addK_at hx)
   have c3 : wr.frozen? ⟨g, k, none⟩ = false := O.out.frozenAt k
   have hx2 : x < 256 := HSB.out.at_ hx
   have k1 : (0 : Int) ≤ (k : Int) := by omega
   have k2 : (k : Int) < (s.length : Int) := by omega
   go_wp2_with fail
   go_region_with (first | (go_at_call 88; refine (mul_calls _ _ hf hy2 _).mono ?_; rintro e w' ⟨rfl, rfl⟩))
   all_goals
    go_wp2_with fail
    rw [u8_xor_nat x (gm f y) hx2 (gm_lt hf)]
    have st := O.out.stored k (.int .u8 ((x ^^^ gm f y : Nat) : Int))
    refine ⟨⟨k + 1, by omega, by go_num, Lib.hid ?_, Lib.hid (only_drew (G.out.trans st.2))⟩, by simp [intOf]; omega⟩
    rw [addK_succ hx hy, ← bv_set]
    exact st.1.drew
  ·obtain rfl : k = l.length := by omega
   go_wp2_with fail
   go_end0
   exact ⟨rfl, by rw [← addK_full f (Nat.le_refl _)]; exact O.out, G.out⟩
theorem u8_info : (Try.prog.info? 5).map (fun i => (i.zero, i.size, i.bytes)) = some (some (.int .u8 0), 1, 1) := by kernel_rfl
theorem sl_info : (Try.prog.info? 26).map (fun i => (i.zero, i.size, i.bytes)) = some (some (.slice none 0 0), 1, 24) := by kernel_rfl
theorem clone_calls (A : Option Addr) (c B : Nat) (l : List Nat) (w : World) (hc : l.length ≤ 140737488355328) (hr : RBA B w A l) :
  Calls Try.prog 63 #[.slice A l.length c] w fun e w' => ∃ v, e = .returned v ∧ OB w.heap.size w' v l ∧ Below w.heap.size w w' := by
 obtain ⟨i0, hi0, hz0, hz1, hz2⟩ := info_parts u8_info
 cases A with
 | none =>
  have hl : l = [] := by
   rcases l with _ | ⟨x, l⟩
   ·rfl
   ·obtain ⟨b, off, e, _⟩ := hr.at_ (k := 0) (x := x) rfl
    cases e
  subst hl
  have e0 := fun W => Lib.run_eql_slice_nil (P := Try.prog) W 26 5 none 0 c 0 0 Try.underlying26
  go_enter Try.func63, Try.ntmps63
  go_wp2_with fail
  go_ret
  exact ⟨_, rfl, World.ownsRow_nil _ _ _ _, Below.refl _ _⟩
 | some a =>
  have e0 := fun W => Lib.run_eql_slice_nil (P := Try.prog) W 26 5 (some a) l.length c 0 0 Try.underlying26
  have ow : (w.alloc (.cells #[] 5)).ownsRow w.heap.size 5 1 (.slice (some ⟨w.heap.size, 0, none⟩) 0 0) 0 [] :=
   ⟨rfl, .inr ⟨w.heap.size, 0, #[], rfl, Nat.le_refl _, heap_alloc_new w _, Nat.le_refl _, by simp [maxLen], rfl, rfl⟩⟩
  have OW := Lib.hid ow
  have HR := Lib.hid hr
  clear ow hr
  go_enter Try.func63, Try.ntmps63
  go_wp2_with (at_builtin; refine wpList_append_rd _ rfl (.tmp 5) (.tmp 6) _ rfl w.heap.size 5 i0 _ 1 1 Try.underlying26 hi0 hz0 hz1 hz2 rfl (by omega) _ 0 [] rfl OW.out (some a) l.length c (bv l) rfl ((HR.out.2.next (Bal (Below.refl _ _) _)).rd (bv_len l)) (bv_one l) (by simp only [maxLen]; omega) (by omega) (by simp) ?_; intro v1 w1 hown1 hg1 hat1)
  go_ret
  refine ⟨v1, rfl, by simpa using hown1, (Bal (Below.refl _ _) _).grown hg1 (by simp) (fun k hk => ?_)⟩
  have hk' : some w.heap.size = some k := hk
  cases hk'
  exact Nat.le_refl _
def bstr (l : List Nat) : ByteArray := ⟨(l.map UInt8.ofNat).toArray⟩
theorem bstr_inj : ∀ {l l' : List Nat}, Byt l → Byt l' → l.map UInt8.ofNat = l'.map UInt8.ofNat → l = l'
 | [], [], _, _, _ => rfl
 | [], x :: l', _, _, h => by simp at h
 | x :: l, [], _, _, h => by simp at h
 | x :: l, y :: l', h1, h2, h => by
  simp only [List.map_cons, List.cons.injEq] at h
  have hx : x < 256 := h1 x List.mem_cons_self
  have hy : y < 256 := h2 y List.mem_cons_self
  have e : x = y := by
   have := congrArg UInt8.toNat h.1
   simp only [UInt8.toNat_ofNat'] at this
   omega
  rw [e, bstr_inj (fun z hz => h1 z (List.mem_cons_of_mem _ hz)) (fun z hz => h2 z (List.mem_cons_of_mem _ hz)) h.2]
theorem bstr_eq {l l' : List Nat} (h : Byt l) (h' : Byt l') : ((bstr l).toList == (bstr l').toList) = decide (l = l') := by
 rw [Bool.eq_iff_iff, beq_iff_eq, decide_eq_true_eq]
 unfold bstr
 rw [ByteArray.toList_mk, ByteArray.toList_mk]
 exact ⟨bstr_inj h h', fun e => by rw [e]⟩
set_option maxRecDepth 100000 in
theorem conv_rba {B : Nat} {w : World} {A : Option Addr} {l : List Nat} (c : Nat) (h : RBA B w A l) : (convert 26 9 (.slice A l.length c)).run Try.prog w = .ok (.string (bstr l)) w := by
 rcases Nat.eq_zero_or_pos l.length with h0 | h0
 ·have : l = [] := List.eq_nil_of_length_eq_zero h0
  subst this
  show (convert 26 9 (.slice A 0 c)).run Try.prog w = _
  rw [run_convert_bytes_string w 26 9 5 _ 0 c Try.underlying26 Try.underlying5 Try.underlying9]
  cases A <;> simp [Conv.bytesToString, loadCells]
  all_goals rfl
 ·obtain ⟨b, off, rfl, _⟩ := h.at_ (List.getElem?_eq_getElem h0)
  have := run_convert_bytes_arg (P := Try.prog) w 26 5 Try.underlying26 Try.underlying5 b off l.length c (l.map fun (x : Nat) => (x : Int)) (by simp) (fun i hi => by
   obtain ⟨b', off', e', _, hc, _⟩ := h.at_ (List.getElem?_eq_getElem hi)
   injection e' with e'
   injection e' with e1 e2
   subst e1 e2
   rw [hc]; simp [List.getD_eq_getElem?_getD, hi]) 9 Try.underlying9
  rw [this]
  congr 2
  unfold strOfNums bstr
  simp [Function.comp_def]
theorem equal_calls (A A' : Option Addr) (c c' B B' : Nat) (l l' : List Nat) (w : World) (hlc : l.length ≤ c) (hc : c ≤ 9223372036854775807) (hr : RBA B w A l) (hlc' : l'.length ≤ c') (hc' : c' ≤ 9223372036854775807) (hr' : RBA B' w A' l') :
  Calls Try.prog 85 #[.slice A l.length c, .slice A' l'.length c'] w fun e w' => e = .returned (.bool (decide (l = l'))) ∧ w = w' := by
 have e1 := conv_rba c hr
 have e2 := conv_rba c' hr'
 have e3 := bstr_eq hr.1 hr'.1
 generalize decide (l = l') = z at *
 generalize bstr l = s at *
 generalize bstr l' = s' at *
 go_enter Try.func85, Try.ntmps85
 go_wp2_with fail
 go_ret
 exact ⟨rfl, rfl⟩
end Go.Proofs.Ytapehckcmmompaa
