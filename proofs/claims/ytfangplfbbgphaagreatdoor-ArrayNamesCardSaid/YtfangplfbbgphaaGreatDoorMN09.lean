/- Several texts in one. -/
import Derived.RangeFuncNested
import Derived.RangeFuncLeaves
import Derived.RangeFuncBound
import Derived.Shelf.Abstract
import Derived.Shelf.RegionOpen
import Derived.OwnWalkIn
import Derived.TacticsInMore
import Derived.LoopNIn
import Derived.LoopIn
import Derived.OpenShut
import Derived.Laws.CopyOwn
import Derived.BigGuardIn
import Derived.BigGuardPartIn
import Derived.Sort.BigQuietIn
import Derived.Laws.MakeOwn
import Derived.Test.YtfangplfbbgphaaGreatDoorMN00
import Derived.Test.YtfangplfbbgphaaGreatDoorMN06
import Derived.Test.YtfangplfbbgphaaGreatDoorMN07
import Derived.Test.YtfangplfbbgphaaGreatDoorMN08
namespace Go.Proofs.YtfangplfbbgphaaGreatDoor
open Go.ChangeShapes Go.WideShapes Go.ChangeAt Go.RowKit
set_option linter.unusedVariables false
set_option maxRecDepth 100000
set_option linter.unusedSimpArgs false
attribute [local go_sem ↓] Go.wp_at_zero Go.wp_at_succ
set_option maxRecDepth 100000 in
set_option maxHeartbeats 4000000 in
theorem stations_calls (A : Option Addr) (c : Nat) (l : List St) (w : World) (hl : RSt w A l) (hc : l.length ≤ c) (hc' : c ≤ 9223372036854775807) (hn : ∀ x ∈ l, x.nm.size ≤ 9223372036854775807) : Calls Tryz.prog 50 #[.slice A l.length c] w fun e w' =>
  e = .returned (.int .i64 (stsE l)) ∧ Below w.heap.size w w' := by
 by_cases h8 : 8 < l.length
 ·have FV : Hid (stsE l = 4) := Lib.hid (by unfold stsE; rw [if_pos h8])
  generalize stsE l = v at *
  go_enter Tryz.func50, Tryz.ntmps50
  go_wp2_with fail
  go_ret
  exact ⟨ret_int FV.out.symm, Below.refl _ _⟩
 have HL := Lib.hid hl
 have HN := Lib.hid hn
 have YES : Hid ((∀ (j : Nat) (y : St), j < l.length → l[j]? = some y → valS y = true) → stsE l = 0) := Lib.hid (fun h => by unfold stsE; rw [if_neg h8, if_pos (all_get h)])
 have NO : Hid (∀ (k : Nat) (x : St), l[k]? = some x → valS x = false → stsE l = 8) := Lib.hid (fun k x h h' => by unfold stsE; rw [if_neg h8, if_neg (by rw [all_not h h']; simp)])
 clear hl hn
 generalize stsE l = v at *
 go_enter Tryz.func50, Tryz.ntmps50
 go_wp2_with fail
 go_loopw [10] (fun i wr => ∃ k : Nat, k ≤ l.length ∧ i = .int .i64 k ∧ Hid (Below w.heap.size w wr) ∧ Hid (∀ (j : Nat) (y : St), j < k → l[j]? = some y → valS y = true)) (fun i _ => l.length - (intOf i).toNat)
 case atStart => exact ⟨0, by omega, rfl, Lib.hid (Below.refl _ _), Lib.hid (by omega)⟩
 case round =>
  obtain ⟨k, hk, rfl, NN, GD⟩ := hrel
  by_cases hlt : k < l.length
  ·obtain ⟨x, hx⟩ := get_some hlt
   obtain ⟨b, off, e, hb, hc0⟩ := Rd.rec_ HL.out (Nat.le_refl _) st5_len hx
   subst e
   have c0 := (NN.out.cell (p := ⟨b, off + k * 5, none⟩) hb).trans (hc0 0 _ rfl)
   have c1 := (NN.out.cell (p := ⟨b, off + k * 5 + 1, none⟩) hb).trans (hc0 1 _ rfl)
   have c2 := (NN.out.cell (p := ⟨b, off + k * 5 + 2, none⟩) hb).trans (hc0 2 _ rfl)
   have c3 := (NN.out.cell (p := ⟨b, off + k * 5 + 3, none⟩) hb).trans (hc0 3 _ rfl)
   have c4 := (NN.out.cell (p := ⟨b, off + k * 5 + 4, none⟩) hb).trans (hc0 4 _ rfl)
   have hbr : b < wr.heap.size := Nat.lt_of_lt_of_le hb NN.out.size
   have HX := Lib.hid hx
   have kk : k + 1 ≤ l.length := hlt
   have CV := Lib.hid (fun W => valid_calls x W (HN.out x (List.mem_of_getElem? hx)))
   clear hc0 hx
   go_wp2_with fail
   refine (CV.out _).mono ?_
   rintro e w1 ⟨rfl, hb1⟩
   replace NN := Lib.hid (Bgo (Bal NN.out (.cells #[.string x.nm, .int .i64 x.sn, .int .i64 x.sd, .int .i64 x.tn, .int .i64 x.td] 69)) hb1)
   clear hb1 c0 c1 c2 c3 c4
   cases hp : valS x
   ·have FV := Lib.hid (NO.out k x HX.out hp)
    clear GD YES NO HX hp
    go_wp2_with fail
    go_ret
    exact ⟨ret_int FV.out.symm, NN.out⟩
   ·have G2 := Lib.hid (take_all HX.out GD.out hp)
    clear GD YES NO HX hp
    go_wp2_with fail
    go_roundw
    case rel => exact ⟨k + 1, kk, by go_num, NN, G2⟩
    case measure => simp [intOf]; omega
  ·obtain rfl : k = l.length := by omega
   have FV := Lib.hid (YES.out GD.out)
   clear GD YES NO
   go_wp2_with fail
   go_ret
   exact ⟨ret_int FV.out.symm, NN.out⟩
end Go.Proofs.YtfangplfbbgphaaGreatDoor
namespace Go.Proofs.YtfangplfbbgphaaGreatDoor
open Go Go.RowKit
set_option linter.unusedVariables false
set_option maxRecDepth 100000
section
variable {P : Program}
def SeqK (P : Program) (g : Nat) (lb : Array Value) (encs : Nat → Array Value) (n₀ N : Nat) (Kp : World → Prop) (w : World) : Prop :=
 ∀ (l : Nat) (J Jx : Nat → World → Prop) (W : World), Below w.heap.size w W → AbidesFrom W.heap.size J → AbidesFrom W.heap.size Jx → (∀ k W1, J k W1 → Kp W1) →
  (∀ k W1, J k W1 → k < N → YieldAt Fence.wide 0 P l (encs k) W1 fun e W' =>
   (e = .returned (.bool true) ∧ J (k + 1) W' ∧ Below n₀ W1 W') ∨ (e = .returned (.bool false) ∧ Jx k W')) →
  J 0 W → CallsIn Fence.wide 0 P g (#[.func (.yield l) #[] #[]] ++ lb) W fun e W' => (∃ v, e = .returned v) ∧ (J N W' ∨ ∃ k, k < N ∧ Jx k W')
def roundN (B n₀ : Nat) (I : Nat → World → Prop) (Ix : Code → Nat → World → Prop) (k : Nat) (W : World) : Exit → Act → World → Prop
 | .normal, _, W' => KeepsFrom B W W' ∧ Below n₀ W W' ∧ I (k + 1) W'
 | .ret, _, W' => KeepsFrom B W W' ∧ Ix .ret k W'
 | .exit i, _, W' => KeepsFrom B W W' ∧ Ix (.exit i) k W'
 | .goto t, _, W' => KeepsFrom B W W' ∧ Ix (.goto t) k W'
 | .panic _, _, _ => False
 | .outgrown, _, _ => False
theorem keeps_of_below {B : Nat} {W W' : World} (h : Below W.heap.size W W') : KeepsFrom B W W' := ⟨h.size, fun k o _ hk _ => (h.block k (Array.getElem?_eq_some_iff.1 hk).1).trans hk⟩
theorem range_k {g : Operand} {ps : Array Tmp} {assign body : Code} {Q : Exit → Act → World → Prop} {a : Act} {w : World} (gf : Nat) (lb : Array Value)
  (hg : a.eval g = .func (.func gf) #[] lb) (eg : ∀ args w, (callFunc gf args).run P w = .ok (.enter gf args) w)
  (encs : Nat → Array Value) (n₀ N : Nat) (Kp : World → Prop) (hseq : SeqK P gf lb encs n₀ N Kp w) (hn : n₀ ≤ w.heap.size) (hps : ∀ k, (encs k).size = ps.size)
  (I : Nat → World → Prop) (Ix : Code → Nat → World → Prop) (Ax : Nat → Act → World → Prop) (hI : OwnFrom w.heap.size I) (hIx : ∀ c, OwnFrom w.heap.size (Ix c)) (hAx : ∀ a', OwnFrom w.heap.size (fun k => Ax k a'))
  (hKp : ∀ k W, I k W → Kp W) (h0 : I 0 w)
  (hassign : ∀ (l k : Nat) (W : World) (K : Act → World → Prop), I k W → k < N → (∀ a' W', KeepsFrom w.heap.size W W' → Below n₀ W W' → Ax k a' W' → K a' W') →
   assign.wpIn (Fence.wide.inRound l) 0 P (Exit.then K fun _ _ _ => False) { tmps := (ps.zip (encs k)).foldl (fun t (p, v) => t.setIfInBounds p v) a.tmps, defers := [] } W)
  (hbody : ∀ (l k : Nat) (a' : Act) (W : World), Ax k a' W → k < N → body.wpIn (Fence.wide.inRound l) 0 P (roundN w.heap.size n₀ I Ix k W) a' W)
  (hdone : ∀ (D : Nat) (W : World), w.heap.size ≤ D → I N W → W.heap[D]? = some (.deferred (some [])) → Q .normal { a with defers := { target := .collected D, args := #[] } :: a.defers } W)
  (hstop : ∀ (D : Nat) (c : Code) (k : Nat) (W : World), w.heap.size ≤ D → k < N → Ix c k W → W.heap[D]? = some (.deferred (some [])) → c.wpIn Fence.wide 0 P Q { a with defers := { target := .collected D, args := #[] } :: a.defers } W) :
  (Code.rangeFunc g ps assign body).wpIn Fence.wide 0 P Q a w := by
 refine wpIn_rangeFunc fun fn _ => ?_
 obtain ⟨D, hD⟩ : ∃ D, D = w.heap.size := ⟨_, rfl⟩
 obtain ⟨rc, hrc⟩ : ∃ rc : LoopState → Option Code → Loop, rc = fun st pe => { state := st, pending := pe, fn, tmps := a.tmps, params := ps, assign, body, defers := D } := ⟨_, rfl⟩
 have rc_p : ∀ st pe, (rc st pe).params = ps := fun st pe => by rw [hrc]
 obtain ⟨W1, hW1⟩ : ∃ W1, (w.alloc (.deferred (some []))).alloc (.loop (rc .ready none)) = W1 := ⟨_, rfl⟩
 have s1 : (w.alloc (.deferred (some []))).heap.size = D + 1 := by rw [World.size_alloc, hD]
 have hsz : W1.heap.size = D + 2 := by rw [← hW1, World.size_alloc, s1]
 have hL1 : W1.heap[D + 1]? = some (.loop (rc .ready none)) := by
  have := World.alloc_heap_new (w.alloc (.deferred (some []))) (.loop (rc .ready none))
  rw [s1, hW1] at this; exact this
 have hK1 : W1.heap[D]? = some (.deferred (some [])) := by
  have h2 := World.alloc_heap_new w (.deferred (some []))
  rw [← hD] at h2
  rw [← hW1]; exact (Below.heap_alloc _ _ _ (by rw [s1]; omega)).trans h2
 have hI1 : I 0 W1 := by rw [← hW1]; exact hI.alloc _ (hI.alloc _ h0)
 have hb1 : Below w.heap.size w W1 := by
  rw [← hW1]; exact ((Below.refl _ w).alloc (Nat.le_refl _) _).alloc (by simp) _
 refine ⟨D + 1, [{ target := .collected D, args := #[] }], W1, { target := .fn (.func gf) lb, args := #[.func (.yield (D + 1)) #[] #[]] }, W1, gf, #[.func (.yield (D + 1)) #[] #[]] ++ lb, W1, ?_, ?_, fun _ _ => trivial, ?_, fun h => by simp [Fence.wide] at h, ?_⟩
 ·rw [← hW1, hrc, hD]; exact run_enterLoop_outer _ _ _ _ _
 ·simp only [resolve, hg]
  simp [go_sem]
 ·simp [invoke, go_sem, eg]
 -- the book of the loop: its record lies at D + 1, the block for deferred calls at D
 have turn : ∀ {β : Type} {X : β → World → Prop} (hX : OwnFrom w.heap.size X) {s : β} {W : World} {o : Obj} (o' : Obj), X s W → W.heap[D + 1]? = some o → o.isCells = false → X s (W.putObj (D + 1) o') := fun hX _ _ _ o' h ho hc => hX.putObj o' h (by omega) ho hc
 have put_same : ∀ {W : World} {o : Obj} (o' : Obj), W.heap[D + 1]? = some o → (W.putObj (D + 1) o').heap[D + 1]? = some o' := fun _ h => World.putObj_heap_same (Array.getElem?_eq_some_iff.1 h).1
 have put_D : ∀ {W : World} (o' : Obj), W.heap[D]? = some (.deferred (some [])) → (W.putObj (D + 1) o').heap[D]? = some (.deferred (some [])) := fun _ h => (World.putObj_heap_other (by omega)).trans h
 have put_b : ∀ {W : World} {o : Obj} (o' : Obj), W.heap[D + 1]? = some o → o.isCells = false → o.isWalk = false → Below n₀ W (W.putObj (D + 1) o') := fun {W} o o' h hc hw => belowK_b hn W (D + 1) o o' (by omega) h hc hw
 have frm : ∀ {A B : World} {row : Option Nat}, (∀ r, row = some r → W1.heap.size ≤ r ∧ ∃ o : Obj, A.heap[r]? = some o ∧ o.isWalk = true) → (∀ r, row = some r → w.heap.size ≤ r ∧ ∃ o : Obj, A.heap[r]? = some o ∧ o.isCells = false) :=
  fun hr r e => by obtain ⟨hB, o, ho, hw⟩ := hr r e; exact ⟨by omega, o, ho, Obj.not_cells_of_walk hw⟩
 have stay : ∀ {A B : World} {row : Option Nat} (_ : A.grownBy B row) (_ : ∀ r, row = some r → W1.heap.size ≤ r ∧ ∃ o : Obj, A.heap[r]? = some o ∧ o.isWalk = true) {k : Nat} {o : Obj}, A.heap[k]? = some o → o.isWalk = false → B.heap[k]? = some o :=
  fun hg' hr _ _ hk hw => (grownBy_keeps hg' (fun r e => (hr r e).2) hk hw).trans hk
 refine (hseq (D + 1)
  (fun k W => I k W ∧ W.heap[D + 1]? = some (.loop (rc .ready none)) ∧ W.heap[D]? = some (.deferred (some [])))
  (fun k W => ∃ c, Ix c k W ∧ W.heap[D + 1]? = some (.loop (rc .done (some c))) ∧ W.heap[D]? = some (.deferred (some [])))
  W1 hb1
  (fun s A B row hs hg' hr => ⟨hI s A B row hs.1 hg' (frm (B := B) hr), stay hg' hr hs.2.1 rfl, stay hg' hr hs.2.2 rfl⟩)
  (fun s A B row hs hg' hr => by
   obtain ⟨c, hc, hl, hk⟩ := hs
   exact ⟨c, hIx c s A B row hc hg' (frm (B := B) hr), stay hg' hr hl rfl, stay hg' hr hk rfl⟩)
  (fun k W1 h => hKp k W1 h.1) ?_ ⟨hI1, hL1, hK1⟩).mono ?_
 ·-- a round
  rintro k W ⟨hi, hl, hk⟩ hlt
  have hy := run_yield (P := P) (args := encs k) hl (by rw [rc_p]; exact hps k)
  rw [hrc] at hy
  refine ⟨fn, _, assign, body, hy, roundIn_of_wpIn trivial (hassign _ k W _ hi hlt fun a₁ W₁ hf₁ hb₁ hx₁ => ?_)⟩
  have hl₁ := hf₁.same _ _ (by omega) hl rfl
  have hk₁ := hf₁.same _ _ (by omega) hk rfl
  refine ⟨_, run_beginRound hl₁ (by rw [hrc]), ?_⟩
  obtain ⟨bz, hbz⟩ : ∃ bz : Loop, bz = { rc .ready none with state := .busy } := ⟨_, rfl⟩
  rw [← hbz]
  have hl₂ := put_same (.loop bz) hl₁
  have hk₂ := put_D (.loop bz) hk₁
  have hx₂ := turn (hAx a₁) (.loop bz) hx₁ hl₁ rfl
  have hb₂ := hb₁.trans (put_b (.loop bz) hl₁ rfl rfl)
  refine wpIn_mono (hbody _ k a₁ _ hx₂ hlt) ?_
  have fin : ∀ (jump : Option Code) (W3 : World), KeepsFrom w.heap.size (W₁.putObj (D + 1) (.loop bz)) W3 →
    (Instr.endRound (D + 1) jump).run P W3 = .ok (.bool jump.isNone) (W3.putObj (D + 1) (.loop (rc (if jump.isNone then .ready else .done) jump))) ∧ W3.heap[D + 1]? = some (.loop bz) ∧ W3.heap[D]? = some (.deferred (some [])) := fun jump W3 h3 => by
   have hl3 := h3.same _ _ (by omega) hl₂ rfl
   have he := run_endRound (P := P) jump hl3
   rw [hbz, hrc] at he
   rw [hrc]
   exact ⟨he, hl3, h3.same _ _ (by omega) hk₂ rfl⟩
  rintro e a3 W3 hp
  cases e with
  | normal =>
   obtain ⟨h3, hb3, hi3⟩ := hp
   obtain ⟨hr, hl3, hk3⟩ := fin none W3 h3
   exact ⟨_, _, hr, .inl ⟨rfl, ⟨turn hI _ hi3 hl3 rfl, put_same _ hl3, put_D _ hk3⟩, (hb₂.trans hb3).trans (put_b _ hl3 rfl rfl)⟩⟩
  | ret =>
   obtain ⟨h3, hi3⟩ := hp
   obtain ⟨hr, hl3, hk3⟩ := fin (some .ret) W3 h3
   exact ⟨_, _, hr, .inr ⟨rfl, .ret, turn (hIx _) _ hi3 hl3 rfl, put_same _ hl3, put_D _ hk3⟩⟩
  | exit i =>
   obtain ⟨h3, hi3⟩ := hp
   obtain ⟨hr, hl3, hk3⟩ := fin (some (.exit i)) W3 h3
   exact ⟨_, _, hr, .inr ⟨rfl, .exit i, turn (hIx _) _ hi3 hl3 rfl, put_same _ hl3, put_D _ hk3⟩⟩
  | goto t =>
   obtain ⟨h3, hi3⟩ := hp
   obtain ⟨hr, hl3, hk3⟩ := fin (some (.goto t)) W3 h3
   exact ⟨_, _, hr, .inr ⟨rfl, .goto t, turn (hIx _) _ hi3 hl3 rfl, put_same _ hl3, put_D _ hk3⟩⟩
  | panic ch => exact hp.elim
  | outgrown => exact hp.elim
 ·-- behind the iterator
  rintro e W2 ⟨⟨v, rfl⟩, (⟨hi, hl, hk⟩ | ⟨k, hlt, c, hi, hl, hk⟩)⟩
  ·have he := run_endLoop (P := P) hl (by rw [hrc]; simp)
   rw [hrc] at he
   exact ⟨none, _, he, hdone D _ (by omega) (turn hI _ hi hl rfl) (put_D _ hk)⟩
  ·have he := run_endLoop (P := P) hl (by rw [hrc]; simp)
   rw [hrc] at he
   exact ⟨some c, _, he, hstop D c k _ (by omega) hlt (turn (hIx c) _ hi hl rfl) (put_D _ hk)⟩
end
end Go.Proofs.YtfangplfbbgphaaGreatDoor
namespace Go.Proofs.YtfangplfbbgphaaGreatDoor
open Go.ChangeShapes Go.WideShapes Go.ChangeAt Go.RowKit
set_option linter.unusedVariables false
set_option maxRecDepth 100000
set_option linter.unusedSimpArgs false
attribute [local go_sem] Oper.semAt_some
theorem pairs_calls (n : Int) (w : World) : Calls Tryz.prog 38 #[.int .i64 n] w fun e w' =>
  e = .returned (.func (.func 66) #[] #[.pointer (some ⟨w.heap.size, 0, none⟩)]) ∧ w' = w.alloc (.cells #[.int .i64 n] 3) := by
 go_enter Tryz.func38, Tryz.ntmps38
 go_wp2
 go_ret
 exact ⟨rfl, rfl⟩
def prAt (n k : Nat) : Nat × Nat := (prs n).getD k (0, 0)
abbrev encP (n k : Nat) : Array Value := #[.agg #[.int .i64 ((prAt n k).1 : Int), .int .i64 ((prAt n k).2 : Int)]]
set_option maxRecDepth 100000 in
set_option maxHeartbeats 4000000 in
theorem pairs_seq {n₀ n Bt : Nat} {w : World} (h8 : n < 9) (hn : n₀ ≤ w.heap.size) :
  SeqK Tryz.prog 66 #[.pointer (some ⟨Bt, 0, none⟩)] (encP n) n₀ (prs n).length (fun W => W.heap[Bt]? = some (.cells #[.int .i64 (n : Int)] 3)) w := by
 intro lp J Jx W hW hJ hJx hKp hY h0
 obtain ⟨p0, pl, pa⟩ := pix_all h8
 have P0 := Lib.hid p0
 have PL := Lib.hid pl
 have PA := Lib.hid pa
 have KP := Lib.hid hKp
 clear p0 pl pa hKp
 have J0 : Hid (J (pix n 0 1) W) := Lib.hid (by rw [P0.out]; exact h0)
 have VB := Lib.hid (KP.out 0 W h0)
 have cB := blk_cell VB.out 0 (.int .i64 (n : Int)) rfl
 have lB := blk_lt VB.out
 clear h0 P0
 refine callsIn_of_wp Tryz.func66 rfl trivial ?_ rfl
 simp only [Tryz.ntmps66, List.size_toArray, List.length_cons, List.length_nil, Nat.reduceAdd, Nat.reduceSub, Array.replicate_succ, Array.replicate_zero, List.push_toArray, List.append_toArray, List.nil_append, List.cons_append]
 gi_wp2
 clear cB lB VB
 gi_loopw [6] (fun i wr => ∃ k : Nat, k ≤ n ∧ i = .int .i64 k ∧ Hid (J (pix n k (k + 1)) wr) ∧ Hid (Below n₀ W wr) ∧ Hid (W.heap.size ≤ wr.heap.size)) (fun i _ => n - (intOf i).toNat)
 case atStart => exact ⟨0, Nat.zero_le _, rfl, J0, Lib.hid (Below.refl _ _), Lib.hid (Nat.le_refl _)⟩
 case round =>
  clear J0
  obtain ⟨k, hk, rfl, hJs, hnx, hsz⟩ := hrel
  by_cases hlt : k < n
  ·have hlt' := Lib.hid hlt
   gi_wp2
   gi_loopw [4] (fun i wr => ∃ j : Nat, k + 1 ≤ j ∧ j ≤ n ∧ i = .int .i64 j ∧ Hid (J (pix n k j) wr) ∧ Hid (Below n₀ W wr) ∧ Hid (W.heap.size ≤ wr.heap.size)) (fun i _ => n - (intOf i).toNat)
   case atStart => exact ⟨k + 1, Nat.le_refl _, hlt, by simp, hJs, hnx, hsz⟩
   case round =>
    clear hJs hnx hsz
    obtain ⟨j, hj1, hj2, rfl, hJs, hnx, hsz⟩ := hrel
    have VB := Lib.hid (KP.out _ _ hJs.out)
    have cB := blk_cell VB.out 0 (.int .i64 (n : Int)) rfl
    have lB := blk_lt VB.out
    by_cases hjn : j < n
    ·obtain ⟨h1, h2⟩ := (PA.out k hlt'.out).2.2 j hjn (by omega)
     have hkl : pix n k j < (prs n).length := get_lt h1
     have hpa : prAt n (pix n k j) = (k, j) := by unfold prAt; rw [List.getD_eq_getElem?_getD, h1]; rfl
     obtain ⟨fn, tmps, assign, body, hy, hR⟩ := hY (pix n k j) _ hJs.out hkl
     dsimp only [encP] at hy
     rw [hpa] at hy
     have H2 := Lib.hid h2
     have HKL := Lib.hid hkl
     clear h1 h2 hpa hkl
     gi_wp2
     refine ⟨rfl, ?_⟩
     refine hR.mono ?_
     rintro e W3 (⟨rfl, hJ3, hk3⟩ | ⟨rfl, hJx3⟩)
     ·gi_wp2
      go_roundw
      case rel => exact ⟨j + 1, by omega, by omega, by simp, Lib.hid (by rw [H2.out]; exact hJ3), Lib.hid (hnx.out.trans hk3), Lib.hid (Nat.le_trans hsz.out hk3.size)⟩
      case measure => simp [intOf]; omega
     ·gi_wp2
      refine bodyPost_ret (results_none rfl _ _ _) rfl ?_
      exact ⟨⟨_, rfl⟩, .inr ⟨_, HKL.out, hJx3⟩⟩
    ·obtain rfl : j = n := by omega
     gi_wp2
     go_roundw
     case rel => exact ⟨k + 1, by have := hlt'.out; omega, by simp, Lib.hid (by rw [← (PA.out k hlt'.out).1]; exact hJs.out), hnx, hsz⟩
     case measure => have := hlt'.out; simp [intOf]; omega
  ·obtain rfl : k = n := by omega
   gi_wp2
   go_end0
   exact ⟨⟨_, rfl⟩, .inl (by rw [← PL.out]; exact hJs.out)⟩
end Go.Proofs.YtfangplfbbgphaaGreatDoor
namespace Go.Proofs.YtfangplfbbgphaaGreatDoor
open Go.ChangeShapes Go.WideShapes Go.ChangeAt Go.RowKit
set_option linter.unusedVariables false
set_option maxRecDepth 100000
set_option linter.unusedSimpArgs false
attribute [local go_sem] Oper.semAt_some
theorem own_blk {B : Nat} {β : Type} (b : β → Nat) (cs : β → Array Value) (T : TypeId) : OwnFrom B (fun k W => W.heap[b k]? = some (.cells (cs k) T)) := by
 intro s W W' row h hg hr
 refine (hg.block (b s) (blk_lt h) fun e => ?_).trans h
 obtain ⟨_, o, ho, hc⟩ := hr (b s) e.symm
 rw [h] at ho
 cases ho
 cases hc
theorem own_pure {B : Nat} {β : Type} (p : β → Prop) : OwnFrom B (fun k (_ : World) => p k) := fun _ _ _ _ h _ _ => h
theorem own_size {B : Nat} {β : Type} (n : Nat) : OwnFrom B (fun (_ : β) W => n ≤ W.heap.size) := fun _ _ _ _ h hg _ => Nat.le_trans h hg.size
theorem own_ex {B : Nat} {β γ : Type} {I : γ → β → World → Prop} (h : ∀ x, OwnFrom B (I x)) : OwnFrom B (fun k W => ∃ x, I x k W) := fun s W W' row ⟨x, hx⟩ hg hr => ⟨x, h x s W W' row hx hg hr⟩
theorem put_blk {W : World} {D b : Nat} {o o' : Obj} (h : W.heap[b]? = some o) (hne : b ≠ D) : (W.putObj D o').heap[b]? = some o := (World.putObj_heap_other hne).trans h
theorem put_below {B : Nat} {w W : World} {D : Nat} {o o' : Obj} (h : Below B w W) (hD : B ≤ D) (hw : B ≤ w.heap.size) (ho : W.heap[D]? = some o) : Below B w (W.putObj D o') :=
 h.grown (grownBy_putObj' W D o') (Nat.le_trans hw h.size) (fun k e => by cases e; exact hD)
theorem below_mid {n : Nat} {w W V : World} (h : Below n w W) (k : Below n w V) (hs : W.heap.size ≤ V.heap.size) : Below n W V := ⟨k.os.trans h.os.symm, k.tape.trans h.tape.symm, k.output.trans h.output.symm, hs, fun b hb => (k.block b hb).trans (h.block b hb).symm⟩
theorem keep_set {B : Nat} {W V : World} (h : KeepsFrom B W V) (b off : Nat) (v : Value) : KeepsFrom B W (V.setCell ⟨b, off, none⟩ v) := h.trans ((KeepsOthers.setCell _ _ _).from _)
theorem rec_cell {α : Type} {f : α → List Value} {sz : Nat} (hf : ∀ x, (f x).length = sz) {W : World} {g : Nat} {l : List α} {T : TypeId} (h : W.heap[g]? = some (.cells (l.flatMap f).toArray T)) {i : Nat} {x : α} (hi : l[i]? = some x) (j : Nat) (u : Value) (hj : (f x)[j]? = some u) : W.cell? ⟨g, i * sz + j, none⟩ = some u := by
 have hlt : j < sz := by
  have := (List.getElem?_eq_some_iff.1 hj).1
  rw [hf] at this; exact this
 exact blk_cell h _ _ (by rw [List.getElem?_toArray, fm_get f sz hf l i j x hi hlt]; exact hj)
def noDefer (ops : Array Oper) : Bool := ops.all fun o => match o.op with | .defer _ => false | _ => true
theorem noDefer_spec {ops : Array Oper} (h : noDefer ops = true) {i : Nat} {o : Oper} (ho : ops[i]? = some o) : ∀ c, o.op ≠ .defer c := by
 intro c hc
 have h1 := Array.all_eq_true_iff_forall_mem.1 h o (Array.mem_of_getElem? ho)
 rw [hc] at h1
 cases h1
section
variable {F : Fence} {n : Nat} {P : Program} {ops : Array Oper} {md : Region.Mode} {C : World → Prop}
theorem wpIn_of_quiet_r {o : Oper} {a : Act} {K : Act → Prop} {K' : Act → World → Prop} {Q' : Exit → Act → World → Prop} {w : World} (hnd : ∀ c, o.op ≠ .defer c) (hw : C w) (h : ∀ a w', C w' → K a → K' a w')
  (ha : o.askedIn F P a C) (hh : o.quietIn F n P a C K) : o.wpIn F n P a w K' Q' := by
 obtain ⟨v, h1, h2⟩ := hh
 have h3 := h1 w hw
 unfold Oper.quietAtIn at h3
 unfold Oper.wpIn
 refine ⟨ha w hw, ?_⟩
 rw [Oper.semAt_plain F _ _ hnd]
 generalize (execOp a.eval o).run P w = r at *
 cases r with
 | ok x w' =>
  cases x <;> simp only [Oper.quietUponIn] at h3 <;> simp only [Oper.uponIn]
  case value u =>
   obtain ⟨e1, e2⟩ := h3
   rw [e1, e2]
   exact h _ _ hw h2
  case skip =>
   obtain ⟨e1, e2⟩ := h3
   rw [e1, ← e2]
   exact h _ _ hw h2
  case enter f args =>
   obtain ⟨e1, hd, hc⟩ := h3
   rw [e1]
   exact ⟨hd, hc.mono fun e w'' ⟨he, hw''⟩ => by subst he; exact h _ _ hw'' h2⟩
 | halt x w' => simp only [Oper.quietUponIn] at h3
theorem wpOpIn_of_q_r {i : Nat} {a : Act} {K : Act → Prop} {K' : Act → World → Prop} {Q' : Exit → Act → World → Prop} {w : World} (hnd : noDefer ops = true) (hC : C w) (h : ∀ a w', C w' → K a → K' a w')
  (hh : qOpIn F n P ops C i K a) : wpOpIn F n P ops Q' i K' a w := by
 unfold qOpIn at hh
 unfold wpOpIn
 split
 ·rename_i ho; simp only [ho] at hh; exact h _ _ hC hh
 ·rename_i o ho
  simp only [ho] at hh
  obtain ⟨ha, hh⟩ := hh
  split
  ·rename_i hw; simp only [hw, if_true] at hh; exact wpIn_of_quiet_r (noDefer_spec hnd ho) hC h ha hh
  ·rename_i hw; simp only [hw] at hh; exact ⟨ha w hC, h _ _ hC hh⟩
theorem wpAnyIn_of_quiet_r {Q : Act → Prop} {Q' : Exit → Act → World → Prop} (hnd : noDefer ops = true) (hQ : ∀ a w, C w → Q a → Q' .normal a w) : ∀ (fuel : Nat) (listed : Array Bool) (a : Act) (w : World), C w →
  wpAnyQIn F n P md ops C Q fuel listed a → wpAnyIn F n P md ops Q' fuel listed a w
 | 0, _, _, _, hw, h => ⟨h.1, hQ _ _ hw h.2⟩
 | fuel + 1, _, _, _, hw, h => ⟨fun h0 => hQ _ _ hw (h.1 h0), fun i hi => wpOpIn_of_q_r hnd hw (fun a' w' hw' => wpAnyIn_of_quiet_r hnd hQ fuel _ a' w' hw') (h.2 i hi)⟩
theorem region_quiet_r {id : Nat} {Q : Exit → Act → World → Prop} {a : Act} {w : World} {l : List Oper} (hnd : noDefer l.toArray = true) (hm : P.follows .mixedOrders = true) (hB : Region.lexB .any l.toArray = true)
  (h : wpQuietIn F n P l.toArray (fun w' => ∃ n, w' = w.drewN n) (fun a' => ∀ w', (∃ n, w' = w.drewN n) → Q .normal a' w') l a) : (Code.region id l.toArray true).wpIn F n P Q a w := by
 simp only [Region.lexB, Bool.and_eq_true] at hB
 refine wpIn_region_any hm (wpAnyIn_of_quiet_r (C := fun w' => ∃ n, w' = w.drewN n) (Q := fun a' => ∀ w', (∃ n, w' = w.drewN n) → Q .normal a' w') hnd (fun _ w' hw' h => h w' hw') _ _ _ _ ⟨1, rfl⟩ ?_)
 have := wpAnyQIn_lex (F := F) (n := n) (C := fun w' => ∃ n, w' = w.drewN n) (md := .any) hB.1 l 0 (Array.replicate l.toArray.size false) a (by simp) (by simpa using hB.2) h
 simpa using this
end
end Go.Proofs.YtfangplfbbgphaaGreatDoor
namespace Go.Proofs.YtfangplfbbgphaaGreatDoor
open Go.ChangeShapes Go.WideShapes Go.ChangeAt Go.RowKit
set_option linter.unusedVariables false
set_option maxRecDepth 100000
set_option linter.unusedSimpArgs false
attribute [local go_sem ↓] Go.wp_at_zero Go.wp_at_succ
attribute [local go_sem] Oper.semAt_some
theorem infoP : (Tryz.prog.info? 89).map (fun i => (i.zero, i.size, i.bytes)) = some (some (.agg #[.string ⟨#[]⟩, .int .i64 0, .int .i64 0, .int .i64 0, .int .i64 0, .int .i64 0, .int .i64 0, .int .i64 0, .int .i64 0, .int .i64 0, .int .i64 0]), 11, 96) := by kernel_rfl
theorem und_placed : Tryz.prog.underlying 80 = some (.slice 89) := by kernel_rfl
theorem infoPs : (Tryz.prog.info? 89).map (·.size) = some 11 := by kernel_rfl
def z11 : St × V6 := (⟨⟨#[]⟩, 0, 0, 0, 0⟩, ⟨0, 0, 0, 0, 0, 0⟩)
theorem made_placed {n : Nat} (h : n ≤ 8) : madeCells #[.string ⟨#[]⟩, .int .i64 0, .int .i64 0, .int .i64 0, .int .i64 0, .int .i64 0, .int .i64 0, .int .i64 0, .int .i64 0, .int .i64 0, .int .i64 0] (n * 11) = ((List.replicate n z11).flatMap pl11).toArray := by
 have hn : n = 0 ∨ n = 1 ∨ n = 2 ∨ n = 3 ∨ n = 4 ∨ n = 5 ∨ n = 6 ∨ n = 7 ∨ n = 8 := by omega
 rcases hn with rfl | rfl | rfl | rfl | rfl | rfl | rfl | rfl | rfl
 all_goals (show madeCells _ _ = _; kernel_rfl)
theorem make_placed {n : Nat} (h : n ≤ 8) (W : World) : (Instr.makeSlice 80 (.int .i64 (n : Int)) (.int .i64 (n : Int))).run Tryz.prog W = .ok (.slice (some ⟨W.heap.size, 0, none⟩) n n) (W.alloc (.cells ((List.replicate n z11).flatMap pl11).toArray 89)) := by
 obtain ⟨i, hi, hz, hs, hb⟩ := info_parts infoP
 have h1 := run_make (P := Tryz.prog) W 80 89 i _ und_placed hi hz .i64 .i64 (n : Int) (n : Int) (by omega) (by omega) (by rw [hb]; omega) (by omega)
 rw [hs, Int.toNat_natCast] at h1
 rw [h1]
 unfold Value.cells
 simp only
 rw [made_placed h]
theorem eqVe (a b : V6) (w : World) : (Op.equalIn 10000 38 (Vv a) (Vv b)).run Tryz.prog w = .ok (decide (a = b)) w := by
 obtain ⟨a1, a2, a3, a4, a5, a6⟩ := a
 obtain ⟨b1, b2, b3, b4, b5, b6⟩ := b
 have uu := Tryz.underlying2
 have ua := Tryz.isAgg2
 have uz := Tryz.sizeOf2
 rw [show (10000 : Nat) = 9999 + 1 from rfl, Op.equalIn]
 simp only [Sem.run_bind, run_underlying Tryz.underlying38, Result.andThen_ok]
 go_simp
 by_cases h1 : a1 = b1 <;> by_cases h2 : a2 = b2 <;> by_cases h3 : a3 = b3 <;> by_cases h4 : a4 = b4 <;> by_cases h5 : a5 = b5 <;> by_cases h6 : a6 = b6 <;> simp [h1, h2, h3, h4, h5, h6]
attribute [local go_sem ↓] eqVe
def rowsP (A B : Int) (l : List St) (k : Nat) : List (St × V6) := pls A B (l.take k) ++ List.replicate (l.length - k) z11
theorem rowsP_len {A B : Int} {l : List St} {k : Nat} (h : k ≤ l.length) : (rowsP A B l k).length = l.length := by
 unfold rowsP pls
 simp; omega
theorem rowsP_set {A B : Int} {l : List St} {k : Nat} {x : St} (hx : l[k]? = some x) : (rowsP A B l k).set k (x, plV A B x) = rowsP A B l (k + 1) := by
 have hlt := get_lt hx
 unfold rowsP pls
 obtain ⟨m, hm⟩ : ∃ m, l.length - k = m + 1 := ⟨l.length - k - 1, by omega⟩
 rw [hm, show l.length - (k + 1) = m by omega, List.replicate_succ, List.set_append_right _ _ (by simp; omega), List.length_map, List.length_take, Nat.min_eq_left (by omega), Nat.sub_self, List.set_cons_zero, List.take_succ_eq_append_getElem hlt, List.map_append, List.append_assoc]
 have e : l[k] = x := by rw [List.getElem?_eq_getElem hlt] at hx; exact Option.some.inj hx
 rw [e]; rfl
theorem rowsP_zero (A B : Int) (l : List St) : rowsP A B l 0 = List.replicate l.length z11 := by unfold rowsP pls; simp
theorem rowsP_all (A B : Int) (l : List St) : rowsP A B l l.length = pls A B l := by unfold rowsP; simp
theorem stsE_ok {l : List St} (h : stsE l = 0) : l.length ≤ 8 ∧ ∀ x ∈ l, valS x = true := by
 unfold stsE at h
 split at h
 ·omega
 ·split at h
  ·rename_i h1 h2; exact ⟨by omega, List.all_eq_true.1 h2⟩
  ·omega
theorem valS_pl {x : St} (h : valS x = true) : plB x.sn x.sd x.tn x.td = true := by
 unfold valS at h
 simp only [Bool.and_eq_true] at h
 exact h.2
theorem at_ok {A B : Int} {x : St} (hg : errG A B = 0) (hx : valS x = true) (W : World) : Calls Tryz.prog 65 #[Gv A B, Fv x.sn x.sd, Fv x.tn x.td] W fun e w' => e = .returned (.tuple #[Vv (plV A B x), .int .i64 0]) ∧ Below W.heap.size W w' := by
 have h := at_calls A B x.sn x.sd x.tn x.td W
 have e0 : atE A B x.sn x.sd x.tn x.td = 0 := by unfold atE; rw [if_neg (by omega), if_pos (valS_pl hx)]
 have e1 : atV A B x.sn x.sd x.tn x.td = Vv (plV A B x) := by unfold atV; rw [if_pos e0]; rfl
 rw [e0, e1] at h
 exact h
set_option maxRecDepth 100000 in
set_option maxHeartbeats 16000000 in
theorem place_calls {A B : Int} {a : Option Addr} {c : Nat} {l : List St} {w : World} (hl : RSt w a l) (hc : l.length ≤ c) (hc' : c ≤ 9223372036854775807) (hn : ∀ x ∈ l, x.nm.size ≤ 9223372036854775807) : Calls Tryz.prog 36 #[Gv A B, .slice a l.length c] w fun e w' =>
  ∃ v, e = .returned (.tuple #[v, .int .i64 (plE A B l)]) ∧ Below w.heap.size w w' ∧ (plE A B l ≠ 0 → v = .slice none 0 0) ∧
   (plE A B l = 0 → ∃ g, v = .slice (some ⟨g, 0, none⟩) l.length l.length ∧ w.heap.size ≤ g ∧ w'.heap[g]? = some (.cells ((pls A B l).flatMap pl11).toArray 89)) := by
 have NN := Lib.hid (Below.refl w.heap.size w)
 have GC := Lib.hid (fun W => gcheck_calls A B W)
 have HL := Lib.hid hl
 have SC := Lib.hid (fun (W : World) (hb : Below w.heap.size w W) => stations_calls a c l W (hl.next hb) hc hc' hn)
 have PE : Hid (plE A B l = if errG A B ≠ 0 then errG A B else if stsE l ≠ 0 then stsE l else if dupB (pls A B l) then 14 else 0) := Lib.hid rfl
 obtain ⟨pe, hpe⟩ : ∃ pe, plE A B l = pe := ⟨_, rfl⟩
 rw [hpe] at PE
 simp only [hpe]
 clear hl hn hpe
 refine (callsIn_wide (n := 0)).1 ?_
 refine callsIn_of_wp_marks Tryz.func36 rfl trivial ?_ rfl
 simp only [Tryz.ntmps36, List.size_toArray, List.length_cons, List.length_nil, Nat.reduceAdd, Nat.reduceSub, Array.replicate_succ, Array.replicate_zero, List.push_toArray, List.append_toArray, List.nil_append, List.cons_append]
 refine wpIn_wide.2 ?_
 go_wp2_with fail
 have G : Hid ((((w.alloc (.cells #[.int .i64 A, .int .i64 B] 23)).alloc (.cells #[.slice none 0 0] 80)).alloc (.cells #[.int .i64 0] 28)).heap[w.heap.size]? = some (.cells #[.int .i64 A, .int .i64 B] 23)) := Lib.hid (blk_alloc (blk_alloc (blk_new w _) _) _)
 have R4 : Hid ((((w.alloc (.cells #[.int .i64 A, .int .i64 B] 23)).alloc (.cells #[.slice none 0 0] 80)).alloc (.cells #[.int .i64 0] 28)).heap[w.heap.size + 1]? = some (.cells #[.slice none 0 0] 80)) := Lib.hid (blk_alloc (blk_at _ (by simp)) _)
 have R5 : Hid ((((w.alloc (.cells #[.int .i64 A, .int .i64 B] 23)).alloc (.cells #[.slice none 0 0] 80)).alloc (.cells #[.int .i64 0] 28)).heap[w.heap.size + 1 + 1]? = some (.cells #[.int .i64 0] 28)) := Lib.hid (blk_at _ (by simp))
 replace NN : Hid (Below w.heap.size w (((w.alloc (.cells #[.int .i64 A, .int .i64 B] 23)).alloc (.cells #[.slice none 0 0] 80)).alloc (.cells #[.int .i64 0] 28))) := Lib.hid (Bal (Bal (Bal NN.out _) _) _)
 generalize (((w.alloc (.cells #[.int .i64 A, .int .i64 B] 23)).alloc (.cells #[.slice none 0 0] 80)).alloc (.cells #[.int .i64 0] 28)) = W1 at *
 refine (GC.out _).mono ?_
 rintro e w2 ⟨rfl, hb⟩
 replace NN := Lib.hid (Bgo NN.out hb)
 replace G := Lib.hid (blk_next hb G.out)
 replace R4 := Lib.hid (blk_next hb R4.out)
 replace R5 := Lib.hid (blk_next hb R5.out)
 clear hb
 by_cases hg : errG A B ≠ 0
 ·have HP : Hid (pe = errG A B) := Lib.hid (by rw [PE.out, if_pos hg])
  have HQ : Hid (errG A B ≠ 0) := Lib.hid hg
  have q1 : (errG A B != 0) = true := by simpa using hg
  clear hg PE SC
  generalize errG A B = eg at *
  have c_R4_0 := blk_cell R4.out 0 _ rfl
  have f_R4_0 := blk_frozen R4.out 0
  have l_R4 := blk_lt R4.out
  have c_R5_0 := blk_cell R5.out 0 _ rfl
  have f_R5_0 := blk_frozen R5.out 0
  have l_R5 := blk_lt R5.out
  go_wp2_with fail
  clear c_R4_0 f_R4_0 l_R4 c_R5_0 f_R5_0 l_R5
  replace G : Hid (((w2.setCell ⟨w.heap.size + 1, 0, none⟩ (.slice none 0 0)).setCell ⟨w.heap.size + 1 + 1, 0, none⟩ (.int .i64 eg)).heap[w.heap.size]? = some (.cells #[.int .i64 A, .int .i64 B] 23)) := Lib.hid (blk_set_other (b' := w.heap.size + 1 + 1) (blk_set_other (b' := w.heap.size + 1) (G.out) (by omega) 0 (.slice none 0 0)) (by omega) 0 (.int .i64 eg))
  replace R4 : Hid (((w2.setCell ⟨w.heap.size + 1, 0, none⟩ (.slice none 0 0)).setCell ⟨w.heap.size + 1 + 1, 0, none⟩ (.int .i64 eg)).heap[w.heap.size + 1]? = some (.cells #[.slice none 0 0] 80)) := Lib.hid (blk_set_other (b' := w.heap.size + 1 + 1) (blk_set (R4.out) 0 (.slice none 0 0)) (by omega) 0 (.int .i64 eg))
  replace R5 : Hid (((w2.setCell ⟨w.heap.size + 1, 0, none⟩ (.slice none 0 0)).setCell ⟨w.heap.size + 1 + 1, 0, none⟩ (.int .i64 eg)).heap[w.heap.size + 1 + 1]? = some (.cells #[.int .i64 eg] 28)) := Lib.hid (blk_set (blk_set_other (b' := w.heap.size + 1) (R5.out) (by omega) 0 (.slice none 0 0)) 0 (.int .i64 eg))
  replace NN := Lib.hid (Bset1 (Bset1 (NN.out) (show w.heap.size ≤ w.heap.size + 1 by omega) 0 (.slice none 0 0)) (show w.heap.size ≤ w.heap.size + 1 + 1 by omega) 0 (.int .i64 eg))
  generalize ((w2.setCell ⟨w.heap.size + 1, 0, none⟩ (.slice none 0 0)).setCell ⟨w.heap.size + 1 + 1, 0, none⟩ (.int .i64 eg)) = W3 at *
  have c_R4_0 := blk_cell R4.out 0 _ rfl
  have f_R4_0 := blk_frozen R4.out 0
  have l_R4 := blk_lt R4.out
  have c_R5_0 := blk_cell R5.out 0 _ rfl
  have f_R5_0 := blk_frozen R5.out 0
  have l_R5 := blk_lt R5.out
  go_wp2_with fail
  exact ⟨.tuple #[.slice none 0 0, .int .i64 eg], by simp [results, Tryz.results36, go_sem, c_R4_0, c_R5_0], ⟨_, by rw [HP.out], NN.out, fun _ => rfl, fun h => absurd (HP.out.symm.trans h) HQ.out⟩⟩
 have hg0 : errG A B = 0 := by omega
 rw [hg0]
 have HG := Lib.hid hg0
 rw [if_neg hg] at PE
 clear hg hg0 GC
 have c_G_0 := blk_cell G.out 0 _ rfl
 have f_G_0 := blk_frozen G.out 0
 have c_G_1 := blk_cell G.out 1 _ rfl
 have f_G_1 := blk_frozen G.out 1
 have l_G := blk_lt G.out
 go_wp2_with fail
 clear c_G_0 f_G_0 c_G_1 f_G_1 l_G
 refine (SC.out _ NN.out).mono ?_
 rintro e w4 ⟨rfl, hb⟩
 replace NN := Lib.hid (Bgo NN.out hb)
 replace G := Lib.hid (blk_next hb G.out)
 replace R4 := Lib.hid (blk_next hb R4.out)
 replace R5 := Lib.hid (blk_next hb R5.out)
 clear hb
 by_cases hs : stsE l ≠ 0
 ·have HP : Hid (pe = stsE l) := Lib.hid (by rw [PE.out, if_pos hs])
  have HQ : Hid (stsE l ≠ 0) := Lib.hid hs
  have q1 : (stsE l != 0) = true := by simpa using hs
  clear hs PE SC HL
  generalize stsE l = eg at *
  have c_R4_0 := blk_cell R4.out 0 _ rfl
  have f_R4_0 := blk_frozen R4.out 0
  have l_R4 := blk_lt R4.out
  have c_R5_0 := blk_cell R5.out 0 _ rfl
  have f_R5_0 := blk_frozen R5.out 0
  have l_R5 := blk_lt R5.out
  go_wp2_with fail
  clear c_R4_0 f_R4_0 l_R4 c_R5_0 f_R5_0 l_R5
  replace G : Hid (((w4.setCell ⟨w.heap.size + 1, 0, none⟩ (.slice none 0 0)).setCell ⟨w.heap.size + 1 + 1, 0, none⟩ (.int .i64 eg)).heap[w.heap.size]? = some (.cells #[.int .i64 A, .int .i64 B] 23)) := Lib.hid (blk_set_other (b' := w.heap.size + 1 + 1) (blk_set_other (b' := w.heap.size + 1) (G.out) (by omega) 0 (.slice none 0 0)) (by omega) 0 (.int .i64 eg))
  replace R4 : Hid (((w4.setCell ⟨w.heap.size + 1, 0, none⟩ (.slice none 0 0)).setCell ⟨w.heap.size + 1 + 1, 0, none⟩ (.int .i64 eg)).heap[w.heap.size + 1]? = some (.cells #[.slice none 0 0] 80)) := Lib.hid (blk_set_other (b' := w.heap.size + 1 + 1) (blk_set (R4.out) 0 (.slice none 0 0)) (by omega) 0 (.int .i64 eg))
  replace R5 : Hid (((w4.setCell ⟨w.heap.size + 1, 0, none⟩ (.slice none 0 0)).setCell ⟨w.heap.size + 1 + 1, 0, none⟩ (.int .i64 eg)).heap[w.heap.size + 1 + 1]? = some (.cells #[.int .i64 eg] 28)) := Lib.hid (blk_set (blk_set_other (b' := w.heap.size + 1) (R5.out) (by omega) 0 (.slice none 0 0)) 0 (.int .i64 eg))
  replace NN := Lib.hid (Bset1 (Bset1 (NN.out) (show w.heap.size ≤ w.heap.size + 1 by omega) 0 (.slice none 0 0)) (show w.heap.size ≤ w.heap.size + 1 + 1 by omega) 0 (.int .i64 eg))
  generalize ((w4.setCell ⟨w.heap.size + 1, 0, none⟩ (.slice none 0 0)).setCell ⟨w.heap.size + 1 + 1, 0, none⟩ (.int .i64 eg)) = W5 at *
  have c_R4_0 := blk_cell R4.out 0 _ rfl
  have f_R4_0 := blk_frozen R4.out 0
  have l_R4 := blk_lt R4.out
  have c_R5_0 := blk_cell R5.out 0 _ rfl
  have f_R5_0 := blk_frozen R5.out 0
  have l_R5 := blk_lt R5.out
  go_wp2_with fail
  exact ⟨.tuple #[.slice none 0 0, .int .i64 eg], by simp [results, Tryz.results36, go_sem, c_R4_0, c_R5_0], ⟨_, by rw [HP.out], NN.out, fun _ => rfl, fun h => absurd (HP.out.symm.trans h) HQ.out⟩⟩
 have hs0 : stsE l = 0 := by omega
 rw [hs0]
 rw [if_neg hs] at PE
 obtain ⟨h8, hv⟩ := stsE_ok hs0
 clear hs hs0 SC
 have MK := fun W => make_placed h8 W
 have HV := Lib.hid hv
 clear hv
 go_wp2_with fail
 have HB := Lib.hid (show Below w4.heap.size w4 ((w4.alloc (.cells ((List.replicate l.length z11).flatMap pl11).toArray 89)).alloc (.cells #[.slice (some ⟨w4.heap.size, 0, none⟩) l.length l.length] 80)) from Bal (Bal (Below.refl _ _) _) _)
 have RB : Hid (((w4.alloc (.cells ((List.replicate l.length z11).flatMap pl11).toArray 89)).alloc (.cells #[.slice (some ⟨w4.heap.size, 0, none⟩) l.length l.length] 80)).heap[w4.heap.size]? = some (.cells ((List.replicate l.length z11).flatMap pl11).toArray 89)) := Lib.hid (blk_alloc (blk_new w4 _) _)
 have V8 : Hid (((w4.alloc (.cells ((List.replicate l.length z11).flatMap pl11).toArray 89)).alloc (.cells #[.slice (some ⟨w4.heap.size, 0, none⟩) l.length l.length] 80)).heap[w4.heap.size + 1]? = some (.cells #[.slice (some ⟨w4.heap.size, 0, none⟩) l.length l.length] 80)) := Lib.hid (blk_at _ (by simp))
 have LR : Hid (w.heap.size + 1 + 1 < w4.heap.size) := Lib.hid (blk_lt R5.out)
 replace NN := Lib.hid (Bgo NN.out HB.out)
 replace G := Lib.hid (blk_next HB.out G.out)
 replace R4 := Lib.hid (blk_next HB.out R4.out)
 replace R5 := Lib.hid (blk_next HB.out R5.out)
 clear HB
 generalize ((w4.alloc (.cells ((List.replicate l.length z11).flatMap pl11).toArray 89)).alloc (.cells #[.slice (some ⟨w4.heap.size, 0, none⟩) l.length l.length] 80)) = W0 at *
 generalize w4.heap.size = gR at *
 rw [← rowsP_zero A B l] at RB
 go_loopw [29] (fun i wr => ∃ k : Nat, k ≤ l.length ∧ i = .int .i64 k ∧ Hid (Below w.heap.size w wr) ∧ Hid (wr.heap[w.heap.size]? = some (.cells #[.int .i64 A, .int .i64 B] 23)) ∧ Hid (wr.heap[w.heap.size + 1]? = some (.cells #[.slice none 0 0] 80)) ∧ Hid (wr.heap[w.heap.size + 1 + 1]? = some (.cells #[.int .i64 0] 28)) ∧ Hid (wr.heap[gR + 1]? = some (.cells #[.slice (some ⟨gR, 0, none⟩) l.length l.length] 80)) ∧ Hid (wr.heap[gR]? = some (.cells ((rowsP A B l k).flatMap pl11).toArray 89))) (fun i _ => l.length - (intOf i).toNat)
 case atStart => exact ⟨0, by omega, rfl, NN, G, R4, R5, V8, RB⟩
 case round =>
  clear NN G R4 R5 V8 RB MK
  obtain ⟨k, hk, rfl, NN, G, R4, R5, V8, RB⟩ := hrel
  by_cases hlt : k < l.length
  ·obtain ⟨x, hx⟩ := get_some hlt
   obtain ⟨b, off, e, hb, hc0⟩ := Rd.rec_ HL.out (Nat.le_refl _) st5_len hx
   subst e
   have c0 := (NN.out.cell (p := ⟨b, off + k * 5, none⟩) hb).trans (hc0 0 _ rfl)
   have c1 := (NN.out.cell (p := ⟨b, off + k * 5 + 1, none⟩) hb).trans (hc0 1 _ rfl)
   have c2 := (NN.out.cell (p := ⟨b, off + k * 5 + 2, none⟩) hb).trans (hc0 2 _ rfl)
   have c3 := (NN.out.cell (p := ⟨b, off + k * 5 + 3, none⟩) hb).trans (hc0 3 _ rfl)
   have c4 := (NN.out.cell (p := ⟨b, off + k * 5 + 4, none⟩) hb).trans (hc0 4 _ rfl)
   have hbr : b < wr.heap.size := Nat.lt_of_lt_of_le hb NN.out.size
   have HX := Lib.hid hx
   have kk : k + 1 ≤ l.length := hlt
   have CA := Lib.hid (fun W => at_ok HG.out (HV.out x (List.mem_of_getElem? hx)) W)
   have HK : Hid (k < (rowsP A B l k).length) := Lib.hid (by rw [rowsP_len (by omega)]; exact hlt)
   clear hc0 hx hb
   have c_G_0 := blk_cell G.out 0 _ rfl
   have f_G_0 := blk_frozen G.out 0
   have c_G_1 := blk_cell G.out 1 _ rfl
   have f_G_1 := blk_frozen G.out 1
   have l_G := blk_lt G.out
   go_wp2_with fail
   clear c_G_0 f_G_0 c_G_1 f_G_1 l_G
   clear c0 c1 c2 c3 c4 hbr
   have HB := Lib.hid (Bal (Below.refl wr.heap.size wr) (.cells #[.string x.nm, .int .i64 x.sn, .int .i64 x.sd, .int .i64 x.tn, .int .i64 x.td] 69))
   replace NN := Lib.hid (Bgo NN.out HB.out)
   replace RB := Lib.hid (blk_next HB.out RB.out)
   replace G := Lib.hid (blk_next HB.out G.out)
   replace R4 := Lib.hid (blk_next HB.out R4.out)
   replace R5 := Lib.hid (blk_next HB.out R5.out)
   replace V8 := Lib.hid (blk_next HB.out V8.out)
   clear HB
   have X : Hid ((wr.alloc (.cells #[.string x.nm, .int .i64 x.sn, .int .i64 x.sd, .int .i64 x.tn, .int .i64 x.td] 69)).heap[wr.heap.size]? = some (.cells #[.string x.nm, .int .i64 x.sn, .int .i64 x.sd, .int .i64 x.tn, .int .i64 x.td] 69)) := Lib.hid (blk_new wr _)
   skip
   refine (CA.out _).mono ?_
   rintro e w6 ⟨rfl, hb⟩
   replace NN := Lib.hid (Bgo NN.out hb)
   replace RB := Lib.hid (blk_next hb RB.out)
   replace G := Lib.hid (blk_next hb G.out)
   replace R4 := Lib.hid (blk_next hb R4.out)
   replace R5 := Lib.hid (blk_next hb R5.out)
   replace V8 := Lib.hid (blk_next hb V8.out)
   replace X := Lib.hid (blk_next hb X.out)
   clear hb
   generalize hpv : plV A B x = pv at *
   have HB := Lib.hid (Bal (Below.refl w6.heap.size w6) (.cells #[.int .i64 pv.x1, .int .i64 pv.x2, .int .i64 pv.y1, .int .i64 pv.y2, .int .i64 pv.z1, .int .i64 pv.z2] 38))
   replace NN := Lib.hid (Bgo NN.out HB.out)
   replace RB := Lib.hid (blk_next HB.out RB.out)
   replace G := Lib.hid (blk_next HB.out G.out)
   replace R4 := Lib.hid (blk_next HB.out R4.out)
   replace R5 := Lib.hid (blk_next HB.out R5.out)
   replace V8 := Lib.hid (blk_next HB.out V8.out)
   replace X := Lib.hid (blk_next HB.out X.out)
   clear HB
   have c_X_0 := blk_cell X.out 0 _ rfl
   have f_X_0 := blk_frozen X.out 0
   have c_X_1 := blk_cell X.out 1 _ rfl
   have f_X_1 := blk_frozen X.out 1
   have c_X_2 := blk_cell X.out 2 _ rfl
   have f_X_2 := blk_frozen X.out 2
   have c_X_3 := blk_cell X.out 3 _ rfl
   have f_X_3 := blk_frozen X.out 3
   have c_X_4 := blk_cell X.out 4 _ rfl
   have f_X_4 := blk_frozen X.out 4
   have l_X := blk_lt X.out
   have c_V8_0 := blk_cell V8.out 0 _ rfl
   have f_V8_0 := blk_frozen V8.out 0
   have l_V8 := blk_lt V8.out
   go_wp2_with ((with_reducible refine (show wpList _ _ _ (Oper.mk none (Op.store 89 _ _) _ _ _ _ :: _) _ _ from ?_)); (refine wpList_store_rec rfl 89 _ _ rfl pl11 11 pl11_len pl11_one gR k (rowsP A B l k) (x, pv) HK.out _ rfl rfl rfl 89 RB.out infoPs ?_))
   clear c_X_0 f_X_0 c_X_1 f_X_1 c_X_2 f_X_2 c_X_3 f_X_3 c_X_4 f_X_4 l_X c_V8_0 f_V8_0 l_V8
   go_roundw
   case rel => exact ⟨k + 1, kk, by go_num, Lib.hid (below_setRow NN.out (show w.heap.size ≤ gR by have := LR.out; omega) _), Lib.hid ((setRow_other _ gR (w.heap.size) _ (by have := LR.out; omega)).trans G.out), Lib.hid ((setRow_other _ gR (w.heap.size + 1) _ (by have := LR.out; omega)).trans R4.out), Lib.hid ((setRow_other _ gR (w.heap.size + 1 + 1) _ (by have := LR.out; omega)).trans R5.out), Lib.hid ((setRow_other _ gR (gR + 1) _ (by have := LR.out; omega)).trans V8.out), Lib.hid ((setRow_heap _ gR _ ((((rowsP A B l k).set k (x, pv)).flatMap pl11).toArray) _ _ RB.out).trans (by rw [← hpv, rowsP_set HX.out]))⟩
   case measure => simp [intOf]; omega
  ·obtain rfl : k = l.length := by omega
   rw [rowsP_all] at RB
   clear HL HV HG hk
   have c_V8_0 := blk_cell V8.out 0 _ rfl
   have f_V8_0 := blk_frozen V8.out 0
   have l_V8 := blk_lt V8.out
   go_wp2_with fail
   clear c_V8_0 f_V8_0 l_V8
   refine (pairs_calls _ _).mono ?_
   rintro e w9 ⟨rfl, rfl⟩
   go_wp2_with fail
   clear G
   have HB := Lib.hid (Bal (Below.refl wr.heap.size wr) (.cells #[.int .i64 (l.length : Int)] 3))
   have VT : Hid ((wr.alloc (.cells #[.int .i64 (l.length : Int)] 3)).heap[wr.heap.size]? = some (.cells #[.int .i64 (l.length : Int)] 3)) := Lib.hid (blk_new wr _)
   have LB : Hid (gR + 1 < wr.heap.size) := Lib.hid (blk_lt V8.out)
   have SZ : Hid ((wr.alloc (.cells #[.int .i64 (l.length : Int)] 3)).heap.size = wr.heap.size + 1) := Lib.hid (by simp)
   replace NN := Lib.hid (Bgo NN.out HB.out)
   replace RB := Lib.hid (blk_next HB.out RB.out)
   replace R4 := Lib.hid (blk_next HB.out R4.out)
   replace R5 := Lib.hid (blk_next HB.out R5.out)
   replace V8 := Lib.hid (blk_next HB.out V8.out)
   clear HB
   generalize wr.alloc (.cells #[.int .i64 (l.length : Int)] 3) = W9 at *
   generalize wr.heap.size = bt at *
   refine wpIn_wide.1 (range_k 66 #[.pointer (some ⟨bt, 0, none⟩)] rfl (enters_of Tryz.func66 (by kernel_rfl) rfl) (encP l.length) w.heap.size (prs l.length).length (fun W => W.heap[bt]? = some (.cells #[.int .i64 (l.length : Int)] 3))
    (pairs_seq (by omega) (by have := SZ.out; have := LB.out; have := LR.out; omega)) (by have := SZ.out; have := LB.out; have := LR.out; omega) (fun _ => rfl)
    (fun k W => (W.heap[w.heap.size + 1]? = some (.cells #[.slice none 0 0] 80)) ∧ (W.heap[w.heap.size + 1 + 1]? = some (.cells #[.int .i64 0] 28)) ∧ (W.heap[gR + 1]? = some (.cells #[.slice (some ⟨gR, 0, none⟩) l.length l.length] 80)) ∧ (W.heap[bt]? = some (.cells #[.int .i64 (l.length : Int)] 3)) ∧ (W.heap[gR]? = some (.cells ((pls A B l).flatMap pl11).toArray 89)) ∧ (Below w.heap.size w W) ∧ (bt + 1 ≤ W.heap.size) ∧ (∀ t p q, t < k → (pls A B l)[(prAt l.length t).1]? = some p → (pls A B l)[(prAt l.length t).2]? = some q → dupP p q = false))
    (fun cd k W => (cd = .ret) ∧ (dupB (pls A B l) = true) ∧ (W.heap[w.heap.size + 1]? = some (.cells #[.slice none 0 0] 80)) ∧ (W.heap[w.heap.size + 1 + 1]? = some (.cells #[.int .i64 14] 28)) ∧ (Below w.heap.size w W))
    (fun k a' W => ∃ Bx : Nat, (a' = { tmps := #[Gv A B, .slice a l.length c, .pointer (some ⟨w.heap.size, 0, none⟩), undef, .pointer (some ⟨w.heap.size + 1, 0, none⟩), .pointer (some ⟨w.heap.size + 1 + 1, 0, none⟩), .int .i64 0, .int .i64 0, .pointer (some ⟨gR + 1, 0, none⟩), u9, u10, u11, u12, .pointer (some ⟨Bx, 0, none⟩), Gv A B, .int .i64 0, .int .i64 0, .bool false, undef, .slice a l.length c, .int .i64 0, .int .i64 0, .bool false, undef, .slice a l.length c, .int .i64 (l.length : Int), .slice (some ⟨gR, 0, none⟩) l.length l.length, .slice a l.length c, .int .i64 (l.length : Int), .int .i64 (l.length : Int), .bool false, u31, u32, u33, u34, u35, u36, u37, u38, u39, u40, u41, u42, u43, u44, u45, u46, u47, u48, u49, u50, u51, u52, .slice (some ⟨gR, 0, none⟩) l.length l.length, .int .i64 (l.length : Int), .func (.func 66) #[] #[.pointer (some ⟨bt, 0, none⟩)], .agg #[.int .i64 ((prAt l.length k).1 : Int), .int .i64 ((prAt l.length k).2 : Int)], undef, undef, undef, undef, undef, undef, undef, undef, undef, undef, undef, undef, undef, undef, undef, undef, undef, undef, undef, undef, undef, undef, undef, undef, undef, undef, undef, undef, undef, undef, undef], defers := [] }) ∧ (bt + 1 ≤ Bx) ∧ (W.heap[Bx]? = some (.cells #[.int .i64 ((prAt l.length k).1 : Int), .int .i64 ((prAt l.length k).2 : Int)] 43)) ∧ (W.heap[w.heap.size + 1]? = some (.cells #[.slice none 0 0] 80)) ∧ (W.heap[w.heap.size + 1 + 1]? = some (.cells #[.int .i64 0] 28)) ∧ (W.heap[gR + 1]? = some (.cells #[.slice (some ⟨gR, 0, none⟩) l.length l.length] 80)) ∧ (W.heap[bt]? = some (.cells #[.int .i64 (l.length : Int)] 3)) ∧ (W.heap[gR]? = some (.cells ((pls A B l).flatMap pl11).toArray 89)) ∧ (Below w.heap.size w W) ∧ (bt + 1 ≤ W.heap.size) ∧ (∀ t p q, t < k → (pls A B l)[(prAt l.length t).1]? = some p → (pls A B l)[(prAt l.length t).2]? = some q → dupP p q = false))
    ((own_blk _ _ _).and ((own_blk _ _ _).and ((own_blk _ _ _).and ((own_blk _ _ _).and ((own_blk _ _ _).and ((ownFrom_below (Nat.le_refl _) (by have := SZ.out; have := LB.out; have := LR.out; omega)).and ((own_size _).and (own_pure _))))))))
    (fun _ => ((own_pure _).and ((own_pure _).and ((own_blk _ _ _).and ((own_blk _ _ _).and (ownFrom_below (Nat.le_refl _) (by have := SZ.out; have := LB.out; have := LR.out; omega)))))))
    (fun _ => own_ex fun _ => ((own_pure _).and ((own_pure _).and ((own_blk _ _ _).and ((own_blk _ _ _).and ((own_blk _ _ _).and ((own_blk _ _ _).and ((own_blk _ _ _).and ((own_blk _ _ _).and ((ownFrom_below (Nat.le_refl _) (by have := SZ.out; have := LB.out; have := LR.out; omega)).and ((own_size _).and (own_pure _))))))))))))
    (fun k W h => h.2.2.2.1)
    ⟨R4.out, R5.out, V8.out, VT.out, RB.out, NN.out, (by have := SZ.out; omega), (fun t p q h => absurd h (Nat.not_lt_zero _))⟩ ?assign ?body ?done ?stop)
   case assign =>
    rintro lp k W K ⟨r4, r5, v8, vt, rb, nn, sz, nd⟩ hlt hK
    gi_wp2
    exact hK _ _ (keeps_of_below (Bal (Below.refl _ _) _)) ((Below.refl _ W).alloc nn.size _) ⟨W.heap.size, rfl, sz, blk_new W _, blk_alloc r4 _, blk_alloc r5 _, blk_alloc v8 _, blk_alloc vt _, blk_alloc rb _, Bal nn _, by rw [World.size_alloc]; omega, nd⟩
   case body =>
    rintro lp k a' W ⟨Bx, rfl, lx, vx, r4, r5, v8, vt, rb, nn, sz, nd⟩ hlt
    obtain ⟨i, j, hij⟩ : ∃ i j, prAt l.length k = (i, j) := ⟨_, _, rfl⟩
    have hmem : (i, j) ∈ prs l.length := by rw [← hij]; unfold prAt; rw [List.getD_eq_getElem?_getD, List.getElem?_eq_getElem hlt]; exact List.getElem_mem hlt
    obtain ⟨h1, h2⟩ := prs_lt (by omega) hmem
    have hlen : (pls A B l).length = l.length := by unfold pls; simp
    obtain ⟨p, hp⟩ := get_some (show i < (pls A B l).length by omega)
    obtain ⟨q, hq⟩ := get_some (show j < (pls A B l).length by omega)
    have ND2 : Hid (dupP p q = false → ∀ t p' q', t < k + 1 → (pls A B l)[(prAt l.length t).1]? = some p' → (pls A B l)[(prAt l.length t).2]? = some q' → dupP p' q' = false) := Lib.hid (fun hd t p' q' ht hp' hq' => by
     by_cases e : t = k
     ·subst e
      rw [hij] at hp' hq'
      simp only at hp' hq'
      rw [hp] at hp'
      rw [hq] at hq'
      cases hp'; cases hq'; exact hd
     ·exact nd t p' q' (by omega) hp' hq')
    have DUP : Hid (dupP p q = true → dupB (pls A B l) = true) := Lib.hid (fun hd => dupB_iff.2 ⟨i, j, p, q, h1, hp, hq, hd⟩)
    have ci0 := rec_cell pl11_len rb hp 0 _ rfl
    have ci5 := rec_cell pl11_len rb hp 5 _ rfl
    have ci6 := rec_cell pl11_len rb hp 6 _ rfl
    have ci7 := rec_cell pl11_len rb hp 7 _ rfl
    have ci8 := rec_cell pl11_len rb hp 8 _ rfl
    have ci9 := rec_cell pl11_len rb hp 9 _ rfl
    have ci10 := rec_cell pl11_len rb hp 10 _ rfl
    have cj0 := rec_cell pl11_len rb hq 0 _ rfl
    have cj5 := rec_cell pl11_len rb hq 5 _ rfl
    have cj6 := rec_cell pl11_len rb hq 6 _ rfl
    have cj7 := rec_cell pl11_len rb hq 7 _ rfl
    have cj8 := rec_cell pl11_len rb hq 8 _ rfl
    have cj9 := rec_cell pl11_len rb hq 9 _ rfl
    have cj10 := rec_cell pl11_len rb hq 10 _ rfl
    simp only [Nat.add_zero] at ci0 cj0
    have lg := blk_lt rb
    rw [hij] at vx ⊢
    simp only at vx ⊢
    have k1 : (0 : Int) ≤ (i : Int) := by omega
    have k2 : (i : Int) < (l.length : Int) := by omega
    have k3 : (0 : Int) ≤ (j : Int) := by omega
    have k4 : (j : Int) < (l.length : Int) := by omega
    have cx0 := blk_cell vx 0 _ rfl
    have cx1 := blk_cell vx 1 _ rfl
    have lx0 := blk_lt vx
    have c80 := blk_cell v8 0 _ rfl
    have l80 := blk_lt v8
    have R4 := Lib.hid r4
    have R5 := Lib.hid r5
    have V8 := Lib.hid v8
    have VT := Lib.hid vt
    have RB := Lib.hid rb
    have NNk := Lib.hid nn
    have SZk := Lib.hid sz
    have LX := Lib.hid lx
    clear hij hmem hp hq nd rb vx v8 vt r4 r5 hlen nn
    gi_wp2_with fail
    cases hnm : (p.1.nm.toList == q.1.nm.toList)
    ·cases hve : decide (p.2 = q.2)
     ·have hdp : dupP p q = false := by unfold dupP; rw [hnm, hve]; rfl
      refine region_quiet_r (by kernel_rfl) (by kernel_rfl) (by kernel_rfl) ?_
      repeat (gi_big_quiet_step (fail))
      refine wpQuietIn_nil ?_
      intro _ hw'
      obtain ⟨nq, hw''⟩ := hw'
      subst hw''
      clear ci0 ci5 ci6 ci7 ci8 ci9 ci10 cj0 cj5 cj6 cj7 cj8 cj9 cj10 lg k1 k2 k3 k4 cx0 cx1 lx0 c80 l80
      gi_wp2_with fail
      exact ⟨keeps_of_below (below_drewN (Below.refl _ _) _), below_drewN (Below.refl _ _) _, blk_drewN R4.out _, blk_drewN R5.out _, blk_drewN V8.out _, blk_drewN VT.out _, blk_drewN RB.out _, below_drewN NNk.out _, SZk.out, ND2.out hdp⟩
     ·have hdp : dupP p q = true := by unfold dupP; rw [hnm, hve]; rfl
      refine region_quiet_r (by kernel_rfl) (by kernel_rfl) (by kernel_rfl) ?_
      repeat (gi_big_quiet_step (fail))
      refine wpQuietIn_nil ?_
      intro _ hw'
      obtain ⟨nq, hw''⟩ := hw'
      subst hw''
      clear ci0 ci5 ci6 ci7 ci8 ci9 ci10 cj0 cj5 cj6 cj7 cj8 cj9 cj10 lg k1 k2 k3 k4 cx0 cx1 lx0 c80 l80
      have DR := Lib.hid (DUP.out hdp)
      have f40 := blk_frozen R4.out 0
      have f50 := blk_frozen R5.out 0
      have c40 := blk_cell R4.out 0 _ rfl
      have c50 := blk_cell R5.out 0 _ rfl
      have l40 := blk_lt R4.out
      have l50 := blk_lt R5.out
      gi_wp2_with fail
      clear f40 f50 c40 c50 l40 l50
      exact ⟨(keep_set (keep_set (KeepsFrom.refl _ _) _ _ _) _ _ _).trans (keeps_of_below (below_drewN (Below.refl _ _) _)), rfl, DR.out, blk_drewN (blk_set_other (blk_set R4.out 0 (.slice none 0 0)) (by omega) 0 _) nq, blk_drewN (blk_set (blk_set_other R5.out (by omega) 0 _) 0 (.int .i64 14)) nq, below_drewN (Bset1 (Bset1 NNk.out (by omega) 0 _) (by omega) 0 _) nq⟩
    ·have hdp : dupP p q = true := by unfold dupP; rw [hnm]; rfl
     refine region_quiet_r (by kernel_rfl) (by kernel_rfl) (by kernel_rfl) ?_
     repeat (gi_big_quiet_step (fail))
     refine wpQuietIn_nil ?_
     intro _ hw'
     obtain ⟨nq, hw''⟩ := hw'
     subst hw''
     clear ci0 ci5 ci6 ci7 ci8 ci9 ci10 cj0 cj5 cj6 cj7 cj8 cj9 cj10 lg k1 k2 k3 k4 cx0 cx1 lx0 c80 l80
     have DR := Lib.hid (DUP.out hdp)
     have f40 := blk_frozen R4.out 0
     have f50 := blk_frozen R5.out 0
     have c40 := blk_cell R4.out 0 _ rfl
     have c50 := blk_cell R5.out 0 _ rfl
     have l40 := blk_lt R4.out
     have l50 := blk_lt R5.out
     gi_wp2_with fail
     clear f40 f50 c40 c50 l40 l50
     exact ⟨(keep_set (keep_set (KeepsFrom.refl _ _) _ _ _) _ _ _).trans (keeps_of_below (below_drewN (Below.refl _ _) _)), rfl, DR.out, blk_drewN (blk_set_other (blk_set R4.out 0 (.slice none 0 0)) (by omega) 0 _) nq, blk_drewN (blk_set (blk_set_other R5.out (by omega) 0 _) 0 (.int .i64 14)) nq, below_drewN (Bset1 (Bset1 NNk.out (by omega) 0 _) (by omega) 0 _) nq⟩
   case done =>
    rintro D W hD ⟨r4, r5, v8, vt, rb, nn, sz, nd⟩ hK
    have ND : dupB (pls A B l) = false := by
     cases hd : dupB (pls A B l)
     ·rfl
     ·obtain ⟨i, j, p, q, h1, h2, h3, h4⟩ := dupB_iff.1 hd
      have hj : j < l.length := by have := get_lt h3; unfold pls at this; simpa using this
      obtain ⟨h5, _⟩ := ((pix_all (n := l.length) (by omega)).2.2 i (by omega)).2.2 j hj h1
      have h6 : prAt l.length (pix l.length i j) = (i, j) := by unfold prAt; rw [List.getD_eq_getElem?_getD, h5]; rfl
      have h7 := nd (pix l.length i j) p q (get_lt h5) (by rw [h6]; exact h2) (by rw [h6]; exact h3)
      rw [h4] at h7; cases h7
    have HP : Hid (pe = 0) := Lib.hid (by rw [PE.out, ND]; rfl)
    have hDs := SZ.out
    have hLb := LB.out
    have hLr := LR.out
    have R4 := Lib.hid r4
    have R5 := Lib.hid r5
    have V8 := Lib.hid v8
    have RB := Lib.hid rb
    have NN := Lib.hid nn
    have HK := Lib.hid hK
    clear r4 r5 v8 vt rb nn nd hK ND
    have c_R4_0 := blk_cell R4.out 0 _ rfl
    have f_R4_0 := blk_frozen R4.out 0
    have l_R4 := blk_lt R4.out
    have c_R5_0 := blk_cell R5.out 0 _ rfl
    have f_R5_0 := blk_frozen R5.out 0
    have l_R5 := blk_lt R5.out
    have c_V8_0 := blk_cell V8.out 0 _ rfl
    have f_V8_0 := blk_frozen V8.out 0
    have l_V8 := blk_lt V8.out
    go_wp2_with fail
    clear c_R4_0 f_R4_0 l_R4 c_R5_0 f_R5_0 l_R5 c_V8_0 f_V8_0 l_V8
    replace RB := Lib.hid (blk_set_other (b' := w.heap.size + 1 + 1) (blk_set_other (b' := w.heap.size + 1) (RB.out) (by omega) 0 (.slice (some ⟨gR, 0, none⟩) l.length l.length)) (by omega) 0 (.int .i64 0))
    replace HK := Lib.hid (blk_set_other (b' := w.heap.size + 1 + 1) (blk_set_other (b' := w.heap.size + 1) (HK.out) (by omega) 0 (.slice (some ⟨gR, 0, none⟩) l.length l.length)) (by omega) 0 (.int .i64 0))
    replace R4 : Hid (((W.setCell ⟨w.heap.size + 1, 0, none⟩ (.slice (some ⟨gR, 0, none⟩) l.length l.length)).setCell ⟨w.heap.size + 1 + 1, 0, none⟩ (.int .i64 0)).heap[w.heap.size + 1]? = some (.cells #[.slice (some ⟨gR, 0, none⟩) l.length l.length] 80)) := Lib.hid (blk_set_other (b' := w.heap.size + 1 + 1) (blk_set (R4.out) 0 (.slice (some ⟨gR, 0, none⟩) l.length l.length)) (by omega) 0 (.int .i64 0))
    replace R5 : Hid (((W.setCell ⟨w.heap.size + 1, 0, none⟩ (.slice (some ⟨gR, 0, none⟩) l.length l.length)).setCell ⟨w.heap.size + 1 + 1, 0, none⟩ (.int .i64 0)).heap[w.heap.size + 1 + 1]? = some (.cells #[.int .i64 0] 28)) := Lib.hid (blk_set (blk_set_other (b' := w.heap.size + 1) (R5.out) (by omega) 0 (.slice (some ⟨gR, 0, none⟩) l.length l.length)) 0 (.int .i64 0))
    replace V8 : Hid (((W.setCell ⟨w.heap.size + 1, 0, none⟩ (.slice (some ⟨gR, 0, none⟩) l.length l.length)).setCell ⟨w.heap.size + 1 + 1, 0, none⟩ (.int .i64 0)).heap[gR + 1]? = some (.cells #[.slice (some ⟨gR, 0, none⟩) l.length l.length] 80)) := Lib.hid (blk_set_other (b' := w.heap.size + 1 + 1) (blk_set_other (b' := w.heap.size + 1) (V8.out) (by omega) 0 (.slice (some ⟨gR, 0, none⟩) l.length l.length)) (by omega) 0 (.int .i64 0))
    replace NN := Lib.hid (Bset1 (Bset1 (NN.out) (show w.heap.size ≤ w.heap.size + 1 by omega) 0 (.slice (some ⟨gR, 0, none⟩) l.length l.length)) (show w.heap.size ≤ w.heap.size + 1 + 1 by omega) 0 (.int .i64 0))
    generalize ((W.setCell ⟨w.heap.size + 1, 0, none⟩ (.slice (some ⟨gR, 0, none⟩) l.length l.length)).setCell ⟨w.heap.size + 1 + 1, 0, none⟩ (.int .i64 0)) = W7 at *
    refine ⟨by simp, .inl ⟨_, _, rfl, run_takeDeferred HK.out, ?_⟩⟩
    have e4 := blk_cell (put_blk (D := D) (o' := .deferred none) R4.out (by omega)) 0 _ rfl
    have e5 := blk_cell (put_blk (D := D) (o' := .deferred none) R5.out (by omega)) 0 _ rfl
    exact ⟨.tuple #[.slice (some ⟨gR, 0, none⟩) l.length l.length, .int .i64 0], by simp [results, Tryz.results36, go_sem, e4, e5], _, by rw [HP.out], put_below NN.out (by omega) (Nat.le_refl _) HK.out, fun h => absurd HP.out h, fun _ => ⟨gR, rfl, by omega, put_blk RB.out (by omega)⟩⟩
   case stop =>
    rintro D cd k W hD hlt ⟨rfl, hdup, r4, r5, nn⟩ hK
    have HP : Hid (pe = 14) := Lib.hid (by rw [PE.out, hdup]; rfl)
    have hDs := SZ.out
    have hLb := LB.out
    have hLr := LR.out
    gi_wp2
    refine ⟨by simp, .inl ⟨_, _, rfl, run_takeDeferred hK, ?_⟩⟩
    have e4 := blk_cell (put_blk (D := D) (o' := .deferred none) r4 (by omega)) 0 _ rfl
    have e5 := blk_cell (put_blk (D := D) (o' := .deferred none) r5 (by omega)) 0 _ rfl
    exact ⟨.tuple #[.slice none 0 0, .int .i64 14], by simp [results, Tryz.results36, go_sem, e4, e5], _, by rw [HP.out], put_below nn (by omega) (Nat.le_refl _) hK, fun _ => rfl, fun h => absurd (HP.out.symm.trans h) (by decide)⟩
end Go.Proofs.YtfangplfbbgphaaGreatDoor
namespace Go.Proofs.YtfangplfbbgphaaGreatDoor
open Go.ChangeShapes Go.WideShapes Go.ChangeAt Go.RowKit
set_option linter.unusedVariables false
set_option maxRecDepth 100000
structure SmV (v : V6) : Prop where
 x : VF v.x1 v.x2
 y : VF v.y1 v.y2
 z : VF v.z1 v.z2
 lx : LE v.x1 v.x2 640000000
 ly : LE v.y1 v.y2 640000000
 lz : LE v.z1 v.z2 640000000
theorem VF.ok {n d : Int} (h : VF n d) : okF n d = true := by
 have := h.err
 unfold errF at this
 split at this
 ·assumption
 ·omega
theorem SmV.ok {v : V6} (h : SmV v) : okV v = true := by
 unfold okV
 rw [h.x.ok, h.y.ok, h.z.ok]; rfl
theorem sub_small {an ad bn bd : Int} (va : VF an ad) (vb : VF bn bd) (ha : LE an ad 640000000) (hb : LE bn bd 640000000) : (subR an ad bn bd).2.2 = 0 := by
 unfold subR
 rw [if_pos (va.both vb), addF_red va vb.neg]
 have h1 := Nat.mul_le_mul ha.1 hb.2
 have h2 := Nat.mul_le_mul hb.1 ha.2
 have h3 := Nat.mul_le_mul ha.2 hb.2
 have d1 := va.d1
 have d2 := vb.d1
 have hN : (an * bd + -bn * ad).natAbs ≤ 1000000000000000000 := by
  have e1 : (an * bd).natAbs ≤ 640000000 * 640000000 := by rw [Int.natAbs_mul]; exact h1
  have e2 : (-bn * ad).natAbs ≤ 640000000 * 640000000 := by rw [Int.natAbs_mul, Int.natAbs_neg]; exact h2
  omega
 obtain ⟨n, d, e, _, _⟩ := redF_small (N := an * bd + -bn * ad) (D := ad.natAbs * bd.natAbs) (m := 1000000000000000000) hN (by omega) (Nat.mul_pos (by omega) (by omega)) (by omega)
 rw [e]
theorem SmV.sub {v u : V6} (hv : SmV v) (hu : SmV u) : SubOk v u := ⟨hv.ok, hu.ok, sub_small hv.x hu.x hv.lx hu.lx, sub_small hv.y hu.y hv.ly hu.ly, sub_small hv.z hu.z hv.lz hu.lz⟩
theorem plV_small {A B : Int} {s : St} (hg : errG A B = 0) (hx : valS s = true) : SmV (plV A B s) := by
 have hp := valS_pl hx
 have hs : prmB s.sn s.sd = true ∧ prmB s.tn s.td = true := by
  unfold plB at hp
  simp only [Bool.and_eq_true] at hp
  exact ⟨hp.1, hp.2.1⟩
 have hok : okG A B := by
  unfold errG at hg
  split at hg
  ·assumption
  ·omega
 obtain ⟨_, _, _, _, _, _, _, _, s1, s2, s3, s4⟩ := pair_facts hs.1
 obtain ⟨_, _, _, _, _, _, _, _, t1, t2, t3, t4⟩ := pair_facts hs.2
 obtain ⟨g1, g2, g3, g4⟩ := hok
 obtain ⟨va, la⟩ := vf_axis g1 g2
 obtain ⟨vb, lb⟩ := vf_axis g3 g4
 obtain ⟨wn, wd, hw, vw, lw⟩ := mul_small va (vf_ok s1) la (vf_LE s3) (m := 800000) (by decide) (by decide)
 obtain ⟨xn, xd, hx, vx, lx⟩ := mul_small vw (vf_ok t1) lw (vf_LE t3) (m := 640000000) (by decide) (by decide)
 obtain ⟨yn, yd, hy, vy, ly⟩ := mul_small vw (vf_ok t2) lw (vf_LE t4) (m := 640000000) (by decide) (by decide)
 obtain ⟨zn, zd, hz, vz, lz⟩ := mul_small vb (vf_ok s2) lb (vf_LE s4) (m := 800000) (by decide) (by decide)
 have ew : wdR A s.sn s.sd = (wn, wd, 0) := hw
 have ex : plX A s.sn s.sd s.tn s.td = (xn, xd, 0) := by unfold plX; rw [ew]; exact hx
 have ey : plY A s.sn s.sd s.tn s.td = (yn, yd, 0) := by unfold plY; rw [ew]; exact hy
 have ez : plZ B s.sn s.sd = (zn, zd, 0) := hz
 have lz' : LE zn zd 640000000 := by unfold LE at lz ⊢; omega
 unfold plV
 rw [ex, ey, ez]
 exact ⟨vx, vy, vz, lx, ly, lz'⟩
theorem plE_ok {A B : Int} {l : List St} (h : plE A B l = 0) : errG A B = 0 ∧ stsE l = 0 ∧ dupB (pls A B l) = false := by
 unfold plE at h
 split at h
 ·omega
 ·split at h
  ·omega
  ·split at h
   ·omega
   ·rename_i h1 h2 h3
    exact ⟨by omega, by omega, by simpa using h3⟩
theorem line_ok {A B : Int} {l : List St} (h : plE A B l = 0) {s t : St} (hs : s ∈ l) (ht : t ∈ l) : SubOk (plV A B t) (plV A B s) := by
 obtain ⟨hg, hv, _⟩ := plE_ok h
 have := (stsE_ok hv).2
 exact (plV_small hg (this t ht)).sub (plV_small hg (this s hs))
def zV : V6 := ⟨0, 0, 0, 0, 0, 0⟩
def inB (i : Int) (n : Nat) : Bool := decide (0 ≤ i) && decide (i < n)
def liE (A B : Int) (l : List St) (i j : Int) : Int := if plE A B l ≠ 0 then plE A B l else if inB i l.length && inB j l.length then 0 else 2
def liV (A B : Int) (l : List St) (i j : Int) : V6 := if liE A B l i j = 0 then (match l[i.toNat]?, l[j.toNat]? with | some s, some t => subV (plV A B t) (plV A B s) | _, _ => zV) else zV
end Go.Proofs.YtfangplfbbgphaaGreatDoor
