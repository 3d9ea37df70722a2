/- Several texts in one. -/
import Derived.RangeFuncNested
import Derived.RangeFuncLeaves
import Derived.RangeFuncBound
import Derived.Shelf.Abstract
import Derived.Shelf.RegionOpen
import Derived.OwnWalkIn
import Derived.TacticsInMore
import Derived.LoopNIn
import Derived.LoopIn
import Derived.OpenShut
import Derived.BigGuardIn
import Derived.Laws.CopyOwn
import Derived.BigGuardPartIn
import Derived.Laws.MakeOwn
import Derived.Laws.EntriesVeiled
import Derived.Lib.SplitLaws
import Derived.Lib.Join
import Derived.Lib.IndexBytes
import Derived.Lib.ItoaNum
import Derived.Lib.ItoaMem
import Derived.Lib.ItoaLen
import Derived.Lib.ParseIntB
import Derived.Lib.IndexMore
import Derived.Lib.IndexLaws
import Derived.Test.YtbbnkclajpaghaaGreatDoorMF00
import Derived.Test.YtbbnkclajpaghaaGreatDoorMF01
import Derived.Test.YtbbnkclajpaghaaGreatDoorMF02
set_option maxHeartbeats 4000000
set_option maxRecDepth 100000
set_option linter.unusedVariables false
set_option linter.unusedSimpArgs false
namespace Go.Proofs.YtbbnkclajpaghaaGreatDoor
section
open Go Go.RowKit
section
variable {P : Program}
def SeqN (P : Program) (g : Nat) (lb : Array Value) (encs : Nat → Array Value) (n₀ N : Nat) (w : World) : Prop :=
 ∀ (l : Nat) (J Jx : Nat → World → Prop) (W : World), Below w.heap.size w W → AbidesFrom W.heap.size J → AbidesFrom W.heap.size Jx →
  (∀ k W1, J k W1 → k < N → YieldAt Fence.wide 0 P l (encs k) W1 fun e W' =>
   (e = .returned (.bool true) ∧ J (k + 1) W' ∧ Below n₀ W1 W') ∨ (e = .returned (.bool false) ∧ Jx k W')) →
  J 0 W → CallsIn Fence.wide 0 P g (#[.func (.yield l) #[] #[]] ++ lb) W fun e W' => (∃ v, e = .returned v) ∧ (J N W' ∨ ∃ k, k < N ∧ Jx k W')
def roundN (B n₀ : Nat) (I : Nat → World → Prop) (Ix : Code → Nat → World → Prop) (k : Nat) (W : World) : Exit → Act → World → Prop
 | .normal, _, W' => KeepsFrom B W W' ∧ Below n₀ W W' ∧ I (k + 1) W'
 | .ret, _, W' => KeepsFrom B W W' ∧ Ix .ret k W'
 | .exit i, _, W' => KeepsFrom B W W' ∧ Ix (.exit i) k W'
 | .goto t, _, W' => KeepsFrom B W W' ∧ Ix (.goto t) k W'
 | .panic _, _, _ => False
 | .outgrown, _, _ => False
theorem keeps_of_below {B : Nat} {W W' : World} (h : Below W.heap.size W W') : KeepsFrom B W W' := ⟨h.size, fun k o _ hk _ => (h.block k (Array.getElem?_eq_some_iff.1 hk).1).trans hk⟩
theorem range_n {g : Operand} {ps : Array Tmp} {assign body : Code} {Q : Exit → Act → World → Prop} {a : Act} {w : World} (gf : Nat) (lb : Array Value)
  (hg : a.eval g = .func (.func gf) #[] lb) (eg : ∀ args w, (callFunc gf args).run P w = .ok (.enter gf args) w)
  (encs : Nat → Array Value) (n₀ N : Nat) (hseq : SeqN P gf lb encs n₀ N w) (hn : n₀ ≤ w.heap.size) (hps : ∀ k, (encs k).size = ps.size)
  (I : Nat → World → Prop) (Ix : Code → Nat → World → Prop) (Ax : Nat → Act → World → Prop) (hI : OwnFrom w.heap.size I) (hIx : ∀ c, OwnFrom w.heap.size (Ix c)) (hAx : ∀ a', OwnFrom w.heap.size (fun k => Ax k a'))
  (h0 : I 0 w)
  (hassign : ∀ (l k : Nat) (W : World) (K : Act → World → Prop), I k W → k < N → (∀ a' W', KeepsFrom w.heap.size W W' → Below n₀ W W' → Ax k a' W' → K a' W') →
   assign.wpIn (Fence.wide.inRound l) 0 P (Exit.then K fun _ _ _ => False) { tmps := (ps.zip (encs k)).foldl (fun t (p, v) => t.setIfInBounds p v) a.tmps, defers := [] } W)
  (hbody : ∀ (l k : Nat) (a' : Act) (W : World), Ax k a' W → k < N → body.wpIn (Fence.wide.inRound l) 0 P (roundN w.heap.size n₀ I Ix k W) a' W)
  (hdone : ∀ (D : Nat) (W : World), w.heap.size ≤ D → I N W → W.heap[D]? = some (.deferred (some [])) → Q .normal { a with defers := { target := .collected D, args := #[] } :: a.defers } W)
  (hstop : ∀ (D : Nat) (c : Code) (k : Nat) (W : World), w.heap.size ≤ D → k < N → Ix c k W → W.heap[D]? = some (.deferred (some [])) → c.wpIn Fence.wide 0 P Q { a with defers := { target := .collected D, args := #[] } :: a.defers } W) :
  (Code.rangeFunc g ps assign body).wpIn Fence.wide 0 P Q a w := by
 refine wpIn_rangeFunc fun fn _ => ?_
 obtain ⟨D, hD⟩ : ∃ D, D = w.heap.size := ⟨_, rfl⟩
 obtain ⟨rc, hrc⟩ : ∃ rc : LoopState → Option Code → Loop, rc = fun st pe => { state := st, pending := pe, fn, tmps := a.tmps, params := ps, assign, body, defers := D } := ⟨_, rfl⟩
 have rc_p : ∀ st pe, (rc st pe).params = ps := fun st pe => by rw [hrc]
 obtain ⟨W1, hW1⟩ : ∃ W1, (w.alloc (.deferred (some []))).alloc (.loop (rc .ready none)) = W1 := ⟨_, rfl⟩
 have s1 : (w.alloc (.deferred (some []))).heap.size = D + 1 := by rw [World.size_alloc, hD]
 have hsz : W1.heap.size = D + 2 := by rw [← hW1, World.size_alloc, s1]
 have hL1 : W1.heap[D + 1]? = some (.loop (rc .ready none)) := by
  have := World.alloc_heap_new (w.alloc (.deferred (some []))) (.loop (rc .ready none))
  rw [s1, hW1] at this; exact this
 have hK1 : W1.heap[D]? = some (.deferred (some [])) := by
  have h2 := World.alloc_heap_new w (.deferred (some []))
  rw [← hD] at h2
  rw [← hW1]; exact (Below.heap_alloc _ _ _ (by rw [s1]; omega)).trans h2
 have hI1 : I 0 W1 := by rw [← hW1]; exact hI.alloc _ (hI.alloc _ h0)
 have hb1 : Below w.heap.size w W1 := by
  rw [← hW1]; exact ((Below.refl _ w).alloc (Nat.le_refl _) _).alloc (by simp) _
 refine ⟨D + 1, [{ target := .collected D, args := #[] }], W1, { target := .fn (.func gf) lb, args := #[.func (.yield (D + 1)) #[] #[]] }, W1, gf, #[.func (.yield (D + 1)) #[] #[]] ++ lb, W1, ?_, ?_, fun _ _ => trivial, ?_, fun h => by simp [Fence.wide] at h, ?_⟩
 ·rw [← hW1, hrc, hD]; exact run_enterLoop_outer _ _ _ _ _
 ·simp only [resolve, hg]
  simp [go_sem]
 ·simp [invoke, go_sem, eg]
 -- the book of the loop: its record lies at D + 1, the block for deferred calls at D
 have turn : ∀ {β : Type} {X : β → World → Prop} (hX : OwnFrom w.heap.size X) {s : β} {W : World} {o : Obj} (o' : Obj), X s W → W.heap[D + 1]? = some o → o.isCells = false → X s (W.putObj (D + 1) o') := fun hX _ _ _ o' h ho hc => hX.putObj o' h (by omega) ho hc
 have put_same : ∀ {W : World} {o : Obj} (o' : Obj), W.heap[D + 1]? = some o → (W.putObj (D + 1) o').heap[D + 1]? = some o' := fun _ h => World.putObj_heap_same (Array.getElem?_eq_some_iff.1 h).1
 have put_D : ∀ {W : World} (o' : Obj), W.heap[D]? = some (.deferred (some [])) → (W.putObj (D + 1) o').heap[D]? = some (.deferred (some [])) := fun _ h => (World.putObj_heap_other (by omega)).trans h
 have put_b : ∀ {W : World} {o : Obj} (o' : Obj), W.heap[D + 1]? = some o → o.isCells = false → o.isWalk = false → Below n₀ W (W.putObj (D + 1) o') := fun {W} o o' h hc hw => belowK_b hn W (D + 1) o o' (by omega) h hc hw
 have frm : ∀ {A B : World} {row : Option Nat}, (∀ r, row = some r → W1.heap.size ≤ r ∧ ∃ o : Obj, A.heap[r]? = some o ∧ o.isWalk = true) → (∀ r, row = some r → w.heap.size ≤ r ∧ ∃ o : Obj, A.heap[r]? = some o ∧ o.isCells = false) :=
  fun hr r e => by obtain ⟨hB, o, ho, hw⟩ := hr r e; exact ⟨by omega, o, ho, Obj.not_cells_of_walk hw⟩
 have stay : ∀ {A B : World} {row : Option Nat} (_ : A.grownBy B row) (_ : ∀ r, row = some r → W1.heap.size ≤ r ∧ ∃ o : Obj, A.heap[r]? = some o ∧ o.isWalk = true) {k : Nat} {o : Obj}, A.heap[k]? = some o → o.isWalk = false → B.heap[k]? = some o :=
  fun hg' hr _ _ hk hw => (grownBy_keeps hg' (fun r e => (hr r e).2) hk hw).trans hk
 refine (hseq (D + 1)
  (fun k W => I k W ∧ W.heap[D + 1]? = some (.loop (rc .ready none)) ∧ W.heap[D]? = some (.deferred (some [])))
  (fun k W => ∃ c, Ix c k W ∧ W.heap[D + 1]? = some (.loop (rc .done (some c))) ∧ W.heap[D]? = some (.deferred (some [])))
  W1 hb1
  (fun s A B row hs hg' hr => ⟨hI s A B row hs.1 hg' (frm (B := B) hr), stay hg' hr hs.2.1 rfl, stay hg' hr hs.2.2 rfl⟩)
  (fun s A B row hs hg' hr => by
   obtain ⟨c, hc, hl, hk⟩ := hs
   exact ⟨c, hIx c s A B row hc hg' (frm (B := B) hr), stay hg' hr hl rfl, stay hg' hr hk rfl⟩)
  ?_ ⟨hI1, hL1, hK1⟩).mono ?_
 ·-- a round
  rintro k W ⟨hi, hl, hk⟩ hlt
  have hy := run_yield (P := P) (args := encs k) hl (by rw [rc_p]; exact hps k)
  rw [hrc] at hy
  refine ⟨fn, _, assign, body, hy, roundIn_of_wpIn trivial (hassign _ k W _ hi hlt fun a₁ W₁ hf₁ hb₁ hx₁ => ?_)⟩
  have hl₁ := hf₁.same _ _ (by omega) hl rfl
  have hk₁ := hf₁.same _ _ (by omega) hk rfl
  refine ⟨_, run_beginRound hl₁ (by rw [hrc]), ?_⟩
  obtain ⟨bz, hbz⟩ : ∃ bz : Loop, bz = { rc .ready none with state := .busy } := ⟨_, rfl⟩
  rw [← hbz]
  have hl₂ := put_same (.loop bz) hl₁
  have hk₂ := put_D (.loop bz) hk₁
  have hx₂ := turn (hAx a₁) (.loop bz) hx₁ hl₁ rfl
  have hb₂ := hb₁.trans (put_b (.loop bz) hl₁ rfl rfl)
  refine wpIn_mono (hbody _ k a₁ _ hx₂ hlt) ?_
  have fin : ∀ (jump : Option Code) (W3 : World), KeepsFrom w.heap.size (W₁.putObj (D + 1) (.loop bz)) W3 →
    (Instr.endRound (D + 1) jump).run P W3 = .ok (.bool jump.isNone) (W3.putObj (D + 1) (.loop (rc (if jump.isNone then .ready else .done) jump))) ∧ W3.heap[D + 1]? = some (.loop bz) ∧ W3.heap[D]? = some (.deferred (some [])) := fun jump W3 h3 => by
   have hl3 := h3.same _ _ (by omega) hl₂ rfl
   have he := run_endRound (P := P) jump hl3
   rw [hbz, hrc] at he
   rw [hrc]
   exact ⟨he, hl3, h3.same _ _ (by omega) hk₂ rfl⟩
  rintro e a3 W3 hp
  cases e with
  | normal =>
   obtain ⟨h3, hb3, hi3⟩ := hp
   obtain ⟨hr, hl3, hk3⟩ := fin none W3 h3
   exact ⟨_, _, hr, .inl ⟨rfl, ⟨turn hI _ hi3 hl3 rfl, put_same _ hl3, put_D _ hk3⟩, (hb₂.trans hb3).trans (put_b _ hl3 rfl rfl)⟩⟩
  | ret =>
   obtain ⟨h3, hi3⟩ := hp
   obtain ⟨hr, hl3, hk3⟩ := fin (some .ret) W3 h3
   exact ⟨_, _, hr, .inr ⟨rfl, .ret, turn (hIx _) _ hi3 hl3 rfl, put_same _ hl3, put_D _ hk3⟩⟩
  | exit i =>
   obtain ⟨h3, hi3⟩ := hp
   obtain ⟨hr, hl3, hk3⟩ := fin (some (.exit i)) W3 h3
   exact ⟨_, _, hr, .inr ⟨rfl, .exit i, turn (hIx _) _ hi3 hl3 rfl, put_same _ hl3, put_D _ hk3⟩⟩
  | goto t =>
   obtain ⟨h3, hi3⟩ := hp
   obtain ⟨hr, hl3, hk3⟩ := fin (some (.goto t)) W3 h3
   exact ⟨_, _, hr, .inr ⟨rfl, .goto t, turn (hIx _) _ hi3 hl3 rfl, put_same _ hl3, put_D _ hk3⟩⟩
  | panic ch => exact hp.elim
  | outgrown => exact hp.elim
 ·-- behind the iterator
  rintro e W2 ⟨⟨v, rfl⟩, (⟨hi, hl, hk⟩ | ⟨k, hlt, c, hi, hl, hk⟩)⟩
  ·have he := run_endLoop (P := P) hl (by rw [hrc]; simp)
   rw [hrc] at he
   exact ⟨none, _, he, hdone D _ (by omega) (turn hI _ hi hl rfl) (put_D _ hk)⟩
  ·have he := run_endLoop (P := P) hl (by rw [hrc]; simp)
   rw [hrc] at he
   exact ⟨some c, _, he, hstop D c k _ (by omega) hlt (turn (hIx c) _ hi hl rfl) (put_D _ hk)⟩
end
end
section
open Go.ChangeShapes Go.WideShapes Go.ChangeAt Go.RowKit
attribute [local go_sem] Oper.semAt_some
def zvr : Vr := ⟨0, 0, 0, 0, 0, 0, 0, 0⟩
def rowAt (l : List Vr) (k : Nat) : Vr := l.getD k zvr
theorem rowAt_lt {l : List Vr} {k : Nat} (h : k < l.length) : rowAt l k = l[k] := by simp [rowAt, List.getD, h]
theorem rows_calls (A : Option Addr) (n c : Nat) (w : World) : Calls Tryz.prog 27 #[.slice A n c] w fun e w' =>
  e = .returned (.func (.func 50) #[] #[.pointer (some ⟨w.heap.size, 0, none⟩)]) ∧ w' = w.alloc (.cells #[.slice A n c] 22) := by
 go_enter Tryz.func27, Tryz.ntmps27
 go_wp2
 go_ret
 exact ⟨rfl, rfl⟩
abbrev encR (l : List Vr) (k : Nat) : Array Value := #[.int .i64 (k : Int), Rwv (rowAt l k)]
theorem rows_seq {A : Option Addr} {c n₀ Bt : Nat} {l : List Vr} {w : World} (hl : RT w A l) (hA : ∀ b off, A = some ⟨b, off, none⟩ → b < n₀) (h6 : l.length ≤ 1000000)
  (hn : n₀ ≤ w.heap.size) (hB : w.heap[Bt]? = some (.cells #[.slice A l.length c] 22)) :
  SeqN Tryz.prog 50 #[.pointer (some ⟨Bt, 0, none⟩)] (encR l) n₀ l.length w := by
 intro lp J Jx W hW hJ hJx hY h0
 have VB := blk_next hW hB
 have HL := zh (hl.next hW)
 have HA := zh hA
 have cB := blk_cell VB 0 (.slice A l.length c) rfl
 have lB := blk_lt VB
 clear hl hA hB VB
 refine callsIn_of_wp Tryz.func50 rfl trivial ?_ rfl
 simp only [Tryz.ntmps50, List.size_toArray, List.length_cons, List.length_nil, Nat.reduceAdd, Nat.reduceSub, Array.replicate_succ, Array.replicate_zero, List.push_toArray, List.append_toArray, List.nil_append, List.cons_append]
 gi_wp2
 gi_loopw [7] (fun i wr => ∃ k : Nat, k ≤ l.length ∧ i = .int .i64 k ∧ Hid (J k wr) ∧ Hid (Below n₀ W wr) ∧ Hid (W.heap.size ≤ wr.heap.size)) (fun i _ => l.length - (intOf i).toNat)
 case atStart => exact ⟨0, Nat.zero_le _, rfl, zh h0, zh (Below.refl _ _), zh (Nat.le_refl _)⟩
 case round =>
  obtain ⟨k, hk, rfl, hJs, hnx, hsz⟩ := hrel
  by_cases hlt : k < l.length
  ·obtain ⟨b, off, hb, hbl, c0, c1, c2, c3, c4, c5, c6, c7⟩ := RT.at_ HL.out hlt
   have bn := HA.out b off hb
   subst hb
   rw [← rowAt_lt hlt] at c0 c1 c2 c3 c4 c5 c6 c7
   replace c0 := (hnx.out.cell (p := ⟨b, off + k * 8, none⟩) bn).trans c0
   replace c1 := (hnx.out.cell (p := ⟨b, off + k * 8 + 1, none⟩) bn).trans c1
   replace c2 := (hnx.out.cell (p := ⟨b, off + k * 8 + 2, none⟩) bn).trans c2
   replace c3 := (hnx.out.cell (p := ⟨b, off + k * 8 + 3, none⟩) bn).trans c3
   replace c4 := (hnx.out.cell (p := ⟨b, off + k * 8 + 4, none⟩) bn).trans c4
   replace c5 := (hnx.out.cell (p := ⟨b, off + k * 8 + 5, none⟩) bn).trans c5
   replace c6 := (hnx.out.cell (p := ⟨b, off + k * 8 + 6, none⟩) bn).trans c6
   replace c7 := (hnx.out.cell (p := ⟨b, off + k * 8 + 7, none⟩) bn).trans c7
   generalize hr : rowAt l k = r at *
   obtain ⟨fn, tmps, assign, body, hy, hR⟩ := hY k (wr.alloc (.cells #[.int .i64 r.t, .int .i64 r.c, .int .i64 r.i, .int .i64 r.j, .int .i64 r.re, .int .i64 r.im, .int .i64 r.dn, .int .i64 r.n] 44)) (hJ k wr _ none hJs.out (World.grownBy_alloc wr _ none) (fun _ e => by cases e)) hlt
   dsimp only [encR] at hy
   rw [hr] at hy
   have hb1 : Below n₀ wr (wr.alloc (.cells #[.int .i64 r.t, .int .i64 r.c, .int .i64 r.i, .int .i64 r.j, .int .i64 r.re, .int .i64 r.im, .int .i64 r.dn, .int .i64 r.n] 44)) := (Below.refl n₀ wr).alloc (by have := hsz.out; have := hW.size; omega) _
   have HX := zh (hnx.out.trans hb1)
   have HZ : Hid (W.heap.size ≤ (wr.alloc (.cells #[.int .i64 r.t, .int .i64 r.c, .int .i64 r.i, .int .i64 r.j, .int .i64 r.re, .int .i64 r.im, .int .i64 r.dn, .int .i64 r.n] 44)).heap.size) := zh (by rw [World.size_alloc]; have := hsz.out; omega)
   clear hbl hr hb1
   gi_wp2
   refine ⟨rfl, ?_⟩
   refine hR.mono ?_
   rintro e W3 (⟨rfl, hJ3, hk3⟩ | ⟨rfl, hJx3⟩)
   ·gi_wp2
    go_roundw
    case rel => exact ⟨k + 1, by omega, by simp, zh hJ3, zh (HX.out.trans hk3), zh (Nat.le_trans HZ.out hk3.size)⟩
    case measure => simp [intOf]; omega
   ·gi_wp2
    refine bodyPost_ret (results_none rfl _ _ _) rfl ?_
    exact ⟨⟨_, rfl⟩, .inr ⟨k, hlt, hJx3⟩⟩
  ·have e : k = l.length := by omega
   subst e
   gi_wp2
   go_end0
   exact ⟨⟨_, rfl⟩, .inl hJs.out⟩
end
section
open Go.ChangeShapes Go.WideShapes Go.ChangeAt Go.RowKit
attribute [local go_sem] Oper.semAt_some
theorem own_blk {B : Nat} {β : Type} (b : β → Nat) (cs : β → Array Value) (T : TypeId) : OwnFrom B (fun k W => W.heap[b k]? = some (.cells (cs k) T)) := by
 intro s W W' row h hg hr
 refine (hg.block (b s) (blk_lt h) fun e => ?_).trans h
 obtain ⟨_, o, ho, hc⟩ := hr (b s) e.symm
 rw [h] at ho
 cases ho
 cases hc
theorem own_pure {B : Nat} {β : Type} (p : β → Prop) : OwnFrom B (fun k (_ : World) => p k) := fun _ _ _ _ h _ _ => h
theorem own_size {B : Nat} {β : Type} (n : Nat) : OwnFrom B (fun (_ : β) W => n ≤ W.heap.size) := fun _ _ _ _ h hg _ => Nat.le_trans h hg.size
theorem own_or {B : Nat} {β : Type} {I J : β → World → Prop} (h : OwnFrom B I) (h' : OwnFrom B J) : OwnFrom B (fun k W => I k W ∨ J k W) := fun s W W' row hs hg hr => hs.elim (fun x => .inl (h s W W' row x hg hr)) (fun x => .inr (h' s W W' row x hg hr))
theorem own_ex {B : Nat} {β γ : Type} {I : γ → β → World → Prop} (h : ∀ x, OwnFrom B (I x)) : OwnFrom B (fun k W => ∃ x, I x k W) := fun s W W' row ⟨x, hx⟩ hg hr => ⟨x, h x s W W' row hx hg hr⟩
theorem put_blk {W : World} {D b : Nat} {o o' : Obj} (h : W.heap[b]? = some o) (hne : b ≠ D) : (W.putObj D o').heap[b]? = some o := (World.putObj_heap_other hne).trans h
theorem put_below {B : Nat} {w W : World} {D : Nat} {o o' : Obj} (h : Below B w W) (hD : B ≤ D) (hw : B ≤ w.heap.size) (ho : W.heap[D]? = some o) : Below B w (W.putObj D o') :=
 h.grown (grownBy_putObj' W D o') (Nat.le_trans hw h.size) (fun k e => by cases e; exact hD)
def lastR (l : List Vr) (k : Nat) : Vr := if k = 0 then zvr else rowAt l (k - 1)
theorem below_mid {n : Nat} {w W V : World} (h : Below n w W) (k : Below n w V) (hs : W.heap.size ≤ V.heap.size) : Below n W V := ⟨k.os.trans h.os.symm, k.tape.trans h.tape.symm, k.output.trans h.output.symm, hs, fun b hb => (k.block b hb).trans (h.block b hb).symm⟩
theorem keep_row {B : Nat} {W V : World} (h : KeepsFrom B W V) (g : Nat) (cs : Array Value) : KeepsFrom B W (V.setRow g cs) :=
 h.trans ⟨by simp, fun k o _ hk ho => by
  by_cases e : k = g
  ·subst e
   obtain ⟨hlt, hk'⟩ := Array.getElem?_eq_some_iff.1 hk
   show (V.heap.modify k _)[k]? = some o
   rw [Array.getElem?_eq_getElem (by rw [Array.size_modify]; exact hlt), Array.getElem_modify_self, hk']
   cases o <;> first | rfl | (simp [Obj.isCells] at ho)
  ·exact (setRow_other V g k cs e).trans hk⟩
theorem wpListIn_store_row {F : Fence} {n : Nat} {P : Program} {ops : Array Oper} {rest : List Oper} {o : Oper} {a : Act} {w : World} {Q : Exit → Act → World → Prop} (hgd : o.guard = none) (ty : TypeId) (x y : Operand) (ho : o.op = .store ty x y)
  (g : Nat) (cells : Array Value) (hx : a.eval x = .pointer (some ⟨g, 0, none⟩)) (hy : a.eval y = .agg cells)
  (t : TypeId) (old : Array Value) (hg : w.heap[g]? = some (.cells old t (0, 0))) (hi : (P.info? ty).map (·.size) = some cells.size)
  (hold : old.size = cells.size) (h1 : cells.all (·.oneCell') = true)
  (h : wpListIn F n P ops Q rest (a.put o.dst undef) (w.setRow g cells)) : wpListIn F n P ops Q (o :: rest) a w := by
 refine wpListIn_plain hgd fun K hK => ?_
 unfold Oper.wpIn
 refine ⟨by simp [Oper.about, ho], ?_⟩
 rw [Oper.semAt_plain F _ _ (by rw [ho]; intro c hc; cases hc)]
 simp only [execOp, ho, hx, hy, Instr.storeAt, Instr.sureAddr, Sem.run_bind, Sem.run_pure, Result.andThen_ok, run_storeVar_row w g t ty old cells hg hi hold h1]
 exact hK _ _ h
theorem no_bool {b : Bool} (h : some undef = some (Value.bool b)) : False := by simp [undef] at h
theorem rcmp_ge {s r : Vr} (hs : rowB s = true) (hr : rowB r = true) : decide (0 ≤ rcmp s r) = !decide (vkey s < vkey r) := by
 rw [rcmp_key hs hr]
 by_cases h : vkey s < vkey r
 ·rw [decide_eq_true h, decide_eq_false (fun hh => by have := kcmp_ge.1 hh; omega)]; rfl
 ·rw [decide_eq_false h, decide_eq_true (kcmp_ge.2 (by omega))]; rfl
theorem keep_set {B : Nat} {W V : World} (h : KeepsFrom B W V) (b off : Nat) (v : Value) : KeepsFrom B W (V.setCell ⟨b, off, none⟩ v) := h.trans ((KeepsOthers.setCell _ _ _).from _)
theorem lastR_succ (l : List Vr) (k : Nat) : lastR l (k + 1) = rowAt l k := rfl
theorem good_take {l : List Vr} {k : Nat} (hk : k < l.length) (hg : goodB (l.take k) = true) : goodB (l.take (k + 1)) = (rowB (rowAt l k) && (decide (k = 0) || decide (vkey (lastR l k) < vkey (rowAt l k)))) := by
 rw [List.take_succ_eq_append_getElem hk, ← rowAt_lt hk]
 unfold goodB at hg ⊢
 rw [goodF_append, hg]
 cases k with
 | zero => simp [goodF]
 | succ k =>
  have e : (l.take (k + 1)).getLast? = some (lastR l (k + 1)) := by
   rw [List.take_succ_eq_append_getElem (by omega), List.getLast?_concat, lastR_succ, rowAt_lt (by omega)]
  rw [e]
  simp [goodF]
theorem good_last {l : List Vr} {k : Nat} (hk : k ≤ l.length) (hg : goodB (l.take k) = true) (h0 : 0 < k) : rowB (lastR l k) = true := by
 cases k with
 | zero => omega
 | succ k =>
  rw [lastR_succ, rowAt_lt (by omega)]
  exact goodF_row hg _ (List.mem_take_iff_getElem.2 ⟨k, by omega, rfl⟩)
theorem good_prefix {l : List Vr} (k : Nat) (h : goodB (l.take k) = false) : goodB l = false := by
 cases hg : goodB l
 ·rfl
 ·rw [← List.take_append_drop k l] at hg
  unfold goodB at hg h
  rw [goodF_append, Bool.and_eq_true] at hg
  rw [hg.1] at h
  cases h
theorem chk_calls {A : Option Addr} {c : Nat} {l : List Vr} {w : World} (hl : RT w A l) (hA : ∀ b off, A = some ⟨b, off, none⟩ → b < w.heap.size) (hc : l.length ≤ c) (hc' : c ≤ 9223372036854775807) : Calls Tryz.prog 20 #[.slice A l.length c] w fun e w' =>
  e = .returned (.int .i64 (chkE l)) ∧ Below w.heap.size w w' := by
 by_cases h2 : 200 < l.length
 ·have FV : Hid (chkE l = 4) := zh (by unfold chkE; rw [if_pos h2])
  generalize chkE l = v at *
  refine (callsIn_wide (n := 0)).1 ?_
  refine callsIn_of_wp_marks Tryz.func20 rfl trivial ?_ rfl
  simp only [Tryz.ntmps20, List.size_toArray, List.length_cons, List.length_nil, Nat.reduceAdd, Nat.reduceSub, Array.replicate_succ, Array.replicate_zero, List.push_toArray, List.append_toArray, List.nil_append, List.cons_append]
  gi_wp2
  exact ⟨_, by simp [results, Tryz.results20, go_sem], ret_int FV.out.symm, Bal (Below.refl _ _) _⟩
 have FV : Hid (chkE l = if goodB l then 0 else 8) := zh (by unfold chkE; rw [if_neg h2])
 generalize chkE l = v at *
 refine (callsIn_wide (n := 0)).1 ?_
 refine callsIn_of_wp_marks Tryz.func20 rfl trivial ?_ rfl
 simp only [Tryz.ntmps20, List.size_toArray, List.length_cons, List.length_nil, Nat.reduceAdd, Nat.reduceSub, Array.replicate_succ, Array.replicate_zero, List.push_toArray, List.append_toArray, List.nil_append, List.cons_append]
 gi_wp2_with fail
 refine ⟨trivial, rfl, (callsIn_wide.2 (rows_calls A _ c _)).mono ?_⟩
 rintro e w1 ⟨rfl, rfl⟩
 gi_wp2_with fail
 have NN : Hid (Below w.heap.size w (((w.alloc (.cells #[.int .i64 0] 24)).alloc (.cells #[.int .i64 0, .int .i64 0, .int .i64 0, .int .i64 0, .int .i64 0, .int .i64 0, .int .i64 0, .int .i64 0] 67)).alloc (.cells #[.slice A l.length c] 22))) := zh (Bal (Bal (Bal (Below.refl _ _) _) _) _)
 have SZ : Hid ((((w.alloc (.cells #[.int .i64 0] 24)).alloc (.cells #[.int .i64 0, .int .i64 0, .int .i64 0, .int .i64 0, .int .i64 0, .int .i64 0, .int .i64 0, .int .i64 0] 67)).alloc (.cells #[.slice A l.length c] 22)).heap.size = w.heap.size + 3) := zh (by simp)
 have VR : Hid ((((w.alloc (.cells #[.int .i64 0] 24)).alloc (.cells #[.int .i64 0, .int .i64 0, .int .i64 0, .int .i64 0, .int .i64 0, .int .i64 0, .int .i64 0, .int .i64 0] 67)).alloc (.cells #[.slice A l.length c] 22)).heap[w.heap.size]? = some (.cells #[.int .i64 0] 24)) := zh (blk_alloc (blk_alloc (blk_new w _) _) _)
 have VL : Hid ((((w.alloc (.cells #[.int .i64 0] 24)).alloc (.cells #[.int .i64 0, .int .i64 0, .int .i64 0, .int .i64 0, .int .i64 0, .int .i64 0, .int .i64 0, .int .i64 0] 67)).alloc (.cells #[.slice A l.length c] 22)).heap[w.heap.size + 1]? = some (.cells #[.int .i64 0, .int .i64 0, .int .i64 0, .int .i64 0, .int .i64 0, .int .i64 0, .int .i64 0, .int .i64 0] 67)) := zh (blk_alloc (blk_at _ (by simp)) _)
 have VT : Hid ((((w.alloc (.cells #[.int .i64 0] 24)).alloc (.cells #[.int .i64 0, .int .i64 0, .int .i64 0, .int .i64 0, .int .i64 0, .int .i64 0, .int .i64 0, .int .i64 0] 67)).alloc (.cells #[.slice A l.length c] 22)).heap[w.heap.size + 1 + 1]? = some (.cells #[.slice A l.length c] 22)) := zh (blk_at _ (by simp))
 generalize (((w.alloc (.cells #[.int .i64 0] 24)).alloc (.cells #[.int .i64 0, .int .i64 0, .int .i64 0, .int .i64 0, .int .i64 0, .int .i64 0, .int .i64 0, .int .i64 0] 67)).alloc (.cells #[.slice A l.length c] 22)) = W0 at *
 refine range_n 50 #[.pointer (some ⟨w.heap.size + 1 + 1, 0, none⟩)] rfl (enters_of Tryz.func50 (by kernel_rfl) rfl) (encR l) w.heap.size l.length
  (rows_seq (hl.next NN.out) hA (by omega) (by have := SZ.out; omega) VT.out) (by have := SZ.out; omega) (fun _ => rfl)
  (fun k W => (W.heap[w.heap.size]? = some (.cells #[.int .i64 0] 24)) ∧ (W.heap[w.heap.size + 1]? = some (.cells #[.int .i64 (lastR l k).t, .int .i64 (lastR l k).c, .int .i64 (lastR l k).i, .int .i64 (lastR l k).j, .int .i64 (lastR l k).re, .int .i64 (lastR l k).im, .int .i64 (lastR l k).dn, .int .i64 (lastR l k).n] 67)) ∧ (Below w.heap.size w W) ∧ (w.heap.size + 3 ≤ W.heap.size) ∧ (goodB (l.take k) = true))
  (fun cd k W => ((cd = .ret) ∧ (goodB l = false) ∧ (W.heap[w.heap.size]? = some (.cells #[.int .i64 8] 24)) ∧ (Below w.heap.size w W)))
  (fun k a' W => ∃ Bx : Nat, (a' = { tmps := #[.slice A l.length c, undef, .pointer (some ⟨w.heap.size, 0, none⟩), .pointer (some ⟨w.heap.size + 1, 0, none⟩), .int .i64 (k : Int), .pointer (some ⟨Bx, 0, none⟩), .slice A l.length c, .int .i64 (l.length : Int), .bool (decide ((200 : Int) < (l.length : Int))), .slice A l.length c, .func (.func 50) #[] #[.pointer (some ⟨w.heap.size + 1 + 1, 0, none⟩)], .int .i64 (k : Int), Rwv (rowAt l k), undef, undef, undef, undef, undef, undef, undef, undef, undef, undef, undef, undef, undef, undef], defers := [] }) ∧ (w.heap.size + 3 ≤ Bx) ∧ (W.heap[Bx]? = some (.cells #[.int .i64 (rowAt l k).t, .int .i64 (rowAt l k).c, .int .i64 (rowAt l k).i, .int .i64 (rowAt l k).j, .int .i64 (rowAt l k).re, .int .i64 (rowAt l k).im, .int .i64 (rowAt l k).dn, .int .i64 (rowAt l k).n] 67)) ∧ (W.heap[w.heap.size]? = some (.cells #[.int .i64 0] 24)) ∧ (W.heap[w.heap.size + 1]? = some (.cells #[.int .i64 (lastR l k).t, .int .i64 (lastR l k).c, .int .i64 (lastR l k).i, .int .i64 (lastR l k).j, .int .i64 (lastR l k).re, .int .i64 (lastR l k).im, .int .i64 (lastR l k).dn, .int .i64 (lastR l k).n] 67)) ∧ (Below w.heap.size w W) ∧ (w.heap.size + 3 ≤ W.heap.size) ∧ (goodB (l.take k) = true))
  ((own_blk _ _ _).and ((own_blk _ _ _).and ((ownFrom_below (Nat.le_refl _) (by have := SZ.out; omega)).and ((own_size _).and (own_pure _)))))
  (fun _ => ((own_pure _).and ((own_pure _).and ((own_blk _ _ _).and (ownFrom_below (Nat.le_refl _) (by have := SZ.out; omega))))))
  (fun _ => own_ex fun _ => ((own_pure _).and ((own_pure _).and ((own_blk _ _ _).and ((own_blk _ _ _).and ((own_blk _ _ _).and ((ownFrom_below (Nat.le_refl _) (by have := SZ.out; omega)).and ((own_size _).and (own_pure _)))))))))
  ⟨VR.out, VL.out, NN.out, (by have := SZ.out; omega), rfl⟩ ?assign ?body ?done ?stop
 case assign =>
  rintro lp k W K ⟨v1, v2, nn, sz, hg⟩ hlt hK
  gi_wp2
  exact hK _ _ (keeps_of_below (Bal (Below.refl _ _) _)) ((Below.refl _ W).alloc nn.size _) ⟨W.heap.size, rfl, sz, blk_new W _, blk_alloc v1 _, blk_alloc v2 _, Bal nn _, by rw [World.size_alloc]; omega, hg⟩
 case body =>
  rintro lp k a' W ⟨Bx, rfl, lx, vx, v1, v2, nn, sz, hg⟩ hlt
  have HVC := zh (rowvalid_calls (rowAt l k))
  have HCC : Hid (∀ W : World, Calls Tryz.prog 42 #[Rwv (lastR l k), Rwv (rowAt l k)] W fun e w' => e = .returned (.int .i64 (rcmp (lastR l k) (rowAt l k))) ∧ Below W.heap.size W w') := zh (compare_calls _ _)
  have GT := good_take hlt hg
  have GL := fun h0 => good_last (by omega) hg h0
  have HGT := zh GT
  have HGL := zh GL
  have HG := zh hg
  have BW := zh (Below.refl W.heap.size W)
  clear GT GL hg
  generalize hr : rowAt l k = r at *
  generalize hs : lastR l k = s at *
  have LX := zh lx
  have NN := zh nn
  have KF := zh (KeepsFrom.refl W0.heap.size W)
  have VR := zh v1
  have VL := zh v2
  have VX := zh vx
  clear v1 v2 vx lx
  obtain ⟨c_VX_0, f_VX_0, c_VX_1, f_VX_1, c_VX_2, f_VX_2, c_VX_3, f_VX_3, c_VX_4, f_VX_4, c_VX_5, f_VX_5, c_VX_6, f_VX_6, c_VX_7, f_VX_7, l_VX⟩ := zfl8 VX
  gi_wp2_with fail
  refine ⟨trivial, rfl, (CallsIn.inRound lp ((callsIn_wide (n := 0)).2 (HVC.out _))).mono ?_⟩
  rintro e w1 ⟨rfl, hb⟩
  clear c_VX_0 f_VX_0 c_VX_1 f_VX_1 c_VX_2 f_VX_2 c_VX_3 f_VX_3 c_VX_4 f_VX_4 c_VX_5 f_VX_5 c_VX_6 f_VX_6 c_VX_7 f_VX_7 l_VX
  replace NN := zh (Bgo NN.out hb)
  replace KF := zh ((KF.out).trans (keeps_of_below hb))
  replace VR := zn hb VR
  replace VL := zn hb VL
  replace VX := zn hb VX
  clear hb
  cases hb : rowB r
  ·replace HGT : Hid (goodB (List.take (k + 1) l) = false) := zh (by rw [HGT.out, hb]; rfl)
   have GF := zh (good_prefix (k + 1) HGT.out)
   clear hb HVC HCC HGL
   obtain ⟨c_VR_0, f_VR_0, l_VR⟩ := zfl1 VR
   gi_wp2_with (first | (exfalso; exact no_bool (by assumption)) | (refine ⟨trivial, ?_⟩; fail_if_success (refine ⟨rfl, ?_⟩)))
   clear c_VR_0 f_VR_0 l_VR
   replace KF := zh (keep_set (KF.out) (w.heap.size) 0 (.int .i64 8))
   generalize hW : (w1.setCell ⟨w.heap.size, 0, none⟩ (.int .i64 8)) = W2 at *
   replace VR : Hid (W2.heap[w.heap.size]? = some (.cells #[.int .i64 8] 24)) := zs hW (blk_set (VR.out) 0 (.int .i64 8))
   replace VL : Hid (W2.heap[w.heap.size + 1]? = some (.cells #[.int .i64 s.t, .int .i64 s.c, .int .i64 s.i, .int .i64 s.j, .int .i64 s.re, .int .i64 s.im, .int .i64 s.dn, .int .i64 s.n] 67)) := zs hW (blk_set_other (VL.out) (by omega) 0 (.int .i64 8))
   replace VX : Hid (W2.heap[Bx]? = some (.cells #[.int .i64 r.t, .int .i64 r.c, .int .i64 r.i, .int .i64 r.j, .int .i64 r.re, .int .i64 r.im, .int .i64 r.dn, .int .i64 r.n] 67)) := zs hW (blk_set_other (VX.out) (by have := LX.out; omega) 0 (.int .i64 8))
   replace NN := zt hW (p := Below _ _) (Bset1 (NN.out) (by omega) 0 (.int .i64 8))
   clear hW
   exact ⟨KF.out, rfl, GF.out, VR.out, NN.out⟩
  have hr8 := hb
  rw [hb, Bool.true_and] at HGT
  clear hb
  by_cases hk : k = 0
  ·replace HGT : Hid (goodB (List.take (k + 1) l) = true) := zh (by rw [HGT.out, hk]; rfl)
   clear HVC HCC HGL
   have hk2 : decide (0 < k) = false := decide_eq_false (by omega)
   have hk3 : (0 < k) = False := by simp; omega
   clear hk
   obtain ⟨c_VX_0, f_VX_0, c_VX_1, f_VX_1, c_VX_2, f_VX_2, c_VX_3, f_VX_3, c_VX_4, f_VX_4, c_VX_5, f_VX_5, c_VX_6, f_VX_6, c_VX_7, f_VX_7, l_VX⟩ := zfl8 VX
   gi_wp2_with fail
   refine ⟨trivial, ?_⟩
   gi_wp2_with ((refine wpListIn_store_row rfl 67 _ _ rfl (w.heap.size + 1) #[.int .i64 r.t, .int .i64 r.c, .int .i64 r.i, .int .i64 r.j, .int .i64 r.re, .int .i64 r.im, .int .i64 r.dn, .int .i64 r.n] ?_ ?_ 67 _ VL.out ?_ ?_ ?_ ?_; rfl; rfl; kernel_rfl; rfl; (simp [Value.oneCell'])))
   clear c_VX_0 f_VX_0 c_VX_1 f_VX_1 c_VX_2 f_VX_2 c_VX_3 f_VX_3 c_VX_4 f_VX_4 c_VX_5 f_VX_5 c_VX_6 f_VX_6 c_VX_7 f_VX_7 l_VX
   replace VR := zh ((setRow_other w1 (w.heap.size + 1) (w.heap.size) #[.int .i64 r.t, .int .i64 r.c, .int .i64 r.i, .int .i64 r.j, .int .i64 r.re, .int .i64 r.im, .int .i64 r.dn, .int .i64 r.n] (by omega)).trans VR.out)
   replace VL := zh (setRow_heap w1 _ _ #[.int .i64 r.t, .int .i64 r.c, .int .i64 r.i, .int .i64 r.j, .int .i64 r.re, .int .i64 r.im, .int .i64 r.dn, .int .i64 r.n] _ _ VL.out)
   replace VX := zh ((setRow_other w1 (w.heap.size + 1) (Bx) #[.int .i64 r.t, .int .i64 r.c, .int .i64 r.i, .int .i64 r.j, .int .i64 r.re, .int .i64 r.im, .int .i64 r.dn, .int .i64 r.n] (by have := LX.out; omega)).trans VX.out)
   replace NN := zh (below_setRow NN.out (show w.heap.size ≤ w.heap.size + 1 by omega) #[.int .i64 r.t, .int .i64 r.c, .int .i64 r.i, .int .i64 r.j, .int .i64 r.re, .int .i64 r.im, .int .i64 r.dn, .int .i64 r.n])
   replace KF := zh (keep_row KF.out (w.heap.size + 1) #[.int .i64 r.t, .int .i64 r.c, .int .i64 r.i, .int .i64 r.j, .int .i64 r.re, .int .i64 r.im, .int .i64 r.dn, .int .i64 r.n])
   generalize w1.setRow (w.heap.size + 1) #[.int .i64 r.t, .int .i64 r.c, .int .i64 r.i, .int .i64 r.j, .int .i64 r.re, .int .i64 r.im, .int .i64 r.dn, .int .i64 r.n] = W3 at *
   refine ⟨KF.out, below_mid nn NN.out KF.out.size, VR.out, ?_, NN.out, by have := KF.out.size; omega, HGT.out⟩
   rw [lastR_succ, hr]; exact VL.out
  have hk2 : decide (0 < k) = true := decide_eq_true (by omega)
  have hk3 : (0 < k) = True := by simp; omega
  have HS := zh (HGL.out (by omega))
  rw [decide_eq_false hk, Bool.false_or] at HGT
  clear hk HGL HVC
  have HX := zh (rcmp_ge HS.out hr8)
  generalize rcmp s r = x at *
  clear hr8 HS
  obtain ⟨c_VX_0, f_VX_0, c_VX_1, f_VX_1, c_VX_2, f_VX_2, c_VX_3, f_VX_3, c_VX_4, f_VX_4, c_VX_5, f_VX_5, c_VX_6, f_VX_6, c_VX_7, f_VX_7, l_VX⟩ := zfl8 VX
  obtain ⟨c_VL_0, f_VL_0, c_VL_1, f_VL_1, c_VL_2, f_VL_2, c_VL_3, f_VL_3, c_VL_4, f_VL_4, c_VL_5, f_VL_5, c_VL_6, f_VL_6, c_VL_7, f_VL_7, l_VL⟩ := zfl8 VL
  gi_wp2_with fail
  refine ⟨trivial, rfl, (CallsIn.inRound lp ((callsIn_wide (n := 0)).2 (HCC.out _))).mono ?_⟩
  rintro e w4 ⟨rfl, hb⟩
  clear c_VX_0 f_VX_0 c_VX_1 f_VX_1 c_VX_2 f_VX_2 c_VX_3 f_VX_3 c_VX_4 f_VX_4 c_VX_5 f_VX_5 c_VX_6 f_VX_6 c_VX_7 f_VX_7 l_VX c_VL_0 f_VL_0 c_VL_1 f_VL_1 c_VL_2 f_VL_2 c_VL_3 f_VL_3 c_VL_4 f_VL_4 c_VL_5 f_VL_5 c_VL_6 f_VL_6 c_VL_7 f_VL_7 l_VL
  replace NN := zh (Bgo NN.out hb)
  replace KF := zh ((KF.out).trans (keeps_of_below hb))
  replace VR := zn hb VR
  replace VL := zn hb VL
  replace VX := zn hb VX
  clear hb
  cases hg : decide (vkey s < vkey r)
  ·have h8 : decide (0 ≤ x) = true := by rw [HX.out, hg]; rfl
   have GF := zh (good_prefix (k + 1) (by rw [HGT.out]; exact hg))
   clear hg HX HGT HCC
   obtain ⟨c_VR_0, f_VR_0, l_VR⟩ := zfl1 VR
   gi_wp2_with fail
   clear c_VR_0 f_VR_0 l_VR
   replace KF := zh (keep_set (KF.out) (w.heap.size) 0 (.int .i64 8))
   generalize hW : (w4.setCell ⟨w.heap.size, 0, none⟩ (.int .i64 8)) = W5 at *
   replace VR : Hid (W5.heap[w.heap.size]? = some (.cells #[.int .i64 8] 24)) := zs hW (blk_set (VR.out) 0 (.int .i64 8))
   replace VL : Hid (W5.heap[w.heap.size + 1]? = some (.cells #[.int .i64 s.t, .int .i64 s.c, .int .i64 s.i, .int .i64 s.j, .int .i64 s.re, .int .i64 s.im, .int .i64 s.dn, .int .i64 s.n] 67)) := zs hW (blk_set_other (VL.out) (by omega) 0 (.int .i64 8))
   replace VX : Hid (W5.heap[Bx]? = some (.cells #[.int .i64 r.t, .int .i64 r.c, .int .i64 r.i, .int .i64 r.j, .int .i64 r.re, .int .i64 r.im, .int .i64 r.dn, .int .i64 r.n] 67)) := zs hW (blk_set_other (VX.out) (by have := LX.out; omega) 0 (.int .i64 8))
   replace NN := zt hW (p := Below _ _) (Bset1 (NN.out) (by omega) 0 (.int .i64 8))
   clear hW
   exact ⟨KF.out, ⟨rfl, GF.out, VR.out, NN.out⟩⟩
  ·have h8 : decide (0 ≤ x) = false := by rw [HX.out, hg]; rfl
   replace HGT : Hid (goodB (List.take (k + 1) l) = true) := zh (by rw [HGT.out]; exact hg)
   clear hg HX HCC
   obtain ⟨c_VX_0, f_VX_0, c_VX_1, f_VX_1, c_VX_2, f_VX_2, c_VX_3, f_VX_3, c_VX_4, f_VX_4, c_VX_5, f_VX_5, c_VX_6, f_VX_6, c_VX_7, f_VX_7, l_VX⟩ := zfl8 VX
   gi_wp2_with ((refine wpListIn_store_row rfl 67 _ _ rfl (w.heap.size + 1) #[.int .i64 r.t, .int .i64 r.c, .int .i64 r.i, .int .i64 r.j, .int .i64 r.re, .int .i64 r.im, .int .i64 r.dn, .int .i64 r.n] ?_ ?_ 67 _ VL.out ?_ ?_ ?_ ?_; rfl; rfl; kernel_rfl; rfl; (simp [Value.oneCell'])))
   clear c_VX_0 f_VX_0 c_VX_1 f_VX_1 c_VX_2 f_VX_2 c_VX_3 f_VX_3 c_VX_4 f_VX_4 c_VX_5 f_VX_5 c_VX_6 f_VX_6 c_VX_7 f_VX_7 l_VX
   replace VR := zh ((setRow_other w4 (w.heap.size + 1) (w.heap.size) #[.int .i64 r.t, .int .i64 r.c, .int .i64 r.i, .int .i64 r.j, .int .i64 r.re, .int .i64 r.im, .int .i64 r.dn, .int .i64 r.n] (by omega)).trans VR.out)
   replace VL := zh (setRow_heap w4 _ _ #[.int .i64 r.t, .int .i64 r.c, .int .i64 r.i, .int .i64 r.j, .int .i64 r.re, .int .i64 r.im, .int .i64 r.dn, .int .i64 r.n] _ _ VL.out)
   replace VX := zh ((setRow_other w4 (w.heap.size + 1) (Bx) #[.int .i64 r.t, .int .i64 r.c, .int .i64 r.i, .int .i64 r.j, .int .i64 r.re, .int .i64 r.im, .int .i64 r.dn, .int .i64 r.n] (by have := LX.out; omega)).trans VX.out)
   replace NN := zh (below_setRow NN.out (show w.heap.size ≤ w.heap.size + 1 by omega) #[.int .i64 r.t, .int .i64 r.c, .int .i64 r.i, .int .i64 r.j, .int .i64 r.re, .int .i64 r.im, .int .i64 r.dn, .int .i64 r.n])
   replace KF := zh (keep_row KF.out (w.heap.size + 1) #[.int .i64 r.t, .int .i64 r.c, .int .i64 r.i, .int .i64 r.j, .int .i64 r.re, .int .i64 r.im, .int .i64 r.dn, .int .i64 r.n])
   generalize w4.setRow (w.heap.size + 1) #[.int .i64 r.t, .int .i64 r.c, .int .i64 r.i, .int .i64 r.j, .int .i64 r.re, .int .i64 r.im, .int .i64 r.dn, .int .i64 r.n] = W6 at *
   refine ⟨KF.out, below_mid nn NN.out KF.out.size, VR.out, ?_, NN.out, by have := KF.out.size; omega, HGT.out⟩
   rw [lastR_succ, hr]; exact VL.out
 case done =>
  rintro D W hD ⟨v1, v2, nn, sz, hg⟩ hK
  have HR : Hid (v = 0) := zh (by rw [FV.out, ← List.take_length (l := l), hg]; rfl)
  have hDs := SZ.out
  have NN := zh nn
  have VR := zh v1
  have HK := zh hK
  clear v1 v2 hK hg
  obtain ⟨c_VR_0, f_VR_0, l_VR⟩ := zfl1 VR
  gi_wp2_with fail
  clear c_VR_0 f_VR_0 l_VR
  replace HK := zh (blk_set_other (b' := w.heap.size) HK.out (by omega) 0 (.int .i64 0))
  generalize hW : (W.setCell ⟨w.heap.size, 0, none⟩ (.int .i64 0)) = W1 at *
  replace VR : Hid (W1.heap[w.heap.size]? = some (.cells #[.int .i64 0] 24)) := zs hW (blk_set (VR.out) 0 (.int .i64 0))
  replace NN := zt hW (p := Below _ _) (Bset1 (NN.out) (by omega) 0 (.int .i64 0))
  clear hW
  refine ⟨by simp, .inl ⟨_, _, rfl, run_takeDeferred HK.out, ?_⟩⟩
  have e0 := blk_cell (put_blk (D := D) (o' := .deferred none) VR.out (by omega)) 0 (.int .i64 0) rfl
  exact ⟨_, by simp [results, Tryz.results20, go_sem, e0], ret_int HR.out.symm, put_below NN.out (by omega) (Nat.le_refl _) HK.out⟩
 case stop =>
  rintro D cd k W hD hlt ⟨rfl, hg, v1, nn⟩ hK
  have HR : Hid (v = 8) := zh (by rw [FV.out, hg]; rfl)
  have hDs := SZ.out
  gi_wp2
  refine ⟨by simp, .inl ⟨_, _, rfl, run_takeDeferred hK, ?_⟩⟩
  have e0 := blk_cell (put_blk (D := D) (o' := .deferred none) v1 (by omega)) 0 (.int .i64 8) rfl
  exact ⟨_, by simp [results, Tryz.results20, go_sem, e0], ret_int HR.out.symm, put_below nn (by omega) (Nat.le_refl _) hK⟩
end
section
open Go.ChangeShapes Go.WideShapes Go.ChangeAt Go.RowKit
attribute [local go_sem] Oper.semAt_some
def OR (B : Nat) (w : World) (v : Value) (l : List Vr) : Prop := w.ownsRow B 44 8 v l.length (vrc l)
theorem OR.nil (B : Nat) (w : World) : OR B w (.slice none 0 0) [] := World.ownsRow_nil _ _ _ _
theorem OR.alloc {B : Nat} {w : World} {v : Value} {l : List Vr} (h : OR B w v l) (o : Obj) : OR B (w.alloc o) v l := World.ownsRow.alloc h o
theorem OR.mono {B B' : Nat} {w : World} {v : Value} {l : List Vr} (h : OR B w v l) (hB : B' ≤ B) : OR B' w v l := by
 refine ⟨h.1, ?_⟩
 rcases h.2 with h2 | ⟨g, cap, cur, h1, h2, h3⟩
 ·exact .inl h2
 ·exact .inr ⟨g, cap, cur, h1, by omega, h3⟩
theorem OR.form {B : Nat} {w : World} {v : Value} {l : List Vr} (h : OR B w v l) : ∃ A cap, v = .slice A l.length cap ∧ l.length ≤ cap ∧ cap ≤ 9223372036854775807 ∧ RT w A l ∧ ∀ b off, A = some ⟨b, off, none⟩ → b < w.heap.size := by
 obtain ⟨A, cap, rfl, h1, h2, h3⟩ := Rd.of_own h
 refine ⟨A, cap, rfl, h1, h2, h3, fun b off e => ?_⟩
 rcases h.2 with ⟨h5, _⟩ | ⟨g, cap', cur, hv, _, hg, _⟩
 ·injection h5 with h6; rw [h6] at e; cases e
 ·injection hv with h6; rw [h6] at e; injection e with e; injection e with e1 _; rw [← e1]; exact blk_lt hg
theorem OR.grown {B : Nat} {w w' : World} {v : Value} {l : List Vr} (h : OR B w v l) (hg : w.grownBy w' v.ownBlock) (hB : B ≤ w.heap.size) : Below B w w' := by
 refine (Below.refl B w).grown hg hB fun k e => ?_
 rcases h.2 with ⟨h5, _⟩ | ⟨g, cap', cur, hv, hb, _⟩
 ·rw [h5] at e; cases e
 ·rw [hv] at e; simp [Value.ownBlock] at e; omega
theorem OR.keeps {B : Nat} {w w' : World} {v : Value} {l : List Vr} (h : OR B w v l) (hg : w.grownBy w' v.ownBlock) : KeepsOthers w w' := by
 refine KeepsOthers.of_grownBy hg fun j o e hj => ?_
 rcases h.2 with ⟨h5, _⟩ | ⟨g, cap', cur, hv, hb, h3, _⟩
 ·rw [h5] at e; cases e
 ·rw [hv] at e
  simp [Value.ownBlock] at e
  subst e
  rw [h3] at hj
  cases hj
  rfl
theorem own_row {B B' : Nat} {β : Type} (v : β → Value) (l : β → List Vr) : OwnFrom B (fun k W => OR B' W (v k) (l k)) := by
 intro s W W' row h hg hr
 refine ⟨h.1, ?_⟩
 rcases h.2 with h2 | ⟨g, cap, cur, h1, h2, h3, h4⟩
 ·exact .inl h2
 ·refine .inr ⟨g, cap, cur, h1, h2, (hg.block g (blk_lt h3) fun e => ?_).trans h3, h4⟩
  obtain ⟨_, o, ho, hc⟩ := hr g e.symm
  rw [h3] at ho
  cases ho
  cases hc
theorem OR.next {B : Nat} {w w' : World} {v : Value} {l : List Vr} (h : OR B w v l) (hb : Below w.heap.size w w') : OR B w' v l := by
 refine ⟨h.1, ?_⟩
 rcases h.2 with h2 | ⟨g, cap, cur, h1, h2, h3, h4⟩
 ·exact .inl h2
 ·exact .inr ⟨g, cap, cur, h1, h2, blk_next hb h3, h4⟩
theorem OR.set_other {B : Nat} {w : World} {v : Value} {l : List Vr} (h : OR B w v l) {b : Nat} (hb : b < B) (off : Nat) (x : Value) : OR B (w.setCell ⟨b, off, none⟩ x) v l := by
 refine ⟨h.1, ?_⟩
 rcases h.2 with h2 | ⟨g, cap, cur, h1, h2, h3, h4⟩
 ·exact .inl h2
 ·exact .inr ⟨g, cap, cur, h1, h2, blk_set_other h3 (by omega) off x, h4⟩
theorem OR.set_ne {B : Nat} {w : World} {v : Value} {l : List Vr} (h : OR B w v l) {b : Nat} {cs : Array Value} {T : TypeId} (hb : w.heap[b]? = some (.cells cs T)) (hT : T ≠ 44) (off : Nat) (x : Value) : OR B (w.setCell ⟨b, off, none⟩ x) v l := by
 refine ⟨h.1, ?_⟩
 rcases h.2 with h2 | ⟨g, cap, cur, h1, h2, h3, h4⟩
 ·exact .inl h2
 ·refine .inr ⟨g, cap, cur, h1, h2, blk_set_other h3 (fun e => ?_) off x, h4⟩
  subst e
  rw [hb] at h3
  injection h3 with h3
  injection h3 with _ h3
  exact hT h3
theorem infoV : (Tryz.prog.info? 44).map (fun i => (i.zero, i.size, i.bytes)) = some (some (.agg #[.int .i64 0, .int .i64 0, .int .i64 0, .int .i64 0, .int .i64 0, .int .i64 0, .int .i64 0, .int .i64 0]), 8, 64) := by kernel_rfl
theorem und_vis : Tryz.prog.underlying 22 = some (.slice 44) := by kernel_rfl
theorem make_vis (n : Nat) (h : n ≤ 1000) (W : World) (k : Int) (hk : k = (n : Int)) : ∃ w', (Instr.makeSlice 22 (.int .i64 0) (.int .i64 k)).run Tryz.prog W = .ok (.slice (some ⟨W.heap.size, 0, none⟩) 0 n) w' ∧ OR W.heap.size w' (.slice (some ⟨W.heap.size, 0, none⟩) 0 n) [] ∧ Below W.heap.size W w' := by
 subst hk
 obtain ⟨i, hi, hz, hs, hb⟩ := info_parts infoV
 obtain ⟨w', h1, h2, h3⟩ := run_make_own (P := Tryz.prog) W W.heap.size 22 44 i _ 8 und_vis hi hz hs .i64 .i64 n (by rw [hb]; omega) (by simp [maxLen]; omega) (Nat.le_refl _)
 exact ⟨w', h1, h2, (Below.refl _ W).grown h3 (Nat.le_refl _) (fun k e => by cases e)⟩
theorem wpListIn_app {F : Fence} {n : Nat} {w : World} {ops : Array Oper} {rest : List Oper} {o : Oper} {a : Act} {Q : Exit → Act → World → Prop}
  (hg : o.guard = none) (s x : Operand) (hop : o.op = Op.call { callee := Callee.builtin Builtin.append, args := #[s, x], argTypes := #[22, 22] })
  (B : Nat) (v : Value) (l : List Vr) (hs : a.eval s = v) (A : Option Addr) (m c : Nat) (l2 : List Vr) (hx : a.eval x = .slice A m c)
  (hown : OR B w v l) (hm : l2.length = m) (hr : RT w A l2) (hb : l.length + m ≤ 1000) (hB : B ≤ w.heap.size)
  (hK : ∀ v' w', OR B w' v' (l ++ l2) → Below B w w' → KeepsOthers w w' → wpListIn F n Tryz.prog ops Q rest (a.put o.dst v') w') : wpListIn F n Tryz.prog ops Q (o :: rest) a w := by
 subst hm
 refine wpListIn_plain hg fun K hK' => ?_
 obtain ⟨i, hi, hz, hsz, hby⟩ := info_parts infoV
 obtain ⟨v', w', hrun, r1, r2, _⟩ := run_append_rd (P := Tryz.prog) w B 22 o.type 44 i _ 8 64 und_vis hi hz hsz hby rfl (by decide) v l.length (vrc l) hown A l2.length c (vrc l2) hr (vrc_one l2) (by simp [maxLen]; omega) (by omega) hB
 unfold Oper.wpIn
 refine ⟨?_, ?_⟩
 ·simp [Oper.about, hop, resolve, Target.leads, Sem.run_pure]
 ·rw [Oper.semAt_plain F _ _ (by rw [hop]; intro c hc'; cases hc')]
  simp [execOp, hop, resolve, invoke, builtin, hs, hx, hrun, Result.andThen]
  refine hK' _ _ (hK v' w' ?_ (hown.grown r2 hB) (hown.keeps r2))
  unfold OR
  rw [List.length_append, vrc_append]; exact r1
theorem blk_B {B : Nat} {W X : World} (h : Below B W X) {b : Nat} {o : Obj} (hb : W.heap[b]? = some o) (hlt : b < B) : X.heap[b]? = some o := (h.block b hlt).trans hb
theorem RT.nextB {B : Nat} {W X : World} {A : Option Addr} {l : List Vr} (h : RT W A l) (hb : Below B W X) (hA : ∀ b off, A = some ⟨b, off, none⟩ → b < B) : RT X A l :=
 ⟨h.1, fun hn => by
  obtain ⟨b, off, e, hl, hc⟩ := h.2 hn
  have hlt := hA b off e
  refine ⟨b, off, e, Nat.lt_of_lt_of_le hl hb.size, fun j u hu => (hb.cell (p := ⟨b, off + j, none⟩) hlt).trans (hc j u hu)⟩⟩
theorem RT.one {W : World} {b : Nat} {r : Vr} {T : TypeId} (h : W.heap[b]? = some (.cells #[.int .i64 r.t, .int .i64 r.c, .int .i64 r.i, .int .i64 r.j, .int .i64 r.re, .int .i64 r.im, .int .i64 r.dn, .int .i64 r.n] T)) : RT W (some ⟨b, 0, none⟩) [r] := by
 refine ⟨rfl, fun _ => ⟨b, 0, rfl, blk_lt h, fun j u hu => ?_⟩⟩
 refine blk_cell h (0 + j) u ?_
 simpa [vrc, vr8] using hu
theorem vrc_take (l : List Vr) (k : Nat) : vrc (l.take k) = (vrc l).take (k * 8) := by
 induction l generalizing k with
 | nil => simp [vrc]
 | cons r l ih =>
  cases k with
  | zero => simp [vrc]
  | succ k =>
   have e : vrc (r :: l) = vr8 r ++ vrc l := by simp [vrc]
   have e2 : vrc (r :: l.take k) = vr8 r ++ vrc (l.take k) := by simp [vrc]
   rw [List.take_succ_cons, e, e2, ih, List.take_append, List.take_of_length_le (l := vr8 r) (by rw [vr8_len]; omega), vr8_len, show (k + 1) * 8 - 8 = k * 8 by omega]
theorem vrc_drop (l : List Vr) (k : Nat) : vrc (l.drop k) = (vrc l).drop (k * 8) := by
 induction l generalizing k with
 | nil => simp [vrc]
 | cons r l ih =>
  cases k with
  | zero => simp [vrc]
  | succ k =>
   have e : vrc (r :: l) = vr8 r ++ vrc l := by simp [vrc]
   rw [List.drop_succ_cons, e, ih, List.drop_append, List.drop_eq_nil_of_le (show (vr8 r).length ≤ (k + 1) * 8 by rw [vr8_len]; omega), List.nil_append, vr8_len, show (k + 1) * 8 - 8 = k * 8 by omega]
theorem RT.take {W : World} {A : Option Addr} {l : List Vr} (h : RT W A l) {k : Nat} (hk : k ≤ l.length) : RT W A (l.take k) := by
 refine ⟨by rw [vrc_take, List.length_take, h.1, List.length_take]; omega, fun hn => ?_⟩
 obtain ⟨b, off, e, hl, hc⟩ := h.2 (by simp at hn; omega)
 refine ⟨b, off, e, hl, fun j u hu => hc j u ?_⟩
 rw [vrc_take, List.getElem?_take] at hu
 split at hu
 ·exact hu
 ·cases hu
theorem RT.drop {W : World} {b off : Nat} {l : List Vr} (h : RT W (some ⟨b, off, none⟩) l) {k : Nat} (hk : k ≤ l.length) : RT W (some ⟨b, off + k * 8, none⟩) (l.drop k) := by
 refine ⟨by rw [vrc_drop, List.length_drop, h.1, List.length_drop]; omega, fun hn => ?_⟩
 obtain ⟨b', off', e, hl, hc⟩ := h.2 (by simp at hn; omega)
 injection e with e
 injection e with e1 e2
 subst e1 e2
 refine ⟨b, off + k * 8, rfl, hl, fun j u hu => ?_⟩
 rw [vrc_drop, List.getElem?_drop] at hu
 rw [Nat.add_assoc]
 exact hc (k * 8 + j) u hu
theorem RT.empty (W : World) (A : Option Addr) : RT W A [] := ⟨rfl, fun h => by simp at h⟩
end
section
def valD (d1 d2 : Int) : Int := (Nat.lcm d1.natAbs d2.natAbs : Nat)
def valO (n1 d1 n2 d2 : Int) : Option (Int × Int × Int) :=
 if valD d1 d2 ≤ 1000000000 ∧ Cxm.chkB (n1 * (valD d1 d2 / d1)) (n2 * (valD d1 d2 / d2)) (valD d1 d2) = true then some (n1 * (valD d1 d2 / d1), n2 * (valD d1 d2 / d2), valD d1 d2) else none
end
section
def wordsL (c : UInt8) : List UInt8 → List (List UInt8)
 | [] => [[]]
 | x :: r => if x = c then [] :: wordsL c r else match wordsL c r with
  | [] => [[x]]
  | h :: t => (x :: h) :: t
theorem index_cons_eq (c : UInt8) (r : List UInt8) : Lib.index (c :: r) [c] = ((0 : Nat) : Int) := by rw [Lib.index]; simp [List.isPrefixOf]
theorem index_cons_ne {x c : UInt8} (h : x ≠ c) (r : List UInt8) : Lib.index (x :: r) [c] = if Lib.index r [c] == -1 then -1 else Lib.index r [c] + 1 := by
 have hp : ([c] : List UInt8).isPrefixOf (x :: r) = false := by simp [List.isPrefixOf, Ne.symm h]
 rw [Lib.index, hp]; simp
theorem index_of_pos {c : UInt8} {r : List UInt8} {k : Nat} (h : Lib.count r [c] = k + 1) : ∃ j : Nat, Lib.index r [c] = j := by
 by_cases hm : Lib.index r [c] = -1
 ·rw [Lib.count_miss hm] at h; cases h
 ·have := Lib.index_ge r [c]
  exact ⟨(Lib.index r [c]).toNat, by omega⟩
theorem splitK_words (c : UInt8) : ∀ (s : List UInt8), Lib.splitK [c] 0 (Lib.count s [c]) s = wordsL c s
 | [] => by rw [Lib.count_miss (by simp [Lib.index])]; rfl
 | x :: r => by
  have ih := splitK_words c r
  by_cases e : x = c
  ·subst e
   rw [Lib.count_cons_eq, Nat.add_comm]
   unfold Lib.splitK wordsL
   rw [index_cons_eq, if_neg (by decide), if_pos rfl]
   simp only [Int.toNat_natCast, Nat.zero_add, List.take_zero, List.length_singleton, List.drop_one, List.tail_cons]
   rw [ih]
  ·rw [Lib.count_cons_ne x c r e]
   generalize hk : Lib.count r [c] = k at ih
   cases k with
   | zero =>
    unfold Lib.splitK at ih ⊢
    unfold wordsL
    rw [if_neg e, ← ih]
   | succ k =>
    obtain ⟨j, hj⟩ := index_of_pos hk
    unfold Lib.splitK at ih ⊢
    unfold wordsL
    rw [index_cons_ne e, hj, if_neg (show ¬ ((j : Int) == -1) = true by rw [beq_iff_eq]; omega), if_neg (show ¬ ((j : Int) + 1 == -1) = true by rw [beq_iff_eq]; omega), if_neg e]
    rw [hj, if_neg (show ¬ ((j : Int) == -1) = true by rw [beq_iff_eq]; omega)] at ih
    rw [← ih]
    simp only [Nat.add_zero, List.length_singleton, Int.toNat_natCast]
    rw [show ((j : Int) + 1).toNat = j + 1 by omega]
    rfl
theorem split_words (s : ByteArray) (c : UInt8) : (Lib.splitB ⟨#[c]⟩ 0 (Lib.countB s ⟨#[c]⟩) s).map (·.data.toList) = wordsL c s.data.toList := by
 rw [Lib.splitB_data]
 exact splitK_words c s.data.toList
def linesL : Nat → List UInt8 → List (List UInt8)
 | 0, _ => []
 | f + 1, s => if s = [] then [] else (Lib.cut s [10]).1 :: linesL f (Lib.cut s [10]).2.1
end
section
open Go
theorem dec_small {u : Nat} (h : u < 10) : Lib.decDigits u = [UInt8.ofNat (48 + u)] := by rw [Lib.decDigits, dif_pos h]
theorem dec_big {u : Nat} (h : ¬ u < 10) : Lib.decDigits u = Lib.decDigits (u / 10) ++ [UInt8.ofNat (48 + u % 10)] := by rw [Lib.decDigits, dif_neg h]
theorem dig_nat {k : Nat} (h : k < 10) : (UInt8.ofNat (48 + k)).toNat = 48 + k := by
 rw [UInt8.toNat_ofNat']; omega
theorem dec_digit : ∀ (n u : Nat), u < n → ∀ c ∈ Lib.decDigits u, 48 ≤ c.toNat ∧ c.toNat ≤ 57 := by
 intro n
 induction n with
 | zero => intro u h; omega
 | succ n ih =>
  intro u h c hc
  by_cases hu : u < 10
  ·rw [dec_small hu] at hc
   simp only [List.mem_singleton] at hc
   subst hc
   rw [dig_nat hu]; omega
  ·rw [dec_big hu] at hc
   rcases List.mem_append.1 hc with h1 | h1
   ·exact ih (u / 10) (by omega) c h1
   ·simp only [List.mem_singleton] at h1
    subst h1
    rw [dig_nat (by omega)]; omega
theorem dec_ne (u : Nat) : Lib.decDigits u ≠ [] := by
 by_cases hu : u < 10
 ·rw [dec_small hu]; simp
 ·rw [dec_big hu]; simp
def spell (acc : Nat) (l : List UInt8) : Nat := l.foldl (fun a c => a * 10 + (c.toNat - 48)) acc
theorem spell_cons (acc : Nat) (c : UInt8) (l : List UInt8) : spell acc (c :: l) = spell (acc * 10 + (c.toNat - 48)) l := by unfold spell; rw [List.foldl_cons]
theorem spell_snoc (acc : Nat) (l : List UInt8) (c : UInt8) : spell acc (l ++ [c]) = spell acc l * 10 + (c.toNat - 48) := by unfold spell; rw [List.foldl_append, List.foldl_cons, List.foldl_nil]
theorem spell_ge : ∀ (l : List UInt8) (acc : Nat), acc ≤ spell acc l
 | [], acc => Nat.le_refl _
 | c :: l, acc => by
  rw [spell_cons]
  exact Nat.le_trans (by omega) (spell_ge l (acc * 10 + (c.toNat - 48)))
theorem spell_dec : ∀ (n u : Nat), u < n → spell 0 (Lib.decDigits u) = u := by
 intro n
 induction n with
 | zero => intro u h; omega
 | succ n ih =>
  intro u h
  by_cases hu : u < 10
  ·rw [dec_small hu, show [UInt8.ofNat (48 + u)] = [] ++ [UInt8.ofNat (48 + u)] from rfl, spell_snoc, dig_nat hu]
   simp [spell]
  ·rw [dec_big hu, spell_snoc, ih (u / 10) (by omega), dig_nat (by omega)]
   omega
theorem parseU_spell {M : Nat} (hM : M = 18446744073709551615) : ∀ (l : List UInt8) (acc : Nat), (∀ c ∈ l, 48 ≤ c.toNat ∧ c.toNat ≤ 57) → spell acc l ≤ M → Lib.parseUintM M acc l = .ok (spell acc l)
 | [], acc, _, _ => rfl
 | c :: l, acc, hd, hs => by
  have h1 := hd c (by simp)
  rw [spell_cons] at hs ⊢
  have h2 := spell_ge l (acc * 10 + (c.toNat - 48))
  unfold Lib.parseUintM
  rw [if_pos h1, if_neg (by omega), if_neg (by omega)]
  exact parseU_spell hM l _ (fun x hx => hd x (by simp [hx])) hs
theorem parseI_minus {r : List UInt8} {u : Nat} (h : Lib.parseUintB 64 r = .ok u) (hu : u ≤ 9223372036854775808) : Lib.parseIntB 64 (45 :: r) = .ok (-(u : Int)) := by
 unfold Lib.parseIntB
 have e : (if (45 : UInt8).toNat = 43 ∨ (45 : UInt8).toNat = 45 then r else 45 :: r) = r := if_pos (.inr rfl)
 simp only [e, h]
 have n : (45 : UInt8).toNat = 45 := rfl
 rw [if_neg (fun k => k.1 n), if_neg (fun k => by have := k.2; rw [show (2 : Nat) ^ (64 - 1) = 9223372036854775808 from rfl] at this; omega), if_pos n]
theorem parseI_plain {c : UInt8} {r : List UInt8} {u : Nat} (hc : 48 ≤ c.toNat) (h : Lib.parseUintB 64 (c :: r) = .ok u) (hu : u < 9223372036854775808) : Lib.parseIntB 64 (c :: r) = .ok (u : Int) := by
 unfold Lib.parseIntB
 have e : (if c.toNat = 43 ∨ c.toNat = 45 then r else c :: r) = c :: r := if_neg (by omega)
 simp only [e, h]
 rw [if_neg (fun k => by have := k.2; rw [show (2 : Nat) ^ (64 - 1) = 9223372036854775808 from rfl] at this; omega), if_neg (fun k => by have := k.1; omega), if_neg (by omega)]
theorem parseI_itoa {n : Int} (h1 : -9223372036854775808 ≤ n) (h2 : n ≤ 9223372036854775807) : Lib.parseIntB 64 (Lib.itoa n) = .ok n := by
 have U : ∀ u : Nat, u ≤ 9223372036854775808 → Lib.parseUintB 64 (Lib.decDigits u) = .ok u := fun u hu => by
  unfold Lib.parseUintB
  have hs := spell_dec (u + 1) u (by omega)
  rw [if_neg (dec_ne u), parseU_spell (by decide) _ _ (dec_digit (u + 1) u (by omega)) (by rw [hs]; omega), hs]
 by_cases hn : n < 0
 ·have e : Lib.itoa n = 45 :: Lib.decDigits n.natAbs := by unfold Lib.itoa; rw [if_pos hn]
  rw [e, parseI_minus (U n.natAbs (by omega)) (by omega)]
  congr 1; omega
 ·have e : Lib.itoa n = Lib.decDigits n.toNat := by unfold Lib.itoa; rw [if_neg hn]
  rw [e]
  have u := U n.toNat (by omega)
  have dg := dec_digit (n.toNat + 1) n.toNat (by omega)
  cases hl : Lib.decDigits n.toNat with
  | nil => exact absurd hl (dec_ne _)
  | cons c r =>
   rw [hl] at u dg
   rw [parseI_plain (dg c (by simp)).1 u (by omega)]
   congr 1; omega
theorem itoa_byte {n : Int} : ∀ c ∈ Lib.itoa n, c ≠ 47 := fun c hc e => by
 subst e
 unfold Lib.itoa at hc
 have t : (47 : UInt8).toNat = 47 := rfl
 split at hc
 ·rcases List.mem_cons.1 hc with h | h
  ·cases h
  ·have := dec_digit (n.natAbs + 1) n.natAbs (by omega) _ h; omega
 ·have := dec_digit (n.toNat + 1) n.toNat (by omega) _ hc; omega
def textL (n d : Int) : List UInt8 := if d = 1 then Lib.itoa n else Lib.itoa n ++ 47 :: Lib.itoa d
theorem byte_none : ∀ (l : List UInt8) (c : UInt8), (∀ x ∈ l, x ≠ c) → Lib.indexByte l c = -1
 | [], _, _ => rfl
 | b :: l, c, h => by
  have hb : (b == c) = false := by rw [beq_eq_false_iff_ne]; exact h b (by simp)
  unfold Lib.indexByte
  rw [hb, byte_none l c (fun x hx => h x (by simp [hx]))]
  rfl
theorem byte_at : ∀ (l : List UInt8) (c : UInt8) (r : List UInt8), (∀ x ∈ l, x ≠ c) → Lib.indexByte (l ++ c :: r) c = (l.length : Int)
 | [], c, r, _ => by simp [Lib.indexByte]
 | b :: l, c, r, h => by
  have hb : (b == c) = false := by rw [beq_eq_false_iff_ne]; exact h b (by simp)
  have ih := byte_at l c r (fun x hx => h x (by simp [hx]))
  rw [List.cons_append]
  unfold Lib.indexByte
  rw [hb, ih]
  have : ((l.length : Int) == -1) = false := by rw [beq_eq_false_iff_ne]; omega
  rw [this]
  simp
theorem cut_none {l : List UInt8} (h : ∀ x ∈ l, x ≠ 47) : Lib.cut l [47] = (l, [], false) := by
 unfold Lib.cut
 rw [Lib.index_one, byte_none l 47 h, if_neg (by decide)]
theorem cut_at {l r : List UInt8} (h : ∀ x ∈ l, x ≠ 47) : Lib.cut (l ++ 47 :: r) [47] = (l, r, true) := by
 unfold Lib.cut
 rw [Lib.index_one, byte_at l 47 r h, if_pos (by omega)]
 simp [List.drop_append]
theorem cut_text (n d : Int) : Lib.cut (textL n d) [47] = (Lib.itoa n, if d = 1 then [] else Lib.itoa d, !decide (d = 1)) := by
 unfold textL
 by_cases h : d = 1
 ·rw [if_pos h, if_pos h, cut_none itoa_byte]; simp [h]
 ·rw [if_neg h, if_neg h, cut_at itoa_byte]; simp [h]
theorem text_len {n d : Int} (v : VF n d) : (textL n d).length ≤ 40 := by
 have L : ∀ x : Int, -1000000000000000000 ≤ x → x ≤ 1000000000000000000 → (Lib.itoa x).length ≤ 20 ∧ (0 ≤ x → (Lib.itoa x).length ≤ 19) := by
  intro x h1 h2
  have D : ∀ (k u : Nat), u < 10 ^ (k + 1) → (Lib.decDigits u).length ≤ k + 1 := by
   intro k
   induction k with
   | zero => intro u hu; rw [dec_small (by simpa using hu)]; simp
   | succ k ih =>
    intro u hu
    by_cases h : u < 10
    ·rw [dec_small h]; simp
    ·rw [dec_big h, List.length_append]
     have := ih (u / 10) (by rw [Nat.pow_succ] at hu; omega)
     simp; omega
  unfold Lib.itoa
  split
  ·have := D 18 x.natAbs (by omega)
   simp; omega
  ·have := D 18 x.toNat (by omega)
   omega
 have a := L n v.n1 v.n2
 have b := L d (by have := v.d1; omega) v.d2
 have b2 := b.2 (by have := v.d1; omega)
 unfold textL
 split
 ·omega
 ·simp; omega
def PR (l : List UInt8) (r : Int × Int × Int) : Prop := (r.2.2 = 0 ∧ VF r.1 r.2.1 ∧ textL r.1 r.2.1 = l) ∨ (r = (0, 0, 12) ∧ ∀ n d, VF n d → textL n d ≠ l)
theorem text_inj {n d m k : Int} (v : VF n d) (u : VF m k) (h : textL n d = textL m k) : n = m ∧ d = k := by
 have c := congrArg (fun l => Lib.cut l [47]) h
 simp only [cut_text, Prod.mk.injEq] at c
 obtain ⟨c1, c2, c3⟩ := c
 have vn := parseI_itoa (n := n) (by have := v.n1; omega) (by have := v.n2; omega)
 have um := parseI_itoa (n := m) (by have := u.n1; omega) (by have := u.n2; omega)
 have vd := parseI_itoa (n := d) (by have := v.d1; omega) (by have := v.d2; omega)
 have uk := parseI_itoa (n := k) (by have := u.d1; omega) (by have := u.d2; omega)
 rw [c1, um] at vn
 refine ⟨by cases vn; rfl, ?_⟩
 by_cases h1 : d = 1
 ·by_cases h2 : k = 1
  ·omega
  ·simp [h1, h2] at c3
 ·by_cases h2 : k = 1
  ·simp [h1, h2] at c3
  ·rw [if_neg h1, if_neg h2] at c2
   rw [c2, uk] at vd
   cases vd; rfl
theorem PR.unique {l : List UInt8} {r r' : Int × Int × Int} (h : PR l r) (h' : PR l r') : r = r' := by
 obtain ⟨a, b, c⟩ := r
 obtain ⟨a', b', c'⟩ := r'
 rcases h with ⟨h1, h2, h3⟩ | ⟨h1, h2⟩
 ·rcases h' with ⟨k1, k2, k3⟩ | ⟨k1, k2⟩
  ·obtain ⟨e1, e2⟩ := text_inj h2 k2 (h3.trans k3.symm)
   simp only at h1 k1 e1 e2
   rw [h1, k1, e1, e2]
  ·exact absurd h3 (k2 _ _ h2)
 ·rcases h' with ⟨k1, k2, k3⟩ | ⟨k1, k2⟩
  ·exact absurd k3 (h2 _ _ k2)
  ·rw [h1, k1]
end
end Go.Proofs.YtbbnkclajpaghaaGreatDoor
