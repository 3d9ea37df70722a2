/- Ranges over a function whose rounds are numbered: what is handed over is a function of the round's number; the iterator may lean on what each round keeps. -/
import Derived.Test.YtfangplfbbgphaaBlk
import Derived.RangeFuncNested
import Derived.RangeFuncLeaves
import Derived.RangeFuncBound
namespace Go.Proofs.Ytfangplfbbgphaa
open Go Go.RowKit
set_option linter.unusedVariables false
section
variable {P : Program}
/- an iterator that hands over encs 0, encs 1, .., encs (N - 1), and reads between the rounds what lies below n₀ -/
def SeqK (P : Program) (g : Nat) (lb : Array Value) (encs : Nat → Array Value) (n₀ N : Nat) (Kp : World → Prop) (w : World) : Prop :=
  ∀ (l : Nat) (J Jx : Nat → World → Prop) (W : World), Below w.heap.size w W → AbidesFrom W.heap.size J → AbidesFrom W.heap.size Jx → (∀ k W1, J k W1 → Kp W1) →
    (∀ k W1, J k W1 → k < N → YieldAt Fence.wide 0 P l (encs k) W1 fun e W' =>
      (e = .returned (.bool true) ∧ J (k + 1) W' ∧ Below n₀ W1 W') ∨ (e = .returned (.bool false) ∧ Jx k W')) →
    J 0 W → CallsIn Fence.wide 0 P g (#[.func (.yield l) #[] #[]] ++ lb) W fun e W' => (∃ v, e = .returned v) ∧ (J N W' ∨ ∃ k, k < N ∧ Jx k W')
/- how a round may end -/
def roundN (B n₀ : Nat) (I : Nat → World → Prop) (Ix : Code → Nat → World → Prop) (k : Nat) (W : World) : Exit → Act → World → Prop
  | .normal, _, W' => KeepsFrom B W W' ∧ Below n₀ W W' ∧ I (k + 1) W'
  | .ret, _, W' => KeepsFrom B W W' ∧ Ix .ret k W'
  | .exit i, _, W' => KeepsFrom B W W' ∧ Ix (.exit i) k W'
  | .goto t, _, W' => KeepsFrom B W W' ∧ Ix (.goto t) k W'
  | .panic _, _, _ => False
  | .outgrown, _, _ => False
/- what is kept, of a step that leaves all that lies in the world as it is -/
theorem keeps_of_below {B : Nat} {W W' : World} (h : Below W.heap.size W W') : KeepsFrom B W W' := ⟨h.size, fun k o _ hk _ => (h.block k (Array.getElem?_eq_some_iff.1 hk).1).trans hk⟩
theorem range_k {g : Operand} {ps : Array Tmp} {assign body : Code} {Q : Exit → Act → World → Prop} {a : Act} {w : World} (gf : Nat) (lb : Array Value)
    (hg : a.eval g = .func (.func gf) #[] lb) (eg : ∀ args w, (callFunc gf args).run P w = .ok (.enter gf args) w)
    (encs : Nat → Array Value) (n₀ N : Nat) (Kp : World → Prop) (hseq : SeqK P gf lb encs n₀ N Kp w) (hn : n₀ ≤ w.heap.size) (hps : ∀ k, (encs k).size = ps.size)
    (I : Nat → World → Prop) (Ix : Code → Nat → World → Prop) (Ax : Nat → Act → World → Prop) (hI : OwnFrom w.heap.size I) (hIx : ∀ c, OwnFrom w.heap.size (Ix c)) (hAx : ∀ a', OwnFrom w.heap.size (fun k => Ax k a'))
    (hKp : ∀ k W, I k W → Kp W) (h0 : I 0 w)
    (hassign : ∀ (l k : Nat) (W : World) (K : Act → World → Prop), I k W → k < N → (∀ a' W', KeepsFrom w.heap.size W W' → Below n₀ W W' → Ax k a' W' → K a' W') →
      assign.wpIn (Fence.wide.inRound l) 0 P (Exit.then K fun _ _ _ => False) { tmps := (ps.zip (encs k)).foldl (fun t (p, v) => t.setIfInBounds p v) a.tmps, defers := [] } W)
    (hbody : ∀ (l k : Nat) (a' : Act) (W : World), Ax k a' W → k < N → body.wpIn (Fence.wide.inRound l) 0 P (roundN w.heap.size n₀ I Ix k W) a' W)
    (hdone : ∀ (D : Nat) (W : World), w.heap.size ≤ D → I N W → W.heap[D]? = some (.deferred (some [])) → Q .normal { a with defers := { target := .collected D, args := #[] } :: a.defers } W)
    (hstop : ∀ (D : Nat) (c : Code) (k : Nat) (W : World), w.heap.size ≤ D → k < N → Ix c k W → W.heap[D]? = some (.deferred (some [])) → c.wpIn Fence.wide 0 P Q { a with defers := { target := .collected D, args := #[] } :: a.defers } W) :
    (Code.rangeFunc g ps assign body).wpIn Fence.wide 0 P Q a w := by
  refine wpIn_rangeFunc fun fn _ => ?_
  obtain ⟨D, hD⟩ : ∃ D, D = w.heap.size := ⟨_, rfl⟩
  obtain ⟨rc, hrc⟩ : ∃ rc : LoopState → Option Code → Loop, rc = fun st pe => { state := st, pending := pe, fn, tmps := a.tmps, params := ps, assign, body, defers := D } := ⟨_, rfl⟩
  have rc_p : ∀ st pe, (rc st pe).params = ps := fun st pe => by rw [hrc]
  obtain ⟨W1, hW1⟩ : ∃ W1, (w.alloc (.deferred (some []))).alloc (.loop (rc .ready none)) = W1 := ⟨_, rfl⟩
  have s1 : (w.alloc (.deferred (some []))).heap.size = D + 1 := by rw [World.size_alloc, hD]
  have hsz : W1.heap.size = D + 2 := by rw [← hW1, World.size_alloc, s1]
  have hL1 : W1.heap[D + 1]? = some (.loop (rc .ready none)) := by
    have := World.alloc_heap_new (w.alloc (.deferred (some []))) (.loop (rc .ready none))
    rw [s1, hW1] at this; exact this
  have hK1 : W1.heap[D]? = some (.deferred (some [])) := by
    have h2 := World.alloc_heap_new w (.deferred (some []))
    rw [← hD] at h2
    rw [← hW1]; exact (Below.heap_alloc _ _ _ (by rw [s1]; omega)).trans h2
  have hI1 : I 0 W1 := by rw [← hW1]; exact hI.alloc _ (hI.alloc _ h0)
  have hb1 : Below w.heap.size w W1 := by
    rw [← hW1]; exact ((Below.refl _ w).alloc (Nat.le_refl _) _).alloc (by simp) _
  refine ⟨D + 1, [{ target := .collected D, args := #[] }], W1, { target := .fn (.func gf) lb, args := #[.func (.yield (D + 1)) #[] #[]] }, W1, gf, #[.func (.yield (D + 1)) #[] #[]] ++ lb, W1, ?_, ?_, fun _ _ => trivial, ?_, fun h => by simp [Fence.wide] at h, ?_⟩
  · rw [← hW1, hrc, hD]; exact run_enterLoop_outer _ _ _ _ _
  · simp only [resolve, hg]
    simp [go_sem]
  · simp [invoke, go_sem, eg]
  -- the book of the loop: its record lies at D + 1, the block for deferred calls at D
  have turn : ∀ {β : Type} {X : β → World → Prop} (hX : OwnFrom w.heap.size X) {s : β} {W : World} {o : Obj} (o' : Obj), X s W → W.heap[D + 1]? = some o → o.isCells = false → X s (W.putObj (D + 1) o') := fun hX _ _ _ o' h ho hc => hX.putObj o' h (by omega) ho hc
  have put_same : ∀ {W : World} {o : Obj} (o' : Obj), W.heap[D + 1]? = some o → (W.putObj (D + 1) o').heap[D + 1]? = some o' := fun _ h => World.putObj_heap_same (Array.getElem?_eq_some_iff.1 h).1
  have put_D : ∀ {W : World} (o' : Obj), W.heap[D]? = some (.deferred (some [])) → (W.putObj (D + 1) o').heap[D]? = some (.deferred (some [])) := fun _ h => (World.putObj_heap_other (by omega)).trans h
  have put_b : ∀ {W : World} {o : Obj} (o' : Obj), W.heap[D + 1]? = some o → o.isCells = false → o.isWalk = false → Below n₀ W (W.putObj (D + 1) o') := fun {W} o o' h hc hw => belowK_b hn W (D + 1) o o' (by omega) h hc hw
  have frm : ∀ {A B : World} {row : Option Nat}, (∀ r, row = some r → W1.heap.size ≤ r ∧ ∃ o : Obj, A.heap[r]? = some o ∧ o.isWalk = true) → (∀ r, row = some r → w.heap.size ≤ r ∧ ∃ o : Obj, A.heap[r]? = some o ∧ o.isCells = false) :=
    fun hr r e => by obtain ⟨hB, o, ho, hw⟩ := hr r e; exact ⟨by omega, o, ho, Obj.not_cells_of_walk hw⟩
  have stay : ∀ {A B : World} {row : Option Nat} (_ : A.grownBy B row) (_ : ∀ r, row = some r → W1.heap.size ≤ r ∧ ∃ o : Obj, A.heap[r]? = some o ∧ o.isWalk = true) {k : Nat} {o : Obj}, A.heap[k]? = some o → o.isWalk = false → B.heap[k]? = some o :=
    fun hg' hr _ _ hk hw => (grownBy_keeps hg' (fun r e => (hr r e).2) hk hw).trans hk
  refine (hseq (D + 1)
    (fun k W => I k W ∧ W.heap[D + 1]? = some (.loop (rc .ready none)) ∧ W.heap[D]? = some (.deferred (some [])))
    (fun k W => ∃ c, Ix c k W ∧ W.heap[D + 1]? = some (.loop (rc .done (some c))) ∧ W.heap[D]? = some (.deferred (some [])))
    W1 hb1
    (fun s A B row hs hg' hr => ⟨hI s A B row hs.1 hg' (frm (B := B) hr), stay hg' hr hs.2.1 rfl, stay hg' hr hs.2.2 rfl⟩)
    (fun s A B row hs hg' hr => by
      obtain ⟨c, hc, hl, hk⟩ := hs
      exact ⟨c, hIx c s A B row hc hg' (frm (B := B) hr), stay hg' hr hl rfl, stay hg' hr hk rfl⟩)
    (fun k W1 h => hKp k W1 h.1) ?_ ⟨hI1, hL1, hK1⟩).mono ?_
  · -- a round
    rintro k W ⟨hi, hl, hk⟩ hlt
    have hy := run_yield (P := P) (args := encs k) hl (by rw [rc_p]; exact hps k)
    rw [hrc] at hy
    refine ⟨fn, _, assign, body, hy, roundIn_of_wpIn trivial (hassign _ k W _ hi hlt fun a₁ W₁ hf₁ hb₁ hx₁ => ?_)⟩
    have hl₁ := hf₁.same _ _ (by omega) hl rfl
    have hk₁ := hf₁.same _ _ (by omega) hk rfl
    refine ⟨_, run_beginRound hl₁ (by rw [hrc]), ?_⟩
    obtain ⟨bz, hbz⟩ : ∃ bz : Loop, bz = { rc .ready none with state := .busy } := ⟨_, rfl⟩
    rw [← hbz]
    have hl₂ := put_same (.loop bz) hl₁
    have hk₂ := put_D (.loop bz) hk₁
    have hx₂ := turn (hAx a₁) (.loop bz) hx₁ hl₁ rfl
    have hb₂ := hb₁.trans (put_b (.loop bz) hl₁ rfl rfl)
    refine wpIn_mono (hbody _ k a₁ _ hx₂ hlt) ?_
    have fin : ∀ (jump : Option Code) (W3 : World), KeepsFrom w.heap.size (W₁.putObj (D + 1) (.loop bz)) W3 →
        (Instr.endRound (D + 1) jump).run P W3 = .ok (.bool jump.isNone) (W3.putObj (D + 1) (.loop (rc (if jump.isNone then .ready else .done) jump))) ∧ W3.heap[D + 1]? = some (.loop bz) ∧ W3.heap[D]? = some (.deferred (some [])) := fun jump W3 h3 => by
      have hl3 := h3.same _ _ (by omega) hl₂ rfl
      have he := run_endRound (P := P) jump hl3
      rw [hbz, hrc] at he
      rw [hrc]
      exact ⟨he, hl3, h3.same _ _ (by omega) hk₂ rfl⟩
    rintro e a3 W3 hp
    cases e with
    | normal =>
      obtain ⟨h3, hb3, hi3⟩ := hp
      obtain ⟨hr, hl3, hk3⟩ := fin none W3 h3
      exact ⟨_, _, hr, .inl ⟨rfl, ⟨turn hI _ hi3 hl3 rfl, put_same _ hl3, put_D _ hk3⟩, (hb₂.trans hb3).trans (put_b _ hl3 rfl rfl)⟩⟩
    | ret =>
      obtain ⟨h3, hi3⟩ := hp
      obtain ⟨hr, hl3, hk3⟩ := fin (some .ret) W3 h3
      exact ⟨_, _, hr, .inr ⟨rfl, .ret, turn (hIx _) _ hi3 hl3 rfl, put_same _ hl3, put_D _ hk3⟩⟩
    | exit i =>
      obtain ⟨h3, hi3⟩ := hp
      obtain ⟨hr, hl3, hk3⟩ := fin (some (.exit i)) W3 h3
      exact ⟨_, _, hr, .inr ⟨rfl, .exit i, turn (hIx _) _ hi3 hl3 rfl, put_same _ hl3, put_D _ hk3⟩⟩
    | goto t =>
      obtain ⟨h3, hi3⟩ := hp
      obtain ⟨hr, hl3, hk3⟩ := fin (some (.goto t)) W3 h3
      exact ⟨_, _, hr, .inr ⟨rfl, .goto t, turn (hIx _) _ hi3 hl3 rfl, put_same _ hl3, put_D _ hk3⟩⟩
    | panic ch => exact hp.elim
    | outgrown => exact hp.elim
  · -- behind the iterator
    rintro e W2 ⟨⟨v, rfl⟩, (⟨hi, hl, hk⟩ | ⟨k, hlt, c, hi, hl, hk⟩)⟩
    · have he := run_endLoop (P := P) hl (by rw [hrc]; simp)
      rw [hrc] at he
      exact ⟨none, _, he, hdone D _ (by omega) (turn hI _ hi hl rfl) (put_D _ hk)⟩
    · have he := run_endLoop (P := P) hl (by rw [hrc]; simp)
      rw [hrc] at he
      exact ⟨some c, _, he, hstop D c k _ (by omega) hlt (turn (hIx c) _ hi hl rfl) (put_D _ hk)⟩
end
end Go.Proofs.Ytfangplfbbgphaa
