/- What a walk inside the rounds of a range over a function wants: what is owned there, what is kept; whole rows stored; a region that draws its order and only reads, in a round. -/
import Derived.Test.YtfangplfbbgphaaArk
import Derived.Test.YtfangplfbbgphaaAri
import Derived.OpenShut
import Derived.Laws.CopyOwn
import Derived.BigGuardIn
import Derived.BigGuardPartIn
import Derived.Shelf.RegionOpen
import Derived.OwnWalkIn
import Derived.TacticsInMore
import Derived.LoopNIn
import Derived.LoopIn
import Derived.Sort.BigQuietIn
namespace Go.Proofs.Ytfangplfbbgphaa
open Go.ChangeShapes Go.WideShapes Go.ChangeAt Go.RowKit
set_option linter.unusedVariables false
set_option linter.unusedSimpArgs false
attribute [local go_sem] Oper.semAt_some
theorem own_blk {B : Nat} {β : Type} (b : β → Nat) (cs : β → Array Value) (T : TypeId) : OwnFrom B (fun k W => W.heap[b k]? = some (.cells (cs k) T)) := by
  intro s W W' row h hg hr
  refine (hg.block (b s) (blk_lt h) fun e => ?_).trans h
  obtain ⟨_, o, ho, hc⟩ := hr (b s) e.symm
  rw [h] at ho
  cases ho
  cases hc
theorem own_pure {B : Nat} {β : Type} (p : β → Prop) : OwnFrom B (fun k (_ : World) => p k) := fun _ _ _ _ h _ _ => h
theorem own_size {B : Nat} {β : Type} (n : Nat) : OwnFrom B (fun (_ : β) W => n ≤ W.heap.size) := fun _ _ _ _ h hg _ => Nat.le_trans h hg.size
theorem own_or {B : Nat} {β : Type} {I J : β → World → Prop} (h : OwnFrom B I) (h' : OwnFrom B J) : OwnFrom B (fun k W => I k W ∨ J k W) := fun s W W' row hs hg hr => hs.elim (fun x => .inl (h s W W' row x hg hr)) (fun x => .inr (h' s W W' row x hg hr))
theorem own_ex {B : Nat} {β γ : Type} {I : γ → β → World → Prop} (h : ∀ x, OwnFrom B (I x)) : OwnFrom B (fun k W => ∃ x, I x k W) := fun s W W' row ⟨x, hx⟩ hg hr => ⟨x, h x s W W' row hx hg hr⟩
/- the marks that a loop leaves among the deferred calls: the function's end -/
theorem put_blk {W : World} {D b : Nat} {o o' : Obj} (h : W.heap[b]? = some o) (hne : b ≠ D) : (W.putObj D o').heap[b]? = some o := (World.putObj_heap_other hne).trans h
theorem put_below {B : Nat} {w W : World} {D : Nat} {o o' : Obj} (h : Below B w W) (hD : B ≤ D) (hw : B ≤ w.heap.size) (ho : W.heap[D]? = some o) : Below B w (W.putObj D o') :=
  h.grown (grownBy_putObj' W D o') (Nat.le_trans hw h.size) (fun k e => by cases e; exact hD)
theorem below_mid {n : Nat} {w W V : World} (h : Below n w W) (k : Below n w V) (hs : W.heap.size ≤ V.heap.size) : Below n W V := ⟨k.os.trans h.os.symm, k.tape.trans h.tape.symm, k.output.trans h.output.symm, hs, fun b hb => (k.block b hb).trans (h.block b hb).symm⟩
theorem keep_row {B : Nat} {W V : World} (h : KeepsFrom B W V) (g : Nat) (cs : Array Value) : KeepsFrom B W (V.setRow g cs) :=
  h.trans ⟨by simp, fun k o _ hk ho => by
    by_cases e : k = g
    · subst e
      obtain ⟨hlt, hk'⟩ := Array.getElem?_eq_some_iff.1 hk
      show (V.heap.modify k _)[k]? = some o
      rw [Array.getElem?_eq_getElem (by rw [Array.size_modify]; exact hlt), Array.getElem_modify_self, hk']
      cases o <;> first | rfl | (simp [Obj.isCells] at ho)
    · exact (setRow_other V g k cs e).trans hk⟩
theorem wpListIn_store_row {F : Fence} {n : Nat} {P : Program} {ops : Array Oper} {rest : List Oper} {o : Oper} {a : Act} {w : World} {Q : Exit → Act → World → Prop} (hgd : o.guard = none) (ty : TypeId) (x y : Operand) (ho : o.op = .store ty x y)
    (g : Nat) (cells : Array Value) (hx : a.eval x = .pointer (some ⟨g, 0, none⟩)) (hy : a.eval y = .agg cells)
    (t : TypeId) (old : Array Value) (hg : w.heap[g]? = some (.cells old t (0, 0))) (hi : (P.info? ty).map (·.size) = some cells.size)
    (hold : old.size = cells.size) (h1 : cells.all (·.oneCell') = true)
    (h : wpListIn F n P ops Q rest (a.put o.dst undef) (w.setRow g cells)) : wpListIn F n P ops Q (o :: rest) a w := by
  refine wpListIn_plain hgd fun K hK => ?_
  unfold Oper.wpIn
  refine ⟨by simp [Oper.about, ho], ?_⟩
  rw [Oper.semAt_plain F _ _ (by rw [ho]; intro c hc; cases hc)]
  simp only [execOp, ho, hx, hy, Instr.storeAt, Instr.sureAddr, Sem.run_bind, Sem.run_pure, Result.andThen_ok, run_storeVar_row w g t ty old cells hg hi hold h1]
  exact hK _ _ h
theorem no_bool {b : Bool} (h : some undef = some (Value.bool b)) : False := by simp [undef] at h
theorem keep_set {B : Nat} {W V : World} (h : KeepsFrom B W V) (b off : Nat) (v : Value) : KeepsFrom B W (V.setCell ⟨b, off, none⟩ v) := h.trans ((KeepsOthers.setCell _ _ _).from _)
/- a cell of a block that holds records -/
theorem rec_cell {α : Type} {f : α → List Value} {sz : Nat} (hf : ∀ x, (f x).length = sz) {W : World} {g : Nat} {l : List α} {T : TypeId} (h : W.heap[g]? = some (.cells (l.flatMap f).toArray T)) {i : Nat} {x : α} (hi : l[i]? = some x) (j : Nat) (u : Value) (hj : (f x)[j]? = some u) : W.cell? ⟨g, i * sz + j, none⟩ = some u := by
  have hlt : j < sz := by
    have := (List.getElem?_eq_some_iff.1 hj).1
    rw [hf] at this; exact this
  exact blk_cell h _ _ (by rw [List.getElem?_toArray, fm_get f sz hf l i j x hi hlt]; exact hj)
/- a region that draws its order and only reads, in a round -/
def noDefer (ops : Array Oper) : Bool := ops.all fun o => match o.op with | .defer _ => false | _ => true
theorem noDefer_spec {ops : Array Oper} (h : noDefer ops = true) {i : Nat} {o : Oper} (ho : ops[i]? = some o) : ∀ c, o.op ≠ .defer c := by
  intro c hc
  have h1 := Array.all_eq_true_iff_forall_mem.1 h o (Array.mem_of_getElem? ho)
  rw [hc] at h1
  cases h1
section
variable {F : Fence} {n : Nat} {P : Program} {ops : Array Oper} {md : Region.Mode} {C : World → Prop}
theorem wpIn_of_quiet_r {o : Oper} {a : Act} {K : Act → Prop} {K' : Act → World → Prop} {Q' : Exit → Act → World → Prop} {w : World} (hnd : ∀ c, o.op ≠ .defer c) (hw : C w) (h : ∀ a w', C w' → K a → K' a w')
    (ha : o.askedIn F P a C) (hh : o.quietIn F n P a C K) : o.wpIn F n P a w K' Q' := by
  obtain ⟨v, h1, h2⟩ := hh
  have h3 := h1 w hw
  unfold Oper.quietAtIn at h3
  unfold Oper.wpIn
  refine ⟨ha w hw, ?_⟩
  rw [Oper.semAt_plain F _ _ hnd]
  generalize (execOp a.eval o).run P w = r at *
  cases r with
  | ok x w' =>
    cases x <;> simp only [Oper.quietUponIn] at h3 <;> simp only [Oper.uponIn]
    case value u =>
      obtain ⟨e1, e2⟩ := h3
      rw [e1, e2]
      exact h _ _ hw h2
    case skip =>
      obtain ⟨e1, e2⟩ := h3
      rw [e1, ← e2]
      exact h _ _ hw h2
    case enter f args =>
      obtain ⟨e1, hd, hc⟩ := h3
      rw [e1]
      exact ⟨hd, hc.mono fun e w'' ⟨he, hw''⟩ => by subst he; exact h _ _ hw'' h2⟩
  | halt x w' => simp only [Oper.quietUponIn] at h3
theorem wpOpIn_of_q_r {i : Nat} {a : Act} {K : Act → Prop} {K' : Act → World → Prop} {Q' : Exit → Act → World → Prop} {w : World} (hnd : noDefer ops = true) (hC : C w) (h : ∀ a w', C w' → K a → K' a w')
    (hh : qOpIn F n P ops C i K a) : wpOpIn F n P ops Q' i K' a w := by
  unfold qOpIn at hh
  unfold wpOpIn
  split
  · rename_i ho; simp only [ho] at hh; exact h _ _ hC hh
  · rename_i o ho
    simp only [ho] at hh
    obtain ⟨ha, hh⟩ := hh
    split
    · rename_i hw; simp only [hw, if_true] at hh; exact wpIn_of_quiet_r (noDefer_spec hnd ho) hC h ha hh
    · rename_i hw; simp only [hw] at hh; exact ⟨ha w hC, h _ _ hC hh⟩
theorem wpAnyIn_of_quiet_r {Q : Act → Prop} {Q' : Exit → Act → World → Prop} (hnd : noDefer ops = true) (hQ : ∀ a w, C w → Q a → Q' .normal a w) : ∀ (fuel : Nat) (listed : Array Bool) (a : Act) (w : World), C w →
    wpAnyQIn F n P md ops C Q fuel listed a → wpAnyIn F n P md ops Q' fuel listed a w
  | 0, _, _, _, hw, h => ⟨h.1, hQ _ _ hw h.2⟩
  | fuel + 1, _, _, _, hw, h => ⟨fun h0 => hQ _ _ hw (h.1 h0), fun i hi => wpOpIn_of_q_r hnd hw (fun a' w' hw' => wpAnyIn_of_quiet_r hnd hQ fuel _ a' w' hw') (h.2 i hi)⟩
theorem region_quiet_r {id : Nat} {Q : Exit → Act → World → Prop} {a : Act} {w : World} {l : List Oper} (hnd : noDefer l.toArray = true) (hm : P.follows .mixedOrders = true) (hB : Region.lexB .any l.toArray = true)
    (h : wpQuietIn F n P l.toArray (fun w' => ∃ n, w' = w.drewN n) (fun a' => ∀ w', (∃ n, w' = w.drewN n) → Q .normal a' w') l a) : (Code.region id l.toArray true).wpIn F n P Q a w := by
  simp only [Region.lexB, Bool.and_eq_true] at hB
  refine wpIn_region_any hm (wpAnyIn_of_quiet_r (C := fun w' => ∃ n, w' = w.drewN n) (Q := fun a' => ∀ w', (∃ n, w' = w.drewN n) → Q .normal a' w') hnd (fun _ w' hw' h => h w' hw') _ _ _ _ ⟨1, rfl⟩ ?_)
  have := wpAnyQIn_lex (F := F) (n := n) (C := fun w' => ∃ n, w' = w.drewN n) (md := .any) hB.1 l 0 (Array.replicate l.toArray.size false) a (by simp) (by simpa using hB.2) h
  simpa using this
end
end Go.Proofs.Ytfangplfbbgphaa
