/- Rows of a table that a function owns: made, appended to, read, inside a fence. -/
import Derived.Test.YtbbnkclajpaghaaTg
import Derived.OpenShut
import Derived.OwnWalkIn
import Derived.BigGuardIn
import Derived.Laws.CopyOwn
import Derived.Laws.MakeOwn
import Derived.Laws.EntriesVeiled
namespace Go.Proofs.Ytbbnkclajpaghaa
open Go.ChangeShapes Go.WideShapes Go.ChangeAt Go.RowKit
set_option linter.unusedVariables false
set_option linter.unusedSimpArgs false
attribute [local go_sem] Oper.semAt_some
def OR (B : Nat) (w : World) (v : Value) (l : List Vr) : Prop := w.ownsRow B 28 8 v l.length (vrc l)
theorem OR.nil (B : Nat) (w : World) : OR B w (.slice none 0 0) [] := World.ownsRow_nil _ _ _ _
theorem OR.alloc {B : Nat} {w : World} {v : Value} {l : List Vr} (h : OR B w v l) (o : Obj) : OR B (w.alloc o) v l := World.ownsRow.alloc h o
theorem OR.mono {B B' : Nat} {w : World} {v : Value} {l : List Vr} (h : OR B w v l) (hB : B' ≤ B) : OR B' w v l := by
  refine ⟨h.1, ?_⟩
  rcases h.2 with h2 | ⟨g, cap, cur, h1, h2, h3⟩
  · exact .inl h2
  · exact .inr ⟨g, cap, cur, h1, by omega, h3⟩
theorem OR.form {B : Nat} {w : World} {v : Value} {l : List Vr} (h : OR B w v l) : ∃ A cap, v = .slice A l.length cap ∧ l.length ≤ cap ∧ cap ≤ 9223372036854775807 ∧ RT w A l ∧ ∀ b off, A = some ⟨b, off, none⟩ → b < w.heap.size := by
  obtain ⟨A, cap, rfl, h1, h2, h3⟩ := Rd.of_own h
  refine ⟨A, cap, rfl, h1, h2, h3, fun b off e => ?_⟩
  rcases h.2 with ⟨h5, _⟩ | ⟨g, cap', cur, hv, _, hg, _⟩
  · injection h5 with h6; rw [h6] at e; cases e
  · injection hv with h6; rw [h6] at e; injection e with e; injection e with e1 _; rw [← e1]; exact blk_lt hg
theorem OR.grown {B : Nat} {w w' : World} {v : Value} {l : List Vr} (h : OR B w v l) (hg : w.grownBy w' v.ownBlock) (hB : B ≤ w.heap.size) : Below B w w' := by
  refine (Below.refl B w).grown hg hB fun k e => ?_
  rcases h.2 with ⟨h5, _⟩ | ⟨g, cap', cur, hv, hb, _⟩
  · rw [h5] at e; cases e
  · rw [hv] at e; simp [Value.ownBlock] at e; omega
theorem OR.keeps {B : Nat} {w w' : World} {v : Value} {l : List Vr} (h : OR B w v l) (hg : w.grownBy w' v.ownBlock) : KeepsOthers w w' := by
  refine KeepsOthers.of_grownBy hg fun j o e hj => ?_
  rcases h.2 with ⟨h5, _⟩ | ⟨g, cap', cur, hv, hb, h3, _⟩
  · rw [h5] at e; cases e
  · rw [hv] at e
    simp [Value.ownBlock] at e
    subst e
    rw [h3] at hj
    cases hj
    rfl
theorem own_row {B B' : Nat} {β : Type} (v : β → Value) (l : β → List Vr) : OwnFrom B (fun k W => OR B' W (v k) (l k)) := by
  intro s W W' row h hg hr
  refine ⟨h.1, ?_⟩
  rcases h.2 with h2 | ⟨g, cap, cur, h1, h2, h3, h4⟩
  · exact .inl h2
  · refine .inr ⟨g, cap, cur, h1, h2, (hg.block g (blk_lt h3) fun e => ?_).trans h3, h4⟩
    obtain ⟨_, o, ho, hc⟩ := hr g e.symm
    rw [h3] at ho
    cases ho
    cases hc
theorem OR.next {B : Nat} {w w' : World} {v : Value} {l : List Vr} (h : OR B w v l) (hb : Below w.heap.size w w') : OR B w' v l := by
  refine ⟨h.1, ?_⟩
  rcases h.2 with h2 | ⟨g, cap, cur, h1, h2, h3, h4⟩
  · exact .inl h2
  · exact .inr ⟨g, cap, cur, h1, h2, blk_next hb h3, h4⟩
theorem OR.set_other {B : Nat} {w : World} {v : Value} {l : List Vr} (h : OR B w v l) {b : Nat} (hb : b < B) (off : Nat) (x : Value) : OR B (w.setCell ⟨b, off, none⟩ x) v l := by
  refine ⟨h.1, ?_⟩
  rcases h.2 with h2 | ⟨g, cap, cur, h1, h2, h3, h4⟩
  · exact .inl h2
  · exact .inr ⟨g, cap, cur, h1, h2, blk_set_other h3 (by omega) off x, h4⟩
theorem OR.set_ne {B : Nat} {w : World} {v : Value} {l : List Vr} (h : OR B w v l) {b : Nat} {cs : Array Value} {T : TypeId} (hb : w.heap[b]? = some (.cells cs T)) (hT : T ≠ 28) (off : Nat) (x : Value) : OR B (w.setCell ⟨b, off, none⟩ x) v l := by
  refine ⟨h.1, ?_⟩
  rcases h.2 with h2 | ⟨g, cap, cur, h1, h2, h3, h4⟩
  · exact .inl h2
  · refine .inr ⟨g, cap, cur, h1, h2, blk_set_other h3 (fun e => ?_) off x, h4⟩
    subst e
    rw [hb] at h3
    injection h3 with h3
    injection h3 with _ h3
    exact hT h3
theorem infoV : (Try.prog.info? 28).map (fun i => (i.zero, i.size, i.bytes)) = some (some (.agg #[.int .i64 0, .int .i64 0, .int .i64 0, .int .i64 0, .int .i64 0, .int .i64 0, .int .i64 0, .int .i64 0]), 8, 64) := by kernel_rfl
theorem und_vis : Try.prog.underlying 22 = some (.slice 28) := by kernel_rfl
theorem make_vis (n : Nat) (h : n ≤ 1000) (W : World) (k : Int) (hk : k = (n : Int)) : ∃ w', (Instr.makeSlice 22 (.int .i64 0) (.int .i64 k)).run Try.prog W = .ok (.slice (some ⟨W.heap.size, 0, none⟩) 0 n) w' ∧ OR W.heap.size w' (.slice (some ⟨W.heap.size, 0, none⟩) 0 n) [] ∧ Below W.heap.size W w' := by
  subst hk
  obtain ⟨i, hi, hz, hs, hb⟩ := info_parts infoV
  obtain ⟨w', h1, h2, h3⟩ := run_make_own (P := Try.prog) W W.heap.size 22 28 i _ 8 und_vis hi hz hs .i64 .i64 n (by rw [hb]; omega) (by simp [maxLen]; omega) (Nat.le_refl _)
  exact ⟨w', h1, h2, (Below.refl _ W).grown h3 (Nat.le_refl _) (fun k e => by cases e)⟩
theorem wpListIn_app {F : Fence} {n : Nat} {w : World} {ops : Array Oper} {rest : List Oper} {o : Oper} {a : Act} {Q : Exit → Act → World → Prop}
    (hg : o.guard = none) (s x : Operand) (hop : o.op = Op.call { callee := Callee.builtin Builtin.append, args := #[s, x], argTypes := #[22, 22] })
    (B : Nat) (v : Value) (l : List Vr) (hs : a.eval s = v) (A : Option Addr) (m c : Nat) (l2 : List Vr) (hx : a.eval x = .slice A m c)
    (hown : OR B w v l) (hm : l2.length = m) (hr : RT w A l2) (hb : l.length + m ≤ 1000) (hB : B ≤ w.heap.size)
    (hK : ∀ v' w', OR B w' v' (l ++ l2) → Below B w w' → KeepsOthers w w' → wpListIn F n Try.prog ops Q rest (a.put o.dst v') w') : wpListIn F n Try.prog ops Q (o :: rest) a w := by
  subst hm
  refine wpListIn_plain hg fun K hK' => ?_
  obtain ⟨i, hi, hz, hsz, hby⟩ := info_parts infoV
  obtain ⟨v', w', hrun, r1, r2, _⟩ := run_append_rd (P := Try.prog) w B 22 o.type 28 i _ 8 64 und_vis hi hz hsz hby rfl (by decide) v l.length (vrc l) hown A l2.length c (vrc l2) hr (vrc_one l2) (by simp [maxLen]; omega) (by omega) hB
  unfold Oper.wpIn
  refine ⟨?_, ?_⟩
  · simp [Oper.about, hop, resolve, Target.leads, Sem.run_pure]
  · rw [Oper.semAt_plain F _ _ (by rw [hop]; intro c hc'; cases hc')]
    simp [execOp, hop, resolve, invoke, builtin, hs, hx, hrun, Result.andThen]
    refine hK' _ _ (hK v' w' ?_ (hown.grown r2 hB) (hown.keeps r2))
    unfold OR
    rw [List.length_append, vrc_append]; exact r1
theorem blk_B {B : Nat} {W X : World} (h : Below B W X) {b : Nat} {o : Obj} (hb : W.heap[b]? = some o) (hlt : b < B) : X.heap[b]? = some o := (h.block b hlt).trans hb
theorem RT.nextB {B : Nat} {W X : World} {A : Option Addr} {l : List Vr} (h : RT W A l) (hb : Below B W X) (hA : ∀ b off, A = some ⟨b, off, none⟩ → b < B) : RT X A l :=
  ⟨h.1, fun hn => by
    obtain ⟨b, off, e, hl, hc⟩ := h.2 hn
    have hlt := hA b off e
    refine ⟨b, off, e, Nat.lt_of_lt_of_le hl hb.size, fun j u hu => (hb.cell (p := ⟨b, off + j, none⟩) hlt).trans (hc j u hu)⟩⟩
/- a row in a block of its own -/
theorem RT.one {W : World} {b : Nat} {r : Vr} {T : TypeId} (h : W.heap[b]? = some (.cells #[.int .i64 r.t, .int .i64 r.c, .int .i64 r.i, .int .i64 r.j, .int .i64 r.re, .int .i64 r.im, .int .i64 r.dn, .int .i64 r.n] T)) : RT W (some ⟨b, 0, none⟩) [r] := by
  refine ⟨rfl, fun _ => ⟨b, 0, rfl, blk_lt h, fun j u hu => ?_⟩⟩
  refine blk_cell h (0 + j) u ?_
  simpa [vrc, vr8] using hu
theorem vrc_take (l : List Vr) (k : Nat) : vrc (l.take k) = (vrc l).take (k * 8) := by
  induction l generalizing k with
  | nil => simp [vrc]
  | cons r l ih =>
    cases k with
    | zero => simp [vrc]
    | succ k =>
      have e : vrc (r :: l) = vr8 r ++ vrc l := by simp [vrc]
      have e2 : vrc (r :: l.take k) = vr8 r ++ vrc (l.take k) := by simp [vrc]
      rw [List.take_succ_cons, e, e2, ih, List.take_append, List.take_of_length_le (l := vr8 r) (by rw [vr8_len]; omega), vr8_len, show (k + 1) * 8 - 8 = k * 8 by omega]
theorem vrc_drop (l : List Vr) (k : Nat) : vrc (l.drop k) = (vrc l).drop (k * 8) := by
  induction l generalizing k with
  | nil => simp [vrc]
  | cons r l ih =>
    cases k with
    | zero => simp [vrc]
    | succ k =>
      have e : vrc (r :: l) = vr8 r ++ vrc l := by simp [vrc]
      rw [List.drop_succ_cons, e, ih, List.drop_append, List.drop_eq_nil_of_le (show (vr8 r).length ≤ (k + 1) * 8 by rw [vr8_len]; omega), List.nil_append, vr8_len, show (k + 1) * 8 - 8 = k * 8 by omega]
theorem RT.take {W : World} {A : Option Addr} {l : List Vr} (h : RT W A l) {k : Nat} (hk : k ≤ l.length) : RT W A (l.take k) := by
  refine ⟨by rw [vrc_take, List.length_take, h.1, List.length_take]; omega, fun hn => ?_⟩
  obtain ⟨b, off, e, hl, hc⟩ := h.2 (by simp at hn; omega)
  refine ⟨b, off, e, hl, fun j u hu => hc j u ?_⟩
  rw [vrc_take, List.getElem?_take] at hu
  split at hu
  · exact hu
  · cases hu
theorem RT.drop {W : World} {b off : Nat} {l : List Vr} (h : RT W (some ⟨b, off, none⟩) l) {k : Nat} (hk : k ≤ l.length) : RT W (some ⟨b, off + k * 8, none⟩) (l.drop k) := by
  refine ⟨by rw [vrc_drop, List.length_drop, h.1, List.length_drop]; omega, fun hn => ?_⟩
  obtain ⟨b', off', e, hl, hc⟩ := h.2 (by simp at hn; omega)
  injection e with e
  injection e with e1 e2
  subst e1 e2
  refine ⟨b, off + k * 8, rfl, hl, fun j u hu => ?_⟩
  rw [vrc_drop, List.getElem?_drop] at hu
  rw [Nat.add_assoc]
  exact hc (k * 8 + j) u hu
theorem RT.empty (W : World) (A : Option Addr) : RT W A [] := ⟨rfl, fun h => by simp at h⟩
end Go.Proofs.Ytbbnkclajpaghaa
