/- The iterator over the rows of a table. -/
import Derived.Test.YtbbnkclajpaghaaTe
import Derived.Test.YtbbnkclajpaghaaTi
import Derived.Shelf.Abstract
import Derived.Shelf.RegionOpen
import Derived.OwnWalkIn
import Derived.TacticsInMore
import Derived.LoopNIn
import Derived.LoopIn
namespace Go.Proofs.Ytbbnkclajpaghaa
open Go.ChangeShapes Go.WideShapes Go.ChangeAt Go.RowKit
set_option linter.unusedVariables false
attribute [local go_sem] Oper.semAt_some
def zvr : Vr := ⟨0, 0, 0, 0, 0, 0, 0, 0⟩
def rowAt (l : List Vr) (k : Nat) : Vr := l.getD k zvr
theorem rowAt_lt {l : List Vr} {k : Nat} (h : k < l.length) : rowAt l k = l[k] := by simp [rowAt, List.getD, h]
theorem rows_calls (A : Option Addr) (n c : Nat) (w : World) : Calls Try.prog 20 #[.slice A n c] w fun e w' =>
    e = .returned (.func (.func 34) #[] #[.pointer (some ⟨w.heap.size, 0, none⟩)]) ∧ w' = w.alloc (.cells #[.slice A n c] 22) := by
  go_enter Try.func20, Try.ntmps20
  go_wp2
  go_ret
  exact ⟨rfl, rfl⟩
abbrev encR (l : List Vr) (k : Nat) : Array Value := #[.int .i64 (k : Int), Rv (rowAt l k)]
set_option maxRecDepth 100000 in
set_option maxHeartbeats 4000000 in
theorem rows_seq {A : Option Addr} {c n₀ Bt : Nat} {l : List Vr} {w : World} (hl : RT w A l) (hA : ∀ b off, A = some ⟨b, off, none⟩ → b < n₀) (h6 : l.length ≤ 1000000)
    (hn : n₀ ≤ w.heap.size) (hB : w.heap[Bt]? = some (.cells #[.slice A l.length c] 22)) :
    SeqN Try.prog 34 #[.pointer (some ⟨Bt, 0, none⟩)] (encR l) n₀ l.length w := by
  intro lp J Jx W hW hJ hJx hY h0
  have VB := blk_next hW hB
  have HL := Lib.hid (hl.next hW)
  have HA := Lib.hid hA
  have cB := blk_cell VB 0 (.slice A l.length c) rfl
  have lB := blk_lt VB
  clear hl hA hB VB
  refine callsIn_of_wp Try.func34 rfl trivial ?_ rfl
  simp only [Try.ntmps34, List.size_toArray, List.length_cons, List.length_nil, Nat.reduceAdd, Nat.reduceSub, Array.replicate_succ, Array.replicate_zero, List.push_toArray, List.append_toArray, List.nil_append, List.cons_append]
  gi_wp2
  gi_loopw [7] (fun i wr => ∃ k : Nat, k ≤ l.length ∧ i = .int .i64 k ∧ Hid (J k wr) ∧ Hid (Below n₀ W wr) ∧ Hid (W.heap.size ≤ wr.heap.size)) (fun i _ => l.length - (intOf i).toNat)
  case atStart => exact ⟨0, Nat.zero_le _, rfl, Lib.hid h0, Lib.hid (Below.refl _ _), Lib.hid (Nat.le_refl _)⟩
  case round =>
    obtain ⟨k, hk, rfl, hJs, hnx, hsz⟩ := hrel
    by_cases hlt : k < l.length
    · obtain ⟨b, off, hb, hbl, c0, c1, c2, c3, c4, c5, c6, c7⟩ := RT.at_ HL.out hlt
      have bn := HA.out b off hb
      subst hb
      rw [← rowAt_lt hlt] at c0 c1 c2 c3 c4 c5 c6 c7
      replace c0 := (hnx.out.cell (p := ⟨b, off + k * 8, none⟩) bn).trans c0
      replace c1 := (hnx.out.cell (p := ⟨b, off + k * 8 + 1, none⟩) bn).trans c1
      replace c2 := (hnx.out.cell (p := ⟨b, off + k * 8 + 2, none⟩) bn).trans c2
      replace c3 := (hnx.out.cell (p := ⟨b, off + k * 8 + 3, none⟩) bn).trans c3
      replace c4 := (hnx.out.cell (p := ⟨b, off + k * 8 + 4, none⟩) bn).trans c4
      replace c5 := (hnx.out.cell (p := ⟨b, off + k * 8 + 5, none⟩) bn).trans c5
      replace c6 := (hnx.out.cell (p := ⟨b, off + k * 8 + 6, none⟩) bn).trans c6
      replace c7 := (hnx.out.cell (p := ⟨b, off + k * 8 + 7, none⟩) bn).trans c7
      generalize hr : rowAt l k = r at *
      obtain ⟨fn, tmps, assign, body, hy, hR⟩ := hY k (wr.alloc (.cells #[.int .i64 r.t, .int .i64 r.c, .int .i64 r.i, .int .i64 r.j, .int .i64 r.re, .int .i64 r.im, .int .i64 r.dn, .int .i64 r.n] 28)) (hJ k wr _ none hJs.out (World.grownBy_alloc wr _ none) (fun _ e => by cases e)) hlt
      dsimp only [encR] at hy
      rw [hr] at hy
      have hb1 : Below n₀ wr (wr.alloc (.cells #[.int .i64 r.t, .int .i64 r.c, .int .i64 r.i, .int .i64 r.j, .int .i64 r.re, .int .i64 r.im, .int .i64 r.dn, .int .i64 r.n] 28)) := (Below.refl n₀ wr).alloc (by have := hsz.out; have := hW.size; omega) _
      have HX := Lib.hid (hnx.out.trans hb1)
      have HZ : Hid (W.heap.size ≤ (wr.alloc (.cells #[.int .i64 r.t, .int .i64 r.c, .int .i64 r.i, .int .i64 r.j, .int .i64 r.re, .int .i64 r.im, .int .i64 r.dn, .int .i64 r.n] 28)).heap.size) := Lib.hid (by rw [World.size_alloc]; have := hsz.out; omega)
      clear hbl hr hb1
      gi_wp2
      refine ⟨rfl, ?_⟩
      refine hR.mono ?_
      rintro e W3 (⟨rfl, hJ3, hk3⟩ | ⟨rfl, hJx3⟩)
      · gi_wp2
        go_roundw
        case rel => exact ⟨k + 1, by omega, by simp, Lib.hid hJ3, Lib.hid (HX.out.trans hk3), Lib.hid (Nat.le_trans HZ.out hk3.size)⟩
        case measure => simp [intOf]; omega
      · gi_wp2
        refine bodyPost_ret (results_none rfl _ _ _) rfl ?_
        exact ⟨⟨_, rfl⟩, .inr ⟨k, hlt, hJx3⟩⟩
    · have e : k = l.length := by omega
      subst e
      gi_wp2
      go_end0
      exact ⟨⟨_, rfl⟩, .inl hJs.out⟩
end Go.Proofs.Ytbbnkclajpaghaa
