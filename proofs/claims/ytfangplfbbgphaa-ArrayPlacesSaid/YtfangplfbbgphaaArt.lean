/- The iterator over the pairs of stations. -/
import Derived.Test.YtfangplfbbgphaaAri
import Derived.Test.YtfangplfbbgphaaArk
import Derived.Shelf.Abstract
import Derived.Shelf.RegionOpen
import Derived.OwnWalkIn
import Derived.TacticsInMore
import Derived.LoopNIn
import Derived.LoopIn
namespace Go.Proofs.Ytfangplfbbgphaa
open Go.ChangeShapes Go.WideShapes Go.ChangeAt Go.RowKit
set_option linter.unusedVariables false
set_option linter.unusedSimpArgs false
attribute [local go_sem] Oper.semAt_some
theorem pairs_calls (n : Int) (w : World) : Calls Try.prog 22 #[.int .i64 n] w fun e w' =>
    e = .returned (.func (.func 38) #[] #[.pointer (some ⟨w.heap.size, 0, none⟩)]) ∧ w' = w.alloc (.cells #[.int .i64 n] 3) := by
  go_enter Try.func22, Try.ntmps22
  go_wp2
  go_ret
  exact ⟨rfl, rfl⟩
def prAt (n k : Nat) : Nat × Nat := (prs n).getD k (0, 0)
abbrev encP (n k : Nat) : Array Value := #[.agg #[.int .i64 ((prAt n k).1 : Int), .int .i64 ((prAt n k).2 : Int)]]
set_option maxRecDepth 100000 in
set_option maxHeartbeats 4000000 in
theorem pairs_seq {n₀ n Bt : Nat} {w : World} (h8 : n < 9) (hn : n₀ ≤ w.heap.size) :
    SeqK Try.prog 38 #[.pointer (some ⟨Bt, 0, none⟩)] (encP n) n₀ (prs n).length (fun W => W.heap[Bt]? = some (.cells #[.int .i64 (n : Int)] 3)) w := by
  intro lp J Jx W hW hJ hJx hKp hY h0
  obtain ⟨p0, pl, pa⟩ := pix_all h8
  have P0 := Lib.hid p0
  have PL := Lib.hid pl
  have PA := Lib.hid pa
  have KP := Lib.hid hKp
  clear p0 pl pa hKp
  have J0 : Hid (J (pix n 0 1) W) := Lib.hid (by rw [P0.out]; exact h0)
  have VB := Lib.hid (KP.out 0 W h0)
  have cB := blk_cell VB.out 0 (.int .i64 (n : Int)) rfl
  have lB := blk_lt VB.out
  clear h0 P0
  refine callsIn_of_wp Try.func38 rfl trivial ?_ rfl
  simp only [Try.ntmps38, List.size_toArray, List.length_cons, List.length_nil, Nat.reduceAdd, Nat.reduceSub, Array.replicate_succ, Array.replicate_zero, List.push_toArray, List.append_toArray, List.nil_append, List.cons_append]
  gi_wp2
  clear cB lB VB
  gi_loopw [6] (fun i wr => ∃ k : Nat, k ≤ n ∧ i = .int .i64 k ∧ Hid (J (pix n k (k + 1)) wr) ∧ Hid (Below n₀ W wr) ∧ Hid (W.heap.size ≤ wr.heap.size)) (fun i _ => n - (intOf i).toNat)
  case atStart => exact ⟨0, Nat.zero_le _, rfl, J0, Lib.hid (Below.refl _ _), Lib.hid (Nat.le_refl _)⟩
  case round =>
    clear J0
    obtain ⟨k, hk, rfl, hJs, hnx, hsz⟩ := hrel
    by_cases hlt : k < n
    · have hlt' := Lib.hid hlt
      gi_wp2
      gi_loopw [4] (fun i wr => ∃ j : Nat, k + 1 ≤ j ∧ j ≤ n ∧ i = .int .i64 j ∧ Hid (J (pix n k j) wr) ∧ Hid (Below n₀ W wr) ∧ Hid (W.heap.size ≤ wr.heap.size)) (fun i _ => n - (intOf i).toNat)
      case atStart => exact ⟨k + 1, Nat.le_refl _, hlt, by simp, hJs, hnx, hsz⟩
      case round =>
        clear hJs hnx hsz
        obtain ⟨j, hj1, hj2, rfl, hJs, hnx, hsz⟩ := hrel
        have VB := Lib.hid (KP.out _ _ hJs.out)
        have cB := blk_cell VB.out 0 (.int .i64 (n : Int)) rfl
        have lB := blk_lt VB.out
        by_cases hjn : j < n
        · obtain ⟨h1, h2⟩ := (PA.out k hlt'.out).2.2 j hjn (by omega)
          have hkl : pix n k j < (prs n).length := get_lt h1
          have hpa : prAt n (pix n k j) = (k, j) := by unfold prAt; rw [List.getD_eq_getElem?_getD, h1]; rfl
          obtain ⟨fn, tmps, assign, body, hy, hR⟩ := hY (pix n k j) _ hJs.out hkl
          dsimp only [encP] at hy
          rw [hpa] at hy
          have H2 := Lib.hid h2
          have HKL := Lib.hid hkl
          clear h1 h2 hpa hkl
          gi_wp2
          refine ⟨rfl, ?_⟩
          refine hR.mono ?_
          rintro e W3 (⟨rfl, hJ3, hk3⟩ | ⟨rfl, hJx3⟩)
          · gi_wp2
            go_roundw
            case rel => exact ⟨j + 1, by omega, by omega, by simp, Lib.hid (by rw [H2.out]; exact hJ3), Lib.hid (hnx.out.trans hk3), Lib.hid (Nat.le_trans hsz.out hk3.size)⟩
            case measure => simp [intOf]; omega
          · gi_wp2
            refine bodyPost_ret (results_none rfl _ _ _) rfl ?_
            exact ⟨⟨_, rfl⟩, .inr ⟨_, HKL.out, hJx3⟩⟩
        · obtain rfl : j = n := by omega
          gi_wp2
          go_roundw
          case rel => exact ⟨k + 1, by have := hlt'.out; omega, by simp, Lib.hid (by rw [← (PA.out k hlt'.out).1]; exact hJs.out), hnx, hsz⟩
          case measure => have := hlt'.out; simp [intOf]; omega
    · obtain rfl : k = n := by omega
      gi_wp2
      go_end0
      exact ⟨⟨_, rfl⟩, .inl (by rw [← PL.out]; exact hJs.out)⟩
end Go.Proofs.Ytfangplfbbgphaa
