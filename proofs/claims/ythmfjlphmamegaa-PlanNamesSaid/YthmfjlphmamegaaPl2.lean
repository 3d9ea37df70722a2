/- Contracts of layer 43: comparing plans that are the same. -/
import Derived.Test.YthmfjlphmamegaaPlj
import Derived.Test.YthmfjlphmamegaaPls
namespace Go.Proofs.Ythmfjlphmamegaa
open Go.ChangeShapes Go.WideShapes Go.ChangeAt Go.RowKit
set_option linter.unusedVariables false

set_option maxHeartbeats 2000000 in
set_option maxRecDepth 100000 in
theorem same_calls (a : Option Addr) (cap : Nat) (l : List Slt) (a' : Option Addr) (cap' : Nat) (rs : List Rul) (b : Option Addr) (dap : Nat) (b' : Option Addr) (dap' : Nat) (w : World) (hn : l.length ≤ cap) (hcap : cap ≤ 9223372036854775807) (hs : SlotsIn w a l)
    (hn' : rs.length ≤ cap') (hcap' : cap' ≤ 9223372036854775807) (hr : RulesIn w a' rs) (hm : l.length ≤ dap) (hdap : dap ≤ 9223372036854775807) (ht : SlotsIn w b l) (hm' : rs.length ≤ dap') (hdap' : dap' ≤ 9223372036854775807) (hu : RulesIn w b' rs) :
    Calls Try.prog 28 #[Pv a l.length cap a' rs.length cap', Pv b l.length dap b' rs.length dap'] w fun e w' => e = .returned (.bool true) ∧ Below w.heap.size w w' := by
  have HB : Hid (Below w.heap.size w ((w.alloc (.cells #[.slice a l.length cap, .slice a' rs.length cap'] 25)).alloc (.cells #[.slice b l.length dap, .slice b' rs.length dap'] 25))) := Lib.hid (Bal (Bal (Below.refl _ _) _) _)
  have HS := Lib.hid hs
  have HR := Lib.hid hr
  have HT := Lib.hid ht
  have HU := Lib.hid hu
  clear hs hr ht hu
  have hne : (((l.length : Nat) : Int) != ((l.length : Nat) : Int)) = false := by simp
  have hne' : (((rs.length : Nat) : Int) != ((rs.length : Nat) : Int)) = false := by simp
  go_enter Try.func28, Try.ntmps28
  go_wp2_with fail
  have x0 : ((w.alloc (.cells #[.slice a l.length cap, .slice a' rs.length cap'] 25)).alloc (.cells #[.slice b l.length dap, .slice b' rs.length dap'] 25)).heap[w.heap.size]? = some (.cells #[.slice a l.length cap, .slice a' rs.length cap'] 25) := blk_alloc (blk_new w _) _
  have x1 : ((w.alloc (.cells #[.slice a l.length cap, .slice a' rs.length cap'] 25)).alloc (.cells #[.slice b l.length dap, .slice b' rs.length dap'] 25)).heap[w.heap.size + 1]? = some (.cells #[.slice b l.length dap, .slice b' rs.length dap'] 25) := blk_at _ (by simp)
  generalize (w.alloc (.cells #[.slice a l.length cap, .slice a' rs.length cap'] 25)).alloc (.cells #[.slice b l.length dap, .slice b' rs.length dap'] 25) = W at *
  have p0 : W.cell? ⟨w.heap.size, 0, none⟩ = some (.slice a l.length cap) := blk_cell x0 0 _ rfl
  have p1 : W.cell? ⟨w.heap.size, 1, none⟩ = some (.slice a' rs.length cap') := blk_cell x0 1 _ rfl
  have q0 : W.cell? ⟨w.heap.size + 1, 0, none⟩ = some (.slice b l.length dap) := blk_cell x1 0 _ rfl
  have q1 : W.cell? ⟨w.heap.size + 1, 1, none⟩ = some (.slice b' rs.length dap') := blk_cell x1 1 _ rfl
  clear x0 x1
  go_wp2_with fail
  go_loopw [5] (fun i wr => ∃ k n : Nat, k ≤ l.length ∧ i = .int .i64 k ∧ wr = W.drewN n) (fun i _ => l.length - (intOf i).toNat)
  case atStart => exact ⟨0, 0, by omega, rfl, rfl⟩
  case round =>
    obtain ⟨k, n, hk, rfl, rfl⟩ := hrel
    by_cases hlt : k < l.length
    · obtain ⟨b1, o1, rfl, _, c0, c1, c2, c3⟩ := (HS.out.next HB.out) k hlt
      obtain ⟨b2, o2, rfl, _, d0, d1, d2, d3⟩ := (HT.out.next HB.out) k hlt
      have km0 : (0 : Int) ≤ (k : Int) := by omega
      have km1 : (k : Int) < (l.length : Int) := by omega
      go_wp2_with fail
      go_quiet (fail)
      go_wp2_with fail
      exact ⟨⟨k + 1, n + nq, by omega, by go_num, by first | rfl | rw [World.drewN_drewN]⟩, by simp [intOf]; omega⟩
    · obtain rfl : k = l.length := by omega
      go_wp2_with fail
      go_loopw [6] (fun i wr => ∃ k n : Nat, k ≤ rs.length ∧ i = .int .i64 k ∧ wr = W.drewN n) (fun i _ => rs.length - (intOf i).toNat)
      case atStart => exact ⟨0, n, by omega, rfl, rfl⟩
      case round =>
        obtain ⟨k, n, hk, rfl, rfl⟩ := hrel
        by_cases hlt : k < rs.length
        · obtain ⟨b1, o1, rfl, _, c0, c1, c2, c3, c4, c5⟩ := (HR.out.next HB.out) k hlt
          obtain ⟨b2, o2, rfl, _, d0, d1, d2, d3, d4, d5⟩ := (HU.out.next HB.out) k hlt
          have km0 : (0 : Int) ≤ (k : Int) := by omega
          have km1 : (k : Int) < (rs.length : Int) := by omega
          go_wp2_with fail
          go_quiet (fail)
          go_wp2_with fail
          exact ⟨⟨k + 1, n + nq, by omega, by go_num, by first | rfl | rw [World.drewN_drewN]⟩, by simp [intOf]; omega⟩
        · obtain rfl : k = rs.length := by omega
          go_wp2_with fail
          go_ret
          exact ⟨rfl, below_drewN HB.out n⟩
end Go.Proofs.Ythmfjlphmamegaa
