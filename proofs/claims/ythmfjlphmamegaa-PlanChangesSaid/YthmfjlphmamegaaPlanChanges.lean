/- For every input the law PlanChanges returns true and leaves its arguments as they were. -/
import Derived.Test.YthmfjlphmamegaaRows
import Derived.Test.YthmfjlphmamegaaPl5
import Derived.WalkKit
import Derived.ProofKit
import Derived.OpenShut
import Derived.ShutString
import Derived.ChangeOld
import Derived.Below
import Derived.Lib.SmallJoins
namespace Go.Proofs.Ythmfjlphmamegaa.planChanges
open Go.ChangeShapes Go.WideShapes Go.ChangeAt Go.RowKit Go.Joins
open Go.ChangeMaps (open_string shut_string)
set_option linter.unusedVariables false

theorem own : ownKnob Try.prog.godebug = none := by kernel_rfl
theorem laidOut : laidOutB Try.prog = true := by kernel_rfl
theorem only_set {a w : World} {row : Option Nat} (h : a.grownBy w row) {p : Addr} (hp : row = some p.block) (u : Value) : a.grownBy (w.setCell p u) row :=
  ⟨h.os, h.tape, h.output, by simpa [World.setCell] using h.size, fun i hi hne => (Below.heap_setCell w p u i (by rintro rfl; exact hne hp.symm)).trans (h.block i hi hne)⟩
theorem own_far {v v' : Value} {a b c d : Nat} (h : ∀ q, v.ownBlock = some q → a ≤ q ∧ q < b) (h' : ∀ q, v'.ownBlock = some q → c ≤ q ∧ q < d) (hbc : b ≤ c) : v.ownBlock = none ∨ v.ownBlock ≠ v'.ownBlock := by
  cases hv : v.ownBlock with
  | none => exact .inl rfl
  | some q =>
    refine .inr (fun hh => ?_)
    have h1 := h q hv
    have h2 := h' q hh.symm
    omega
attribute [local go_sem ↓] Go.wp_at_zero Go.wp_at_succ
set_option maxHeartbeats 16000000 in
set_option maxRecDepth 100000 in
theorem walk (a : Option Addr) (cap : Nat) (l : List Slt) (a' : Option Addr) (cap' : Nat) (rs : List Rul) (w : World) (hn : l.length ≤ cap) (hcap : cap ≤ 9223372036854775807) (hs : SlotsIn w a l)
    (hn' : rs.length ≤ cap') (hcap' : cap' ≤ 9223372036854775807) (hr : RulesIn w a' rs) (rule : Int) (why : ByteArray) (hwhy : why.size ≤ 9223372036854775807) (s : Slt) :
    Calls Try.prog 4 #[Pv a l.length cap a' rs.length cap', .int .i64 rule, .string why, Sv s] w fun e w' => e = .returned (.bool true) ∧ Below w.heap.size w w' := by
  have HS := Lib.hid hs
  have HR := Lib.hid hr
  clear hs hr
  have K0 := Lib.hid (fun (W : World) (hW : Below w.heap.size w W) => great_calls a cap l a' cap' rs W hn hcap (HS.out.next hW) hn' hcap' (HR.out.next hW))
  have K1 := Lib.hid (fun (W : World) (hW : Below w.heap.size w W) (h30 : l.length ≤ 30) (h30x : rs.length ≤ 30) => twin_calls a cap l a' cap' rs W hn hcap (HS.out.next hW) hn' hcap' (HR.out.next hW) h30 h30x)
  have K2 := Lib.hid (fun (W : World) (hW : Below w.heap.size w W) => override_calls a cap l a' cap' rs W hn hcap (HS.out.next hW) hn' hcap' (HR.out.next hW) rule why hwhy)
  have K3 := Lib.hid (fun (W : World) (hW : Below w.heap.size w W) => refOverride_calls a cap l a' cap' rs W hn hcap (HS.out.next hW) hn' hcap' (HR.out.next hW) rule why hwhy)
  have K4 := Lib.hid (fun (W : World) (hW : Below w.heap.size w W) => add_calls a cap l a' cap' rs W hn hcap (HS.out.next hW) hn' hcap' (HR.out.next hW) s)
  have K5 := Lib.hid (fun (W : World) (hW : Below w.heap.size w W) => refAdd_calls a cap l a' cap' rs W hn hcap (HS.out.next hW) hn' hcap' (HR.out.next hW) s)
  have K6 := Lib.hid (fun (W : World) (hW : Below w.heap.size w W) => earliest_calls a cap l a' cap' rs W hn hcap (HS.out.next hW) hn' hcap' (HR.out.next hW) s)
  have K7 := Lib.hid (fun (W : World) (hW : Below w.heap.size w W) => refEarliest_calls a cap l a' cap' rs W hn hcap (HS.out.next hW) hn' hcap' (HR.out.next hW) s)
  generalize ovL l rs rule why = OL at *
  generalize ovRs l rs rule why = OR at *
  generalize ovE l rs rule why = OE at *
  generalize adL l rs s = AL at *
  generalize adR l rs s = AR at *
  generalize adE l rs s = AE at *
  generalize eaV l rs s = EV at *
  go_enter Try.func4, Try.ntmps4
  go_wp2_with fail
  refine (K0.out _ (Bal (Bal (Below.refl _ _) _) _)).mono ?_
  rintro e w0 ⟨g, rfl, hg, hb⟩
  have P0 : Hid (w0.heap[w.heap.size]? = some (.cells #[.slice a l.length cap, .slice a' rs.length cap'] 25)) := Lib.hid (blk_next hb (blk1 w _ _))
  have S0 : Hid (w0.heap[w.heap.size + 1]? = some (.cells #[.string s.name, .int .i64 s.st, .int .i64 s.fr, .int .i64 s.to] 47)) := Lib.hid (blk_next hb (blk2 w _ _))
  have N0 : Hid (Below w.heap.size w w0) := Lib.hid (Bgo (Bal (Bal (Below.refl _ _) _) _) hb)
  clear hb K0
  have U0 : w.heap.size + 2 ≤ w0.heap.size := blk_lt S0.out
  have p0 : w0.cell? ⟨w.heap.size, 0, none⟩ = some (.slice a l.length cap) := blk_cell P0.out 0 _ rfl
  have p1 : w0.cell? ⟨w.heap.size, 1, none⟩ = some (.slice a' rs.length cap') := blk_cell P0.out 1 _ rfl
  have s0 : w0.cell? ⟨w.heap.size + 1, 0, none⟩ = some (.string s.name) := blk_cell S0.out 0 _ rfl
  have s1 : w0.cell? ⟨w.heap.size + 1, 1, none⟩ = some (.int .i64 s.st) := blk_cell S0.out 1 _ rfl
  have s2 : w0.cell? ⟨w.heap.size + 1, 2, none⟩ = some (.int .i64 s.fr) := blk_cell S0.out 2 _ rfl
  have s3 : w0.cell? ⟨w.heap.size + 1, 3, none⟩ = some (.int .i64 s.to) := blk_cell S0.out 3 _ rfl
  have xl := blk_lt S0.out
  have xl0 := blk_lt P0.out
  cases g
  case true =>
    go_wp2_with fail
    go_ret
    exact ⟨rfl, N0.out⟩
  obtain ⟨h30, h30'⟩ := hg rfl
  clear hg
  by_cases hy : 100 < why.size
  · go_wp2_with fail
    go_ret
    exact ⟨rfl, N0.out⟩
  by_cases hz : 100 < s.name.size
  · go_wp2_with fail
    go_ret
    exact ⟨rfl, N0.out⟩
  go_wp2_with fail
  clear p0 p1 s0 s1 s2 s3 xl xl0
  refine (K1.out _ N0.out h30 h30').mono ?_
  rintro e w1 ⟨v1, v2, rfl, o1, o2, hb⟩
  obtain ⟨A1, c1, rfl, y1, z1, _⟩ := Rd.of_own o1
  obtain ⟨B1, d1, rfl, y1', z1', _⟩ := Rd.of_own o2
  have P1 : Hid (w1.heap[w.heap.size]? = some (.cells #[.slice a l.length cap, .slice a' rs.length cap'] 25)) := Lib.hid (blk_next hb P0.out)
  have S1 : Hid (w1.heap[w.heap.size + 1]? = some (.cells #[.string s.name, .int .i64 s.st, .int .i64 s.fr, .int .i64 s.to] 47)) := Lib.hid (blk_next hb S0.out)
  have N1 : Hid (Below w.heap.size w w1) := Lib.hid (Bgo N0.out hb)
  have U1 : w0.heap.size ≤ w1.heap.size := by have := hb.size; omega
  clear P0 S0 N0
  have RS1x1 : Hid (w1.ownsRow w0.heap.size 47 4 (.slice A1 l.length c1) l.length (slc l)) := Lib.hid (o1.mono (Nat.le_refl _))
  have RR1x1 : Hid (w1.ownsRow w0.heap.size 61 6 (.slice B1 rs.length d1) rs.length (rlc rs)) := Lib.hid (o2.mono (Nat.le_refl _))
  have LTW1 : Hid (∀ q, (Value.slice A1 l.length c1).ownBlock = some q → w.heap.size + 2 ≤ q ∧ q < w1.heap.size) := Lib.hid (fun q h => by have := o1.lt q h; omega)
  have LTW2 : Hid (∀ q, (Value.slice B1 rs.length d1).ownBlock = some q → w.heap.size + 2 ≤ q ∧ q < w1.heap.size) := Lib.hid (fun q h => by have := o2.lt q h; omega)
  clear o1 o2
  clear hb
  have p0 : w1.cell? ⟨w.heap.size, 0, none⟩ = some (.slice a l.length cap) := blk_cell P1.out 0 _ rfl
  have p1 : w1.cell? ⟨w.heap.size, 1, none⟩ = some (.slice a' rs.length cap') := blk_cell P1.out 1 _ rfl
  have s0 : w1.cell? ⟨w.heap.size + 1, 0, none⟩ = some (.string s.name) := blk_cell S1.out 0 _ rfl
  have s1 : w1.cell? ⟨w.heap.size + 1, 1, none⟩ = some (.int .i64 s.st) := blk_cell S1.out 1 _ rfl
  have s2 : w1.cell? ⟨w.heap.size + 1, 2, none⟩ = some (.int .i64 s.fr) := blk_cell S1.out 2 _ rfl
  have s3 : w1.cell? ⟨w.heap.size + 1, 3, none⟩ = some (.int .i64 s.to) := blk_cell S1.out 3 _ rfl
  have xl := blk_lt S1.out
  have xl0 := blk_lt P1.out
  go_wp2_with fail
  clear p0 p1 s0 s1 s2 s3 xl xl0
  refine (K2.out _ (Bal N1.out _)).mono ?_
  rintro e w2 ⟨v1, v2, rfl, o1, o2, hb⟩
  obtain ⟨A2, c2, rfl, y2, z2, _⟩ := Rd.of_own o1
  obtain ⟨B2, d2, rfl, y2', z2', _⟩ := Rd.of_own o2
  have P2 : Hid (w2.heap[w.heap.size]? = some (.cells #[.slice a l.length cap, .slice a' rs.length cap'] 25)) := Lib.hid (blk_next hb (blk_alloc P1.out _))
  have S2 : Hid (w2.heap[w.heap.size + 1]? = some (.cells #[.string s.name, .int .i64 s.st, .int .i64 s.fr, .int .i64 s.to] 47)) := Lib.hid (blk_next hb (blk_alloc S1.out _))
  have X1_2 : Hid (w2.heap[w1.heap.size]? = some (.cells #[.slice A1 l.length c1, .slice B1 rs.length d1] 25)) := Lib.hid (blk_next hb (blk_new w1 _))
  have RS1x2 : Hid (w2.ownsRow w0.heap.size 47 4 (.slice A1 l.length c1) l.length (slc l)) := Lib.hid (own_next hb (RS1x1.out.alloc _))
  have RR1x2 : Hid (w2.ownsRow w0.heap.size 61 6 (.slice B1 rs.length d1) rs.length (rlc rs)) := Lib.hid (own_next hb (RR1x1.out.alloc _))
  have N2 : Hid (Below w.heap.size w w2) := Lib.hid (Bgo (Bal N1.out _) hb)
  have U2 : w1.heap.size + 1 ≤ w2.heap.size := by have := hb.size; simp at this; omega
  clear P1 S1 RS1x1 RR1x1 N1
  have RS2x2 : Hid (w2.ownsRow w1.heap.size 47 4 (.slice A2 OL.length c2) OL.length (slc OL)) := Lib.hid (o1.mono (by simp))
  have RR2x2 : Hid (w2.ownsRow w1.heap.size 61 6 (.slice B2 OR.length d2) OR.length (rlc OR)) := Lib.hid (o2.mono (by simp))
  have HLT2 : Hid (∀ q, (Value.slice B2 OR.length d2).ownBlock = some q → w1.heap.size + 1 ≤ q ∧ q < w2.heap.size) := Lib.hid (fun q h => by have := o2.lt q h; simp at this; omega)
  clear o1 o2
  clear hb
  have p0 : w2.cell? ⟨w.heap.size, 0, none⟩ = some (.slice a l.length cap) := blk_cell P2.out 0 _ rfl
  have p1 : w2.cell? ⟨w.heap.size, 1, none⟩ = some (.slice a' rs.length cap') := blk_cell P2.out 1 _ rfl
  have s0 : w2.cell? ⟨w.heap.size + 1, 0, none⟩ = some (.string s.name) := blk_cell S2.out 0 _ rfl
  have s1 : w2.cell? ⟨w.heap.size + 1, 1, none⟩ = some (.int .i64 s.st) := blk_cell S2.out 1 _ rfl
  have s2 : w2.cell? ⟨w.heap.size + 1, 2, none⟩ = some (.int .i64 s.fr) := blk_cell S2.out 2 _ rfl
  have s3 : w2.cell? ⟨w.heap.size + 1, 3, none⟩ = some (.int .i64 s.to) := blk_cell S2.out 3 _ rfl
  have xl := blk_lt S2.out
  have xl0 := blk_lt P2.out
  go_wp2_with fail
  clear p0 p1 s0 s1 s2 s3 xl xl0
  refine (K3.out _ (Bal N2.out _)).mono ?_
  rintro e w3 ⟨v1, v2, rfl, o1, o2, hb⟩
  obtain ⟨A3, c3, rfl, y3, z3, _⟩ := Rd.of_own o1
  obtain ⟨B3, d3, rfl, y3', z3', _⟩ := Rd.of_own o2
  have P3 : Hid (w3.heap[w.heap.size]? = some (.cells #[.slice a l.length cap, .slice a' rs.length cap'] 25)) := Lib.hid (blk_next hb (blk_alloc P2.out _))
  have S3 : Hid (w3.heap[w.heap.size + 1]? = some (.cells #[.string s.name, .int .i64 s.st, .int .i64 s.fr, .int .i64 s.to] 47)) := Lib.hid (blk_next hb (blk_alloc S2.out _))
  have X1_3 : Hid (w3.heap[w1.heap.size]? = some (.cells #[.slice A1 l.length c1, .slice B1 rs.length d1] 25)) := Lib.hid (blk_next hb (blk_alloc X1_2.out _))
  have X2_3 : Hid (w3.heap[w2.heap.size]? = some (.cells #[.slice A2 OL.length c2, .slice B2 OR.length d2] 25)) := Lib.hid (blk_next hb (blk_new w2 _))
  have RS1x3 : Hid (w3.ownsRow w0.heap.size 47 4 (.slice A1 l.length c1) l.length (slc l)) := Lib.hid (own_next hb (RS1x2.out.alloc _))
  have RR1x3 : Hid (w3.ownsRow w0.heap.size 61 6 (.slice B1 rs.length d1) rs.length (rlc rs)) := Lib.hid (own_next hb (RR1x2.out.alloc _))
  have RS2x3 : Hid (w3.ownsRow w1.heap.size 47 4 (.slice A2 OL.length c2) OL.length (slc OL)) := Lib.hid (own_next hb (RS2x2.out.alloc _))
  have RR2x3 : Hid (w3.ownsRow w1.heap.size 61 6 (.slice B2 OR.length d2) OR.length (rlc OR)) := Lib.hid (own_next hb (RR2x2.out.alloc _))
  have N3 : Hid (Below w.heap.size w w3) := Lib.hid (Bgo (Bal N2.out _) hb)
  have U3 : w2.heap.size + 1 ≤ w3.heap.size := by have := hb.size; simp at this; omega
  clear P2 S2 X1_2 RS1x2 RR1x2 RS2x2 RR2x2 N2
  have RS3x3 : Hid (w3.ownsRow w2.heap.size 47 4 (.slice A3 OL.length c3) OL.length (slc OL)) := Lib.hid (o1.mono (by simp))
  have RR3x3 : Hid (w3.ownsRow w2.heap.size 61 6 (.slice B3 OR.length d3) OR.length (rlc OR)) := Lib.hid (o2.mono (by simp))
  clear o1 o2
  clear hb
  have p0 : w3.cell? ⟨w.heap.size, 0, none⟩ = some (.slice a l.length cap) := blk_cell P3.out 0 _ rfl
  have p1 : w3.cell? ⟨w.heap.size, 1, none⟩ = some (.slice a' rs.length cap') := blk_cell P3.out 1 _ rfl
  have s0 : w3.cell? ⟨w.heap.size + 1, 0, none⟩ = some (.string s.name) := blk_cell S3.out 0 _ rfl
  have s1 : w3.cell? ⟨w.heap.size + 1, 1, none⟩ = some (.int .i64 s.st) := blk_cell S3.out 1 _ rfl
  have s2 : w3.cell? ⟨w.heap.size + 1, 2, none⟩ = some (.int .i64 s.fr) := blk_cell S3.out 2 _ rfl
  have s3 : w3.cell? ⟨w.heap.size + 1, 3, none⟩ = some (.int .i64 s.to) := blk_cell S3.out 3 _ rfl
  have xl := blk_lt S3.out
  have xl0 := blk_lt P3.out
  go_wp2_with fail
  clear p0 p1 s0 s1 s2 s3 xl xl0
  refine (K4.out _ (Bal N3.out _)).mono ?_
  rintro e w4 ⟨v1, v2, rfl, o1, o2, hb⟩
  obtain ⟨A4, c4, rfl, y4, z4, _⟩ := Rd.of_own o1
  obtain ⟨B4, d4, rfl, y4', z4', _⟩ := Rd.of_own o2
  have P4 : Hid (w4.heap[w.heap.size]? = some (.cells #[.slice a l.length cap, .slice a' rs.length cap'] 25)) := Lib.hid (blk_next hb (blk_alloc P3.out _))
  have S4 : Hid (w4.heap[w.heap.size + 1]? = some (.cells #[.string s.name, .int .i64 s.st, .int .i64 s.fr, .int .i64 s.to] 47)) := Lib.hid (blk_next hb (blk_alloc S3.out _))
  have X1_4 : Hid (w4.heap[w1.heap.size]? = some (.cells #[.slice A1 l.length c1, .slice B1 rs.length d1] 25)) := Lib.hid (blk_next hb (blk_alloc X1_3.out _))
  have X2_4 : Hid (w4.heap[w2.heap.size]? = some (.cells #[.slice A2 OL.length c2, .slice B2 OR.length d2] 25)) := Lib.hid (blk_next hb (blk_alloc X2_3.out _))
  have X3_4 : Hid (w4.heap[w3.heap.size]? = some (.cells #[.slice A3 OL.length c3, .slice B3 OR.length d3] 25)) := Lib.hid (blk_next hb (blk_new w3 _))
  have RS1x4 : Hid (w4.ownsRow w0.heap.size 47 4 (.slice A1 l.length c1) l.length (slc l)) := Lib.hid (own_next hb (RS1x3.out.alloc _))
  have RR1x4 : Hid (w4.ownsRow w0.heap.size 61 6 (.slice B1 rs.length d1) rs.length (rlc rs)) := Lib.hid (own_next hb (RR1x3.out.alloc _))
  have RS2x4 : Hid (w4.ownsRow w1.heap.size 47 4 (.slice A2 OL.length c2) OL.length (slc OL)) := Lib.hid (own_next hb (RS2x3.out.alloc _))
  have RR2x4 : Hid (w4.ownsRow w1.heap.size 61 6 (.slice B2 OR.length d2) OR.length (rlc OR)) := Lib.hid (own_next hb (RR2x3.out.alloc _))
  have RS3x4 : Hid (w4.ownsRow w2.heap.size 47 4 (.slice A3 OL.length c3) OL.length (slc OL)) := Lib.hid (own_next hb (RS3x3.out.alloc _))
  have RR3x4 : Hid (w4.ownsRow w2.heap.size 61 6 (.slice B3 OR.length d3) OR.length (rlc OR)) := Lib.hid (own_next hb (RR3x3.out.alloc _))
  have N4 : Hid (Below w.heap.size w w4) := Lib.hid (Bgo (Bal N3.out _) hb)
  have U4 : w3.heap.size + 1 ≤ w4.heap.size := by have := hb.size; simp at this; omega
  clear P3 S3 X1_3 X2_3 RS1x3 RR1x3 RS2x3 RR2x3 RS3x3 RR3x3 N3
  have RS4x4 : Hid (w4.ownsRow w3.heap.size 47 4 (.slice A4 AL.length c4) AL.length (slc AL)) := Lib.hid (o1.mono (by simp))
  have RR4x4 : Hid (w4.ownsRow w3.heap.size 61 6 (.slice B4 AR.length d4) AR.length (rlc AR)) := Lib.hid (o2.mono (by simp))
  have HLT4 : Hid (∀ q, (Value.slice A4 AL.length c4).ownBlock = some q → w3.heap.size + 1 ≤ q ∧ q < w4.heap.size) := Lib.hid (fun q h => by have := o1.lt q h; simp at this; omega)
  clear o1 o2
  clear hb
  have p0 : w4.cell? ⟨w.heap.size, 0, none⟩ = some (.slice a l.length cap) := blk_cell P4.out 0 _ rfl
  have p1 : w4.cell? ⟨w.heap.size, 1, none⟩ = some (.slice a' rs.length cap') := blk_cell P4.out 1 _ rfl
  have s0 : w4.cell? ⟨w.heap.size + 1, 0, none⟩ = some (.string s.name) := blk_cell S4.out 0 _ rfl
  have s1 : w4.cell? ⟨w.heap.size + 1, 1, none⟩ = some (.int .i64 s.st) := blk_cell S4.out 1 _ rfl
  have s2 : w4.cell? ⟨w.heap.size + 1, 2, none⟩ = some (.int .i64 s.fr) := blk_cell S4.out 2 _ rfl
  have s3 : w4.cell? ⟨w.heap.size + 1, 3, none⟩ = some (.int .i64 s.to) := blk_cell S4.out 3 _ rfl
  have xl := blk_lt S4.out
  have xl0 := blk_lt P4.out
  go_wp2_with fail
  clear p0 p1 s0 s1 s2 s3 xl xl0
  refine (K5.out _ (Bal N4.out _)).mono ?_
  rintro e w5 ⟨v1, v2, rfl, o1, o2, hb⟩
  obtain ⟨A5, c5, rfl, y5, z5, _⟩ := Rd.of_own o1
  obtain ⟨B5, d5, rfl, y5', z5', _⟩ := Rd.of_own o2
  have P5 : Hid (w5.heap[w.heap.size]? = some (.cells #[.slice a l.length cap, .slice a' rs.length cap'] 25)) := Lib.hid (blk_next hb (blk_alloc P4.out _))
  have S5 : Hid (w5.heap[w.heap.size + 1]? = some (.cells #[.string s.name, .int .i64 s.st, .int .i64 s.fr, .int .i64 s.to] 47)) := Lib.hid (blk_next hb (blk_alloc S4.out _))
  have X1_5 : Hid (w5.heap[w1.heap.size]? = some (.cells #[.slice A1 l.length c1, .slice B1 rs.length d1] 25)) := Lib.hid (blk_next hb (blk_alloc X1_4.out _))
  have X2_5 : Hid (w5.heap[w2.heap.size]? = some (.cells #[.slice A2 OL.length c2, .slice B2 OR.length d2] 25)) := Lib.hid (blk_next hb (blk_alloc X2_4.out _))
  have X3_5 : Hid (w5.heap[w3.heap.size]? = some (.cells #[.slice A3 OL.length c3, .slice B3 OR.length d3] 25)) := Lib.hid (blk_next hb (blk_alloc X3_4.out _))
  have X4_5 : Hid (w5.heap[w4.heap.size]? = some (.cells #[.slice A4 AL.length c4, .slice B4 AR.length d4] 25)) := Lib.hid (blk_next hb (blk_new w4 _))
  have RS1x5 : Hid (w5.ownsRow w0.heap.size 47 4 (.slice A1 l.length c1) l.length (slc l)) := Lib.hid (own_next hb (RS1x4.out.alloc _))
  have RR1x5 : Hid (w5.ownsRow w0.heap.size 61 6 (.slice B1 rs.length d1) rs.length (rlc rs)) := Lib.hid (own_next hb (RR1x4.out.alloc _))
  have RS2x5 : Hid (w5.ownsRow w1.heap.size 47 4 (.slice A2 OL.length c2) OL.length (slc OL)) := Lib.hid (own_next hb (RS2x4.out.alloc _))
  have RR2x5 : Hid (w5.ownsRow w1.heap.size 61 6 (.slice B2 OR.length d2) OR.length (rlc OR)) := Lib.hid (own_next hb (RR2x4.out.alloc _))
  have RS3x5 : Hid (w5.ownsRow w2.heap.size 47 4 (.slice A3 OL.length c3) OL.length (slc OL)) := Lib.hid (own_next hb (RS3x4.out.alloc _))
  have RR3x5 : Hid (w5.ownsRow w2.heap.size 61 6 (.slice B3 OR.length d3) OR.length (rlc OR)) := Lib.hid (own_next hb (RR3x4.out.alloc _))
  have RS4x5 : Hid (w5.ownsRow w3.heap.size 47 4 (.slice A4 AL.length c4) AL.length (slc AL)) := Lib.hid (own_next hb (RS4x4.out.alloc _))
  have RR4x5 : Hid (w5.ownsRow w3.heap.size 61 6 (.slice B4 AR.length d4) AR.length (rlc AR)) := Lib.hid (own_next hb (RR4x4.out.alloc _))
  have N5 : Hid (Below w.heap.size w w5) := Lib.hid (Bgo (Bal N4.out _) hb)
  have U5 : w4.heap.size + 1 ≤ w5.heap.size := by have := hb.size; simp at this; omega
  clear P4 S4 X1_4 X2_4 X3_4 RS1x4 RR1x4 RS2x4 RR2x4 RS3x4 RR3x4 RS4x4 RR4x4 N4
  have RS5x5 : Hid (w5.ownsRow w4.heap.size 47 4 (.slice A5 AL.length c5) AL.length (slc AL)) := Lib.hid (o1.mono (by simp))
  have RR5x5 : Hid (w5.ownsRow w4.heap.size 61 6 (.slice B5 AR.length d5) AR.length (rlc AR)) := Lib.hid (o2.mono (by simp))
  clear o1 o2
  clear hb
  have p0 : w5.cell? ⟨w.heap.size, 0, none⟩ = some (.slice a l.length cap) := blk_cell P5.out 0 _ rfl
  have p1 : w5.cell? ⟨w.heap.size, 1, none⟩ = some (.slice a' rs.length cap') := blk_cell P5.out 1 _ rfl
  have s0 : w5.cell? ⟨w.heap.size + 1, 0, none⟩ = some (.string s.name) := blk_cell S5.out 0 _ rfl
  have s1 : w5.cell? ⟨w.heap.size + 1, 1, none⟩ = some (.int .i64 s.st) := blk_cell S5.out 1 _ rfl
  have s2 : w5.cell? ⟨w.heap.size + 1, 2, none⟩ = some (.int .i64 s.fr) := blk_cell S5.out 2 _ rfl
  have s3 : w5.cell? ⟨w.heap.size + 1, 3, none⟩ = some (.int .i64 s.to) := blk_cell S5.out 3 _ rfl
  have xl := blk_lt S5.out
  have xl0 := blk_lt P5.out
  go_wp2_with fail
  clear p0 p1 s0 s1 s2 s3 xl xl0
  refine (K6.out _ (Bal N5.out _)).mono ?_
  rintro e w6 ⟨rfl, hb⟩
  have P6 : Hid (w6.heap[w.heap.size]? = some (.cells #[.slice a l.length cap, .slice a' rs.length cap'] 25)) := Lib.hid (blk_next hb (blk_alloc P5.out _))
  have S6 : Hid (w6.heap[w.heap.size + 1]? = some (.cells #[.string s.name, .int .i64 s.st, .int .i64 s.fr, .int .i64 s.to] 47)) := Lib.hid (blk_next hb (blk_alloc S5.out _))
  have X1_6 : Hid (w6.heap[w1.heap.size]? = some (.cells #[.slice A1 l.length c1, .slice B1 rs.length d1] 25)) := Lib.hid (blk_next hb (blk_alloc X1_5.out _))
  have X2_6 : Hid (w6.heap[w2.heap.size]? = some (.cells #[.slice A2 OL.length c2, .slice B2 OR.length d2] 25)) := Lib.hid (blk_next hb (blk_alloc X2_5.out _))
  have X3_6 : Hid (w6.heap[w3.heap.size]? = some (.cells #[.slice A3 OL.length c3, .slice B3 OR.length d3] 25)) := Lib.hid (blk_next hb (blk_alloc X3_5.out _))
  have X4_6 : Hid (w6.heap[w4.heap.size]? = some (.cells #[.slice A4 AL.length c4, .slice B4 AR.length d4] 25)) := Lib.hid (blk_next hb (blk_alloc X4_5.out _))
  have X5_6 : Hid (w6.heap[w5.heap.size]? = some (.cells #[.slice A5 AL.length c5, .slice B5 AR.length d5] 25)) := Lib.hid (blk_next hb (blk_new w5 _))
  have RS1x6 : Hid (w6.ownsRow w0.heap.size 47 4 (.slice A1 l.length c1) l.length (slc l)) := Lib.hid (own_next hb (RS1x5.out.alloc _))
  have RR1x6 : Hid (w6.ownsRow w0.heap.size 61 6 (.slice B1 rs.length d1) rs.length (rlc rs)) := Lib.hid (own_next hb (RR1x5.out.alloc _))
  have RS2x6 : Hid (w6.ownsRow w1.heap.size 47 4 (.slice A2 OL.length c2) OL.length (slc OL)) := Lib.hid (own_next hb (RS2x5.out.alloc _))
  have RR2x6 : Hid (w6.ownsRow w1.heap.size 61 6 (.slice B2 OR.length d2) OR.length (rlc OR)) := Lib.hid (own_next hb (RR2x5.out.alloc _))
  have RS3x6 : Hid (w6.ownsRow w2.heap.size 47 4 (.slice A3 OL.length c3) OL.length (slc OL)) := Lib.hid (own_next hb (RS3x5.out.alloc _))
  have RR3x6 : Hid (w6.ownsRow w2.heap.size 61 6 (.slice B3 OR.length d3) OR.length (rlc OR)) := Lib.hid (own_next hb (RR3x5.out.alloc _))
  have RS4x6 : Hid (w6.ownsRow w3.heap.size 47 4 (.slice A4 AL.length c4) AL.length (slc AL)) := Lib.hid (own_next hb (RS4x5.out.alloc _))
  have RR4x6 : Hid (w6.ownsRow w3.heap.size 61 6 (.slice B4 AR.length d4) AR.length (rlc AR)) := Lib.hid (own_next hb (RR4x5.out.alloc _))
  have RS5x6 : Hid (w6.ownsRow w4.heap.size 47 4 (.slice A5 AL.length c5) AL.length (slc AL)) := Lib.hid (own_next hb (RS5x5.out.alloc _))
  have RR5x6 : Hid (w6.ownsRow w4.heap.size 61 6 (.slice B5 AR.length d5) AR.length (rlc AR)) := Lib.hid (own_next hb (RR5x5.out.alloc _))
  have N6 : Hid (Below w.heap.size w w6) := Lib.hid (Bgo (Bal N5.out _) hb)
  have U6 : w5.heap.size + 1 ≤ w6.heap.size := by have := hb.size; simp at this; omega
  clear P5 S5 X1_5 X2_5 X3_5 X4_5 RS1x5 RR1x5 RS2x5 RR2x5 RS3x5 RR3x5 RS4x5 RR4x5 RS5x5 RR5x5 N5
  clear hb
  have p0 : w6.cell? ⟨w.heap.size, 0, none⟩ = some (.slice a l.length cap) := blk_cell P6.out 0 _ rfl
  have p1 : w6.cell? ⟨w.heap.size, 1, none⟩ = some (.slice a' rs.length cap') := blk_cell P6.out 1 _ rfl
  have s0 : w6.cell? ⟨w.heap.size + 1, 0, none⟩ = some (.string s.name) := blk_cell S6.out 0 _ rfl
  have s1 : w6.cell? ⟨w.heap.size + 1, 1, none⟩ = some (.int .i64 s.st) := blk_cell S6.out 1 _ rfl
  have s2 : w6.cell? ⟨w.heap.size + 1, 2, none⟩ = some (.int .i64 s.fr) := blk_cell S6.out 2 _ rfl
  have s3 : w6.cell? ⟨w.heap.size + 1, 3, none⟩ = some (.int .i64 s.to) := blk_cell S6.out 3 _ rfl
  have xl := blk_lt S6.out
  have xl0 := blk_lt P6.out
  go_wp2_with fail
  clear p0 p1 s0 s1 s2 s3 xl xl0
  refine (K7.out _ N6.out).mono ?_
  rintro e w7 ⟨rfl, hb⟩
  have P7 : Hid (w7.heap[w.heap.size]? = some (.cells #[.slice a l.length cap, .slice a' rs.length cap'] 25)) := Lib.hid (blk_next hb P6.out)
  have S7 : Hid (w7.heap[w.heap.size + 1]? = some (.cells #[.string s.name, .int .i64 s.st, .int .i64 s.fr, .int .i64 s.to] 47)) := Lib.hid (blk_next hb S6.out)
  have X1_7 : Hid (w7.heap[w1.heap.size]? = some (.cells #[.slice A1 l.length c1, .slice B1 rs.length d1] 25)) := Lib.hid (blk_next hb X1_6.out)
  have X2_7 : Hid (w7.heap[w2.heap.size]? = some (.cells #[.slice A2 OL.length c2, .slice B2 OR.length d2] 25)) := Lib.hid (blk_next hb X2_6.out)
  have X3_7 : Hid (w7.heap[w3.heap.size]? = some (.cells #[.slice A3 OL.length c3, .slice B3 OR.length d3] 25)) := Lib.hid (blk_next hb X3_6.out)
  have X4_7 : Hid (w7.heap[w4.heap.size]? = some (.cells #[.slice A4 AL.length c4, .slice B4 AR.length d4] 25)) := Lib.hid (blk_next hb X4_6.out)
  have X5_7 : Hid (w7.heap[w5.heap.size]? = some (.cells #[.slice A5 AL.length c5, .slice B5 AR.length d5] 25)) := Lib.hid (blk_next hb X5_6.out)
  have RS1x7 : Hid (w7.ownsRow w0.heap.size 47 4 (.slice A1 l.length c1) l.length (slc l)) := Lib.hid (own_next hb RS1x6.out)
  have RR1x7 : Hid (w7.ownsRow w0.heap.size 61 6 (.slice B1 rs.length d1) rs.length (rlc rs)) := Lib.hid (own_next hb RR1x6.out)
  have RS2x7 : Hid (w7.ownsRow w1.heap.size 47 4 (.slice A2 OL.length c2) OL.length (slc OL)) := Lib.hid (own_next hb RS2x6.out)
  have RR2x7 : Hid (w7.ownsRow w1.heap.size 61 6 (.slice B2 OR.length d2) OR.length (rlc OR)) := Lib.hid (own_next hb RR2x6.out)
  have RS3x7 : Hid (w7.ownsRow w2.heap.size 47 4 (.slice A3 OL.length c3) OL.length (slc OL)) := Lib.hid (own_next hb RS3x6.out)
  have RR3x7 : Hid (w7.ownsRow w2.heap.size 61 6 (.slice B3 OR.length d3) OR.length (rlc OR)) := Lib.hid (own_next hb RR3x6.out)
  have RS4x7 : Hid (w7.ownsRow w3.heap.size 47 4 (.slice A4 AL.length c4) AL.length (slc AL)) := Lib.hid (own_next hb RS4x6.out)
  have RR4x7 : Hid (w7.ownsRow w3.heap.size 61 6 (.slice B4 AR.length d4) AR.length (rlc AR)) := Lib.hid (own_next hb RR4x6.out)
  have RS5x7 : Hid (w7.ownsRow w4.heap.size 47 4 (.slice A5 AL.length c5) AL.length (slc AL)) := Lib.hid (own_next hb RS5x6.out)
  have RR5x7 : Hid (w7.ownsRow w4.heap.size 61 6 (.slice B5 AR.length d5) AR.length (rlc AR)) := Lib.hid (own_next hb RR5x6.out)
  have N7 : Hid (Below w.heap.size w w7) := Lib.hid (Bgo N6.out hb)
  have U7 : w6.heap.size ≤ w7.heap.size := by have := hb.size; omega
  clear P6 S6 X1_6 X2_6 X3_6 X4_6 X5_6 RS1x6 RR1x6 RS2x6 RR2x6 RS3x6 RR3x6 RS4x6 RR4x6 RS5x6 RR5x6 N6
  clear hb
  have p0 : w7.cell? ⟨w.heap.size, 0, none⟩ = some (.slice a l.length cap) := blk_cell P7.out 0 _ rfl
  have p1 : w7.cell? ⟨w.heap.size, 1, none⟩ = some (.slice a' rs.length cap') := blk_cell P7.out 1 _ rfl
  have s0 : w7.cell? ⟨w.heap.size + 1, 0, none⟩ = some (.string s.name) := blk_cell S7.out 0 _ rfl
  have s1 : w7.cell? ⟨w.heap.size + 1, 1, none⟩ = some (.int .i64 s.st) := blk_cell S7.out 1 _ rfl
  have s2 : w7.cell? ⟨w.heap.size + 1, 2, none⟩ = some (.int .i64 s.fr) := blk_cell S7.out 2 _ rfl
  have s3 : w7.cell? ⟨w.heap.size + 1, 3, none⟩ = some (.int .i64 s.to) := blk_cell S7.out 3 _ rfl
  have xl := blk_lt S7.out
  have xl0 := blk_lt P7.out
  clear p0 p1 s0 s1 s2 s3 xl xl0
  have e20 : w7.cell? ⟨w2.heap.size, 0, none⟩ = some (.slice A2 OL.length c2) := blk_cell X2_7.out 0 _ rfl
  have e21 : w7.cell? ⟨w2.heap.size, 1, none⟩ = some (.slice B2 OR.length d2) := blk_cell X2_7.out 1 _ rfl
  have e30 : w7.cell? ⟨w3.heap.size, 0, none⟩ = some (.slice A3 OL.length c3) := blk_cell X3_7.out 0 _ rfl
  have e31 : w7.cell? ⟨w3.heap.size, 1, none⟩ = some (.slice B3 OR.length d3) := blk_cell X3_7.out 1 _ rfl
  go_wp2_with fail
  clear e20 e21 e30 e31
  refine (same_calls A2 c2 OL B2 d2 OR A3 c3 B3 d3 _ y2 z2 (Rd.slots (own_rd RS2x7.out)) y2' z2' (Rd.rules (own_rd RR2x7.out)) y3 z3 (Rd.slots (own_rd RS3x7.out)) y3' z3' (Rd.rules (own_rd RR3x7.out))).mono ?_
  rintro e w8 ⟨rfl, hb⟩
  have P8 : Hid (w8.heap[w.heap.size]? = some (.cells #[.slice a l.length cap, .slice a' rs.length cap'] 25)) := Lib.hid (blk_next hb P7.out)
  have S8 : Hid (w8.heap[w.heap.size + 1]? = some (.cells #[.string s.name, .int .i64 s.st, .int .i64 s.fr, .int .i64 s.to] 47)) := Lib.hid (blk_next hb S7.out)
  have X1_8 : Hid (w8.heap[w1.heap.size]? = some (.cells #[.slice A1 l.length c1, .slice B1 rs.length d1] 25)) := Lib.hid (blk_next hb X1_7.out)
  have X2_8 : Hid (w8.heap[w2.heap.size]? = some (.cells #[.slice A2 OL.length c2, .slice B2 OR.length d2] 25)) := Lib.hid (blk_next hb X2_7.out)
  have X3_8 : Hid (w8.heap[w3.heap.size]? = some (.cells #[.slice A3 OL.length c3, .slice B3 OR.length d3] 25)) := Lib.hid (blk_next hb X3_7.out)
  have X4_8 : Hid (w8.heap[w4.heap.size]? = some (.cells #[.slice A4 AL.length c4, .slice B4 AR.length d4] 25)) := Lib.hid (blk_next hb X4_7.out)
  have X5_8 : Hid (w8.heap[w5.heap.size]? = some (.cells #[.slice A5 AL.length c5, .slice B5 AR.length d5] 25)) := Lib.hid (blk_next hb X5_7.out)
  have RS1x8 : Hid (w8.ownsRow w0.heap.size 47 4 (.slice A1 l.length c1) l.length (slc l)) := Lib.hid (own_next hb RS1x7.out)
  have RR1x8 : Hid (w8.ownsRow w0.heap.size 61 6 (.slice B1 rs.length d1) rs.length (rlc rs)) := Lib.hid (own_next hb RR1x7.out)
  have RS2x8 : Hid (w8.ownsRow w1.heap.size 47 4 (.slice A2 OL.length c2) OL.length (slc OL)) := Lib.hid (own_next hb RS2x7.out)
  have RR2x8 : Hid (w8.ownsRow w1.heap.size 61 6 (.slice B2 OR.length d2) OR.length (rlc OR)) := Lib.hid (own_next hb RR2x7.out)
  have RS3x8 : Hid (w8.ownsRow w2.heap.size 47 4 (.slice A3 OL.length c3) OL.length (slc OL)) := Lib.hid (own_next hb RS3x7.out)
  have RR3x8 : Hid (w8.ownsRow w2.heap.size 61 6 (.slice B3 OR.length d3) OR.length (rlc OR)) := Lib.hid (own_next hb RR3x7.out)
  have RS4x8 : Hid (w8.ownsRow w3.heap.size 47 4 (.slice A4 AL.length c4) AL.length (slc AL)) := Lib.hid (own_next hb RS4x7.out)
  have RR4x8 : Hid (w8.ownsRow w3.heap.size 61 6 (.slice B4 AR.length d4) AR.length (rlc AR)) := Lib.hid (own_next hb RR4x7.out)
  have RS5x8 : Hid (w8.ownsRow w4.heap.size 47 4 (.slice A5 AL.length c5) AL.length (slc AL)) := Lib.hid (own_next hb RS5x7.out)
  have RR5x8 : Hid (w8.ownsRow w4.heap.size 61 6 (.slice B5 AR.length d5) AR.length (rlc AR)) := Lib.hid (own_next hb RR5x7.out)
  have N8 : Hid (Below w.heap.size w w8) := Lib.hid (Bgo N7.out hb)
  have U8 : w7.heap.size ≤ w8.heap.size := hb.size
  clear hb P7 S7 X1_7 X2_7 X3_7 X4_7 X5_7 RS1x7 RR1x7 RS2x7 RR2x7 RS3x7 RR3x7 RS4x7 RR4x7 RS5x7 RR5x7 N7
  have e40 : w8.cell? ⟨w4.heap.size, 0, none⟩ = some (.slice A4 AL.length c4) := blk_cell X4_8.out 0 _ rfl
  have e41 : w8.cell? ⟨w4.heap.size, 1, none⟩ = some (.slice B4 AR.length d4) := blk_cell X4_8.out 1 _ rfl
  have e50 : w8.cell? ⟨w5.heap.size, 0, none⟩ = some (.slice A5 AL.length c5) := blk_cell X5_8.out 0 _ rfl
  have e51 : w8.cell? ⟨w5.heap.size, 1, none⟩ = some (.slice B5 AR.length d5) := blk_cell X5_8.out 1 _ rfl
  go_wp2_with fail
  clear e40 e41 e50 e51
  refine (same_calls A4 c4 AL B4 d4 AR A5 c5 B5 d5 _ y4 z4 (Rd.slots (own_rd RS4x8.out)) y4' z4' (Rd.rules (own_rd RR4x8.out)) y5 z5 (Rd.slots (own_rd RS5x8.out)) y5' z5' (Rd.rules (own_rd RR5x8.out))).mono ?_
  rintro e w9 ⟨rfl, hb⟩
  have P9 : Hid (w9.heap[w.heap.size]? = some (.cells #[.slice a l.length cap, .slice a' rs.length cap'] 25)) := Lib.hid (blk_next hb P8.out)
  have S9 : Hid (w9.heap[w.heap.size + 1]? = some (.cells #[.string s.name, .int .i64 s.st, .int .i64 s.fr, .int .i64 s.to] 47)) := Lib.hid (blk_next hb S8.out)
  have X1_9 : Hid (w9.heap[w1.heap.size]? = some (.cells #[.slice A1 l.length c1, .slice B1 rs.length d1] 25)) := Lib.hid (blk_next hb X1_8.out)
  have X2_9 : Hid (w9.heap[w2.heap.size]? = some (.cells #[.slice A2 OL.length c2, .slice B2 OR.length d2] 25)) := Lib.hid (blk_next hb X2_8.out)
  have X3_9 : Hid (w9.heap[w3.heap.size]? = some (.cells #[.slice A3 OL.length c3, .slice B3 OR.length d3] 25)) := Lib.hid (blk_next hb X3_8.out)
  have X4_9 : Hid (w9.heap[w4.heap.size]? = some (.cells #[.slice A4 AL.length c4, .slice B4 AR.length d4] 25)) := Lib.hid (blk_next hb X4_8.out)
  have X5_9 : Hid (w9.heap[w5.heap.size]? = some (.cells #[.slice A5 AL.length c5, .slice B5 AR.length d5] 25)) := Lib.hid (blk_next hb X5_8.out)
  have RS1x9 : Hid (w9.ownsRow w0.heap.size 47 4 (.slice A1 l.length c1) l.length (slc l)) := Lib.hid (own_next hb RS1x8.out)
  have RR1x9 : Hid (w9.ownsRow w0.heap.size 61 6 (.slice B1 rs.length d1) rs.length (rlc rs)) := Lib.hid (own_next hb RR1x8.out)
  have RS2x9 : Hid (w9.ownsRow w1.heap.size 47 4 (.slice A2 OL.length c2) OL.length (slc OL)) := Lib.hid (own_next hb RS2x8.out)
  have RR2x9 : Hid (w9.ownsRow w1.heap.size 61 6 (.slice B2 OR.length d2) OR.length (rlc OR)) := Lib.hid (own_next hb RR2x8.out)
  have RS3x9 : Hid (w9.ownsRow w2.heap.size 47 4 (.slice A3 OL.length c3) OL.length (slc OL)) := Lib.hid (own_next hb RS3x8.out)
  have RR3x9 : Hid (w9.ownsRow w2.heap.size 61 6 (.slice B3 OR.length d3) OR.length (rlc OR)) := Lib.hid (own_next hb RR3x8.out)
  have RS4x9 : Hid (w9.ownsRow w3.heap.size 47 4 (.slice A4 AL.length c4) AL.length (slc AL)) := Lib.hid (own_next hb RS4x8.out)
  have RR4x9 : Hid (w9.ownsRow w3.heap.size 61 6 (.slice B4 AR.length d4) AR.length (rlc AR)) := Lib.hid (own_next hb RR4x8.out)
  have RS5x9 : Hid (w9.ownsRow w4.heap.size 47 4 (.slice A5 AL.length c5) AL.length (slc AL)) := Lib.hid (own_next hb RS5x8.out)
  have RR5x9 : Hid (w9.ownsRow w4.heap.size 61 6 (.slice B5 AR.length d5) AR.length (rlc AR)) := Lib.hid (own_next hb RR5x8.out)
  have N9 : Hid (Below w.heap.size w w9) := Lib.hid (Bgo N8.out hb)
  have U9 : w8.heap.size ≤ w9.heap.size := hb.size
  clear hb P8 S8 X1_8 X2_8 X3_8 X4_8 X5_8 RS1x8 RR1x8 RS2x8 RR2x8 RS3x8 RR3x8 RS4x8 RR4x8 RS5x8 RR5x8 N8
  have LT4 : Hid (∀ q, (Value.slice A4 AL.length c4).ownBlock = some q → w3.heap.size + 1 ≤ q ∧ q < w4.heap.size) := HLT4
  have LT2 : Hid (∀ q, (Value.slice B2 OR.length d2).ownBlock = some q → w1.heap.size + 1 ≤ q ∧ q < w2.heap.size) := HLT2
  have x0 : w9.cell? ⟨w4.heap.size, 0, none⟩ = some (.slice A4 AL.length c4) := blk_cell X4_9.out 0 _ rfl
  have OWN : Hid (∃ xs, w9.ownsRow w3.heap.size 47 4 (.slice A4 AL.length c4) AL.length xs) := Lib.hid ⟨_, RS4x9.out⟩
  have BX : Hid (w9.heap[w4.heap.size]? = some (.cells #[.slice A4 AL.length c4, .slice B4 AR.length d4] 25)) := X4_9
  have LT : Hid (∀ q, (Value.slice A4 AL.length c4).ownBlock = some q → w3.heap.size + 1 ≤ q ∧ q < w4.heap.size) := LT4
  go_wp2_with fail
  go_loopw [22] (fun i wr => ∃ k : Nat, k ≤ AL.length ∧ i = .int .i64 k ∧ Hid (w9.grownBy wr (Value.slice A4 AL.length c4).ownBlock) ∧ Hid (∃ xs, wr.ownsRow w3.heap.size 47 4 (.slice A4 AL.length c4) AL.length xs)) (fun i _ => AL.length - (intOf i).toNat)
  case atStart => exact ⟨0, by omega, rfl, Lib.hid (World.grownBy.refl _ _), OWN⟩
  case round =>
    obtain ⟨k, hk, rfl, GR, OW⟩ := hrel
    clear x0
    have BX1 := Lib.hid (gblk GR.out BX.out (fun h => by have := (LT.out _ h.symm).2; omega))
    have x0 : wr.cell? ⟨w4.heap.size, 0, none⟩ = some (.slice A4 AL.length c4) := blk_cell BX1.out 0 _ rfl
    by_cases hlt : k < AL.length
    · obtain ⟨xs, ow⟩ := OW.out
      rcases ow.2 with ⟨_, hbad⟩ | ⟨g, c', cur, hv, hgb, hg, _, _, _, _⟩
      · omega
      simp only [Value.slice.injEq, true_and] at hv
      obtain ⟨rfl, rfl⟩ := hv
      have hgl : g < wr.heap.size := blk_lt hg
      have LG := LT.out g rfl
      obtain ⟨x, hx⟩ : ∃ x, xs[k * 4]? = some x := ⟨xs[k * 4]'(by have := ow.1; omega), List.getElem?_eq_getElem _⟩
      have cx : wr.cell? ⟨g, k * 4, none⟩ = some x := by rw [ow.cellAt (k * 4) (by omega)]; exact hx
      have fx : wr.frozen? ⟨g, k * 4, none⟩ = false := ow.frozenAt _
      have km0 : (0 : Int) ≤ (k : Int) := by omega
      have km1 : (k : Int) < (AL.length : Int) := by omega
      have OW2 := Lib.hid (ow.stored (k * 4) (.string ⟨#[]⟩)).1
      have GR2 := Lib.hid (only_set GR.out (p := ⟨g, k * 4, none⟩) rfl (.string ⟨#[]⟩))
      clear hx ow hg
      go_wp2_with fail
      exact ⟨⟨k + 1, by omega, by go_num, GR2, Lib.hid ⟨_, OW2.out⟩⟩, by simp [intOf]; omega⟩
    · obtain rfl : k = AL.length := by omega
      have P10 : Hid (wr.heap[w.heap.size]? = some (.cells #[.slice a l.length cap, .slice a' rs.length cap'] 25)) := Lib.hid (gblk GR.out P9.out (fun h => by have := LT4.out _ h.symm; omega))
      have X1_10 : Hid (wr.heap[w1.heap.size]? = some (.cells #[.slice A1 l.length c1, .slice B1 rs.length d1] 25)) := Lib.hid (gblk GR.out X1_9.out (fun h => by have := LT4.out _ h.symm; omega))
      have X2_10 : Hid (wr.heap[w2.heap.size]? = some (.cells #[.slice A2 OL.length c2, .slice B2 OR.length d2] 25)) := Lib.hid (gblk GR.out X2_9.out (fun h => by have := LT4.out _ h.symm; omega))
      have RS1x10 : Hid (wr.ownsRow w0.heap.size 47 4 (.slice A1 l.length c1) l.length (slc l)) := Lib.hid (RS1x9.out.kept GR.out (own_far LTW1.out LT4.out (by omega)))
      have RR1x10 : Hid (wr.ownsRow w0.heap.size 61 6 (.slice B1 rs.length d1) rs.length (rlc rs)) := Lib.hid (RR1x9.out.kept GR.out (own_far LTW2.out LT4.out (by omega)))
      have RR2x10 : Hid (wr.ownsRow w1.heap.size 61 6 (.slice B2 OR.length d2) OR.length (rlc OR)) := Lib.hid (RR2x9.out.kept GR.out (own_far LT2.out LT4.out (by omega)))
      have N10 : Hid (Below w.heap.size w wr) := Lib.hid (gbel GR.out N9.out (fun q h => by have := LT4.out q h; omega))
      have xc := x0
      clear x0 OWN BX LT BX1 GR OW P9 S9 X1_9 X2_9 X3_9 X4_9 X5_9 RS1x9 RR1x9 RS2x9 RR2x9 RS3x9 RR3x9 RS4x9 RR4x9 RS5x9 RR5x9 N9
      obtain ⟨w10, rfl⟩ : ∃ w10 : World, w10 = wr := ⟨_, rfl⟩
      have x0 : w10.cell? ⟨w2.heap.size, 1, none⟩ = some (.slice B2 OR.length d2) := blk_cell X2_10.out 1 _ rfl
      have OWN : Hid (∃ xs, w10.ownsRow w1.heap.size 61 6 (.slice B2 OR.length d2) OR.length xs) := Lib.hid ⟨_, RR2x10.out⟩
      have BX : Hid (w10.heap[w2.heap.size]? = some (.cells #[.slice A2 OL.length c2, .slice B2 OR.length d2] 25)) := X2_10
      have LT : Hid (∀ q, (Value.slice B2 OR.length d2).ownBlock = some q → w1.heap.size + 1 ≤ q ∧ q < w2.heap.size) := LT2
      go_wp2_with fail
      go_loopw [23] (fun i wr => ∃ k : Nat, k ≤ OR.length ∧ i = .int .i64 k ∧ Hid (w10.grownBy wr (Value.slice B2 OR.length d2).ownBlock) ∧ Hid (∃ xs, wr.ownsRow w1.heap.size 61 6 (.slice B2 OR.length d2) OR.length xs)) (fun i _ => OR.length - (intOf i).toNat)
      case atStart => exact ⟨0, by omega, rfl, Lib.hid (World.grownBy.refl _ _), OWN⟩
      case round =>
        obtain ⟨k, hk, rfl, GR, OW⟩ := hrel
        clear x0
        have BX1 := Lib.hid (gblk GR.out BX.out (fun h => by have := (LT.out _ h.symm).2; omega))
        have x0 : wr.cell? ⟨w2.heap.size, 1, none⟩ = some (.slice B2 OR.length d2) := blk_cell BX1.out 1 _ rfl
        by_cases hlt : k < OR.length
        · obtain ⟨xs, ow⟩ := OW.out
          rcases ow.2 with ⟨_, hbad⟩ | ⟨g, c', cur, hv, hgb, hg, _, _, _, _⟩
          · omega
          simp only [Value.slice.injEq, true_and] at hv
          obtain ⟨rfl, rfl⟩ := hv
          have hgl : g < wr.heap.size := blk_lt hg
          have LG := LT.out g rfl
          obtain ⟨x, hx⟩ : ∃ x, xs[k * 6]? = some x := ⟨xs[k * 6]'(by have := ow.1; omega), List.getElem?_eq_getElem _⟩
          have cx : wr.cell? ⟨g, k * 6, none⟩ = some x := by rw [ow.cellAt (k * 6) (by omega)]; exact hx
          have fx : wr.frozen? ⟨g, k * 6, none⟩ = false := ow.frozenAt _
          have km0 : (0 : Int) ≤ (k : Int) := by omega
          have km1 : (k : Int) < (OR.length : Int) := by omega
          have OW2 := Lib.hid (ow.stored (k * 6) (.int .u8 99)).1
          have GR2 := Lib.hid (only_set GR.out (p := ⟨g, k * 6, none⟩) rfl (.int .u8 99))
          clear hx ow hg
          go_wp2_with fail
          exact ⟨⟨k + 1, by omega, by go_num, GR2, Lib.hid ⟨_, OW2.out⟩⟩, by simp [intOf]; omega⟩
        · obtain rfl : k = OR.length := by omega
          have P11 : Hid (wr.heap[w.heap.size]? = some (.cells #[.slice a l.length cap, .slice a' rs.length cap'] 25)) := Lib.hid (gblk GR.out P10.out (fun h => by have := LT2.out _ h.symm; omega))
          have X1_11 : Hid (wr.heap[w1.heap.size]? = some (.cells #[.slice A1 l.length c1, .slice B1 rs.length d1] 25)) := Lib.hid (gblk GR.out X1_10.out (fun h => by have := LT2.out _ h.symm; omega))
          have X2_11 : Hid (wr.heap[w2.heap.size]? = some (.cells #[.slice A2 OL.length c2, .slice B2 OR.length d2] 25)) := Lib.hid (gblk GR.out X2_10.out (fun h => by have := LT2.out _ h.symm; omega))
          have RS1x11 : Hid (wr.ownsRow w0.heap.size 47 4 (.slice A1 l.length c1) l.length (slc l)) := Lib.hid (RS1x10.out.kept GR.out (own_far LTW1.out LT2.out (by omega)))
          have RR1x11 : Hid (wr.ownsRow w0.heap.size 61 6 (.slice B1 rs.length d1) rs.length (rlc rs)) := Lib.hid (RR1x10.out.kept GR.out (own_far LTW2.out LT2.out (by omega)))
          have N11 : Hid (Below w.heap.size w wr) := Lib.hid (gbel GR.out N10.out (fun q h => by have := LT2.out q h; omega))
          have xd := x0
          clear x0
          have p0 : wr.cell? ⟨w.heap.size, 0, none⟩ = some (.slice a l.length cap) := blk_cell P11.out 0 _ rfl
          have p1 : wr.cell? ⟨w.heap.size, 1, none⟩ = some (.slice a' rs.length cap') := blk_cell P11.out 1 _ rfl
          have e10 : wr.cell? ⟨w1.heap.size, 0, none⟩ = some (.slice A1 l.length c1) := blk_cell X1_11.out 0 _ rfl
          have e11 : wr.cell? ⟨w1.heap.size, 1, none⟩ = some (.slice B1 rs.length d1) := blk_cell X1_11.out 1 _ rfl
          go_wp2_with fail
          refine (same_calls a cap l a' cap' rs A1 c1 B1 d1 _ hn hcap (HS.out.next N11.out) hn' hcap' (HR.out.next N11.out) y1 z1 (Rd.slots (own_rd RS1x11.out)) y1' z1' (Rd.rules (own_rd RR1x11.out))).mono ?_
          rintro e w12 ⟨rfl, hb⟩
          have N12 := Lib.hid (Bgo N11.out hb)
          clear hb
          go_wp2_with fail
          go_ret
          exact ⟨rfl, N12.out⟩

set_option maxRecDepth 100000 in
theorem lifted (os : Os) (started : os.Started) (H : Type) (enc : TypeId × Value → H) :
    ReturnsInHanded {} Try.checked os 4 .any (Rows.planChangesSpec.pre6 enc Try.prog Try.f4 Rows.planChangesRow.domain false) (Rows.planChangesSpec.post enc Try.prog Try.f4 false true false false) := by
  refine returnsInHanded_of_change (C := Try.checked) own started (by kernel_rfl) Try.func4
    (ChangeSpec.witness6 (enc := enc) (C := Try.checked) false ⟨#[], #[.agg #[.slice none 0 0, .slice none 0 0], .int .i64 0, .string ⟨#[]⟩, .agg #[.string ⟨#[]⟩, .int .i64 0, .int .i64 0, .int .i64 0]], []⟩ 8 (by kernel_rfl) (by kernel_rfl) (by kernel_rfl) (by kernel_rfl)) ?_
  intro W base args ds gs before hval0 hW hcnd _
  have hval : ∀ (j : Nat) t v, Try.f4.params[j]? = some t → args[j]? = some v → Value.okWide Try.prog W .any base t v := hval0
  have hW' := hW
  obtain ⟨p, q, hA0, hV, rfl, hfz, hnd⟩ := hW
  have hA : DataW.TrodAll enc Try.prog W 0 (fun _ => true) true Try.f4.params.toList args.toList ds p := hA0
  rw [Try.params4] at hA hval
  obtain ⟨v0, vs0, d0, ds0, p0, q0, hargs, rfl, rfl, h0, r0⟩ := trodAll_cons hA
  obtain ⟨v1, vs1, d1, ds1, p1, q1, rfl, rfl, rfl, h1, r1⟩ := trodAll_cons r0
  obtain ⟨v2, vs2, d2, ds2, p2, q2, rfl, rfl, rfl, h2, r2⟩ := trodAll_cons r1
  obtain ⟨v3, vs3, d3, ds3, p3, q3, rfl, rfl, rfl, h3, r3⟩ := trodAll_cons r2
  obtain ⟨rfl, rfl, rfl⟩ := trodAll_nil r3
  obtain rfl : args = #[v0, v1, v2, v3] := by cases args; simp_all
  obtain ⟨rfl, rfl⟩ := trodVars_none hV
  have k0 := h0
  have lt0 : ∀ x ∈ p0, x.block < W.heap.size := by obtain ⟨m, hm⟩ := k0; exact DataW.trod_lt m _ _ _ hm
  obtain ⟨c0_0, c1_0, y0_0, y1_0, m0, rfl, _, _, t0_0, t1_0⟩ := open_agg2 Try.underlying25 (by kernel_rfl) (show Try.prog.cellsOf 25 = 2 by kernel_rfl) (hval 0 25 v0 rfl rfl) h0
  obtain ⟨a, l, cap, e0_0, hn, hcap, hs⟩ := open_slots t0_0
  obtain ⟨a', rs, cap', e1_0, hn', hcap', hr⟩ := open_rules t1_0
  simp only [List.cons.injEq, and_true] at e0_0 e1_0
  subst e0_0 e1_0
  have k1 := h1
  have lt1 : ∀ x ∈ p1, x.block < W.heap.size := by obtain ⟨m, hm⟩ := k1; exact DataW.trod_lt m _ _ _ hm
  obtain ⟨rule, rfl, _, _, wrule⟩ := open_int Try.underlying3 (hval 1 3 v1 rfl rfl) h1
  have k2 := h2
  have lt2 : ∀ x ∈ p2, x.block < W.heap.size := by obtain ⟨m, hm⟩ := k2; exact DataW.trod_lt m _ _ _ hm
  obtain ⟨why, rfl, _, _, hwhy⟩ := open_string Try.underlying9 (hval 2 9 v2 rfl rfl) h2
  have hwhym : why.size ≤ 9223372036854775807 := by simpa [maxLen] using hwhy
  have k3 := h3
  have lt3 : ∀ x ∈ p3, x.block < W.heap.size := by obtain ⟨m, hm⟩ := k3; exact DataW.trod_lt m _ _ _ hm
  obtain ⟨f0_3, f1_3, f2_3, f3_3, g0_3, g1_3, g2_3, g3_3, m3, rfl, _, _, u0_3, u1_3, u2_3, u3_3⟩ := open_agg4 Try.underlying47 (by kernel_rfl) (show Try.prog.cellsOf 47 = 4 by kernel_rfl) (hval 3 47 v3 rfl rfl) h3
  obtain ⟨snm, e0s, _, _⟩ := DataW.trod_string Try.underlying9 u0_3
  obtain ⟨sst, e1s, _, _⟩ := DataW.trod_int Try.underlying3 u1_3
  obtain ⟨sfr, e2s, _, _⟩ := DataW.trod_int Try.underlying3 u2_3
  obtain ⟨sto, e3s, _, _⟩ := DataW.trod_int Try.underlying3 u3_3
  simp only [List.cons.injEq, and_true] at e0s e1s e2s e3s
  subst e0s e1s e2s e3s
  clear hA0 hval0
  refine (walk a cap l a' cap' rs W hn hcap hs hn' hcap' hr rule why hwhym ⟨snm, sst, sfr, sto⟩).mono fun e W' ⟨he, bel⟩ => ?_
  subst he
  exact ⟨_, rfl, _, _, _, [], _, [], hW', trodAll_mk1 (shut_bool Try.underlying4 _), (trodAll_cons_mk (Below.trod laidOut (by kernel_rfl) (of_decide_eq_true (by kernel_rfl)) k0 bel lt0) (trodAll_cons_mk (Below.trod laidOut (by kernel_rfl) (of_decide_eq_true (by kernel_rfl)) k1 bel lt1) (trodAll_cons_mk (Below.trod laidOut (by kernel_rfl) (of_decide_eq_true (by kernel_rfl)) k2 bel lt2) (trodAll_cons_mk (Below.trod laidOut (by kernel_rfl) (of_decide_eq_true (by kernel_rfl)) k3 bel lt3) trodAll_mk0)))), rfl, bel.frame _, fun h => by cases h⟩

theorem over : Rows.planChangesRow.holds Try.pinned (OpenSpec.ofChange Rows.planChangesSpec) :=
  OpenClaim.holds_of_wide 4 Try.f4 rfl rfl rfl rfl rfl rfl rfl ⟨rfl, rfl, rfl, rfl, rfl⟩ rfl rfl rfl rfl rfl (by kernel_rfl) Try.func4 (by kernel_rfl)
    (of_decide_eq_true (by kernel_rfl)) (by unfold Func.isWrapper; first | (rw [if_pos (by decide +kernel)]; kernel_rfl) | (rw [if_neg (by decide +kernel)]; exact ⟨rfl, rfl⟩))
    (fun os started H enc _ => lifted os started H enc)

theorem proved : Rows.PlanChangesSaid := over
#print axioms proved
end Go.Proofs.Ythmfjlphmamegaa.planChanges
