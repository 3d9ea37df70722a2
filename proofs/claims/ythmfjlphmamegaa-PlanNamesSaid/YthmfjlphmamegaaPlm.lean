/- Contracts of layer 43: comparing lists of breaches that are the same. -/
import Derived.Test.YthmfjlphmamegaaPlp
namespace Go.Proofs.Ythmfjlphmamegaa
open Go.ChangeShapes Go.WideShapes Go.ChangeAt Go.RowKit
set_option linter.unusedVariables false

structure BreAt (w : World) (b off i : Nat) (x : Bre) : Prop where
  c0 : w.cell? ⟨b, off + i * 3, none⟩ = some (.int .i64 x.1)
  c1 : w.cell? ⟨b, off + i * 3 + 1, none⟩ = some (.int .i64 x.2.1)
  c2 : w.cell? ⟨b, off + i * 3 + 2, none⟩ = some (.int .i64 x.2.2)
def BresIn (w : World) (a : Option Addr) (l : List Bre) : Prop := ∀ i (h : i < l.length), ∃ b off, a = some ⟨b, off, none⟩ ∧ b < w.heap.size ∧ BreAt w b off i l[i]
theorem BresIn.next {w w' : World} (hb : Below w.heap.size w w') {a : Option Addr} {l : List Bre} (h : BresIn w a l) : BresIn w' a l := fun i hi => by
  obtain ⟨b, off, e, hl, hs⟩ := h i hi
  exact ⟨b, off, e, Nat.lt_of_lt_of_le hl hb.size, (hb.cell hl).trans hs.c0, (hb.cell hl).trans hs.c1, (hb.cell hl).trans hs.c2⟩
theorem bre_get {l : List Bre} {i : Nat} (h : i < l.length) : (bre l)[i * 3]? = some (.int .i64 l[i].1) ∧ (bre l)[i * 3 + 1]? = some (.int .i64 l[i].2.1) ∧ (bre l)[i * 3 + 2]? = some (.int .i64 l[i].2.2) := by
  induction l generalizing i with
  | nil => simp at h
  | cons x l ih =>
    cases i with
    | zero => simp [bre]
    | succ i =>
      have := ih (i := i) (by simpa using h)
      have e : (i + 1) * 3 = i * 3 + 3 := by omega
      rw [e]
      simpa [bre] using this
theorem bres_of_own {w : World} {base : Nat} {v : Value} {L : List Bre} (h : w.ownsRow base 68 3 v L.length (bre L)) : ∃ a cap, v = .slice a L.length cap ∧ L.length ≤ cap ∧ cap ≤ 9223372036854775807 ∧ BresIn w a L := by
  rcases h.2 with ⟨h1, h2⟩ | ⟨g, cap, cur, hv, hb, hg, hc, hm, hs, ht⟩
  · refine ⟨none, 0, by rw [h1, h2], by omega, by omega, fun i hi => by omega⟩
  · refine ⟨_, cap, hv, hc, by simpa [maxLen] using hm, fun i hi => ?_⟩
    have hlt : g < w.heap.size := blk_lt hg
    obtain ⟨g0, g1, g2⟩ := bre_get hi
    have key : ∀ j x, (bre L)[j]? = some x → w.cell? ⟨g, j, none⟩ = some x := by
      intro j x hx
      refine blk_cell hg j x ?_
      rw [← ht] at hx
      rw [List.getElem?_take] at hx
      split at hx
      · simpa using hx
      · simp at hx
    exact ⟨g, 0, rfl, hlt, by simpa using key _ _ g0, by simpa using key _ _ g1, by simpa using key _ _ g2⟩

set_option maxHeartbeats 1000000 in
theorem sameBreaches_calls (a b : Option Addr) (ca cb : Nat) (L : List Bre) (w : World) (h1 : L.length ≤ ca) (h2 : ca ≤ 9223372036854775807) (h3 : L.length ≤ cb) (h4 : cb ≤ 9223372036854775807) (ha : BresIn w a L) (hb : BresIn w b L) :
    Calls Try.prog 19 #[.slice a L.length ca, .slice b L.length cb] w fun e w' => e = .returned (.bool true) ∧ ∃ n, w' = w.drewN n := by
  have HA := Lib.hid ha
  have HB := Lib.hid hb
  clear ha hb
  have hne : (((L.length : Nat) : Int) != ((L.length : Nat) : Int)) = false := by simp
  go_enter Try.func19, Try.ntmps19
  go_wp2_with fail
  go_loopw [5] (fun i wr => ∃ k n : Nat, k ≤ L.length ∧ i = .int .i64 k ∧ wr = w.drewN n) (fun i _ => L.length - (intOf i).toNat)
  case atStart => exact ⟨0, 0, by omega, rfl, rfl⟩
  case round =>
    obtain ⟨k, n, hk, rfl, rfl⟩ := hrel
    by_cases hlt : k < L.length
    · obtain ⟨b1, o1, rfl, _, c0, c1, c2⟩ := HA.out k hlt
      obtain ⟨b2, o2, rfl, _, d0, d1, d2⟩ := HB.out k hlt
      have km0 : (0 : Int) ≤ (k : Int) := by omega
      have km1 : (k : Int) < (L.length : Int) := by omega
      go_wp2_with fail
      go_quiet (fail)
      go_wp2_with fail
      exact ⟨⟨k + 1, n + nq, by omega, by go_num, by first | rfl | rw [World.drewN_drewN]⟩, by simp [intOf]; omega⟩
    · obtain rfl : k = L.length := by omega
      go_wp2_with fail
      go_ret
      exact ⟨rfl, n, rfl⟩
end Go.Proofs.Ythmfjlphmamegaa
