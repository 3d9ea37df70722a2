/- Contracts of layer 43: comparing lists of strings that are the same; plans that are great. -/
import Derived.Test.YthmfjlphmamegaaPlc
import Derived.Test.YthmfjlphmamegaaPla
namespace Go.Proofs.Ythmfjlphmamegaa
open Go.ChangeShapes Go.WideShapes Go.ChangeAt Go.RowKit
set_option linter.unusedVariables false

theorem Rd.str {w : World} {A : Option Addr} {L : List ByteArray} (h : Rd w 1 A L.length (stc L)) {i : Nat} (hi : i < L.length) : ∃ b off, A = some ⟨b, off, none⟩ ∧ b < w.heap.size ∧ w.cell? ⟨b, off + i, none⟩ = some (.string L[i]) := by
  obtain ⟨b, off, e, hl, hc⟩ := Rd.at_ (n := 0) h (fun _ => rfl) hi
  exact ⟨b, off, e, hl, by simpa using hc 0 _ rfl⟩
set_option maxHeartbeats 1000000 in
theorem sameTexts_calls (a b : Option Addr) (ca cb : Nat) (L : List ByteArray) (w : World) (h1 : L.length ≤ ca) (h2 : ca ≤ 9223372036854775807) (h3 : L.length ≤ cb) (h4 : cb ≤ 9223372036854775807) (ha : Rd w 1 a L.length (stc L)) (hb : Rd w 1 b L.length (stc L)) :
    Calls Try.prog 20 #[.slice a L.length ca, .slice b L.length cb] w fun e w' => e = .returned (.bool true) ∧ ∃ n, w' = w.drewN n := by
  have HA := Lib.hid ha
  have HB := Lib.hid hb
  clear ha hb
  have hne : (((L.length : Nat) : Int) != ((L.length : Nat) : Int)) = false := by simp
  go_enter Try.func20, Try.ntmps20
  go_wp2_with fail
  go_loopw [5] (fun i wr => ∃ k n : Nat, k ≤ L.length ∧ i = .int .i64 k ∧ wr = w.drewN n) (fun i _ => L.length - (intOf i).toNat)
  case atStart => exact ⟨0, 0, by omega, rfl, rfl⟩
  case round =>
    obtain ⟨k, n, hk, rfl, rfl⟩ := hrel
    by_cases hlt : k < L.length
    · obtain ⟨b1, o1, rfl, _, c0⟩ := HA.out.str hlt
      obtain ⟨b2, o2, rfl, _, d0⟩ := HB.out.str hlt
      have km0 : (0 : Int) ≤ (k : Int) := by omega
      have km1 : (k : Int) < (L.length : Int) := by omega
      go_wp2_with fail
      go_quiet (fail)
      go_wp2_with fail
      exact ⟨⟨k + 1, n + nq, by omega, by go_num, by first | rfl | rw [World.drewN_drewN]⟩, by simp [intOf]; omega⟩
    · obtain rfl : k = L.length := by omega
      go_wp2_with fail
      go_ret
      exact ⟨rfl, n, rfl⟩

def GreatPost (w : World) (l : List Slt) (rs : List Rul) (e : Ending) (w' : World) : Prop := ∃ g : Bool, e = .returned (.bool g) ∧ (g = false → l.length ≤ 30 ∧ rs.length ≤ 30) ∧ Below w.heap.size w w'
set_option maxHeartbeats 4000000 in
set_option maxRecDepth 100000 in
theorem great_calls (a : Option Addr) (cap : Nat) (l : List Slt) (a' : Option Addr) (cap' : Nat) (rs : List Rul) (w : World) (hn : l.length ≤ cap) (hcap : cap ≤ 9223372036854775807) (hs : SlotsIn w a l)
    (hn' : rs.length ≤ cap') (hcap' : cap' ≤ 9223372036854775807) (hr : RulesIn w a' rs) :
    Calls Try.prog 10 #[Pv a l.length cap a' rs.length cap'] w (GreatPost w l rs) := by
  have HB : Hid (Below w.heap.size w (w.alloc (.cells #[.slice a l.length cap, .slice a' rs.length cap'] 25))) := Lib.hid (Bal (Below.refl _ _) _)
  have HS := Lib.hid hs
  have HR := Lib.hid hr
  clear hs hr
  go_enter Try.func10, Try.ntmps10
  go_wp2_with fail
  go_loop [3] (fun i => ∃ k : Nat, k ≤ l.length ∧ i = .int .i64 k) (fun i => l.length - (intOf i).toNat)
  case atStart => exact ⟨0, by omega, rfl⟩
  case round =>
    obtain ⟨k, hk, rfl⟩ := hrel
    by_cases hlt : k < l.length
    · obtain ⟨b, off, rfl, hl, hc⟩ := (HS.out.next HB.out) k hlt
      have c0 := hc.c0
      clear hc
      by_cases hz : 100 < l[k].name.size
      · go_wp2_with fail
        go_ret
        exact ⟨true, rfl, by simp, HB.out⟩
      · go_wp2_with fail
        exact ⟨⟨k + 1, by omega, by go_num⟩, by simp [intOf]; omega⟩
    · obtain rfl : k = l.length := by omega
      go_wp2_with fail
      go_loop [4] (fun i => ∃ k : Nat, k ≤ rs.length ∧ i = .int .i64 k) (fun i => rs.length - (intOf i).toNat)
      case atStart => exact ⟨0, by omega, rfl⟩
      case round =>
        obtain ⟨k, hk, rfl⟩ := hrel
        by_cases hlt : k < rs.length
        · obtain ⟨b, off, rfl, hl, hc⟩ := (HR.out.next HB.out) k hlt
          have c1 := hc.c1
          have c2 := hc.c2
          have c5 := hc.c5
          clear hc
          have hz : 100 < rs[k].a.size ∨ (rs[k].a.size ≤ 100 ∧ 100 < rs[k].b.size) ∨ (rs[k].a.size ≤ 100 ∧ rs[k].b.size ≤ 100 ∧ 100 < rs[k].why.size) ∨ (rs[k].a.size ≤ 100 ∧ rs[k].b.size ≤ 100 ∧ rs[k].why.size ≤ 100) := by omega
          rcases hz with z1 | ⟨z1, z2⟩ | ⟨z1, z2, z3⟩ | ⟨z1, z2, z3⟩
          · go_wp2_with fail
            go_ret
            exact ⟨true, rfl, by simp, HB.out⟩
          · go_wp2_with fail
            go_ret
            exact ⟨true, rfl, by simp, HB.out⟩
          · go_wp2_with fail
            go_ret
            exact ⟨true, rfl, by simp, HB.out⟩
          · go_wp2_with fail
            exact ⟨⟨k + 1, by omega, by go_num⟩, by simp [intOf]; omega⟩
        · obtain rfl : k = rs.length := by omega
          go_wp2_with fail
          all_goals
            go_ret
            refine ⟨_, rfl, ?_, HB.out⟩
            simp
            try omega
end Go.Proofs.Ythmfjlphmamegaa
