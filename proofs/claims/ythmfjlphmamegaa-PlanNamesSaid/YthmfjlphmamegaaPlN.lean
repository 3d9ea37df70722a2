/- Contracts of layer 43's law package: breaches of one rule over three slots, and the check of one rule. -/
import Derived.Test.YthmfjlphmamegaaPl8
namespace Go.Proofs.Ythmfjlphmamegaa
open Go.ChangeShapes Go.WideShapes Go.ChangeAt Go.RowKit
set_option linter.unusedVariables false

def BL : List Slt := [⟨sA, 0, 10, 20⟩, ⟨sB, 0, 20, 30⟩, ⟨sC, 1, 25, 35⟩]
set_option maxHeartbeats 2000000 in
theorem breaks_calls (r : Rul) (L : List Bre) (n : Nat) (hn : L.length = n) (B : Option Addr) (d : Nat) (hd : n ≤ d) (hd2 : d ≤ 9223372036854775807) (w : World) (hw : Rd w 3 B n (bre L)) (hb : brL BL [r] = L) (hc : checkE BL [r] = 0) :
    Calls Try.prog 32 #[Uv r, .slice B n d] w fun e w' => e = .returned (.bool true) ∧ Below w.heap.size w w' := by
  subst hn
  have HW := Lib.hid hw
  have HBR := Lib.hid (And.intro hb hc)
  clear hw hb hc
  go_enter Try.func32, Try.ntmps32
  go_wp2_with fail
  refine (brO (l := BL) (rs := [r]) (base := 0) (base' := 0) rfl rfl ?_ ?_).mono ?_
  · refine World.ownsRow.alloc (World.ownsRow.alloc (⟨rfl, .inr ⟨w.heap.size + 1, 3, _, rfl, Nat.zero_le _, blk_at _ (by simp), Nat.le_refl _, by unfold maxLen; omega, rfl, rfl⟩⟩ : OwnsS ((w.alloc (.cells #[.int .u8 r.kind, .string r.a, .string r.b, .int .i64 r.low, .int .i64 r.high, .string r.why] 61)).alloc (.cells #[.string sA, .int .i64 0, .int .i64 10, .int .i64 20, .string sB, .int .i64 0, .int .i64 20, .int .i64 30, .string sC, .int .i64 1, .int .i64 25, .int .i64 35] 47)) 0 (some ⟨w.heap.size + 1, 0, none⟩) 3 3 BL) _) _
  · refine World.ownsRow.alloc ?_ _
    have := (newR ((w.alloc (.cells #[.int .u8 r.kind, .string r.a, .string r.b, .int .i64 r.low, .int .i64 r.high, .string r.why] 61)).alloc (.cells #[.string sA, .int .i64 0, .int .i64 10, .int .i64 20, .string sB, .int .i64 0, .int .i64 20, .int .i64 30, .string sC, .int .i64 1, .int .i64 25, .int .i64 35] 47)) r).mono (Nat.zero_le _)
    simpa using this
  rw [HBR.out.1, HBR.out.2]
  rintro e w1 ⟨v1, rfl, o1, hb⟩
  obtain ⟨A1, c1, rfl, g1, f1, _⟩ := Rd.of_own o1
  have O1 := Lib.hid (bres_rd (own_rd o1))
  have W1 := Lib.hid (bres_rd ((HW.out.next (Bal (Bal (Bal (Bal (Below.refl _ _) _) _) _) _)).next hb))
  have N1 : Hid (Below w.heap.size w w1) := Lib.hid (Bgo (Bal (Bal (Bal (Bal (Below.refl _ _) _) _) _) _) hb)
  clear o1 hb
  go_wp2_with fail
  refine (sameBreaches_calls A1 B c1 d L _ g1 f1 hd hd2 O1.out W1.out).mono ?_
  rintro e w2 ⟨rfl, n2, rfl⟩
  go_wp2_with fail
  go_ret
  exact ⟨rfl, below_drewN N1.out _⟩
set_option maxHeartbeats 1000000 in
theorem check1_calls (r : Rul) (w : World) :
    Calls Try.prog 33 #[Uv r] w fun e w' => e = .returned (.int .i64 (checkE [] [r])) ∧ Below w.heap.size w w' := by
  generalize hv : checkE [] [r] = v
  have HV := Lib.hid hv
  clear hv
  go_enter Try.func33, Try.ntmps33
  go_wp2_with fail
  refine (ckO (l := []) (rs := [r]) (base := 0) (base' := 0) rfl rfl (World.ownsRow_nil _ _ _ _) ?_).mono ?_
  · have := (newR (w.alloc (.cells #[.int .u8 r.kind, .string r.a, .string r.b, .int .i64 r.low, .int .i64 r.high, .string r.why] 61)) r).mono (Nat.zero_le _)
    simpa using this
  rw [HV.out]
  rintro e w1 ⟨rfl, hb⟩
  go_wp2_with fail
  go_ret
  exact ⟨rfl, Bgo (Bal (Bal (Below.refl _ _) _) _) hb⟩
end Go.Proofs.Ythmfjlphmamegaa
