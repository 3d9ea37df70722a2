/- For every input the law PlanNames returns true and leaves its arguments as they were. -/
import Derived.Test.YthmfjlphmamegaaRows
import Derived.Test.YthmfjlphmamegaaPlN
import Derived.WalkKit
import Derived.ProofKit
import Derived.OpenShut
import Derived.ShutString
import Derived.ChangeOld
import Derived.Below
import Derived.Lib.SmallJoins
namespace Go.Proofs.Ythmfjlphmamegaa.planNames
open Go.ChangeShapes Go.WideShapes Go.ChangeAt Go.RowKit Go.Joins
open Go.ChangeMaps (open_string shut_string)
set_option linter.unusedVariables false

theorem own : ownKnob Try.prog.godebug = none := by kernel_rfl
theorem laidOut : laidOutB Try.prog = true := by kernel_rfl
theorem vk0 : brL BL [⟨1, ⟨#[97]⟩, ⟨#[]⟩, 10, 20, ⟨#[]⟩⟩] = [] ∧ checkE BL [⟨1, ⟨#[97]⟩, ⟨#[]⟩, 10, 20, ⟨#[]⟩⟩] = 0 := by decide +kernel
theorem vk1 : brL BL [⟨1, ⟨#[97]⟩, ⟨#[]⟩, 11, 20, ⟨#[]⟩⟩] = [(0, 0, -1)] ∧ checkE BL [⟨1, ⟨#[97]⟩, ⟨#[]⟩, 11, 20, ⟨#[]⟩⟩] = 0 := by decide +kernel
theorem vk2 : brL BL [⟨1, ⟨#[98]⟩, ⟨#[]⟩, 5, 29, ⟨#[]⟩⟩] = [(0, 1, -1)] ∧ checkE BL [⟨1, ⟨#[98]⟩, ⟨#[]⟩, 5, 29, ⟨#[]⟩⟩] = 0 := by decide +kernel
theorem vk3 : brL BL [⟨1, ⟨#[100]⟩, ⟨#[]⟩, 5, 0, ⟨#[]⟩⟩] = [] ∧ checkE BL [⟨1, ⟨#[100]⟩, ⟨#[]⟩, 5, 0, ⟨#[]⟩⟩] = 0 := by decide +kernel
theorem vk4 : brL BL [⟨2, ⟨#[97]⟩, ⟨#[98]⟩, 0, 0, ⟨#[]⟩⟩] = [] ∧ checkE BL [⟨2, ⟨#[97]⟩, ⟨#[98]⟩, 0, 0, ⟨#[]⟩⟩] = 0 := by decide +kernel
theorem vk5 : brL BL [⟨2, ⟨#[97]⟩, ⟨#[98]⟩, 1, 0, ⟨#[]⟩⟩] = [(0, 0, 1)] ∧ checkE BL [⟨2, ⟨#[97]⟩, ⟨#[98]⟩, 1, 0, ⟨#[]⟩⟩] = 0 := by decide +kernel
theorem vk6 : brL BL [⟨2, ⟨#[98]⟩, ⟨#[97]⟩, 0, 0, ⟨#[]⟩⟩] = [(0, 1, 0)] ∧ checkE BL [⟨2, ⟨#[98]⟩, ⟨#[97]⟩, 0, 0, ⟨#[]⟩⟩] = 0 := by decide +kernel
theorem vk7 : brL BL [⟨2, ⟨#[98]⟩, ⟨#[100]⟩, 0, 0, ⟨#[]⟩⟩] = [] ∧ checkE BL [⟨2, ⟨#[98]⟩, ⟨#[100]⟩, 0, 0, ⟨#[]⟩⟩] = 0 := by decide +kernel
theorem vk8 : brL BL [⟨3, ⟨#[99]⟩, ⟨#[98]⟩, 0, 0, ⟨#[]⟩⟩] = [(0, 2, 1)] ∧ checkE BL [⟨3, ⟨#[99]⟩, ⟨#[98]⟩, 0, 0, ⟨#[]⟩⟩] = 0 := by decide +kernel
theorem vk9 : brL BL [⟨3, ⟨#[97]⟩, ⟨#[98]⟩, 0, 0, ⟨#[]⟩⟩] = [] ∧ checkE BL [⟨3, ⟨#[97]⟩, ⟨#[98]⟩, 0, 0, ⟨#[]⟩⟩] = 0 := by decide +kernel
theorem vk10 : brL BL [⟨4, ⟨#[]⟩, ⟨#[]⟩, 0, 0, ⟨#[]⟩⟩] = [] ∧ checkE BL [⟨4, ⟨#[]⟩, ⟨#[]⟩, 0, 0, ⟨#[]⟩⟩] = 0 := by decide +kernel
theorem vk11 : brL BL [⟨4, ⟨#[]⟩, ⟨#[]⟩, 0, 1, ⟨#[]⟩⟩] = [(0, 0, 1)] ∧ checkE BL [⟨4, ⟨#[]⟩, ⟨#[]⟩, 0, 1, ⟨#[]⟩⟩] = 0 := by decide +kernel
theorem vk12 : brL BL [⟨4, ⟨#[]⟩, ⟨#[]⟩, 1, 1000, ⟨#[]⟩⟩] = [] ∧ checkE BL [⟨4, ⟨#[]⟩, ⟨#[]⟩, 1, 1000, ⟨#[]⟩⟩] = 0 := by decide +kernel
theorem vk13 : brL BL [⟨5, ⟨#[98]⟩, ⟨#[]⟩, 0, 20, ⟨#[]⟩⟩] = [(0, 0, -1)] ∧ checkE BL [⟨5, ⟨#[98]⟩, ⟨#[]⟩, 0, 20, ⟨#[]⟩⟩] = 0 := by decide +kernel
theorem vk14 : brL BL [⟨5, ⟨#[97]⟩, ⟨#[]⟩, 0, 20, ⟨#[]⟩⟩] = [] ∧ checkE BL [⟨5, ⟨#[97]⟩, ⟨#[]⟩, 0, 20, ⟨#[]⟩⟩] = 0 := by decide +kernel
theorem vk15 : brL BL [⟨5, ⟨#[100]⟩, ⟨#[]⟩, 0, 21, ⟨#[]⟩⟩] = [(0, 0, -1), (0, 1, -1)] ∧ checkE BL [⟨5, ⟨#[100]⟩, ⟨#[]⟩, 0, 21, ⟨#[]⟩⟩] = 0 := by decide +kernel
theorem vk16 : brL BL [⟨5, ⟨#[97]⟩, ⟨#[]⟩, 1, 26, ⟨#[]⟩⟩] = [(0, 2, -1)] ∧ checkE BL [⟨5, ⟨#[97]⟩, ⟨#[]⟩, 1, 26, ⟨#[]⟩⟩] = 0 := by decide +kernel
theorem vr0 : checkE [] [⟨0, ⟨#[]⟩, ⟨#[]⟩, 0, 0, ⟨#[]⟩⟩] = 8 := by decide +kernel
theorem vr1 : checkE [] [⟨6, ⟨#[]⟩, ⟨#[]⟩, 0, 0, ⟨#[]⟩⟩] = 8 := by decide +kernel
theorem vr2 : checkE [] [⟨1, ⟨#[]⟩, ⟨#[]⟩, 0, 0, ⟨#[]⟩⟩] = 8 := by decide +kernel
theorem vr3 : checkE [] [⟨1, ⟨#[97]⟩, ⟨#[]⟩, 0, 1001, ⟨#[]⟩⟩] = 8 := by decide +kernel
theorem vr4 : checkE [] [⟨1, ⟨#[97]⟩, ⟨#[]⟩, -1, 0, ⟨#[]⟩⟩] = 8 := by decide +kernel
theorem vr5 : checkE [] [⟨1, ⟨#[97]⟩, ⟨#[98]⟩, 0, 0, ⟨#[]⟩⟩] = 8 := by decide +kernel
theorem vr6 : checkE [] [⟨2, ⟨#[97]⟩, ⟨#[97]⟩, 0, 0, ⟨#[]⟩⟩] = 8 := by decide +kernel
theorem vr7 : checkE [] [⟨2, ⟨#[97]⟩, ⟨#[98]⟩, 0, 1, ⟨#[]⟩⟩] = 8 := by decide +kernel
theorem vr8 : checkE [] [⟨3, ⟨#[97]⟩, ⟨#[98]⟩, 1, 0, ⟨#[]⟩⟩] = 8 := by decide +kernel
theorem vr9 : checkE [] [⟨3, ⟨#[97]⟩, ⟨#[66]⟩, 0, 0, ⟨#[]⟩⟩] = 8 := by decide +kernel
theorem vr10 : checkE [] [⟨4, ⟨#[]⟩, ⟨#[]⟩, 8, 0, ⟨#[]⟩⟩] = 8 := by decide +kernel
theorem vr11 : checkE [] [⟨4, ⟨#[97]⟩, ⟨#[]⟩, 0, 0, ⟨#[]⟩⟩] = 8 := by decide +kernel
theorem vr12 : checkE [] [⟨4, ⟨#[]⟩, ⟨#[]⟩, 7, 1000, ⟨#[]⟩⟩] = 0 := by decide +kernel
theorem vr13 : checkE [] [⟨5, ⟨#[]⟩, ⟨#[]⟩, 1, 0, ⟨#[]⟩⟩] = 8 := by decide +kernel
theorem vr14 : checkE [] [⟨5, ⟨#[97]⟩, ⟨#[]⟩, 8, 0, ⟨#[]⟩⟩] = 8 := by decide +kernel
theorem vr15 : checkE [] [⟨4, ⟨#[]⟩, ⟨#[]⟩, 0, 0, ⟨#[97, 32, 98, 32, 99, 32, 100, 32, 101, 32, 102, 32, 103, 32, 104, 32, 105, 32, 106, 32, 107, 32, 108, 32, 109, 32, 110, 32, 111, 32, 112, 32, 113, 32, 114, 32, 115, 32, 116]⟩⟩] = 0 := by decide +kernel
theorem vr16 : checkE [] [⟨4, ⟨#[]⟩, ⟨#[]⟩, 0, 0, ⟨#[97, 32, 98, 32, 99, 32, 100, 32, 101, 32, 102, 32, 103, 32, 104, 32, 105, 32, 106, 32, 107, 32, 108, 32, 109, 32, 110, 32, 111, 32, 112, 32, 113, 32, 114, 32, 115, 32, 116, 32, 53]⟩⟩] = 8 := by decide +kernel
theorem va0 : adE GL [] ⟨⟨#[97]⟩, 0, 0, 1⟩ = 14 := by decide +kernel
theorem va1 : adE GL [] ⟨⟨#[99]⟩, 0, 0, 0⟩ = 8 := by decide +kernel
theorem va2 : adE GL [] ⟨⟨#[99]⟩, 0, 4, 4⟩ = 8 := by decide +kernel
theorem va3 : adE GL [] ⟨⟨#[99]⟩, 0, 0, 1001⟩ = 8 := by decide +kernel
theorem va4 : adE GL [] ⟨⟨#[99]⟩, 8, 0, 1⟩ = 8 := by decide +kernel
theorem va5 : adE GL [] ⟨⟨#[67]⟩, 0, 0, 1⟩ = 8 := by decide +kernel
def GL3 : List Slt := [⟨sA, 0, 0, 4⟩, ⟨sB, 0, 5, 7⟩, ⟨⟨#[99]⟩, 0, 3, 6⟩]
theorem vo : adE GL [] ⟨⟨#[99]⟩, 0, 3, 6⟩ = 0 := by decide +kernel
theorem voL : adL GL [] ⟨⟨#[99]⟩, 0, 3, 6⟩ = GL3 := by unfold adL; rw [vo]; rfl
theorem voR : adR GL [] ⟨⟨#[99]⟩, 0, 3, 6⟩ = [] := by unfold adR; rw [vo]; rfl
theorem vb3 : brL GL3 [] = [(-1, 0, 2), (-1, 1, 2)] ∧ checkE GL3 [] = 0 := by decide +kernel
theorem ve0 : eaV GL3 [] ⟨⟨#[100]⟩, 1, 0, 1⟩ = (0, 36) := by decide +kernel
theorem ve1 : eaV GL [] ⟨⟨#[98]⟩, 0, 0, 1⟩ = (0, 14) := by decide +kernel
theorem ve2 : eaV GL [] ⟨⟨#[99]⟩, 0, 2, 3⟩ = (4, 0) := by decide +kernel
theorem ve3 : eaV GL [] ⟨⟨#[99]⟩, 0, 6, 999⟩ = (7, 0) := by decide +kernel
theorem ve4 : eaV GL [] ⟨⟨#[99]⟩, 0, 6, 1000⟩ = (0, 6) := by decide +kernel
def RL3 : List Rul := [⟨1, ⟨#[97]⟩, ⟨#[]⟩, 1, 9, ⟨#[108, 97, 116, 101]⟩⟩, ⟨1, ⟨#[98]⟩, ⟨#[]⟩, 0, 0, ⟨#[115, 111]⟩⟩, ⟨3, ⟨#[97]⟩, ⟨#[98]⟩, 0, 0, ⟨#[110, 101, 118, 101, 114]⟩⟩]
def RL3b : List Rul := [⟨1, ⟨#[97]⟩, ⟨#[]⟩, 1, 9, ⟨#[108, 97, 116, 101]⟩⟩, ⟨1, ⟨#[98]⟩, ⟨#[]⟩, 0, 0, ⟨#[]⟩⟩, ⟨3, ⟨#[97]⟩, ⟨#[98]⟩, 0, 0, ⟨#[110, 101, 118, 101, 114]⟩⟩]
theorem vov0 : ovE GL [] 0 ⟨#[120]⟩ = 2 := by decide +kernel
theorem vov1 : ovE GL [] (-1) ⟨#[120]⟩ = 2 := by decide +kernel
theorem vx3 : (exL GL RL3).map (fun s => s.data.toList) = [[108, 97, 116, 101], [115, 111]] := by decide +kernel
theorem vx3c : checkE GL RL3 = 0 := by decide +kernel
theorem vx3s : exL GL RL3 = [⟨#[108, 97, 116, 101]⟩, ⟨#[115, 111]⟩] := by decide +kernel
theorem vob3 : obL GL RL3 = true := by decide +kernel
theorem vov3 : ovE GL RL3 1 ⟨#[]⟩ = 0 := by decide +kernel
theorem vov3L : ovL GL RL3 1 ⟨#[]⟩ = GL := by unfold ovL; rw [vov3]; rfl
theorem vov3R : ovRs GL RL3 1 ⟨#[]⟩ = RL3b := by unfold ovRs; rw [vov3]; rfl
theorem vob3b : obL GL RL3b = false ∧ checkE GL RL3b = 0 := by decide +kernel
theorem vov4 : ovE GL RL3 1 ⟨#[97, 32, 98, 32, 99, 32, 100, 32, 101, 32, 102, 32, 103, 32, 104, 32, 105, 32, 106, 32, 107, 32, 108, 32, 109, 32, 110, 32, 111, 32, 112, 32, 113, 32, 114, 32, 115, 32, 116, 32, 53]⟩ = 8 := by decide +kernel
theorem own_two (w : World) (a b c x y z : Int) : (w.alloc (.cells #[.int .i64 a, .int .i64 b, .int .i64 c, .int .i64 x, .int .i64 y, .int .i64 z] 68)).ownsRow w.heap.size 68 3 (.slice (some ⟨w.heap.size, 0, none⟩) 2 2) 2 (bre [(a, b, c), (x, y, z)]) :=
  ⟨rfl, .inr ⟨w.heap.size, 2, _, rfl, Nat.le_refl _, blk_new w _, Nat.le_refl _, by unfold maxLen; omega, rfl, rfl⟩⟩
theorem rd_nil (w : World) : Rd w 3 none 0 (bre []) := ⟨rfl, fun h => absurd h (by omega)⟩
theorem adErr {W : World} {base c : Nat} {A : Option Addr} (oS : OwnsS W base A 2 c GL) (s : Slt) (err : Int) (h : adE GL [] s = err) (he : err ≠ 0) : Calls Try.prog 24 #[Pv A 2 c none 0 0, Sv s] W fun e w' => (∃ (A : Option Addr) (c : Nat) (B : Option Addr) (d : Nat), e = .returned (.tuple #[.agg #[.slice A 0 c, .slice B 0 d], .int .i64 err])) ∧ Below W.heap.size W w' := by
  refine (adO GL_len rfl oS (nilR W 0) s).mono ?_
  rw [(ad_nil h he).1, (ad_nil h he).2, h]
  rintro e w' ⟨v1, v2, rfl, o1, o2, hb⟩
  obtain ⟨A1, c1, rfl, _, _, _⟩ := Rd.of_own o1
  obtain ⟨B1, d1, rfl, _, _, _⟩ := Rd.of_own o2
  exact ⟨⟨A1, c1, B1, d1, rfl⟩, hb⟩
theorem ovErr {W : World} {base base' m c d : Nat} {A B : Option Addr} {rs : List Rul} (hm : rs.length = m) (oS : OwnsS W base A 2 c GL) (oR : OwnsR W base' B m d rs) (rule : Int) (why : ByteArray) (hw : why.size ≤ 9223372036854775807) (err : Int) (h : ovE GL rs rule why = err) (he : err ≠ 0) : Calls Try.prog 22 #[Pv A 2 c B m d, .int .i64 rule, .string why] W fun e w' => (∃ (A : Option Addr) (c : Nat) (B : Option Addr) (d : Nat), e = .returned (.tuple #[.agg #[.slice A 0 c, .slice B 0 d], .int .i64 err])) ∧ Below W.heap.size W w' := by
  refine (ovO GL_len hm oS oR rule why hw).mono ?_
  rw [(ov_nil h he).1, (ov_nil h he).2, h]
  rintro e w' ⟨v1, v2, rfl, o1, o2, hb⟩
  obtain ⟨A1, c1, rfl, _, _, _⟩ := Rd.of_own o1
  obtain ⟨B1, d1, rfl, _, _, _⟩ := Rd.of_own o2
  exact ⟨⟨A1, c1, B1, d1, rfl⟩, hb⟩
def zSl : Slt := ⟨⟨#[]⟩, 0, 0, 0⟩
def zRl : Rul := ⟨0, ⟨#[]⟩, ⟨#[]⟩, 0, 0, ⟨#[]⟩⟩
def Z21 : List Slt := List.replicate 21 zSl
def Z2 : List Slt := List.replicate 2 zSl
def Y21 : List Rul := List.replicate 21 zRl
theorem vz1 : checkE Z21 [] = 4 := by decide +kernel
theorem vz2 : checkE [] Y21 = 4 := by decide +kernel
theorem vz3 : checkE Z2 [] = 14 := by decide +kernel
theorem run_mk (t e : TypeId) (i : TypeInfo) (z : Value) (sz by' : Nat) (ht : Try.prog.underlying t = some (.slice e)) (hi : Try.prog.info? e = some i) (hz : i.zero = some z) (h1 : i.size = sz) (h2 : i.bytes = by') (n : Nat) (hn : by' * n ≤ 281474976710656) (h63 : n ≤ 9223372036854775807) (W : World) : (Instr.makeSlice t (.int .i64 (n : Int)) (.int .i64 (n : Int))).run Try.prog W = .ok (.slice (some ⟨W.heap.size, 0, none⟩) n n) (W.alloc (.cells (madeCells z.cells (n * sz)) e)) := by
  have hb : (i.bytes : Int) * (n : Int) ≤ 281474976710656 := by
    rw [h2]
    have h : ((by' * n : Nat) : Int) ≤ 281474976710656 := by omega
    rwa [Int.natCast_mul] at h
  have := run_make (P := Try.prog) W t e i z ht hi hz .i64 .i64 (n : Int) (n : Int) (by omega) (by omega) hb (by omega)
  rw [h1] at this
  simpa using this
def M1 : Array Value := madeCells zS.cells 84
def M2 : Array Value := madeCells zR.cells 126
def M3 : Array Value := madeCells zS.cells 8
theorem mk1 (W : World) : (Instr.makeSlice 22 (.int .i64 21) (.int .i64 21)).run Try.prog W = .ok (.slice (some ⟨W.heap.size, 0, none⟩) 21 21) (W.alloc (.cells M1 47)) := by
  obtain ⟨i0, hi, hz0, hz1, hz2⟩ := info_parts infoSl
  exact run_mk 22 47 i0 zS 4 40 Try.underlying22 hi hz0 hz1 hz2 21 (by omega) (by omega) W
theorem mk2 (W : World) : (Instr.makeSlice 23 (.int .i64 21) (.int .i64 21)).run Try.prog W = .ok (.slice (some ⟨W.heap.size, 0, none⟩) 21 21) (W.alloc (.cells M2 61)) := by
  obtain ⟨i0, hi, hz0, hz1, hz2⟩ := info_parts infoRu
  exact run_mk 23 61 i0 zR 6 72 Try.underlying23 hi hz0 hz1 hz2 21 (by omega) (by omega) W
theorem mk3 (W : World) : (Instr.makeSlice 22 (.int .i64 2) (.int .i64 2)).run Try.prog W = .ok (.slice (some ⟨W.heap.size, 0, none⟩) 2 2) (W.alloc (.cells M3 47)) := by
  obtain ⟨i0, hi, hz0, hz1, hz2⟩ := info_parts infoSl
  exact run_mk 22 47 i0 zS 4 40 Try.underlying22 hi hz0 hz1 hz2 2 (by omega) (by omega) W
theorem mz1 (W : World) {n : Nat} (hn : n = W.heap.size) : OwnsS (W.alloc (.cells M1 47)) 0 (some ⟨n, 0, none⟩) 21 21 Z21 := ⟨by kernel_rfl, .inr ⟨n, 21, _, rfl, Nat.zero_le _, blk_at _ hn, Nat.le_refl _, by unfold maxLen; omega, by kernel_rfl, by kernel_rfl⟩⟩
theorem my1 (W : World) {n : Nat} (hn : n = W.heap.size) : OwnsR (W.alloc (.cells M2 61)) 0 (some ⟨n, 0, none⟩) 21 21 Y21 := ⟨by kernel_rfl, .inr ⟨n, 21, _, rfl, Nat.zero_le _, blk_at _ hn, Nat.le_refl _, by unfold maxLen; omega, by kernel_rfl, by kernel_rfl⟩⟩
theorem mz2 (W : World) {n : Nat} (hn : n = W.heap.size) : OwnsS (W.alloc (.cells M3 47)) 0 (some ⟨n, 0, none⟩) 2 2 Z2 := ⟨by kernel_rfl, .inr ⟨n, 2, _, rfl, Nat.zero_le _, blk_at _ hn, Nat.le_refl _, by unfold maxLen; omega, by kernel_rfl, by kernel_rfl⟩⟩
theorem own_str2 (w : World) (a b : ByteArray) : (w.alloc (.cells #[.string a, .string b] 9)).ownsRow w.heap.size 9 1 (.slice (some ⟨w.heap.size, 0, none⟩) 2 2) 2 (stc [a, b]) :=
  ⟨rfl, .inr ⟨w.heap.size, 2, _, rfl, Nat.le_refl _, blk_new w _, Nat.le_refl _, by unfold maxLen; omega, rfl, rfl⟩⟩
theorem v00 : checkE [] [] = 0 := by decide +kernel
set_option maxHeartbeats 64000000 in
set_option maxRecDepth 100000 in
theorem walk (w : World) :
    Calls Try.prog 8 #[] w fun e w' => e = .returned (.bool true) ∧ Below w.heap.size w w' := by
  have hm1 := mk1
  have hm2 := mk2
  have hm3 := mk3
  have N0 : Hid (Below w.heap.size w w) := Lib.hid (Below.refl _ _)
  go_enter Try.func8, Try.ntmps8
  go_wp2_with fail
  refine (breaks_calls ⟨1, ⟨#[97]⟩, ⟨#[]⟩, 10, 20, ⟨#[]⟩⟩ [] 0 rfl none 0 (by decide) (by decide) _ (rd_nil _) vk0.1 vk0.2).mono ?_
  rintro e w1 ⟨rfl, hb⟩
  have N1 : Hid (Below w.heap.size w w1) := Lib.hid (Bgo N0.out hb)
  clear N0 hb
  go_wp2_with fail
  refine (breaks_calls ⟨1, ⟨#[97]⟩, ⟨#[]⟩, 11, 20, ⟨#[]⟩⟩ [(0, 0, -1)] 1 rfl (some ⟨w1.heap.size, 0, none⟩) 1 (by decide) (by decide) _ (own_rd (own_single w1 (0) (0) (-1))) vk1.1 vk1.2).mono ?_
  rintro e w2 ⟨rfl, hb⟩
  have N2 : Hid (Below w.heap.size w w2) := Lib.hid (Bgo (Bal N1.out _) hb)
  clear N1 hb
  go_wp2_with fail
  refine (breaks_calls ⟨1, ⟨#[98]⟩, ⟨#[]⟩, 5, 29, ⟨#[]⟩⟩ [(0, 1, -1)] 1 rfl (some ⟨w2.heap.size, 0, none⟩) 1 (by decide) (by decide) _ (own_rd (own_single w2 (0) (1) (-1))) vk2.1 vk2.2).mono ?_
  rintro e w3 ⟨rfl, hb⟩
  have N3 : Hid (Below w.heap.size w w3) := Lib.hid (Bgo (Bal N2.out _) hb)
  clear N2 hb
  go_wp2_with fail
  refine (breaks_calls ⟨1, ⟨#[100]⟩, ⟨#[]⟩, 5, 0, ⟨#[]⟩⟩ [] 0 rfl none 0 (by decide) (by decide) _ (rd_nil _) vk3.1 vk3.2).mono ?_
  rintro e w4 ⟨rfl, hb⟩
  have N4 : Hid (Below w.heap.size w w4) := Lib.hid (Bgo N3.out hb)
  clear N3 hb
  go_wp2_with fail
  refine (breaks_calls ⟨2, ⟨#[97]⟩, ⟨#[98]⟩, 0, 0, ⟨#[]⟩⟩ [] 0 rfl none 0 (by decide) (by decide) _ (rd_nil _) vk4.1 vk4.2).mono ?_
  rintro e w5 ⟨rfl, hb⟩
  have N5 : Hid (Below w.heap.size w w5) := Lib.hid (Bgo N4.out hb)
  clear N4 hb
  go_wp2_with fail
  refine (breaks_calls ⟨2, ⟨#[97]⟩, ⟨#[98]⟩, 1, 0, ⟨#[]⟩⟩ [(0, 0, 1)] 1 rfl (some ⟨w5.heap.size, 0, none⟩) 1 (by decide) (by decide) _ (own_rd (own_single w5 (0) (0) (1))) vk5.1 vk5.2).mono ?_
  rintro e w6 ⟨rfl, hb⟩
  have N6 : Hid (Below w.heap.size w w6) := Lib.hid (Bgo (Bal N5.out _) hb)
  clear N5 hb
  go_wp2_with fail
  refine (breaks_calls ⟨2, ⟨#[98]⟩, ⟨#[97]⟩, 0, 0, ⟨#[]⟩⟩ [(0, 1, 0)] 1 rfl (some ⟨w6.heap.size, 0, none⟩) 1 (by decide) (by decide) _ (own_rd (own_single w6 (0) (1) (0))) vk6.1 vk6.2).mono ?_
  rintro e w7 ⟨rfl, hb⟩
  have N7 : Hid (Below w.heap.size w w7) := Lib.hid (Bgo (Bal N6.out _) hb)
  clear N6 hb
  go_wp2_with fail
  refine (breaks_calls ⟨2, ⟨#[98]⟩, ⟨#[100]⟩, 0, 0, ⟨#[]⟩⟩ [] 0 rfl none 0 (by decide) (by decide) _ (rd_nil _) vk7.1 vk7.2).mono ?_
  rintro e w8 ⟨rfl, hb⟩
  have N8 : Hid (Below w.heap.size w w8) := Lib.hid (Bgo N7.out hb)
  clear N7 hb
  go_wp2_with fail
  refine (breaks_calls ⟨3, ⟨#[99]⟩, ⟨#[98]⟩, 0, 0, ⟨#[]⟩⟩ [(0, 2, 1)] 1 rfl (some ⟨w8.heap.size, 0, none⟩) 1 (by decide) (by decide) _ (own_rd (own_single w8 (0) (2) (1))) vk8.1 vk8.2).mono ?_
  rintro e w9 ⟨rfl, hb⟩
  have N9 : Hid (Below w.heap.size w w9) := Lib.hid (Bgo (Bal N8.out _) hb)
  clear N8 hb
  go_wp2_with fail
  refine (breaks_calls ⟨3, ⟨#[97]⟩, ⟨#[98]⟩, 0, 0, ⟨#[]⟩⟩ [] 0 rfl none 0 (by decide) (by decide) _ (rd_nil _) vk9.1 vk9.2).mono ?_
  rintro e w10 ⟨rfl, hb⟩
  have N10 : Hid (Below w.heap.size w w10) := Lib.hid (Bgo N9.out hb)
  clear N9 hb
  go_wp2_with fail
  refine (breaks_calls ⟨4, ⟨#[]⟩, ⟨#[]⟩, 0, 0, ⟨#[]⟩⟩ [] 0 rfl none 0 (by decide) (by decide) _ (rd_nil _) vk10.1 vk10.2).mono ?_
  rintro e w11 ⟨rfl, hb⟩
  have N11 : Hid (Below w.heap.size w w11) := Lib.hid (Bgo N10.out hb)
  clear N10 hb
  go_wp2_with fail
  refine (breaks_calls ⟨4, ⟨#[]⟩, ⟨#[]⟩, 0, 1, ⟨#[]⟩⟩ [(0, 0, 1)] 1 rfl (some ⟨w11.heap.size, 0, none⟩) 1 (by decide) (by decide) _ (own_rd (own_single w11 (0) (0) (1))) vk11.1 vk11.2).mono ?_
  rintro e w12 ⟨rfl, hb⟩
  have N12 : Hid (Below w.heap.size w w12) := Lib.hid (Bgo (Bal N11.out _) hb)
  clear N11 hb
  go_wp2_with fail
  refine (breaks_calls ⟨4, ⟨#[]⟩, ⟨#[]⟩, 1, 1000, ⟨#[]⟩⟩ [] 0 rfl none 0 (by decide) (by decide) _ (rd_nil _) vk12.1 vk12.2).mono ?_
  rintro e w13 ⟨rfl, hb⟩
  have N13 : Hid (Below w.heap.size w w13) := Lib.hid (Bgo N12.out hb)
  clear N12 hb
  go_wp2_with fail
  refine (breaks_calls ⟨5, ⟨#[98]⟩, ⟨#[]⟩, 0, 20, ⟨#[]⟩⟩ [(0, 0, -1)] 1 rfl (some ⟨w13.heap.size, 0, none⟩) 1 (by decide) (by decide) _ (own_rd (own_single w13 (0) (0) (-1))) vk13.1 vk13.2).mono ?_
  rintro e w14 ⟨rfl, hb⟩
  have N14 : Hid (Below w.heap.size w w14) := Lib.hid (Bgo (Bal N13.out _) hb)
  clear N13 hb
  go_wp2_with fail
  refine (breaks_calls ⟨5, ⟨#[97]⟩, ⟨#[]⟩, 0, 20, ⟨#[]⟩⟩ [] 0 rfl none 0 (by decide) (by decide) _ (rd_nil _) vk14.1 vk14.2).mono ?_
  rintro e w15 ⟨rfl, hb⟩
  have N15 : Hid (Below w.heap.size w w15) := Lib.hid (Bgo N14.out hb)
  clear N14 hb
  go_wp2_with fail
  refine (breaks_calls ⟨5, ⟨#[100]⟩, ⟨#[]⟩, 0, 21, ⟨#[]⟩⟩ [(0, 0, -1), (0, 1, -1)] 2 rfl (some ⟨w15.heap.size, 0, none⟩) 2 (by decide) (by decide) _ (own_rd (own_two w15 (0) (0) (-1) (0) (1) (-1))) vk15.1 vk15.2).mono ?_
  rintro e w16 ⟨rfl, hb⟩
  have N16 : Hid (Below w.heap.size w w16) := Lib.hid (Bgo (Bal N15.out _) hb)
  clear N15 hb
  go_wp2_with fail
  refine (breaks_calls ⟨5, ⟨#[97]⟩, ⟨#[]⟩, 1, 26, ⟨#[]⟩⟩ [(0, 2, -1)] 1 rfl (some ⟨w16.heap.size, 0, none⟩) 1 (by decide) (by decide) _ (own_rd (own_single w16 (0) (2) (-1))) vk16.1 vk16.2).mono ?_
  rintro e w17 ⟨rfl, hb⟩
  have N17 : Hid (Below w.heap.size w w17) := Lib.hid (Bgo (Bal N16.out _) hb)
  clear N16 hb
  go_wp2_with fail
  refine (check1_calls ⟨0, ⟨#[]⟩, ⟨#[]⟩, 0, 0, ⟨#[]⟩⟩ _).mono ?_
  rw [vr0]
  rintro e w18 ⟨rfl, hb⟩
  have N18 : Hid (Below w.heap.size w w18) := Lib.hid (Bgo N17.out hb)
  clear N17 hb
  go_wp2_with fail
  refine (check1_calls ⟨6, ⟨#[]⟩, ⟨#[]⟩, 0, 0, ⟨#[]⟩⟩ _).mono ?_
  rw [vr1]
  rintro e w19 ⟨rfl, hb⟩
  have N19 : Hid (Below w.heap.size w w19) := Lib.hid (Bgo N18.out hb)
  clear N18 hb
  go_wp2_with fail
  refine (check1_calls ⟨1, ⟨#[]⟩, ⟨#[]⟩, 0, 0, ⟨#[]⟩⟩ _).mono ?_
  rw [vr2]
  rintro e w20 ⟨rfl, hb⟩
  have N20 : Hid (Below w.heap.size w w20) := Lib.hid (Bgo N19.out hb)
  clear N19 hb
  go_wp2_with fail
  refine (check1_calls ⟨1, ⟨#[97]⟩, ⟨#[]⟩, 0, 1001, ⟨#[]⟩⟩ _).mono ?_
  rw [vr3]
  rintro e w21 ⟨rfl, hb⟩
  have N21 : Hid (Below w.heap.size w w21) := Lib.hid (Bgo N20.out hb)
  clear N20 hb
  go_wp2_with fail
  refine (check1_calls ⟨1, ⟨#[97]⟩, ⟨#[]⟩, -1, 0, ⟨#[]⟩⟩ _).mono ?_
  rw [vr4]
  rintro e w22 ⟨rfl, hb⟩
  have N22 : Hid (Below w.heap.size w w22) := Lib.hid (Bgo N21.out hb)
  clear N21 hb
  go_wp2_with fail
  refine (check1_calls ⟨1, ⟨#[97]⟩, ⟨#[98]⟩, 0, 0, ⟨#[]⟩⟩ _).mono ?_
  rw [vr5]
  rintro e w23 ⟨rfl, hb⟩
  have N23 : Hid (Below w.heap.size w w23) := Lib.hid (Bgo N22.out hb)
  clear N22 hb
  go_wp2_with fail
  refine (check1_calls ⟨2, ⟨#[97]⟩, ⟨#[97]⟩, 0, 0, ⟨#[]⟩⟩ _).mono ?_
  rw [vr6]
  rintro e w24 ⟨rfl, hb⟩
  have N24 : Hid (Below w.heap.size w w24) := Lib.hid (Bgo N23.out hb)
  clear N23 hb
  go_wp2_with fail
  refine (check1_calls ⟨2, ⟨#[97]⟩, ⟨#[98]⟩, 0, 1, ⟨#[]⟩⟩ _).mono ?_
  rw [vr7]
  rintro e w25 ⟨rfl, hb⟩
  have N25 : Hid (Below w.heap.size w w25) := Lib.hid (Bgo N24.out hb)
  clear N24 hb
  go_wp2_with fail
  refine (check1_calls ⟨3, ⟨#[97]⟩, ⟨#[98]⟩, 1, 0, ⟨#[]⟩⟩ _).mono ?_
  rw [vr8]
  rintro e w26 ⟨rfl, hb⟩
  have N26 : Hid (Below w.heap.size w w26) := Lib.hid (Bgo N25.out hb)
  clear N25 hb
  go_wp2_with fail
  refine (check1_calls ⟨3, ⟨#[97]⟩, ⟨#[66]⟩, 0, 0, ⟨#[]⟩⟩ _).mono ?_
  rw [vr9]
  rintro e w27 ⟨rfl, hb⟩
  have N27 : Hid (Below w.heap.size w w27) := Lib.hid (Bgo N26.out hb)
  clear N26 hb
  go_wp2_with fail
  refine (check1_calls ⟨4, ⟨#[]⟩, ⟨#[]⟩, 8, 0, ⟨#[]⟩⟩ _).mono ?_
  rw [vr10]
  rintro e w28 ⟨rfl, hb⟩
  have N28 : Hid (Below w.heap.size w w28) := Lib.hid (Bgo N27.out hb)
  clear N27 hb
  go_wp2_with fail
  refine (check1_calls ⟨4, ⟨#[97]⟩, ⟨#[]⟩, 0, 0, ⟨#[]⟩⟩ _).mono ?_
  rw [vr11]
  rintro e w29 ⟨rfl, hb⟩
  have N29 : Hid (Below w.heap.size w w29) := Lib.hid (Bgo N28.out hb)
  clear N28 hb
  go_wp2_with fail
  refine (check1_calls ⟨4, ⟨#[]⟩, ⟨#[]⟩, 7, 1000, ⟨#[]⟩⟩ _).mono ?_
  rw [vr12]
  rintro e w30 ⟨rfl, hb⟩
  have N30 : Hid (Below w.heap.size w w30) := Lib.hid (Bgo N29.out hb)
  clear N29 hb
  go_wp2_with fail
  refine (check1_calls ⟨5, ⟨#[]⟩, ⟨#[]⟩, 1, 0, ⟨#[]⟩⟩ _).mono ?_
  rw [vr13]
  rintro e w31 ⟨rfl, hb⟩
  have N31 : Hid (Below w.heap.size w w31) := Lib.hid (Bgo N30.out hb)
  clear N30 hb
  go_wp2_with fail
  refine (check1_calls ⟨5, ⟨#[97]⟩, ⟨#[]⟩, 8, 0, ⟨#[]⟩⟩ _).mono ?_
  rw [vr14]
  rintro e w32 ⟨rfl, hb⟩
  have N32 : Hid (Below w.heap.size w w32) := Lib.hid (Bgo N31.out hb)
  clear N31 hb
  go_wp2_with fail
  refine (check1_calls ⟨4, ⟨#[]⟩, ⟨#[]⟩, 0, 0, ⟨#[97, 32, 98, 32, 99, 32, 100, 32, 101, 32, 102, 32, 103, 32, 104, 32, 105, 32, 106, 32, 107, 32, 108, 32, 109, 32, 110, 32, 111, 32, 112, 32, 113, 32, 114, 32, 115, 32, 116]⟩⟩ _).mono ?_
  rw [vr15]
  rintro e w33 ⟨rfl, hb⟩
  have N33 : Hid (Below w.heap.size w w33) := Lib.hid (Bgo N32.out hb)
  clear N32 hb
  go_wp2_with fail
  refine (check1_calls ⟨4, ⟨#[]⟩, ⟨#[]⟩, 0, 0, ⟨#[97, 32, 98, 32, 99, 32, 100, 32, 101, 32, 102, 32, 103, 32, 104, 32, 105, 32, 106, 32, 107, 32, 108, 32, 109, 32, 110, 32, 111, 32, 112, 32, 113, 32, 114, 32, 115, 32, 116, 32, 53]⟩⟩ _).mono ?_
  rw [vr16]
  rintro e w34 ⟨rfl, hb⟩
  have N34 : Hid (Below w.heap.size w w34) := Lib.hid (Bgo N33.out hb)
  clear N33 hb
  go_wp2_with fail
  refine (given_calls _).mono ?_
  rintro e w35 ⟨gA, gc, rfl, o, _, _, hb⟩
  have gO := Lib.hid o
  clear o
  have N35 : Hid (Below w.heap.size w w35) := Lib.hid (Bgo N34.out hb)
  clear N34 hb
  go_wp2_with fail
  refine (adErr gO.out ⟨⟨#[97]⟩, 0, 0, 1⟩ 14 va0 (by decide)).mono ?_
  rintro e w36 ⟨⟨A, c, B, d, rfl⟩, hb⟩
  have N36 : Hid (Below w.heap.size w w36) := Lib.hid (Bgo N35.out hb)
  clear N35 hb
  clear gO
  go_wp2_with fail
  refine (given_calls _).mono ?_
  rintro e w37 ⟨gA, gc, rfl, o, _, _, hb⟩
  have gO := Lib.hid o
  clear o
  have N37 : Hid (Below w.heap.size w w37) := Lib.hid (Bgo (Bal N36.out _) hb)
  clear N36 hb
  go_wp2_with fail
  refine (adErr gO.out ⟨⟨#[99]⟩, 0, 0, 0⟩ 8 va1 (by decide)).mono ?_
  rintro e w38 ⟨⟨A, c, B, d, rfl⟩, hb⟩
  have N38 : Hid (Below w.heap.size w w38) := Lib.hid (Bgo N37.out hb)
  clear N37 hb
  clear gO
  go_wp2_with fail
  refine (given_calls _).mono ?_
  rintro e w39 ⟨gA, gc, rfl, o, _, _, hb⟩
  have gO := Lib.hid o
  clear o
  have N39 : Hid (Below w.heap.size w w39) := Lib.hid (Bgo (Bal N38.out _) hb)
  clear N38 hb
  go_wp2_with fail
  refine (adErr gO.out ⟨⟨#[99]⟩, 0, 4, 4⟩ 8 va2 (by decide)).mono ?_
  rintro e w40 ⟨⟨A, c, B, d, rfl⟩, hb⟩
  have N40 : Hid (Below w.heap.size w w40) := Lib.hid (Bgo N39.out hb)
  clear N39 hb
  clear gO
  go_wp2_with fail
  refine (given_calls _).mono ?_
  rintro e w41 ⟨gA, gc, rfl, o, _, _, hb⟩
  have gO := Lib.hid o
  clear o
  have N41 : Hid (Below w.heap.size w w41) := Lib.hid (Bgo (Bal N40.out _) hb)
  clear N40 hb
  go_wp2_with fail
  refine (adErr gO.out ⟨⟨#[99]⟩, 0, 0, 1001⟩ 8 va3 (by decide)).mono ?_
  rintro e w42 ⟨⟨A, c, B, d, rfl⟩, hb⟩
  have N42 : Hid (Below w.heap.size w w42) := Lib.hid (Bgo N41.out hb)
  clear N41 hb
  clear gO
  go_wp2_with fail
  refine (given_calls _).mono ?_
  rintro e w43 ⟨gA, gc, rfl, o, _, _, hb⟩
  have gO := Lib.hid o
  clear o
  have N43 : Hid (Below w.heap.size w w43) := Lib.hid (Bgo (Bal N42.out _) hb)
  clear N42 hb
  go_wp2_with fail
  refine (adErr gO.out ⟨⟨#[99]⟩, 8, 0, 1⟩ 8 va4 (by decide)).mono ?_
  rintro e w44 ⟨⟨A, c, B, d, rfl⟩, hb⟩
  have N44 : Hid (Below w.heap.size w w44) := Lib.hid (Bgo N43.out hb)
  clear N43 hb
  clear gO
  go_wp2_with fail
  refine (given_calls _).mono ?_
  rintro e w45 ⟨gA, gc, rfl, o, _, _, hb⟩
  have gO := Lib.hid o
  clear o
  have N45 : Hid (Below w.heap.size w w45) := Lib.hid (Bgo (Bal N44.out _) hb)
  clear N44 hb
  go_wp2_with fail
  refine (adErr gO.out ⟨⟨#[67]⟩, 0, 0, 1⟩ 8 va5 (by decide)).mono ?_
  rintro e w46 ⟨⟨A, c, B, d, rfl⟩, hb⟩
  have N46 : Hid (Below w.heap.size w w46) := Lib.hid (Bgo N45.out hb)
  clear N45 hb
  clear gO
  go_wp2_with fail
  refine (given_calls _).mono ?_
  rintro e w47 ⟨gA, gc, rfl, o, _, _, hb⟩
  have gO := Lib.hid o
  clear o
  have N47 : Hid (Below w.heap.size w w47) := Lib.hid (Bgo (Bal N46.out _) hb)
  clear N46 hb
  go_wp2_with fail
  refine (adO GL_len rfl gO.out (nilR _ 0) ⟨⟨#[99]⟩, 0, 3, 6⟩).mono ?_
  rw [vo, voL, voR]
  rintro e w48 ⟨v1, v2, rfl, o1, o2, hb⟩
  rw [show GL3.length = 3 from rfl] at o1
  obtain ⟨oA, oc, rfl, _, _, _⟩ := Rd.of_own o1
  obtain ⟨oB, od, rfl, _, _, _⟩ := Rd.of_own o2
  have SO := Lib.hid o1
  have RO := Lib.hid o2
  clear o1 o2 gO
  have N48 : Hid (Below w.heap.size w w48) := Lib.hid (Bgo N47.out hb)
  clear N47 hb
  go_wp2_with fail
  refine (brO (show GL3.length = 3 from rfl) rfl (SO.out.alloc _) (RO.out.alloc _)).mono ?_
  rw [vb3.1, vb3.2]
  rintro e w49 ⟨v, rfl, ob, hb⟩
  obtain ⟨bA, bc, rfl, bg, bf, _⟩ := Rd.of_own ob
  have BO : Hid (w49.ownsRow 0 68 3 (.slice bA 2 bc) 2 (bre [(-1, 0, 2), (-1, 1, 2)])) := Lib.hid (ob.mono (Nat.zero_le _))
  have XO : Hid (w49.heap[w48.heap.size]? = some (.cells #[.slice oA 3 oc, .slice oB 0 od] 25)) := Lib.hid (blk_next hb (blk_new w48 _))
  have SO' := Lib.hid (own_next hb (SO.out.alloc _))
  have RO' := Lib.hid (own_next hb (RO.out.alloc _))
  clear SO RO ob
  have N49 : Hid (Below w.heap.size w w49) := Lib.hid (Bgo (Bal N48.out _) hb)
  clear N48 hb
  have x0 : w49.cell? ⟨w48.heap.size, 0, none⟩ = some (.slice oA 3 oc) := blk_cell XO.out 0 _ rfl
  have x1 : w49.cell? ⟨w48.heap.size, 1, none⟩ = some (.slice oB 0 od) := blk_cell XO.out 1 _ rfl
  go_wp2_with fail
  refine (eaO (show GL3.length = 3 from rfl) rfl SO'.out RO'.out ⟨⟨#[100]⟩, 1, 0, 1⟩).mono ?_
  rw [ve0]
  rintro e w50 ⟨rfl, hb⟩
  clear x0 x1 XO SO' RO'
  have BO' : Hid (w50.ownsRow 0 68 3 (.slice bA 2 bc) 2 (bre [(-1, 0, 2), (-1, 1, 2)])) := Lib.hid (own_next hb BO.out)
  clear BO
  have BO := BO'
  clear BO'
  have N50 : Hid (Below w.heap.size w w50) := Lib.hid (Bgo N49.out hb)
  clear N49 hb
  go_wp2_with fail
  refine (given_calls _).mono ?_
  rintro e w51 ⟨gA, gc, rfl, o, _, _, hb⟩
  have gO := Lib.hid o
  clear o
  have BO' : Hid (w51.ownsRow 0 68 3 (.slice bA 2 bc) 2 (bre [(-1, 0, 2), (-1, 1, 2)])) := Lib.hid (own_next hb BO.out)
  clear BO
  have BO := BO'
  clear BO'
  have N51 : Hid (Below w.heap.size w w51) := Lib.hid (Bgo N50.out hb)
  clear N50 hb
  go_wp2_with fail
  refine (eaO GL_len rfl gO.out (nilR _ 0) ⟨⟨#[98]⟩, 0, 0, 1⟩).mono ?_
  rw [ve1]
  rintro e w52 ⟨rfl, hb⟩
  clear gO
  have BO' : Hid (w52.ownsRow 0 68 3 (.slice bA 2 bc) 2 (bre [(-1, 0, 2), (-1, 1, 2)])) := Lib.hid (own_next hb BO.out)
  clear BO
  have BO := BO'
  clear BO'
  have N52 : Hid (Below w.heap.size w w52) := Lib.hid (Bgo N51.out hb)
  clear N51 hb
  go_wp2_with fail
  refine (given_calls _).mono ?_
  rintro e w53 ⟨gA, gc, rfl, o, _, _, hb⟩
  have gO := Lib.hid o
  clear o
  have BO' : Hid (w53.ownsRow 0 68 3 (.slice bA 2 bc) 2 (bre [(-1, 0, 2), (-1, 1, 2)])) := Lib.hid (own_next hb BO.out)
  clear BO
  have BO := BO'
  clear BO'
  have N53 : Hid (Below w.heap.size w w53) := Lib.hid (Bgo N52.out hb)
  clear N52 hb
  go_wp2_with fail
  refine (eaO GL_len rfl gO.out (nilR _ 0) ⟨⟨#[99]⟩, 0, 2, 3⟩).mono ?_
  rw [ve2]
  rintro e w54 ⟨rfl, hb⟩
  clear gO
  have BO' : Hid (w54.ownsRow 0 68 3 (.slice bA 2 bc) 2 (bre [(-1, 0, 2), (-1, 1, 2)])) := Lib.hid (own_next hb BO.out)
  clear BO
  have BO := BO'
  clear BO'
  have N54 : Hid (Below w.heap.size w w54) := Lib.hid (Bgo N53.out hb)
  clear N53 hb
  go_wp2_with fail
  refine (given_calls _).mono ?_
  rintro e w55 ⟨gA, gc, rfl, o, _, _, hb⟩
  have gO := Lib.hid o
  clear o
  have BO' : Hid (w55.ownsRow 0 68 3 (.slice bA 2 bc) 2 (bre [(-1, 0, 2), (-1, 1, 2)])) := Lib.hid (own_next hb BO.out)
  clear BO
  have BO := BO'
  clear BO'
  have N55 : Hid (Below w.heap.size w w55) := Lib.hid (Bgo N54.out hb)
  clear N54 hb
  go_wp2_with fail
  refine (eaO GL_len rfl gO.out (nilR _ 0) ⟨⟨#[99]⟩, 0, 6, 999⟩).mono ?_
  rw [ve3]
  rintro e w56 ⟨rfl, hb⟩
  clear gO
  have BO' : Hid (w56.ownsRow 0 68 3 (.slice bA 2 bc) 2 (bre [(-1, 0, 2), (-1, 1, 2)])) := Lib.hid (own_next hb BO.out)
  clear BO
  have BO := BO'
  clear BO'
  have N56 : Hid (Below w.heap.size w w56) := Lib.hid (Bgo N55.out hb)
  clear N55 hb
  go_wp2_with fail
  refine (given_calls _).mono ?_
  rintro e w57 ⟨gA, gc, rfl, o, _, _, hb⟩
  have gO := Lib.hid o
  clear o
  have BO' : Hid (w57.ownsRow 0 68 3 (.slice bA 2 bc) 2 (bre [(-1, 0, 2), (-1, 1, 2)])) := Lib.hid (own_next hb BO.out)
  clear BO
  have BO := BO'
  clear BO'
  have N57 : Hid (Below w.heap.size w w57) := Lib.hid (Bgo N56.out hb)
  clear N56 hb
  go_wp2_with fail
  refine (eaO GL_len rfl gO.out (nilR _ 0) ⟨⟨#[99]⟩, 0, 6, 1000⟩).mono ?_
  rw [ve4]
  rintro e w58 ⟨rfl, hb⟩
  clear gO
  have BO' : Hid (w58.ownsRow 0 68 3 (.slice bA 2 bc) 2 (bre [(-1, 0, 2), (-1, 1, 2)])) := Lib.hid (own_next hb BO.out)
  clear BO
  have BO := BO'
  clear BO'
  have N58 : Hid (Below w.heap.size w w58) := Lib.hid (Bgo N57.out hb)
  clear N57 hb
  go_wp2_with fail
  refine (given_calls _).mono ?_
  rintro e w59 ⟨gA, gc, rfl, o, _, _, hb⟩
  have gO := Lib.hid o
  clear o
  have BO' : Hid (w59.ownsRow 0 68 3 (.slice bA 2 bc) 2 (bre [(-1, 0, 2), (-1, 1, 2)])) := Lib.hid (own_next hb BO.out)
  clear BO
  have BO := BO'
  clear BO'
  have N59 : Hid (Below w.heap.size w w59) := Lib.hid (Bgo N58.out hb)
  clear N58 hb
  go_wp2_with fail
  refine (ovErr rfl gO.out (nilR _ 0) 0 ⟨#[120]⟩ (by decide) 2 vov0 (by decide)).mono ?_
  rintro e w60 ⟨⟨A, c, B, d, rfl⟩, hb⟩
  clear gO
  have BO' : Hid (w60.ownsRow 0 68 3 (.slice bA 2 bc) 2 (bre [(-1, 0, 2), (-1, 1, 2)])) := Lib.hid (own_next hb BO.out)
  clear BO
  have BO := BO'
  clear BO'
  have N60 : Hid (Below w.heap.size w w60) := Lib.hid (Bgo N59.out hb)
  clear N59 hb
  go_wp2_with fail
  refine (given_calls _).mono ?_
  rintro e w61 ⟨gA, gc, rfl, o, _, _, hb⟩
  have gO := Lib.hid o
  clear o
  have BO' : Hid (w61.ownsRow 0 68 3 (.slice bA 2 bc) 2 (bre [(-1, 0, 2), (-1, 1, 2)])) := Lib.hid (own_next hb (World.ownsRow.alloc BO.out _))
  clear BO
  have BO := BO'
  clear BO'
  have N61 : Hid (Below w.heap.size w w61) := Lib.hid (Bgo (Bal N60.out _) hb)
  clear N60 hb
  go_wp2_with fail
  refine (ovErr rfl gO.out (nilR _ 0) (-1) ⟨#[120]⟩ (by decide) 2 vov1 (by decide)).mono ?_
  rintro e w62 ⟨⟨A, c, B, d, rfl⟩, hb⟩
  clear gO
  have BO' : Hid (w62.ownsRow 0 68 3 (.slice bA 2 bc) 2 (bre [(-1, 0, 2), (-1, 1, 2)])) := Lib.hid (own_next hb BO.out)
  clear BO
  have BO := BO'
  clear BO'
  have N62 : Hid (Below w.heap.size w w62) := Lib.hid (Bgo N61.out hb)
  clear N61 hb
  go_wp2_with fail
  refine (given_calls _).mono ?_
  rintro e w63 ⟨hA, hc, rfl, o, _, _, hb⟩
  have hO := Lib.hid o
  clear o
  have BO' : Hid (w63.ownsRow 0 68 3 (.slice bA 2 bc) 2 (bre [(-1, 0, 2), (-1, 1, 2)])) := Lib.hid (own_next hb (World.ownsRow.alloc BO.out _))
  clear BO
  have BO := BO'
  clear BO'
  have N63 : Hid (Below w.heap.size w w63) := Lib.hid (Bgo (Bal N62.out _) hb)
  clear N62 hb
  go_wp2_with fail
  have SH : Hid (OwnsS ((w63.alloc (.cells #[.slice hA 2 hc, .slice (some ⟨w63.heap.size + 1, 0, none⟩) 3 3] 25)).alloc (.cells #[.int .u8 1, .string ⟨#[97]⟩, .string ⟨#[]⟩, .int .i64 1, .int .i64 9, .string ⟨#[108, 97, 116, 101]⟩, .int .u8 1, .string ⟨#[98]⟩, .string ⟨#[]⟩, .int .i64 0, .int .i64 0, .string ⟨#[115, 111]⟩, .int .u8 3, .string ⟨#[97]⟩, .string ⟨#[98]⟩, .int .i64 0, .int .i64 0, .string ⟨#[110, 101, 118, 101, 114]⟩] 61)) 0 hA 2 hc GL) := Lib.hid (((hO.out.alloc _).alloc _).mono (Nat.zero_le _))
  have RH : Hid (OwnsR ((w63.alloc (.cells #[.slice hA 2 hc, .slice (some ⟨w63.heap.size + 1, 0, none⟩) 3 3] 25)).alloc (.cells #[.int .u8 1, .string ⟨#[97]⟩, .string ⟨#[]⟩, .int .i64 1, .int .i64 9, .string ⟨#[108, 97, 116, 101]⟩, .int .u8 1, .string ⟨#[98]⟩, .string ⟨#[]⟩, .int .i64 0, .int .i64 0, .string ⟨#[115, 111]⟩, .int .u8 3, .string ⟨#[97]⟩, .string ⟨#[98]⟩, .int .i64 0, .int .i64 0, .string ⟨#[110, 101, 118, 101, 114]⟩] 61)) 0 (some ⟨w63.heap.size + 1, 0, none⟩) 3 3 RL3) := Lib.hid ⟨rfl, .inr ⟨w63.heap.size + 1, 3, _, rfl, Nat.zero_le _, blk_at _ (by simp), Nat.le_refl _, by unfold maxLen; omega, rfl, rfl⟩⟩
  have XH : Hid (((w63.alloc (.cells #[.slice hA 2 hc, .slice (some ⟨w63.heap.size + 1, 0, none⟩) 3 3] 25)).alloc (.cells #[.int .u8 1, .string ⟨#[97]⟩, .string ⟨#[]⟩, .int .i64 1, .int .i64 9, .string ⟨#[108, 97, 116, 101]⟩, .int .u8 1, .string ⟨#[98]⟩, .string ⟨#[]⟩, .int .i64 0, .int .i64 0, .string ⟨#[115, 111]⟩, .int .u8 3, .string ⟨#[97]⟩, .string ⟨#[98]⟩, .int .i64 0, .int .i64 0, .string ⟨#[110, 101, 118, 101, 114]⟩] 61)).heap[w63.heap.size]? = some (.cells #[.slice hA 2 hc, .slice (some ⟨w63.heap.size + 1, 0, none⟩) 3 3] 25)) := Lib.hid (blk_alloc (blk_new w63 _) _)
  clear hO
  refine (exO GL_len (show RL3.length = 3 from rfl) SH.out RH.out).mono ?_
  rw [vx3c, vx3s]
  rintro e w64 ⟨v, rfl, oe, hb⟩
  obtain ⟨tA, tc, rfl, tg, tf, _⟩ := Rd.of_own oe
  have TO : Hid (w64.ownsRow 0 9 1 (.slice tA 2 tc) 2 (stc [⟨#[108, 97, 116, 101]⟩, ⟨#[115, 111]⟩])) := Lib.hid (oe.mono (Nat.zero_le _))
  clear oe
  have BO' : Hid (w64.ownsRow 0 68 3 (.slice bA 2 bc) 2 (bre [(-1, 0, 2), (-1, 1, 2)])) := Lib.hid (own_next hb (World.ownsRow.alloc (World.ownsRow.alloc BO.out _) _))
  clear BO
  have BO := BO'
  clear BO'
  have SH' : Hid (w64.ownsRow 0 47 4 (.slice hA 2 hc) 2 (slc GL)) := Lib.hid (own_next hb SH.out)
  clear SH
  have SH := SH'
  clear SH'
  have RH' : Hid (w64.ownsRow 0 61 6 (.slice (some ⟨w63.heap.size + 1, 0, none⟩) 3 3) 3 (rlc RL3)) := Lib.hid (own_next hb RH.out)
  clear RH
  have RH := RH'
  clear RH'
  have XH' : Hid (w64.heap[w63.heap.size]? = some (.cells #[.slice hA 2 hc, .slice (some ⟨w63.heap.size + 1, 0, none⟩) 3 3] 25)) := Lib.hid (blk_next hb XH.out)
  clear XH
  have XH := XH'
  clear XH'
  have N64 : Hid (Below w.heap.size w w64) := Lib.hid (Bgo (Bal (Bal N63.out _) _) hb)
  clear N63 hb
  have x0 : w64.cell? ⟨w63.heap.size, 0, none⟩ = some (.slice hA 2 hc) := blk_cell XH.out 0 _ rfl
  have x1 : w64.cell? ⟨w63.heap.size, 1, none⟩ = some (.slice (some ⟨w63.heap.size + 1, 0, none⟩) 3 3) := blk_cell XH.out 1 _ rfl
  go_wp2_with fail
  refine (obO GL_len (show RL3.length = 3 from rfl) SH.out RH.out).mono ?_
  rw [vob3, vx3c]
  rintro e w65 ⟨rfl, hb⟩
  clear x0 x1
  have BO' : Hid (w65.ownsRow 0 68 3 (.slice bA 2 bc) 2 (bre [(-1, 0, 2), (-1, 1, 2)])) := Lib.hid (own_next hb BO.out)
  clear BO
  have BO := BO'
  clear BO'
  have SH' : Hid (w65.ownsRow 0 47 4 (.slice hA 2 hc) 2 (slc GL)) := Lib.hid (own_next hb SH.out)
  clear SH
  have SH := SH'
  clear SH'
  have RH' : Hid (w65.ownsRow 0 61 6 (.slice (some ⟨w63.heap.size + 1, 0, none⟩) 3 3) 3 (rlc RL3)) := Lib.hid (own_next hb RH.out)
  clear RH
  have RH := RH'
  clear RH'
  have XH' : Hid (w65.heap[w63.heap.size]? = some (.cells #[.slice hA 2 hc, .slice (some ⟨w63.heap.size + 1, 0, none⟩) 3 3] 25)) := Lib.hid (blk_next hb XH.out)
  clear XH
  have XH := XH'
  clear XH'
  have TO' : Hid (w65.ownsRow 0 9 1 (.slice tA 2 tc) 2 (stc [⟨#[108, 97, 116, 101]⟩, ⟨#[115, 111]⟩])) := Lib.hid (own_next hb TO.out)
  clear TO
  have TO := TO'
  clear TO'
  have N65 : Hid (Below w.heap.size w w65) := Lib.hid (Bgo N64.out hb)
  clear N64 hb
  have x0 : w65.cell? ⟨w63.heap.size, 0, none⟩ = some (.slice hA 2 hc) := blk_cell XH.out 0 _ rfl
  have x1 : w65.cell? ⟨w63.heap.size, 1, none⟩ = some (.slice (some ⟨w63.heap.size + 1, 0, none⟩) 3 3) := blk_cell XH.out 1 _ rfl
  go_wp2_with fail
  clear x0 x1
  refine (ovO GL_len (show RL3.length = 3 from rfl) SH.out RH.out 1 ⟨#[]⟩ (by decide)).mono ?_
  rw [vov3, vov3L, vov3R]
  rintro e w66 ⟨v1, v2, rfl, o1, o2, hb⟩
  rw [GL_len] at o1
  rw [show RL3b.length = 3 from rfl] at o2
  obtain ⟨kA, kc, rfl, _, _, _⟩ := Rd.of_own o1
  obtain ⟨kB, kd, rfl, _, _, _⟩ := Rd.of_own o2
  have SB := Lib.hid o1
  have RB := Lib.hid o2
  clear o1 o2
  have BO' : Hid (w66.ownsRow 0 68 3 (.slice bA 2 bc) 2 (bre [(-1, 0, 2), (-1, 1, 2)])) := Lib.hid (own_next hb BO.out)
  clear BO
  have BO := BO'
  clear BO'
  have SH' : Hid (w66.ownsRow 0 47 4 (.slice hA 2 hc) 2 (slc GL)) := Lib.hid (own_next hb SH.out)
  clear SH
  have SH := SH'
  clear SH'
  have RH' : Hid (w66.ownsRow 0 61 6 (.slice (some ⟨w63.heap.size + 1, 0, none⟩) 3 3) 3 (rlc RL3)) := Lib.hid (own_next hb RH.out)
  clear RH
  have RH := RH'
  clear RH'
  have XH' : Hid (w66.heap[w63.heap.size]? = some (.cells #[.slice hA 2 hc, .slice (some ⟨w63.heap.size + 1, 0, none⟩) 3 3] 25)) := Lib.hid (blk_next hb XH.out)
  clear XH
  have XH := XH'
  clear XH'
  have TO' : Hid (w66.ownsRow 0 9 1 (.slice tA 2 tc) 2 (stc [⟨#[108, 97, 116, 101]⟩, ⟨#[115, 111]⟩])) := Lib.hid (own_next hb TO.out)
  clear TO
  have TO := TO'
  clear TO'
  have N66 : Hid (Below w.heap.size w w66) := Lib.hid (Bgo N65.out hb)
  clear N65 hb
  go_wp2_with fail
  refine (obO GL_len (show RL3b.length = 3 from rfl) (SB.out.alloc _) (RB.out.alloc _)).mono ?_
  rw [vob3b.1, vob3b.2]
  rintro e w67 ⟨rfl, hb⟩
  clear SB RB
  have BO' : Hid (w67.ownsRow 0 68 3 (.slice bA 2 bc) 2 (bre [(-1, 0, 2), (-1, 1, 2)])) := Lib.hid (own_next hb (World.ownsRow.alloc BO.out _))
  clear BO
  have BO := BO'
  clear BO'
  have SH' : Hid (w67.ownsRow 0 47 4 (.slice hA 2 hc) 2 (slc GL)) := Lib.hid (own_next hb (World.ownsRow.alloc SH.out _))
  clear SH
  have SH := SH'
  clear SH'
  have RH' : Hid (w67.ownsRow 0 61 6 (.slice (some ⟨w63.heap.size + 1, 0, none⟩) 3 3) 3 (rlc RL3)) := Lib.hid (own_next hb (World.ownsRow.alloc RH.out _))
  clear RH
  have RH := RH'
  clear RH'
  have XH' : Hid (w67.heap[w63.heap.size]? = some (.cells #[.slice hA 2 hc, .slice (some ⟨w63.heap.size + 1, 0, none⟩) 3 3] 25)) := Lib.hid (blk_next hb (blk_alloc XH.out _))
  clear XH
  have XH := XH'
  clear XH'
  have TO' : Hid (w67.ownsRow 0 9 1 (.slice tA 2 tc) 2 (stc [⟨#[108, 97, 116, 101]⟩, ⟨#[115, 111]⟩])) := Lib.hid (own_next hb (World.ownsRow.alloc TO.out _))
  clear TO
  have TO := TO'
  clear TO'
  have N67 : Hid (Below w.heap.size w w67) := Lib.hid (Bgo (Bal N66.out _) hb)
  clear N66 hb
  have x0 : w67.cell? ⟨w63.heap.size, 0, none⟩ = some (.slice hA 2 hc) := blk_cell XH.out 0 _ rfl
  have x1 : w67.cell? ⟨w63.heap.size, 1, none⟩ = some (.slice (some ⟨w63.heap.size + 1, 0, none⟩) 3 3) := blk_cell XH.out 1 _ rfl
  go_wp2_with fail
  refine (ovErr (show RL3.length = 3 from rfl) SH.out RH.out 1 ⟨#[97, 32, 98, 32, 99, 32, 100, 32, 101, 32, 102, 32, 103, 32, 104, 32, 105, 32, 106, 32, 107, 32, 108, 32, 109, 32, 110, 32, 111, 32, 112, 32, 113, 32, 114, 32, 115, 32, 116, 32, 53]⟩ (by decide) 8 vov4 (by decide)).mono ?_
  rintro e w68 ⟨⟨A, c, B, d, rfl⟩, hb⟩
  clear x0 x1
  have BO' : Hid (w68.ownsRow 0 68 3 (.slice bA 2 bc) 2 (bre [(-1, 0, 2), (-1, 1, 2)])) := Lib.hid (own_next hb BO.out)
  clear BO
  have BO := BO'
  clear BO'
  have SH' : Hid (w68.ownsRow 0 47 4 (.slice hA 2 hc) 2 (slc GL)) := Lib.hid (own_next hb SH.out)
  clear SH
  have SH := SH'
  clear SH'
  have RH' : Hid (w68.ownsRow 0 61 6 (.slice (some ⟨w63.heap.size + 1, 0, none⟩) 3 3) 3 (rlc RL3)) := Lib.hid (own_next hb RH.out)
  clear RH
  have RH := RH'
  clear RH'
  have XH' : Hid (w68.heap[w63.heap.size]? = some (.cells #[.slice hA 2 hc, .slice (some ⟨w63.heap.size + 1, 0, none⟩) 3 3] 25)) := Lib.hid (blk_next hb XH.out)
  clear XH
  have XH := XH'
  clear XH'
  have TO' : Hid (w68.ownsRow 0 9 1 (.slice tA 2 tc) 2 (stc [⟨#[108, 97, 116, 101]⟩, ⟨#[115, 111]⟩])) := Lib.hid (own_next hb TO.out)
  clear TO
  have TO := TO'
  clear TO'
  have N68 : Hid (Below w.heap.size w w68) := Lib.hid (Bgo N67.out hb)
  clear N67 hb
  clear SH RH XH
  go_wp2_with fail
  refine (ckO (l := Z21) (rs := []) rfl rfl (mz1 _ (by simp)) (nilR _ 0)).mono ?_
  rw [vz1]
  rintro e w69 ⟨rfl, hb⟩
  have BO' : Hid (w69.ownsRow 0 68 3 (.slice bA 2 bc) 2 (bre [(-1, 0, 2), (-1, 1, 2)])) := Lib.hid (own_next hb (World.ownsRow.alloc (World.ownsRow.alloc BO.out _) _))
  clear BO
  have BO := BO'
  clear BO'
  have TO' : Hid (w69.ownsRow 0 9 1 (.slice tA 2 tc) 2 (stc [⟨#[108, 97, 116, 101]⟩, ⟨#[115, 111]⟩])) := Lib.hid (own_next hb (World.ownsRow.alloc (World.ownsRow.alloc TO.out _) _))
  clear TO
  have TO := TO'
  clear TO'
  have N69 : Hid (Below w.heap.size w w69) := Lib.hid (Bgo (Bal (Bal N68.out _) _) hb)
  clear N68 hb
  go_wp2_with fail
  refine (ckO (l := []) (rs := Y21) rfl rfl (World.ownsRow_nil _ 0 _ _) (my1 _ (by simp))).mono ?_
  rw [vz2]
  rintro e w70 ⟨rfl, hb⟩
  have BO' : Hid (w70.ownsRow 0 68 3 (.slice bA 2 bc) 2 (bre [(-1, 0, 2), (-1, 1, 2)])) := Lib.hid (own_next hb (World.ownsRow.alloc BO.out _))
  clear BO
  have BO := BO'
  clear BO'
  have TO' : Hid (w70.ownsRow 0 9 1 (.slice tA 2 tc) 2 (stc [⟨#[108, 97, 116, 101]⟩, ⟨#[115, 111]⟩])) := Lib.hid (own_next hb (World.ownsRow.alloc TO.out _))
  clear TO
  have TO := TO'
  clear TO'
  have N70 : Hid (Below w.heap.size w w70) := Lib.hid (Bgo (Bal N69.out _) hb)
  clear N69 hb
  go_wp2_with fail
  refine (ckO (l := Z2) (rs := []) rfl rfl (mz2 _ (by simp)) (nilR _ 0)).mono ?_
  rw [vz3]
  rintro e w71 ⟨rfl, hb⟩
  have BO' : Hid (w71.ownsRow 0 68 3 (.slice bA 2 bc) 2 (bre [(-1, 0, 2), (-1, 1, 2)])) := Lib.hid (own_next hb (World.ownsRow.alloc BO.out _))
  clear BO
  have BO := BO'
  clear BO'
  have TO' : Hid (w71.ownsRow 0 9 1 (.slice tA 2 tc) 2 (stc [⟨#[108, 97, 116, 101]⟩, ⟨#[115, 111]⟩])) := Lib.hid (own_next hb (World.ownsRow.alloc TO.out _))
  clear TO
  have TO := TO'
  clear TO'
  have N71 : Hid (Below w.heap.size w w71) := Lib.hid (Bgo (Bal N70.out _) hb)
  clear N70 hb
  go_wp2_with fail
  refine (sameBreaches_calls bA (some ⟨w71.heap.size, 0, none⟩) bc 2 [(-1, 0, 2), (-1, 1, 2)] _ bg bf (by decide) (by decide) (bres_rd (own_rd (BO.out.alloc _))) (bres_rd (own_rd (own_two w71 (-1) 0 2 (-1) 1 2)))).mono ?_
  rintro e wx ⟨rfl, nx, rfl⟩
  have N72 : Hid (Below w.heap.size w ((w71.alloc (.cells #[.int .i64 (-1), .int .i64 0, .int .i64 2, .int .i64 (-1), .int .i64 1, .int .i64 2] 68)).drewN nx)) := Lib.hid (below_drewN (Bal N71.out _) _)
  have TO2 := Lib.hid (show ((w71.alloc (.cells #[.int .i64 (-1), .int .i64 0, .int .i64 2, .int .i64 (-1), .int .i64 1, .int .i64 2] 68)).drewN nx).ownsRow _ _ _ _ _ _ from TO.out.alloc _)
  clear TO N71 BO
  generalize (w71.alloc (.cells #[.int .i64 (-1), .int .i64 0, .int .i64 2, .int .i64 (-1), .int .i64 1, .int .i64 2] 68)).drewN nx = w72 at *
  go_wp2_with fail
  refine (sameTexts_calls tA (some ⟨w72.heap.size, 0, none⟩) tc 2 [⟨#[108, 97, 116, 101]⟩, ⟨#[115, 111]⟩] _ tg tf (by decide) (by decide) (own_rd (TO2.out.alloc _)) (own_rd (own_str2 w72 _ _))).mono ?_
  rintro e wy ⟨rfl, ny, rfl⟩
  have NY : Hid (Below w.heap.size w ((w72.alloc (.cells #[.string ⟨#[108, 97, 116, 101]⟩, .string ⟨#[115, 111]⟩] 9)).drewN ny)) := Lib.hid (below_drewN (Bal N72.out _) _)
  clear TO2 N72
  generalize (w72.alloc (.cells #[.string ⟨#[108, 97, 116, 101]⟩, .string ⟨#[115, 111]⟩] 9)).drewN ny = wz at *
  go_wp2_with fail
  refine (ckO (l := []) (rs := []) rfl rfl (World.ownsRow_nil _ 0 _ _) (nilR _ 0)).mono ?_
  rw [v00]
  rintro e wq ⟨rfl, hb⟩
  have NQ : Hid (Below w.heap.size w wq) := Lib.hid (Bgo NY.out hb)
  clear hb NY
  go_wp2_with fail
  refine (alive_calls _).mono ?_
  rintro e wr ⟨rfl, hb⟩
  have NR : Hid (Below w.heap.size w wr) := Lib.hid (Bgo NQ.out hb)
  clear hb NQ
  go_wp2_with fail
  go_ret
  exact ⟨by first | rfl | simp, NR.out⟩

set_option maxRecDepth 100000 in
theorem lifted (os : Os) (started : os.Started) (H : Type) (enc : TypeId × Value → H) :
    ReturnsInHanded {} Try.checked os 8 .any (Rows.planNamesSpec.pre6 enc Try.prog Try.f8 Rows.planNamesRow.domain false) (Rows.planNamesSpec.post enc Try.prog Try.f8 false true false false) := by
  refine returnsInHanded_of_change (C := Try.checked) own started (by kernel_rfl) Try.func8
    (ChangeSpec.witness6 (enc := enc) (C := Try.checked) false ⟨#[], #[], []⟩ 8 (by kernel_rfl) (by kernel_rfl) (by kernel_rfl) (by kernel_rfl)) ?_
  intro W base args ds gs before hval0 hW hcnd _
  have hval : ∀ (j : Nat) t v, Try.f8.params[j]? = some t → args[j]? = some v → Value.okWide Try.prog W .any base t v := hval0
  have hW' := hW
  obtain ⟨p, q, hA0, hV, rfl, hfz, hnd⟩ := hW
  have hA : DataW.TrodAll enc Try.prog W 0 (fun _ => true) true Try.f8.params.toList args.toList ds p := hA0
  rw [Try.params8] at hA hval
  obtain ⟨hargs, rfl, rfl⟩ := trodAll_nil hA
  obtain rfl : args = #[] := by cases args; simp_all
  obtain ⟨rfl, rfl⟩ := trodVars_none hV
  clear hA0 hval0
  refine (walk W).mono fun e W' ⟨he, bel⟩ => ?_
  subst he
  exact ⟨_, rfl, _, _, _, [], _, [], hW', trodAll_mk1 (shut_bool Try.underlying4 _), trodAll_mk0, rfl, bel.frame _, fun h => by cases h⟩

theorem over : Rows.planNamesRow.holds Try.pinned (OpenSpec.ofChange Rows.planNamesSpec) :=
  OpenClaim.holds_of_wide 8 Try.f8 rfl rfl rfl rfl rfl rfl rfl ⟨rfl, rfl, rfl, rfl, rfl⟩ rfl rfl rfl rfl rfl (by kernel_rfl) Try.func8 (by kernel_rfl)
    (of_decide_eq_true (by kernel_rfl)) (by unfold Func.isWrapper; first | (rw [if_pos (by decide +kernel)]; kernel_rfl) | (rw [if_neg (by decide +kernel)]; exact ⟨rfl, rfl⟩))
    (fun os started H enc _ => lifted os started H enc)

theorem proved : Rows.PlanNamesSaid := over
#print axioms proved
end Go.Proofs.Ythmfjlphmamegaa.planNames
