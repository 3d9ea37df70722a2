/- Facts of layer 1's examples. -/
import Derived.Test.YtpeoecgehdicmaaDoorFtg
namespace Go.Proofs.YtpeoecgehdicmaaDoor
open Go.ChangeShapes Go.WideShapes Go.ChangeAt Go.RowKit
set_option linter.unusedVariables false
attribute [local go_sem ↓] Go.wp_at_zero Go.wp_at_succ

theorem mkA : makeF (-9223372036854775808) 4611686018427387904 = (-2, 1, 0) := by decide +kernel
theorem mkB : makeF 9223372036854775807 3 = (0, 0, 16) := by decide +kernel
theorem mkC : makeF 1 0 = (0, 0, 18) := by decide +kernel
theorem adA : addR 1000000000000000000 1 (-1000000000000000000) 1 = (0, 1, 0) := by decide +kernel
theorem adB : addR 1000000000000000000 1 1 1000000000000000000 = (0, 0, 16) := by decide +kernel
theorem adC : addR 1 1000000000000000000 999999999999999999 1000000000000000000 = (1, 1, 0) := by decide +kernel
theorem dvA : divR 1 2 0 1 = (0, 0, 18) := by decide +kernel
theorem sbA : subR 1 2 2 2 = (0, 0, 8) := by decide +kernel
theorem nrA : NearR 999999999999999999 1000000000000000000 999999999999999999 (999999999999999998, 999999999999999999, 0) := nearC (p := 999999999999999998) (q := 999999999999999999) (p' := 1) (q' := 1) (by decide +kernel) (by decide) (by decide) (by decide) (by constructor <;> decide +kernel) (by decide +kernel)
theorem nrD : NearR (-1) 3 2 (-1, 2, 0) := nearC (p := -1) (q := 2) (p' := 0) (q' := 1) (by decide +kernel) (by decide) (by decide) (by decide) (by constructor <;> decide +kernel) (by decide +kernel)
theorem nrE : NearR (-3) 2 1 (-2, 1, 0) := nearC (p := -2) (q := 1) (p' := -1) (q' := 1) (by decide +kernel) (by decide) (by decide) (by decide) (by constructor <;> decide +kernel) (by decide +kernel)
theorem nrB : NearR 1 2 0 (0, 0, 2) := .inr (.inl ⟨by decide, .inl (by decide), rfl⟩)
theorem nrC : NearR 1 2 1000000000000000001 (0, 0, 2) := .inr (.inl ⟨by decide, .inr (by decide), rfl⟩)
theorem fdA : foldR [0, 1000000000000000000] = (1, 1000000000000000000, 0) := by decide +kernel
theorem fdB : foldR [1000000000000000000, 1000000000000000000] = (0, 0, 16) := by decide +kernel
theorem fdC : foldR [1, 0] = (0, 0, 2) := by decide +kernel
theorem fdD : foldR [] = (0, 0, 4) := by decide +kernel
theorem fdE : foldR (List.replicate 101 0) = (0, 0, 4) := by decide +kernel
theorem fdF : foldR [-1000000000000000001] = (0, 0, 2) := by decide +kernel
theorem fdG : foldR [2, 1, 1] = (5, 2, 0) := by decide +kernel
theorem fdH : foldR [1, 9223372036854775807] = (0, 0, 16) := by decide +kernel
theorem foldC {A : Option Addr} {c n : Nat} {L : List Int} {r : Int × Int × Int} (hn : L.length = n) (hf : foldR L = r) (hL : ∀ x ∈ L, -9223372036854775808 ≤ x ∧ x ≤ 9223372036854775807) (w : World) (h1 : n ≤ c) (h2 : c ≤ 9223372036854775807) (ha : Rd w 1 A n (lv L)) :
    Calls Tryd.prog 8 #[.slice A n c] w fun e w' => e = .returned (Rv r) ∧ Below w.heap.size w w' := by
  subst hn
  subst hf
  exact fold_calls A c L w hL h1 h2 ha
theorem size_new (w : World) (o : Obj) : (w.alloc o).heap.size = w.heap.size + 1 := by first | rfl | exact Array.size_push .. | simp | simp [World.alloc]
def M101 : Array Value := madeCells (Value.int .i64 0).cells 101
theorem mk101 (W : World) : (Instr.makeSlice 24 (.int .i64 101) (.int .i64 101)).run Tryd.prog W = .ok (.slice (some ⟨W.heap.size, 0, none⟩) 101 101) (W.alloc (.cells M101 2)) := by
  obtain ⟨i0, hi, hz0, hz1, hz2⟩ := info_parts i64_info
  have := run_make (P := Tryd.prog) W 24 2 i0 (.int .i64 0) Tryd.underlying24 hi hz0 .i64 .i64 (101 : Int) (101 : Int) (by omega) (by omega) (by rw [hz2]; omega) (by omega)
  rw [hz1] at this
  simpa [M101] using this
theorem m101 : M101.toList = lv (List.replicate 101 0) := by kernel_rfl
/- a string with no fraction -/
def okT (l : List UInt8) : Bool :=
  match Lib.parseIntB 64 (Lib.cut l [47]).1 with
  | .ok n => if (Lib.cut l [47]).2.2 then (match Lib.parseIntB 64 (Lib.cut l [47]).2.1 with | .ok d => decide (errF n d = 0) && (!decide (d = 1) && decide (textL n d = l)) | _ => false) else decide (errF n 1 = 0) && decide (textL n 1 = l)
  | _ => false
theorem no_text {l : List UInt8} (h : okT l = false) : ∀ n d, VF n d → textL n d ≠ l := by
  intro n d v e
  subst e
  unfold okT at h
  rw [cut_text] at h
  simp only [v.itoaN] at h
  by_cases k : d = 1
  · subst k
    simp [v.err] at h
  · simp [k, v.itoaD, v.err] at h
theorem refused_calls (s : ByteArray) (w : World) (g : GL w) (h : okT s.data.toList = false) :
    Calls Tryd.prog 24 #[.string s] w fun e w' => e = .returned (.bool true) ∧ Below w.heap.size w w' := by
  have C1 := Lib.hid (fun W (h : GL W) => parseP_calls s W h)
  have HN := Lib.hid (PR.none (no_text h))
  have GG := Lib.hid g
  clear h g
  go_enter Tryd.func24, Tryd.ntmps24
  go_wp2_with fail
  refine (C1.out _ GG.out).mono ?_
  rintro e w1 ⟨r, rfl, hr, hb⟩
  obtain rfl := HN.out.unique hr
  clear hr HN
  have NN := Lib.hid hb
  clear hb
  replace NN := Lib.hid (Bal NN.out (.cells #[.int .i64 0, .int .i64 0] 23))
  go_wp2_with fail
  go_ret
  exact ⟨rfl, NN.out⟩
theorem tx0 : okT (⟨#[]⟩ : ByteArray).data.toList = false := by decide +kernel
theorem tx1 : okT (⟨#[49, 47]⟩ : ByteArray).data.toList = false := by decide +kernel
theorem tx2 : okT (⟨#[47, 49]⟩ : ByteArray).data.toList = false := by decide +kernel
theorem tx3 : okT (⟨#[50, 47, 52]⟩ : ByteArray).data.toList = false := by decide +kernel
theorem tx4 : okT (⟨#[49, 47, 49]⟩ : ByteArray).data.toList = false := by decide +kernel
theorem tx5 : okT (⟨#[45, 48]⟩ : ByteArray).data.toList = false := by decide +kernel
theorem tx6 : okT (⟨#[48, 49]⟩ : ByteArray).data.toList = false := by decide +kernel
theorem tx7 : okT (⟨#[43, 49]⟩ : ByteArray).data.toList = false := by decide +kernel
theorem tx8 : okT (⟨#[49, 47, 45, 50]⟩ : ByteArray).data.toList = false := by decide +kernel
theorem tx9 : okT (⟨#[49, 48, 48, 48, 48, 48, 48, 48, 48, 48, 48, 48, 48, 48, 48, 48, 48, 48, 49]⟩ : ByteArray).data.toList = false := by decide +kernel
theorem tx10 : okT (⟨#[57, 50, 50, 51, 51, 55, 50, 48, 51, 54, 56, 53, 52, 55, 55, 53, 56, 48, 56]⟩ : ByteArray).data.toList = false := by decide +kernel
theorem tx11 : okT (⟨#[49, 47, 50, 47, 51]⟩ : ByteArray).data.toList = false := by decide +kernel
theorem tx12 : okT (⟨#[49, 32]⟩ : ByteArray).data.toList = false := by decide +kernel
end Go.Proofs.YtpeoecgehdicmaaDoor
