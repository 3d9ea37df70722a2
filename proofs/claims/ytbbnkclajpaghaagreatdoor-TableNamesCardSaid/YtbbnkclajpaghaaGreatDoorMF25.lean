/- Several texts in one. -/
import Derived.StillTail
import Derived.StillTailTactics
import Derived.Test.YtbbnkclajpaghaaGreatDoorMF08
import Derived.Test.YtbbnkclajpaghaaGreatDoorMF22
import Derived.Test.YtbbnkclajpaghaaGreatDoorMF23
import Derived.Test.YtbbnkclajpaghaaGreatDoorMF24
set_option maxHeartbeats 16000000
set_option maxRecDepth 100000
set_option linter.unusedVariables false
set_option linter.unusedSimpArgs false
namespace Go.Proofs.YtbbnkclajpaghaaGreatDoor
open Go.ChangeShapes Go.WideShapes Go.ChangeAt Go.RowKit
attribute [local go_sem ↓] Go.wp_at_zero Go.wp_at_succ
theorem put_of {W : World} {v : Value} {l : List Vr} (h : HR W v l) (r : Vr) : Calls Tryz.prog 21 #[v, Rwv r] W fun e w' => ∃ u, e = .returned (.tuple #[u, .int .i64 (putE l r)]) ∧ HR w' u (putL l r) ∧ Below W.heap.size W w' := by
 obtain ⟨A, c, rfl, h2, h3, h4, h5⟩ := h.ex
 exact (put_calls r h4 h5 h2 h3).mono fun e w' ⟨u, he, ho, hb⟩ => ⟨u, he, OR.hr ho, hb⟩
theorem tchk_of {W : World} {v : Value} {l : List Vr} (h : HR W v l) : Calls Tryz.prog 20 #[v] W fun e w' => e = .returned (.int .i64 (chkE l)) ∧ Below W.heap.size W w' := by
 obtain ⟨A, c, rfl, h2, h3, h4, h5⟩ := h.ex
 exact chk_calls h4 h5 h2 h3
theorem hr_blk {W : World} {g : Nat} {l : List Vr} {T : TypeId} (h : W.heap[g]? = some (.cells (l.flatMap vr8).toArray T)) (hn : l.length ≤ 1000) : HR W (.slice (some ⟨g, 0, none⟩) l.length l.length) l :=
 ⟨_, _, rfl, Nat.le_refl _, by omega, Rd.blk h (fm_len vr8 8 vr8_len l), fun b off e => by injection e with e; injection e with e; subst e; exact blk_lt h⟩
theorem HR.cut {W : World} {b o n c : Nat} {l : List Vr} (h : HR W (.slice (some ⟨b, o, none⟩) n c) l) {i k : Nat} (hk : i + k ≤ l.length) : HR W (.slice (some ⟨b, o + i * 8, none⟩) k (c - i)) ((l.drop i).take k) := by
 obtain ⟨A, c', e, h2, h3, h4, h5⟩ := h.ex
 injection e with e1 e2 e3
 subst e1 e3
 have hd : ((l.drop i).take k).length = k := by rw [List.length_take, List.length_drop]; omega
 exact ⟨_, _, by rw [hd], by omega, by omega, RT.take (RT.drop h4 (by omega)) (by rw [List.length_drop]; omega), fun b' off' e => by injection e with e; injection e with e; subst e; exact h5 _ _ rfl⟩
def oneR (t c : Int) : Vr := ⟨t, c, 0, 1, 1, 0, 1, 1⟩
def badL : Nat → List Vr
 | 0 => [⟨0, 0, 0, 0, 0, 0, 0, 0⟩]
 | 1 => [⟨64, 0, 0, 1, 1, 0, 1, 1⟩]
 | 2 => [⟨-1, 0, 0, 1, 1, 0, 1, 1⟩]
 | 3 => [⟨0, 16, 0, 1, 1, 0, 1, 1⟩]
 | 4 => [⟨0, -1, 0, 1, 1, 0, 1, 1⟩]
 | 5 => [⟨0, 0, 0, 1, 1, 0, 1, 1⟩, ⟨0, 0, 0, 1, 1, 0, 1, 1⟩]
 | 6 => [⟨1, 0, 0, 1, 1, 0, 1, 1⟩, ⟨0, 0, 0, 1, 1, 0, 1, 1⟩]
 | _ => [⟨0, 1, 0, 1, 1, 0, 1, 1⟩, ⟨0, 0, 0, 1, 1, 0, 1, 1⟩]
theorem bad_chk : ∀ k, k < 8 → chkE (badL k) = 8 ∧ selE (badL k) 0 1 = 8 ∧ (badL k).length ≤ 2 := by
 intro k hk
 rcases (show k = 0 ∨ k = 1 ∨ k = 2 ∨ k = 3 ∨ k = 4 ∨ k = 5 ∨ k = 6 ∨ k = 7 by omega) with rfl | rfl | rfl | rfl | rfl | rfl | rfl | rfl
 all_goals exact ⟨by kernel_rfl, by kernel_rfl, by decide⟩
def fulL (n : Nat) : List Vr := (List.range n).map fun k => oneR ((k / 16 : Nat) : Int) ((k % 16 : Nat) : Int)
theorem ful_len (n : Nat) : (fulL n).length = n := by simp [fulL]
theorem ful_succ (n : Nat) : fulL (n + 1) = fulL n ++ [oneR ((n / 16 : Nat) : Int) ((n % 16 : Nat) : Int)] := by simp [fulL, List.range_succ]
theorem ful_chk : chkE (fulL 200) = 0 := by kernel_rfl
theorem ful_put : putE (fulL 200) (oneR 63 0) = 4 ∧ putE (fulL 200) (oneR 0 0) = 14 := ⟨by kernel_rfl, by kernel_rfl⟩
theorem ful_drp : drpE (fulL 200) 1 16 (List.replicate 16 false) = 2 := by kernel_rfl
theorem ful_avg : avgE (fulL 200) 64 16 = 0 ∧ avgL (fulL 200) 64 16 = [⟨0, 0, 0, 1, 1, 0, 1, 200⟩] := avg_closed ful_chk (by decide) (by decide) (by kernel_rfl)
theorem ful_one : ((fulL 200).drop 0).take 1 = [oneR 0 0] ∧ ((fulL 200).drop 1).take 1 = [oneR 0 1] ∧ ((fulL 200).drop 0).take 2 = [oneR 0 0, oneR 0 1] := ⟨by kernel_rfl, by kernel_rfl, by kernel_rfl⟩
theorem one_err : putE [oneR 0 0] ⟨0, 0, 0, 0, 0, 0, 0, 0⟩ = 8 ∧ selE [oneR 0 0] 1 0 = 2 ∧ selE [oneR 0 0] 0 8 = 2 ∧ selE [oneR 0 0] (-1) 1 = 2 ∧ avgE [oneR 0 0] 0 1 = 2 ∧ avgE [oneR 0 0] 65 1 = 2 ∧ avgE [oneR 0 0] 1 17 = 2 ∧ drpE [oneR 0 0] 0 0 [] = 8 :=
 ⟨by kernel_rfl, by kernel_rfl, by kernel_rfl, by kernel_rfl, by kernel_rfl, by kernel_rfl, by kernel_rfl, by kernel_rfl⟩
theorem two_put : putE [oneR 0 1] (oneR 0 0) = 0 ∧ putL [oneR 0 1] (oneR 0 0) = [oneR 0 0, oneR 0 1] := ⟨by kernel_rfl, by kernel_rfl⟩
def zr : Vr := ⟨0, 0, 0, 0, 0, 0, 0, 0⟩
theorem many_chk : chkE (List.replicate 201 zr) = 4 := by kernel_rfl
def manyA : Array Value := ((List.replicate 201 zr).flatMap vr8).toArray
theorem made_rows (n : Nat) : madeCells #[.int .i64 0, .int .i64 0, .int .i64 0, .int .i64 0, .int .i64 0, .int .i64 0, .int .i64 0, .int .i64 0] n = (List.replicate n (.int .i64 0)).toArray := by
 apply Array.ext
 ·simp [madeCells]
 ·intro i h1 h2
  simp only [madeCells, List.getElem_toArray, List.getElem_replicate, Array.getElem_map, Array.getElem_range]
  rcases (show i % 8 = 0 ∨ i % 8 = 1 ∨ i % 8 = 2 ∨ i % 8 = 3 ∨ i % 8 = 4 ∨ i % 8 = 5 ∨ i % 8 = 6 ∨ i % 8 = 7 by omega) with h | h | h | h | h | h | h | h <;> simp [h]
theorem many_eq : manyA = madeCells #[.int .i64 0, .int .i64 0, .int .i64 0, .int .i64 0, .int .i64 0, .int .i64 0, .int .i64 0, .int .i64 0] (201 * 8) := by
 have h1 : (List.replicate 201 zr).flatMap vr8 = List.replicate (201 * 8) (.int .i64 0) := by
  refine List.eq_replicate_iff.2 ⟨by rw [fm_len vr8 8 vr8_len, List.length_replicate], fun b hb => ?_⟩
  obtain ⟨x, hx, hb⟩ := List.mem_flatMap.1 hb
  rw [List.eq_of_mem_replicate hx] at hb
  simpa [vr8, zr] using hb
 unfold manyA
 rw [h1, made_rows]
theorem make_many (W : World) : (Instr.makeSlice 22 (.int .i64 201) (.int .i64 201)).run Tryz.prog W = .ok (.slice (some ⟨W.heap.size, 0, none⟩) 201 201) (W.alloc (.cells manyA 44)) := by
 have hz : (Tryz.prog.info? 44).map (fun i => (i.zero, i.size, i.bytes)) = some (some (.agg #[.int .i64 0, .int .i64 0, .int .i64 0, .int .i64 0, .int .i64 0, .int .i64 0, .int .i64 0, .int .i64 0]), 8, 64) := by kernel_rfl
 obtain ⟨i, hi, hz, hs, hb⟩ := info_parts hz
 have h1 := run_make (P := Tryz.prog) W 22 44 i _ (by kernel_rfl) hi hz .i64 .i64 201 201 (by omega) (by omega) (by rw [hb]; omega) (by omega)
 rw [hs] at h1
 rw [many_eq]
 exact h1
theorem hr_many {W : World} {g : Nat} (h : W.heap[g]? = some (.cells manyA 44)) : HR W (.slice (some ⟨g, 0, none⟩) 201 201) (List.replicate 201 zr) := by
 have := hr_blk (l := List.replicate 201 zr) h (by rw [List.length_replicate]; omega)
 rwa [List.length_replicate] at this
theorem RT.obz {w : World} {A : Option Addr} {l : List Vr} (h : RT w A l) (hk : 0 < l.length) : ∃ b off ob, A = some ⟨b, off, none⟩ ∧ w.heap[b]? = some ob ∧ ∀ X : World, X.heap[b]? = some ob → ∀ j u, (vr8 l[0])[j]? = some u → X.cell? ⟨b, off + j, none⟩ = some u := by
 obtain ⟨b, off, e, hl, hc⟩ := Rd.at_ (n := 0) h vr8_len hk
 refine ⟨b, off, w.heap[b], e, by simp [hl], fun X hX j u hu => ?_⟩
 rw [World.cell?_of_block (w := w) (w' := X) (a := ⟨b, off + j, none⟩) (by rw [hX]; simp [hl])]
 have := hc j u hu
 simpa using this
theorem rb_none (W : World) : RB W none [] := ⟨rfl, fun h => absurd h (by decide)⟩
def bits16 : Array Value := ((List.replicate 16 false).map Value.bool).toArray
theorem make_16 (W : World) : (Instr.makeSlice 50 (.int .i64 16) (.int .i64 16)).run Tryz.prog W = .ok (.slice (some ⟨W.heap.size, 0, none⟩) 16 16) (W.alloc (.cells bits16 4)) := make_bools 16 (by decide) W
theorem rb_16 {W : World} {g : Nat} (h : W.heap[g]? = some (.cells bits16 4)) : RB W (some ⟨g, 0, none⟩) (List.replicate 16 false) := rd_blk h rfl
theorem pa_far (s : ByteArray) (h : 20000 < s.size) : paE s.data.toList = 4 := by unfold paE; rw [if_pos (by rw [Array.length_toList]; exact h)]
theorem str_self (s : ByteArray) : Str s.data.toList = .string s := by unfold Str; rw [Array.toArray_toList]
def szOf : Value → Nat
 | .string s => s.size
 | _ => 0
def fmL : Nat → List UInt8
 | 0 => [120]
 | 1 => [10]
 | 2 => [48, 32, 48, 32, 48, 32, 49, 32, 49, 32, 48, 32, 49]
 | 3 => [48, 32, 48, 32, 48, 32, 49, 32, 49, 32, 48, 10]
 | 4 => [48, 32, 48, 32, 49, 32, 48, 32, 49, 32, 48, 32, 49, 10]
 | 5 => [48, 48, 32, 48, 32, 48, 32, 49, 32, 49, 32, 48, 32, 49, 10]
 | 6 => [48, 32, 48, 32, 48, 32, 49, 32, 50, 47, 52, 32, 48, 32, 49, 10]
 | 7 => [48, 32, 48, 32, 48, 32, 49, 32, 49, 32, 48, 32, 49, 48, 48, 48, 48, 48, 49, 10]
 | 8 => [54, 52, 32, 48, 32, 48, 32, 49, 32, 49, 32, 48, 32, 49, 10]
 | 9 => [48, 32, 48, 32, 48, 32, 49, 32, 49, 32, 48, 32, 49, 32, 10]
 | 10 => [48, 32, 32, 48, 32, 48, 32, 49, 32, 49, 32, 48, 32, 49, 10]
 | 11 => [48, 32, 48, 32, 48, 32, 49, 32, 49, 32, 48, 32, 45, 49, 10]
 | _ => [49, 32, 48, 32, 48, 32, 49, 32, 49, 32, 48, 32, 49, 10, 48, 32, 48, 32, 48, 32, 49, 32, 49, 32, 48, 32, 49, 10]
theorem fm_err : ∀ k, k < 13 → paE (fmL k) = 12 ∧ (fmL k).length ≤ 100000 := by
 intro k hk
 rcases (show k = 0 ∨ k = 1 ∨ k = 2 ∨ k = 3 ∨ k = 4 ∨ k = 5 ∨ k = 6 ∨ k = 7 ∨ k = 8 ∨ k = 9 ∨ k = 10 ∨ k = 11 ∨ k = 12 by omega) with rfl | rfl | rfl | rfl | rfl | rfl | rfl | rfl | rfl | rfl | rfl | rfl | rfl
 all_goals exact ⟨by kernel_rfl, by decide⟩
theorem no_parse : paE [] = 0 ∧ paL [] = [] := ⟨by kernel_rfl, by kernel_rfl⟩
theorem lnames_calls (w : World) (g : GL w) : Calls Tryz.prog 6 #[] w fun e w' => e = .returned (.bool true) ∧ Below w.heap.size w w' := by
 have NN := zh (Below.refl w.heap.size w)
 have GG := zh (fun W (h : Below w.heap.size w W) => g.next h)
 clear g
 go_enter Tryz.func6, Tryz.ntmps6
 go_wp2_with fail
 have ONE : Hid (((((((((((w.alloc (.cells #[.int .i64 0, .int .i64 1, .int .i64 1, .int .i64 0, .int .i64 1, .int .i64 1] 42)).alloc (.cells #[.int .i64 0, .int .i64 0, .int .i64 0, .int .i64 0, .int .i64 0, .int .i64 0, .int .i64 0, .int .i64 0] 44)).alloc (.cells #[.int .i64 64, .int .i64 0, .int .i64 0, .int .i64 1, .int .i64 1, .int .i64 0, .int .i64 1, .int .i64 1] 44)).alloc (.cells #[.int .i64 (-1), .int .i64 0, .int .i64 0, .int .i64 1, .int .i64 1, .int .i64 0, .int .i64 1, .int .i64 1] 44)).alloc (.cells #[.int .i64 0, .int .i64 16, .int .i64 0, .int .i64 1, .int .i64 1, .int .i64 0, .int .i64 1, .int .i64 1] 44)).alloc (.cells #[.int .i64 0, .int .i64 (-1), .int .i64 0, .int .i64 1, .int .i64 1, .int .i64 0, .int .i64 1, .int .i64 1] 44)).alloc (.cells #[.int .i64 0, .int .i64 0, .int .i64 0, .int .i64 1, .int .i64 1, .int .i64 0, .int .i64 1, .int .i64 1, .int .i64 0, .int .i64 0, .int .i64 0, .int .i64 1, .int .i64 1, .int .i64 0, .int .i64 1, .int .i64 1] 44)).alloc (.cells #[.int .i64 1, .int .i64 0, .int .i64 0, .int .i64 1, .int .i64 1, .int .i64 0, .int .i64 1, .int .i64 1, .int .i64 0, .int .i64 0, .int .i64 0, .int .i64 1, .int .i64 1, .int .i64 0, .int .i64 1, .int .i64 1] 44)).alloc (.cells #[.int .i64 0, .int .i64 1, .int .i64 0, .int .i64 1, .int .i64 1, .int .i64 0, .int .i64 1, .int .i64 1, .int .i64 0, .int .i64 0, .int .i64 0, .int .i64 1, .int .i64 1, .int .i64 0, .int .i64 1, .int .i64 1] 44)).alloc (.cells #[.slice (some ⟨w.heap.size + 1, 0, none⟩) 1 1, .slice (some ⟨w.heap.size + 1 + 1, 0, none⟩) 1 1, .slice (some ⟨w.heap.size + 1 + 1 + 1, 0, none⟩) 1 1, .slice (some ⟨w.heap.size + 1 + 1 + 1 + 1, 0, none⟩) 1 1, .slice (some ⟨w.heap.size + 1 + 1 + 1 + 1 + 1, 0, none⟩) 1 1, .slice (some ⟨w.heap.size + 1 + 1 + 1 + 1 + 1 + 1, 0, none⟩) 2 2, .slice (some ⟨w.heap.size + 1 + 1 + 1 + 1 + 1 + 1 + 1, 0, none⟩) 2 2, .slice (some ⟨w.heap.size + 1 + 1 + 1 + 1 + 1 + 1 + 1 + 1, 0, none⟩) 2 2] 22)).heap[w.heap.size]? = some (.cells #[.int .i64 0, .int .i64 1, .int .i64 1, .int .i64 0, .int .i64 1, .int .i64 1] 42)) := zh (blk_alloc (blk_alloc (blk_alloc (blk_alloc (blk_alloc (blk_alloc (blk_alloc (blk_alloc (blk_alloc (blk_new w _) _) _) _) _) _) _) _) _) _)
 have T0 : Hid (((((((((((w.alloc (.cells #[.int .i64 0, .int .i64 1, .int .i64 1, .int .i64 0, .int .i64 1, .int .i64 1] 42)).alloc (.cells #[.int .i64 0, .int .i64 0, .int .i64 0, .int .i64 0, .int .i64 0, .int .i64 0, .int .i64 0, .int .i64 0] 44)).alloc (.cells #[.int .i64 64, .int .i64 0, .int .i64 0, .int .i64 1, .int .i64 1, .int .i64 0, .int .i64 1, .int .i64 1] 44)).alloc (.cells #[.int .i64 (-1), .int .i64 0, .int .i64 0, .int .i64 1, .int .i64 1, .int .i64 0, .int .i64 1, .int .i64 1] 44)).alloc (.cells #[.int .i64 0, .int .i64 16, .int .i64 0, .int .i64 1, .int .i64 1, .int .i64 0, .int .i64 1, .int .i64 1] 44)).alloc (.cells #[.int .i64 0, .int .i64 (-1), .int .i64 0, .int .i64 1, .int .i64 1, .int .i64 0, .int .i64 1, .int .i64 1] 44)).alloc (.cells #[.int .i64 0, .int .i64 0, .int .i64 0, .int .i64 1, .int .i64 1, .int .i64 0, .int .i64 1, .int .i64 1, .int .i64 0, .int .i64 0, .int .i64 0, .int .i64 1, .int .i64 1, .int .i64 0, .int .i64 1, .int .i64 1] 44)).alloc (.cells #[.int .i64 1, .int .i64 0, .int .i64 0, .int .i64 1, .int .i64 1, .int .i64 0, .int .i64 1, .int .i64 1, .int .i64 0, .int .i64 0, .int .i64 0, .int .i64 1, .int .i64 1, .int .i64 0, .int .i64 1, .int .i64 1] 44)).alloc (.cells #[.int .i64 0, .int .i64 1, .int .i64 0, .int .i64 1, .int .i64 1, .int .i64 0, .int .i64 1, .int .i64 1, .int .i64 0, .int .i64 0, .int .i64 0, .int .i64 1, .int .i64 1, .int .i64 0, .int .i64 1, .int .i64 1] 44)).alloc (.cells #[.slice (some ⟨w.heap.size + 1, 0, none⟩) 1 1, .slice (some ⟨w.heap.size + 1 + 1, 0, none⟩) 1 1, .slice (some ⟨w.heap.size + 1 + 1 + 1, 0, none⟩) 1 1, .slice (some ⟨w.heap.size + 1 + 1 + 1 + 1, 0, none⟩) 1 1, .slice (some ⟨w.heap.size + 1 + 1 + 1 + 1 + 1, 0, none⟩) 1 1, .slice (some ⟨w.heap.size + 1 + 1 + 1 + 1 + 1 + 1, 0, none⟩) 2 2, .slice (some ⟨w.heap.size + 1 + 1 + 1 + 1 + 1 + 1 + 1, 0, none⟩) 2 2, .slice (some ⟨w.heap.size + 1 + 1 + 1 + 1 + 1 + 1 + 1 + 1, 0, none⟩) 2 2] 22)).heap[w.heap.size + 1]? = some (.cells #[.int .i64 0, .int .i64 0, .int .i64 0, .int .i64 0, .int .i64 0, .int .i64 0, .int .i64 0, .int .i64 0] 44)) := zh (blk_alloc (blk_alloc (blk_alloc (blk_alloc (blk_alloc (blk_alloc (blk_alloc (blk_alloc (blk_at _ (by simp)) _) _) _) _) _) _) _) _)
 have T1 : Hid (((((((((((w.alloc (.cells #[.int .i64 0, .int .i64 1, .int .i64 1, .int .i64 0, .int .i64 1, .int .i64 1] 42)).alloc (.cells #[.int .i64 0, .int .i64 0, .int .i64 0, .int .i64 0, .int .i64 0, .int .i64 0, .int .i64 0, .int .i64 0] 44)).alloc (.cells #[.int .i64 64, .int .i64 0, .int .i64 0, .int .i64 1, .int .i64 1, .int .i64 0, .int .i64 1, .int .i64 1] 44)).alloc (.cells #[.int .i64 (-1), .int .i64 0, .int .i64 0, .int .i64 1, .int .i64 1, .int .i64 0, .int .i64 1, .int .i64 1] 44)).alloc (.cells #[.int .i64 0, .int .i64 16, .int .i64 0, .int .i64 1, .int .i64 1, .int .i64 0, .int .i64 1, .int .i64 1] 44)).alloc (.cells #[.int .i64 0, .int .i64 (-1), .int .i64 0, .int .i64 1, .int .i64 1, .int .i64 0, .int .i64 1, .int .i64 1] 44)).alloc (.cells #[.int .i64 0, .int .i64 0, .int .i64 0, .int .i64 1, .int .i64 1, .int .i64 0, .int .i64 1, .int .i64 1, .int .i64 0, .int .i64 0, .int .i64 0, .int .i64 1, .int .i64 1, .int .i64 0, .int .i64 1, .int .i64 1] 44)).alloc (.cells #[.int .i64 1, .int .i64 0, .int .i64 0, .int .i64 1, .int .i64 1, .int .i64 0, .int .i64 1, .int .i64 1, .int .i64 0, .int .i64 0, .int .i64 0, .int .i64 1, .int .i64 1, .int .i64 0, .int .i64 1, .int .i64 1] 44)).alloc (.cells #[.int .i64 0, .int .i64 1, .int .i64 0, .int .i64 1, .int .i64 1, .int .i64 0, .int .i64 1, .int .i64 1, .int .i64 0, .int .i64 0, .int .i64 0, .int .i64 1, .int .i64 1, .int .i64 0, .int .i64 1, .int .i64 1] 44)).alloc (.cells #[.slice (some ⟨w.heap.size + 1, 0, none⟩) 1 1, .slice (some ⟨w.heap.size + 1 + 1, 0, none⟩) 1 1, .slice (some ⟨w.heap.size + 1 + 1 + 1, 0, none⟩) 1 1, .slice (some ⟨w.heap.size + 1 + 1 + 1 + 1, 0, none⟩) 1 1, .slice (some ⟨w.heap.size + 1 + 1 + 1 + 1 + 1, 0, none⟩) 1 1, .slice (some ⟨w.heap.size + 1 + 1 + 1 + 1 + 1 + 1, 0, none⟩) 2 2, .slice (some ⟨w.heap.size + 1 + 1 + 1 + 1 + 1 + 1 + 1, 0, none⟩) 2 2, .slice (some ⟨w.heap.size + 1 + 1 + 1 + 1 + 1 + 1 + 1 + 1, 0, none⟩) 2 2] 22)).heap[w.heap.size + 1 + 1]? = some (.cells #[.int .i64 64, .int .i64 0, .int .i64 0, .int .i64 1, .int .i64 1, .int .i64 0, .int .i64 1, .int .i64 1] 44)) := zh (blk_alloc (blk_alloc (blk_alloc (blk_alloc (blk_alloc (blk_alloc (blk_alloc (blk_at _ (by simp)) _) _) _) _) _) _) _)
 have T2 : Hid (((((((((((w.alloc (.cells #[.int .i64 0, .int .i64 1, .int .i64 1, .int .i64 0, .int .i64 1, .int .i64 1] 42)).alloc (.cells #[.int .i64 0, .int .i64 0, .int .i64 0, .int .i64 0, .int .i64 0, .int .i64 0, .int .i64 0, .int .i64 0] 44)).alloc (.cells #[.int .i64 64, .int .i64 0, .int .i64 0, .int .i64 1, .int .i64 1, .int .i64 0, .int .i64 1, .int .i64 1] 44)).alloc (.cells #[.int .i64 (-1), .int .i64 0, .int .i64 0, .int .i64 1, .int .i64 1, .int .i64 0, .int .i64 1, .int .i64 1] 44)).alloc (.cells #[.int .i64 0, .int .i64 16, .int .i64 0, .int .i64 1, .int .i64 1, .int .i64 0, .int .i64 1, .int .i64 1] 44)).alloc (.cells #[.int .i64 0, .int .i64 (-1), .int .i64 0, .int .i64 1, .int .i64 1, .int .i64 0, .int .i64 1, .int .i64 1] 44)).alloc (.cells #[.int .i64 0, .int .i64 0, .int .i64 0, .int .i64 1, .int .i64 1, .int .i64 0, .int .i64 1, .int .i64 1, .int .i64 0, .int .i64 0, .int .i64 0, .int .i64 1, .int .i64 1, .int .i64 0, .int .i64 1, .int .i64 1] 44)).alloc (.cells #[.int .i64 1, .int .i64 0, .int .i64 0, .int .i64 1, .int .i64 1, .int .i64 0, .int .i64 1, .int .i64 1, .int .i64 0, .int .i64 0, .int .i64 0, .int .i64 1, .int .i64 1, .int .i64 0, .int .i64 1, .int .i64 1] 44)).alloc (.cells #[.int .i64 0, .int .i64 1, .int .i64 0, .int .i64 1, .int .i64 1, .int .i64 0, .int .i64 1, .int .i64 1, .int .i64 0, .int .i64 0, .int .i64 0, .int .i64 1, .int .i64 1, .int .i64 0, .int .i64 1, .int .i64 1] 44)).alloc (.cells #[.slice (some ⟨w.heap.size + 1, 0, none⟩) 1 1, .slice (some ⟨w.heap.size + 1 + 1, 0, none⟩) 1 1, .slice (some ⟨w.heap.size + 1 + 1 + 1, 0, none⟩) 1 1, .slice (some ⟨w.heap.size + 1 + 1 + 1 + 1, 0, none⟩) 1 1, .slice (some ⟨w.heap.size + 1 + 1 + 1 + 1 + 1, 0, none⟩) 1 1, .slice (some ⟨w.heap.size + 1 + 1 + 1 + 1 + 1 + 1, 0, none⟩) 2 2, .slice (some ⟨w.heap.size + 1 + 1 + 1 + 1 + 1 + 1 + 1, 0, none⟩) 2 2, .slice (some ⟨w.heap.size + 1 + 1 + 1 + 1 + 1 + 1 + 1 + 1, 0, none⟩) 2 2] 22)).heap[w.heap.size + 1 + 1 + 1]? = some (.cells #[.int .i64 (-1), .int .i64 0, .int .i64 0, .int .i64 1, .int .i64 1, .int .i64 0, .int .i64 1, .int .i64 1] 44)) := zh (blk_alloc (blk_alloc (blk_alloc (blk_alloc (blk_alloc (blk_alloc (blk_at _ (by simp)) _) _) _) _) _) _)
 have T3 : Hid (((((((((((w.alloc (.cells #[.int .i64 0, .int .i64 1, .int .i64 1, .int .i64 0, .int .i64 1, .int .i64 1] 42)).alloc (.cells #[.int .i64 0, .int .i64 0, .int .i64 0, .int .i64 0, .int .i64 0, .int .i64 0, .int .i64 0, .int .i64 0] 44)).alloc (.cells #[.int .i64 64, .int .i64 0, .int .i64 0, .int .i64 1, .int .i64 1, .int .i64 0, .int .i64 1, .int .i64 1] 44)).alloc (.cells #[.int .i64 (-1), .int .i64 0, .int .i64 0, .int .i64 1, .int .i64 1, .int .i64 0, .int .i64 1, .int .i64 1] 44)).alloc (.cells #[.int .i64 0, .int .i64 16, .int .i64 0, .int .i64 1, .int .i64 1, .int .i64 0, .int .i64 1, .int .i64 1] 44)).alloc (.cells #[.int .i64 0, .int .i64 (-1), .int .i64 0, .int .i64 1, .int .i64 1, .int .i64 0, .int .i64 1, .int .i64 1] 44)).alloc (.cells #[.int .i64 0, .int .i64 0, .int .i64 0, .int .i64 1, .int .i64 1, .int .i64 0, .int .i64 1, .int .i64 1, .int .i64 0, .int .i64 0, .int .i64 0, .int .i64 1, .int .i64 1, .int .i64 0, .int .i64 1, .int .i64 1] 44)).alloc (.cells #[.int .i64 1, .int .i64 0, .int .i64 0, .int .i64 1, .int .i64 1, .int .i64 0, .int .i64 1, .int .i64 1, .int .i64 0, .int .i64 0, .int .i64 0, .int .i64 1, .int .i64 1, .int .i64 0, .int .i64 1, .int .i64 1] 44)).alloc (.cells #[.int .i64 0, .int .i64 1, .int .i64 0, .int .i64 1, .int .i64 1, .int .i64 0, .int .i64 1, .int .i64 1, .int .i64 0, .int .i64 0, .int .i64 0, .int .i64 1, .int .i64 1, .int .i64 0, .int .i64 1, .int .i64 1] 44)).alloc (.cells #[.slice (some ⟨w.heap.size + 1, 0, none⟩) 1 1, .slice (some ⟨w.heap.size + 1 + 1, 0, none⟩) 1 1, .slice (some ⟨w.heap.size + 1 + 1 + 1, 0, none⟩) 1 1, .slice (some ⟨w.heap.size + 1 + 1 + 1 + 1, 0, none⟩) 1 1, .slice (some ⟨w.heap.size + 1 + 1 + 1 + 1 + 1, 0, none⟩) 1 1, .slice (some ⟨w.heap.size + 1 + 1 + 1 + 1 + 1 + 1, 0, none⟩) 2 2, .slice (some ⟨w.heap.size + 1 + 1 + 1 + 1 + 1 + 1 + 1, 0, none⟩) 2 2, .slice (some ⟨w.heap.size + 1 + 1 + 1 + 1 + 1 + 1 + 1 + 1, 0, none⟩) 2 2] 22)).heap[w.heap.size + 1 + 1 + 1 + 1]? = some (.cells #[.int .i64 0, .int .i64 16, .int .i64 0, .int .i64 1, .int .i64 1, .int .i64 0, .int .i64 1, .int .i64 1] 44)) := zh (blk_alloc (blk_alloc (blk_alloc (blk_alloc (blk_alloc (blk_at _ (by simp)) _) _) _) _) _)
 have T4 : Hid (((((((((((w.alloc (.cells #[.int .i64 0, .int .i64 1, .int .i64 1, .int .i64 0, .int .i64 1, .int .i64 1] 42)).alloc (.cells #[.int .i64 0, .int .i64 0, .int .i64 0, .int .i64 0, .int .i64 0, .int .i64 0, .int .i64 0, .int .i64 0] 44)).alloc (.cells #[.int .i64 64, .int .i64 0, .int .i64 0, .int .i64 1, .int .i64 1, .int .i64 0, .int .i64 1, .int .i64 1] 44)).alloc (.cells #[.int .i64 (-1), .int .i64 0, .int .i64 0, .int .i64 1, .int .i64 1, .int .i64 0, .int .i64 1, .int .i64 1] 44)).alloc (.cells #[.int .i64 0, .int .i64 16, .int .i64 0, .int .i64 1, .int .i64 1, .int .i64 0, .int .i64 1, .int .i64 1] 44)).alloc (.cells #[.int .i64 0, .int .i64 (-1), .int .i64 0, .int .i64 1, .int .i64 1, .int .i64 0, .int .i64 1, .int .i64 1] 44)).alloc (.cells #[.int .i64 0, .int .i64 0, .int .i64 0, .int .i64 1, .int .i64 1, .int .i64 0, .int .i64 1, .int .i64 1, .int .i64 0, .int .i64 0, .int .i64 0, .int .i64 1, .int .i64 1, .int .i64 0, .int .i64 1, .int .i64 1] 44)).alloc (.cells #[.int .i64 1, .int .i64 0, .int .i64 0, .int .i64 1, .int .i64 1, .int .i64 0, .int .i64 1, .int .i64 1, .int .i64 0, .int .i64 0, .int .i64 0, .int .i64 1, .int .i64 1, .int .i64 0, .int .i64 1, .int .i64 1] 44)).alloc (.cells #[.int .i64 0, .int .i64 1, .int .i64 0, .int .i64 1, .int .i64 1, .int .i64 0, .int .i64 1, .int .i64 1, .int .i64 0, .int .i64 0, .int .i64 0, .int .i64 1, .int .i64 1, .int .i64 0, .int .i64 1, .int .i64 1] 44)).alloc (.cells #[.slice (some ⟨w.heap.size + 1, 0, none⟩) 1 1, .slice (some ⟨w.heap.size + 1 + 1, 0, none⟩) 1 1, .slice (some ⟨w.heap.size + 1 + 1 + 1, 0, none⟩) 1 1, .slice (some ⟨w.heap.size + 1 + 1 + 1 + 1, 0, none⟩) 1 1, .slice (some ⟨w.heap.size + 1 + 1 + 1 + 1 + 1, 0, none⟩) 1 1, .slice (some ⟨w.heap.size + 1 + 1 + 1 + 1 + 1 + 1, 0, none⟩) 2 2, .slice (some ⟨w.heap.size + 1 + 1 + 1 + 1 + 1 + 1 + 1, 0, none⟩) 2 2, .slice (some ⟨w.heap.size + 1 + 1 + 1 + 1 + 1 + 1 + 1 + 1, 0, none⟩) 2 2] 22)).heap[w.heap.size + 1 + 1 + 1 + 1 + 1]? = some (.cells #[.int .i64 0, .int .i64 (-1), .int .i64 0, .int .i64 1, .int .i64 1, .int .i64 0, .int .i64 1, .int .i64 1] 44)) := zh (blk_alloc (blk_alloc (blk_alloc (blk_alloc (blk_at _ (by simp)) _) _) _) _)
 have T5 : Hid (((((((((((w.alloc (.cells #[.int .i64 0, .int .i64 1, .int .i64 1, .int .i64 0, .int .i64 1, .int .i64 1] 42)).alloc (.cells #[.int .i64 0, .int .i64 0, .int .i64 0, .int .i64 0, .int .i64 0, .int .i64 0, .int .i64 0, .int .i64 0] 44)).alloc (.cells #[.int .i64 64, .int .i64 0, .int .i64 0, .int .i64 1, .int .i64 1, .int .i64 0, .int .i64 1, .int .i64 1] 44)).alloc (.cells #[.int .i64 (-1), .int .i64 0, .int .i64 0, .int .i64 1, .int .i64 1, .int .i64 0, .int .i64 1, .int .i64 1] 44)).alloc (.cells #[.int .i64 0, .int .i64 16, .int .i64 0, .int .i64 1, .int .i64 1, .int .i64 0, .int .i64 1, .int .i64 1] 44)).alloc (.cells #[.int .i64 0, .int .i64 (-1), .int .i64 0, .int .i64 1, .int .i64 1, .int .i64 0, .int .i64 1, .int .i64 1] 44)).alloc (.cells #[.int .i64 0, .int .i64 0, .int .i64 0, .int .i64 1, .int .i64 1, .int .i64 0, .int .i64 1, .int .i64 1, .int .i64 0, .int .i64 0, .int .i64 0, .int .i64 1, .int .i64 1, .int .i64 0, .int .i64 1, .int .i64 1] 44)).alloc (.cells #[.int .i64 1, .int .i64 0, .int .i64 0, .int .i64 1, .int .i64 1, .int .i64 0, .int .i64 1, .int .i64 1, .int .i64 0, .int .i64 0, .int .i64 0, .int .i64 1, .int .i64 1, .int .i64 0, .int .i64 1, .int .i64 1] 44)).alloc (.cells #[.int .i64 0, .int .i64 1, .int .i64 0, .int .i64 1, .int .i64 1, .int .i64 0, .int .i64 1, .int .i64 1, .int .i64 0, .int .i64 0, .int .i64 0, .int .i64 1, .int .i64 1, .int .i64 0, .int .i64 1, .int .i64 1] 44)).alloc (.cells #[.slice (some ⟨w.heap.size + 1, 0, none⟩) 1 1, .slice (some ⟨w.heap.size + 1 + 1, 0, none⟩) 1 1, .slice (some ⟨w.heap.size + 1 + 1 + 1, 0, none⟩) 1 1, .slice (some ⟨w.heap.size + 1 + 1 + 1 + 1, 0, none⟩) 1 1, .slice (some ⟨w.heap.size + 1 + 1 + 1 + 1 + 1, 0, none⟩) 1 1, .slice (some ⟨w.heap.size + 1 + 1 + 1 + 1 + 1 + 1, 0, none⟩) 2 2, .slice (some ⟨w.heap.size + 1 + 1 + 1 + 1 + 1 + 1 + 1, 0, none⟩) 2 2, .slice (some ⟨w.heap.size + 1 + 1 + 1 + 1 + 1 + 1 + 1 + 1, 0, none⟩) 2 2] 22)).heap[w.heap.size + 1 + 1 + 1 + 1 + 1 + 1]? = some (.cells #[.int .i64 0, .int .i64 0, .int .i64 0, .int .i64 1, .int .i64 1, .int .i64 0, .int .i64 1, .int .i64 1, .int .i64 0, .int .i64 0, .int .i64 0, .int .i64 1, .int .i64 1, .int .i64 0, .int .i64 1, .int .i64 1] 44)) := zh (blk_alloc (blk_alloc (blk_alloc (blk_at _ (by simp)) _) _) _)
 have T6 : Hid (((((((((((w.alloc (.cells #[.int .i64 0, .int .i64 1, .int .i64 1, .int .i64 0, .int .i64 1, .int .i64 1] 42)).alloc (.cells #[.int .i64 0, .int .i64 0, .int .i64 0, .int .i64 0, .int .i64 0, .int .i64 0, .int .i64 0, .int .i64 0] 44)).alloc (.cells #[.int .i64 64, .int .i64 0, .int .i64 0, .int .i64 1, .int .i64 1, .int .i64 0, .int .i64 1, .int .i64 1] 44)).alloc (.cells #[.int .i64 (-1), .int .i64 0, .int .i64 0, .int .i64 1, .int .i64 1, .int .i64 0, .int .i64 1, .int .i64 1] 44)).alloc (.cells #[.int .i64 0, .int .i64 16, .int .i64 0, .int .i64 1, .int .i64 1, .int .i64 0, .int .i64 1, .int .i64 1] 44)).alloc (.cells #[.int .i64 0, .int .i64 (-1), .int .i64 0, .int .i64 1, .int .i64 1, .int .i64 0, .int .i64 1, .int .i64 1] 44)).alloc (.cells #[.int .i64 0, .int .i64 0, .int .i64 0, .int .i64 1, .int .i64 1, .int .i64 0, .int .i64 1, .int .i64 1, .int .i64 0, .int .i64 0, .int .i64 0, .int .i64 1, .int .i64 1, .int .i64 0, .int .i64 1, .int .i64 1] 44)).alloc (.cells #[.int .i64 1, .int .i64 0, .int .i64 0, .int .i64 1, .int .i64 1, .int .i64 0, .int .i64 1, .int .i64 1, .int .i64 0, .int .i64 0, .int .i64 0, .int .i64 1, .int .i64 1, .int .i64 0, .int .i64 1, .int .i64 1] 44)).alloc (.cells #[.int .i64 0, .int .i64 1, .int .i64 0, .int .i64 1, .int .i64 1, .int .i64 0, .int .i64 1, .int .i64 1, .int .i64 0, .int .i64 0, .int .i64 0, .int .i64 1, .int .i64 1, .int .i64 0, .int .i64 1, .int .i64 1] 44)).alloc (.cells #[.slice (some ⟨w.heap.size + 1, 0, none⟩) 1 1, .slice (some ⟨w.heap.size + 1 + 1, 0, none⟩) 1 1, .slice (some ⟨w.heap.size + 1 + 1 + 1, 0, none⟩) 1 1, .slice (some ⟨w.heap.size + 1 + 1 + 1 + 1, 0, none⟩) 1 1, .slice (some ⟨w.heap.size + 1 + 1 + 1 + 1 + 1, 0, none⟩) 1 1, .slice (some ⟨w.heap.size + 1 + 1 + 1 + 1 + 1 + 1, 0, none⟩) 2 2, .slice (some ⟨w.heap.size + 1 + 1 + 1 + 1 + 1 + 1 + 1, 0, none⟩) 2 2, .slice (some ⟨w.heap.size + 1 + 1 + 1 + 1 + 1 + 1 + 1 + 1, 0, none⟩) 2 2] 22)).heap[w.heap.size + 1 + 1 + 1 + 1 + 1 + 1 + 1]? = some (.cells #[.int .i64 1, .int .i64 0, .int .i64 0, .int .i64 1, .int .i64 1, .int .i64 0, .int .i64 1, .int .i64 1, .int .i64 0, .int .i64 0, .int .i64 0, .int .i64 1, .int .i64 1, .int .i64 0, .int .i64 1, .int .i64 1] 44)) := zh (blk_alloc (blk_alloc (blk_at _ (by simp)) _) _)
 have T7 : Hid (((((((((((w.alloc (.cells #[.int .i64 0, .int .i64 1, .int .i64 1, .int .i64 0, .int .i64 1, .int .i64 1] 42)).alloc (.cells #[.int .i64 0, .int .i64 0, .int .i64 0, .int .i64 0, .int .i64 0, .int .i64 0, .int .i64 0, .int .i64 0] 44)).alloc (.cells #[.int .i64 64, .int .i64 0, .int .i64 0, .int .i64 1, .int .i64 1, .int .i64 0, .int .i64 1, .int .i64 1] 44)).alloc (.cells #[.int .i64 (-1), .int .i64 0, .int .i64 0, .int .i64 1, .int .i64 1, .int .i64 0, .int .i64 1, .int .i64 1] 44)).alloc (.cells #[.int .i64 0, .int .i64 16, .int .i64 0, .int .i64 1, .int .i64 1, .int .i64 0, .int .i64 1, .int .i64 1] 44)).alloc (.cells #[.int .i64 0, .int .i64 (-1), .int .i64 0, .int .i64 1, .int .i64 1, .int .i64 0, .int .i64 1, .int .i64 1] 44)).alloc (.cells #[.int .i64 0, .int .i64 0, .int .i64 0, .int .i64 1, .int .i64 1, .int .i64 0, .int .i64 1, .int .i64 1, .int .i64 0, .int .i64 0, .int .i64 0, .int .i64 1, .int .i64 1, .int .i64 0, .int .i64 1, .int .i64 1] 44)).alloc (.cells #[.int .i64 1, .int .i64 0, .int .i64 0, .int .i64 1, .int .i64 1, .int .i64 0, .int .i64 1, .int .i64 1, .int .i64 0, .int .i64 0, .int .i64 0, .int .i64 1, .int .i64 1, .int .i64 0, .int .i64 1, .int .i64 1] 44)).alloc (.cells #[.int .i64 0, .int .i64 1, .int .i64 0, .int .i64 1, .int .i64 1, .int .i64 0, .int .i64 1, .int .i64 1, .int .i64 0, .int .i64 0, .int .i64 0, .int .i64 1, .int .i64 1, .int .i64 0, .int .i64 1, .int .i64 1] 44)).alloc (.cells #[.slice (some ⟨w.heap.size + 1, 0, none⟩) 1 1, .slice (some ⟨w.heap.size + 1 + 1, 0, none⟩) 1 1, .slice (some ⟨w.heap.size + 1 + 1 + 1, 0, none⟩) 1 1, .slice (some ⟨w.heap.size + 1 + 1 + 1 + 1, 0, none⟩) 1 1, .slice (some ⟨w.heap.size + 1 + 1 + 1 + 1 + 1, 0, none⟩) 1 1, .slice (some ⟨w.heap.size + 1 + 1 + 1 + 1 + 1 + 1, 0, none⟩) 2 2, .slice (some ⟨w.heap.size + 1 + 1 + 1 + 1 + 1 + 1 + 1, 0, none⟩) 2 2, .slice (some ⟨w.heap.size + 1 + 1 + 1 + 1 + 1 + 1 + 1 + 1, 0, none⟩) 2 2] 22)).heap[w.heap.size + 1 + 1 + 1 + 1 + 1 + 1 + 1 + 1]? = some (.cells #[.int .i64 0, .int .i64 1, .int .i64 0, .int .i64 1, .int .i64 1, .int .i64 0, .int .i64 1, .int .i64 1, .int .i64 0, .int .i64 0, .int .i64 0, .int .i64 1, .int .i64 1, .int .i64 0, .int .i64 1, .int .i64 1] 44)) := zh (blk_alloc (blk_at _ (by simp)) _)
 have BD : Hid (((((((((((w.alloc (.cells #[.int .i64 0, .int .i64 1, .int .i64 1, .int .i64 0, .int .i64 1, .int .i64 1] 42)).alloc (.cells #[.int .i64 0, .int .i64 0, .int .i64 0, .int .i64 0, .int .i64 0, .int .i64 0, .int .i64 0, .int .i64 0] 44)).alloc (.cells #[.int .i64 64, .int .i64 0, .int .i64 0, .int .i64 1, .int .i64 1, .int .i64 0, .int .i64 1, .int .i64 1] 44)).alloc (.cells #[.int .i64 (-1), .int .i64 0, .int .i64 0, .int .i64 1, .int .i64 1, .int .i64 0, .int .i64 1, .int .i64 1] 44)).alloc (.cells #[.int .i64 0, .int .i64 16, .int .i64 0, .int .i64 1, .int .i64 1, .int .i64 0, .int .i64 1, .int .i64 1] 44)).alloc (.cells #[.int .i64 0, .int .i64 (-1), .int .i64 0, .int .i64 1, .int .i64 1, .int .i64 0, .int .i64 1, .int .i64 1] 44)).alloc (.cells #[.int .i64 0, .int .i64 0, .int .i64 0, .int .i64 1, .int .i64 1, .int .i64 0, .int .i64 1, .int .i64 1, .int .i64 0, .int .i64 0, .int .i64 0, .int .i64 1, .int .i64 1, .int .i64 0, .int .i64 1, .int .i64 1] 44)).alloc (.cells #[.int .i64 1, .int .i64 0, .int .i64 0, .int .i64 1, .int .i64 1, .int .i64 0, .int .i64 1, .int .i64 1, .int .i64 0, .int .i64 0, .int .i64 0, .int .i64 1, .int .i64 1, .int .i64 0, .int .i64 1, .int .i64 1] 44)).alloc (.cells #[.int .i64 0, .int .i64 1, .int .i64 0, .int .i64 1, .int .i64 1, .int .i64 0, .int .i64 1, .int .i64 1, .int .i64 0, .int .i64 0, .int .i64 0, .int .i64 1, .int .i64 1, .int .i64 0, .int .i64 1, .int .i64 1] 44)).alloc (.cells #[.slice (some ⟨w.heap.size + 1, 0, none⟩) 1 1, .slice (some ⟨w.heap.size + 1 + 1, 0, none⟩) 1 1, .slice (some ⟨w.heap.size + 1 + 1 + 1, 0, none⟩) 1 1, .slice (some ⟨w.heap.size + 1 + 1 + 1 + 1, 0, none⟩) 1 1, .slice (some ⟨w.heap.size + 1 + 1 + 1 + 1 + 1, 0, none⟩) 1 1, .slice (some ⟨w.heap.size + 1 + 1 + 1 + 1 + 1 + 1, 0, none⟩) 2 2, .slice (some ⟨w.heap.size + 1 + 1 + 1 + 1 + 1 + 1 + 1, 0, none⟩) 2 2, .slice (some ⟨w.heap.size + 1 + 1 + 1 + 1 + 1 + 1 + 1 + 1, 0, none⟩) 2 2] 22)).heap[w.heap.size + 1 + 1 + 1 + 1 + 1 + 1 + 1 + 1 + 1]? = some (.cells #[.slice (some ⟨w.heap.size + 1, 0, none⟩) 1 1, .slice (some ⟨w.heap.size + 1 + 1, 0, none⟩) 1 1, .slice (some ⟨w.heap.size + 1 + 1 + 1, 0, none⟩) 1 1, .slice (some ⟨w.heap.size + 1 + 1 + 1 + 1, 0, none⟩) 1 1, .slice (some ⟨w.heap.size + 1 + 1 + 1 + 1 + 1, 0, none⟩) 1 1, .slice (some ⟨w.heap.size + 1 + 1 + 1 + 1 + 1 + 1, 0, none⟩) 2 2, .slice (some ⟨w.heap.size + 1 + 1 + 1 + 1 + 1 + 1 + 1, 0, none⟩) 2 2, .slice (some ⟨w.heap.size + 1 + 1 + 1 + 1 + 1 + 1 + 1 + 1, 0, none⟩) 2 2] 22)) := zh (blk_at _ (by simp))
 replace NN : Hid (Below w.heap.size w ((((((((((w.alloc (.cells #[.int .i64 0, .int .i64 1, .int .i64 1, .int .i64 0, .int .i64 1, .int .i64 1] 42)).alloc (.cells #[.int .i64 0, .int .i64 0, .int .i64 0, .int .i64 0, .int .i64 0, .int .i64 0, .int .i64 0, .int .i64 0] 44)).alloc (.cells #[.int .i64 64, .int .i64 0, .int .i64 0, .int .i64 1, .int .i64 1, .int .i64 0, .int .i64 1, .int .i64 1] 44)).alloc (.cells #[.int .i64 (-1), .int .i64 0, .int .i64 0, .int .i64 1, .int .i64 1, .int .i64 0, .int .i64 1, .int .i64 1] 44)).alloc (.cells #[.int .i64 0, .int .i64 16, .int .i64 0, .int .i64 1, .int .i64 1, .int .i64 0, .int .i64 1, .int .i64 1] 44)).alloc (.cells #[.int .i64 0, .int .i64 (-1), .int .i64 0, .int .i64 1, .int .i64 1, .int .i64 0, .int .i64 1, .int .i64 1] 44)).alloc (.cells #[.int .i64 0, .int .i64 0, .int .i64 0, .int .i64 1, .int .i64 1, .int .i64 0, .int .i64 1, .int .i64 1, .int .i64 0, .int .i64 0, .int .i64 0, .int .i64 1, .int .i64 1, .int .i64 0, .int .i64 1, .int .i64 1] 44)).alloc (.cells #[.int .i64 1, .int .i64 0, .int .i64 0, .int .i64 1, .int .i64 1, .int .i64 0, .int .i64 1, .int .i64 1, .int .i64 0, .int .i64 0, .int .i64 0, .int .i64 1, .int .i64 1, .int .i64 0, .int .i64 1, .int .i64 1] 44)).alloc (.cells #[.int .i64 0, .int .i64 1, .int .i64 0, .int .i64 1, .int .i64 1, .int .i64 0, .int .i64 1, .int .i64 1, .int .i64 0, .int .i64 0, .int .i64 0, .int .i64 1, .int .i64 1, .int .i64 0, .int .i64 1, .int .i64 1] 44)).alloc (.cells #[.slice (some ⟨w.heap.size + 1, 0, none⟩) 1 1, .slice (some ⟨w.heap.size + 1 + 1, 0, none⟩) 1 1, .slice (some ⟨w.heap.size + 1 + 1 + 1, 0, none⟩) 1 1, .slice (some ⟨w.heap.size + 1 + 1 + 1 + 1, 0, none⟩) 1 1, .slice (some ⟨w.heap.size + 1 + 1 + 1 + 1 + 1, 0, none⟩) 1 1, .slice (some ⟨w.heap.size + 1 + 1 + 1 + 1 + 1 + 1, 0, none⟩) 2 2, .slice (some ⟨w.heap.size + 1 + 1 + 1 + 1 + 1 + 1 + 1, 0, none⟩) 2 2, .slice (some ⟨w.heap.size + 1 + 1 + 1 + 1 + 1 + 1 + 1 + 1, 0, none⟩) 2 2] 22))) := zh (Bal (Bal (Bal (Bal (Bal (Bal (Bal (Bal (Bal (Bal NN.out _) _) _) _) _) _) _) _) _) _)
 generalize ((((((((((w.alloc (.cells #[.int .i64 0, .int .i64 1, .int .i64 1, .int .i64 0, .int .i64 1, .int .i64 1] 42)).alloc (.cells #[.int .i64 0, .int .i64 0, .int .i64 0, .int .i64 0, .int .i64 0, .int .i64 0, .int .i64 0, .int .i64 0] 44)).alloc (.cells #[.int .i64 64, .int .i64 0, .int .i64 0, .int .i64 1, .int .i64 1, .int .i64 0, .int .i64 1, .int .i64 1] 44)).alloc (.cells #[.int .i64 (-1), .int .i64 0, .int .i64 0, .int .i64 1, .int .i64 1, .int .i64 0, .int .i64 1, .int .i64 1] 44)).alloc (.cells #[.int .i64 0, .int .i64 16, .int .i64 0, .int .i64 1, .int .i64 1, .int .i64 0, .int .i64 1, .int .i64 1] 44)).alloc (.cells #[.int .i64 0, .int .i64 (-1), .int .i64 0, .int .i64 1, .int .i64 1, .int .i64 0, .int .i64 1, .int .i64 1] 44)).alloc (.cells #[.int .i64 0, .int .i64 0, .int .i64 0, .int .i64 1, .int .i64 1, .int .i64 0, .int .i64 1, .int .i64 1, .int .i64 0, .int .i64 0, .int .i64 0, .int .i64 1, .int .i64 1, .int .i64 0, .int .i64 1, .int .i64 1] 44)).alloc (.cells #[.int .i64 1, .int .i64 0, .int .i64 0, .int .i64 1, .int .i64 1, .int .i64 0, .int .i64 1, .int .i64 1, .int .i64 0, .int .i64 0, .int .i64 0, .int .i64 1, .int .i64 1, .int .i64 0, .int .i64 1, .int .i64 1] 44)).alloc (.cells #[.int .i64 0, .int .i64 1, .int .i64 0, .int .i64 1, .int .i64 1, .int .i64 0, .int .i64 1, .int .i64 1, .int .i64 0, .int .i64 0, .int .i64 0, .int .i64 1, .int .i64 1, .int .i64 0, .int .i64 1, .int .i64 1] 44)).alloc (.cells #[.slice (some ⟨w.heap.size + 1, 0, none⟩) 1 1, .slice (some ⟨w.heap.size + 1 + 1, 0, none⟩) 1 1, .slice (some ⟨w.heap.size + 1 + 1 + 1, 0, none⟩) 1 1, .slice (some ⟨w.heap.size + 1 + 1 + 1 + 1, 0, none⟩) 1 1, .slice (some ⟨w.heap.size + 1 + 1 + 1 + 1 + 1, 0, none⟩) 1 1, .slice (some ⟨w.heap.size + 1 + 1 + 1 + 1 + 1 + 1, 0, none⟩) 2 2, .slice (some ⟨w.heap.size + 1 + 1 + 1 + 1 + 1 + 1 + 1, 0, none⟩) 2 2, .slice (some ⟨w.heap.size + 1 + 1 + 1 + 1 + 1 + 1 + 1 + 1, 0, none⟩) 2 2] 22)) = W1 at *
 have KB : Hid (∀ k, k < 8 → ∃ v, (w.heap.size + 1 + 1 + 1 + 1 + 1 + 1 + 1 + 1 + 1 < W1.heap.size ∧ W1.cell? ⟨w.heap.size + 1 + 1 + 1 + 1 + 1 + 1 + 1 + 1 + 1, k, none⟩ = some v) ∧ HR W1 v (badL k)) := zh (fun k hk => by
  have lb := blk_lt BD.out
  rcases (show k = 0 ∨ k = 1 ∨ k = 2 ∨ k = 3 ∨ k = 4 ∨ k = 5 ∨ k = 6 ∨ k = 7 by omega) with rfl | rfl | rfl | rfl | rfl | rfl | rfl | rfl
  ·exact ⟨_, ⟨lb, blk_cell BD.out 0 _ rfl⟩, hr_blk (l := badL 0) T0.out (by decide)⟩
  ·exact ⟨_, ⟨lb, blk_cell BD.out 1 _ rfl⟩, hr_blk (l := badL 1) T1.out (by decide)⟩
  ·exact ⟨_, ⟨lb, blk_cell BD.out 2 _ rfl⟩, hr_blk (l := badL 2) T2.out (by decide)⟩
  ·exact ⟨_, ⟨lb, blk_cell BD.out 3 _ rfl⟩, hr_blk (l := badL 3) T3.out (by decide)⟩
  ·exact ⟨_, ⟨lb, blk_cell BD.out 4 _ rfl⟩, hr_blk (l := badL 4) T4.out (by decide)⟩
  ·exact ⟨_, ⟨lb, blk_cell BD.out 5 _ rfl⟩, hr_blk (l := badL 5) T5.out (by decide)⟩
  ·exact ⟨_, ⟨lb, blk_cell BD.out 6 _ rfl⟩, hr_blk (l := badL 6) T6.out (by decide)⟩
  ·exact ⟨_, ⟨lb, blk_cell BD.out 7 _ rfl⟩, hr_blk (l := badL 7) T7.out (by decide)⟩
  )
 clear T0 T1 T2 T3 T4 T5 T6 T7 BD
 obtain ⟨wa, hwa⟩ : ∃ z, z = W1 := ⟨_, rfl⟩
 subst hwa
 have N0 := zh (Below.refl wa.heap.size wa)
 go_loopw [3] (fun q9 wr => ∃ k : Nat, k ≤ 8 ∧ q9 = .int .i64 (k : Int) ∧ Hid (Below wa.heap.size wa wr)) (fun q9 _ => 8 - (intOf q9).toNat)
 case atStart => exact ⟨0, by decide, rfl, N0⟩
 case round =>
  clear N0
  obtain ⟨k, hk, rfl, N0⟩ := hrel
  by_cases hlt : 8 ≤ k
  ·have e : (k : Int) = 8 := by omega
   rw [e]
   clear hk hlt KB e
   replace NN := zh (Bgo NN.out N0.out)
   replace ONE := zn N0 ONE
   clear N0
   go_wp2_with fail
   obtain ⟨wb, hwb⟩ : ∃ z, z = wr := ⟨_, rfl⟩
   subst hwb
   have N0 := zh (Below.refl wb.heap.size wb)
   go_loopw [6, 7] (fun p9 q9 wr => ∃ (k : Nat) (Ao : Option Addr) (co : Nat), k ≤ 200 ∧ q9 = .int .i64 (k : Int) ∧ p9 = .slice Ao (fulL k).length co ∧ Hid (OV wb.heap.size wr p9 (fulL k)) ∧ Hid (Below wb.heap.size wb wr)) (fun _ q9 _ => 200 - (intOf q9).toNat)
   case atStart => exact ⟨0, none, 0, Nat.zero_le _, rfl, rfl, zh (OG.nil _ _ _ _ _), N0⟩
   case round =>
    clear N0
    obtain ⟨k, Ao, co, hk, rfl, rfl, OO, N0⟩ := hrel
    by_cases hlt : 200 ≤ k
    ·have e : (k : Int) = 200 := by omega
     rw [e]
     clear e
     have e : k = 200 := by omega
     subst e
     clear hk hlt
     have FU := zh (OG.hr OO.out)
     clear OO
     rw [ful_len] at FU ⊢
     replace NN := zh (Bgo NN.out N0.out)
     replace ONE := zn N0 ONE
     clear N0
     obtain ⟨A9, c9, e9, hc9, hm9, ht9, -⟩ := FU.out.ex
     injection e9 with e9 e8 e7
     subst e9 e7
     obtain ⟨bf, of, e9, -⟩ := RT.at_ ht9 (i := 0) (by rw [ful_len]; decide)
     subst e9
     rw [ful_len] at hc9
     clear ht9 e8
     have HC := zh hc9
     have O1 := zh (HR.cut (i := 0) (k := 1) FU.out (by rw [ful_len]; decide))
     have O2 := zh (HR.cut (i := 1) (k := 1) FU.out (by rw [ful_len]; decide))
     have O3 := zh (HR.cut (i := 0) (k := 2) FU.out (by rw [ful_len]; decide))
     rw [ful_one.1] at O1
     rw [ful_one.2.1] at O2
     rw [ful_one.2.2] at O3
     simp only [Nat.zero_mul, Nat.add_zero, Nat.sub_zero, Nat.one_mul] at O1 O2 O3
     have mk := make_many
     go_wp2_with fail
     clear mk
     have HB := zh (Bal (Below.refl wr.heap.size wr) (.cells manyA 44))
     have MZ := zh (hr_many (blk_new wr (.cells manyA 44)))
     replace NN := zh (Bgo NN.out HB.out)
     replace FU := zh (HR.next FU.out HB.out)
     replace O1 := zh (HR.next O1.out HB.out)
     replace O2 := zh (HR.next O2.out HB.out)
     replace O3 := zh (HR.next O3.out HB.out)
     replace ONE := zn HB ONE
     clear HB
     generalize wr.alloc (.cells manyA 44) = W2 at *
     have CC := zh (tchk_of MZ.out)
     rw [many_chk] at CC
     refine (CC.out).mono ?_
     rintro e w3 ⟨rfl, hb⟩
     clear CC
     replace NN := zh (Bgo NN.out hb)
     replace FU := zh (HR.next FU.out hb)
     replace O1 := zh (HR.next O1.out hb)
     replace O2 := zh (HR.next O2.out hb)
     replace O3 := zh (HR.next O3.out hb)
     replace MZ := zh (HR.next MZ.out hb)
     replace ONE := zn hb ONE
     clear hb
     go_wp2_with fail
     clear MZ
     have CC := zh (tchk_of FU.out)
     rw [ful_chk] at CC
     refine (CC.out).mono ?_
     rintro e w4 ⟨rfl, hb⟩
     clear CC
     replace NN := zh (Bgo NN.out hb)
     replace FU := zh (HR.next FU.out hb)
     replace O1 := zh (HR.next O1.out hb)
     replace O2 := zh (HR.next O2.out hb)
     replace O3 := zh (HR.next O3.out hb)
     replace ONE := zn hb ONE
     clear hb
     obtain ⟨c_ONE_0, f_ONE_0, c_ONE_1, f_ONE_1, c_ONE_2, f_ONE_2, c_ONE_3, f_ONE_3, c_ONE_4, f_ONE_4, c_ONE_5, f_ONE_5, l_ONE⟩ := zfl6 ONE
     go_wp2_with fail
     clear c_ONE_0 f_ONE_0 c_ONE_1 f_ONE_1 c_ONE_2 f_ONE_2 c_ONE_3 f_ONE_3 c_ONE_4 f_ONE_4 c_ONE_5 f_ONE_5 l_ONE
     have CC := zh (put_of FU.out (oneR 63 0))
     rw [ful_put.1] at CC
     refine (CC.out).mono ?_
     rintro e w5 ⟨v1, rfl, -, hb⟩
     clear CC
     replace NN := zh (Bgo NN.out hb)
     replace FU := zh (HR.next FU.out hb)
     replace O1 := zh (HR.next O1.out hb)
     replace O2 := zh (HR.next O2.out hb)
     replace O3 := zh (HR.next O3.out hb)
     replace ONE := zn hb ONE
     clear hb
     obtain ⟨c_ONE_0, f_ONE_0, c_ONE_1, f_ONE_1, c_ONE_2, f_ONE_2, c_ONE_3, f_ONE_3, c_ONE_4, f_ONE_4, c_ONE_5, f_ONE_5, l_ONE⟩ := zfl6 ONE
     go_wp2_with fail
     clear c_ONE_0 f_ONE_0 c_ONE_1 f_ONE_1 c_ONE_2 f_ONE_2 c_ONE_3 f_ONE_3 c_ONE_4 f_ONE_4 c_ONE_5 f_ONE_5 l_ONE
     have CC := zh (put_of FU.out (oneR 0 0))
     rw [ful_put.2] at CC
     refine (CC.out).mono ?_
     rintro e w6 ⟨v2, rfl, -, hb⟩
     clear CC
     replace NN := zh (Bgo NN.out hb)
     replace FU := zh (HR.next FU.out hb)
     replace O1 := zh (HR.next O1.out hb)
     replace O2 := zh (HR.next O2.out hb)
     replace O3 := zh (HR.next O3.out hb)
     replace ONE := zn hb ONE
     clear hb
     go_wp2_with fail
     have CC := zh (put_of O1.out ⟨0, 0, 0, 0, 0, 0, 0, 0⟩)
     rw [one_err.1] at CC
     refine (CC.out).mono ?_
     rintro e w7 ⟨v3, rfl, -, hb⟩
     clear CC
     replace NN := zh (Bgo NN.out hb)
     replace FU := zh (HR.next FU.out hb)
     replace O1 := zh (HR.next O1.out hb)
     replace O2 := zh (HR.next O2.out hb)
     replace O3 := zh (HR.next O3.out hb)
     replace ONE := zn hb ONE
     clear hb
     go_wp2_with fail
     have CC := zh (sel_of O1.out 1 0)
     rw [one_err.2.1] at CC
     refine (CC.out).mono ?_
     rintro e w8 ⟨v4, rfl, -, hb⟩
     clear CC
     replace NN := zh (Bgo NN.out hb)
     replace FU := zh (HR.next FU.out hb)
     replace O1 := zh (HR.next O1.out hb)
     replace O2 := zh (HR.next O2.out hb)
     replace O3 := zh (HR.next O3.out hb)
     replace ONE := zn hb ONE
     clear hb
     go_wp2_with fail
     have CC := zh (sel_of O1.out 0 8)
     rw [one_err.2.2.1] at CC
     refine (CC.out).mono ?_
     rintro e w9 ⟨v5, rfl, -, hb⟩
     clear CC
     replace NN := zh (Bgo NN.out hb)
     replace FU := zh (HR.next FU.out hb)
     replace O1 := zh (HR.next O1.out hb)
     replace O2 := zh (HR.next O2.out hb)
     replace O3 := zh (HR.next O3.out hb)
     replace ONE := zn hb ONE
     clear hb
     go_wp2_with fail
     have CC := zh (sel_of O1.out (-1) 1)
     rw [one_err.2.2.2.1] at CC
     refine (CC.out).mono ?_
     rintro e w10 ⟨v6, rfl, -, hb⟩
     clear CC
     replace NN := zh (Bgo NN.out hb)
     replace FU := zh (HR.next FU.out hb)
     replace O1 := zh (HR.next O1.out hb)
     replace O2 := zh (HR.next O2.out hb)
     replace O3 := zh (HR.next O3.out hb)
     replace ONE := zn hb ONE
     clear hb
     go_wp2_with fail
     have CC := zh (avg_of O1.out 0 1)
     rw [one_err.2.2.2.2.1] at CC
     refine (CC.out).mono ?_
     rintro e w11 ⟨v7, rfl, -, hb⟩
     clear CC
     replace NN := zh (Bgo NN.out hb)
     replace FU := zh (HR.next FU.out hb)
     replace O1 := zh (HR.next O1.out hb)
     replace O2 := zh (HR.next O2.out hb)
     replace O3 := zh (HR.next O3.out hb)
     replace ONE := zn hb ONE
     clear hb
     go_wp2_with fail
     have CC := zh (avg_of O1.out 65 1)
     rw [one_err.2.2.2.2.2.1] at CC
     refine (CC.out).mono ?_
     rintro e w12 ⟨v8, rfl, -, hb⟩
     clear CC
     replace NN := zh (Bgo NN.out hb)
     replace FU := zh (HR.next FU.out hb)
     replace O1 := zh (HR.next O1.out hb)
     replace O2 := zh (HR.next O2.out hb)
     replace O3 := zh (HR.next O3.out hb)
     replace ONE := zn hb ONE
     clear hb
     go_wp2_with fail
     have CC := zh (avg_of O1.out 1 17)
     rw [one_err.2.2.2.2.2.2.1] at CC
     refine (CC.out).mono ?_
     rintro e w13 ⟨v9, rfl, -, hb⟩
     clear CC
     replace NN := zh (Bgo NN.out hb)
     replace FU := zh (HR.next FU.out hb)
     replace O1 := zh (HR.next O1.out hb)
     replace O2 := zh (HR.next O2.out hb)
     replace O3 := zh (HR.next O3.out hb)
     replace ONE := zn hb ONE
     clear hb
     go_wp2_with fail
     have mk := make_16
     have CC := zh (drop_of O1.out (Am := none) (cm := 0) 0 0 (rb_none _) (by decide) (by decide))
     rw [one_err.2.2.2.2.2.2.2] at CC
     refine (CC.out).mono ?_
     rintro e w14 ⟨v10, rfl, -, hb⟩
     clear CC
     replace NN := zh (Bgo NN.out hb)
     replace FU := zh (HR.next FU.out hb)
     replace O1 := zh (HR.next O1.out hb)
     replace O2 := zh (HR.next O2.out hb)
     replace O3 := zh (HR.next O3.out hb)
     replace ONE := zn hb ONE
     clear hb
     go_wp2_with fail
     clear mk
     have HB := zh (Bal (Below.refl w14.heap.size w14) (.cells bits16 4))
     have MB := zh (rb_16 (blk_new w14 (.cells bits16 4)))
     replace NN := zh (Bgo NN.out HB.out)
     replace FU := zh (HR.next FU.out HB.out)
     replace O1 := zh (HR.next O1.out HB.out)
     replace O2 := zh (HR.next O2.out HB.out)
     replace O3 := zh (HR.next O3.out HB.out)
     replace ONE := zn HB ONE
     clear HB
     generalize w14.alloc (.cells bits16 4) = W15 at *
     have CC := zh (drop_of FU.out 1 16 MB.out (by decide) (by decide : 16 ≤ 16))
     rw [ful_drp] at CC
     refine (CC.out).mono ?_
     rintro e w16 ⟨v11, rfl, -, hb⟩
     clear CC
     replace NN := zh (Bgo NN.out hb)
     replace FU := zh (HR.next FU.out hb)
     replace O1 := zh (HR.next O1.out hb)
     replace O2 := zh (HR.next O2.out hb)
     replace O3 := zh (HR.next O3.out hb)
     replace MB := zh (Rd.next hb MB.out)
     replace ONE := zn hb ONE
     clear hb
     go_wp2_with fail
     clear MB
     obtain ⟨HB, FM⟩ := zl (w := w16) (.cells #[.string ⟨#[120]⟩, .string ⟨#[10]⟩, .string ⟨#[48, 32, 48, 32, 48, 32, 49, 32, 49, 32, 48, 32, 49]⟩, .string ⟨#[48, 32, 48, 32, 48, 32, 49, 32, 49, 32, 48, 10]⟩, .string ⟨#[48, 32, 48, 32, 49, 32, 48, 32, 49, 32, 48, 32, 49, 10]⟩, .string ⟨#[48, 48, 32, 48, 32, 48, 32, 49, 32, 49, 32, 48, 32, 49, 10]⟩, .string ⟨#[48, 32, 48, 32, 48, 32, 49, 32, 50, 47, 52, 32, 48, 32, 49, 10]⟩, .string ⟨#[48, 32, 48, 32, 48, 32, 49, 32, 49, 32, 48, 32, 49, 48, 48, 48, 48, 48, 49, 10]⟩, .string ⟨#[54, 52, 32, 48, 32, 48, 32, 49, 32, 49, 32, 48, 32, 49, 10]⟩, .string ⟨#[48, 32, 48, 32, 48, 32, 49, 32, 49, 32, 48, 32, 49, 32, 10]⟩, .string ⟨#[48, 32, 32, 48, 32, 48, 32, 49, 32, 49, 32, 48, 32, 49, 10]⟩, .string ⟨#[48, 32, 48, 32, 48, 32, 49, 32, 49, 32, 48, 32, 45, 49, 10]⟩, .string ⟨#[49, 32, 48, 32, 48, 32, 49, 32, 49, 32, 48, 32, 49, 10, 48, 32, 48, 32, 48, 32, 49, 32, 49, 32, 48, 32, 49, 10]⟩] 9)
     have LT_FM : Hid (w.heap.size < w16.heap.size ∧ w.heap.size ≤ w16.heap.size) := zh ⟨blk_lt ONE.out, NN.out.size⟩
     replace NN := zh (Bgo NN.out HB.out)
     replace FU := zh (HR.next FU.out HB.out)
     replace O1 := zh (HR.next O1.out HB.out)
     replace O2 := zh (HR.next O2.out HB.out)
     replace O3 := zh (HR.next O3.out HB.out)
     replace ONE := zn HB ONE
     clear HB
     generalize (w16.alloc (.cells #[.string ⟨#[120]⟩, .string ⟨#[10]⟩, .string ⟨#[48, 32, 48, 32, 48, 32, 49, 32, 49, 32, 48, 32, 49]⟩, .string ⟨#[48, 32, 48, 32, 48, 32, 49, 32, 49, 32, 48, 10]⟩, .string ⟨#[48, 32, 48, 32, 49, 32, 48, 32, 49, 32, 48, 32, 49, 10]⟩, .string ⟨#[48, 48, 32, 48, 32, 48, 32, 49, 32, 49, 32, 48, 32, 49, 10]⟩, .string ⟨#[48, 32, 48, 32, 48, 32, 49, 32, 50, 47, 52, 32, 48, 32, 49, 10]⟩, .string ⟨#[48, 32, 48, 32, 48, 32, 49, 32, 49, 32, 48, 32, 49, 48, 48, 48, 48, 48, 49, 10]⟩, .string ⟨#[54, 52, 32, 48, 32, 48, 32, 49, 32, 49, 32, 48, 32, 49, 10]⟩, .string ⟨#[48, 32, 48, 32, 48, 32, 49, 32, 49, 32, 48, 32, 49, 32, 10]⟩, .string ⟨#[48, 32, 32, 48, 32, 48, 32, 49, 32, 49, 32, 48, 32, 49, 10]⟩, .string ⟨#[48, 32, 48, 32, 48, 32, 49, 32, 49, 32, 48, 32, 45, 49, 10]⟩, .string ⟨#[49, 32, 48, 32, 48, 32, 49, 32, 49, 32, 48, 32, 49, 10, 48, 32, 48, 32, 48, 32, 49, 32, 49, 32, 48, 32, 49, 10]⟩] 9)) = W17 at *
     generalize w16.heap.size = gf at *
     have KF : Hid (∀ k, k < 13 → gf < W17.heap.size ∧ W17.cell? ⟨gf, k, none⟩ = some (Str (fmL k))) := zh (fun k hk => by
      have lb := blk_lt FM.out
      rcases (show k = 0 ∨ k = 1 ∨ k = 2 ∨ k = 3 ∨ k = 4 ∨ k = 5 ∨ k = 6 ∨ k = 7 ∨ k = 8 ∨ k = 9 ∨ k = 10 ∨ k = 11 ∨ k = 12 by omega) with rfl | rfl | rfl | rfl | rfl | rfl | rfl | rfl | rfl | rfl | rfl | rfl | rfl
      ·exact ⟨lb, blk_cell FM.out 0 _ rfl⟩
      ·exact ⟨lb, blk_cell FM.out 1 _ rfl⟩
      ·exact ⟨lb, blk_cell FM.out 2 _ rfl⟩
      ·exact ⟨lb, blk_cell FM.out 3 _ rfl⟩
      ·exact ⟨lb, blk_cell FM.out 4 _ rfl⟩
      ·exact ⟨lb, blk_cell FM.out 5 _ rfl⟩
      ·exact ⟨lb, blk_cell FM.out 6 _ rfl⟩
      ·exact ⟨lb, blk_cell FM.out 7 _ rfl⟩
      ·exact ⟨lb, blk_cell FM.out 8 _ rfl⟩
      ·exact ⟨lb, blk_cell FM.out 9 _ rfl⟩
      ·exact ⟨lb, blk_cell FM.out 10 _ rfl⟩
      ·exact ⟨lb, blk_cell FM.out 11 _ rfl⟩
      ·exact ⟨lb, blk_cell FM.out 12 _ rfl⟩
      )
     clear FM LT_FM
     obtain ⟨wd, hwd⟩ : ∃ z, z = W17 := ⟨_, rfl⟩
     subst hwd
     have N0 := zh (Below.refl wd.heap.size wd)
     go_loopw [34] (fun q9 wr => ∃ k : Nat, k ≤ 13 ∧ q9 = .int .i64 (k : Int) ∧ Hid (Below wd.heap.size wd wr)) (fun q9 _ => 13 - (intOf q9).toNat)
     case atStart => exact ⟨0, by decide, rfl, N0⟩
     case round =>
      clear N0
      obtain ⟨k, hk, rfl, N0⟩ := hrel
      by_cases hlt : 13 ≤ k
      ·have e : (k : Int) = 13 := by omega
       rw [e]
       clear hk hlt KF e
       replace NN := zh (Bgo NN.out N0.out)
       replace FU := zh (HR.next FU.out N0.out)
       replace O1 := zh (HR.next O1.out N0.out)
       replace O2 := zh (HR.next O2.out N0.out)
       replace O3 := zh (HR.next O3.out N0.out)
       replace ONE := zn N0 ONE
       clear N0
       go_wp2_with fail
       obtain ⟨we, hwe⟩ : ∃ z, z = wr := ⟨_, rfl⟩
       subst hwe
       go_loopw [37] (fun p9 wr => ∃ s : ByteArray, p9 = .string s ∧ 1 ≤ s.size ∧ s.size ≤ 40002 ∧ we = wr) (fun p9 _ => 20001 - szOf p9)
       case atStart => exact ⟨⟨#[120]⟩, rfl, by decide, by decide, rfl⟩
       case round =>
        obtain ⟨s, rfl, h1, h2, rfl⟩ := hrel
        by_cases hlt : 20001 ≤ s.size
        ·have d8 : ((s.size : Nat) : Int) < 20001 ↔ False := by constructor; omega; exact False.elim
         have HS := zh hlt
         go_wp2_with fail
         clear d8
         have CC : Hid (Calls Tryz.prog 11 #[.string s] we fun e w' => ∃ v, e = .returned (.tuple #[v, .int .i64 4]) ∧ HR w' v (paL s.data.toList) ∧ Below we.heap.size we w') := zh (by have := parse_of s.data.toList (Nat.le_trans (Nat.le_of_eq (Array.length_toList ..)) (Nat.le_trans h2 (by decide))) we (GG.out _ NN.out); rw [pa_far s (by omega), str_self] at this; exact this)
         clear h1 h2 hlt
         refine (CC.out).mono ?_
         rintro e w18 ⟨v12, rfl, -, hb⟩
         clear CC HS
         replace NN := zh (Bgo NN.out hb)
         replace FU := zh (HR.next FU.out hb)
         replace O1 := zh (HR.next O1.out hb)
         replace O2 := zh (HR.next O2.out hb)
         replace O3 := zh (HR.next O3.out hb)
         replace ONE := zn hb ONE
         clear hb
         go_wp2_with fail
         have CC := zh (parse_of [] (by decide) _ (GG.out _ NN.out))
         rw [no_parse.1, no_parse.2] at CC
         refine (CC.out).mono ?_
         rintro e w19 ⟨v13, rfl, hh, hb⟩
         obtain ⟨An, cn, rfl, -⟩ := hh.ex
         clear hh CC
         replace NN := zh (Bgo NN.out hb)
         replace FU := zh (HR.next FU.out hb)
         replace O1 := zh (HR.next O1.out hb)
         replace O2 := zh (HR.next O2.out hb)
         replace O3 := zh (HR.next O3.out hb)
         replace ONE := zn hb ONE
         clear hb
         go_upto_region 40 with fail
         have n1 : ¬ co = 1 := by have := HC.out; omega
         have n2 : ¬ 1 = co := by omega
         have n3 : (2 : Int) ≤ (co : Int) := by have := HC.out; omega
         have HDRW := zh (Below.drew (Below.refl w19.heap.size w19))
         replace NN := zh (Bgo NN.out HDRW.out)
         replace FU := zh (HR.next FU.out HDRW.out)
         replace O1 := zh (HR.next O1.out HDRW.out)
         replace O2 := zh (HR.next O2.out HDRW.out)
         replace O3 := zh (HR.next O3.out HDRW.out)
         replace ONE := zn HDRW ONE
         clear HDRW
         have HAL : Hid (∀ kx9 : Nat, GK [(2, w.heap.size, .cells #[.int .i64 0, .int .i64 1, .int .i64 1, .int .i64 0, .int .i64 1, .int .i64 1] 42)] kx9 w19.drew) := zh (fun kx9 => fun px9 hp e => by
          simp only [List.mem_cons, List.not_mem_nil, or_false] at hp
          subst hp
          exact ONE.out
         )
         refine region_H (S := GK [(2, w.heap.size, .cells #[.int .i64 0, .int .i64 1, .int .i64 1, .int .i64 0, .int .i64 1, .int .i64 1] 42)]) (by kernel_rfl) (by kernel_rfl) (by kernel_rfl) ?_
         intro HC9
         refine take_H 0 (.slice (some ⟨bf, of, none⟩) 200 co) (some 217) (GK.grow _) HC9 rfl (by kernel_rfl) rfl (fun _ _ _ h => h) (YieldsIf.toG (Or.inl ⟨by rfl, ?_⟩)) (GK.drop (by simp)) ?_
         ·intro X hX
          clear hX
          go_simp
         clear HC9
         intro HC9
         try simp only [Act.put, zA, zB, zC]
         refine take_H 1 (.slice (some ⟨bf, of + 8, none⟩) 1 (co - 1)) (some 218) (GK.grow _) HC9 rfl (by kernel_rfl) rfl (fun _ _ _ h => h) (YieldsIf.toG (Or.inl ⟨by rfl, ?_⟩)) (GK.drop (by simp)) ?_
         ·intro X hX
          clear hX
          go_simp
         clear HC9
         intro HC9
         try simp only [Act.put, zA, zB, zC]
         refine take_H 2 (.agg #[.int .i64 0, .int .i64 1, .int .i64 1, .int .i64 0, .int .i64 1, .int .i64 1]) (some 219) (GK.grow _) HC9 rfl (by kernel_rfl) rfl (fun _ _ _ h => h) (YieldsIf.toG (Or.inl ⟨by rfl, ?_⟩)) (HAL.out 2) ?_
         ·intro X hX
          have hh := hX (2, w.heap.size, .cells #[.int .i64 0, .int .i64 1, .int .i64 1, .int .i64 0, .int .i64 1, .int .i64 1] 42) (List.Mem.head _) rfl
          have hh0 := blk_cell hh 0 _ rfl
          have hh1 := blk_cell hh 1 _ rfl
          have hh2 := blk_cell hh 2 _ rfl
          have hh3 := blk_cell hh 3 _ rfl
          have hh4 := blk_cell hh 4 _ rfl
          have hh5 := blk_cell hh 5 _ rfl
          have hhl := blk_lt hh
          clear hh
          clear hX
          go_simp
         clear HC9
         intro HC9
         try simp only [Act.put, zA, zB, zC]
         refine take_H 3 (.agg #[.int .i64 0, .int .i64 0, .int .i64 0, .int .i64 1, .int .i64 1, .int .i64 0, .int .i64 1, .int .i64 1]) (some 220) (GK.grow _) HC9 rfl (by kernel_rfl) rfl (fun _ _ _ h => h) (YieldsIf.toG (Or.inl ⟨by rfl, ?_⟩)) (GK.drop (by simp)) ?_
         ·intro X hX
          clear hX
          go_simp
         clear HC9
         intro HC9
         try simp only [Act.put, zA, zB, zC]
         replace HC9 := HC9.set (readyB_mem (i := 4) (by kernel_rfl))
         refine only_G 4 (by kernel_rfl) rfl (fun X20 hX K' hK' => ?_)
         replace NN := zh (Bgo NN.out hX)
         replace FU := zh (HR.next FU.out hX)
         replace O1 := zh (HR.next O1.out hX)
         replace O2 := zh (HR.next O2.out hX)
         replace O3 := zh (HR.next O3.out hX)
         replace ONE := zn hX ONE
         replace HAL := zh (fun kx9 => GK.grow _ _ _ _ (HAL.out kx9) hX)
         clear hX
         go_simp
         have CC := zh (put_of O2.out (oneR 0 0))
         rw [two_put.1, two_put.2] at CC
         refine (CC.out).mono ?_
         rintro e w21 ⟨v14, rfl, hh, hb9⟩
         have HB9 := zh hb9
         have XP := zh hh
         clear hb9 hh CC
         refine hK'.out _ _ (fun kk hk hS => GK.grow _ _ _ _ hS HB9.out) ?_
         clear hK' K'
         try simp only [Act.put, zA, zB, zC]
         replace NN := zh (Bgo NN.out HB9.out)
         replace FU := zh (HR.next FU.out HB9.out)
         replace O1 := zh (HR.next O1.out HB9.out)
         replace O2 := zh (HR.next O2.out HB9.out)
         replace O3 := zh (HR.next O3.out HB9.out)
         replace ONE := zn HB9 ONE
         replace HAL := zh (fun kx9 => GK.grow _ _ _ _ (HAL.out kx9) HB9.out)
         clear HB9
         refine take_H 5 (.tuple #[v14, .int .i64 0]) (some 216) (GK.grow _) HC9 rfl (by kernel_rfl) rfl (fun _ _ _ h => h) (YieldsIf.toG (Or.inl ⟨by rfl, ?_⟩)) (GK.drop (by simp)) ?_
         ·intro X hX
          clear hX
          go_simp
         clear HC9
         intro HC9
         try simp only [Act.put, zA, zB, zC]
         refine take_H 6 (v14) (some 222) (GK.grow _) HC9 rfl (by kernel_rfl) rfl (fun _ _ _ h => h) (YieldsIf.toG (Or.inl ⟨by rfl, ?_⟩)) (GK.drop (by simp)) ?_
         ·intro X hX
          clear hX
          go_simp
         clear HC9
         intro HC9
         try simp only [Act.put, zA, zB, zC]
         refine take_H 7 (.int .i64 0) (some 223) (GK.grow _) HC9 rfl (by kernel_rfl) rfl (fun _ _ _ h => h) (YieldsIf.toG (Or.inl ⟨by rfl, ?_⟩)) (GK.drop (by simp)) ?_
         ·intro X hX
          clear hX
          go_simp
         clear HC9
         intro HC9
         try simp only [Act.put, zA, zB, zC]
         refine take_H 8 (v14) (some 42) (GK.grow _) HC9 rfl (by kernel_rfl) rfl (fun _ _ _ h => h) (YieldsIf.toG (Or.inl ⟨by rfl, ?_⟩)) (GK.drop (by simp)) ?_
         ·intro X hX
          clear hX
          go_simp
         clear HC9
         intro HC9
         try simp only [Act.put, zA, zB, zC]
         refine take_H 9 (.int .i64 0) (some 43) (GK.grow _) HC9 rfl (by kernel_rfl) rfl (fun _ _ _ h => h) (YieldsIf.toG (Or.inl ⟨by rfl, ?_⟩)) (GK.drop (by simp)) ?_
         ·intro X hX
          clear hX
          go_simp
         clear HC9
         intro HC9
         try simp only [Act.put, zA, zB, zC]
         clear HAL
         refine done_G (by kernel_rfl) (fun X22 hX => ?_) _
         replace NN := zh (Bgo NN.out hX)
         replace FU := zh (HR.next FU.out hX)
         replace O1 := zh (HR.next O1.out hX)
         replace O2 := zh (HR.next O2.out hX)
         replace O3 := zh (HR.next O3.out hX)
         replace XP := zh (HR.next XP.out hX)
         replace ONE := zn hX ONE
         clear hX
         clear n1 n2 n3
         go_wp2_with fail
         have CC := zh (avg_of FU.out 64 16)
         rw [ful_avg.1, ful_avg.2] at CC
         refine (CC.out).mono ?_
         rintro e w23 ⟨v15, rfl, hh, hb⟩
         have XA := zh hh
         clear hh CC
         replace NN := zh (Bgo NN.out hb)
         replace FU := zh (HR.next FU.out hb)
         replace O1 := zh (HR.next O1.out hb)
         replace O2 := zh (HR.next O2.out hb)
         replace O3 := zh (HR.next O3.out hb)
         replace XP := zh (HR.next XP.out hb)
         replace ONE := zn hb ONE
         clear hb
         go_wp2_with fail
         obtain ⟨Ax, cx, e9, hcx, hmx, htx, -⟩ := XA.out.ex
         subst e9
         obtain ⟨bx, ox, obx, e9, hbx, hcz⟩ := RT.obz htx (by decide)
         subst e9
         have ZX := zh hbx
         have CX := zh hcz
         have hc1x : 1 ≤ cx := hcx
         have n4 : (2 : Int) ≤ (co : Int) := by have := HC.out; omega
         clear hbx hcz htx hcx hmx XA FU O1 O2
         have HDRW := zh (Below.drew (Below.refl w23.heap.size w23))
         replace NN := zh (Bgo NN.out HDRW.out)
         replace O3 := zh (HR.next O3.out HDRW.out)
         replace XP := zh (HR.next XP.out HDRW.out)
         replace ZX := zn HDRW ZX
         replace ONE := zn HDRW ONE
         clear HDRW
         have HAL : Hid (∀ kx9 : Nat, GB [(92, bx, obx), (100, bx, obx), (102, w.heap.size, .cells #[.int .i64 0, .int .i64 1, .int .i64 1, .int .i64 0, .int .i64 1, .int .i64 1] 42)] w23.drew kx9 w23.drew) := zh (fun kx9 => ⟨fun px9 hp e => by
          simp only [List.mem_cons, List.not_mem_nil, or_false] at hp
          rcases hp with rfl | rfl | rfl
          ·exact ZX.out
          ·exact ZX.out
          ·exact ONE.out
         , Below.refl _ _⟩)
         refine region_H (S := GB [(92, bx, obx), (100, bx, obx), (102, w.heap.size, .cells #[.int .i64 0, .int .i64 1, .int .i64 1, .int .i64 0, .int .i64 1, .int .i64 1] 42)] w23.drew) (by kernel_rfl) (by kernel_rfl) (by kernel_rfl) ?_
         intro HC9
         refine take_H 0 (.bool true) (some 229) GB.grow HC9 rfl (by kernel_rfl) rfl (fun _ _ _ h => h) (YieldsIf.toG (Or.inl ⟨by rfl, ?_⟩)) (HAL.out 0) ?_
         ·intro X hX
          clear hX
          go_simp
         clear HC9
         intro HC9
         try simp only [Act.put, zA, zB, zC]
         have CFn : ∀ (args : Array Value) (W : World), Sem.run Tryz.prog (callFunc 14 args) W = .ok (.enter 14 args) W := fun _ _ => by kernel_rfl
         refine take_H 1 (.bool true) (some 230) GB.grow HC9 rfl (by kernel_rfl) rfl (fun _ _ _ h => h) (yieldsG_call 14 #[] (by rfl) ?_ (fun X hS => alive_calls X (GG.out _ (Bgo NN.out hS.2)))) (HAL.out 1) ?_
         ·intro X hX
          clear hX
          go_simp
         clear CFn
         clear HC9
         intro HC9
         try simp only [Act.put, zA, zB, zC]
         refine take_H 2 (.bool true) (some 231) GB.grow HC9 rfl (by kernel_rfl) rfl (fun _ _ _ h => h) (YieldsIf.toG (Or.inl ⟨by rfl, ?_⟩)) (HAL.out 2) ?_
         ·intro X hX
          clear hX
          go_simp
         clear HC9
         intro HC9
         try simp only [Act.put, zA, zB, zC]
         refine take_H 3 (.bool true) (some 232) GB.grow HC9 rfl (by kernel_rfl) rfl (fun _ _ _ h => h) (YieldsIf.toG (Or.inl ⟨by rfl, ?_⟩)) (HAL.out 3) ?_
         ·intro X hX
          clear hX
          go_simp
         clear HC9
         intro HC9
         try simp only [Act.put, zA, zB, zC]
         refine take_H 4 (.int .i64 4) (some 233) GB.grow HC9 rfl (by kernel_rfl) rfl (fun _ _ _ h => h) (YieldsIf.toG (Or.inl ⟨by rfl, ?_⟩)) (HAL.out 4) ?_
         ·intro X hX
          clear hX
          go_simp
         clear HC9
         intro HC9
         try simp only [Act.put, zA, zB, zC]
         refine take_H 5 (.bool true) (some 234) GB.grow HC9 rfl (by kernel_rfl) rfl (fun _ _ _ h => h) (YieldsIf.toG (Or.inl ⟨by rfl, ?_⟩)) (HAL.out 5) ?_
         ·intro X hX
          clear hX
          go_simp
         clear HC9
         intro HC9
         try simp only [Act.put, zA, zB, zC]
         refine take_H 6 (.bool true) (some 235) GB.grow HC9 rfl (by kernel_rfl) rfl (fun _ _ _ h => h) (YieldsIf.toG (Or.inl ⟨by rfl, ?_⟩)) (HAL.out 6) ?_
         ·intro X hX
          clear hX
          go_simp
         clear HC9
         intro HC9
         try simp only [Act.put, zA, zB, zC]
         refine take_H 7 (.bool true) (some 236) GB.grow HC9 rfl (by kernel_rfl) rfl (fun _ _ _ h => h) (YieldsIf.toG (Or.inl ⟨by rfl, ?_⟩)) (HAL.out 7) ?_
         ·intro X hX
          clear hX
          go_simp
         clear HC9
         intro HC9
         try simp only [Act.put, zA, zB, zC]
         refine take_H 8 (.int .i64 0) (some 237) GB.grow HC9 rfl (by kernel_rfl) rfl (fun _ _ _ h => h) (YieldsIf.toG (Or.inl ⟨by rfl, ?_⟩)) (HAL.out 8) ?_
         ·intro X hX
          clear hX
          go_simp
         clear HC9
         intro HC9
         try simp only [Act.put, zA, zB, zC]
         refine take_H 9 (.bool true) (some 238) GB.grow HC9 rfl (by kernel_rfl) rfl (fun _ _ _ h => h) (YieldsIf.toG (Or.inl ⟨by rfl, ?_⟩)) (HAL.out 9) ?_
         ·intro X hX
          clear hX
          go_simp
         clear HC9
         intro HC9
         try simp only [Act.put, zA, zB, zC]
         refine take_H 10 (.bool true) (some 239) GB.grow HC9 rfl (by kernel_rfl) rfl (fun _ _ _ h => h) (YieldsIf.toG (Or.inl ⟨by rfl, ?_⟩)) (HAL.out 10) ?_
         ·intro X hX
          clear hX
          go_simp
         clear HC9
         intro HC9
         try simp only [Act.put, zA, zB, zC]
         refine take_H 11 (.bool true) (some 240) GB.grow HC9 rfl (by kernel_rfl) rfl (fun _ _ _ h => h) (YieldsIf.toG (Or.inl ⟨by rfl, ?_⟩)) (HAL.out 11) ?_
         ·intro X hX
          clear hX
          go_simp
         clear HC9
         intro HC9
         try simp only [Act.put, zA, zB, zC]
         refine take_H 12 (.int .i64 4) (some 241) GB.grow HC9 rfl (by kernel_rfl) rfl (fun _ _ _ h => h) (YieldsIf.toG (Or.inl ⟨by rfl, ?_⟩)) (HAL.out 12) ?_
         ·intro X hX
          clear hX
          go_simp
         clear HC9
         intro HC9
         try simp only [Act.put, zA, zB, zC]
         refine take_H 13 (.bool true) (some 242) GB.grow HC9 rfl (by kernel_rfl) rfl (fun _ _ _ h => h) (YieldsIf.toG (Or.inl ⟨by rfl, ?_⟩)) (HAL.out 13) ?_
         ·intro X hX
          clear hX
          go_simp
         clear HC9
         intro HC9
         try simp only [Act.put, zA, zB, zC]
         refine take_H 14 (.bool true) (some 243) GB.grow HC9 rfl (by kernel_rfl) rfl (fun _ _ _ h => h) (YieldsIf.toG (Or.inl ⟨by rfl, ?_⟩)) (HAL.out 14) ?_
         ·intro X hX
          clear hX
          go_simp
         clear HC9
         intro HC9
         try simp only [Act.put, zA, zB, zC]
         refine take_H 15 (.bool true) (some 244) GB.grow HC9 rfl (by kernel_rfl) rfl (fun _ _ _ h => h) (YieldsIf.toG (Or.inl ⟨by rfl, ?_⟩)) (HAL.out 15) ?_
         ·intro X hX
          clear hX
          go_simp
         clear HC9
         intro HC9
         try simp only [Act.put, zA, zB, zC]
         refine take_H 16 (.int .i64 14) (some 245) GB.grow HC9 rfl (by kernel_rfl) rfl (fun _ _ _ h => h) (YieldsIf.toG (Or.inl ⟨by rfl, ?_⟩)) (HAL.out 16) ?_
         ·intro X hX
          clear hX
          go_simp
         clear HC9
         intro HC9
         try simp only [Act.put, zA, zB, zC]
         refine take_H 17 (.bool true) (some 246) GB.grow HC9 rfl (by kernel_rfl) rfl (fun _ _ _ h => h) (YieldsIf.toG (Or.inl ⟨by rfl, ?_⟩)) (HAL.out 17) ?_
         ·intro X hX
          clear hX
          go_simp
         clear HC9
         intro HC9
         try simp only [Act.put, zA, zB, zC]
         refine take_H 18 (.bool true) (some 247) GB.grow HC9 rfl (by kernel_rfl) rfl (fun _ _ _ h => h) (YieldsIf.toG (Or.inl ⟨by rfl, ?_⟩)) (HAL.out 18) ?_
         ·intro X hX
          clear hX
          go_simp
         clear HC9
         intro HC9
         try simp only [Act.put, zA, zB, zC]
         refine take_H 19 (.bool true) (some 248) GB.grow HC9 rfl (by kernel_rfl) rfl (fun _ _ _ h => h) (YieldsIf.toG (Or.inl ⟨by rfl, ?_⟩)) (HAL.out 19) ?_
         ·intro X hX
          clear hX
          go_simp
         clear HC9
         intro HC9
         try simp only [Act.put, zA, zB, zC]
         refine take_H 20 (.int .i64 8) (some 249) GB.grow HC9 rfl (by kernel_rfl) rfl (fun _ _ _ h => h) (YieldsIf.toG (Or.inl ⟨by rfl, ?_⟩)) (HAL.out 20) ?_
         ·intro X hX
          clear hX
          go_simp
         clear HC9
         intro HC9
         try simp only [Act.put, zA, zB, zC]
         refine take_H 21 (.bool true) (some 250) GB.grow HC9 rfl (by kernel_rfl) rfl (fun _ _ _ h => h) (YieldsIf.toG (Or.inl ⟨by rfl, ?_⟩)) (HAL.out 21) ?_
         ·intro X hX
          clear hX
          go_simp
         clear HC9
         intro HC9
         try simp only [Act.put, zA, zB, zC]
         refine take_H 22 (.bool true) (some 251) GB.grow HC9 rfl (by kernel_rfl) rfl (fun _ _ _ h => h) (YieldsIf.toG (Or.inl ⟨by rfl, ?_⟩)) (HAL.out 22) ?_
         ·intro X hX
          clear hX
          go_simp
         clear HC9
         intro HC9
         try simp only [Act.put, zA, zB, zC]
         refine take_H 23 (.bool true) (some 252) GB.grow HC9 rfl (by kernel_rfl) rfl (fun _ _ _ h => h) (YieldsIf.toG (Or.inl ⟨by rfl, ?_⟩)) (HAL.out 23) ?_
         ·intro X hX
          clear hX
          go_simp
         clear HC9
         intro HC9
         try simp only [Act.put, zA, zB, zC]
         refine take_H 24 (.int .i64 2) (some 253) GB.grow HC9 rfl (by kernel_rfl) rfl (fun _ _ _ h => h) (YieldsIf.toG (Or.inl ⟨by rfl, ?_⟩)) (HAL.out 24) ?_
         ·intro X hX
          clear hX
          go_simp
         clear HC9
         intro HC9
         try simp only [Act.put, zA, zB, zC]
         refine take_H 25 (.bool true) (some 254) GB.grow HC9 rfl (by kernel_rfl) rfl (fun _ _ _ h => h) (YieldsIf.toG (Or.inl ⟨by rfl, ?_⟩)) (HAL.out 25) ?_
         ·intro X hX
          clear hX
          go_simp
         clear HC9
         intro HC9
         try simp only [Act.put, zA, zB, zC]
         refine take_H 26 (.bool true) (some 255) GB.grow HC9 rfl (by kernel_rfl) rfl (fun _ _ _ h => h) (YieldsIf.toG (Or.inl ⟨by rfl, ?_⟩)) (HAL.out 26) ?_
         ·intro X hX
          clear hX
          go_simp
         clear HC9
         intro HC9
         try simp only [Act.put, zA, zB, zC]
         refine take_H 27 (.bool true) (some 256) GB.grow HC9 rfl (by kernel_rfl) rfl (fun _ _ _ h => h) (YieldsIf.toG (Or.inl ⟨by rfl, ?_⟩)) (HAL.out 27) ?_
         ·intro X hX
          clear hX
          go_simp
         clear HC9
         intro HC9
         try simp only [Act.put, zA, zB, zC]
         refine take_H 28 (.int .i64 2) (some 257) GB.grow HC9 rfl (by kernel_rfl) rfl (fun _ _ _ h => h) (YieldsIf.toG (Or.inl ⟨by rfl, ?_⟩)) (HAL.out 28) ?_
         ·intro X hX
          clear hX
          go_simp
         clear HC9
         intro HC9
         try simp only [Act.put, zA, zB, zC]
         refine take_H 29 (.bool true) (some 258) GB.grow HC9 rfl (by kernel_rfl) rfl (fun _ _ _ h => h) (YieldsIf.toG (Or.inl ⟨by rfl, ?_⟩)) (HAL.out 29) ?_
         ·intro X hX
          clear hX
          go_simp
         clear HC9
         intro HC9
         try simp only [Act.put, zA, zB, zC]
         refine take_H 30 (.bool true) (some 259) GB.grow HC9 rfl (by kernel_rfl) rfl (fun _ _ _ h => h) (YieldsIf.toG (Or.inl ⟨by rfl, ?_⟩)) (HAL.out 30) ?_
         ·intro X hX
          clear hX
          go_simp
         clear HC9
         intro HC9
         try simp only [Act.put, zA, zB, zC]
         refine take_H 31 (.bool true) (some 260) GB.grow HC9 rfl (by kernel_rfl) rfl (fun _ _ _ h => h) (YieldsIf.toG (Or.inl ⟨by rfl, ?_⟩)) (HAL.out 31) ?_
         ·intro X hX
          clear hX
          go_simp
         clear HC9
         intro HC9
         try simp only [Act.put, zA, zB, zC]
         refine take_H 32 (.int .i64 2) (some 261) GB.grow HC9 rfl (by kernel_rfl) rfl (fun _ _ _ h => h) (YieldsIf.toG (Or.inl ⟨by rfl, ?_⟩)) (HAL.out 32) ?_
         ·intro X hX
          clear hX
          go_simp
         clear HC9
         intro HC9
         try simp only [Act.put, zA, zB, zC]
         refine take_H 33 (.bool true) (some 262) GB.grow HC9 rfl (by kernel_rfl) rfl (fun _ _ _ h => h) (YieldsIf.toG (Or.inl ⟨by rfl, ?_⟩)) (HAL.out 33) ?_
         ·intro X hX
          clear hX
          go_simp
         clear HC9
         intro HC9
         try simp only [Act.put, zA, zB, zC]
         refine take_H 34 (.bool true) (some 263) GB.grow HC9 rfl (by kernel_rfl) rfl (fun _ _ _ h => h) (YieldsIf.toG (Or.inl ⟨by rfl, ?_⟩)) (HAL.out 34) ?_
         ·intro X hX
          clear hX
          go_simp
         clear HC9
         intro HC9
         try simp only [Act.put, zA, zB, zC]
         refine take_H 35 (.bool true) (some 264) GB.grow HC9 rfl (by kernel_rfl) rfl (fun _ _ _ h => h) (YieldsIf.toG (Or.inl ⟨by rfl, ?_⟩)) (HAL.out 35) ?_
         ·intro X hX
          clear hX
          go_simp
         clear HC9
         intro HC9
         try simp only [Act.put, zA, zB, zC]
         refine take_H 36 (.int .i64 2) (some 265) GB.grow HC9 rfl (by kernel_rfl) rfl (fun _ _ _ h => h) (YieldsIf.toG (Or.inl ⟨by rfl, ?_⟩)) (HAL.out 36) ?_
         ·intro X hX
          clear hX
          go_simp
         clear HC9
         intro HC9
         try simp only [Act.put, zA, zB, zC]
         refine take_H 37 (.bool true) (some 266) GB.grow HC9 rfl (by kernel_rfl) rfl (fun _ _ _ h => h) (YieldsIf.toG (Or.inl ⟨by rfl, ?_⟩)) (HAL.out 37) ?_
         ·intro X hX
          clear hX
          go_simp
         clear HC9
         intro HC9
         try simp only [Act.put, zA, zB, zC]
         refine take_H 38 (.bool true) (some 267) GB.grow HC9 rfl (by kernel_rfl) rfl (fun _ _ _ h => h) (YieldsIf.toG (Or.inl ⟨by rfl, ?_⟩)) (HAL.out 38) ?_
         ·intro X hX
          clear hX
          go_simp
         clear HC9
         intro HC9
         try simp only [Act.put, zA, zB, zC]
         refine take_H 39 (.bool true) (some 268) GB.grow HC9 rfl (by kernel_rfl) rfl (fun _ _ _ h => h) (YieldsIf.toG (Or.inl ⟨by rfl, ?_⟩)) (HAL.out 39) ?_
         ·intro X hX
          clear hX
          go_simp
         clear HC9
         intro HC9
         try simp only [Act.put, zA, zB, zC]
         refine take_H 40 (.int .i64 2) (some 269) GB.grow HC9 rfl (by kernel_rfl) rfl (fun _ _ _ h => h) (YieldsIf.toG (Or.inl ⟨by rfl, ?_⟩)) (HAL.out 40) ?_
         ·intro X hX
          clear hX
          go_simp
         clear HC9
         intro HC9
         try simp only [Act.put, zA, zB, zC]
         refine take_H 41 (.bool true) (some 270) GB.grow HC9 rfl (by kernel_rfl) rfl (fun _ _ _ h => h) (YieldsIf.toG (Or.inl ⟨by rfl, ?_⟩)) (HAL.out 41) ?_
         ·intro X hX
          clear hX
          go_simp
         clear HC9
         intro HC9
         try simp only [Act.put, zA, zB, zC]
         refine take_H 42 (.bool true) (some 271) GB.grow HC9 rfl (by kernel_rfl) rfl (fun _ _ _ h => h) (YieldsIf.toG (Or.inl ⟨by rfl, ?_⟩)) (HAL.out 42) ?_
         ·intro X hX
          clear hX
          go_simp
         clear HC9
         intro HC9
         try simp only [Act.put, zA, zB, zC]
         refine take_H 43 (.bool true) (some 272) GB.grow HC9 rfl (by kernel_rfl) rfl (fun _ _ _ h => h) (YieldsIf.toG (Or.inl ⟨by rfl, ?_⟩)) (HAL.out 43) ?_
         ·intro X hX
          clear hX
          go_simp
         clear HC9
         intro HC9
         try simp only [Act.put, zA, zB, zC]
         refine take_H 44 (.int .i64 2) (some 273) GB.grow HC9 rfl (by kernel_rfl) rfl (fun _ _ _ h => h) (YieldsIf.toG (Or.inl ⟨by rfl, ?_⟩)) (HAL.out 44) ?_
         ·intro X hX
          clear hX
          go_simp
         clear HC9
         intro HC9
         try simp only [Act.put, zA, zB, zC]
         refine take_H 45 (.bool true) (some 274) GB.grow HC9 rfl (by kernel_rfl) rfl (fun _ _ _ h => h) (YieldsIf.toG (Or.inl ⟨by rfl, ?_⟩)) (HAL.out 45) ?_
         ·intro X hX
          clear hX
          go_simp
         clear HC9
         intro HC9
         try simp only [Act.put, zA, zB, zC]
         refine take_H 46 (.bool true) (some 275) GB.grow HC9 rfl (by kernel_rfl) rfl (fun _ _ _ h => h) (YieldsIf.toG (Or.inl ⟨by rfl, ?_⟩)) (HAL.out 46) ?_
         ·intro X hX
          clear hX
          go_simp
         clear HC9
         intro HC9
         try simp only [Act.put, zA, zB, zC]
         refine take_H 47 (.bool true) (some 276) GB.grow HC9 rfl (by kernel_rfl) rfl (fun _ _ _ h => h) (YieldsIf.toG (Or.inl ⟨by rfl, ?_⟩)) (HAL.out 47) ?_
         ·intro X hX
          clear hX
          go_simp
         clear HC9
         intro HC9
         try simp only [Act.put, zA, zB, zC]
         refine take_H 48 (.int .i64 8) (some 277) GB.grow HC9 rfl (by kernel_rfl) rfl (fun _ _ _ h => h) (YieldsIf.toG (Or.inl ⟨by rfl, ?_⟩)) (HAL.out 48) ?_
         ·intro X hX
          clear hX
          go_simp
         clear HC9
         intro HC9
         try simp only [Act.put, zA, zB, zC]
         refine take_H 49 (.bool true) (some 278) GB.grow HC9 rfl (by kernel_rfl) rfl (fun _ _ _ h => h) (YieldsIf.toG (Or.inl ⟨by rfl, ?_⟩)) (HAL.out 49) ?_
         ·intro X hX
          clear hX
          go_simp
         clear HC9
         intro HC9
         try simp only [Act.put, zA, zB, zC]
         refine take_H 50 (.bool true) (some 279) GB.grow HC9 rfl (by kernel_rfl) rfl (fun _ _ _ h => h) (YieldsIf.toG (Or.inl ⟨by rfl, ?_⟩)) (HAL.out 50) ?_
         ·intro X hX
          clear hX
          go_simp
         clear HC9
         intro HC9
         try simp only [Act.put, zA, zB, zC]
         refine take_H 51 (.bool true) (some 280) GB.grow HC9 rfl (by kernel_rfl) rfl (fun _ _ _ h => h) (YieldsIf.toG (Or.inl ⟨by rfl, ?_⟩)) (HAL.out 51) ?_
         ·intro X hX
          clear hX
          go_simp
         clear HC9
         intro HC9
         try simp only [Act.put, zA, zB, zC]
         refine take_H 52 (.int .i64 2) (some 281) GB.grow HC9 rfl (by kernel_rfl) rfl (fun _ _ _ h => h) (YieldsIf.toG (Or.inl ⟨by rfl, ?_⟩)) (HAL.out 52) ?_
         ·intro X hX
          clear hX
          go_simp
         clear HC9
         intro HC9
         try simp only [Act.put, zA, zB, zC]
         refine take_H 53 (.bool true) (some 282) GB.grow HC9 rfl (by kernel_rfl) rfl (fun _ _ _ h => h) (YieldsIf.toG (Or.inl ⟨by rfl, ?_⟩)) (HAL.out 53) ?_
         ·intro X hX
          clear hX
          go_simp
         clear HC9
         intro HC9
         try simp only [Act.put, zA, zB, zC]
         refine take_H 54 (.bool true) (some 283) GB.grow HC9 rfl (by kernel_rfl) rfl (fun _ _ _ h => h) (YieldsIf.toG (Or.inl ⟨by rfl, ?_⟩)) (HAL.out 54) ?_
         ·intro X hX
          clear hX
          go_simp
         clear HC9
         intro HC9
         try simp only [Act.put, zA, zB, zC]
         refine take_H 55 (.bool true) (some 284) GB.grow HC9 rfl (by kernel_rfl) rfl (fun _ _ _ h => h) (YieldsIf.toG (Or.inl ⟨by rfl, ?_⟩)) (HAL.out 55) ?_
         ·intro X hX
          clear hX
          go_simp
         clear HC9
         intro HC9
         try simp only [Act.put, zA, zB, zC]
         refine take_H 56 (.int .i64 4) (some 285) GB.grow HC9 rfl (by kernel_rfl) rfl (fun _ _ _ h => h) (YieldsIf.toG (Or.inl ⟨by rfl, ?_⟩)) (HAL.out 56) ?_
         ·intro X hX
          clear hX
          go_simp
         clear HC9
         intro HC9
         try simp only [Act.put, zA, zB, zC]
         refine take_H 57 (.bool true) (some 286) GB.grow HC9 rfl (by kernel_rfl) rfl (fun _ _ _ h => h) (YieldsIf.toG (Or.inl ⟨by rfl, ?_⟩)) (HAL.out 57) ?_
         ·intro X hX
          clear hX
          go_simp
         clear HC9
         intro HC9
         try simp only [Act.put, zA, zB, zC]
         refine take_H 58 (.bool true) (some 287) GB.grow HC9 rfl (by kernel_rfl) rfl (fun _ _ _ h => h) (YieldsIf.toG (Or.inl ⟨by rfl, ?_⟩)) (HAL.out 58) ?_
         ·intro X hX
          clear hX
          go_simp
         clear HC9
         intro HC9
         try simp only [Act.put, zA, zB, zC]
         refine take_H 59 (.bool true) (some 288) GB.grow HC9 rfl (by kernel_rfl) rfl (fun _ _ _ h => h) (YieldsIf.toG (Or.inl ⟨by rfl, ?_⟩)) (HAL.out 59) ?_
         ·intro X hX
          clear hX
          go_simp
         clear HC9
         intro HC9
         try simp only [Act.put, zA, zB, zC]
         refine take_H 60 (.int .i64 0) (some 289) GB.grow HC9 rfl (by kernel_rfl) rfl (fun _ _ _ h => h) (YieldsIf.toG (Or.inl ⟨by rfl, ?_⟩)) (HAL.out 60) ?_
         ·intro X hX
          clear hX
          go_simp
         clear HC9
         intro HC9
         try simp only [Act.put, zA, zB, zC]
         refine take_H 61 (.bool true) (some 290) GB.grow HC9 rfl (by kernel_rfl) rfl (fun _ _ _ h => h) (YieldsIf.toG (Or.inl ⟨by rfl, ?_⟩)) (HAL.out 61) ?_
         ·intro X hX
          clear hX
          go_simp
         clear HC9
         intro HC9
         try simp only [Act.put, zA, zB, zC]
         refine take_H 62 (.bool true) (some 291) GB.grow HC9 rfl (by kernel_rfl) rfl (fun _ _ _ h => h) (YieldsIf.toG (Or.inl ⟨by rfl, ?_⟩)) (HAL.out 62) ?_
         ·intro X hX
          clear hX
          go_simp
         clear HC9
         intro HC9
         try simp only [Act.put, zA, zB, zC]
         refine take_H 63 (.bool true) (some 292) GB.grow HC9 rfl (by kernel_rfl) rfl (fun _ _ _ h => h) (YieldsIf.toG (Or.inl ⟨by rfl, ?_⟩)) (HAL.out 63) ?_
         ·intro X hX
          clear hX
          go_simp
         clear HC9
         intro HC9
         try simp only [Act.put, zA, zB, zC]
         refine take_H 64 (.slice An 0 cn) (some 293) GB.grow HC9 rfl (by kernel_rfl) rfl (fun _ _ _ h => h) (YieldsIf.toG (Or.inl ⟨by rfl, ?_⟩)) (HAL.out 64) ?_
         ·intro X hX
          clear hX
          go_simp
         clear HC9
         intro HC9
         try simp only [Act.put, zA, zB, zC]
         refine take_H 65 (.int .i64 (0 : Nat)) (some 294) GB.grow HC9 rfl (by kernel_rfl) rfl (fun _ _ _ h => h) (YieldsIf.toG (Or.inl ⟨by rfl, ?_⟩)) (HAL.out 65) ?_
         ·intro X hX
          clear hX
          go_simp
         clear HC9
         intro HC9
         try simp only [Act.put, zA, zB, zC]
         refine take_H 66 (.bool true) (some 295) GB.grow HC9 rfl (by kernel_rfl) rfl (fun _ _ _ h => h) (YieldsIf.toG (Or.inl ⟨by rfl, ?_⟩)) (HAL.out 66) ?_
         ·intro X hX
          clear hX
          go_simp
         clear HC9
         intro HC9
         try simp only [Act.put, zA, zB, zC]
         refine take_H 67 (.bool true) (some 296) GB.grow HC9 rfl (by kernel_rfl) rfl (fun _ _ _ h => h) (YieldsIf.toG (Or.inl ⟨by rfl, ?_⟩)) (HAL.out 67) ?_
         ·intro X hX
          clear hX
          go_simp
         clear HC9
         intro HC9
         try simp only [Act.put, zA, zB, zC]
         refine take_H 68 (.bool true) (some 297) GB.grow HC9 rfl (by kernel_rfl) rfl (fun _ _ _ h => h) (YieldsIf.toG (Or.inl ⟨by rfl, ?_⟩)) (HAL.out 68) ?_
         ·intro X hX
          clear hX
          go_simp
         clear HC9
         intro HC9
         try simp only [Act.put, zA, zB, zC]
         refine take_H 69 (.int .i64 0) (some 298) GB.grow HC9 rfl (by kernel_rfl) rfl (fun _ _ _ h => h) (YieldsIf.toG (Or.inl ⟨by rfl, ?_⟩)) (HAL.out 69) ?_
         ·intro X hX
          clear hX
          go_simp
         clear HC9
         intro HC9
         try simp only [Act.put, zA, zB, zC]
         refine take_H 70 (.bool true) (some 299) GB.grow HC9 rfl (by kernel_rfl) rfl (fun _ _ _ h => h) (YieldsIf.toG (Or.inl ⟨by rfl, ?_⟩)) (HAL.out 70) ?_
         ·intro X hX
          clear hX
          go_simp
         clear HC9
         intro HC9
         try simp only [Act.put, zA, zB, zC]
         refine take_H 71 (.bool true) (some 300) GB.grow HC9 rfl (by kernel_rfl) rfl (fun _ _ _ h => h) (YieldsIf.toG (Or.inl ⟨by rfl, ?_⟩)) (HAL.out 71) ?_
         ·intro X hX
          clear hX
          go_simp
         clear HC9
         intro HC9
         try simp only [Act.put, zA, zB, zC]
         refine take_H 72 (.bool true) (some 301) GB.grow HC9 rfl (by kernel_rfl) rfl (fun _ _ _ h => h) (YieldsIf.toG (Or.inl ⟨by rfl, ?_⟩)) (HAL.out 72) ?_
         ·intro X hX
          clear hX
          go_simp
         clear HC9
         intro HC9
         try simp only [Act.put, zA, zB, zC]
         refine take_H 73 (v14) (some 302) GB.grow HC9 rfl (by kernel_rfl) rfl (fun _ _ _ h => h) (YieldsIf.toG (Or.inl ⟨by rfl, ?_⟩)) (HAL.out 73) ?_
         ·intro X hX
          clear hX
          go_simp
         clear HC9
         intro HC9
         try simp only [Act.put, zA, zB, zC]
         refine take_H 74 (.slice (some ⟨bf, of, none⟩) 200 co) (some 303) GB.grow HC9 rfl (by kernel_rfl) rfl (fun _ _ _ h => h) (YieldsIf.toG (Or.inl ⟨by rfl, ?_⟩)) (HAL.out 74) ?_
         ·intro X hX
          clear hX
          go_simp
         clear HC9
         intro HC9
         try simp only [Act.put, zA, zB, zC]
         refine take_H 75 (.slice (some ⟨bf, of, none⟩) 2 co) (some 304) GB.grow HC9 rfl (by kernel_rfl) rfl (fun _ _ _ h => h) (YieldsIf.toG (Or.inl ⟨by rfl, ?_⟩)) (HAL.out 75) ?_
         ·intro X hX
          clear hX
          go_simp
         clear HC9
         intro HC9
         try simp only [Act.put, zA, zB, zC]
         have CFn : ∀ (args : Array Value) (W : World), Sem.run Tryz.prog (callFunc 13 args) W = .ok (.enter 13 args) W := fun _ _ => by kernel_rfl
         refine take_H 76 (.bool true) (some 305) GB.grow HC9 rfl (by kernel_rfl) rfl (fun _ _ _ h => h) (yieldsG_call 13 #[v14, .slice (some ⟨bf, of, none⟩) 2 co] (by rfl) ?_ (fun X hS => same_of (HR.next XP.out hS.2) (HR.next O3.out hS.2) (by decide))) (HAL.out 76) ?_
         ·intro X hX
          clear hX
          go_simp
         clear CFn
         clear HC9
         intro HC9
         try simp only [Act.put, zA, zB, zC]
         refine take_H 77 (.bool true) (some 306) GB.grow HC9 rfl (by kernel_rfl) rfl (fun _ _ _ h => h) (YieldsIf.toG (Or.inl ⟨by rfl, ?_⟩)) (HAL.out 77) ?_
         ·intro X hX
          clear hX
          go_simp
         clear HC9
         intro HC9
         try simp only [Act.put, zA, zB, zC]
         refine take_H 78 (.bool true) (some 307) GB.grow HC9 rfl (by kernel_rfl) rfl (fun _ _ _ h => h) (YieldsIf.toG (Or.inl ⟨by rfl, ?_⟩)) (HAL.out 78) ?_
         ·intro X hX
          clear hX
          go_simp
         clear HC9
         intro HC9
         try simp only [Act.put, zA, zB, zC]
         refine take_H 79 (.int .i64 0) (some 308) GB.grow HC9 rfl (by kernel_rfl) rfl (fun _ _ _ h => h) (YieldsIf.toG (Or.inl ⟨by rfl, ?_⟩)) (HAL.out 79) ?_
         ·intro X hX
          clear hX
          go_simp
         clear HC9
         intro HC9
         try simp only [Act.put, zA, zB, zC]
         refine take_H 80 (.bool true) (some 309) GB.grow HC9 rfl (by kernel_rfl) rfl (fun _ _ _ h => h) (YieldsIf.toG (Or.inl ⟨by rfl, ?_⟩)) (HAL.out 80) ?_
         ·intro X hX
          clear hX
          go_simp
         clear HC9
         intro HC9
         try simp only [Act.put, zA, zB, zC]
         refine take_H 81 (.bool true) (some 310) GB.grow HC9 rfl (by kernel_rfl) rfl (fun _ _ _ h => h) (YieldsIf.toG (Or.inl ⟨by rfl, ?_⟩)) (HAL.out 81) ?_
         ·intro X hX
          clear hX
          go_simp
         clear HC9
         intro HC9
         try simp only [Act.put, zA, zB, zC]
         refine take_H 82 (.bool true) (some 311) GB.grow HC9 rfl (by kernel_rfl) rfl (fun _ _ _ h => h) (YieldsIf.toG (Or.inl ⟨by rfl, ?_⟩)) (HAL.out 82) ?_
         ·intro X hX
          clear hX
          go_simp
         clear HC9
         intro HC9
         try simp only [Act.put, zA, zB, zC]
         refine take_H 83 (.slice (some ⟨bx, ox, none⟩) 1 cx) (some 312) GB.grow HC9 rfl (by kernel_rfl) rfl (fun _ _ _ h => h) (YieldsIf.toG (Or.inl ⟨by rfl, ?_⟩)) (HAL.out 83) ?_
         ·intro X hX
          clear hX
          go_simp
         clear HC9
         intro HC9
         try simp only [Act.put, zA, zB, zC]
         refine take_H 84 (.int .i64 (1 : Nat)) (some 313) GB.grow HC9 rfl (by kernel_rfl) rfl (fun _ _ _ h => h) (YieldsIf.toG (Or.inl ⟨by rfl, ?_⟩)) (HAL.out 84) ?_
         ·intro X hX
          clear hX
          go_simp
         clear HC9
         intro HC9
         try simp only [Act.put, zA, zB, zC]
         refine take_H 85 (.bool true) (some 314) GB.grow HC9 rfl (by kernel_rfl) rfl (fun _ _ _ h => h) (YieldsIf.toG (Or.inl ⟨by rfl, ?_⟩)) (HAL.out 85) ?_
         ·intro X hX
          clear hX
          go_simp
         clear HC9
         intro HC9
         try simp only [Act.put, zA, zB, zC]
         refine take_H 86 (.bool true) (some 315) GB.grow HC9 rfl (by kernel_rfl) rfl (fun _ _ _ h => h) (YieldsIf.toG (Or.inl ⟨by rfl, ?_⟩)) (HAL.out 86) ?_
         ·intro X hX
          clear hX
          go_simp
         clear HC9
         intro HC9
         try simp only [Act.put, zA, zB, zC]
         refine take_H 87 (.bool true) (some 316) GB.grow HC9 rfl (by kernel_rfl) rfl (fun _ _ _ h => h) (YieldsIf.toG (Or.inl ⟨by rfl, ?_⟩)) (HAL.out 87) ?_
         ·intro X hX
          clear hX
          go_simp
         clear HC9
         intro HC9
         try simp only [Act.put, zA, zB, zC]
         refine take_H 88 (.slice (some ⟨bx, ox, none⟩) 1 cx) (some 317) GB.grow HC9 rfl (by kernel_rfl) rfl (fun _ _ _ h => h) (YieldsIf.toG (Or.inl ⟨by rfl, ?_⟩)) (HAL.out 88) ?_
         ·intro X hX
          clear hX
          go_simp
         clear HC9
         intro HC9
         try simp only [Act.put, zA, zB, zC]
         refine take_H 89 (.pointer (some ⟨bx, ox, none⟩)) (some 318) GB.grow HC9 rfl (by kernel_rfl) rfl (fun _ _ _ h => h) (YieldsIf.toG (Or.inl ⟨by rfl, ?_⟩)) (HAL.out 89) ?_
         ·intro X hX
          clear hX
          go_simp
         clear HC9
         intro HC9
         try simp only [Act.put, zA, zB, zC]
         refine take_H 90 (.pointer (some ⟨bx, ox + 2, none⟩)) (some 319) GB.grow HC9 rfl (by kernel_rfl) rfl (fun _ _ _ h => h) (YieldsIf.toG (Or.inl ⟨by rfl, ?_⟩)) (HAL.out 90) ?_
         ·intro X hX
          clear hX
          go_simp
         clear HC9
         intro HC9
         try simp only [Act.put, zA, zB, zC]
         refine take_H 91 (.pointer (some ⟨bx, ox + 7, none⟩)) (some 320) GB.grow HC9 rfl (by kernel_rfl) rfl (fun _ _ _ h => h) (YieldsIf.toG (Or.inl ⟨by rfl, ?_⟩)) (HAL.out 91) ?_
         ·intro X hX
          clear hX
          go_simp
         clear HC9
         intro HC9
         try simp only [Act.put, zA, zB, zC]
         refine take_H 92 (.int .i64 200) (some 321) GB.grow HC9 rfl (by kernel_rfl) rfl (fun _ _ _ h => h) (YieldsIf.toG (Or.inl ⟨by rfl, ?_⟩)) (HAL.out 92) ?_
         ·intro X hX
          have hh := hX.1 (92, bx, obx) (List.Mem.head _) rfl
          have hh0 := (CX.out _ hh 7 _ rfl)
          have hhl := blk_lt hh
          clear hh
          clear hX
          go_simp
         clear HC9
         intro HC9
         try simp only [Act.put, zA, zB, zC]
         refine take_H 93 (.bool true) (some 322) GB.grow HC9 rfl (by kernel_rfl) rfl (fun _ _ _ h => h) (YieldsIf.toG (Or.inl ⟨by rfl, ?_⟩)) (HAL.out 93) ?_
         ·intro X hX
          clear hX
          go_simp
         clear HC9
         intro HC9
         try simp only [Act.put, zA, zB, zC]
         refine take_H 94 (.bool true) (some 323) GB.grow HC9 rfl (by kernel_rfl) rfl (fun _ _ _ h => h) (YieldsIf.toG (Or.inl ⟨by rfl, ?_⟩)) (HAL.out 94) ?_
         ·intro X hX
          clear hX
          go_simp
         clear HC9
         intro HC9
         try simp only [Act.put, zA, zB, zC]
         refine take_H 95 (.bool true) (some 324) GB.grow HC9 rfl (by kernel_rfl) rfl (fun _ _ _ h => h) (YieldsIf.toG (Or.inl ⟨by rfl, ?_⟩)) (HAL.out 95) ?_
         ·intro X hX
          clear hX
          go_simp
         clear HC9
         intro HC9
         try simp only [Act.put, zA, zB, zC]
         refine take_H 96 (.slice (some ⟨bx, ox, none⟩) 1 cx) (some 325) GB.grow HC9 rfl (by kernel_rfl) rfl (fun _ _ _ h => h) (YieldsIf.toG (Or.inl ⟨by rfl, ?_⟩)) (HAL.out 96) ?_
         ·intro X hX
          clear hX
          go_simp
         clear HC9
         intro HC9
         try simp only [Act.put, zA, zB, zC]
         refine take_H 97 (.pointer (some ⟨bx, ox, none⟩)) (some 326) GB.grow HC9 rfl (by kernel_rfl) rfl (fun _ _ _ h => h) (YieldsIf.toG (Or.inl ⟨by rfl, ?_⟩)) (HAL.out 97) ?_
         ·intro X hX
          clear hX
          go_simp
         clear HC9
         intro HC9
         try simp only [Act.put, zA, zB, zC]
         refine take_H 98 (.pointer (some ⟨bx, ox + 2, none⟩)) (some 327) GB.grow HC9 rfl (by kernel_rfl) rfl (fun _ _ _ h => h) (YieldsIf.toG (Or.inl ⟨by rfl, ?_⟩)) (HAL.out 98) ?_
         ·intro X hX
          clear hX
          go_simp
         clear HC9
         intro HC9
         try simp only [Act.put, zA, zB, zC]
         refine take_H 99 (.pointer (some ⟨bx, ox + 4, none⟩)) (some 328) GB.grow HC9 rfl (by kernel_rfl) rfl (fun _ _ _ h => h) (YieldsIf.toG (Or.inl ⟨by rfl, ?_⟩)) (HAL.out 99) ?_
         ·intro X hX
          clear hX
          go_simp
         clear HC9
         intro HC9
         try simp only [Act.put, zA, zB, zC]
         refine take_H 100 (.agg #[.int .i64 1, .int .i64 0, .int .i64 1]) (some 329) GB.grow HC9 rfl (by kernel_rfl) rfl (fun _ _ _ h => h) (YieldsIf.toG (Or.inl ⟨by rfl, ?_⟩)) (HAL.out 100) ?_
         ·intro X hX
          have hh := hX.1 (100, bx, obx) (List.Mem.tail _ (List.Mem.head _)) rfl
          have hh0 := (CX.out _ hh 4 _ rfl)
          have hh1 := (CX.out _ hh 5 _ rfl)
          have hh2 := (CX.out _ hh 6 _ rfl)
          have hhl := blk_lt hh
          clear hh
          clear hX
          go_simp
         clear HC9
         intro HC9
         try simp only [Act.put, zA, zB, zC]
         refine take_H 101 (.pointer (some ⟨w.heap.size, 2, none⟩)) (some 330) GB.grow HC9 rfl (by kernel_rfl) rfl (fun _ _ _ h => h) (YieldsIf.toG (Or.inl ⟨by rfl, ?_⟩)) (HAL.out 101) ?_
         ·intro X hX
          clear hX
          go_simp
         clear HC9
         intro HC9
         try simp only [Act.put, zA, zB, zC]
         refine take_H 102 (.agg #[.int .i64 1, .int .i64 0, .int .i64 1]) (some 331) GB.grow HC9 rfl (by kernel_rfl) rfl (fun _ _ _ h => h) (YieldsIf.toG (Or.inl ⟨by rfl, ?_⟩)) (HAL.out 102) ?_
         ·intro X hX
          have hh := hX.1 (102, w.heap.size, .cells #[.int .i64 0, .int .i64 1, .int .i64 1, .int .i64 0, .int .i64 1, .int .i64 1] 42) (List.Mem.tail _ (List.Mem.tail _ (List.Mem.head _))) rfl
          have hh0 := blk_cell hh 2 _ rfl
          have hh1 := blk_cell hh 3 _ rfl
          have hh2 := blk_cell hh 4 _ rfl
          have hhl := blk_lt hh
          clear hh
          clear hX
          go_simp
         clear HC9
         intro HC9
         try simp only [Act.put, zA, zB, zC]
         refine take_H 103 (.bool true) (some 332) GB.grow HC9 rfl (by kernel_rfl) rfl (fun _ _ _ h => h) (YieldsIf.toG (Or.inl ⟨by rfl, ?_⟩)) (HAL.out 103) ?_
         ·intro X hX
          clear hX
          go_simp
         clear HC9
         intro HC9
         try simp only [Act.put, zA, zB, zC]
         refine take_H 104 (.bool true) (some 333) GB.grow HC9 rfl (by kernel_rfl) rfl (fun _ _ _ h => h) (YieldsIf.toG (Or.inl ⟨by rfl, ?_⟩)) (HAL.out 104) ?_
         ·intro X hX
          clear hX
          go_simp
         clear HC9
         intro HC9
         try simp only [Act.put, zA, zB, zC]
         refine take_H 105 (.bool true) (some 0) GB.grow HC9 rfl (by kernel_rfl) rfl (fun _ _ _ h => h) (YieldsIf.toG (Or.inl ⟨by rfl, ?_⟩)) (HAL.out 105) ?_
         ·intro X hX
          clear hX
          go_simp
         clear HC9
         intro HC9
         try simp only [Act.put, zA, zB, zC]
         clear HAL
         refine done_G (by kernel_rfl) (fun X24 hX => ?_) _
         replace NN := zh (Bgo NN.out hX)
         replace O3 := zh (HR.next O3.out hX)
         replace XP := zh (HR.next XP.out hX)
         replace ZX := zn hX ZX
         replace ONE := zn hX ONE
         clear hX
         go_wp2_with fail
         go_ret
         exact ⟨rfl, NN.out⟩
        have d8 : ((s.size : Nat) : Int) < 20001 := by omega
        go_wp2_with fail
        exact ⟨⟨_, rfl, by simp only [ByteArray.size_append]; omega, by simp only [ByteArray.size_append]; omega, by simp⟩, by simp only [szOf, ByteArray.size_append]; omega⟩
      replace hlt : k < 13 := by omega
      have d8 : (k : Int) < 13 := by omega
      obtain ⟨lv, cv⟩ := lc_next (KF.out k hlt) N0.out
      have FE := zh (fm_err k hlt)
      have HK8 := zh hlt
      generalize fmL k = s at *
      go_wp2_with fail
      clear lv cv d8
      have CC := zh (parse_of s FE.out.2 wr (GG.out _ (Bgo NN.out N0.out)))
      rw [FE.out.1] at CC
      refine (CC.out).mono ?_
      rintro e w25 ⟨vp, rfl, -, hb⟩
      clear CC
      replace N0 := zh (Bgo N0.out hb)
      clear hb
      go_wp2_with fail
      have hlt9 := HK8.out
      exact ⟨⟨k + 1, by omega, by go_num, N0⟩, by simp [intOf]; omega⟩
    replace hlt : k < 200 := by omega
    have d8 : (k : Int) < 200 := by omega
    have W0 := zh (blk_lt ONE.out)
    replace ONE := zn N0 ONE
    have q1 : (k : Int).tdiv 16 = ((k / 16 : Nat) : Int) := by rw [Int.tdiv_eq_ediv_of_nonneg (by omega)]; omega
    have q2 : (k : Int).tmod 16 = ((k % 16 : Nat) : Int) := by rw [Int.tmod_eq_emod_of_nonneg (by omega)]; omega
    have FS := zh (ful_succ k)
    have L1 : k / 16 ≤ 100 := by omega
    have L2 : k % 16 ≤ 15 := by omega
    generalize k / 16 = m1 at *
    generalize k % 16 = m2 at *
    have WS := zh N0.out.size
    have BE := zh (Bal (Below.refl wr.heap.size wr) (.cells #[.int .i64 (m1 : Int), .int .i64 (m2 : Int), .int .i64 0, .int .i64 1, .int .i64 1, .int .i64 0, .int .i64 1, .int .i64 1] 44))
    have hb9 : (fulL k).length + 1 ≤ 100000 := by rw [ful_len]; omega
    generalize hO : fulL k = O at *
    have HO := zh hO
    clear hO
    obtain ⟨c_ONE_0, f_ONE_0, c_ONE_1, f_ONE_1, c_ONE_2, f_ONE_2, c_ONE_3, f_ONE_3, c_ONE_4, f_ONE_4, c_ONE_5, f_ONE_5, l_ONE⟩ := zfl6 ONE
    go_wp2_with (at_builtin; refine wpList_gapp tyV rfl _ _ rfl wb.heap.size _ O rfl (some ⟨wr.heap.size, 0, none⟩) 1 1 [oneR (m1 : Int) (m2 : Int)] rfl (OO.out.next BE.out) rfl (RT.one (blk_new wr _)) hb9 ?_ ?_; (rw [World.size_alloc]; have := WS.out; omega); intro v1 w8 o1 q1 t1; have OO1 := zh o1; have QQ := zh q1; clear o1 q1 t1)
    clear c_ONE_0 f_ONE_0 c_ONE_1 f_ONE_1 c_ONE_2 f_ONE_2 c_ONE_3 f_ONE_3 c_ONE_4 f_ONE_4 c_ONE_5 f_ONE_5 l_ONE
    rw [← FS.out] at OO1
    obtain ⟨A1, c1, hv1, -, -, -, -⟩ := OO1.out.form
    subst hv1
    exact ⟨⟨k + 1, A1, c1, by omega, by go_num, rfl, OO1, zh ((Bgo N0.out BE.out).trans QQ.out)⟩, by simp [intOf]; omega⟩
  replace hlt : k < 8 := by omega
  obtain ⟨v, hv, hr⟩ := KB.out k hlt
  have HV := zh (lc_next hv N0.out)
  have HH := zh (HR.next hr N0.out)
  obtain ⟨bc, bs, -⟩ := bad_chk k hlt
  have BC := zh bc
  have BS := zh bs
  have HK8 := zh hlt
  clear hv hr bc bs KB ONE
  have d8 : (k : Int) < 8 := by omega
  obtain ⟨lv, cv⟩ := HV.out
  go_wp2_with fail
  clear d8
  clear lv cv
  have CS := zh (sel_of HH.out 0 1)
  rw [BS.out] at CS
  refine (CS.out).mono ?_
  rintro e w26 ⟨vs, rfl, hh, hb⟩
  clear hh CS
  replace N0 := zh (Bgo N0.out hb)
  replace HV := zh (lc_next HV.out hb)
  replace HH := zh (HR.next HH.out hb)
  clear hb
  obtain ⟨lv, cv⟩ := HV.out
  go_wp2_with fail
  clear lv cv
  have CC := zh (tchk_of HH.out)
  rw [BC.out] at CC
  refine (CC.out).mono ?_
  rintro e w27 ⟨rfl, hb⟩
  clear CC
  replace N0 := zh (Bgo N0.out hb)
  replace HV := zh (lc_next HV.out hb)
  replace HH := zh (HR.next HH.out hb)
  clear hb
  go_wp2_with fail
  have hlt9 := HK8.out
  exact ⟨⟨k + 1, by omega, by go_num, N0⟩, by simp [intOf]; omega⟩
end Go.Proofs.YtbbnkclajpaghaaGreatDoor
