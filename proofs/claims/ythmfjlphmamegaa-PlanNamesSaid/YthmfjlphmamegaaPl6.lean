/- Contracts of layer 43's law package: the slots of the examples. -/
import Derived.Test.YthmfjlphmamegaaPl5
namespace Go.Proofs.Ythmfjlphmamegaa
open Go.ChangeShapes Go.WideShapes Go.ChangeAt Go.RowKit
set_option linter.unusedVariables false
attribute [local go_sem ↓] Go.wp_at_zero Go.wp_at_succ

abbrev sA : ByteArray := ⟨#[97]⟩
abbrev sB : ByteArray := ⟨#[98]⟩
abbrev sC : ByteArray := ⟨#[99]⟩
abbrev sE : ByteArray := ⟨#[]⟩
abbrev sT : ByteArray := ⟨#[116, 101, 115, 116, 115]⟩
def GL : List Slt := [⟨sA, 0, 0, 4⟩, ⟨sB, 0, 5, 7⟩]
def RL0 : List Rul := []
theorem GL_len : GL.length = 2 := rfl
theorem RL0_len : RL0.length = 0 := rfl
/- a plan that was made: two slices that own their rows -/
def GivenPost (w : World) (e : Ending) (w' : World) : Prop := ∃ A c, e = .returned (.agg #[.slice A 2 c, .slice none 0 0]) ∧ w'.ownsRow w.heap.size 47 4 (.slice A 2 c) 2 (slc GL) ∧ 2 ≤ c ∧ c ≤ 9223372036854775807 ∧ Below w.heap.size w w'
theorem given_calls (w : World) : Calls Try.prog 34 #[] w (GivenPost w) := by
  go_enter Try.func34, Try.ntmps34
  go_wp2_with fail
  refine bodyPost_ret (v := .agg #[.slice (some ⟨w.heap.size + 1, 0, none⟩) 2 2, .slice none 0 0]) (by simp [results, Try.results34, go_sem]) rfl ⟨_, _, rfl, ?_, by omega, by omega, ?_⟩
  · refine ⟨rfl, .inr ⟨w.heap.size + 1, 2, #[.string sA, .int .i64 0, .int .i64 0, .int .i64 4, .string sB, .int .i64 0, .int .i64 5, .int .i64 7], rfl, by omega, blk_at _ (by simp), Nat.le_refl _, by unfold maxLen; omega, rfl, rfl⟩⟩
  · repeat (first | exact Below.refl _ _ | refine Bal ?_ _ | refine Bset1 ?_ (by simp) _ _)

/- contracts at plans whose rows are known -/
def RL1 : List Rul := [⟨4, sE, sE, 0, 2, sE⟩]
def RL1t : List Rul := [⟨4, sE, sE, 0, 2, sT⟩]
def RL2 : List Rul := [⟨2, sC, sB, 0, 0, sE⟩]
def sc : Slt := ⟨sC, 0, 0, 2⟩
theorem v_ob0 : obL GL [] = true ∧ checkE GL [] = 0 := by decide +kernel
theorem v_br1 : brL GL RL1 = [(0, 0, 1)] ∧ checkE GL RL1 = 0 := by decide +kernel
theorem v_ob1 : obL GL RL1 = false := by decide +kernel
theorem v_ov : ovE GL RL1 0 sT = 0 := by decide +kernel
theorem v_ovL : ovL GL RL1 0 sT = GL := by unfold ovL; rw [v_ov]; rfl
theorem v_ovR : ovRs GL RL1 0 sT = RL1t := by unfold ovRs; rw [v_ov]; rfl
theorem v_ob1t : obL GL RL1t = true ∧ checkE GL RL1t = 0 := by decide +kernel
theorem v_ea0 : eaV GL [] sc = (7, 0) := by decide +kernel
theorem v_ea2 : eaV GL RL2 sc = (0, 6) := by decide +kernel
abbrev OwnsS (w : World) (base : Nat) (A : Option Addr) (n c : Nat) (l : List Slt) : Prop := w.ownsRow base 47 4 (.slice A n c) n (slc l)
abbrev OwnsR (w : World) (base : Nat) (A : Option Addr) (n c : Nat) (l : List Rul) : Prop := w.ownsRow base 61 6 (.slice A n c) n (rlc l)
theorem nilR (w : World) (base : Nat) : OwnsR w base none 0 0 [] := World.ownsRow_nil _ _ _ _
/- a new slice of one rule -/
theorem newR (w : World) (r : Rul) : OwnsR (w.alloc (.cells #[.int .u8 r.kind, .string r.a, .string r.b, .int .i64 r.low, .int .i64 r.high, .string r.why] 61)) w.heap.size (some ⟨w.heap.size, 0, none⟩) 1 1 [r] :=
  ⟨rfl, .inr ⟨w.heap.size, 1, _, rfl, Nat.le_refl _, blk_new w _, Nat.le_refl _, by unfold maxLen; omega, rfl, rfl⟩⟩
end Go.Proofs.Ythmfjlphmamegaa
