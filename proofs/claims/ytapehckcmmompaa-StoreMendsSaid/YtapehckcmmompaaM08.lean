/- Several texts in one. -/
import Derived.Deep.Matrix
import Derived.Deep.Slices
import Derived.Deep.Fields
import Derived.ChangeSlices
import Derived.ChangeSame
import Derived.ChangeArms
import Derived.Lib.SmallJoins
import Derived.Test.YtapehckcmmompaaM06
namespace Go.Proofs.Ytapehckcmmompaa
open Go.ChangeShapes Go.WideShapes Go.ChangeAt Go.RowKit Go.Deep Go.Joins
set_option linter.unusedVariables false
set_option maxRecDepth 100000
theorem plain_addr {w : World} {a : Addr} {v : Value} (h : w.cell? a = some v) : a = ⟨a.block, a.off, none⟩ := by
 rcases a with ⟨b, o, s⟩
 cases s with
 | none => rfl
 | some s =>
  unfold World.cell? at h
  split at h
  ·simp at h
  ·cases h
theorem add_plain (b o j : Nat) : (⟨b, o, none⟩ : Addr).add j = ⟨b, o + j, none⟩ := by
 unfold Addr.add; split
 ·rename_i h; subst h; rfl
 ·rfl
theorem hd_of {w : World} {a : Addr} {xs : List Value} (h : ∀ j u, xs[j]? = some u → w.cell? (a.add j) = some u) : Hd 0 w (some a) xs := fun j u hu => by
 have hj := get_lt hu
 obtain ⟨u0, h0⟩ := get_some (show 0 < xs.length by omega)
 have ha : a = ⟨a.block, a.off, none⟩ := plain_addr (by simpa [Addr.add] using h 0 u0 h0)
 have hc := h j u hu
 rw [ha, add_plain] at hc
 have hlt : a.block < w.heap.size := World.block_lt_of_cell? w ⟨a.block, a.off + j, none⟩ hc
 exact ⟨a.block, a.off, by rw [← ha], Nat.zero_le _, hlt, hc⟩
section
variable {H : Type} {enc : TypeId × Value → H} {w : World} {base : Nat} {held : Bool}
theorem open_disks {fuel : Nat} {cs : List Value} {x : DataW H × List MemPlace} (h : DataW.trod enc Try.prog w base (fun _ => true) held fuel 59 cs = some x) :
  ∃ (a : Option Addr) (l : List Int) (cap : Nat), cs = [.slice a l.length cap] ∧ l.length ≤ cap ∧ cap ≤ 9223372036854775807 ∧ RI 0 w a l := by
 rcases open_ints Try.underlying59 Try.underlying3 (by kernel_rfl) h with ⟨rfl, _⟩ | ⟨a, len, cap, zs, rfl, hb, hl, hm, hz, _, hcell, hw⟩
 ·exact ⟨none, [], 0, rfl, by simp, by omega, Hd.nil _ _ _⟩
 ·simp only [if_true] at hz
  have el : (zs.take len).length = len := by rw [List.length_take]; omega
  refine ⟨some a, zs.take len, cap, by rw [el], by rw [el]; exact hl, by simpa [maxLen] using hm, hd_of fun j u hu => ?_⟩
  simp only [ivI, List.getElem?_map, List.getElem?_take] at hu
  split at hu
  ·obtain ⟨z, hz', rfl⟩ := Option.map_eq_some_iff.1 hu
   rw [hcell j (get_lt hz'), List.getD_eq_getElem?_getD, hz']; rfl
  ·simp at hu
theorem open_blocks {fuel : Nat} {cs : List Value} {x : DataW H × List MemPlace} (h : DataW.trod enc Try.prog w base (fun _ => true) held fuel 44 cs = some x) :
  ∃ (a : Option Addr) (m : List (List Nat)) (cap : Nat), cs = [.slice a m.length cap] ∧ m.length ≤ cap ∧ cap ≤ 9223372036854775807 ∧ RMA 0 w a m := by
 rcases open_int_rows Try.underlying44 Try.underlying26 Try.underlying5 (by kernel_rfl) (by kernel_rfl) h with ⟨rfl, _⟩ | ⟨a, len, cap, A, L, C, Z, rfl, hb, hl, hm, _, hr⟩
 ·exact ⟨none, [], 0, rfl, by simp, by omega, RMA.nil _ _ _⟩
 ·refine ⟨some a, (List.range len).map fun r => ((Z r).take (L r)).map Int.toNat, cap, by simp, by simpa using hl, by simpa [maxLen] using hm, (List.range len).map fun r => .slice (A r) (L r) (C r), by simp, hd_of fun j u hu => ?_, fun i u l hu hl' => ?_⟩
  ·rw [List.getElem?_map] at hu
   obtain ⟨r, hr', rfl⟩ := Option.map_eq_some_iff.1 hu
   have hj := get_lt hr'
   rw [List.length_range] at hj
   rw [List.getElem?_range hj] at hr'
   injection hr' with hr'
   subst hr'
   exact (hr j (by omega)).1
  ·have hi := get_lt hu
   simp only [List.length_map, List.length_range] at hi
   rw [List.getElem?_map, List.getElem?_range hi] at hu hl'
   injection hu with hu
   injection hl' with hl'
   obtain ⟨_, h1, h2, h3, h4, h5, h6⟩ := hr i (by omega)
   have el : l.length = L i := by rw [← hl', List.length_map, List.length_take]; omega
   refine ⟨A i, C i, by rw [← hu, el], by rw [el]; exact h1, by simpa [maxLen] using h2, fun y hy => ?_, ?_⟩
   ·rw [← hl'] at hy
    obtain ⟨z, hz, rfl⟩ := List.mem_map.1 hy
    have := bounds_u8 (h4 z (List.mem_of_mem_take hz))
    omega
   ·cases hA : A i with
    | none =>
     have := h5 hA
     have : l = [] := List.eq_nil_of_length_eq_zero (by omega)
     subst this
     exact Hd.nil _ _ _
    | some a' =>
     refine hd_of fun j v hv => ?_
     rw [← hl'] at hv
     simp only [bv, List.getElem?_map, List.getElem?_take] at hv
     split at hv
     ·rename_i hj
      obtain ⟨y, hy, rfl⟩ := Option.map_eq_some_iff.1 hv
      obtain ⟨z, hz, rfl⟩ := Option.map_eq_some_iff.1 hy
      have hb := bounds_u8 (h4 z (List.mem_of_getElem? hz))
      rw [(h6 a' hA).2 j (by omega), List.getD_eq_getElem?_getD, hz]
      simp only [Option.getD_some]
      rw [Int.toNat_of_nonneg hb.1]
     ·simp at hv
end
def RU (B : Nat) (X : World) (us : List Value) : Prop := ∀ (i : Nat) (u : Value), us[i]? = some u → ∃ A n c, u = .slice A n c ∧ n ≤ c ∧ c ≤ 9223372036854775807 ∧
 ∀ j, j < n → ∃ (g : Nat) (cs : Array Value) (x : Nat), A = some ⟨g, 0, none⟩ ∧ B ≤ g ∧ X.heap[g]? = some (.cells cs 5) ∧ cs[j]? = some (.int .u8 (x : Int)) ∧ x < 256
theorem OMx.ru {B : Nat} {w : World} {v : Value} {us : List Value} {m : List (List Nat)} (h : OMx B w v us m) : RU B w us := fun i u hu => by
 have hi := get_lt hu
 rw [h.len] at hi
 obtain ⟨l, hl⟩ := get_some hi
 have ho := h.row i u l hu hl
 have hb := h.byt l (List.mem_of_getElem? hl)
 obtain ⟨A, c, rfl, h1, h2, _⟩ := own_form ho
 refine ⟨A, l.length, c, rfl, h1, h2, fun j hj => ?_⟩
 obtain ⟨x, hx⟩ := get_some hj
 rcases ho.2 with ⟨_, h3⟩ | ⟨g, cap, cur, e1, e2, e3, e4, e5, e6, e7⟩
 ·omega
 ·simp only [Value.slice.injEq] at e1
  refine ⟨g, cur, x, e1.1, e2, e3, ?_, hb.at_ hx⟩
  have hv := bv_get hx
  rw [← e7, List.getElem?_take] at hv
  split at hv
  ·simpa using hv
  ·cases hv
theorem RU.next {B : Nat} {X Y : World} {us : List Value} (h : RU B X us) (hb : Below X.heap.size X Y) : RU B Y us := fun i u hu => by
 obtain ⟨A, n, c, e, h1, h2, h3⟩ := h i u hu
 refine ⟨A, n, c, e, h1, h2, fun j hj => ?_⟩
 obtain ⟨g, cs, x, k1, k2, k3, k4⟩ := h3 j hj
 exact ⟨g, cs, x, k1, k2, blk_next hb k3, k4⟩
theorem RU.set {B g o y : Nat} {X : World} {us : List Value} {cs : Array Value} (h : RU B X us) (hg : X.heap[g]? = some (.cells cs 5)) (hy : y < 256) : RU B (X.setCell ⟨g, o, none⟩ (.int .u8 (y : Int))) us := fun i u hu => by
 obtain ⟨A, n, c, e, h1, h2, h3⟩ := h i u hu
 refine ⟨A, n, c, e, h1, h2, fun j hj => ?_⟩
 obtain ⟨g', cs', x, k1, k2, k3, k4, k5⟩ := h3 j hj
 by_cases eg : g = g'
 ·subst eg
  rw [hg] at k3
  injection k3 with k3
  injection k3 with k3
  subst k3
  have hb := blk_set hg o (.int .u8 (y : Int))
  by_cases eo : o = j
  ·subst eo
   exact ⟨g, _, y, k1, k2, hb, by have := (Array.getElem?_eq_some_iff.1 k4).1; simp [this], hy⟩
  ·exact ⟨g, _, x, k1, k2, hb, by rw [Array.getElem?_setIfInBounds_ne eo]; exact k4, k5⟩
 ·exact ⟨g', cs', x, k1, k2, blk_set_other k3 eg o _, k4, k5⟩
end Go.Proofs.Ytapehckcmmompaa
