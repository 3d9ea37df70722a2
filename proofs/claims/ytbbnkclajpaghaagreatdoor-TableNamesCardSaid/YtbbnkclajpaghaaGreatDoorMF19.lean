/- Several texts in one. -/
import Derived.Test.YtbbnkclajpaghaaGreatDoorMF18
set_option maxHeartbeats 32000000
set_option maxRecDepth 100000
set_option linter.unusedVariables false
set_option linter.unusedSimpArgs false
namespace Go.Proofs.YtbbnkclajpaghaaGreatDoor
open Go.ChangeShapes Go.WideShapes Go.ChangeAt Go.RowKit
attribute [local go_sem ↓] Go.wp_at_zero Go.wp_at_succ
def SymP (N : Nat) : Prop := ∀ (g n c a m b : Nat) (P U V Q : List Vr) (w : World), U.length + V.length ≤ N → (P ++ U ++ V ++ Q).length = n → RW w g (P ++ U ++ V ++ Q) → n ≤ c → c ≤ 9223372036854775807 → n ≤ 100000 → P.length = a → a + U.length = m → m + V.length = b → 0 < U.length → 0 < V.length → (∀ r ∈ U ++ V, rowB r = true) → Srt vkey U → Srt vkey V →
  Calls Tryz.prog 100 #[.slice (some ⟨g, 0, none⟩) n c, .int .i64 a, .int .i64 m, .int .i64 b, CmpV] w fun e w' => (∃ v, e = .returned v) ∧ w.grownBy w' (some g) ∧ ∃ S, RW w' g (P ++ S ++ Q) ∧ Srt vkey S ∧ FE vkey (U ++ V) S ∧ S.length = (U ++ V).length
theorem srt_take {l : List Vr} (h : Srt vkey l) (k : Nat) : Srt vkey (l.take k) := (Srt.app.1 (show Srt vkey (l.take k ++ l.drop k) by rw [List.take_append_drop]; exact h)).1
theorem srt_drop {l : List Vr} (h : Srt vkey l) (k : Nat) : Srt vkey (l.drop k) := (Srt.app.1 (show Srt vkey (l.take k ++ l.drop k) by rw [List.take_append_drop]; exact h)).2.1
structure SyB (n c a m b i d f u v : Nat) (P U V Q : List Vr) : Prop where
 ha : P.length = a
 hu : a + u = i
 hv : i + v = d
 hf : f = m + v
 hm : a + U.length = m
 hb : m + V.length = b
 ul : u ≤ U.length
 vl : v ≤ V.length
 hn : (P ++ U ++ V ++ Q).length = n
 nc : n ≤ c
 c9 : c ≤ 9223372036854775807
 b9 : n ≤ 100000
 val : ∀ r ∈ U ++ V, rowB r = true
 su : Srt vkey U
 sv : Srt vkey V
 pt : Part vkey U V u v
 db : d < b
 ad : a < d
 ie : i + f = d + m
def SyP1 (g : Nat) (u v : Nat) (P U V Q : List Vr) (W : World) (S : List Vr) : Prop := RW W g (P ++ S ++ (U.drop u ++ V.drop v) ++ Q) ∧ Srt vkey S ∧ FE vkey (U.take u ++ V.take v) S ∧ S.length = u + v
def SyP2 (g : Nat) (P U V Q : List Vr) (W : World) : Prop := ∃ S, RW W g (P ++ S ++ Q) ∧ Srt vkey S ∧ FE vkey (U ++ V) S ∧ S.length = (U ++ V).length
section
variable {n c a m b i d f u v g : Nat} {P U V Q : List Vr}
theorem SyB.len (h : SyB n c a m b i d f u v P U V Q) : (U.take u).length = u ∧ (V.take v).length = v ∧ (U.drop u).length = U.length - u ∧ (V.drop v).length = V.length - v ∧ a + U.length + V.length + Q.length = n := by
 have h1 := h.hn
 have h2 := h.ul
 have h3 := h.vl
 have h4 := h.ha
 simp only [List.length_append] at h1
 refine ⟨by rw [List.length_take]; omega, by rw [List.length_take]; omega, by rw [List.length_drop], by rw [List.length_drop], by omega⟩
theorem SyB.rot (h : SyB n c a m b i d f u v P U V Q) (h1 : i < m) (h2 : m < f) {W : World} (hr : RW W g (P ++ U ++ V ++ Q)) : Calls Tryz.prog 125 #[.slice (some ⟨g, 0, none⟩) n c, .int .i64 i, .int .i64 m, .int .i64 f, CmpV] W fun e w' =>
  (∃ v, e = .returned v) ∧ W.grownBy w' (some g) ∧ RW w' g (P ++ (U.take u ++ V.take v) ++ (U.drop u ++ V.drop v) ++ Q) := by
 obtain ⟨l1, l2, l3, l4, l5⟩ := h.len
 have a1 := h.hu
 have a2 := h.hv
 have a3 := h.hf
 have a4 := h.hm
 have a5 := h.hb
 have a6 := h.ha
 have a7 := h.ul
 have a8 := h.vl
 refine (rot_calls (n := n) (P := P ++ U.take u) (U := U.drop u) (V := V.take v) (Q := V.drop v ++ Q) (a := i) (m := m) (b := f) (by simp only [List.length_append, l1, l2, l3, l4]; omega) (by have e : P ++ U.take u ++ U.drop u ++ V.take v ++ (V.drop v ++ Q) = P ++ U ++ V ++ Q := (by rw [List.append_assoc P, List.take_append_drop, ← List.append_assoc, List.append_assoc (P ++ U) (V.take v), List.take_append_drop]); rw [e]; exact hr) h.nc h.c9 h.b9 (by simp only [List.length_append, l1]; omega) (by omega) (by omega) (by omega) (by omega)).mono ?_
 rintro e w' ⟨k1, k2, k3⟩
 exact ⟨k1, k2, by simpa using k3⟩
theorem SyB.norot (h : SyB n c a m b i d f u v P U V Q) (h1 : ¬ (i < m ∧ m < f)) {W : World} (hr : RW W g (P ++ U ++ V ++ Q)) : RW W g (P ++ (U.take u ++ V.take v) ++ (U.drop u ++ V.drop v) ++ Q) := by
 have a1 := h.hu
 have a3 := h.hf
 have a4 := h.hm
 have e1 := (List.take_append_drop u U)
 have e2 := (List.take_append_drop v V)
 by_cases c1 : i < m
 ·have e3 : v = 0 := by omega
  subst e3
  simp only [List.take_zero, List.drop_zero, List.append_nil]
  rw [List.append_assoc P, ← List.append_assoc (U.take u), e1, ← List.append_assoc]
  exact hr
 ·have e3 : U.drop u = [] := List.drop_eq_nil_of_le (by omega)
  have e4 : U.take u = U := List.take_of_length_le (by omega)
  rw [e3, e4, List.nil_append, ← List.append_assoc P U, List.append_assoc (P ++ U) (V.take v), e2]
  exact hr
theorem SyB.sub1 {N : Nat} (h : SyB n c a m b i d f u v P U V Q) (ih : SymP N) (hN : U.length + V.length ≤ N + 1) (h1 : a < i) (h2 : i < d) {W : World} (hr : RW W g (P ++ (U.take u ++ V.take v) ++ (U.drop u ++ V.drop v) ++ Q)) :
  Calls Tryz.prog 100 #[.slice (some ⟨g, 0, none⟩) n c, .int .i64 a, .int .i64 i, .int .i64 d, CmpV] W fun e w' => (∃ v, e = .returned v) ∧ W.grownBy w' (some g) ∧ ∃ S, SyP1 g u v P U V Q w' S := by
 obtain ⟨l1, l2, l3, l4, l5⟩ := h.len
 have a1 := h.hu
 have a2 := h.hv
 have a4 := h.hm
 have a5 := h.hb
 have a6 := h.ha
 have a7 := h.ul
 have a8 := h.vl
 have a9 := h.db
 refine (ih g n c a i d P (U.take u) (V.take v) ((U.drop u ++ V.drop v) ++ Q) W (by rw [l1, l2]; omega) (by simp only [List.length_append, l1, l2, l3, l4]; omega) (by simpa using hr) h.nc h.c9 h.b9 h.ha (by rw [l1]; omega) (by rw [l2]; omega) (by rw [l1]; omega) (by rw [l2]; omega) (fun r hr => h.val r (by rcases List.mem_append.1 hr with h | h; exact List.mem_append_left _ (List.mem_of_mem_take h); exact List.mem_append_right _ (List.mem_of_mem_take h))) (srt_take h.su u) (srt_take h.sv v)).mono ?_
 rintro e w' ⟨k1, k2, S, k3, k4, k5, k6⟩
 exact ⟨k1, k2, S, by simpa using k3, k4, k5, by rw [k6, List.length_append, l1, l2]⟩
theorem SyB.nosub1 (h : SyB n c a m b i d f u v P U V Q) (h1 : ¬ (a < i ∧ i < d)) {W : World} (hr : RW W g (P ++ (U.take u ++ V.take v) ++ (U.drop u ++ V.drop v) ++ Q)) : ∃ S, SyP1 g u v P U V Q W S := by
 obtain ⟨l1, l2, -, -, -⟩ := h.len
 have a1 := h.hu
 have a2 := h.hv
 refine ⟨U.take u ++ V.take v, hr, ?_, FE.refl _, by rw [List.length_append, l1, l2]⟩
 by_cases c1 : a < i
 ·have e3 : v = 0 := by omega
  subst e3
  simp only [List.take_zero, List.append_nil]
  exact srt_take h.su u
 ·have e3 : u = 0 := by omega
  subst e3
  simp only [List.take_zero, List.nil_append]
  exact srt_take h.sv v
theorem SyB.sub2 {N : Nat} (h : SyB n c a m b i d f u v P U V Q) (ih : SymP N) (hN : U.length + V.length ≤ N + 1) (h1 : d < f) (h2 : f < b) {W : World} {S : List Vr} (hr : SyP1 g u v P U V Q W S) :
  Calls Tryz.prog 100 #[.slice (some ⟨g, 0, none⟩) n c, .int .i64 d, .int .i64 f, .int .i64 b, CmpV] W fun e w' => (∃ v, e = .returned v) ∧ W.grownBy w' (some g) ∧ SyP2 g P U V Q w' := by
 obtain ⟨l1, l2, l3, l4, l5⟩ := h.len
 obtain ⟨r1, r2, r3, r4⟩ := hr
 have a1 := h.hu
 have a2 := h.hv
 have a3 := h.hf
 have a4 := h.hm
 have a5 := h.hb
 have a6 := h.ha
 have a7 := h.ul
 have a8 := h.vl
 have a9 := h.ad
 have b1 := h.ie
 refine (ih g n c d f b (P ++ S) (U.drop u) (V.drop v) Q W (by rw [l3, l4]; omega) (by simp only [List.length_append, l3, l4, r4]; omega) (by have h := r1; simpa using h) h.nc h.c9 h.b9 (by rw [List.length_append, r4]; omega) (by rw [l3]; omega) (by rw [l4]; omega) (by rw [l3]; omega) (by rw [l4]; omega) (fun r hr => h.val r (by rcases List.mem_append.1 hr with h | h; exact List.mem_append_left _ (List.mem_of_mem_drop h); exact List.mem_append_right _ (List.mem_of_mem_drop h))) (srt_drop h.su u) (srt_drop h.sv v)).mono ?_
 rintro e w' ⟨k1, k2, S2, k3, k4, k5, k6⟩
 have MG := h.pt.merge h.su h.sv r2 k4 r3 k5
 exact ⟨k1, k2, S ++ S2, by simpa using k3, MG.1, MG.2, by rw [List.length_append, r4, k6, List.length_append, List.length_append, l3, l4]; omega⟩
theorem SyB.nosub2 (h : SyB n c a m b i d f u v P U V Q) (h1 : ¬ (d < f ∧ f < b)) {W : World} {S : List Vr} (hr : SyP1 g u v P U V Q W S) : SyP2 g P U V Q W := by
 obtain ⟨l1, l2, l3, l4, l5⟩ := h.len
 obtain ⟨r1, r2, r3, r4⟩ := hr
 have a1 := h.hu
 have a2 := h.hv
 have a3 := h.hf
 have a4 := h.hm
 have a5 := h.hb
 have a7 := h.ul
 have a8 := h.vl
 have b1 := h.ie
 have st : Srt vkey (U.drop u ++ V.drop v) := by
  by_cases c1 : d < f
  ·have e3 : V.drop v = [] := List.drop_eq_nil_of_le (by omega)
   rw [e3, List.append_nil]
   exact srt_drop h.su u
  ·have e3 : U.drop u = [] := List.drop_eq_nil_of_le (by omega)
   rw [e3, List.nil_append]
   exact srt_drop h.sv v
 have MG := h.pt.merge h.su h.sv r2 st r3 (FE.refl _)
 exact ⟨S ++ (U.drop u ++ V.drop v), by simpa using r1, MG.1, MG.2, by rw [List.length_append, r4, List.length_append, List.length_append, l3, l4]; omega⟩
end
theorem sym_gen {N g n c a m b : Nat} {P U V Q : List Vr} {w : World} (ih : SymP N) (hN : U.length + V.length ≤ N + 1) (hn : (P ++ U ++ V ++ Q).length = n) (hx : RW w g (P ++ U ++ V ++ Q)) (hnc : n ≤ c) (hc : c ≤ 9223372036854775807) (hb9 : n ≤ 100000) (ha : P.length = a) (hm : a + U.length = m) (hb : m + V.length = b) (hU : 1 < U.length) (hV : 1 < V.length) (hv : ∀ r ∈ U ++ V, rowB r = true) (hsU : Srt vkey U) (hsV : Srt vkey V) :
  Calls Tryz.prog 100 #[.slice (some ⟨g, 0, none⟩) n c, .int .i64 a, .int .i64 m, .int .i64 b, CmpV] w fun e w' => (∃ v, e = .returned v) ∧ w.grownBy w' (some g) ∧ ∃ S, RW w' g (P ++ S ++ Q) ∧ Srt vkey S ∧ FE vkey (U ++ V) S ∧ S.length = (U ++ V).length := by
 have NN := zh (grown_refl w (some g))
 have IH := zh ih
 have HSU := zh hsU
 have HSV := zh hsV
 have HV := zh hv
 have hln : a + U.length + V.length + Q.length = n := by simp only [List.length_append] at hn; omega
 have GU : Hid (∀ k y, U[k]? = some y → (P ++ U ++ V ++ Q)[a + k]? = some y) := zh (fun k y h => by
  have hk := (List.getElem?_eq_some_iff.1 h).1
  rw [List.append_assoc, List.append_assoc, List.getElem?_append_right (by omega), List.getElem?_append_left (by omega)]
  rw [show a + k - P.length = k by omega]; exact h)
 have GV : Hid (∀ k y, V[k]? = some y → (P ++ U ++ V ++ Q)[m + k]? = some y) := zh (fun k y h => by
  have hk := (List.getElem?_eq_some_iff.1 h).1
  rw [List.append_assoc, List.getElem?_append_right (by rw [List.length_append]; omega), List.getElem?_append_left (by rw [List.length_append]; omega)]
  rw [show m + k - (P ++ U).length = k by rw [List.length_append]; omega]; exact h)
 have GB : Hid (∀ k y, a ≤ k → k < b → (P ++ U ++ V ++ Q)[k]? = some y → rowB y = true) := zh (fun k y h1 h2 h3 => by
  rw [List.append_assoc P U V, List.append_assoc, List.getElem?_append_right (by omega), List.getElem?_append_left (by rw [List.length_append]; omega)] at h3
  exact hv y (List.mem_of_getElem? h3))
 obtain ⟨lu, hlu⟩ : ∃ lu, U.length = lu := ⟨_, rfl⟩
 obtain ⟨lv, hlv⟩ : ∃ lv, V.length = lv := ⟨_, rfl⟩
 have w1 : IntKind.i64.wrap ((m : Int) - (a : Int)) = (lu : Int) := by rw [IntWalk.i64_in _ (by omega)]; omega
 have w2 : IntKind.i64.wrap ((b : Int) - (m : Int)) = (lv : Int) := by rw [IntWalk.i64_in _ (by omega)]; omega
 have q0 : ((lu : Int) == 1) = false := by rw [beq_eq_false_iff_ne]; omega
 have q1 : ((lv : Int) == 1) = false := by rw [beq_eq_false_iff_ne]; omega
 obtain ⟨s, hs⟩ : ∃ s, a + b = s := ⟨_, rfl⟩
 obtain ⟨d, hd⟩ : ∃ d, s / 2 = d := ⟨_, rfl⟩
 obtain ⟨e, he⟩ : ∃ e, d + m = e := ⟨_, rfl⟩
 have ws : IntKind.i64.wrap ((a : Int) + (b : Int)) = (s : Int) := by rw [IntWalk.i64_in _ (by omega)]; omega
 have hd9 : (s : Int) / 2 = (d : Int) := by omega
 have we : IntKind.i64.wrap ((d : Int) + (m : Int)) = (e : Int) := by rw [IntWalk.i64_in _ (by omega)]; omega
 obtain ⟨p9, hp9⟩ : ∃ p9, p9 + 1 = e := ⟨e - 1, by omega⟩
 have wp9 : IntKind.i64.wrap ((e : Int) - 1) = (p9 : Int) := by rw [IntWalk.i64_in _ (by omega)]; omega
 obtain ⟨Ls, hLs⟩ : ∃ Ls, P ++ U ++ V ++ Q = Ls := ⟨_, rfl⟩
 rw [hLs] at GU GV GB hx hn
 have HX := zh hx
 have HN := zh hn
 have HLS := zh hLs
 have HLU := zh hlu
 have HLV := zh hlv
 have hdb : 2 * d ≤ a + b ∧ a + b ≤ 2 * d + 1 := by omega
 have HD := zh hdb
 have HE := zh he
 have hP9 := zh hp9
 have hsb : s ≤ 200000 := by omega
 have hdb8 : d ≤ 100000 := by omega
 have heb : e ≤ 200000 := by omega
 have hlu9 : a + lu = m := by omega
 have hlv9 : m + lv = b := by omega
 clear ih hx hv hsU hsV hn hLs hlu hlv hs hd he hp9 hdb
 go_enter Tryz.func100, Tryz.ntmps100
 by_cases hmd : d < m
 ·have dm : decide ((d : Int) < (m : Int)) = true := decide_eq_true (by omega)
  obtain ⟨lo, hlo⟩ : ∃ lo, lo + b = e := ⟨e - b, by have := HD.out; have := HE.out; omega⟩
  have wl : IntKind.i64.wrap ((e : Int) - (b : Int)) = (lo : Int) := by have := HE.out; have := HD.out; rw [IntWalk.i64_in _ (by omega)]; omega
  have K : Hid (a ≤ lo ∧ lo ≤ d ∧ d ≤ m ∧ d ≤ d ∧ (lo = a ∨ lo + b = e) ∧ (d = m ∨ d = d) ∧ e ≤ lo + b) := zh (by have := HD.out; have := HE.out; omega)
  clear hlo
  go_wp2_with fail
  clear w1 w2 q0 q1 ws we hd9 wp9 dm wl
  go_loopw [20, 21] (fun p q wr => ∃ (i j : Nat), p = .int .i64 (i : Int) ∧ q = .int .i64 (j : Int) ∧ lo ≤ i ∧ i ≤ j ∧ j ≤ d ∧ Hid (lo < i → ∀ y z, Ls[e - i]? = some y → Ls[i - 1]? = some z → vkey z ≤ vkey y) ∧ Hid (j < d → ∀ y z, Ls[e - 1 - j]? = some y → Ls[j]? = some z → vkey y < vkey z) ∧ Hid (RW wr g Ls) ∧ Hid (w.grownBy wr (some g))) (fun p q _ => (intOf q).toNat - (intOf p).toNat)
  case atStart => exact ⟨lo, d, rfl, rfl, Nat.le_refl _, K.out.2.1, Nat.le_refl _, zh (by omega), zh (by omega), HX, NN⟩
  case round =>
   clear NN HX
   obtain ⟨i, j, rfl, rfl, hmi, hij, hjb, HL, HH, HR, NG⟩ := hrel
   obtain ⟨k1, k2, k3, k4, k5, k6, k7⟩ := K.out
   have hE := HE.out
   have hD := HD.out
   have hPP := hP9.out
   by_cases hlt : i < j
   ·obtain ⟨s2, hs2⟩ : ∃ s, i + j = s := ⟨_, rfl⟩
    obtain ⟨h, hh⟩ : ∃ h, s2 / 2 = h := ⟨_, rfl⟩
    have ws2 : IntKind.i64.wrap ((i : Int) + (j : Int)) = (s2 : Int) := by rw [IntWalk.i64_in _ (by omega)]; omega
    have hd92 : (s2 : Int) / 2 = (h : Int) := by omega
    obtain ⟨h1, h2⟩ := half_in hlt
    rw [hs2, hh] at h1 h2
    clear hs2 hh
    have wh : IntKind.i64.wrap ((h : Int) + 1) = (h : Int) + 1 := IntWalk.i64_in _ (by omega)
    obtain ⟨r9, hr9⟩ : ∃ r9, r9 + h = p9 := ⟨p9 - h, by omega⟩
    have wr9 : IntKind.i64.wrap ((p9 : Int) - (h : Int)) = (r9 : Int) := by rw [IntWalk.i64_in _ (by omega)]; omega
    have hr1 : m ≤ r9 ∧ r9 < b := by omega
    have hhn : h < n := by omega
    have hrn : r9 < n := by omega
    obtain ⟨z, hz⟩ : ∃ z, Ls[h]? = some z := ⟨_, List.getElem?_eq_getElem (by have := HN.out; omega)⟩
    obtain ⟨y, hy⟩ : ∃ y, Ls[r9]? = some y := ⟨_, List.getElem?_eq_getElem (by have := HN.out; omega)⟩
    have KX := rcmp_key (GB.out r9 y (by omega) (by omega) hy) (GB.out h z (by omega) (by omega) hz)
    have HZ := zh hz
    have HY := zh hy
    clear hz hy
    obtain ⟨q, hq⟩ : ∃ q, rcmp y z = q := ⟨_, rfl⟩
    have CC : Hid (∀ W : World, Calls Tryz.prog 42 #[Rwv y, Rwv z] W fun e w' => e = .returned (.int .i64 q) ∧ Below W.heap.size W w') := zh (fun W => by rw [← hq]; exact compare_calls y z W)
    rw [hq] at KX
    clear hq
    have hER : e - 1 - h = r9 := by omega
    have HER := zh hER
    clear hER k1 k2 k3 k4 k5 k6 k7 hE hD hPP hr9
    by_cases hlt9 : vkey y < vkey z
    ·have d9 : decide (q < 0) = true := decide_eq_true (by rw [KX]; exact kcmp_lt.2 hlt9)
     clear KX
     go_upto_region 35 with fail
     have HDRW := zh (Below.drew (Below.refl wr.heap.size wr))
     replace NG := zh (grown_trans NG.out (grown_of_below HDRW.out _))
     replace HR := zh (RW.next HR.out HDRW.out)
     clear HDRW
     have HAL : Hid (∀ kx9 : Nat, GK [(6, g, .cells (vrc Ls).toArray 67), (10, g, .cells (vrc Ls).toArray 67)] kx9 wr.drew) := zh (fun kx9 => fun px9 hp e => by
      simp only [List.mem_cons, List.not_mem_nil, or_false] at hp
      rcases hp with rfl | rfl
      ·exact HR.out
      ·exact HR.out
     )
     refine region_G (S := GK [(6, g, .cells (vrc Ls).toArray 67), (10, g, .cells (vrc Ls).toArray 67)]) (by kernel_rfl) ?_
     refine tP 0 (CmpV) (some 158) rfl ?_ ?_
     ·intro X hX
      clear hX
      go_simp
      all_goals (first | (intro h9; exfalso; omega) | omega)
     try simp only [Act.put, zA, zB, zC]
     refine tP 1 (.slice (some ⟨g, 0, none⟩) n c) (some 159) rfl ?_ ?_
     ·intro X hX
      clear hX
      go_simp
      all_goals (first | (intro h9; exfalso; omega) | omega)
     try simp only [Act.put, zA, zB, zC]
     refine tP 2 (.int .i64 (p9 : Int)) (some 160) rfl ?_ ?_
     ·intro X hX
      clear hX
      go_simp
      all_goals (first | (intro h9; exfalso; omega) | omega)
     try simp only [Act.put, zA, zB, zC]
     refine tP 3 (.int .i64 (h : Int)) (some 161) rfl ?_ ?_
     ·intro X hX
      clear hX
      go_simp
      all_goals (first | (intro h9; exfalso; omega) | omega)
     try simp only [Act.put, zA, zB, zC]
     refine tP 4 (.int .i64 (r9 : Int)) (some 162) rfl ?_ ?_
     ·intro X hX
      clear hX
      go_simp
      all_goals (first | (intro h9; exfalso; omega) | omega)
     try simp only [Act.put, zA, zB, zC]
     refine tP 5 (.pointer (some ⟨g, r9 * 8, none⟩)) (some 163) rfl ?_ ?_
     ·intro X hX
      clear hX
      go_simp
      all_goals (first | (intro h9; exfalso; omega) | omega)
     try simp only [Act.put, zA, zB, zC]
     refine tG 6 (.agg #[.int .i64 y.t, .int .i64 y.c, .int .i64 y.i, .int .i64 y.j, .int .i64 y.re, .int .i64 y.im, .int .i64 y.dn, .int .i64 y.n]) (some 164) (GK.grow _) rfl (YieldsIf.toG (Or.inl ⟨by rfl, ?_⟩)) (HAL.out 6) ?_
     ·intro X hX
      have hh := hX (6, g, .cells (vrc Ls).toArray 67) (List.Mem.head _) rfl
      have hh0 := (RW.cell (show RW _ g Ls from hh) HY.out 0 _ rfl)
      simp only [Nat.add_zero] at hh0
      have hh1 := (RW.cell (show RW _ g Ls from hh) HY.out 1 _ rfl)
      have hh2 := (RW.cell (show RW _ g Ls from hh) HY.out 2 _ rfl)
      have hh3 := (RW.cell (show RW _ g Ls from hh) HY.out 3 _ rfl)
      have hh4 := (RW.cell (show RW _ g Ls from hh) HY.out 4 _ rfl)
      have hh5 := (RW.cell (show RW _ g Ls from hh) HY.out 5 _ rfl)
      have hh6 := (RW.cell (show RW _ g Ls from hh) HY.out 6 _ rfl)
      have hh7 := (RW.cell (show RW _ g Ls from hh) HY.out 7 _ rfl)
      have hhl := blk_lt hh
      clear hh
      clear hX
      go_simp
      all_goals (first | (intro h9; exfalso; omega) | omega)
     try simp only [Act.put, zA, zB, zC]
     refine tP 7 (.slice (some ⟨g, 0, none⟩) n c) (some 165) rfl ?_ ?_
     ·intro X hX
      clear hX
      go_simp
      all_goals (first | (intro h9; exfalso; omega) | omega)
     try simp only [Act.put, zA, zB, zC]
     refine tP 8 (.int .i64 (h : Int)) (some 166) rfl ?_ ?_
     ·intro X hX
      clear hX
      go_simp
      all_goals (first | (intro h9; exfalso; omega) | omega)
     try simp only [Act.put, zA, zB, zC]
     refine tP 9 (.pointer (some ⟨g, h * 8, none⟩)) (some 167) rfl ?_ ?_
     ·intro X hX
      clear hX
      go_simp
      all_goals (first | (intro h9; exfalso; omega) | omega)
     try simp only [Act.put, zA, zB, zC]
     refine tG 10 (.agg #[.int .i64 z.t, .int .i64 z.c, .int .i64 z.i, .int .i64 z.j, .int .i64 z.re, .int .i64 z.im, .int .i64 z.dn, .int .i64 z.n]) (some 168) (GK.grow _) rfl (YieldsIf.toG (Or.inl ⟨by rfl, ?_⟩)) (HAL.out 10) ?_
     ·intro X hX
      have hh := hX (10, g, .cells (vrc Ls).toArray 67) (List.Mem.tail _ (List.Mem.head _)) rfl
      have hh0 := (RW.cell (show RW _ g Ls from hh) HZ.out 0 _ rfl)
      simp only [Nat.add_zero] at hh0
      have hh1 := (RW.cell (show RW _ g Ls from hh) HZ.out 1 _ rfl)
      have hh2 := (RW.cell (show RW _ g Ls from hh) HZ.out 2 _ rfl)
      have hh3 := (RW.cell (show RW _ g Ls from hh) HZ.out 3 _ rfl)
      have hh4 := (RW.cell (show RW _ g Ls from hh) HZ.out 4 _ rfl)
      have hh5 := (RW.cell (show RW _ g Ls from hh) HZ.out 5 _ rfl)
      have hh6 := (RW.cell (show RW _ g Ls from hh) HZ.out 6 _ rfl)
      have hh7 := (RW.cell (show RW _ g Ls from hh) HZ.out 7 _ rfl)
      have hhl := blk_lt hh
      clear hh
      clear hX
      go_simp
      all_goals (first | (intro h9; exfalso; omega) | omega)
     try simp only [Act.put, zA, zB, zC]
     have CFn : ∀ (args : Array Value) (W : World), Sem.run Tryz.prog (callFunc 42 args) W = .ok (.enter 42 args) W := fun _ _ => by kernel_rfl
     refine tG 11 (.int .i64 q) (some 169) (GK.grow _) rfl (yieldsG_call 42 #[.agg #[.int .i64 y.t, .int .i64 y.c, .int .i64 y.i, .int .i64 y.j, .int .i64 y.re, .int .i64 y.im, .int .i64 y.dn, .int .i64 y.n], .agg #[.int .i64 z.t, .int .i64 z.c, .int .i64 z.i, .int .i64 z.j, .int .i64 z.re, .int .i64 z.im, .int .i64 z.dn, .int .i64 z.n]] (by rfl) ?_ (fun X hS => CC.out X)) (GK.drop (by simp)) ?_
     ·intro X hX
      clear hX
      go_simp
     clear CFn
     try simp only [Act.put, zA, zB, zC]
     refine tP 12 (.bool true) (some 170) rfl ?_ ?_
     ·intro X hX
      clear hX
      go_simp
      all_goals (first | (intro h9; exfalso; omega) | omega)
     try simp only [Act.put, zA, zB, zC]
     refine tP 13 (.bool false) (some 171) rfl ?_ ?_
     ·intro X hX
      clear hX
      go_simp
      all_goals (first | (intro h9; exfalso; omega) | omega)
     try simp only [Act.put, zA, zB, zC]
     clear HAL
     refine done_G (by kernel_rfl) (fun X1 hX => ?_) _
     replace NG := zh (grown_trans NG.out (grown_of_below hX _))
     replace HR := zh (RW.next HR.out hX)
     clear hX
     go_wp2_with fail
     go_roundw
     case rel => exact ⟨i, h, rfl, rfl, hmi, by omega, by omega, HL, zh (fun _ y' z' hy' hz' => by rw [HER.out, HY.out] at hy'; rw [HZ.out] at hz'; injection hy' with hy'; injection hz' with hz'; rw [← hy', ← hz']; exact hlt9), HR, NG⟩
     case measure => simp [intOf]; omega
    ·have d9 : decide (q < 0) = false := decide_eq_false (by rw [KX]; exact fun h => hlt9 (kcmp_lt.1 h))
     clear KX
     go_upto_region 35 with fail
     have HDRW := zh (Below.drew (Below.refl wr.heap.size wr))
     replace NG := zh (grown_trans NG.out (grown_of_below HDRW.out _))
     replace HR := zh (RW.next HR.out HDRW.out)
     clear HDRW
     have HAL : Hid (∀ kx9 : Nat, GK [(6, g, .cells (vrc Ls).toArray 67), (10, g, .cells (vrc Ls).toArray 67)] kx9 wr.drew) := zh (fun kx9 => fun px9 hp e => by
      simp only [List.mem_cons, List.not_mem_nil, or_false] at hp
      rcases hp with rfl | rfl
      ·exact HR.out
      ·exact HR.out
     )
     refine region_G (S := GK [(6, g, .cells (vrc Ls).toArray 67), (10, g, .cells (vrc Ls).toArray 67)]) (by kernel_rfl) ?_
     refine tP 0 (CmpV) (some 158) rfl ?_ ?_
     ·intro X hX
      clear hX
      go_simp
      all_goals (first | (intro h9; exfalso; omega) | omega)
     try simp only [Act.put, zA, zB, zC]
     refine tP 1 (.slice (some ⟨g, 0, none⟩) n c) (some 159) rfl ?_ ?_
     ·intro X hX
      clear hX
      go_simp
      all_goals (first | (intro h9; exfalso; omega) | omega)
     try simp only [Act.put, zA, zB, zC]
     refine tP 2 (.int .i64 (p9 : Int)) (some 160) rfl ?_ ?_
     ·intro X hX
      clear hX
      go_simp
      all_goals (first | (intro h9; exfalso; omega) | omega)
     try simp only [Act.put, zA, zB, zC]
     refine tP 3 (.int .i64 (h : Int)) (some 161) rfl ?_ ?_
     ·intro X hX
      clear hX
      go_simp
      all_goals (first | (intro h9; exfalso; omega) | omega)
     try simp only [Act.put, zA, zB, zC]
     refine tP 4 (.int .i64 (r9 : Int)) (some 162) rfl ?_ ?_
     ·intro X hX
      clear hX
      go_simp
      all_goals (first | (intro h9; exfalso; omega) | omega)
     try simp only [Act.put, zA, zB, zC]
     refine tP 5 (.pointer (some ⟨g, r9 * 8, none⟩)) (some 163) rfl ?_ ?_
     ·intro X hX
      clear hX
      go_simp
      all_goals (first | (intro h9; exfalso; omega) | omega)
     try simp only [Act.put, zA, zB, zC]
     refine tG 6 (.agg #[.int .i64 y.t, .int .i64 y.c, .int .i64 y.i, .int .i64 y.j, .int .i64 y.re, .int .i64 y.im, .int .i64 y.dn, .int .i64 y.n]) (some 164) (GK.grow _) rfl (YieldsIf.toG (Or.inl ⟨by rfl, ?_⟩)) (HAL.out 6) ?_
     ·intro X hX
      have hh := hX (6, g, .cells (vrc Ls).toArray 67) (List.Mem.head _) rfl
      have hh0 := (RW.cell (show RW _ g Ls from hh) HY.out 0 _ rfl)
      simp only [Nat.add_zero] at hh0
      have hh1 := (RW.cell (show RW _ g Ls from hh) HY.out 1 _ rfl)
      have hh2 := (RW.cell (show RW _ g Ls from hh) HY.out 2 _ rfl)
      have hh3 := (RW.cell (show RW _ g Ls from hh) HY.out 3 _ rfl)
      have hh4 := (RW.cell (show RW _ g Ls from hh) HY.out 4 _ rfl)
      have hh5 := (RW.cell (show RW _ g Ls from hh) HY.out 5 _ rfl)
      have hh6 := (RW.cell (show RW _ g Ls from hh) HY.out 6 _ rfl)
      have hh7 := (RW.cell (show RW _ g Ls from hh) HY.out 7 _ rfl)
      have hhl := blk_lt hh
      clear hh
      clear hX
      go_simp
      all_goals (first | (intro h9; exfalso; omega) | omega)
     try simp only [Act.put, zA, zB, zC]
     refine tP 7 (.slice (some ⟨g, 0, none⟩) n c) (some 165) rfl ?_ ?_
     ·intro X hX
      clear hX
      go_simp
      all_goals (first | (intro h9; exfalso; omega) | omega)
     try simp only [Act.put, zA, zB, zC]
     refine tP 8 (.int .i64 (h : Int)) (some 166) rfl ?_ ?_
     ·intro X hX
      clear hX
      go_simp
      all_goals (first | (intro h9; exfalso; omega) | omega)
     try simp only [Act.put, zA, zB, zC]
     refine tP 9 (.pointer (some ⟨g, h * 8, none⟩)) (some 167) rfl ?_ ?_
     ·intro X hX
      clear hX
      go_simp
      all_goals (first | (intro h9; exfalso; omega) | omega)
     try simp only [Act.put, zA, zB, zC]
     refine tG 10 (.agg #[.int .i64 z.t, .int .i64 z.c, .int .i64 z.i, .int .i64 z.j, .int .i64 z.re, .int .i64 z.im, .int .i64 z.dn, .int .i64 z.n]) (some 168) (GK.grow _) rfl (YieldsIf.toG (Or.inl ⟨by rfl, ?_⟩)) (HAL.out 10) ?_
     ·intro X hX
      have hh := hX (10, g, .cells (vrc Ls).toArray 67) (List.Mem.tail _ (List.Mem.head _)) rfl
      have hh0 := (RW.cell (show RW _ g Ls from hh) HZ.out 0 _ rfl)
      simp only [Nat.add_zero] at hh0
      have hh1 := (RW.cell (show RW _ g Ls from hh) HZ.out 1 _ rfl)
      have hh2 := (RW.cell (show RW _ g Ls from hh) HZ.out 2 _ rfl)
      have hh3 := (RW.cell (show RW _ g Ls from hh) HZ.out 3 _ rfl)
      have hh4 := (RW.cell (show RW _ g Ls from hh) HZ.out 4 _ rfl)
      have hh5 := (RW.cell (show RW _ g Ls from hh) HZ.out 5 _ rfl)
      have hh6 := (RW.cell (show RW _ g Ls from hh) HZ.out 6 _ rfl)
      have hh7 := (RW.cell (show RW _ g Ls from hh) HZ.out 7 _ rfl)
      have hhl := blk_lt hh
      clear hh
      clear hX
      go_simp
      all_goals (first | (intro h9; exfalso; omega) | omega)
     try simp only [Act.put, zA, zB, zC]
     have CFn : ∀ (args : Array Value) (W : World), Sem.run Tryz.prog (callFunc 42 args) W = .ok (.enter 42 args) W := fun _ _ => by kernel_rfl
     refine tG 11 (.int .i64 q) (some 169) (GK.grow _) rfl (yieldsG_call 42 #[.agg #[.int .i64 y.t, .int .i64 y.c, .int .i64 y.i, .int .i64 y.j, .int .i64 y.re, .int .i64 y.im, .int .i64 y.dn, .int .i64 y.n], .agg #[.int .i64 z.t, .int .i64 z.c, .int .i64 z.i, .int .i64 z.j, .int .i64 z.re, .int .i64 z.im, .int .i64 z.dn, .int .i64 z.n]] (by rfl) ?_ (fun X hS => CC.out X)) (GK.drop (by simp)) ?_
     ·intro X hX
      clear hX
      go_simp
     clear CFn
     try simp only [Act.put, zA, zB, zC]
     refine tP 12 (.bool false) (some 170) rfl ?_ ?_
     ·intro X hX
      clear hX
      go_simp
      all_goals (first | (intro h9; exfalso; omega) | omega)
     try simp only [Act.put, zA, zB, zC]
     refine tP 13 (.bool true) (some 171) rfl ?_ ?_
     ·intro X hX
      clear hX
      go_simp
      all_goals (first | (intro h9; exfalso; omega) | omega)
     try simp only [Act.put, zA, zB, zC]
     clear HAL
     refine done_G (by kernel_rfl) (fun X2 hX => ?_) _
     replace NG := zh (grown_trans NG.out (grown_of_below hX _))
     replace HR := zh (RW.next HR.out hX)
     clear hX
     go_wp2_with fail
     go_roundw
     case rel => exact ⟨h + 1, j, by go_num, rfl, by omega, by omega, hjb, zh (fun _ y' z' hy' hz' => by rw [show e - (h + 1) = r9 by have := HER.out; omega, HY.out] at hy'; rw [show h + 1 - 1 = h by omega, HZ.out] at hz'; injection hy' with hy'; injection hz' with hz'; rw [← hy', ← hz']; omega), HH, HR, NG⟩
     case measure => simp [intOf]; omega
   ·obtain rfl : i = j := by omega
    obtain ⟨f, hf⟩ : ∃ f, i + f = e := ⟨e - i, by omega⟩
    obtain ⟨u, hu⟩ : ∃ u, a + u = i := ⟨i - a, by omega⟩
    obtain ⟨v, hv9⟩ : ∃ v, i + v = d := ⟨d - i, by omega⟩
    have wf : IntKind.i64.wrap ((e : Int) - (i : Int)) = (f : Int) := by rw [IntWalk.i64_in _ (by omega)]; omega
    have hul : u ≤ U.length := by have := HLU.out; omega
    have hvl : v ≤ V.length := by have := HLV.out; omega
    have hLU := HLU.out
    have hLV := HLV.out
    have PT := zh (Part.mk_ (key := vkey) HSU.out HSV.out hul hvl (fun z' y' h0 h1 h2 => by have hl := (List.getElem?_eq_some_iff.1 h2).1; have g1 := GU.out _ _ h1; have g2 := GV.out _ _ h2; exact HL.out (by omega) y' z' (by rw [show e - i = m + v by omega]; exact g2) (by rw [show i - 1 = a + (u - 1) by omega]; exact g1)) (fun z' y' h0 h1 h2 => by have hl := (List.getElem?_eq_some_iff.1 h1).1; have g1 := GU.out _ _ h1; have g2 := GV.out _ _ h2; exact HH.out (by omega) y' z' (by rw [show e - 1 - i = m + (v - 1) by omega]; exact g2) (by rw [show i = a + u by omega]; exact g1)))
    have SyBB : Hid (SyB n c a m b i d f u v P U V Q) := zh ⟨ha, hu, hv9, by omega, by omega, by omega, hul, hvl, by rw [HLS.out]; exact HN.out, hnc, hc, hb9, HV.out, HSU.out, HSV.out, PT.out, by omega, by omega, by omega⟩
    have HRA : Hid (RW wr g (P ++ U ++ V ++ Q)) := zh (by rw [HLS.out]; exact HR.out)
    have ARI : Hid (a + u = i ∧ i + v = d ∧ i + f = e ∧ d + m = e ∧ d < b ∧ a < d) := zh (by omega)
    clear HR GU GV GB HL HH HLS HN PT HSU HSV HV hf hu hv9 hul hvl hLU hLV k1 k2 k3 k4 k5 k6 k7 hE hD hPP K HD HE hP9
    go_upto_region 39 with fail
    by_cases cA : i < m
    ·by_cases cB : m < f
     ·by_cases cC : a < i
      ·by_cases cD : f < b
       ·have dA : decide ((i : Int) < (m : Int)) = true := decide_eq_true (by omega)
        have dB : decide ((m : Int) < (f : Int)) = true := decide_eq_true (by omega)
        have dC : decide ((a : Int) < (i : Int)) = true := decide_eq_true (by omega)
        have dD : decide ((f : Int) < (b : Int)) = true := decide_eq_true (by omega)
        have dB2 : decide ((i : Int) < (d : Int)) = true := decide_eq_true (by have := ARI.out; omega)
        have dA2 : decide ((d : Int) < (f : Int)) = true := decide_eq_true (by have := ARI.out; omega)
        have cB2 : i < d := by have := ARI.out; omega
        have cA2 : d < f := by have := ARI.out; omega
        clear ARI
        go_wp2_with fail
        refine (SyBB.out.rot cA cB HRA.out).mono ?_
        rintro e9 w7 ⟨⟨v7, rfl⟩, hg, hr⟩
        have HR2 := zh hr
        replace NG := zh (grown_trans NG.out hg)
        clear hr hg HRA
        go_wp2_with fail
        refine (SyBB.out.sub1 IH.out hN cC cB2 HR2.out).mono ?_
        rintro e9 w9 ⟨⟨v9, rfl⟩, hg, S1, hr⟩
        have HR3 := zh hr
        replace NG := zh (grown_trans NG.out hg)
        clear hr hg HR2
        go_wp2_with fail
        refine (SyBB.out.sub2 IH.out hN cA2 cD HR3.out).mono ?_
        rintro e9 w10 ⟨⟨v10, rfl⟩, hg, hr⟩
        have HR4 := zh hr
        replace NG := zh (grown_trans NG.out hg)
        clear hr hg HR3
        go_wp2_with fail
        go_end0
        exact ⟨⟨_, rfl⟩, NG.out, HR4.out⟩
       ·have dA : decide ((i : Int) < (m : Int)) = true := decide_eq_true (by omega)
        have dB : decide ((m : Int) < (f : Int)) = true := decide_eq_true (by omega)
        have dC : decide ((a : Int) < (i : Int)) = true := decide_eq_true (by omega)
        have dD : decide ((f : Int) < (b : Int)) = false := decide_eq_false (by omega)
        have dB2 : decide ((i : Int) < (d : Int)) = true := decide_eq_true (by have := ARI.out; omega)
        have dA2 : decide ((d : Int) < (f : Int)) = true := decide_eq_true (by have := ARI.out; omega)
        have cB2 : i < d := by have := ARI.out; omega
        have cA2 : d < f := by have := ARI.out; omega
        clear ARI
        go_wp2_with fail
        refine (SyBB.out.rot cA cB HRA.out).mono ?_
        rintro e9 w7 ⟨⟨v7, rfl⟩, hg, hr⟩
        have HR2 := zh hr
        replace NG := zh (grown_trans NG.out hg)
        clear hr hg HRA
        go_wp2_with fail
        refine (SyBB.out.sub1 IH.out hN cC cB2 HR2.out).mono ?_
        rintro e9 w9 ⟨⟨v9, rfl⟩, hg, S1, hr⟩
        have HR3 := zh hr
        replace NG := zh (grown_trans NG.out hg)
        clear hr hg HR2
        go_wp2_with fail
        have HR4 := zh (SyBB.out.nosub2 (by omega) HR3.out)
        clear HR3
        go_end0
        exact ⟨⟨_, rfl⟩, NG.out, HR4.out⟩
      ·by_cases cD : f < b
       ·have dA : decide ((i : Int) < (m : Int)) = true := decide_eq_true (by omega)
        have dB : decide ((m : Int) < (f : Int)) = true := decide_eq_true (by omega)
        have dC : decide ((a : Int) < (i : Int)) = false := decide_eq_false (by omega)
        have dD : decide ((f : Int) < (b : Int)) = true := decide_eq_true (by omega)
        have dB2 : decide ((i : Int) < (d : Int)) = true := decide_eq_true (by have := ARI.out; omega)
        have dA2 : decide ((d : Int) < (f : Int)) = true := decide_eq_true (by have := ARI.out; omega)
        have cB2 : i < d := by have := ARI.out; omega
        have cA2 : d < f := by have := ARI.out; omega
        clear ARI
        go_wp2_with fail
        refine (SyBB.out.rot cA cB HRA.out).mono ?_
        rintro e9 w7 ⟨⟨v7, rfl⟩, hg, hr⟩
        have HR2 := zh hr
        replace NG := zh (grown_trans NG.out hg)
        clear hr hg HRA
        go_wp2_with fail
        obtain ⟨S1, hr⟩ := SyBB.out.nosub1 (by omega) HR2.out
        have HR3 := zh hr
        clear hr HR2
        refine (SyBB.out.sub2 IH.out hN cA2 cD HR3.out).mono ?_
        rintro e9 w10 ⟨⟨v10, rfl⟩, hg, hr⟩
        have HR4 := zh hr
        replace NG := zh (grown_trans NG.out hg)
        clear hr hg HR3
        go_wp2_with fail
        go_end0
        exact ⟨⟨_, rfl⟩, NG.out, HR4.out⟩
       ·have dA : decide ((i : Int) < (m : Int)) = true := decide_eq_true (by omega)
        have dB : decide ((m : Int) < (f : Int)) = true := decide_eq_true (by omega)
        have dC : decide ((a : Int) < (i : Int)) = false := decide_eq_false (by omega)
        have dD : decide ((f : Int) < (b : Int)) = false := decide_eq_false (by omega)
        have dB2 : decide ((i : Int) < (d : Int)) = true := decide_eq_true (by have := ARI.out; omega)
        have dA2 : decide ((d : Int) < (f : Int)) = true := decide_eq_true (by have := ARI.out; omega)
        have cB2 : i < d := by have := ARI.out; omega
        have cA2 : d < f := by have := ARI.out; omega
        clear ARI
        go_wp2_with fail
        refine (SyBB.out.rot cA cB HRA.out).mono ?_
        rintro e9 w7 ⟨⟨v7, rfl⟩, hg, hr⟩
        have HR2 := zh hr
        replace NG := zh (grown_trans NG.out hg)
        clear hr hg HRA
        go_wp2_with fail
        obtain ⟨S1, hr⟩ := SyBB.out.nosub1 (by omega) HR2.out
        have HR3 := zh hr
        clear hr HR2
        have HR4 := zh (SyBB.out.nosub2 (by omega) HR3.out)
        clear HR3
        go_end0
        exact ⟨⟨_, rfl⟩, NG.out, HR4.out⟩
     ·by_cases cC : a < i
      ·by_cases cD : f < b
       ·have dA : decide ((i : Int) < (m : Int)) = true := decide_eq_true (by omega)
        have dB : decide ((m : Int) < (f : Int)) = false := decide_eq_false (by omega)
        have dC : decide ((a : Int) < (i : Int)) = true := decide_eq_true (by omega)
        have dD : decide ((f : Int) < (b : Int)) = true := decide_eq_true (by omega)
        have dB2 : decide ((i : Int) < (d : Int)) = false := decide_eq_false (by have := ARI.out; omega)
        have dA2 : decide ((d : Int) < (f : Int)) = true := decide_eq_true (by have := ARI.out; omega)
        have cB2 : ¬ i < d := by have := ARI.out; omega
        have cA2 : d < f := by have := ARI.out; omega
        clear ARI
        go_wp2_with fail
        have HR2 := zh (SyBB.out.norot (by omega) HRA.out)
        clear HRA
        obtain ⟨S1, hr⟩ := SyBB.out.nosub1 (by omega) HR2.out
        have HR3 := zh hr
        clear hr HR2
        refine (SyBB.out.sub2 IH.out hN cA2 cD HR3.out).mono ?_
        rintro e9 w10 ⟨⟨v10, rfl⟩, hg, hr⟩
        have HR4 := zh hr
        replace NG := zh (grown_trans NG.out hg)
        clear hr hg HR3
        go_wp2_with fail
        go_end0
        exact ⟨⟨_, rfl⟩, NG.out, HR4.out⟩
       ·have dA : decide ((i : Int) < (m : Int)) = true := decide_eq_true (by omega)
        have dB : decide ((m : Int) < (f : Int)) = false := decide_eq_false (by omega)
        have dC : decide ((a : Int) < (i : Int)) = true := decide_eq_true (by omega)
        have dD : decide ((f : Int) < (b : Int)) = false := decide_eq_false (by omega)
        have dB2 : decide ((i : Int) < (d : Int)) = false := decide_eq_false (by have := ARI.out; omega)
        have dA2 : decide ((d : Int) < (f : Int)) = true := decide_eq_true (by have := ARI.out; omega)
        have cB2 : ¬ i < d := by have := ARI.out; omega
        have cA2 : d < f := by have := ARI.out; omega
        clear ARI
        go_wp2_with fail
        have HR2 := zh (SyBB.out.norot (by omega) HRA.out)
        clear HRA
        obtain ⟨S1, hr⟩ := SyBB.out.nosub1 (by omega) HR2.out
        have HR3 := zh hr
        clear hr HR2
        have HR4 := zh (SyBB.out.nosub2 (by omega) HR3.out)
        clear HR3
        go_end0
        exact ⟨⟨_, rfl⟩, NG.out, HR4.out⟩
      ·by_cases cD : f < b
       ·have dA : decide ((i : Int) < (m : Int)) = true := decide_eq_true (by omega)
        have dB : decide ((m : Int) < (f : Int)) = false := decide_eq_false (by omega)
        have dC : decide ((a : Int) < (i : Int)) = false := decide_eq_false (by omega)
        have dD : decide ((f : Int) < (b : Int)) = true := decide_eq_true (by omega)
        have dB2 : decide ((i : Int) < (d : Int)) = false := decide_eq_false (by have := ARI.out; omega)
        have dA2 : decide ((d : Int) < (f : Int)) = true := decide_eq_true (by have := ARI.out; omega)
        have cB2 : ¬ i < d := by have := ARI.out; omega
        have cA2 : d < f := by have := ARI.out; omega
        clear ARI
        go_wp2_with fail
        have HR2 := zh (SyBB.out.norot (by omega) HRA.out)
        clear HRA
        obtain ⟨S1, hr⟩ := SyBB.out.nosub1 (by omega) HR2.out
        have HR3 := zh hr
        clear hr HR2
        refine (SyBB.out.sub2 IH.out hN cA2 cD HR3.out).mono ?_
        rintro e9 w10 ⟨⟨v10, rfl⟩, hg, hr⟩
        have HR4 := zh hr
        replace NG := zh (grown_trans NG.out hg)
        clear hr hg HR3
        go_wp2_with fail
        go_end0
        exact ⟨⟨_, rfl⟩, NG.out, HR4.out⟩
       ·have dA : decide ((i : Int) < (m : Int)) = true := decide_eq_true (by omega)
        have dB : decide ((m : Int) < (f : Int)) = false := decide_eq_false (by omega)
        have dC : decide ((a : Int) < (i : Int)) = false := decide_eq_false (by omega)
        have dD : decide ((f : Int) < (b : Int)) = false := decide_eq_false (by omega)
        have dB2 : decide ((i : Int) < (d : Int)) = false := decide_eq_false (by have := ARI.out; omega)
        have dA2 : decide ((d : Int) < (f : Int)) = true := decide_eq_true (by have := ARI.out; omega)
        have cB2 : ¬ i < d := by have := ARI.out; omega
        have cA2 : d < f := by have := ARI.out; omega
        clear ARI
        go_wp2_with fail
        have HR2 := zh (SyBB.out.norot (by omega) HRA.out)
        clear HRA
        obtain ⟨S1, hr⟩ := SyBB.out.nosub1 (by omega) HR2.out
        have HR3 := zh hr
        clear hr HR2
        have HR4 := zh (SyBB.out.nosub2 (by omega) HR3.out)
        clear HR3
        go_end0
        exact ⟨⟨_, rfl⟩, NG.out, HR4.out⟩
    ·by_cases cB : m < f
     ·by_cases cC : a < i
      ·by_cases cD : f < b
       ·have dA : decide ((i : Int) < (m : Int)) = false := decide_eq_false (by omega)
        have dB : decide ((m : Int) < (f : Int)) = true := decide_eq_true (by omega)
        have dC : decide ((a : Int) < (i : Int)) = true := decide_eq_true (by omega)
        have dD : decide ((f : Int) < (b : Int)) = true := decide_eq_true (by omega)
        have dB2 : decide ((i : Int) < (d : Int)) = true := decide_eq_true (by have := ARI.out; omega)
        have dA2 : decide ((d : Int) < (f : Int)) = false := decide_eq_false (by have := ARI.out; omega)
        have cB2 : i < d := by have := ARI.out; omega
        have cA2 : ¬ d < f := by have := ARI.out; omega
        clear ARI
        go_wp2_with fail
        have HR2 := zh (SyBB.out.norot (by omega) HRA.out)
        clear HRA
        refine (SyBB.out.sub1 IH.out hN cC cB2 HR2.out).mono ?_
        rintro e9 w9 ⟨⟨v9, rfl⟩, hg, S1, hr⟩
        have HR3 := zh hr
        replace NG := zh (grown_trans NG.out hg)
        clear hr hg HR2
        go_wp2_with fail
        have HR4 := zh (SyBB.out.nosub2 (by omega) HR3.out)
        clear HR3
        go_end0
        exact ⟨⟨_, rfl⟩, NG.out, HR4.out⟩
       ·have dA : decide ((i : Int) < (m : Int)) = false := decide_eq_false (by omega)
        have dB : decide ((m : Int) < (f : Int)) = true := decide_eq_true (by omega)
        have dC : decide ((a : Int) < (i : Int)) = true := decide_eq_true (by omega)
        have dD : decide ((f : Int) < (b : Int)) = false := decide_eq_false (by omega)
        have dB2 : decide ((i : Int) < (d : Int)) = true := decide_eq_true (by have := ARI.out; omega)
        have dA2 : decide ((d : Int) < (f : Int)) = false := decide_eq_false (by have := ARI.out; omega)
        have cB2 : i < d := by have := ARI.out; omega
        have cA2 : ¬ d < f := by have := ARI.out; omega
        clear ARI
        go_wp2_with fail
        have HR2 := zh (SyBB.out.norot (by omega) HRA.out)
        clear HRA
        refine (SyBB.out.sub1 IH.out hN cC cB2 HR2.out).mono ?_
        rintro e9 w9 ⟨⟨v9, rfl⟩, hg, S1, hr⟩
        have HR3 := zh hr
        replace NG := zh (grown_trans NG.out hg)
        clear hr hg HR2
        go_wp2_with fail
        have HR4 := zh (SyBB.out.nosub2 (by omega) HR3.out)
        clear HR3
        go_end0
        exact ⟨⟨_, rfl⟩, NG.out, HR4.out⟩
      ·by_cases cD : f < b
       ·have dA : decide ((i : Int) < (m : Int)) = false := decide_eq_false (by omega)
        have dB : decide ((m : Int) < (f : Int)) = true := decide_eq_true (by omega)
        have dC : decide ((a : Int) < (i : Int)) = false := decide_eq_false (by omega)
        have dD : decide ((f : Int) < (b : Int)) = true := decide_eq_true (by omega)
        have dB2 : decide ((i : Int) < (d : Int)) = true := decide_eq_true (by have := ARI.out; omega)
        have dA2 : decide ((d : Int) < (f : Int)) = false := decide_eq_false (by have := ARI.out; omega)
        have cB2 : i < d := by have := ARI.out; omega
        have cA2 : ¬ d < f := by have := ARI.out; omega
        clear ARI
        go_wp2_with fail
        have HR2 := zh (SyBB.out.norot (by omega) HRA.out)
        clear HRA
        obtain ⟨S1, hr⟩ := SyBB.out.nosub1 (by omega) HR2.out
        have HR3 := zh hr
        clear hr HR2
        have HR4 := zh (SyBB.out.nosub2 (by omega) HR3.out)
        clear HR3
        go_end0
        exact ⟨⟨_, rfl⟩, NG.out, HR4.out⟩
       ·have dA : decide ((i : Int) < (m : Int)) = false := decide_eq_false (by omega)
        have dB : decide ((m : Int) < (f : Int)) = true := decide_eq_true (by omega)
        have dC : decide ((a : Int) < (i : Int)) = false := decide_eq_false (by omega)
        have dD : decide ((f : Int) < (b : Int)) = false := decide_eq_false (by omega)
        have dB2 : decide ((i : Int) < (d : Int)) = true := decide_eq_true (by have := ARI.out; omega)
        have dA2 : decide ((d : Int) < (f : Int)) = false := decide_eq_false (by have := ARI.out; omega)
        have cB2 : i < d := by have := ARI.out; omega
        have cA2 : ¬ d < f := by have := ARI.out; omega
        clear ARI
        go_wp2_with fail
        have HR2 := zh (SyBB.out.norot (by omega) HRA.out)
        clear HRA
        obtain ⟨S1, hr⟩ := SyBB.out.nosub1 (by omega) HR2.out
        have HR3 := zh hr
        clear hr HR2
        have HR4 := zh (SyBB.out.nosub2 (by omega) HR3.out)
        clear HR3
        go_end0
        exact ⟨⟨_, rfl⟩, NG.out, HR4.out⟩
     ·by_cases cC : a < i
      ·by_cases cD : f < b
       ·have dA : decide ((i : Int) < (m : Int)) = false := decide_eq_false (by omega)
        have dB : decide ((m : Int) < (f : Int)) = false := decide_eq_false (by omega)
        have dC : decide ((a : Int) < (i : Int)) = true := decide_eq_true (by omega)
        have dD : decide ((f : Int) < (b : Int)) = true := decide_eq_true (by omega)
        have dB2 : decide ((i : Int) < (d : Int)) = false := decide_eq_false (by have := ARI.out; omega)
        have dA2 : decide ((d : Int) < (f : Int)) = false := decide_eq_false (by have := ARI.out; omega)
        have cB2 : ¬ i < d := by have := ARI.out; omega
        have cA2 : ¬ d < f := by have := ARI.out; omega
        clear ARI
        go_wp2_with fail
        have HR2 := zh (SyBB.out.norot (by omega) HRA.out)
        clear HRA
        obtain ⟨S1, hr⟩ := SyBB.out.nosub1 (by omega) HR2.out
        have HR3 := zh hr
        clear hr HR2
        have HR4 := zh (SyBB.out.nosub2 (by omega) HR3.out)
        clear HR3
        go_end0
        exact ⟨⟨_, rfl⟩, NG.out, HR4.out⟩
       ·have dA : decide ((i : Int) < (m : Int)) = false := decide_eq_false (by omega)
        have dB : decide ((m : Int) < (f : Int)) = false := decide_eq_false (by omega)
        have dC : decide ((a : Int) < (i : Int)) = true := decide_eq_true (by omega)
        have dD : decide ((f : Int) < (b : Int)) = false := decide_eq_false (by omega)
        have dB2 : decide ((i : Int) < (d : Int)) = false := decide_eq_false (by have := ARI.out; omega)
        have dA2 : decide ((d : Int) < (f : Int)) = false := decide_eq_false (by have := ARI.out; omega)
        have cB2 : ¬ i < d := by have := ARI.out; omega
        have cA2 : ¬ d < f := by have := ARI.out; omega
        clear ARI
        go_wp2_with fail
        have HR2 := zh (SyBB.out.norot (by omega) HRA.out)
        clear HRA
        obtain ⟨S1, hr⟩ := SyBB.out.nosub1 (by omega) HR2.out
        have HR3 := zh hr
        clear hr HR2
        have HR4 := zh (SyBB.out.nosub2 (by omega) HR3.out)
        clear HR3
        go_end0
        exact ⟨⟨_, rfl⟩, NG.out, HR4.out⟩
      ·by_cases cD : f < b
       ·have dA : decide ((i : Int) < (m : Int)) = false := decide_eq_false (by omega)
        have dB : decide ((m : Int) < (f : Int)) = false := decide_eq_false (by omega)
        have dC : decide ((a : Int) < (i : Int)) = false := decide_eq_false (by omega)
        have dD : decide ((f : Int) < (b : Int)) = true := decide_eq_true (by omega)
        have dB2 : decide ((i : Int) < (d : Int)) = false := decide_eq_false (by have := ARI.out; omega)
        have dA2 : decide ((d : Int) < (f : Int)) = false := decide_eq_false (by have := ARI.out; omega)
        have cB2 : ¬ i < d := by have := ARI.out; omega
        have cA2 : ¬ d < f := by have := ARI.out; omega
        clear ARI
        go_wp2_with fail
        have HR2 := zh (SyBB.out.norot (by omega) HRA.out)
        clear HRA
        obtain ⟨S1, hr⟩ := SyBB.out.nosub1 (by omega) HR2.out
        have HR3 := zh hr
        clear hr HR2
        have HR4 := zh (SyBB.out.nosub2 (by omega) HR3.out)
        clear HR3
        go_end0
        exact ⟨⟨_, rfl⟩, NG.out, HR4.out⟩
       ·have dA : decide ((i : Int) < (m : Int)) = false := decide_eq_false (by omega)
        have dB : decide ((m : Int) < (f : Int)) = false := decide_eq_false (by omega)
        have dC : decide ((a : Int) < (i : Int)) = false := decide_eq_false (by omega)
        have dD : decide ((f : Int) < (b : Int)) = false := decide_eq_false (by omega)
        have dB2 : decide ((i : Int) < (d : Int)) = false := decide_eq_false (by have := ARI.out; omega)
        have dA2 : decide ((d : Int) < (f : Int)) = false := decide_eq_false (by have := ARI.out; omega)
        have cB2 : ¬ i < d := by have := ARI.out; omega
        have cA2 : ¬ d < f := by have := ARI.out; omega
        clear ARI
        go_wp2_with fail
        have HR2 := zh (SyBB.out.norot (by omega) HRA.out)
        clear HRA
        obtain ⟨S1, hr⟩ := SyBB.out.nosub1 (by omega) HR2.out
        have HR3 := zh hr
        clear hr HR2
        have HR4 := zh (SyBB.out.nosub2 (by omega) HR3.out)
        clear HR3
        go_end0
        exact ⟨⟨_, rfl⟩, NG.out, HR4.out⟩
 ·have dm : decide ((d : Int) < (m : Int)) = false := decide_eq_false (by omega)
  obtain ⟨lo, hlo⟩ : ∃ lo, a = lo := ⟨_, rfl⟩
  have K : Hid (a ≤ lo ∧ lo ≤ m ∧ m ≤ m ∧ m ≤ d ∧ (lo = a ∨ lo + b = e) ∧ (m = m ∨ m = d) ∧ e ≤ lo + b) := zh (by have := HD.out; have := HE.out; omega)
  have HLO := zh hlo
  clear hlo
  go_wp2_with fail
  skip
  clear w1 w2 q0 q1 ws we hd9 wp9 dm
  go_loopw [20, 21] (fun p q wr => ∃ (i j : Nat), p = .int .i64 (i : Int) ∧ q = .int .i64 (j : Int) ∧ lo ≤ i ∧ i ≤ j ∧ j ≤ m ∧ Hid (lo < i → ∀ y z, Ls[e - i]? = some y → Ls[i - 1]? = some z → vkey z ≤ vkey y) ∧ Hid (j < m → ∀ y z, Ls[e - 1 - j]? = some y → Ls[j]? = some z → vkey y < vkey z) ∧ Hid (RW wr g Ls) ∧ Hid (w.grownBy wr (some g))) (fun p q _ => (intOf q).toNat - (intOf p).toNat)
  case atStart => exact ⟨lo, m, by rw [← HLO.out], rfl, Nat.le_refl _, K.out.2.1, Nat.le_refl _, zh (by omega), zh (by omega), HX, NN⟩
  case round =>
   clear NN HX
   obtain ⟨i, j, rfl, rfl, hmi, hij, hjb, HL, HH, HR, NG⟩ := hrel
   obtain ⟨k1, k2, k3, k4, k5, k6, k7⟩ := K.out
   have hE := HE.out
   have hD := HD.out
   have hPP := hP9.out
   by_cases hlt : i < j
   ·obtain ⟨s2, hs2⟩ : ∃ s, i + j = s := ⟨_, rfl⟩
    obtain ⟨h, hh⟩ : ∃ h, s2 / 2 = h := ⟨_, rfl⟩
    have ws2 : IntKind.i64.wrap ((i : Int) + (j : Int)) = (s2 : Int) := by rw [IntWalk.i64_in _ (by omega)]; omega
    have hd92 : (s2 : Int) / 2 = (h : Int) := by omega
    obtain ⟨h1, h2⟩ := half_in hlt
    rw [hs2, hh] at h1 h2
    clear hs2 hh
    have wh : IntKind.i64.wrap ((h : Int) + 1) = (h : Int) + 1 := IntWalk.i64_in _ (by omega)
    obtain ⟨r9, hr9⟩ : ∃ r9, r9 + h = p9 := ⟨p9 - h, by omega⟩
    have wr9 : IntKind.i64.wrap ((p9 : Int) - (h : Int)) = (r9 : Int) := by rw [IntWalk.i64_in _ (by omega)]; omega
    have hr1 : m ≤ r9 ∧ r9 < b := by omega
    have hhn : h < n := by omega
    have hrn : r9 < n := by omega
    obtain ⟨z, hz⟩ : ∃ z, Ls[h]? = some z := ⟨_, List.getElem?_eq_getElem (by have := HN.out; omega)⟩
    obtain ⟨y, hy⟩ : ∃ y, Ls[r9]? = some y := ⟨_, List.getElem?_eq_getElem (by have := HN.out; omega)⟩
    have KX := rcmp_key (GB.out r9 y (by omega) (by omega) hy) (GB.out h z (by omega) (by omega) hz)
    have HZ := zh hz
    have HY := zh hy
    clear hz hy
    obtain ⟨q, hq⟩ : ∃ q, rcmp y z = q := ⟨_, rfl⟩
    have CC : Hid (∀ W : World, Calls Tryz.prog 42 #[Rwv y, Rwv z] W fun e w' => e = .returned (.int .i64 q) ∧ Below W.heap.size W w') := zh (fun W => by rw [← hq]; exact compare_calls y z W)
    rw [hq] at KX
    clear hq
    have hER : e - 1 - h = r9 := by omega
    have HER := zh hER
    clear hER k1 k2 k3 k4 k5 k6 k7 hE hD hPP hr9
    by_cases hlt9 : vkey y < vkey z
    ·have d9 : decide (q < 0) = true := decide_eq_true (by rw [KX]; exact kcmp_lt.2 hlt9)
     clear KX
     go_upto_region 35 with fail
     have HDRW := zh (Below.drew (Below.refl wr.heap.size wr))
     replace NG := zh (grown_trans NG.out (grown_of_below HDRW.out _))
     replace HR := zh (RW.next HR.out HDRW.out)
     clear HDRW
     have HAL : Hid (∀ kx9 : Nat, GK [(6, g, .cells (vrc Ls).toArray 67), (10, g, .cells (vrc Ls).toArray 67)] kx9 wr.drew) := zh (fun kx9 => fun px9 hp e => by
      simp only [List.mem_cons, List.not_mem_nil, or_false] at hp
      rcases hp with rfl | rfl
      ·exact HR.out
      ·exact HR.out
     )
     refine region_G (S := GK [(6, g, .cells (vrc Ls).toArray 67), (10, g, .cells (vrc Ls).toArray 67)]) (by kernel_rfl) ?_
     refine tP 0 (CmpV) (some 158) rfl ?_ ?_
     ·intro X hX
      clear hX
      go_simp
      all_goals (first | (intro h9; exfalso; omega) | omega)
     try simp only [Act.put, zA, zB, zC]
     refine tP 1 (.slice (some ⟨g, 0, none⟩) n c) (some 159) rfl ?_ ?_
     ·intro X hX
      clear hX
      go_simp
      all_goals (first | (intro h9; exfalso; omega) | omega)
     try simp only [Act.put, zA, zB, zC]
     refine tP 2 (.int .i64 (p9 : Int)) (some 160) rfl ?_ ?_
     ·intro X hX
      clear hX
      go_simp
      all_goals (first | (intro h9; exfalso; omega) | omega)
     try simp only [Act.put, zA, zB, zC]
     refine tP 3 (.int .i64 (h : Int)) (some 161) rfl ?_ ?_
     ·intro X hX
      clear hX
      go_simp
      all_goals (first | (intro h9; exfalso; omega) | omega)
     try simp only [Act.put, zA, zB, zC]
     refine tP 4 (.int .i64 (r9 : Int)) (some 162) rfl ?_ ?_
     ·intro X hX
      clear hX
      go_simp
      all_goals (first | (intro h9; exfalso; omega) | omega)
     try simp only [Act.put, zA, zB, zC]
     refine tP 5 (.pointer (some ⟨g, r9 * 8, none⟩)) (some 163) rfl ?_ ?_
     ·intro X hX
      clear hX
      go_simp
      all_goals (first | (intro h9; exfalso; omega) | omega)
     try simp only [Act.put, zA, zB, zC]
     refine tG 6 (.agg #[.int .i64 y.t, .int .i64 y.c, .int .i64 y.i, .int .i64 y.j, .int .i64 y.re, .int .i64 y.im, .int .i64 y.dn, .int .i64 y.n]) (some 164) (GK.grow _) rfl (YieldsIf.toG (Or.inl ⟨by rfl, ?_⟩)) (HAL.out 6) ?_
     ·intro X hX
      have hh := hX (6, g, .cells (vrc Ls).toArray 67) (List.Mem.head _) rfl
      have hh0 := (RW.cell (show RW _ g Ls from hh) HY.out 0 _ rfl)
      simp only [Nat.add_zero] at hh0
      have hh1 := (RW.cell (show RW _ g Ls from hh) HY.out 1 _ rfl)
      have hh2 := (RW.cell (show RW _ g Ls from hh) HY.out 2 _ rfl)
      have hh3 := (RW.cell (show RW _ g Ls from hh) HY.out 3 _ rfl)
      have hh4 := (RW.cell (show RW _ g Ls from hh) HY.out 4 _ rfl)
      have hh5 := (RW.cell (show RW _ g Ls from hh) HY.out 5 _ rfl)
      have hh6 := (RW.cell (show RW _ g Ls from hh) HY.out 6 _ rfl)
      have hh7 := (RW.cell (show RW _ g Ls from hh) HY.out 7 _ rfl)
      have hhl := blk_lt hh
      clear hh
      clear hX
      go_simp
      all_goals (first | (intro h9; exfalso; omega) | omega)
     try simp only [Act.put, zA, zB, zC]
     refine tP 7 (.slice (some ⟨g, 0, none⟩) n c) (some 165) rfl ?_ ?_
     ·intro X hX
      clear hX
      go_simp
      all_goals (first | (intro h9; exfalso; omega) | omega)
     try simp only [Act.put, zA, zB, zC]
     refine tP 8 (.int .i64 (h : Int)) (some 166) rfl ?_ ?_
     ·intro X hX
      clear hX
      go_simp
      all_goals (first | (intro h9; exfalso; omega) | omega)
     try simp only [Act.put, zA, zB, zC]
     refine tP 9 (.pointer (some ⟨g, h * 8, none⟩)) (some 167) rfl ?_ ?_
     ·intro X hX
      clear hX
      go_simp
      all_goals (first | (intro h9; exfalso; omega) | omega)
     try simp only [Act.put, zA, zB, zC]
     refine tG 10 (.agg #[.int .i64 z.t, .int .i64 z.c, .int .i64 z.i, .int .i64 z.j, .int .i64 z.re, .int .i64 z.im, .int .i64 z.dn, .int .i64 z.n]) (some 168) (GK.grow _) rfl (YieldsIf.toG (Or.inl ⟨by rfl, ?_⟩)) (HAL.out 10) ?_
     ·intro X hX
      have hh := hX (10, g, .cells (vrc Ls).toArray 67) (List.Mem.tail _ (List.Mem.head _)) rfl
      have hh0 := (RW.cell (show RW _ g Ls from hh) HZ.out 0 _ rfl)
      simp only [Nat.add_zero] at hh0
      have hh1 := (RW.cell (show RW _ g Ls from hh) HZ.out 1 _ rfl)
      have hh2 := (RW.cell (show RW _ g Ls from hh) HZ.out 2 _ rfl)
      have hh3 := (RW.cell (show RW _ g Ls from hh) HZ.out 3 _ rfl)
      have hh4 := (RW.cell (show RW _ g Ls from hh) HZ.out 4 _ rfl)
      have hh5 := (RW.cell (show RW _ g Ls from hh) HZ.out 5 _ rfl)
      have hh6 := (RW.cell (show RW _ g Ls from hh) HZ.out 6 _ rfl)
      have hh7 := (RW.cell (show RW _ g Ls from hh) HZ.out 7 _ rfl)
      have hhl := blk_lt hh
      clear hh
      clear hX
      go_simp
      all_goals (first | (intro h9; exfalso; omega) | omega)
     try simp only [Act.put, zA, zB, zC]
     have CFn : ∀ (args : Array Value) (W : World), Sem.run Tryz.prog (callFunc 42 args) W = .ok (.enter 42 args) W := fun _ _ => by kernel_rfl
     refine tG 11 (.int .i64 q) (some 169) (GK.grow _) rfl (yieldsG_call 42 #[.agg #[.int .i64 y.t, .int .i64 y.c, .int .i64 y.i, .int .i64 y.j, .int .i64 y.re, .int .i64 y.im, .int .i64 y.dn, .int .i64 y.n], .agg #[.int .i64 z.t, .int .i64 z.c, .int .i64 z.i, .int .i64 z.j, .int .i64 z.re, .int .i64 z.im, .int .i64 z.dn, .int .i64 z.n]] (by rfl) ?_ (fun X hS => CC.out X)) (GK.drop (by simp)) ?_
     ·intro X hX
      clear hX
      go_simp
     clear CFn
     try simp only [Act.put, zA, zB, zC]
     refine tP 12 (.bool true) (some 170) rfl ?_ ?_
     ·intro X hX
      clear hX
      go_simp
      all_goals (first | (intro h9; exfalso; omega) | omega)
     try simp only [Act.put, zA, zB, zC]
     refine tP 13 (.bool false) (some 171) rfl ?_ ?_
     ·intro X hX
      clear hX
      go_simp
      all_goals (first | (intro h9; exfalso; omega) | omega)
     try simp only [Act.put, zA, zB, zC]
     clear HAL
     refine done_G (by kernel_rfl) (fun X3 hX => ?_) _
     replace NG := zh (grown_trans NG.out (grown_of_below hX _))
     replace HR := zh (RW.next HR.out hX)
     clear hX
     go_wp2_with fail
     go_roundw
     case rel => exact ⟨i, h, rfl, rfl, hmi, by omega, by omega, HL, zh (fun _ y' z' hy' hz' => by rw [HER.out, HY.out] at hy'; rw [HZ.out] at hz'; injection hy' with hy'; injection hz' with hz'; rw [← hy', ← hz']; exact hlt9), HR, NG⟩
     case measure => simp [intOf]; omega
    ·have d9 : decide (q < 0) = false := decide_eq_false (by rw [KX]; exact fun h => hlt9 (kcmp_lt.1 h))
     clear KX
     go_upto_region 35 with fail
     have HDRW := zh (Below.drew (Below.refl wr.heap.size wr))
     replace NG := zh (grown_trans NG.out (grown_of_below HDRW.out _))
     replace HR := zh (RW.next HR.out HDRW.out)
     clear HDRW
     have HAL : Hid (∀ kx9 : Nat, GK [(6, g, .cells (vrc Ls).toArray 67), (10, g, .cells (vrc Ls).toArray 67)] kx9 wr.drew) := zh (fun kx9 => fun px9 hp e => by
      simp only [List.mem_cons, List.not_mem_nil, or_false] at hp
      rcases hp with rfl | rfl
      ·exact HR.out
      ·exact HR.out
     )
     refine region_G (S := GK [(6, g, .cells (vrc Ls).toArray 67), (10, g, .cells (vrc Ls).toArray 67)]) (by kernel_rfl) ?_
     refine tP 0 (CmpV) (some 158) rfl ?_ ?_
     ·intro X hX
      clear hX
      go_simp
      all_goals (first | (intro h9; exfalso; omega) | omega)
     try simp only [Act.put, zA, zB, zC]
     refine tP 1 (.slice (some ⟨g, 0, none⟩) n c) (some 159) rfl ?_ ?_
     ·intro X hX
      clear hX
      go_simp
      all_goals (first | (intro h9; exfalso; omega) | omega)
     try simp only [Act.put, zA, zB, zC]
     refine tP 2 (.int .i64 (p9 : Int)) (some 160) rfl ?_ ?_
     ·intro X hX
      clear hX
      go_simp
      all_goals (first | (intro h9; exfalso; omega) | omega)
     try simp only [Act.put, zA, zB, zC]
     refine tP 3 (.int .i64 (h : Int)) (some 161) rfl ?_ ?_
     ·intro X hX
      clear hX
      go_simp
      all_goals (first | (intro h9; exfalso; omega) | omega)
     try simp only [Act.put, zA, zB, zC]
     refine tP 4 (.int .i64 (r9 : Int)) (some 162) rfl ?_ ?_
     ·intro X hX
      clear hX
      go_simp
      all_goals (first | (intro h9; exfalso; omega) | omega)
     try simp only [Act.put, zA, zB, zC]
     refine tP 5 (.pointer (some ⟨g, r9 * 8, none⟩)) (some 163) rfl ?_ ?_
     ·intro X hX
      clear hX
      go_simp
      all_goals (first | (intro h9; exfalso; omega) | omega)
     try simp only [Act.put, zA, zB, zC]
     refine tG 6 (.agg #[.int .i64 y.t, .int .i64 y.c, .int .i64 y.i, .int .i64 y.j, .int .i64 y.re, .int .i64 y.im, .int .i64 y.dn, .int .i64 y.n]) (some 164) (GK.grow _) rfl (YieldsIf.toG (Or.inl ⟨by rfl, ?_⟩)) (HAL.out 6) ?_
     ·intro X hX
      have hh := hX (6, g, .cells (vrc Ls).toArray 67) (List.Mem.head _) rfl
      have hh0 := (RW.cell (show RW _ g Ls from hh) HY.out 0 _ rfl)
      simp only [Nat.add_zero] at hh0
      have hh1 := (RW.cell (show RW _ g Ls from hh) HY.out 1 _ rfl)
      have hh2 := (RW.cell (show RW _ g Ls from hh) HY.out 2 _ rfl)
      have hh3 := (RW.cell (show RW _ g Ls from hh) HY.out 3 _ rfl)
      have hh4 := (RW.cell (show RW _ g Ls from hh) HY.out 4 _ rfl)
      have hh5 := (RW.cell (show RW _ g Ls from hh) HY.out 5 _ rfl)
      have hh6 := (RW.cell (show RW _ g Ls from hh) HY.out 6 _ rfl)
      have hh7 := (RW.cell (show RW _ g Ls from hh) HY.out 7 _ rfl)
      have hhl := blk_lt hh
      clear hh
      clear hX
      go_simp
      all_goals (first | (intro h9; exfalso; omega) | omega)
     try simp only [Act.put, zA, zB, zC]
     refine tP 7 (.slice (some ⟨g, 0, none⟩) n c) (some 165) rfl ?_ ?_
     ·intro X hX
      clear hX
      go_simp
      all_goals (first | (intro h9; exfalso; omega) | omega)
     try simp only [Act.put, zA, zB, zC]
     refine tP 8 (.int .i64 (h : Int)) (some 166) rfl ?_ ?_
     ·intro X hX
      clear hX
      go_simp
      all_goals (first | (intro h9; exfalso; omega) | omega)
     try simp only [Act.put, zA, zB, zC]
     refine tP 9 (.pointer (some ⟨g, h * 8, none⟩)) (some 167) rfl ?_ ?_
     ·intro X hX
      clear hX
      go_simp
      all_goals (first | (intro h9; exfalso; omega) | omega)
     try simp only [Act.put, zA, zB, zC]
     refine tG 10 (.agg #[.int .i64 z.t, .int .i64 z.c, .int .i64 z.i, .int .i64 z.j, .int .i64 z.re, .int .i64 z.im, .int .i64 z.dn, .int .i64 z.n]) (some 168) (GK.grow _) rfl (YieldsIf.toG (Or.inl ⟨by rfl, ?_⟩)) (HAL.out 10) ?_
     ·intro X hX
      have hh := hX (10, g, .cells (vrc Ls).toArray 67) (List.Mem.tail _ (List.Mem.head _)) rfl
      have hh0 := (RW.cell (show RW _ g Ls from hh) HZ.out 0 _ rfl)
      simp only [Nat.add_zero] at hh0
      have hh1 := (RW.cell (show RW _ g Ls from hh) HZ.out 1 _ rfl)
      have hh2 := (RW.cell (show RW _ g Ls from hh) HZ.out 2 _ rfl)
      have hh3 := (RW.cell (show RW _ g Ls from hh) HZ.out 3 _ rfl)
      have hh4 := (RW.cell (show RW _ g Ls from hh) HZ.out 4 _ rfl)
      have hh5 := (RW.cell (show RW _ g Ls from hh) HZ.out 5 _ rfl)
      have hh6 := (RW.cell (show RW _ g Ls from hh) HZ.out 6 _ rfl)
      have hh7 := (RW.cell (show RW _ g Ls from hh) HZ.out 7 _ rfl)
      have hhl := blk_lt hh
      clear hh
      clear hX
      go_simp
      all_goals (first | (intro h9; exfalso; omega) | omega)
     try simp only [Act.put, zA, zB, zC]
     have CFn : ∀ (args : Array Value) (W : World), Sem.run Tryz.prog (callFunc 42 args) W = .ok (.enter 42 args) W := fun _ _ => by kernel_rfl
     refine tG 11 (.int .i64 q) (some 169) (GK.grow _) rfl (yieldsG_call 42 #[.agg #[.int .i64 y.t, .int .i64 y.c, .int .i64 y.i, .int .i64 y.j, .int .i64 y.re, .int .i64 y.im, .int .i64 y.dn, .int .i64 y.n], .agg #[.int .i64 z.t, .int .i64 z.c, .int .i64 z.i, .int .i64 z.j, .int .i64 z.re, .int .i64 z.im, .int .i64 z.dn, .int .i64 z.n]] (by rfl) ?_ (fun X hS => CC.out X)) (GK.drop (by simp)) ?_
     ·intro X hX
      clear hX
      go_simp
     clear CFn
     try simp only [Act.put, zA, zB, zC]
     refine tP 12 (.bool false) (some 170) rfl ?_ ?_
     ·intro X hX
      clear hX
      go_simp
      all_goals (first | (intro h9; exfalso; omega) | omega)
     try simp only [Act.put, zA, zB, zC]
     refine tP 13 (.bool true) (some 171) rfl ?_ ?_
     ·intro X hX
      clear hX
      go_simp
      all_goals (first | (intro h9; exfalso; omega) | omega)
     try simp only [Act.put, zA, zB, zC]
     clear HAL
     refine done_G (by kernel_rfl) (fun X4 hX => ?_) _
     replace NG := zh (grown_trans NG.out (grown_of_below hX _))
     replace HR := zh (RW.next HR.out hX)
     clear hX
     go_wp2_with fail
     go_roundw
     case rel => exact ⟨h + 1, j, by go_num, rfl, by omega, by omega, hjb, zh (fun _ y' z' hy' hz' => by rw [show e - (h + 1) = r9 by have := HER.out; omega, HY.out] at hy'; rw [show h + 1 - 1 = h by omega, HZ.out] at hz'; injection hy' with hy'; injection hz' with hz'; rw [← hy', ← hz']; omega), HH, HR, NG⟩
     case measure => simp [intOf]; omega
   ·obtain rfl : i = j := by omega
    obtain ⟨f, hf⟩ : ∃ f, i + f = e := ⟨e - i, by omega⟩
    obtain ⟨u, hu⟩ : ∃ u, a + u = i := ⟨i - a, by omega⟩
    obtain ⟨v, hv9⟩ : ∃ v, i + v = d := ⟨d - i, by omega⟩
    have wf : IntKind.i64.wrap ((e : Int) - (i : Int)) = (f : Int) := by rw [IntWalk.i64_in _ (by omega)]; omega
    have hul : u ≤ U.length := by have := HLU.out; omega
    have hvl : v ≤ V.length := by have := HLV.out; omega
    have hLU := HLU.out
    have hLV := HLV.out
    have PT := zh (Part.mk_ (key := vkey) HSU.out HSV.out hul hvl (fun z' y' h0 h1 h2 => by have hl := (List.getElem?_eq_some_iff.1 h2).1; have g1 := GU.out _ _ h1; have g2 := GV.out _ _ h2; exact HL.out (by omega) y' z' (by rw [show e - i = m + v by omega]; exact g2) (by rw [show i - 1 = a + (u - 1) by omega]; exact g1)) (fun z' y' h0 h1 h2 => by have hl := (List.getElem?_eq_some_iff.1 h1).1; have g1 := GU.out _ _ h1; have g2 := GV.out _ _ h2; exact HH.out (by omega) y' z' (by rw [show e - 1 - i = m + (v - 1) by omega]; exact g2) (by rw [show i = a + u by omega]; exact g1)))
    have SyBB : Hid (SyB n c a m b i d f u v P U V Q) := zh ⟨ha, hu, hv9, by omega, by omega, by omega, hul, hvl, by rw [HLS.out]; exact HN.out, hnc, hc, hb9, HV.out, HSU.out, HSV.out, PT.out, by omega, by omega, by omega⟩
    have HRA : Hid (RW wr g (P ++ U ++ V ++ Q)) := zh (by rw [HLS.out]; exact HR.out)
    have ARI : Hid (a + u = i ∧ i + v = d ∧ i + f = e ∧ d + m = e ∧ d < b ∧ a < d) := zh (by omega)
    clear HR GU GV GB HL HH HLS HN PT HSU HSV HV hf hu hv9 hul hvl hLU hLV k1 k2 k3 k4 k5 k6 k7 hE hD hPP K HD HE hP9
    go_upto_region 39 with fail
    by_cases cA : i < m
    ·by_cases cB : m < f
     ·by_cases cC : a < i
      ·by_cases cD : f < b
       ·have dA : decide ((i : Int) < (m : Int)) = true := decide_eq_true (by omega)
        have dB : decide ((m : Int) < (f : Int)) = true := decide_eq_true (by omega)
        have dC : decide ((a : Int) < (i : Int)) = true := decide_eq_true (by omega)
        have dD : decide ((f : Int) < (b : Int)) = true := decide_eq_true (by omega)
        have dB2 : decide ((i : Int) < (d : Int)) = true := decide_eq_true (by have := ARI.out; omega)
        have dA2 : decide ((d : Int) < (f : Int)) = true := decide_eq_true (by have := ARI.out; omega)
        have cB2 : i < d := by have := ARI.out; omega
        have cA2 : d < f := by have := ARI.out; omega
        clear ARI
        go_wp2_with fail
        refine (SyBB.out.rot cA cB HRA.out).mono ?_
        rintro e9 w7 ⟨⟨v7, rfl⟩, hg, hr⟩
        have HR2 := zh hr
        replace NG := zh (grown_trans NG.out hg)
        clear hr hg HRA
        go_wp2_with fail
        refine (SyBB.out.sub1 IH.out hN cC cB2 HR2.out).mono ?_
        rintro e9 w9 ⟨⟨v9, rfl⟩, hg, S1, hr⟩
        have HR3 := zh hr
        replace NG := zh (grown_trans NG.out hg)
        clear hr hg HR2
        go_wp2_with fail
        refine (SyBB.out.sub2 IH.out hN cA2 cD HR3.out).mono ?_
        rintro e9 w10 ⟨⟨v10, rfl⟩, hg, hr⟩
        have HR4 := zh hr
        replace NG := zh (grown_trans NG.out hg)
        clear hr hg HR3
        go_wp2_with fail
        go_end0
        exact ⟨⟨_, rfl⟩, NG.out, HR4.out⟩
       ·have dA : decide ((i : Int) < (m : Int)) = true := decide_eq_true (by omega)
        have dB : decide ((m : Int) < (f : Int)) = true := decide_eq_true (by omega)
        have dC : decide ((a : Int) < (i : Int)) = true := decide_eq_true (by omega)
        have dD : decide ((f : Int) < (b : Int)) = false := decide_eq_false (by omega)
        have dB2 : decide ((i : Int) < (d : Int)) = true := decide_eq_true (by have := ARI.out; omega)
        have dA2 : decide ((d : Int) < (f : Int)) = true := decide_eq_true (by have := ARI.out; omega)
        have cB2 : i < d := by have := ARI.out; omega
        have cA2 : d < f := by have := ARI.out; omega
        clear ARI
        go_wp2_with fail
        refine (SyBB.out.rot cA cB HRA.out).mono ?_
        rintro e9 w7 ⟨⟨v7, rfl⟩, hg, hr⟩
        have HR2 := zh hr
        replace NG := zh (grown_trans NG.out hg)
        clear hr hg HRA
        go_wp2_with fail
        refine (SyBB.out.sub1 IH.out hN cC cB2 HR2.out).mono ?_
        rintro e9 w9 ⟨⟨v9, rfl⟩, hg, S1, hr⟩
        have HR3 := zh hr
        replace NG := zh (grown_trans NG.out hg)
        clear hr hg HR2
        go_wp2_with fail
        have HR4 := zh (SyBB.out.nosub2 (by omega) HR3.out)
        clear HR3
        go_end0
        exact ⟨⟨_, rfl⟩, NG.out, HR4.out⟩
      ·by_cases cD : f < b
       ·have dA : decide ((i : Int) < (m : Int)) = true := decide_eq_true (by omega)
        have dB : decide ((m : Int) < (f : Int)) = true := decide_eq_true (by omega)
        have dC : decide ((a : Int) < (i : Int)) = false := decide_eq_false (by omega)
        have dD : decide ((f : Int) < (b : Int)) = true := decide_eq_true (by omega)
        have dB2 : decide ((i : Int) < (d : Int)) = true := decide_eq_true (by have := ARI.out; omega)
        have dA2 : decide ((d : Int) < (f : Int)) = true := decide_eq_true (by have := ARI.out; omega)
        have cB2 : i < d := by have := ARI.out; omega
        have cA2 : d < f := by have := ARI.out; omega
        clear ARI
        go_wp2_with fail
        refine (SyBB.out.rot cA cB HRA.out).mono ?_
        rintro e9 w7 ⟨⟨v7, rfl⟩, hg, hr⟩
        have HR2 := zh hr
        replace NG := zh (grown_trans NG.out hg)
        clear hr hg HRA
        go_wp2_with fail
        obtain ⟨S1, hr⟩ := SyBB.out.nosub1 (by omega) HR2.out
        have HR3 := zh hr
        clear hr HR2
        refine (SyBB.out.sub2 IH.out hN cA2 cD HR3.out).mono ?_
        rintro e9 w10 ⟨⟨v10, rfl⟩, hg, hr⟩
        have HR4 := zh hr
        replace NG := zh (grown_trans NG.out hg)
        clear hr hg HR3
        go_wp2_with fail
        go_end0
        exact ⟨⟨_, rfl⟩, NG.out, HR4.out⟩
       ·have dA : decide ((i : Int) < (m : Int)) = true := decide_eq_true (by omega)
        have dB : decide ((m : Int) < (f : Int)) = true := decide_eq_true (by omega)
        have dC : decide ((a : Int) < (i : Int)) = false := decide_eq_false (by omega)
        have dD : decide ((f : Int) < (b : Int)) = false := decide_eq_false (by omega)
        have dB2 : decide ((i : Int) < (d : Int)) = true := decide_eq_true (by have := ARI.out; omega)
        have dA2 : decide ((d : Int) < (f : Int)) = true := decide_eq_true (by have := ARI.out; omega)
        have cB2 : i < d := by have := ARI.out; omega
        have cA2 : d < f := by have := ARI.out; omega
        clear ARI
        go_wp2_with fail
        refine (SyBB.out.rot cA cB HRA.out).mono ?_
        rintro e9 w7 ⟨⟨v7, rfl⟩, hg, hr⟩
        have HR2 := zh hr
        replace NG := zh (grown_trans NG.out hg)
        clear hr hg HRA
        go_wp2_with fail
        obtain ⟨S1, hr⟩ := SyBB.out.nosub1 (by omega) HR2.out
        have HR3 := zh hr
        clear hr HR2
        have HR4 := zh (SyBB.out.nosub2 (by omega) HR3.out)
        clear HR3
        go_end0
        exact ⟨⟨_, rfl⟩, NG.out, HR4.out⟩
     ·by_cases cC : a < i
      ·by_cases cD : f < b
       ·have dA : decide ((i : Int) < (m : Int)) = true := decide_eq_true (by omega)
        have dB : decide ((m : Int) < (f : Int)) = false := decide_eq_false (by omega)
        have dC : decide ((a : Int) < (i : Int)) = true := decide_eq_true (by omega)
        have dD : decide ((f : Int) < (b : Int)) = true := decide_eq_true (by omega)
        have dB2 : decide ((i : Int) < (d : Int)) = false := decide_eq_false (by have := ARI.out; omega)
        have dA2 : decide ((d : Int) < (f : Int)) = true := decide_eq_true (by have := ARI.out; omega)
        have cB2 : ¬ i < d := by have := ARI.out; omega
        have cA2 : d < f := by have := ARI.out; omega
        clear ARI
        go_wp2_with fail
        have HR2 := zh (SyBB.out.norot (by omega) HRA.out)
        clear HRA
        obtain ⟨S1, hr⟩ := SyBB.out.nosub1 (by omega) HR2.out
        have HR3 := zh hr
        clear hr HR2
        refine (SyBB.out.sub2 IH.out hN cA2 cD HR3.out).mono ?_
        rintro e9 w10 ⟨⟨v10, rfl⟩, hg, hr⟩
        have HR4 := zh hr
        replace NG := zh (grown_trans NG.out hg)
        clear hr hg HR3
        go_wp2_with fail
        go_end0
        exact ⟨⟨_, rfl⟩, NG.out, HR4.out⟩
       ·have dA : decide ((i : Int) < (m : Int)) = true := decide_eq_true (by omega)
        have dB : decide ((m : Int) < (f : Int)) = false := decide_eq_false (by omega)
        have dC : decide ((a : Int) < (i : Int)) = true := decide_eq_true (by omega)
        have dD : decide ((f : Int) < (b : Int)) = false := decide_eq_false (by omega)
        have dB2 : decide ((i : Int) < (d : Int)) = false := decide_eq_false (by have := ARI.out; omega)
        have dA2 : decide ((d : Int) < (f : Int)) = true := decide_eq_true (by have := ARI.out; omega)
        have cB2 : ¬ i < d := by have := ARI.out; omega
        have cA2 : d < f := by have := ARI.out; omega
        clear ARI
        go_wp2_with fail
        have HR2 := zh (SyBB.out.norot (by omega) HRA.out)
        clear HRA
        obtain ⟨S1, hr⟩ := SyBB.out.nosub1 (by omega) HR2.out
        have HR3 := zh hr
        clear hr HR2
        have HR4 := zh (SyBB.out.nosub2 (by omega) HR3.out)
        clear HR3
        go_end0
        exact ⟨⟨_, rfl⟩, NG.out, HR4.out⟩
      ·by_cases cD : f < b
       ·have dA : decide ((i : Int) < (m : Int)) = true := decide_eq_true (by omega)
        have dB : decide ((m : Int) < (f : Int)) = false := decide_eq_false (by omega)
        have dC : decide ((a : Int) < (i : Int)) = false := decide_eq_false (by omega)
        have dD : decide ((f : Int) < (b : Int)) = true := decide_eq_true (by omega)
        have dB2 : decide ((i : Int) < (d : Int)) = false := decide_eq_false (by have := ARI.out; omega)
        have dA2 : decide ((d : Int) < (f : Int)) = true := decide_eq_true (by have := ARI.out; omega)
        have cB2 : ¬ i < d := by have := ARI.out; omega
        have cA2 : d < f := by have := ARI.out; omega
        clear ARI
        go_wp2_with fail
        have HR2 := zh (SyBB.out.norot (by omega) HRA.out)
        clear HRA
        obtain ⟨S1, hr⟩ := SyBB.out.nosub1 (by omega) HR2.out
        have HR3 := zh hr
        clear hr HR2
        refine (SyBB.out.sub2 IH.out hN cA2 cD HR3.out).mono ?_
        rintro e9 w10 ⟨⟨v10, rfl⟩, hg, hr⟩
        have HR4 := zh hr
        replace NG := zh (grown_trans NG.out hg)
        clear hr hg HR3
        go_wp2_with fail
        go_end0
        exact ⟨⟨_, rfl⟩, NG.out, HR4.out⟩
       ·have dA : decide ((i : Int) < (m : Int)) = true := decide_eq_true (by omega)
        have dB : decide ((m : Int) < (f : Int)) = false := decide_eq_false (by omega)
        have dC : decide ((a : Int) < (i : Int)) = false := decide_eq_false (by omega)
        have dD : decide ((f : Int) < (b : Int)) = false := decide_eq_false (by omega)
        have dB2 : decide ((i : Int) < (d : Int)) = false := decide_eq_false (by have := ARI.out; omega)
        have dA2 : decide ((d : Int) < (f : Int)) = true := decide_eq_true (by have := ARI.out; omega)
        have cB2 : ¬ i < d := by have := ARI.out; omega
        have cA2 : d < f := by have := ARI.out; omega
        clear ARI
        go_wp2_with fail
        have HR2 := zh (SyBB.out.norot (by omega) HRA.out)
        clear HRA
        obtain ⟨S1, hr⟩ := SyBB.out.nosub1 (by omega) HR2.out
        have HR3 := zh hr
        clear hr HR2
        have HR4 := zh (SyBB.out.nosub2 (by omega) HR3.out)
        clear HR3
        go_end0
        exact ⟨⟨_, rfl⟩, NG.out, HR4.out⟩
    ·by_cases cB : m < f
     ·by_cases cC : a < i
      ·by_cases cD : f < b
       ·have dA : decide ((i : Int) < (m : Int)) = false := decide_eq_false (by omega)
        have dB : decide ((m : Int) < (f : Int)) = true := decide_eq_true (by omega)
        have dC : decide ((a : Int) < (i : Int)) = true := decide_eq_true (by omega)
        have dD : decide ((f : Int) < (b : Int)) = true := decide_eq_true (by omega)
        have dB2 : decide ((i : Int) < (d : Int)) = true := decide_eq_true (by have := ARI.out; omega)
        have dA2 : decide ((d : Int) < (f : Int)) = false := decide_eq_false (by have := ARI.out; omega)
        have cB2 : i < d := by have := ARI.out; omega
        have cA2 : ¬ d < f := by have := ARI.out; omega
        clear ARI
        go_wp2_with fail
        have HR2 := zh (SyBB.out.norot (by omega) HRA.out)
        clear HRA
        refine (SyBB.out.sub1 IH.out hN cC cB2 HR2.out).mono ?_
        rintro e9 w9 ⟨⟨v9, rfl⟩, hg, S1, hr⟩
        have HR3 := zh hr
        replace NG := zh (grown_trans NG.out hg)
        clear hr hg HR2
        go_wp2_with fail
        have HR4 := zh (SyBB.out.nosub2 (by omega) HR3.out)
        clear HR3
        go_end0
        exact ⟨⟨_, rfl⟩, NG.out, HR4.out⟩
       ·have dA : decide ((i : Int) < (m : Int)) = false := decide_eq_false (by omega)
        have dB : decide ((m : Int) < (f : Int)) = true := decide_eq_true (by omega)
        have dC : decide ((a : Int) < (i : Int)) = true := decide_eq_true (by omega)
        have dD : decide ((f : Int) < (b : Int)) = false := decide_eq_false (by omega)
        have dB2 : decide ((i : Int) < (d : Int)) = true := decide_eq_true (by have := ARI.out; omega)
        have dA2 : decide ((d : Int) < (f : Int)) = false := decide_eq_false (by have := ARI.out; omega)
        have cB2 : i < d := by have := ARI.out; omega
        have cA2 : ¬ d < f := by have := ARI.out; omega
        clear ARI
        go_wp2_with fail
        have HR2 := zh (SyBB.out.norot (by omega) HRA.out)
        clear HRA
        refine (SyBB.out.sub1 IH.out hN cC cB2 HR2.out).mono ?_
        rintro e9 w9 ⟨⟨v9, rfl⟩, hg, S1, hr⟩
        have HR3 := zh hr
        replace NG := zh (grown_trans NG.out hg)
        clear hr hg HR2
        go_wp2_with fail
        have HR4 := zh (SyBB.out.nosub2 (by omega) HR3.out)
        clear HR3
        go_end0
        exact ⟨⟨_, rfl⟩, NG.out, HR4.out⟩
      ·by_cases cD : f < b
       ·have dA : decide ((i : Int) < (m : Int)) = false := decide_eq_false (by omega)
        have dB : decide ((m : Int) < (f : Int)) = true := decide_eq_true (by omega)
        have dC : decide ((a : Int) < (i : Int)) = false := decide_eq_false (by omega)
        have dD : decide ((f : Int) < (b : Int)) = true := decide_eq_true (by omega)
        have dB2 : decide ((i : Int) < (d : Int)) = true := decide_eq_true (by have := ARI.out; omega)
        have dA2 : decide ((d : Int) < (f : Int)) = false := decide_eq_false (by have := ARI.out; omega)
        have cB2 : i < d := by have := ARI.out; omega
        have cA2 : ¬ d < f := by have := ARI.out; omega
        clear ARI
        go_wp2_with fail
        have HR2 := zh (SyBB.out.norot (by omega) HRA.out)
        clear HRA
        obtain ⟨S1, hr⟩ := SyBB.out.nosub1 (by omega) HR2.out
        have HR3 := zh hr
        clear hr HR2
        have HR4 := zh (SyBB.out.nosub2 (by omega) HR3.out)
        clear HR3
        go_end0
        exact ⟨⟨_, rfl⟩, NG.out, HR4.out⟩
       ·have dA : decide ((i : Int) < (m : Int)) = false := decide_eq_false (by omega)
        have dB : decide ((m : Int) < (f : Int)) = true := decide_eq_true (by omega)
        have dC : decide ((a : Int) < (i : Int)) = false := decide_eq_false (by omega)
        have dD : decide ((f : Int) < (b : Int)) = false := decide_eq_false (by omega)
        have dB2 : decide ((i : Int) < (d : Int)) = true := decide_eq_true (by have := ARI.out; omega)
        have dA2 : decide ((d : Int) < (f : Int)) = false := decide_eq_false (by have := ARI.out; omega)
        have cB2 : i < d := by have := ARI.out; omega
        have cA2 : ¬ d < f := by have := ARI.out; omega
        clear ARI
        go_wp2_with fail
        have HR2 := zh (SyBB.out.norot (by omega) HRA.out)
        clear HRA
        obtain ⟨S1, hr⟩ := SyBB.out.nosub1 (by omega) HR2.out
        have HR3 := zh hr
        clear hr HR2
        have HR4 := zh (SyBB.out.nosub2 (by omega) HR3.out)
        clear HR3
        go_end0
        exact ⟨⟨_, rfl⟩, NG.out, HR4.out⟩
     ·by_cases cC : a < i
      ·by_cases cD : f < b
       ·have dA : decide ((i : Int) < (m : Int)) = false := decide_eq_false (by omega)
        have dB : decide ((m : Int) < (f : Int)) = false := decide_eq_false (by omega)
        have dC : decide ((a : Int) < (i : Int)) = true := decide_eq_true (by omega)
        have dD : decide ((f : Int) < (b : Int)) = true := decide_eq_true (by omega)
        have dB2 : decide ((i : Int) < (d : Int)) = false := decide_eq_false (by have := ARI.out; omega)
        have dA2 : decide ((d : Int) < (f : Int)) = false := decide_eq_false (by have := ARI.out; omega)
        have cB2 : ¬ i < d := by have := ARI.out; omega
        have cA2 : ¬ d < f := by have := ARI.out; omega
        clear ARI
        go_wp2_with fail
        have HR2 := zh (SyBB.out.norot (by omega) HRA.out)
        clear HRA
        obtain ⟨S1, hr⟩ := SyBB.out.nosub1 (by omega) HR2.out
        have HR3 := zh hr
        clear hr HR2
        have HR4 := zh (SyBB.out.nosub2 (by omega) HR3.out)
        clear HR3
        go_end0
        exact ⟨⟨_, rfl⟩, NG.out, HR4.out⟩
       ·have dA : decide ((i : Int) < (m : Int)) = false := decide_eq_false (by omega)
        have dB : decide ((m : Int) < (f : Int)) = false := decide_eq_false (by omega)
        have dC : decide ((a : Int) < (i : Int)) = true := decide_eq_true (by omega)
        have dD : decide ((f : Int) < (b : Int)) = false := decide_eq_false (by omega)
        have dB2 : decide ((i : Int) < (d : Int)) = false := decide_eq_false (by have := ARI.out; omega)
        have dA2 : decide ((d : Int) < (f : Int)) = false := decide_eq_false (by have := ARI.out; omega)
        have cB2 : ¬ i < d := by have := ARI.out; omega
        have cA2 : ¬ d < f := by have := ARI.out; omega
        clear ARI
        go_wp2_with fail
        have HR2 := zh (SyBB.out.norot (by omega) HRA.out)
        clear HRA
        obtain ⟨S1, hr⟩ := SyBB.out.nosub1 (by omega) HR2.out
        have HR3 := zh hr
        clear hr HR2
        have HR4 := zh (SyBB.out.nosub2 (by omega) HR3.out)
        clear HR3
        go_end0
        exact ⟨⟨_, rfl⟩, NG.out, HR4.out⟩
      ·by_cases cD : f < b
       ·have dA : decide ((i : Int) < (m : Int)) = false := decide_eq_false (by omega)
        have dB : decide ((m : Int) < (f : Int)) = false := decide_eq_false (by omega)
        have dC : decide ((a : Int) < (i : Int)) = false := decide_eq_false (by omega)
        have dD : decide ((f : Int) < (b : Int)) = true := decide_eq_true (by omega)
        have dB2 : decide ((i : Int) < (d : Int)) = false := decide_eq_false (by have := ARI.out; omega)
        have dA2 : decide ((d : Int) < (f : Int)) = false := decide_eq_false (by have := ARI.out; omega)
        have cB2 : ¬ i < d := by have := ARI.out; omega
        have cA2 : ¬ d < f := by have := ARI.out; omega
        clear ARI
        go_wp2_with fail
        have HR2 := zh (SyBB.out.norot (by omega) HRA.out)
        clear HRA
        obtain ⟨S1, hr⟩ := SyBB.out.nosub1 (by omega) HR2.out
        have HR3 := zh hr
        clear hr HR2
        have HR4 := zh (SyBB.out.nosub2 (by omega) HR3.out)
        clear HR3
        go_end0
        exact ⟨⟨_, rfl⟩, NG.out, HR4.out⟩
       ·have dA : decide ((i : Int) < (m : Int)) = false := decide_eq_false (by omega)
        have dB : decide ((m : Int) < (f : Int)) = false := decide_eq_false (by omega)
        have dC : decide ((a : Int) < (i : Int)) = false := decide_eq_false (by omega)
        have dD : decide ((f : Int) < (b : Int)) = false := decide_eq_false (by omega)
        have dB2 : decide ((i : Int) < (d : Int)) = false := decide_eq_false (by have := ARI.out; omega)
        have dA2 : decide ((d : Int) < (f : Int)) = false := decide_eq_false (by have := ARI.out; omega)
        have cB2 : ¬ i < d := by have := ARI.out; omega
        have cA2 : ¬ d < f := by have := ARI.out; omega
        clear ARI
        go_wp2_with fail
        have HR2 := zh (SyBB.out.norot (by omega) HRA.out)
        clear HRA
        obtain ⟨S1, hr⟩ := SyBB.out.nosub1 (by omega) HR2.out
        have HR3 := zh hr
        clear hr HR2
        have HR4 := zh (SyBB.out.nosub2 (by omega) HR3.out)
        clear HR3
        go_end0
        exact ⟨⟨_, rfl⟩, NG.out, HR4.out⟩
theorem sym_calls : ∀ N : Nat, SymP N
 | 0 => by
  intro g n c a m b P U V Q w h0 _ _ _ _ _ _ _ _ h1
  omega
 | N + 1 => by
  intro g n c a m b P U V Q w h0 hn hx hnc hc hb9 ha hm hb hU hV hv hsU hsV
  by_cases h1 : U.length = 1
  ·obtain ⟨x, rfl⟩ := List.length_eq_one_iff.1 h1
   exact sym_one hn hx hnc hc hb9 ha (by simpa using hm) hb hV (fun r hr => hv r (List.mem_append_right _ hr)) (hv x (by simp)) hsV
  ·by_cases h2 : V.length = 1
   ·obtain ⟨x, rfl⟩ := List.length_eq_one_iff.1 h2
    exact sym_last hn hx hnc hc hb9 ha hm (by simpa using hb) (by omega) (fun r hr => hv r (List.mem_append_left _ hr)) (hv x (by simp)) hsU
   ·exact sym_gen (sym_calls N) h0 hn hx hnc hc hb9 ha hm hb (by omega) (by omega) hv hsU hsV
end Go.Proofs.YtbbnkclajpaghaaGreatDoor
