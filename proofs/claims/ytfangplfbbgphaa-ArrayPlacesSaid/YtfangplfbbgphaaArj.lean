/- Contracts of layer 4: vectors of the program: checks, lists, differences. -/
import Derived.Test.YtfangplfbbgphaaAri
import Derived.Test.YtfangplfbbgphaaFse
namespace Go.Proofs.Ytfangplfbbgphaa
open Go.ChangeShapes Go.WideShapes Go.ChangeAt Go.RowKit
set_option linter.unusedVariables false
set_option linter.unusedSimpArgs false
attribute [local go_sem ↓] Go.wp_at_zero Go.wp_at_succ
def fr2 (p : Int × Int) : List Value := [.int .i64 p.1, .int .i64 p.2]
theorem fr2_len (p : Int × Int) : (fr2 p).length = 2 := rfl
def okP (p : Int × Int) : Bool := okF p.1 p.2
def allE (l : List (Int × Int)) : Int := if l.all okP then 0 else 8
def okV (v : V6) : Bool := okF v.x1 v.x2 && (okF v.y1 v.y2 && okF v.z1 v.z2)
def vE (v : V6) : Int := if okV v then 0 else 8
def vsE (l : List V6) : Int := if l.all okV then 0 else 8
theorem take_all {α : Type} {p : α → Bool} {l : List α} {k : Nat} {x : α} (hx : l[k]? = some x) (h : ∀ (j : Nat) (y : α), j < k → l[j]? = some y → p y = true) (hp : p x = true) : ∀ (j : Nat) (y : α), j < k + 1 → l[j]? = some y → p y = true := by
  intro j y hj hy
  by_cases e : j = k
  · subst e; rw [hx] at hy; cases hy; exact hp
  · exact h j y (by omega) hy
theorem all_get {α : Type} {p : α → Bool} {l : List α} (h : ∀ (j : Nat) (y : α), j < l.length → l[j]? = some y → p y = true) : l.all p = true := by
  rw [List.all_eq_true]
  intro x hx
  obtain ⟨i, hi, e⟩ := List.mem_iff_getElem.1 hx
  exact h i x hi (by rw [List.getElem?_eq_getElem hi, e])
theorem all_not {α : Type} {p : α → Bool} {l : List α} {k : Nat} {x : α} (hx : l[k]? = some x) (hp : p x = false) : l.all p = false := by
  cases h : l.all p
  · rfl
  · rw [List.all_eq_true] at h
    have := h x (List.mem_of_getElem? hx)
    rw [hp] at this; cases this

set_option maxRecDepth 100000 in
set_option maxHeartbeats 4000000 in
theorem good_calls (A : Option Addr) (c : Nat) (l : List (Int × Int)) (w : World) (hl : Rd w 2 A l.length (l.flatMap fr2)) (hc : l.length ≤ c) (hc' : c ≤ 9223372036854775807) : Calls Try.prog 70 #[.slice A l.length c] w fun e w' =>
    e = .returned (.int .i64 (allE l)) ∧ Below w.heap.size w w' := by
  have HL := Lib.hid hl
  clear hl
  have YES : Hid ((∀ (j : Nat) (y : (Int × Int)), j < l.length → l[j]? = some y → okP y = true) → allE l = 0) := Lib.hid (fun h => by unfold allE; rw [if_pos (all_get h)])
  have NO : Hid (∀ (k : Nat) (x : (Int × Int)), l[k]? = some x → okP x = false → allE l = 8) := Lib.hid (fun k x h h' => by unfold allE; rw [if_neg (by rw [all_not h h']; simp)])
  generalize allE l = v at *
  go_enter Try.func70, Try.ntmps70
  go_wp2_with fail
  go_loopw [7] (fun i wr => ∃ k : Nat, k ≤ l.length ∧ i = .int .i64 k ∧ Hid (Below w.heap.size w wr) ∧ Hid (∀ (j : Nat) (y : (Int × Int)), j < k → l[j]? = some y → okP y = true)) (fun i _ => l.length - (intOf i).toNat)
  case atStart => exact ⟨0, by omega, rfl, Lib.hid (Below.refl _ _), Lib.hid (by omega)⟩
  case round =>
    obtain ⟨k, hk, rfl, NN, GD⟩ := hrel
    by_cases hlt : k < l.length
    · obtain ⟨x, hx⟩ := get_some hlt
      obtain ⟨b, off, e, hb, hc0⟩ := Rd.rec_ HL.out (Nat.le_refl _) fr2_len hx
      subst e
      have c0 := (NN.out.cell (p := ⟨b, off + k * 2, none⟩) hb).trans (hc0 0 _ rfl)
      have c1 := (NN.out.cell (p := ⟨b, off + k * 2 + 1, none⟩) hb).trans (hc0 1 _ rfl)
      have hbr : b < wr.heap.size := Nat.lt_of_lt_of_le hb NN.out.size
      have HX := Lib.hid hx
      have kk : k + 1 ≤ l.length := hlt
      clear hc0 hx
      go_wp2_with fail
      refine (check_calls x.1 x.2 _).mono ?_
      rintro e w1 ⟨rfl, hb1⟩
      replace NN := Lib.hid (Bgo (Bal NN.out (.cells #[.int .i64 x.1, .int .i64 x.2] 34)) hb1)
      cases hp : okP x
      · have FV := Lib.hid (NO.out k x HX.out hp)
        have E : errF x.1 x.2 = 8 := by unfold errF; rw [show okF x.1 x.2 = false from hp]; rfl
        rw [E]
        clear GD YES NO HX hp E hb1 c0 c1
        go_wp2_with fail
        go_ret
        exact ⟨ret_int FV.out.symm, NN.out⟩
      · have E : errF x.1 x.2 = 0 := by unfold errF; rw [show okF x.1 x.2 = true from hp]; rfl
        have G2 := Lib.hid (take_all HX.out GD.out hp)
        rw [E]
        clear GD YES NO HX hp E hb1 c0 c1
        go_wp2_with fail
        go_roundw
        case rel => exact ⟨k + 1, kk, by go_num, NN, G2⟩
        case measure => simp [intOf]; omega
    · obtain rfl : k = l.length := by omega
      have FV := Lib.hid (YES.out GD.out)
      clear GD YES NO
      go_wp2_with fail
      go_ret
      exact ⟨ret_int FV.out.symm, NN.out⟩
set_option maxRecDepth 100000 in
set_option maxHeartbeats 4000000 in
theorem vcheck_calls (v : V6) (w : World) : Calls Try.prog 49 #[Vv v] w fun e w' => e = .returned (.int .i64 (vE v)) ∧ Below w.heap.size w w' := by
  have NN := Lib.hid (Below.refl w.heap.size w)
  have EV : Hid (allE [(v.x1, v.x2), (v.y1, v.y2), (v.z1, v.z2)] = vE v) := Lib.hid (by unfold allE vE okV; simp [okP])
  have HG := Lib.hid (fun (A : Option Addr) (W : World) (h : Rd W 2 A 3 (List.flatMap fr2 [(v.x1, v.x2), (v.y1, v.y2), (v.z1, v.z2)])) => good_calls A 3 [(v.x1, v.x2), (v.y1, v.y2), (v.z1, v.z2)] W h (Nat.le_refl _) (by decide))
  rw [EV.out] at HG
  generalize vE v = r at *
  go_enter Try.func49, Try.ntmps49
  go_wp2_with fail
  refine (HG.out _ _ (Rd.blk (T := 34) (blk_at _ (by simp)) rfl)).mono ?_
  rintro e w2 ⟨rfl, hb⟩
  replace NN := Lib.hid (Bgo (Bal (Bal NN.out (.cells #[.int .i64 v.x1, .int .i64 v.x2, .int .i64 v.y1, .int .i64 v.y2, .int .i64 v.z1, .int .i64 v.z2] 36)) (.cells #[.int .i64 v.x1, .int .i64 v.x2, .int .i64 v.y1, .int .i64 v.y2, .int .i64 v.z1, .int .i64 v.z2] 34)) hb)
  clear hb
  go_wp2_with fail
  go_ret
  exact ⟨rfl, NN.out⟩
set_option maxRecDepth 100000 in
set_option maxHeartbeats 4000000 in
theorem vectors_calls (A : Option Addr) (c : Nat) (l : List V6) (w : World) (hl : Rd w 6 A l.length (l.flatMap v6)) (hc : l.length ≤ c) (hc' : c ≤ 9223372036854775807) : Calls Try.prog 30 #[.slice A l.length c] w fun e w' =>
    e = .returned (.int .i64 (vsE l)) ∧ Below w.heap.size w w' := by
  have HL := Lib.hid hl
  clear hl
  have YES : Hid ((∀ (j : Nat) (y : V6), j < l.length → l[j]? = some y → okV y = true) → vsE l = 0) := Lib.hid (fun h => by unfold vsE; rw [if_pos (all_get h)])
  have NO : Hid (∀ (k : Nat) (x : V6), l[k]? = some x → okV x = false → vsE l = 8) := Lib.hid (fun k x h h' => by unfold vsE; rw [if_neg (by rw [all_not h h']; simp)])
  generalize vsE l = v at *
  go_enter Try.func30, Try.ntmps30
  go_wp2_with fail
  go_loopw [8] (fun i wr => ∃ k : Nat, k ≤ l.length ∧ i = .int .i64 k ∧ Hid (Below w.heap.size w wr) ∧ Hid (∀ (j : Nat) (y : V6), j < k → l[j]? = some y → okV y = true)) (fun i _ => l.length - (intOf i).toNat)
  case atStart => exact ⟨0, by omega, rfl, Lib.hid (Below.refl _ _), Lib.hid (by omega)⟩
  case round =>
    obtain ⟨k, hk, rfl, NN, GD⟩ := hrel
    by_cases hlt : k < l.length
    · obtain ⟨x, hx⟩ := get_some hlt
      obtain ⟨b, off, e, hb, hc0⟩ := Rd.rec_ HL.out (Nat.le_refl _) v6_len hx
      subst e
      have c0 := (NN.out.cell (p := ⟨b, off + k * 6, none⟩) hb).trans (hc0 0 _ rfl)
      have c1 := (NN.out.cell (p := ⟨b, off + k * 6 + 1, none⟩) hb).trans (hc0 1 _ rfl)
      have c2 := (NN.out.cell (p := ⟨b, off + k * 6 + 2, none⟩) hb).trans (hc0 2 _ rfl)
      have c3 := (NN.out.cell (p := ⟨b, off + k * 6 + 3, none⟩) hb).trans (hc0 3 _ rfl)
      have c4 := (NN.out.cell (p := ⟨b, off + k * 6 + 4, none⟩) hb).trans (hc0 4 _ rfl)
      have c5 := (NN.out.cell (p := ⟨b, off + k * 6 + 5, none⟩) hb).trans (hc0 5 _ rfl)
      have hbr : b < wr.heap.size := Nat.lt_of_lt_of_le hb NN.out.size
      have HX := Lib.hid hx
      have kk : k + 1 ≤ l.length := hlt
      clear hc0 hx
      go_wp2_with fail
      refine (vcheck_calls x _).mono ?_
      rintro e w1 ⟨rfl, hb1⟩
      replace NN := Lib.hid (Bgo (Bal NN.out (.cells #[.int .i64 x.x1, .int .i64 x.x2, .int .i64 x.y1, .int .i64 x.y2, .int .i64 x.z1, .int .i64 x.z2] 36)) hb1)
      cases hp : okV x
      · have FV := Lib.hid (NO.out k x HX.out hp)
        have E : vE x = 8 := by unfold vE; rw [show okV x = false from hp]; rfl
        rw [E]
        clear GD YES NO HX hp E hb1 c0 c1 c2 c3 c4 c5
        go_wp2_with fail
        go_ret
        exact ⟨ret_int FV.out.symm, NN.out⟩
      · have E : vE x = 0 := by unfold vE; rw [show okV x = true from hp]; rfl
        have G2 := Lib.hid (take_all HX.out GD.out hp)
        rw [E]
        clear GD YES NO HX hp E hb1 c0 c1 c2 c3 c4 c5
        go_wp2_with fail
        go_roundw
        case rel => exact ⟨k + 1, kk, by go_num, NN, G2⟩
        case measure => simp [intOf]; omega
    · obtain rfl : k = l.length := by omega
      have FV := Lib.hid (YES.out GD.out)
      clear GD YES NO
      go_wp2_with fail
      go_ret
      exact ⟨ret_int FV.out.symm, NN.out⟩
set_option maxRecDepth 100000 in
set_option maxHeartbeats 4000000 in
theorem vlist_calls (v : V6) (w : World) : Calls Try.prog 32 #[Vv v] w fun e w' => e = .returned (Vv v) ∧ Below w.heap.size w w' := by
  have NN := Lib.hid (Below.refl w.heap.size w)
  go_enter Try.func32, Try.ntmps32
  go_wp2_with fail
  have Z := blk_at (w := w.alloc (.cells #[.int .i64 v.x1, .int .i64 v.x2, .int .i64 v.y1, .int .i64 v.y2, .int .i64 v.z1, .int .i64 v.z2] 36)) (.cells #[.int .i64 v.x1, .int .i64 v.x2, .int .i64 v.y1, .int .i64 v.y2, .int .i64 v.z1, .int .i64 v.z2] 81) (show w.heap.size + 1 = _ by simp)
  have e0 := blk_cell Z 0 _ rfl
  have e1 := blk_cell Z 1 _ rfl
  have e2 := blk_cell Z 2 _ rfl
  have e3 := blk_cell Z 3 _ rfl
  have e4 := blk_cell Z 4 _ rfl
  have e5 := blk_cell Z 5 _ rfl
  exact bodyPost_ret (v := Vv v) (by simp [results, Try.results32, go_sem, e0, e1, e2, e3, e4, e5]) rfl ⟨rfl, Bal (Bal NN.out _) _⟩
end Go.Proofs.Ytfangplfbbgphaa
