/- Several texts in one. -/
import Derived.Lib.Builder
import Derived.Lib.AppendStr
import Derived.Lib.UnsafeStr
import Derived.Lib.Strings
import Derived.Lib.Walk
import Derived.WalkKit
import Derived.Laws.Externs
import Derived.Test.YtbbnkclajpaghaaGreatDoorMS00
import Derived.Test.YtbbnkclajpaghaaGreatDoorMS03
import Derived.Test.YtbbnkclajpaghaaGreatDoorMS04
import Derived.Test.YtbbnkclajpaghaaGreatDoorMS05
import Derived.Test.YtbbnkclajpaghaaGreatDoorMS06
namespace Go.Proofs.YtbbnkclajpaghaaGreatDoor
open Go.ChangeShapes Go.WideShapes Go.ChangeAt Go.RowKit
set_option linter.unusedVariables false
set_option linter.unusedSimpArgs false
attribute [local go_sem ↓] Go.wp_at_zero Go.wp_at_succ
def txE (t : List Vr) : Int := if chkE t ≠ 0 then chkE t else if 20000 < (txT t).length then 4 else 0
def txO (t : List Vr) : List UInt8 := if txE t = 0 then txT t else []
theorem txT_snoc (t : List Vr) (r : Vr) : txT (t ++ [r]) = txT t ++ (lnL r ++ [10]) := by simp [txT]
theorem txT_take {t : List Vr} {k : Nat} {r : Vr} (h : t[k]? = some r) : txT (t.take (k + 1)) = txT (t.take k) ++ (lnL r ++ [10]) := by
 obtain ⟨h1, h2⟩ := List.getElem?_eq_some_iff.1 h
 rw [← List.take_append_getElem h1, h2, txT_snoc]
theorem txT_max {t : List Vr} (h : ∀ r ∈ t, rowB r = true) : (txT t).length ≤ t.length * 201 := by
 induction t with
 | nil => exact Nat.zero_le _
 | cons r t ih =>
  have h1 := lnL_len (h r (List.mem_cons_self ..))
  have h2 := ih fun x hx => h x (List.mem_cons_of_mem _ hx)
  rw [txT_cons, List.length_append, List.length_cons, List.length_cons]; omega
set_option maxRecDepth 100000 in
set_option maxHeartbeats 8000000 in
theorem rtxt_calls {A : Option Addr} {c : Nat} {l : List Vr} {w : World} (hl : RT w A l) (hc : l.length ≤ c) (hc' : c ≤ 9223372036854775807) : Calls Tryz.prog 10 #[.slice A l.length c] w fun e w' => e = .returned (.tuple #[Str (txO l), .int .i64 (txE l)]) ∧ Below w.heap.size w w' := by
 have NN := Lib.hid (Below.refl w.heap.size w)
 have HL := Lib.hid hl
 have CK := Lib.hid (fun (W : World) (hb : Below w.heap.size w W) => refchk_calls (HL.out.next hb) hc hc')
 clear hl
 by_cases hp : chkE l = 0
 rotate_left
 ·have q1 : (chkE l != 0) = true := by rw [bne_iff_ne]; exact hp
  have E1 : txE l = chkE l := by unfold txE; rw [if_pos hp]
  have E2 : txO l = [] := by unfold txO; rw [if_neg (by rw [E1]; exact hp)]
  rw [E1, E2]
  clear E1 E2 hp HL
  generalize chkE l = pe at *
  go_enter Tryz.func10, Tryz.ntmps10
  go_wp2_with fail
  refine (CK.out _ NN.out).mono ?_
  rintro e w1 ⟨rfl, hb⟩
  replace NN := Lib.hid (Bgo NN.out hb)
  clear hb
  go_wp2_with fail
  refine (CK.out _ NN.out).mono ?_
  rintro e w2 ⟨rfl, hb⟩
  replace NN := Lib.hid (Bgo NN.out hb)
  clear hb
  go_wp2_with fail
  exact bodyPost_ret (v := .tuple #[Str [], .int .i64 pe]) (by simp [results, Tryz.results10, go_sem]) rfl ⟨rfl, NN.out⟩
 have RW := Lib.hid (chk_rows hp)
 rw [hp] at CK
 go_enter Tryz.func10, Tryz.ntmps10
 go_wp2_with fail
 refine (CK.out _ NN.out).mono ?_
 rintro e w1 ⟨rfl, hb⟩
 replace NN := Lib.hid (Bgo NN.out hb)
 clear hb
 go_wp2_with fail
 go_loopw [4, 5] (fun v i wr => ∃ k : Nat, k ≤ l.length ∧ i = .int .i64 k ∧ v = Str (txT (l.take k)) ∧ Hid (Below w.heap.size w wr)) (fun v i _ => l.length - (intOf i).toNat)
 case atStart => exact ⟨0, by omega, rfl, rfl, NN⟩
 case round =>
  clear NN
  obtain ⟨k, hk, rfl, rfl, NN⟩ := hrel
  by_cases hlt : k < l.length
  ·obtain ⟨r, hr⟩ : ∃ r, l[k]? = some r := ⟨_, List.getElem?_eq_getElem hlt⟩
   have RB : Hid (rowB r = true) := Lib.hid (RW.out.2 r (List.mem_of_getElem? hr))
   have TK := Lib.hid (txT_take hr)
   have B1 := Lib.hid (lnL_len RB.out)
   have kk : k + 1 ≤ l.length := hlt
   have k1 : (k : Int) < (l.length : Int) := by omega
   have B2 : Hid ((txT (l.take k)).length ≤ 40200) := Lib.hid (by have h1 := txT_max (t := l.take k) (fun x hx => RW.out.2 x (List.mem_of_mem_take hx)); have h2 := RW.out.1; rw [List.length_take] at h1; omega)
   obtain ⟨b, off, e0, hb0, h8⟩ := HL.out.at_ hlt
   rw [(List.getElem?_eq_some_iff.1 hr).2] at h8
   subst e0
   obtain ⟨a0, a1, a2, a3, a4, a5, a6, a7⟩ := h8
   have c0 := (NN.out.cell (p := ⟨b, off + k * 8, none⟩) hb0).trans a0
   have c1 := (NN.out.cell (p := ⟨b, off + k * 8 + 1, none⟩) hb0).trans a1
   have c2 := (NN.out.cell (p := ⟨b, off + k * 8 + 2, none⟩) hb0).trans a2
   have c3 := (NN.out.cell (p := ⟨b, off + k * 8 + 3, none⟩) hb0).trans a3
   have c4 := (NN.out.cell (p := ⟨b, off + k * 8 + 4, none⟩) hb0).trans a4
   have c5 := (NN.out.cell (p := ⟨b, off + k * 8 + 5, none⟩) hb0).trans a5
   have c6 := (NN.out.cell (p := ⟨b, off + k * 8 + 6, none⟩) hb0).trans a6
   have c7 := (NN.out.cell (p := ⟨b, off + k * 8 + 7, none⟩) hb0).trans a7
   have lb := Nat.lt_of_lt_of_le hb0 NN.out.size
   clear a0 a1 a2 a3 a4 a5 a6 a7 hr
   go_wp2_with fail
   clear c0 c1 c2 c3 c4 c5 c6 c7 lb
   refine (rline_calls RB.out _).mono ?_
   rintro e w2 ⟨rfl, hb⟩
   replace NN := Lib.hid (Bgo NN.out hb)
   clear hb
   generalize hs : txT (l.take k) = s at *
   generalize ht : lnL r ++ [10] = t at *
   have LT : t.length ≤ 201 := by rw [← ht, List.length_append]; exact Nat.succ_le_succ B1.out
   have LS := B2.out
   clear hs ht
   go_wp2_with fail
   go_roundw
   case rel => exact ⟨k + 1, kk, by go_num, by rw [TK.out, cat2], NN⟩
   case measure => simp [intOf]; omega
  ·obtain rfl : k = l.length := by omega
   rw [List.take_length]
   clear hlt hk
   by_cases hL : 20000 < (txT l).length
   ·have d2 : decide ((20000 : Int) < ((txT l).length : Int)) = true := decide_eq_true (by omega)
    have E1 : txE l = 4 := by unfold txE; rw [if_neg (by rw [hp]; simp), if_pos hL]
    have E2 : txO l = [] := by unfold txO; rw [E1]; rfl
    replace E1 := Lib.hid E1
    replace E2 := Lib.hid E2
    clear hL
    generalize txT l = s at *
    go_wp2_with fail
    exact bodyPost_ret (v := .tuple #[Str [], .int .i64 4]) (by simp [results, Tryz.results10, go_sem]) rfl ⟨by rw [E1.out, E2.out], NN.out⟩
   ·have d2 : decide ((20000 : Int) < ((txT l).length : Int)) = false := decide_eq_false (by omega)
    have E1 : txE l = 0 := by unfold txE; rw [if_neg (by rw [hp]; simp), if_neg hL]
    have E2 : txO l = txT l := by unfold txO; rw [if_pos E1]
    replace E1 := Lib.hid E1
    replace E2 := Lib.hid E2
    clear hL
    generalize txT l = s at *
    go_wp2_with fail
    exact bodyPost_ret (v := .tuple #[Str s, .int .i64 0]) (by simp [results, Tryz.results10, go_sem]) rfl ⟨by rw [E1.out, E2.out], NN.out⟩
end Go.Proofs.YtbbnkclajpaghaaGreatDoor
namespace Go.Proofs.YtbbnkclajpaghaaGreatDoor
open Go Go.RowKit
set_option linter.unusedVariables false
theorem own_keeps {B : Nat} {w w' : World} {e : TypeId} {sz n : Nat} {v : Value} {xs : List Value} (h : w.ownsRow B e sz v n xs) (hg : w.grownBy w' v.ownBlock) : KeepsOthers w w' := by
 refine KeepsOthers.of_grownBy hg fun j o e hj => ?_
 rcases h.2 with ⟨h5, _⟩ | ⟨g, cap', cur, hv, hb, h3, _⟩
 ·rw [h5] at e; cases e
 ·rw [hv] at e
  simp [Value.ownBlock] at e
  subst e
  rw [h3] at hj
  cases hj
  rfl
theorem sb_size : (Tryz.prog.info? 63).map (·.size) = some 2 := by kernel_rfl
theorem sb_lies : liesAt Tryz.prog Tryz.prog.depth 63 (2 / Tryz.prog.cellsOf 63) 0 63 1 = true := by kernel_rfl
theorem sb_byte : (Tryz.prog.info? 5).map (fun i => (i.zero, i.size, i.bytes)) = some (some (.int .u8 0), 1, 1) := by kernel_rfl
set_option maxHeartbeats 1000000 in
set_option maxRecDepth 100000 in
theorem sb_used (b : Nat) (w : World) (h0 : w.cell? ⟨b, 0, none⟩ = some (.pointer (some ⟨b, 0, none⟩))) :
  Calls Tryz.prog 55 #[.pointer (some ⟨b, 0, none⟩)] w fun e w' => e = .returned (.tuple #[]) ∧ w' = w := by
 obtain ⟨j, hj, _⟩ := Option.map_eq_some_iff.1 sb_size
 go_enter Tryz.func55, Tryz.ntmps55
 go_wp2
 rw [Lib.run_neq_ptr_same w _ Tryz.underlying60 hj]
 go_wp2
 go_end0
 exact ⟨rfl, rfl⟩
set_option maxHeartbeats 1000000 in
set_option maxRecDepth 100000 in
theorem sb_fresh (b : Nat) (w : World) (h0 : w.cell? ⟨b, 0, none⟩ = some (.pointer none)) (hsh : w.shape? b = some (63, 2)) (hfz : w.frozen? ⟨b, 0, none⟩ = false) :
  Calls Tryz.prog 55 #[.pointer (some ⟨b, 0, none⟩)] w fun e w' => e = .returned (.tuple #[]) ∧ w' = w.setCell ⟨b, 0, none⟩ (.pointer (some ⟨b, 0, none⟩)) := by
 obtain ⟨j, hj, hjs⟩ := Option.map_eq_some_iff.1 sb_size
 go_enter Tryz.func55, Tryz.ntmps55
 go_wp2
 rw [Lib.run_to_unsafe w ⟨b, 0, none⟩ Tryz.underlying60 Tryz.underlying136 hj (by rw [hjs]; decide) hsh (Nat.zero_lt_succ 1)]
 simp only [Result.andThen]
 rw [Oper.upon_value]
 go_wp2
 rw [run_callFunc_extern Tryz.func83 (by kernel_rfl) (by kernel_rfl) (by kernel_rfl) (e := Extern.AbiNoEscape.same) (by kernel_rfl)]
 rw [Lib.run_noEscape]
 simp only [Result.andThen]
 rw [Oper.upon_value]
 go_wp2
 rw [Lib.run_from_unsafe w ⟨b, 0, none⟩ Tryz.underlying136 Tryz.underlying60 hj hsh sb_lies]
 simp only [Result.andThen]
 rw [Oper.upon_value]
 go_wp2
 go_end0
 exact ⟨rfl, rfl⟩
abbrev SB (B b : Nat) (bs : List Value) (w : World) : Prop := Lib.IsBuilder 63 5 B b bs w
abbrev SBU (B b : Nat) (bs : List Value) (w : World) : Prop := Lib.BuilderAt 63 5 B b (.pointer (some ⟨b, 0, none⟩)) bs w
theorem sb_check (B b : Nat) (bs : List Value) (w : World) (h : SB B b bs w) :
  Calls Tryz.prog 55 #[.pointer (some ⟨b, 0, none⟩)] w fun e w' => e = .returned (.tuple #[]) ∧ SBU B b bs w' ∧ Below B w w' ∧ KeepsOthers w w' := by
 rcases h with h | h
 ·refine (sb_fresh b w h.cell0 h.shape h.frozen0).mono ?_
  rintro e w' ⟨rfl, rfl⟩
  exact ⟨rfl, h.used _, (Below.refl B w).setCell (p := ⟨b, 0, none⟩) h.1 _, KeepsOthers.setCell _ _ _⟩
 ·refine (sb_used b w h.cell0).mono ?_
  rintro e w' ⟨rfl, rfl⟩
  exact ⟨rfl, h, Below.refl B _, KeepsOthers.refl _⟩
set_option maxHeartbeats 1000000 in
set_option maxRecDepth 100000 in
theorem sb_write (B b : Nat) (bs : List Value) (s : ByteArray) (w : World) (h : SB B b bs w) (hlen : bs.length + s.size ≤ 140737488355328) (hBw : B ≤ w.heap.size) :
  Calls Tryz.prog 29 #[.pointer (some ⟨b, 0, none⟩), .string s] w fun e w' => e = .returned (.tuple #[.int .i64 s.size, .nilIface]) ∧ SBU B b (bs ++ Lib.strCells s) w' ∧ Below B w w' ∧ KeepsOthers w w' := by
 obtain ⟨i0, hi, hz0, hz1, hz2⟩ := info_parts sb_byte
 go_enter Tryz.func29, Tryz.ntmps29
 go_wp2_with fail
 refine (sb_check B b bs _ h).mono ?_
 rintro e w1 ⟨rfl, h1, hb1, hk1⟩
 obtain ⟨hB, v, hbk, hown, hne⟩ := h1
 have c0 : w1.cell? ⟨b, 0, none⟩ = some (.pointer (some ⟨b, 0, none⟩)) := by rw [Lib.cell_of_heap hbk]; rfl
 have c1 : w1.cell? ⟨b, 1, none⟩ = some v := by rw [Lib.cell_of_heap hbk]; rfl
 go_wp2_with (at_builtin; refine Lib.wpList_append_own_string _ rfl _ _ 61 9 rfl B 5 i0 Tryz.underlying61 Tryz.underlying9 hi hz0 hz1 hz2 _ _ _ rfl hown s rfl ?c3 ?c4 ?c5 ?_)
 case c3 => unfold maxLen; omega
 case c4 => omega
 case c5 => have := hb1.size; omega
 intro v' w2 hown' hgrow _
 have hk2 := own_keeps hown hgrow
 have hlt : b < w1.heap.size := by
  rcases Nat.lt_or_ge b w1.heap.size with h' | h'
  ·exact h'
  ·simp [Array.getElem?_eq_none h'] at hbk
 have hb2 : w2.heap[b]? = some (.cells #[.pointer (some ⟨b, 0, none⟩), v] 63 (0, 0)) := by
  rw [hgrow.block b hlt (fun e => hne e.symm)]
  exact hbk
 have d0 : w2.cell? ⟨b, 0, none⟩ = some (.pointer (some ⟨b, 0, none⟩)) := by rw [Lib.cell_of_heap hb2]; rfl
 have d1 : w2.cell? ⟨b, 1, none⟩ = some v := by rw [Lib.cell_of_heap hb2]; rfl
 have f1 : w2.frozen? ⟨b, 1, none⟩ = false := Lib.frozen_of_heap hb2 1
 obtain ⟨ao, n', cap, rfl⟩ : ∃ ao n' cap, v' = .slice ao n' cap := by
  rcases hown'.2 with ⟨hv, _⟩ | ⟨g, cap, cur, hv, _⟩
  ·exact ⟨_, _, _, hv⟩
  ·exact ⟨_, _, _, hv⟩
 go_wp2
 go_ret2
 refine ⟨rfl, ?_, ?_, (hk1.trans hk2).trans (KeepsOthers.setCell _ _ _)⟩
 ·exact Lib.BuilderAt.put (T := 63) (e := 5) hB hb2 (bs' := bs ++ Lib.strCells s) (by simpa [Lib.strCells_length] using hown') (by decide)
 ·exact (hb1.grown hgrow (by have := hb1.size; omega) (fun k hk => (hown.lt k hk).1)).setCell (p := ⟨b, 1, none⟩) hB _
theorem SBU.sb {B b : Nat} {bs : List Value} {W : World} (h : SBU B b bs W) : SB B b bs W := .inr h
theorem SB.next {B b : Nat} {bs : List Value} {W W' : World} (h : SB B b bs W) (hb : Below W.heap.size W W') : SB B b bs W' := by
 rcases h with ⟨h1, v, h2, h3, h4⟩ | ⟨h1, v, h2, h3, h4⟩
 ·exact .inl ⟨h1, v, blk_next hb h2, own_next hb h3, h4⟩
 ·exact .inr ⟨h1, v, blk_next hb h2, own_next hb h3, h4⟩
theorem own_any {B B' : Nat} {e : TypeId} {sz n : Nat} {v : Value} {xs : List Value} {W W' : World} {row : Option Nat} (h : W.ownsRow B' e sz v n xs) (hg : W.grownBy W' row) (hr : ∀ r, row = some r → B ≤ r ∧ ∃ o : Obj, W.heap[r]? = some o ∧ o.isCells = false) : W'.ownsRow B' e sz v n xs := by
 refine ⟨h.1, ?_⟩
 rcases h.2 with h2 | ⟨g, cap, cur, h1, h2, h3, h4⟩
 ·exact .inl h2
 ·refine .inr ⟨g, cap, cur, h1, h2, (hg.block g (blk_lt h3) fun e => ?_).trans h3, h4⟩
  obtain ⟨_, o, ho, hc⟩ := hr g e.symm
  rw [h3] at ho
  cases ho
  cases hc
theorem own_sb {B B' b : Nat} {β : Type} (bs : β → List Value) : OwnFrom B (fun k W => SB B' b (bs k) W) := by
 intro s W W' row h hg hr
 have K : ∀ {cs : Array Value} {T : TypeId}, W.heap[b]? = some (.cells cs T) → W'.heap[b]? = some (.cells cs T) := fun {cs T} h1 => by
  refine (hg.block b (blk_lt h1) fun e => ?_).trans h1
  obtain ⟨_, o, ho, hc⟩ := hr b e.symm
  rw [h1] at ho
  cases ho
  cases hc
 rcases h with ⟨h1, v, h2, h3, h4⟩ | ⟨h1, v, h2, h3, h4⟩
 ·exact .inl ⟨h1, v, K h2, own_any h3 hg hr, h4⟩
 ·exact .inr ⟨h1, v, K h2, own_any h3 hg hr, h4⟩
theorem SB.new (w : World) : SB w.heap.size w.heap.size [] (w.alloc (.cells #[.pointer none, .slice none 0 0] 63)) :=
 .inl ⟨Nat.le_refl _, _, blk_new w _, World.ownsRow_nil _ _ _ _, by simp [Value.ownBlock]⟩
end Go.Proofs.YtbbnkclajpaghaaGreatDoor
namespace Go.Proofs.YtbbnkclajpaghaaGreatDoor
set_option linter.unusedVariables false
theorem cut_less {s : List UInt8} (h : s ≠ []) (c : UInt8) : (Lib.cut s [c]).2.1.length < s.length := by
 have h0 := List.length_pos_iff.2 h
 unfold Lib.cut
 split
 ·rename_i e
  have := Lib.index_room s [c] e
  simp only [List.length_drop, List.length_singleton]
  omega
 ·simpa using h0
theorem cut_part (s : List UInt8) (c : UInt8) : (Lib.cut s [c]).1.length ≤ s.length := by
 unfold Lib.cut
 split
 ·simp only [List.length_take]; omega
 ·exact Nat.le_refl _
theorem linesL_fuel : ∀ (f g : Nat) (s : List UInt8), s.length < f → s.length < g → linesL f s = linesL g s
 | 0, _, s, h, _ => by omega
 | f + 1, 0, s, _, h => by omega
 | f + 1, g + 1, s, h1, h2 => by
  unfold linesL
  by_cases e : s = []
  ·rw [if_pos e, if_pos e]
  ·rw [if_neg e, if_neg e]
   have := cut_less e 10
   rw [linesL_fuel f g _ (by omega) (by omega)]
def linesF (s : List UInt8) : List (List UInt8) := linesL (s.length + 1) s
theorem linesF_nil : linesF [] = [] := rfl
theorem linesF_cons {s : List UInt8} (h : s ≠ []) : linesF s = (Lib.cut s [10]).1 :: linesF (Lib.cut s [10]).2.1 := by
 conv => lhs; unfold linesF linesL
 rw [if_neg h]
 have := cut_less h 10
 unfold linesF
 rw [linesL_fuel s.length _ _ this (Nat.lt_succ_self _)]
theorem linesF_part : ∀ (n : Nat) (s : List UInt8), s.length ≤ n → ∀ x ∈ linesF s, x.length ≤ s.length
 | 0, s, h => by
  have : s = [] := List.length_eq_zero_iff.1 (by omega)
  subst this; intro x hx; cases hx
 | n + 1, s, h => by
  by_cases e : s = []
  ·subst e; intro x hx; cases hx
  ·rw [linesF_cons e]
   have h1 := cut_less e 10
   intro x hx
   rcases List.mem_cons.1 hx with rfl | hx
   ·exact cut_part s 10
   ·exact Nat.le_trans (linesF_part n _ (by omega) x hx) (by omega)
theorem drop_line {L : List (List UInt8)} {k : Nat} {s : List UInt8} (h : L.drop k = linesF s) (hs : s ≠ []) : k < L.length ∧ L.getD k [] = (Lib.cut s [10]).1 ∧ L.drop (k + 1) = linesF (Lib.cut s [10]).2.1 := by
 rw [linesF_cons hs] at h
 have hk : k < L.length := by
  rcases Nat.lt_or_ge k L.length with h' | h'
  ·exact h'
  ·rw [List.drop_eq_nil_of_le h'] at h; cases h
 rw [List.drop_eq_getElem_cons hk] at h
 injection h with h1 h2
 exact ⟨hk, by rw [← h1]; simp [List.getD, hk], h2⟩
theorem drop_end {L : List (List UInt8)} {k : Nat} (h : L.drop k = linesF []) (hk : k ≤ L.length) : k = L.length := by
 rw [linesF_nil] at h
 have := List.drop_eq_nil_iff.1 h
 omega
end Go.Proofs.YtbbnkclajpaghaaGreatDoor
namespace Go.Proofs.YtbbnkclajpaghaaGreatDoor
open Go.ChangeShapes Go.WideShapes Go.ChangeAt Go.RowKit
set_option linter.unusedVariables false
attribute [local go_sem] Oper.semAt_some
theorem lines_calls (s : List UInt8) (w : World) : Calls Tryz.prog 33 #[Str s] w fun e w' =>
  e = .returned (.func (.func 60) #[] #[.pointer (some ⟨w.heap.size, 0, none⟩)]) ∧ w' = w.alloc (.cells #[Str s] 9) := by
 go_enter Tryz.func33, Tryz.ntmps33
 go_wp2
 go_ret
 exact ⟨rfl, rfl⟩
theorem cutN_calls (l : List UInt8) (w : World) (hs : l.length ≤ 100000) (g : GL w) :
  Calls Tryz.prog 61 #[Str l, .string ⟨#[10]⟩] w fun e w' => e = .returned (.tuple #[Str (Lib.cut l [10]).1, Str (Lib.cut l [10]).2.1, .bool (Lib.cut l [10]).2.2]) ∧ ∃ n, w' = w.drewN n := by
 obtain ⟨m, hm⟩ := g.max
 have h := Tryz.strings_Cut ⟨l.toArray⟩ ⟨#[10]⟩ m w (by show l.toArray.size < _; simp; omega) hm
 simpa using h
theorem grown_drewN9 (W : World) (n : Nat) (row : Option Nat) : W.grownBy (W.drewN n) row := ⟨rfl, rfl, rfl, Nat.le_refl _, fun _ _ _ => rfl⟩
abbrev encL (s : List UInt8) (k : Nat) : Array Value := #[Str ((linesF s).getD k [])]
set_option maxRecDepth 100000 in
set_option maxHeartbeats 4000000 in
theorem lines_seq {s : List UInt8} {n₀ Bt : Nat} {w : World} (hs : s.length ≤ 100000) (hG : ∀ W, Below n₀ w W → GL W)
  (hn : n₀ ≤ w.heap.size) (hB : w.heap[Bt]? = some (.cells #[Str s] 9)) :
  SeqN Tryz.prog 60 #[.pointer (some ⟨Bt, 0, none⟩)] (encL s) n₀ (linesF s).length w := by
 intro lp J Jx W hW hJ hJx hY h0
 have VB := blk_next hW hB
 have HG := Lib.hid (fun X (h : Below n₀ W X) => hG X ((hW.mono hn).trans h))
 have cB := blk_cell VB 0 (Str s) rfl
 have lB := blk_lt VB
 have SN : Hid ((linesF s).drop 0 = linesF s) := Lib.hid rfl
 clear hB VB hG
 refine callsIn_of_wp Tryz.func60 rfl trivial ?_ rfl
 simp only [Tryz.ntmps60, List.size_toArray, List.length_cons, List.length_nil, Nat.reduceAdd, Nat.reduceSub, Array.replicate_succ, Array.replicate_zero, List.push_toArray, List.append_toArray, List.nil_append, List.cons_append]
 gi_wp2
 gi_loopw [3] (fun i wr => ∃ (k : Nat) (r : List UInt8), k ≤ (linesF s).length ∧ r.length ≤ s.length ∧ i = Str r ∧ Hid ((linesF s).drop k = linesF r) ∧ Hid (J k wr) ∧ Hid (Below n₀ W wr) ∧ Hid (W.heap.size ≤ wr.heap.size)) (fun i _ => match i with | .string b => b.data.size | _ => 0)
 case atStart => exact ⟨0, s, Nat.zero_le _, Nat.le_refl _, rfl, SN, Lib.hid h0, Lib.hid (Below.refl _ _), Lib.hid (Nat.le_refl _)⟩
 case round =>
  obtain ⟨k, r, hk, hr, rfl, hd, hJs, hnx, hsz⟩ := hrel
  by_cases e : r = []
  ·subst e
   have ek := drop_end hd.out hk
   have q1 : (([] : List UInt8) == []) = true := rfl
   gi_wp2
   go_end0
   exact ⟨⟨_, rfl⟩, .inl (by rw [← ek]; exact hJs.out)⟩
  ·obtain ⟨hlt, hg, hd2⟩ := drop_line hd.out e
   have hl2 := cut_less e 10
   have q1 : (r == []) = false := by rw [beq_eq_false_iff_ne]; exact e
   have HGW := HG.out wr hnx.out
   have CC := Lib.hid (fun W3 (g : GL W3) => cutN_calls r W3 (by omega) g)
   gi_wp2
   refine ⟨trivial, rfl, (callsIn_wide.2 (CC.out wr HGW)).mono ?_⟩
   rintro e W2 ⟨rfl, n2, rfl⟩
   have hb2 : Below n₀ wr (wr.drewN n2) := below_drewN (Below.refl _ _) n2
   obtain ⟨fn, tmps, assign, body, hy, hR⟩ := hY k (wr.drewN n2) (hJ k wr _ none hJs.out (grown_drewN9 wr n2 none) (fun _ e => by cases e)) hlt
   dsimp only [encL] at hy
   rw [hg] at hy
   have HX := Lib.hid (hnx.out.trans hb2)
   have HZ : Hid (W.heap.size ≤ (wr.drewN n2).heap.size) := Lib.hid hsz.out
   have HD2 := Lib.hid hd2
   clear hd hg hb2 hd2 HGW
   generalize (Lib.cut r [10]).1 = c1 at *
   generalize (Lib.cut r [10]).2.1 = c2 at *
   gi_wp2
   refine ⟨rfl, ?_⟩
   refine hR.mono ?_
   rintro e W3 (⟨rfl, hJ3, hk3⟩ | ⟨rfl, hJx3⟩)
   ·gi_wp2
    go_roundw
    case rel => exact ⟨k + 1, c2, by omega, by omega, rfl, HD2, Lib.hid hJ3, Lib.hid (HX.out.trans hk3), Lib.hid (Nat.le_trans HZ.out hk3.size)⟩
    case measure => simpa using hl2
   ·gi_wp2
    refine bodyPost_ret (results_none rfl _ _ _) rfl ?_
    exact ⟨⟨_, rfl⟩, .inr ⟨k, hlt, hJx3⟩⟩
end Go.Proofs.YtbbnkclajpaghaaGreatDoor
namespace Go.Proofs.YtbbnkclajpaghaaGreatDoor
open Go.ChangeShapes Go.WideShapes Go.ChangeAt Go.RowKit
set_option linter.unusedVariables false
set_option linter.unusedSimpArgs false
attribute [local go_sem] Oper.semAt_some
theorem sb_string {B b : Nat} {l : List UInt8} {w : World} (h : SB B b (Lib.byteCells l) w) (hBw : B ≤ w.heap.size) : Calls Tryz.prog 31 #[.pointer (some ⟨b, 0, none⟩)] w fun e w' => e = .returned (Str l) ∧ Below B w w' ∧ Lib.OthersKept 5 (some b) w w' := by
 refine (Any.Builder_String_any_k Tryz.lays169 Tryz.Builder_Extra_169 B b l w (h.imp Lib.BuilderAtF.of Lib.BuilderAtF.of) hBw).mono ?_
 rintro e w' ⟨rfl, -, h1, h2⟩
 exact ⟨rfl, h1, h2⟩
theorem sb_len {B b : Nat} {l : List UInt8} {w : World} (h : SB B b (Lib.byteCells l) w) : Calls Tryz.prog 30 #[.pointer (some ⟨b, 0, none⟩)] w fun e w' => e = .returned (.int .i64 (l.length : Nat)) ∧ w' = w := by
 have := Tryz.Builder_Len B b (Lib.byteCells l) w h
 rw [show (Lib.byteCells l).length = l.length by simp [Lib.byteCells]] at this
 exact this
theorem strC (a : List UInt8) : Lib.strCells ⟨a.toArray⟩ = Lib.byteCells a := by rw [Lib.strCells_eq]
theorem bytes_app (a b : List UInt8) : Lib.byteCells (a ++ b) = Lib.byteCells a ++ Lib.byteCells b := by unfold Lib.byteCells; rw [List.map_append]
theorem sb_line {B b : Nat} {a c : List UInt8} {w : World} (h : SB B b (Lib.byteCells a) w) (hl : a.length ≤ 100000) (hc : c.length ≤ 100000) (hB : B ≤ w.heap.size) : Calls Tryz.prog 29 #[.pointer (some ⟨b, 0, none⟩), Str c] w fun e w' =>
  e = .returned (.tuple #[.int .i64 (c.length : Nat), .nilIface]) ∧ SB B b (Lib.byteCells (a ++ c)) w' ∧ Below B w w' ∧ KeepsOthers w w' := by
 have hz : (⟨c.toArray⟩ : ByteArray).size = c.length := by show c.toArray.size = _; simp
 refine (sb_write B b _ ⟨c.toArray⟩ w h (by rw [hz]; simp only [Lib.byteCells, List.length_map]; omega) hB).mono ?_
 rintro e w' ⟨rfl, h1, h2, h3⟩
 rw [hz]
 refine ⟨rfl, ?_, h2, h3⟩
 rw [bytes_app, ← strC c]
 exact h1.sb
theorem txT_app (a b : List Vr) : txT (a ++ b) = txT a ++ txT b := by simp [txT]
theorem txT_pre (t : List Vr) (k : Nat) : (txT (t.take k)).length ≤ (txT t).length := by
 conv => rhs; rw [← List.take_append_drop k t, txT_app, List.length_append]
 omega
theorem txT_next {l : List Vr} {k : Nat} (h : k < l.length) : txT (l.take (k + 1)) = txT (l.take k) ++ (lnL (rowAt l k) ++ [10]) := txT_take (by rw [rowAt_lt h]; exact List.getElem?_eq_getElem h)
set_option maxRecDepth 100000 in
set_option maxHeartbeats 8000000 in
theorem ttext_calls {A : Option Addr} {c : Nat} {l : List Vr} {w : World} (hl : RT w A l) (hA : ∀ b off, A = some ⟨b, off, none⟩ → b < w.heap.size) (hc : l.length ≤ c) (hc' : c ≤ 9223372036854775807) (g : GL w) : Calls Tryz.prog 9 #[.slice A l.length c] w fun e w' =>
  e = .returned (.tuple #[Str (txO l), .int .i64 (txE l)]) ∧ Below w.heap.size w w' := by
 have CK : Hid (∀ W : World, Below w.heap.size w W → Calls Tryz.prog 20 #[.slice A l.length c] W fun e w' => e = .returned (.int .i64 (chkE l)) ∧ Below W.heap.size W w') := Lib.hid (fun W (hb : Below w.heap.size w W) => chk_calls (w := W) (hl.next hb) (fun b off h => Nat.lt_of_lt_of_le (hA b off h) hb.size) hc hc')
 have GG := Lib.hid (fun W (h : Below w.heap.size w W) => g.next h)
 have HL := Lib.hid hl
 have HA := Lib.hid hA
 have NN := Lib.hid (Below.refl w.heap.size w)
 have EX : Hid (txE l = if chkE l ≠ 0 then chkE l else if 20000 < (txT l).length then 4 else 0) := Lib.hid rfl
 have OX : Hid (txO l = if txE l = 0 then txT l else []) := Lib.hid rfl
 obtain ⟨pe, hpe⟩ : ∃ pe, txE l = pe := ⟨_, rfl⟩
 obtain ⟨po, hpo⟩ : ∃ po, txO l = po := ⟨_, rfl⟩
 rw [hpe] at EX OX ⊢
 rw [hpo] at OX ⊢
 obtain ⟨E, hE⟩ : ∃ E, chkE l = E := ⟨_, rfl⟩
 have HEE := Lib.hid hE
 rw [hE] at CK EX
 clear hpe hpo hE hl hA g
 refine (callsIn_wide (n := 0)).1 ?_
 refine callsIn_of_wp_marks Tryz.func9 rfl trivial ?_ rfl
 simp only [Tryz.ntmps9, List.size_toArray, List.length_cons, List.length_nil, Nat.reduceAdd, Nat.reduceSub, Array.replicate_succ, Array.replicate_zero, List.push_toArray, List.append_toArray, List.nil_append, List.cons_append]
 gi_wp2_with fail
 have V2 : Hid (((w.alloc (.cells #[.string ⟨#[]⟩] 9)).alloc (.cells #[.int .i64 0] 24)).heap[w.heap.size]? = some (.cells #[.string ⟨#[]⟩] 9)) := Lib.hid (blk_alloc (blk_new w _) _)
 have V3 : Hid (((w.alloc (.cells #[.string ⟨#[]⟩] 9)).alloc (.cells #[.int .i64 0] 24)).heap[w.heap.size + 1]? = some (.cells #[.int .i64 0] 24)) := Lib.hid (blk_at _ (by simp))
 replace NN : Hid (Below w.heap.size w ((w.alloc (.cells #[.string ⟨#[]⟩] 9)).alloc (.cells #[.int .i64 0] 24))) := Lib.hid (Bal (Bal NN.out _) _)
 generalize ((w.alloc (.cells #[.string ⟨#[]⟩] 9)).alloc (.cells #[.int .i64 0] 24)) = W1 at *
 refine ⟨trivial, rfl, ((callsIn_wide (n := 0)).2 (CK.out _ NN.out)).mono ?_⟩
 rintro e w2 ⟨rfl, hb⟩
 replace NN := Lib.hid (Bgo NN.out hb)
 replace V2 := Lib.hid (blk_next hb V2.out)
 replace V3 := Lib.hid (blk_next hb V3.out)
 clear hb
 by_cases h0 : E ≠ 0
 ·have q1 : (E != 0) = true := by simpa using h0
  have HE1 : Hid (pe = E) := Lib.hid (by rw [EX.out, if_pos h0])
  have HO1 : Hid (po = []) := Lib.hid (by rw [OX.out, HE1.out, if_neg h0])
  clear h0 EX OX
  have c_V2_0 := blk_cell V2.out 0 _ rfl
  have f_V2_0 := blk_frozen V2.out 0
  have l_V2 := blk_lt V2.out
  have c_V3_0 := blk_cell V3.out 0 _ rfl
  have f_V3_0 := blk_frozen V3.out 0
  have l_V3 := blk_lt V3.out
  gi_wp2_with fail
  clear c_V2_0 f_V2_0 l_V2 c_V3_0 f_V3_0 l_V3
  replace V2 : Hid (((w2.setCell ⟨w.heap.size, 0, none⟩ (.string ⟨#[]⟩)).setCell ⟨w.heap.size + 1, 0, none⟩ (.int .i64 E)).heap[w.heap.size]? = some (.cells #[.string ⟨#[]⟩] 9)) := Lib.hid (blk_set_other (b' := w.heap.size + 1) (blk_set (V2.out) 0 (.string ⟨#[]⟩)) (by omega) 0 (.int .i64 E))
  replace V3 : Hid (((w2.setCell ⟨w.heap.size, 0, none⟩ (.string ⟨#[]⟩)).setCell ⟨w.heap.size + 1, 0, none⟩ (.int .i64 E)).heap[w.heap.size + 1]? = some (.cells #[.int .i64 E] 24)) := Lib.hid (blk_set (blk_set_other (b' := w.heap.size) (V3.out) (by omega) 0 (.string ⟨#[]⟩)) 0 (.int .i64 E))
  replace NN := Lib.hid (Bset1 (Bset1 (NN.out) (show w.heap.size ≤ w.heap.size by omega) 0 (.string ⟨#[]⟩)) (show w.heap.size ≤ w.heap.size + 1 by omega) 0 (.int .i64 E))
  generalize ((w2.setCell ⟨w.heap.size, 0, none⟩ (.string ⟨#[]⟩)).setCell ⟨w.heap.size + 1, 0, none⟩ (.int .i64 E)) = W3 at *
  have c_V2_0 := blk_cell V2.out 0 _ rfl
  have l_V2 := blk_lt V2.out
  have c_V3_0 := blk_cell V3.out 0 _ rfl
  have l_V3 := blk_lt V3.out
  exact ⟨.tuple #[Str [], .int .i64 E], by simp [results, Tryz.results9, go_sem, c_V2_0, c_V3_0], ⟨by rw [HE1.out, HO1.out], NN.out⟩⟩
 have h0' : E = 0 := by omega
 subst h0'
 clear h0 CK
 have RB := Lib.hid (chk_rows HEE.out)
 have LM := Lib.hid (txT_max (t := l) (fun r hr => (chk_rows HEE.out).2 r hr))
 have LN : l.length ≤ 200 := (chk_rows HEE.out).1
 rw [if_neg (by simp)] at EX
 gi_wp2_with fail
 refine ⟨trivial, rfl, (callsIn_wide.2 (rows_calls A _ c _)).mono ?_⟩
 rintro e w9 ⟨rfl, rfl⟩
 gi_wp2_with fail
 have LG : Hid (w.heap.size + 2 ≤ w2.heap.size) := Lib.hid (by have := blk_lt V3.out; omega)
 replace NN : Hid (Below w.heap.size w ((w2.alloc (.cells #[.pointer none, .slice none 0 0] 63)).alloc (.cells #[.slice A l.length c] 22))) := Lib.hid (Bal (Bal NN.out _) _)
 have SZ : Hid (((w2.alloc (.cells #[.pointer none, .slice none 0 0] 63)).alloc (.cells #[.slice A l.length c] 22)).heap.size = w2.heap.size + 2) := Lib.hid (by simp)
 replace V2 : Hid (((w2.alloc (.cells #[.pointer none, .slice none 0 0] 63)).alloc (.cells #[.slice A l.length c] 22)).heap[w.heap.size]? = some (.cells #[.string ⟨#[]⟩] 9)) := Lib.hid (blk_alloc (blk_alloc V2.out _) _)
 replace V3 : Hid (((w2.alloc (.cells #[.pointer none, .slice none 0 0] 63)).alloc (.cells #[.slice A l.length c] 22)).heap[w.heap.size + 1]? = some (.cells #[.int .i64 0] 24)) := Lib.hid (blk_alloc (blk_alloc V3.out _) _)
 have VB : Hid (((w2.alloc (.cells #[.pointer none, .slice none 0 0] 63)).alloc (.cells #[.slice A l.length c] 22)).heap[w2.heap.size]? = some (.cells #[.pointer none, .slice none 0 0] 63)) := Lib.hid (blk_alloc (blk_new w2 _) _)
 have VT : Hid (((w2.alloc (.cells #[.pointer none, .slice none 0 0] 63)).alloc (.cells #[.slice A l.length c] 22)).heap[w2.heap.size + 1]? = some (.cells #[.slice A l.length c] 22)) := Lib.hid (blk_at _ (by simp))
 generalize ((w2.alloc (.cells #[.pointer none, .slice none 0 0] 63)).alloc (.cells #[.slice A l.length c] 22)) = W0 at *
 generalize w2.heap.size = g2 at *
 refine range_n 50 #[.pointer (some ⟨g2 + 1, 0, none⟩)] rfl (enters_of Tryz.func50 (by kernel_rfl) rfl) (encR l) w.heap.size l.length
  (rows_seq (HL.out.next NN.out) HA.out (by omega) (by have := SZ.out; have := LG.out; omega) VT.out) (by have := SZ.out; have := LG.out; omega) (fun _ => rfl)
  (fun k W => (W.heap[w.heap.size]? = some (.cells #[.string ⟨#[]⟩] 9)) ∧ (W.heap[w.heap.size + 1]? = some (.cells #[.int .i64 0] 24)) ∧ (Below w.heap.size w W) ∧ (g2 + 2 ≤ W.heap.size) ∧ (SB g2 g2 (Lib.byteCells (txT (l.take k))) W) ∧ ((txT (l.take k)).length ≤ 20000))
  (fun cd k W => ((cd = .ret) ∧ (20000 < (txT l).length) ∧ (W.heap[w.heap.size]? = some (.cells #[.string ⟨#[]⟩] 9)) ∧ (W.heap[w.heap.size + 1]? = some (.cells #[.int .i64 4] 24)) ∧ (Below w.heap.size w W)))
  (fun k a' W => ∃ Bx : Nat, (a' = { tmps := #[.slice A l.length c, undef, .pointer (some ⟨w.heap.size, 0, none⟩), .pointer (some ⟨w.heap.size + 1, 0, none⟩), .int .i64 0, .pointer (some ⟨g2, 0, none⟩), undef, .pointer (some ⟨Bx, 0, none⟩), undef, undef, .slice A l.length c, .int .i64 0, .int .i64 0, .bool false, undef, .slice A l.length c, .func (.func 50) #[] #[.pointer (some ⟨g2 + 1, 0, none⟩)], .int .i64 (k : Int), Rwv (rowAt l k), undef, undef, undef, undef, undef, undef, undef, undef, undef, undef, undef, undef, undef], defers := [] }) ∧ (g2 + 2 ≤ Bx) ∧ (W.heap[Bx]? = some (.cells #[.int .i64 (rowAt l k).t, .int .i64 (rowAt l k).c, .int .i64 (rowAt l k).i, .int .i64 (rowAt l k).j, .int .i64 (rowAt l k).re, .int .i64 (rowAt l k).im, .int .i64 (rowAt l k).dn, .int .i64 (rowAt l k).n] 67)) ∧ (W.heap[w.heap.size]? = some (.cells #[.string ⟨#[]⟩] 9)) ∧ (W.heap[w.heap.size + 1]? = some (.cells #[.int .i64 0] 24)) ∧ (Below w.heap.size w W) ∧ (g2 + 2 ≤ W.heap.size) ∧ (SB g2 g2 (Lib.byteCells (txT (l.take k))) W) ∧ ((txT (l.take k)).length ≤ 20000))
  ((own_blk _ _ _).and ((own_blk _ _ _).and ((ownFrom_below (Nat.le_refl _) (by have := SZ.out; have := LG.out; omega)).and ((own_size _).and ((own_sb _).and (own_pure _))))))
  (fun _ => ((own_pure _).and ((own_pure _).and ((own_blk _ _ _).and ((own_blk _ _ _).and (ownFrom_below (Nat.le_refl _) (by have := SZ.out; have := LG.out; omega)))))))
  (fun _ => own_ex fun _ => ((own_pure _).and ((own_pure _).and ((own_blk _ _ _).and ((own_blk _ _ _).and ((own_blk _ _ _).and ((ownFrom_below (Nat.le_refl _) (by have := SZ.out; have := LG.out; omega)).and ((own_size _).and ((own_sb _).and (own_pure _))))))))))
  ⟨V2.out, V3.out, NN.out, (by have := SZ.out; have := LG.out; omega), (.inl ⟨Nat.le_refl _, _, VB.out, World.ownsRow_nil _ _ _ _, by simp [Value.ownBlock]⟩), by rw [List.take_zero]; exact Nat.zero_le _⟩ ?assign ?body ?done ?stop
 case assign =>
  rintro lp k W K ⟨v2, v3, nn, sz, s9, ln⟩ hlt hK
  gi_wp2
  exact hK _ _ (keeps_of_below (Bal (Below.refl _ _) _)) ((Below.refl _ W).alloc nn.size _) ⟨W.heap.size, rfl, sz, blk_new W _, blk_alloc v2 _, blk_alloc v3 _, Bal nn _, by rw [World.size_alloc]; omega, s9.next (Bal (Below.refl _ _) _), ln⟩
 case body =>
  rintro lp k a' W ⟨Bx, rfl, lx, vx, v2, v3, nn, sz, s9, ln⟩ hlt
  have hz := SZ.out
  have hg := LG.out
  have HT := Lib.hid (txT_next hlt)
  have HP := Lib.hid (txT_pre l (k + 1))
  have RBk : Hid (rowB (rowAt l k) = true) := Lib.hid (RB.out.2 _ (by rw [rowAt_lt hlt]; exact List.getElem_mem hlt))
  have LL := lnL_len RBk.out
  have LC := Lib.hid (fun W g => lineOf_calls RBk.out W g)
  have S9 := Lib.hid s9
  have SG : Hid (g2 ≤ W.heap.size) := Lib.hid (by omega)
  clear s9 RBk
  generalize txT (l.take k) = tx at *
  generalize rowAt l k = s at *
  have NN := Lib.hid nn
  have KF := Lib.hid (KeepsFrom.refl W0.heap.size W)
  have V2 := Lib.hid v2
  have V3 := Lib.hid v3
  have VX := Lib.hid vx
  clear v2 v3 vx
  have c_VX_0 := blk_cell VX.out 0 _ rfl
  have f_VX_0 := blk_frozen VX.out 0
  have c_VX_1 := blk_cell VX.out 1 _ rfl
  have f_VX_1 := blk_frozen VX.out 1
  have c_VX_2 := blk_cell VX.out 2 _ rfl
  have f_VX_2 := blk_frozen VX.out 2
  have c_VX_3 := blk_cell VX.out 3 _ rfl
  have f_VX_3 := blk_frozen VX.out 3
  have c_VX_4 := blk_cell VX.out 4 _ rfl
  have f_VX_4 := blk_frozen VX.out 4
  have c_VX_5 := blk_cell VX.out 5 _ rfl
  have f_VX_5 := blk_frozen VX.out 5
  have c_VX_6 := blk_cell VX.out 6 _ rfl
  have f_VX_6 := blk_frozen VX.out 6
  have c_VX_7 := blk_cell VX.out 7 _ rfl
  have f_VX_7 := blk_frozen VX.out 7
  have l_VX := blk_lt VX.out
  gi_wp2_with fail
  clear c_VX_0 f_VX_0 c_VX_1 f_VX_1 c_VX_2 f_VX_2 c_VX_3 f_VX_3 c_VX_4 f_VX_4 c_VX_5 f_VX_5 c_VX_6 f_VX_6 c_VX_7 f_VX_7 l_VX
  refine ⟨trivial, rfl, (CallsIn.inRound lp ((callsIn_wide (n := 0)).2 (LC.out _ (GG.out _ NN.out)))).mono ?_⟩
  rintro e w1 ⟨rfl, hb⟩
  replace NN := Lib.hid (Bgo NN.out hb)
  replace KF := Lib.hid ((KF.out).trans (keeps_of_below hb))
  replace S9 := Lib.hid (SB.next S9.out hb)
  replace SG := Lib.hid (Nat.le_trans SG.out hb.size)
  replace V2 := Lib.hid (blk_next hb V2.out)
  replace V3 := Lib.hid (blk_next hb V3.out)
  replace VX := Lib.hid (blk_next hb VX.out)
  clear hb
  have HLN : Hid ((lnL s ++ [10]).length ≤ 201) := Lib.hid (by rw [List.length_append]; exact Nat.succ_le_succ LL)
  generalize lnL s ++ [10] = li at *
  clear LL LC VX
  gi_wp2_with fail
  refine ⟨trivial, rfl, (CallsIn.inRound lp ((callsIn_wide (n := 0)).2 (sb_line S9.out (by omega) (Nat.le_trans HLN.out (by decide)) SG.out))).mono ?_⟩
  rintro e w9 ⟨rfl, hs9, hb9, hk9⟩
  have S8 := Lib.hid hs9
  replace V2 := Lib.hid (blk_B hb9 V2.out (by omega))
  replace V3 := Lib.hid (blk_B hb9 V3.out (by omega))
  replace KF := Lib.hid (KF.out.trans (hk9.from _))
  replace NN := Lib.hid (NN.out.trans (hb9.mono (by omega)))
  replace SG := Lib.hid (Nat.le_trans SG.out hb9.size)
  clear S9 hs9 hb9 hk9
  rw [← HT.out] at S8
  obtain ⟨ty, hty⟩ : ∃ ty, txT (l.take (k + 1)) = ty := ⟨_, rfl⟩
  rw [hty] at S8 HP
  have HTY := Lib.hid hty
  clear hty HT
  generalize li.length = ll at *
  gi_wp2_with fail
  refine ⟨trivial, rfl, (CallsIn.inRound lp ((callsIn_wide (n := 0)).2 (sb_len S8.out))).mono ?_⟩
  rintro e w8 ⟨rfl, rfl⟩
  by_cases hL : 20000 < ty.length
  ·have d1 : decide ((20000 : Int) < (ty.length : Int)) = true := decide_eq_true (by omega)
   have HL9 : 20000 < (txT l).length := by have := HP.out; omega
   clear hL
   have c_V2_0 := blk_cell V2.out 0 _ rfl
   have f_V2_0 := blk_frozen V2.out 0
   have l_V2 := blk_lt V2.out
   have c_V3_0 := blk_cell V3.out 0 _ rfl
   have f_V3_0 := blk_frozen V3.out 0
   have l_V3 := blk_lt V3.out
   gi_wp2_with fail
   clear c_V2_0 f_V2_0 l_V2 c_V3_0 f_V3_0 l_V3
   replace KF := Lib.hid (keep_set (keep_set (KF.out) (w.heap.size) 0 (.string ⟨#[]⟩)) (w.heap.size + 1) 0 (.int .i64 4))
   replace V2 : Hid (((w8.setCell ⟨w.heap.size, 0, none⟩ (.string ⟨#[]⟩)).setCell ⟨w.heap.size + 1, 0, none⟩ (.int .i64 4)).heap[w.heap.size]? = some (.cells #[.string ⟨#[]⟩] 9)) := Lib.hid (blk_set_other (b' := w.heap.size + 1) (blk_set (V2.out) 0 (.string ⟨#[]⟩)) (by omega) 0 (.int .i64 4))
   replace V3 : Hid (((w8.setCell ⟨w.heap.size, 0, none⟩ (.string ⟨#[]⟩)).setCell ⟨w.heap.size + 1, 0, none⟩ (.int .i64 4)).heap[w.heap.size + 1]? = some (.cells #[.int .i64 4] 24)) := Lib.hid (blk_set (blk_set_other (b' := w.heap.size) (V3.out) (by omega) 0 (.string ⟨#[]⟩)) 0 (.int .i64 4))
   replace NN := Lib.hid (Bset1 (Bset1 (NN.out) (show w.heap.size ≤ w.heap.size by omega) 0 (.string ⟨#[]⟩)) (show w.heap.size ≤ w.heap.size + 1 by omega) 0 (.int .i64 4))
   generalize ((w8.setCell ⟨w.heap.size, 0, none⟩ (.string ⟨#[]⟩)).setCell ⟨w.heap.size + 1, 0, none⟩ (.int .i64 4)) = W2 at *
   exact ⟨KF.out, rfl, HL9, V2.out, V3.out, NN.out⟩
  ·have d1 : decide ((20000 : Int) < (ty.length : Int)) = false := decide_eq_false (by omega)
   gi_wp2_with fail
   exact ⟨KF.out, below_mid nn NN.out KF.out.size, V2.out, V3.out, NN.out, by have := KF.out.size; omega, by rw [HTY.out]; exact S8.out, by rw [HTY.out]; omega⟩
 case done =>
  rintro D W hD ⟨v2, v3, nn, sz, s9, ln⟩ hK
  have hz := SZ.out
  have hg := LG.out
  rw [List.take_length] at s9 ln
  have HE1 : Hid (pe = 0) := Lib.hid (by rw [EX.out, if_neg (by omega)])
  have HO1 : Hid (po = txT l) := Lib.hid (by rw [OX.out, HE1.out, if_pos rfl])
  have HSG : g2 ≤ W.heap.size := by omega
  have S9 := Lib.hid s9
  have HK := Lib.hid hK
  clear s9 hK EX OX
  generalize txT l = ty at *
  have NN := Lib.hid nn
  have V2 := Lib.hid v2
  have V3 := Lib.hid v3
  clear v2 v3
  gi_wp2_with fail
  refine ⟨trivial, rfl, ((callsIn_wide (n := 0)).2 (sb_string S9.out HSG)).mono ?_⟩
  rintro e w9 ⟨rfl, hb9, hk9⟩
  replace V2 := Lib.hid (blk_B hb9 V2.out (by omega))
  replace V3 := Lib.hid (blk_B hb9 V3.out (by omega))
  replace NN := Lib.hid (NN.out.trans (hb9.mono (by omega)))
  replace HK := Lib.hid (hk9 D _ HK.out (by intro h; injection h with h; omega) (fun _ _ h => by cases h))
  clear S9 hb9 hk9
  have c_V2_0 := blk_cell V2.out 0 _ rfl
  have f_V2_0 := blk_frozen V2.out 0
  have l_V2 := blk_lt V2.out
  have c_V3_0 := blk_cell V3.out 0 _ rfl
  have f_V3_0 := blk_frozen V3.out 0
  have l_V3 := blk_lt V3.out
  gi_wp2_with fail
  clear c_V2_0 f_V2_0 l_V2 c_V3_0 f_V3_0 l_V3
  replace HK := Lib.hid (blk_set_other (b' := w.heap.size + 1) (blk_set_other (b' := w.heap.size) HK.out (by omega) 0 (Str ty)) (by omega) 0 (.int .i64 0))
  replace V2 : Hid (((w9.setCell ⟨w.heap.size, 0, none⟩ (Str ty)).setCell ⟨w.heap.size + 1, 0, none⟩ (.int .i64 0)).heap[w.heap.size]? = some (.cells #[Str ty] 9)) := Lib.hid (blk_set_other (b' := w.heap.size + 1) (blk_set (V2.out) 0 (Str ty)) (by omega) 0 (.int .i64 0))
  replace V3 : Hid (((w9.setCell ⟨w.heap.size, 0, none⟩ (Str ty)).setCell ⟨w.heap.size + 1, 0, none⟩ (.int .i64 0)).heap[w.heap.size + 1]? = some (.cells #[.int .i64 0] 24)) := Lib.hid (blk_set (blk_set_other (b' := w.heap.size) (V3.out) (by omega) 0 (Str ty)) 0 (.int .i64 0))
  replace NN := Lib.hid (Bset1 (Bset1 (NN.out) (show w.heap.size ≤ w.heap.size by omega) 0 (Str ty)) (show w.heap.size ≤ w.heap.size + 1 by omega) 0 (.int .i64 0))
  generalize ((w9.setCell ⟨w.heap.size, 0, none⟩ (Str ty)).setCell ⟨w.heap.size + 1, 0, none⟩ (.int .i64 0)) = W1 at *
  refine ⟨by simp, .inl ⟨_, _, rfl, run_takeDeferred HK.out, ?_⟩⟩
  have e0 := blk_cell (put_blk (D := D) (o' := .deferred none) V2.out (by omega)) 0 (Str ty) rfl
  have e1 := blk_cell (put_blk (D := D) (o' := .deferred none) V3.out (by omega)) 0 (.int .i64 0) rfl
  exact ⟨.tuple #[Str ty, .int .i64 0], by simp [results, Tryz.results9, go_sem, e0, e1], ⟨by rw [HE1.out, HO1.out], put_below NN.out (by omega) (Nat.le_refl _) HK.out⟩⟩
 case stop =>
  rintro D cd k W hD hlt ⟨rfl, hL, v2, v3, nn⟩ hK
  have hDs := SZ.out
  have hg := LG.out
  have HE1 : Hid (pe = 4) := Lib.hid (by rw [EX.out, if_pos hL])
  have HO1 : Hid (po = []) := Lib.hid (by rw [OX.out, HE1.out, if_neg (by decide)])
  have V2 := Lib.hid v2
  have V3 := Lib.hid v3
  have NN := Lib.hid nn
  have HK := Lib.hid hK
  clear EX OX v2 v3 nn hK
  gi_wp2
  refine ⟨by simp, .inl ⟨_, _, rfl, run_takeDeferred HK.out, ?_⟩⟩
  have e0 := blk_cell (put_blk (D := D) (o' := .deferred none) V2.out (by omega)) 0 (Str []) rfl
  have e1 := blk_cell (put_blk (D := D) (o' := .deferred none) V3.out (by omega)) 0 (.int .i64 4) rfl
  exact ⟨.tuple #[Str [], .int .i64 4], by simp [results, Tryz.results9, go_sem, e0, e1], ⟨by rw [HE1.out, HO1.out], put_below NN.out (by omega) (Nat.le_refl _) HK.out⟩⟩
end Go.Proofs.YtbbnkclajpaghaaGreatDoor
namespace Go.Proofs.YtbbnkclajpaghaaGreatDoor
set_option linter.unusedVariables false
set_option linter.unusedSimpArgs false
theorem mul_part {n d D : Int} (v : VF n d) (hD : 1 ≤ D) (hD' : D ≤ 1000000000) (hv : d ∣ D) : mulR n d D 1 = if 1000000000000000000 < (n * (D / d)).natAbs then (0, 0, 16) else (n * (D / d), 1, 0) := by
 have hd := v.d1
 have vD : VF D 1 := ⟨by omega, by omega, by omega, by omega, by simp⟩
 unfold mulR
 rw [if_pos (v.both vD)]
 obtain ⟨k, rfl⟩ := hv
 have hk : 0 < k := by
  rcases Int.lt_or_le 0 k with h | h
  ·exact h
  ·have := Int.mul_le_mul_of_nonneg_left h (show 0 ≤ d by omega); omega
 rw [Int.mul_ediv_cancel_left _ (by omega)]
 unfold mulF
 have e1 : ((1 : Int).natAbs) = 1 := rfl
 rw [e1, Nat.gcd_one_right, Nat.div_one, Int.natAbs_mul, Nat.gcd_eq_right (Nat.dvd_mul_right d.natAbs k.natAbs), Nat.mul_div_cancel_left _ (by omega : 0 < d.natAbs), Nat.div_self (by omega : 0 < d.natAbs), Nat.div_one, Nat.one_mul]
 have e2 : decide (d * k < 0) = false := decide_eq_false (by have := Int.mul_pos (show 0 < d by omega) hk; omega)
 rw [e2, Int.natAbs_mul]
 unfold lowF
 by_cases h : 1000000000000000000 < n.natAbs * k.natAbs
 ·rw [if_pos (.inl h), if_pos h]
 ·rw [if_neg (by omega), if_neg h]
  obtain ⟨m, rfl⟩ := Int.eq_ofNat_of_zero_le (Int.le_of_lt hk)
  by_cases s : n < 0
  ·rw [decide_eq_true s]
   obtain ⟨x, rfl⟩ : ∃ x : Nat, n = -(x : Int) := ⟨n.natAbs, by omega⟩
   simp [Int.neg_mul]
  ·rw [decide_eq_false s]
   obtain ⟨x, rfl⟩ : ∃ x : Nat, n = (x : Int) := ⟨n.natAbs, by omega⟩
   simp
theorem chkB_lim {a b D : Int} (h : Cxm.chkB a b D = true) : -1000000000 ≤ a ∧ a ≤ 1000000000 ∧ -1000000000 ≤ b ∧ b ≤ 1000000000 ∧ 1 ≤ D ∧ D ≤ 1000000000 := by
 simp only [Cxm.chkB, Cxm.fitsB, Bool.and_eq_true, decide_eq_true_eq] at h
 omega
theorem valD_dvd (d1 d2 : Int) : d1 ∣ valD d1 d2 ∧ d2 ∣ valD d1 d2 := by
 unfold valD
 exact ⟨by rw [← Int.natAbs_dvd_natAbs]; exact Nat.dvd_lcm_left _ _, by rw [← Int.natAbs_dvd_natAbs]; exact Nat.dvd_lcm_right _ _⟩
theorem valD_pos {d1 d2 : Int} (h1 : 1 ≤ d1) (h2 : 1 ≤ d2) : 1 ≤ valD d1 d2 := by
 unfold valD
 have := Nat.lcm_pos (show 0 < d1.natAbs by omega) (show 0 < d2.natAbs by omega)
 omega
theorem valD_ge {d1 d2 : Int} (h1 : 1 ≤ d1) (h2 : 1 ≤ d2) : d1 ≤ valD d1 d2 ∧ d2 ≤ valD d1 d2 := by
 have := valD_pos h1 h2
 exact ⟨Int.le_of_dvd (by omega) (valD_dvd d1 d2).1, Int.le_of_dvd (by omega) (valD_dvd d1 d2).2⟩
theorem valD_mul {d1 d2 : Int} (h1 : 1 ≤ d1) (h2 : 1 ≤ d2) : d1 * d2 = (Nat.gcd d1.natAbs d2.natAbs : Nat) * valD d1 d2 := by
 unfold valD
 rw [← Int.natCast_mul, Nat.gcd_mul_lcm, Int.natCast_mul]
 rw [show ((d1.natAbs : Nat) : Int) = d1 by omega, show ((d2.natAbs : Nat) : Int) = d2 by omega]
def valR (n1 d1 n2 d2 : Int) : Int × Int × Int × Int := match valO n1 d1 n2 d2 with
 | some (a, b, D) => (a, b, D, 0)
 | none => (0, 0, 0, 16)
theorem valR_some {n1 d1 n2 d2 a b D : Int} (h : valO n1 d1 n2 d2 = some (a, b, D)) : valR n1 d1 n2 d2 = (a, b, D, 0) := by unfold valR; rw [h]
theorem valR_none {n1 d1 n2 d2 : Int} (h : valO n1 d1 n2 d2 = none) : valR n1 d1 n2 d2 = (0, 0, 0, 16) := by unfold valR; rw [h]
theorem valO_far {n1 d1 n2 d2 : Int} (h : 1000000000 < valD d1 d2) : valO n1 d1 n2 d2 = none := by unfold valO; rw [if_neg (by omega)]
theorem valO_no {n1 d1 n2 d2 : Int} (h : Cxm.chkB (n1 * (valD d1 d2 / d1)) (n2 * (valD d1 d2 / d2)) (valD d1 d2) = false) : valO n1 d1 n2 d2 = none := by unfold valO; rw [if_neg (by rw [h]; simp)]
theorem valO_yes {n1 d1 n2 d2 : Int} (h : Cxm.chkB (n1 * (valD d1 d2 / d1)) (n2 * (valD d1 d2 / d2)) (valD d1 d2) = true) : valO n1 d1 n2 d2 = some (n1 * (valD d1 d2 / d1), n2 * (valD d1 d2 / d2), valD d1 d2) := by unfold valO; rw [if_pos ⟨(chkB_lim h).2.2.2.2.2, h⟩]
theorem valO_out {n1 d1 n2 d2 : Int} (h : 1000000000 < (n1 * (valD d1 d2 / d1)).natAbs ∨ 1000000000 < (n2 * (valD d1 d2 / d2)).natAbs) : valO n1 d1 n2 d2 = none := by
 refine valO_no ?_
 cases e : Cxm.chkB (n1 * (valD d1 d2 / d1)) (n2 * (valD d1 d2 / d2)) (valD d1 d2) with
 | false => rfl
 | true => have := chkB_lim e; omega
theorem part_ge {n d D : Int} (hd : 1 ≤ d) (hD : 1 ≤ D) (h : d ∣ D) : n.natAbs ≤ (n * (D / d)).natAbs := by
 obtain ⟨k, rfl⟩ := h
 rw [Int.mul_ediv_cancel_left _ (by omega), Int.natAbs_mul]
 have : 0 < k.natAbs := by
  rcases Nat.eq_zero_or_pos k.natAbs with h | h
  ·have : k = 0 := by omega
   subst this; omega
  ·exact h
 exact Nat.le_mul_of_pos_right _ this
end Go.Proofs.YtbbnkclajpaghaaGreatDoor
