/- Several texts in one. -/
import Derived.Test.YtbbnkclajpaghaaGreatDoorMS09
namespace Go.Proofs.YtbbnkclajpaghaaGreatDoor
open Go.ChangeShapes Go.WideShapes Go.ChangeAt Go.RowKit
set_option linter.unusedVariables false
set_option linter.unusedSimpArgs false
attribute [local go_sem ↓] Go.wp_at_zero Go.wp_at_succ
def strv (l : List (List UInt8)) : List Value := l.map fun x => Str x
def OS (B : Nat) (W : World) (v : Value) (l : List (List UInt8)) : Prop := W.ownsRow B 9 1 v l.length (strv l)
theorem und_strs : Tryz.prog.underlying 53 = some (.slice 9) := by kernel_rfl
theorem infoStr : (Tryz.prog.info? 9).map (fun i => (i.zero, i.size, i.bytes)) = some (some (.string ⟨#[]⟩), 1, 16) := by kernel_rfl
theorem Rd.blk {w : World} {g size n : Nat} {xs : List Value} {T : TypeId} (h : w.heap[g]? = some (.cells xs.toArray T)) (hn : xs.length = n * size) : Rd w size (some ⟨g, 0, none⟩) n xs :=
 ⟨hn, fun _ => ⟨g, 0, rfl, blk_lt h, fun j u hu => blk_cell h (0 + j) u (by simpa using hu)⟩⟩
theorem own_grown {B : Nat} {W W' : World} {e : TypeId} {sz n : Nat} {v : Value} {xs : List Value} (h : W.ownsRow B e sz v n xs) (hg : W.grownBy W' v.ownBlock) (hB : B ≤ W.heap.size) : Below B W W' := by
 refine (Below.refl B W).grown hg hB fun k e => ?_
 rcases h.2 with ⟨h5, _⟩ | ⟨g, cap', cur, hv, hb, _⟩
 ·rw [h5] at e; cases e
 ·rw [hv] at e; simp [Value.ownBlock] at e; omega
theorem wordsL_len (c : UInt8) : ∀ a : List UInt8, (wordsL c a).length ≤ a.length + 1
 | [] => by simp [wordsL]
 | x :: a => by
  have ih := wordsL_len c a
  unfold wordsL
  split
  ·simp; omega
  ·split
   ·simp
   ·rename_i h t e; rw [e] at ih; simp at ih ⊢; omega
theorem own_of_blk {W : World} {g base sz n : Nat} {e : TypeId} {xs : List Value} (h : W.heap[g]? = some (.cells xs.toArray e)) (hb : base ≤ g) (hl : xs.length = n * sz) (hn : n ≤ 1000) : W.ownsRow base e sz (.slice (some ⟨g, 0, none⟩) n n) n xs :=
 ⟨hl, .inr ⟨g, n, xs.toArray, rfl, hb, h, Nat.le_refl _, by simp [maxLen]; omega, by simpa using hl, by simp [List.take_of_length_le (Nat.le_of_eq hl)]⟩⟩
theorem OS.next {B : Nat} {W W' : World} {v : Value} {l : List (List UInt8)} (h : OS B W v l) (hb : Below W.heap.size W W') : OS B W' v l := own_next hb h
theorem str_one (s : ByteArray) (k : Nat) (h : k < s.size) : s.extract k (k + 1) = ⟨[s[k]].toArray⟩ := by
 rw [ByteArray.ext_iff, ByteArray.data_extract]
 apply Array.ext'
 rw [Array.toList_extract]
 have h1 : k < s.data.toList.length := by simpa using h
 simp only [List.extract, Nat.add_sub_cancel_left]
 rw [List.drop_eq_getElem_cons h1]
 simp
 rfl
theorem wordsL_part (c : UInt8) : ∀ (a : List UInt8), ∀ w ∈ wordsL c a, w.length ≤ a.length
 | [], w, h => by
  simp only [wordsL, List.mem_singleton] at h
  subst h; exact Nat.le_refl _
 | x :: a, w, h => by
  have ih := wordsL_part c a
  unfold wordsL at h
  rw [List.length_cons]
  split at h
  ·rcases List.mem_cons.1 h with rfl | h
   ·exact Nat.zero_le _
   ·have := ih w h; omega
  ·split at h
   ·simp only [List.mem_singleton] at h
    subst h; simp
   ·rename_i u t e
    rcases List.mem_cons.1 h with rfl | h
    ·have := ih u (by rw [e]; exact List.mem_cons_self ..)
     rw [List.length_cons]; omega
    ·have := ih w (by rw [e]; exact List.mem_cons_of_mem _ h)
     omega
theorem OS.blk {B n c : Nat} {W : World} {A : Option Addr} {l : List (List UInt8)} (h : OS B W (.slice A n c) l) (h0 : l ≠ []) : ∃ g cur, A = some ⟨g, 0, none⟩ ∧ B ≤ g ∧ W.heap[g]? = some (.cells cur 9) ∧ ∀ (j : Nat) (x : List UInt8), l[j]? = some x → cur[j]? = some (Str x) := by
 rcases h.2 with ⟨_, h6⟩ | ⟨g, cap, cur, hv, hb, hg, hnc, hcm, hcs, htk⟩
 ·exact absurd (List.length_eq_zero_iff.1 h6) h0
 ·injection hv with e1 e2 e3
  refine ⟨g, cur, e1, hb, hg, fun j x hx => ?_⟩
  have h1 : (cur.toList.take (l.length * 1))[j]? = some (Str x) := by rw [htk]; unfold strv; rw [List.getElem?_map, hx]; rfl
  rw [List.getElem?_take] at h1
  split at h1
  ·simpa using h1
  ·cases h1
theorem OS.set {B g c m : Nat} {W : World} {ys : List (List UInt8)} {y : List UInt8} (h : OS B W (.slice (some ⟨g, 0, none⟩) (m + 1) c) (ys ++ [y])) (hm : ys.length = m) (z : List UInt8) : OS B (W.setCell ⟨g, m, none⟩ (Str z)) (.slice (some ⟨g, 0, none⟩) (m + 1) c) (ys ++ [z]) := by
 subst hm
 unfold OS at h ⊢
 rw [List.length_append, List.length_singleton] at h ⊢
 have := (h.stored ys.length (Str z)).1
 rw [show (strv (ys ++ [y])).set ys.length (Str z) = strv (ys ++ [z]) by simp [strv, List.set_append]] at this
 exact this
set_option maxRecDepth 100000 in
set_option maxHeartbeats 8000000 in
theorem words_calls (s : ByteArray) (c : UInt8) (w : World) (hs : s.size ≤ 100000) : Calls Tryz.prog 35 #[.string s, .int .u8 (c.toNat : Int)] w fun e w' => ∃ v, e = .returned v ∧ Below w.heap.size w w' ∧ OS w.heap.size w' v (wordsL c s.data.toList) := by
 have NN := Lib.hid (Below.refl w.heap.size w)
 have SG := Lib.hid (fun k (h : k < s.size) => str_get s k h)
 have SL := Lib.hid (s_len s)
 obtain ⟨l, hl⟩ : ∃ l, s.data.toList = l := ⟨_, rfl⟩
 rw [hl] at SG SL ⊢
 clear hl
 obtain ⟨i0, hi, hz, hs0, hb0⟩ := info_parts infoStr
 have HI := Lib.hid (And.intro hi (And.intro hz (And.intro hs0 hb0)))
 clear hi hz hs0 hb0
 go_enter Tryz.func35, Tryz.ntmps35
 go_wp2_with fail
 have OW : Hid (OS w.heap.size (w.alloc (.cells #[.string ⟨#[]⟩] 9)) (.slice (some ⟨w.heap.size, 0, none⟩) 1 1) (wordsL c (l.take 0))) := Lib.hid (own_of_blk (xs := [.string ⟨#[]⟩]) (blk_new w _) (Nat.le_refl _) rfl (by decide))
 replace NN : Hid (Below w.heap.size w (w.alloc (.cells #[.string ⟨#[]⟩] 9))) := Lib.hid (Bal (Below.refl _ _) _)
 generalize w.alloc (.cells #[.string ⟨#[]⟩] 9) = w1 at *
 go_loopw [5, 6] (fun v i wr => ∃ k : Nat, k ≤ s.size ∧ i = .int .i64 k ∧ Hid (Below w.heap.size w wr) ∧ Hid (OS w.heap.size wr v (wordsL c (l.take k)))) (fun v i _ => s.size - (intOf i).toNat)
 case atStart => exact ⟨0, by omega, rfl, NN, OW⟩
 case round =>
  clear NN OW
  obtain ⟨k, hk, rfl, NN, OW⟩ := hrel
  obtain ⟨A0, c0, hv0, hn0, hc1, -⟩ := Rd.of_own OW.out
  subst hv0
  by_cases hlt : k < s.size
  ·have hc := SG.out k hlt
   have kk : k + 1 ≤ s.size := hlt
   by_cases e : s[k] = c
   ·have e1 : ((s[k].toNat : Int) == (c.toNat : Int)) = true := by rw [e]; exact beq_self_eq_true _
    go_upto_region 6 with fail
    have E9 : wordsL c (l.take (k + 1)) = wordsL c (l.take k) ++ [[]] := by
     obtain ⟨q1, q2⟩ := List.getElem?_eq_some_iff.1 hc
     rw [← List.take_append_getElem q1, q2, e, wordsL_sep]
    have LW : (wordsL c (l.take k)).length ≤ 100001 := by
     have := wordsL_len c (l.take k)
     rw [List.length_take] at this
     omega
    replace E9 := Lib.hid E9
    have H63 : Hid ((wordsL c (l.take k)).length + 1 ≤ maxLen) := Lib.hid (by simp [maxLen]; omega)
    have H64 : Hid (((wordsL c (l.take k)).length + 1) * 16 ≤ 140737488355328) := Lib.hid (by omega)
    have BB : Hid (Below wr.heap.size wr (wr.alloc (.cells #[.string ⟨#[]⟩] 9))) := Lib.hid (Bal (Below.refl _ _) _)
    have OB := Lib.hid (OW.out.next BB.out)
    have SM : Hid ((wr.alloc (.cells #[.string ⟨#[]⟩] 9)).heap[wr.heap.size]? = some (.cells #[.string ⟨#[]⟩] 9)) := Lib.hid (blk_new wr _)
    have LB : Hid (w.heap.size ≤ (wr.alloc (.cells #[.string ⟨#[]⟩] 9)).heap.size) := Lib.hid (Nat.le_trans NN.out.size BB.out.size)
    clear hc e LW
    go_wp2_with (at_builtin; refine wpList_append_rd _ rfl _ _ 53 rfl w.heap.size 9 i0 (.string ⟨#[]⟩) 1 16 und_strs HI.out.1 HI.out.2.1 HI.out.2.2.1 HI.out.2.2.2 rfl (by decide) (.slice A0 (wordsL c (l.take k)).length c0) _ _ rfl OB.out (some ⟨wr.heap.size, 0, none⟩) 1 1 [.string ⟨#[]⟩] rfl (Rd.blk SM.out rfl) (by simp [Value.oneCell']) H63.out H64.out LB.out ?_; intro v9 w9 o9 g9 t9)
    have BG := Lib.hid (own_grown OB.out g9 LB.out)
    have O9 : Hid (OS w.heap.size w9 v9 (wordsL c (l.take (k + 1)))) := Lib.hid (by rw [E9.out]; unfold OS strv; rw [List.map_append, List.length_append]; exact o9)
    go_roundw
    case rel => exact ⟨k + 1, kk, by go_num, Lib.hid ((NN.out.trans (BB.out.mono NN.out.size)).trans BG.out), O9⟩
    case measure => simp [intOf]; omega
   ·have e1 : ((s[k].toNat : Int) == (c.toNat : Int)) = false := by
     rw [beq_eq_false_iff_ne]
     intro h
     exact e (UInt8.toNat_inj.1 (Int.ofNat_inj.1 h))
    obtain ⟨ys, y, m1, m2⟩ := wordsL_more e (l.take k)
    have E9 : wordsL c (l.take (k + 1)) = ys ++ [y ++ [s[k]]] := by
     obtain ⟨q1, q2⟩ := List.getElem?_eq_some_iff.1 hc
     rw [← List.take_append_getElem q1, q2, m2]
    have LW : (wordsL c (l.take k)).length ≤ 100001 := by
     have := wordsL_len c (l.take k)
     rw [List.length_take] at this
     omega
    rw [m1] at OW LW hn0 ⊢
    rw [List.length_append, List.length_singleton] at LW hn0 ⊢
    generalize hm : ys.length = m at LW hn0 ⊢
    replace OW : Hid (OS w.heap.size wr (.slice A0 (m + 1) c0) (ys ++ [y])) := Lib.hid (by have h := OW.out; rw [List.length_append, List.length_singleton, hm] at h; exact h)
    obtain ⟨g, cur, e0, hb, hg, hcy⟩ := OW.out.blk (by simp)
    subst e0
    have OG := Lib.hid hg
    have CY : Hid (cur[m]? = some (Str y)) := Lib.hid (hcy m y (by simp [← hm]))
    have HB9 := Lib.hid hb
    replace E9 := Lib.hid E9
    have HM9 := Lib.hid hm
    have MB : m ≤ 100000 := by omega
    have KB : k ≤ 100000 := by omega
    have YB : Hid (y.length ≤ 100000) := Lib.hid (by have h := wordsL_part c (l.take k) y (by rw [m1]; simp); rw [List.length_take] at h; omega)
    have wM : IntKind.i64.wrap (m : Int) = (m : Int) := IntWalk.i64_in _ (by omega)
    have wK : IntKind.i64.wrap ((k : Int) + 1) = (k : Int) + 1 := IntWalk.i64_in _ (by omega)
    clear hg hb hcy m1 m2 hc hm e LW hn0
    go_upto_region 7 with fail
    have HDRW := Lib.hid (Below.drew (Below.refl wr.heap.size wr))
    replace NN := Lib.hid (Bgo NN.out HDRW.out)
    replace OW := Lib.hid (OS.next OW.out HDRW.out)
    replace OG := Lib.hid (blk_next HDRW.out OG.out)
    clear HDRW
    have HAL : Hid (∀ kx9 : Nat, GK [(9, g, .cells cur 9)] kx9 wr.drew) := Lib.hid (fun kx9 => fun px9 hp e => by
     simp only [List.mem_cons, List.not_mem_nil, or_false] at hp
     subst hp
     exact OG.out
    )
    refine region_G (S := GK [(9, g, .cells cur 9)]) (by kernel_rfl) ?_
    refine tG 0 (.slice (some ⟨g, 0, none⟩) (m + 1) c0) (some 22) (GK.grow _) rfl (YieldsIf.toG (Or.inl ⟨by rfl, ?_⟩)) (GK.drop (by simp)) ?_
    ·intro X hX
     clear hX
     go_simp
     all_goals (first | (intro h9; exfalso; omega) | (rw [if_pos (by omega), if_pos (by omega)]) | (have := YB.out; omega))
    try simp only [Act.put, zA, zB, zC]
    refine tG 1 (.slice (some ⟨g, 0, none⟩) (m + 1) c0) (some 23) (GK.grow _) rfl (YieldsIf.toG (Or.inl ⟨by rfl, ?_⟩)) (GK.drop (by simp)) ?_
    ·intro X hX
     clear hX
     go_simp
     all_goals (first | (intro h9; exfalso; omega) | (rw [if_pos (by omega), if_pos (by omega)]) | (have := YB.out; omega))
    try simp only [Act.put, zA, zB, zC]
    refine tG 2 (.int .i64 ((m + 1 : Nat) : Int)) (some 24) (GK.grow _) rfl (YieldsIf.toG (Or.inl ⟨by rfl, ?_⟩)) (GK.drop (by simp)) ?_
    ·intro X hX
     clear hX
     go_simp
     all_goals (first | (intro h9; exfalso; omega) | (rw [if_pos (by omega), if_pos (by omega)]) | (have := YB.out; omega))
    try simp only [Act.put, zA, zB, zC]
    refine tG 3 (.int .i64 (m : Int)) (some 25) (GK.grow _) rfl (YieldsIf.toG (Or.inl ⟨by rfl, ?_⟩)) (GK.drop (by simp)) ?_
    ·intro X hX
     clear hX
     go_simp
     all_goals (first | (intro h9; exfalso; omega) | (rw [if_pos (by omega), if_pos (by omega)]) | (have := YB.out; omega))
    try simp only [Act.put, zA, zB, zC]
    refine tG 4 (.slice (some ⟨g, 0, none⟩) (m + 1) c0) (some 26) (GK.grow _) rfl (YieldsIf.toG (Or.inl ⟨by rfl, ?_⟩)) (GK.drop (by simp)) ?_
    ·intro X hX
     clear hX
     go_simp
     all_goals (first | (intro h9; exfalso; omega) | (rw [if_pos (by omega), if_pos (by omega)]) | (have := YB.out; omega))
    try simp only [Act.put, zA, zB, zC]
    refine tG 5 (.slice (some ⟨g, 0, none⟩) (m + 1) c0) (some 27) (GK.grow _) rfl (YieldsIf.toG (Or.inl ⟨by rfl, ?_⟩)) (GK.drop (by simp)) ?_
    ·intro X hX
     clear hX
     go_simp
     all_goals (first | (intro h9; exfalso; omega) | (rw [if_pos (by omega), if_pos (by omega)]) | (have := YB.out; omega))
    try simp only [Act.put, zA, zB, zC]
    refine tG 6 (.int .i64 ((m + 1 : Nat) : Int)) (some 28) (GK.grow _) rfl (YieldsIf.toG (Or.inl ⟨by rfl, ?_⟩)) (GK.drop (by simp)) ?_
    ·intro X hX
     clear hX
     go_simp
     all_goals (first | (intro h9; exfalso; omega) | (rw [if_pos (by omega), if_pos (by omega)]) | (have := YB.out; omega))
    try simp only [Act.put, zA, zB, zC]
    refine tG 7 (.int .i64 (m : Int)) (some 29) (GK.grow _) rfl (YieldsIf.toG (Or.inl ⟨by rfl, ?_⟩)) (GK.drop (by simp)) ?_
    ·intro X hX
     clear hX
     go_simp
     all_goals (first | (intro h9; exfalso; omega) | (rw [if_pos (by omega), if_pos (by omega)]) | (have := YB.out; omega))
    try simp only [Act.put, zA, zB, zC]
    refine tG 8 (.pointer (some ⟨g, m, none⟩)) (some 30) (GK.grow _) rfl (YieldsIf.toG (Or.inl ⟨by rfl, ?_⟩)) (GK.drop (by simp)) ?_
    ·intro X hX
     clear hX
     go_simp
     all_goals (first | (intro h9; exfalso; omega) | (rw [if_pos (by omega), if_pos (by omega)]) | (have := YB.out; omega))
    try simp only [Act.put, zA, zB, zC]
    refine tG 9 (Str y) (some 31) (GK.grow _) rfl (YieldsIf.toG (Or.inl ⟨by rfl, ?_⟩)) (HAL.out 9) ?_
    ·intro X hX
     have hh := hX (9, g, .cells cur 9) (List.Mem.head _) rfl
     have hh0 := blk_cell hh (m + 0) _ CY.out
     simp only [Nat.add_zero] at hh0
     have hhl := blk_lt hh
     clear hh
     clear hX
     go_simp
     all_goals (first | (intro h9; exfalso; omega) | (rw [if_pos (by omega), if_pos (by omega)]) | (have := YB.out; omega))
    try simp only [Act.put, zA, zB, zC]
    refine tG 10 (.string s) (some 32) (GK.grow _) rfl (YieldsIf.toG (Or.inl ⟨by rfl, ?_⟩)) (GK.drop (by simp)) ?_
    ·intro X hX
     clear hX
     go_simp
     all_goals (first | (intro h9; exfalso; omega) | (rw [if_pos (by omega), if_pos (by omega)]) | (have := YB.out; omega))
    try simp only [Act.put, zA, zB, zC]
    refine tG 11 (.int .i64 (k : Int)) (some 33) (GK.grow _) rfl (YieldsIf.toG (Or.inl ⟨by rfl, ?_⟩)) (GK.drop (by simp)) ?_
    ·intro X hX
     clear hX
     go_simp
     all_goals (first | (intro h9; exfalso; omega) | (rw [if_pos (by omega), if_pos (by omega)]) | (have := YB.out; omega))
    try simp only [Act.put, zA, zB, zC]
    refine tG 12 (.int .i64 (k : Int)) (some 34) (GK.grow _) rfl (YieldsIf.toG (Or.inl ⟨by rfl, ?_⟩)) (GK.drop (by simp)) ?_
    ·intro X hX
     clear hX
     go_simp
     all_goals (first | (intro h9; exfalso; omega) | (rw [if_pos (by omega), if_pos (by omega)]) | (have := YB.out; omega))
    try simp only [Act.put, zA, zB, zC]
    refine tG 13 (.int .i64 ((k : Int) + 1)) (some 35) (GK.grow _) rfl (YieldsIf.toG (Or.inl ⟨by rfl, ?_⟩)) (GK.drop (by simp)) ?_
    ·intro X hX
     clear hX
     go_simp
     all_goals (first | (intro h9; exfalso; omega) | (rw [if_pos (by omega), if_pos (by omega)]) | (have := YB.out; omega))
    try simp only [Act.put, zA, zB, zC]
    refine tG 14 (.string (s.extract k (k + 1))) (some 36) (GK.grow _) rfl (YieldsIf.toG (Or.inl ⟨by rfl, ?_⟩)) (GK.drop (by simp)) ?_
    ·intro X hX
     clear hX
     go_simp
     all_goals (first | (intro h9; exfalso; omega) | (rw [if_pos (by omega), if_pos (by omega)]) | (have := YB.out; omega))
    try simp only [Act.put, zA, zB, zC]
    refine tG 15 (.string ((⟨y.toArray⟩ : ByteArray) ++ s.extract k (k + 1))) (some 37) (GK.grow _) rfl (YieldsIf.toG (Or.inl ⟨by rfl, ?_⟩)) (GK.drop (by simp)) ?_
    ·intro X hX
     clear hX
     go_simp
     all_goals (first | (intro h9; exfalso; omega) | (rw [if_pos (by omega), if_pos (by omega)]) | (have := YB.out; omega))
    try simp only [Act.put, zA, zB, zC]
    refine tG 16 (.pointer (some ⟨g, m, none⟩)) (some 38) (GK.grow _) rfl (YieldsIf.toG (Or.inl ⟨by rfl, ?_⟩)) (GK.drop (by simp)) ?_
    ·intro X hX
     clear hX
     go_simp
     all_goals (first | (intro h9; exfalso; omega) | (rw [if_pos (by omega), if_pos (by omega)]) | (have := YB.out; omega))
    try simp only [Act.put, zA, zB, zC]
    refine only_G 17 (by kernel_rfl) rfl (fun X1 hX K' hK' => ?_)
    replace NN := Lib.hid (Bgo NN.out hX)
    replace OW := Lib.hid (OS.next OW.out hX)
    replace OG := Lib.hid (blk_next hX OG.out)
    replace HAL := Lib.hid (fun kx9 => GK.grow _ _ _ _ (HAL.out kx9) hX)
    clear hX
    have ch9 := blk_cell OG.out m _ CY.out
    have fh9 := blk_frozen OG.out m
    have lh9 := blk_lt OG.out
    go_simp
    clear ch9 fh9 lh9
    refine hK'.out _ _ (fun kk hk hS => ?_) ?_
    ·have HN : ∀ px9 ∈ ([(9, g, .cells cur 9)] : List (Nat × Nat × Obj)), px9.1 = kk → px9.2.1 ≠ g := fun px9 hp e => by
      simp only [List.mem_cons, List.not_mem_nil, or_false] at hp
      subst hp
      subst e
      exact bfl (by kernel_rfl) hk
     exact GK.set hS HN
    clear hK' K'
    try simp only [Act.put, zA, zB, zC]
    clear HAL
    have EX : (⟨y.toArray⟩ : ByteArray) ++ s.extract k (k + 1) = ⟨(y ++ [s[k]]).toArray⟩ := by rw [str_one s k kk, cat2]
    replace OW : Hid (OS w.heap.size (X1.setCell ⟨g, m, none⟩ (.string ((⟨y.toArray⟩ : ByteArray) ++ s.extract k (k + 1)))) (.slice (some ⟨g, 0, none⟩) (m + 1) c0) (ys ++ [y ++ [s[k]]])) := Lib.hid (by rw [EX]; exact OW.out.set HM9.out (y ++ [s[k]]))
    replace NN : Hid (Below w.heap.size w (X1.setCell ⟨g, m, none⟩ (.string ((⟨y.toArray⟩ : ByteArray) ++ s.extract k (k + 1))))) := Lib.hid (Bset1 NN.out HB9.out m _)
    clear OG CY EX
    refine done_G (by kernel_rfl) (fun X2 hX => ?_) _
    replace NN := Lib.hid (Bgo NN.out hX)
    replace OW := Lib.hid (OS.next OW.out hX)
    clear hX
    go_wp2_with fail
    go_roundw
    case rel => exact ⟨k + 1, kk, by go_num, NN, Lib.hid (by rw [E9.out]; exact OW.out)⟩
    case measure => simp [intOf]; omega
  ·have hke : k = s.size := by omega
   have LT : l.take k = l := by rw [hke, ← SL.out, List.take_length]
   rw [LT] at OW ⊢
   generalize hn9 : (wordsL c l).length = n9 at hn0 ⊢
   go_wp2_with fail
   exact bodyPost_ret (v := .slice A0 n9 c0) (by simp [results, Tryz.results35, go_sem]) rfl ⟨_, rfl, NN.out, by rw [← hn9]; exact OW.out⟩
end Go.Proofs.YtbbnkclajpaghaaGreatDoor
