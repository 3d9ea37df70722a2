/- Several texts in one. -/
import Derived.OwnWalk
import Derived.Test.YtbbnkclajpaghaaGreatDoorMS03
import Derived.Test.YtbbnkclajpaghaaGreatDoorMS10
import Derived.Test.YtbbnkclajpaghaaGreatDoorMS12
namespace Go.Proofs.YtbbnkclajpaghaaGreatDoor
open Go.ChangeShapes Go.WideShapes Go.ChangeAt Go.RowKit
set_option linter.unusedVariables false
set_option linter.unusedSimpArgs false
attribute [local go_sem ↓] Go.wp_at_zero Go.wp_at_succ
def paE (s : List UInt8) : Int := if 20000 < s.length then 4 else match parP s with
 | some _ => 0
 | none => 12
def paL (s : List UInt8) : List Vr := if 20000 < s.length then [] else match parP s with
 | some t => t
 | none => []
theorem pa_none {s : List UInt8} (h0 : ¬ 20000 < s.length) (h : parP s = none) : paE s = 12 ∧ paL s = [] := by unfold paE paL; rw [if_neg h0, if_neg h0, h]; exact ⟨rfl, rfl⟩
theorem pa_some {s : List UInt8} {t : List Vr} (h0 : ¬ 20000 < s.length) (h : parP s = some t) : paE s = 0 ∧ paL s = t := by unfold paE paL; rw [if_neg h0, if_neg h0, h]; exact ⟨rfl, rfl⟩
theorem pa_long {s : List UInt8} (h0 : 20000 < s.length) : paE s = 4 ∧ paL s = [] := by unfold paE paL; rw [if_pos h0, if_pos h0]; exact ⟨rfl, rfl⟩
theorem allO_len {f : List UInt8 → Option Vr} : ∀ {ls : List (List UInt8)} {t : List Vr}, allO f ls = some t → t.length = ls.length
 | [], t, h => by
  unfold allO at h
  injection h with h
  subst h; rfl
 | l :: ls, t, h => by
  unfold allO at h
  split at h
  ·rename_i r t' h1 h2
   injection h with h
   subst h
   rw [List.length_cons, List.length_cons, allO_len h2]
  ·cases h
theorem allO_none {f : List UInt8 → Option Vr} {x : List UInt8} (hf : f x = none) : ∀ {ls : List (List UInt8)}, x ∈ ls → allO f ls = none
 | [], h => by cases h
 | l :: ls, h => by
  unfold allO
  rcases List.mem_cons.1 h with rfl | h
  ·rw [hf]
  ·rw [allO_none hf h]
   split
   ·rename_i h1 h2; cases h2
   ·rfl
theorem allO_snoc {f : List UInt8 → Option Vr} {x : List UInt8} {r : Vr} (hr : f x = some r) : ∀ {a : List (List UInt8)} {t : List Vr}, allO f a = some t → allO f (a ++ [x]) = some (t ++ [r])
 | [], t, h => by
  unfold allO at h
  injection h with h
  subst h
  show allO f [x] = some [r]
  unfold allO
  rw [hr]; rfl
 | l :: ls, t, h => by
  unfold allO at h
  split at h
  ·rename_i r' t' h1 h2
   injection h with h
   subst h
   rw [List.cons_append]
   unfold allO
   rw [h1, allO_snoc hr h2]; rfl
  ·cases h
theorem parP_many {s : List UInt8} (h : 200 < (wordsL 10 s).dropLast.length) : parP s = none := by
 rw [← parR_eq]
 unfold parR
 split
 ·rename_i t ht
  rw [if_neg]
  intro hh
  have := (chk_rows hh.2).1
  have := allO_len ht
  omega
 ·rfl
theorem parP_bad {s x : List UInt8} (hx : x ∈ (wordsL 10 s).dropLast) (h : prR x = none) : parP s = none := by
 rw [← parR_eq]
 unfold parR
 rw [allO_none h hx]
theorem parP_end {s : List UInt8} {t : List Vr} (h : allO prR (wordsL 10 s).dropLast = some t) : parP s = if (wordsL 10 s).getLast? = some [] ∧ chkE t = 0 then some t else none := by
 rw [← parR_eq]
 unfold parR
 rw [h]
theorem prR_count {l : List UInt8} (h : (wordsL 32 l).length ≠ 7) : prR l = none := by
 unfold prR
 split
 ·rename_i e; rw [e] at h; exact absurd rfl h
 ·rfl
theorem prR_seven {l a b c d e f g : List UInt8} (h : wordsL 32 l = [a, b, c, d, e, f, g]) : prR l = if (prC e).2.2 = 0 ∧ (prC f).2.2 = 0 then (match valO (prC e).1 (prC e).2.1 (prC f).1 (prC f).2.1 with
  | none => none
  | some (x, y, D) => if rowB ⟨numbL a, numbL b, numbL c, numbL d, x, y, D, numbL g⟩ = true ∧ lnL ⟨numbL a, numbL b, numbL c, numbL d, x, y, D, numbL g⟩ = l then some ⟨numbL a, numbL b, numbL c, numbL d, x, y, D, numbL g⟩ else none) else none := by
 unfold prR; rw [h]; rfl
theorem prC_vf {l : List UInt8} {n d : Int} (h : prC l = (n, d, 0)) : VF n d := by
 rcases prC_form l with ⟨n', d', v, -, e⟩ | e
 ·rw [h] at e
  injection e with a b
  injection b with b c
  subst a b
  exact v
 ·rw [h] at e
  injection e with _ b
  injection b with _ c
  cases c
theorem seven {α : Type} {l : List α} (h : l.length = 7) : ∃ a b c d e f g, l = [a, b, c, d, e, f, g] := by
 match l, h with
 | [a, b, c, d, e, f, g], _ => exact ⟨a, b, c, d, e, f, g, rfl⟩
theorem rparse_frac (l : List UInt8) (hl : l.length ≤ 100000) (w : World) : Calls Tryz.prog 36 #[Str l] w fun e w' => e = .returned (.tuple #[Fv (prC l).1 (prC l).2.1, .int .i64 (prC l).2.2]) ∧ Below w.heap.size w w' := by
 refine (refParse_calls ⟨l.toArray⟩ w (show l.toArray.size ≤ 100000 by simpa using hl)).mono ?_
 rintro e w' ⟨r, rfl, hp, hb⟩
 have e := hp.eq
 simp only [List.toList_toArray] at e
 rw [e]
 exact ⟨rfl, hb⟩
theorem words_of (l : List UInt8) (c : UInt8) (v : Value) (hv : v = .int .u8 (c.toNat : Int)) (w : World) (hl : l.length ≤ 100000) : Calls Tryz.prog 35 #[Str l, v] w fun e w' => ∃ v, e = .returned v ∧ Below w.heap.size w w' ∧ OS w.heap.size w' v (wordsL c l) := by
 subst hv
 have := words_calls ⟨l.toArray⟩ c w (show l.toArray.size ≤ 100000 by simpa using hl)
 simp only [List.toList_toArray] at this
 exact this
theorem numb_of (l : List UInt8) (w : World) (hl : l.length ≤ 100000) : Calls Tryz.prog 38 #[Str l] w fun e w' => e = .returned (.int .i64 (numbL l)) ∧ Below w.heap.size w w' := by
 refine (numb_calls ⟨l.toArray⟩ w (show l.toArray.size ≤ 100000 by simpa using hl)).mono ?_
 rintro e w' ⟨rfl, rfl⟩
 exact ⟨by simp, Below.refl _ _⟩
theorem OS.form {B : Nat} {W : World} {v : Value} {l : List (List UInt8)} (h : OS B W v l) (h0 : l ≠ []) : ∃ g cur cap, v = .slice (some ⟨g, 0, none⟩) l.length cap ∧ l.length ≤ cap ∧ cap ≤ 9223372036854775807 ∧ B ≤ g ∧ W.heap[g]? = some (.cells cur 9) ∧ ∀ (j : Nat) (x : List UInt8), l[j]? = some x → cur[j]? = some (Str x) := by
 obtain ⟨A, cap, hv, h1, h2, -⟩ := Rd.of_own h
 subst hv
 obtain ⟨g, cur, rfl, h3, h4, h5⟩ := h.blk h0
 exact ⟨g, cur, cap, rfl, h1, h2, h3, h4, h5⟩
theorem wpList_appU {w : World} {ops : Array Oper} {rest : List Oper} {o : Oper} {a : Act} {Q : Exit → Act → World → Prop}
  (hg : o.guard = none) (s x : Operand) (hop : o.op = Op.call { callee := Callee.builtin Builtin.append, args := #[s, x], argTypes := #[22, 22] })
  (B : Nat) (v : Value) (l : List Vr) (hs : a.eval s = v) (A : Option Addr) (m c : Nat) (l2 : List Vr) (hx : a.eval x = .slice A m c)
  (hown : OR B w v l) (hm : l2.length = m) (hr : RT w A l2) (hb : l.length + m ≤ 1000) (hB : B ≤ w.heap.size)
  (hK : ∀ v' w', OR B w' v' (l ++ l2) → Below B w w' → wpList Tryz.prog ops Q rest (a.put o.dst v') w') : wpList Tryz.prog ops Q (o :: rest) a w := by
 subst hm
 obtain ⟨i, hi, hz, hsz, hby⟩ := info_parts infoV
 refine wpList_append_rd w hg s x 22 hop B 44 i _ 8 64 und_vis hi hz hsz hby rfl (by decide) v l.length (vrc l) hs hown A l2.length c (vrc l2) hx hr (vrc_one l2) (by simp [maxLen]; omega) (by omega) hB ?_
 intro v' w' r1 r2 r3
 exact hK v' w' (by unfold OR; rw [List.length_append, vrc_append]; exact r1) (hown.grown r2 hB)
theorem wpList_app1 {w : World} {ops : Array Oper} {rest : List Oper} {o : Oper} {a : Act} {Q : Exit → Act → World → Prop}
  (hg : o.guard = none) (s x : Operand) (hop : o.op = Op.call { callee := Callee.builtin Builtin.append, args := #[s, x], argTypes := #[22, 22] })
  (B : Nat) (v : Value) (l : List Vr) (hs : a.eval s = v) (A : Option Addr) (r : Vr) (hx : a.eval x = .slice A 1 1)
  (hown : OR B w v l) (hr : RT w A [r]) (hb : l.length ≤ 900) (hB : B ≤ w.heap.size)
  (hK : ∀ A1 c1 w', OR B w' (.slice A1 (l.length + 1) c1) (l ++ [r]) → Below B w w' → wpList Tryz.prog ops Q rest (a.put o.dst (.slice A1 (l.length + 1) c1)) w') : wpList Tryz.prog ops Q (o :: rest) a w := by
 refine wpList_appU hg s x hop B v l hs A 1 1 [r] hx hown rfl hr (by omega) hB ?_
 intro v' w' h1 h2
 obtain ⟨A1, c1, hv, -⟩ := OR.form h1
 rw [List.length_append, List.length_singleton] at hv
 subst hv
 exact hK A1 c1 w' h1 h2
set_option maxRecDepth 100000 in
set_option maxHeartbeats 16000000 in
theorem rparse_calls (s : ByteArray) (w : World) (hs : s.size ≤ 30000) : Calls Tryz.prog 12 #[.string s] w fun e w' => ∃ v, e = .returned (.tuple #[v, .int .i64 (paE s.data.toList)]) ∧ Below w.heap.size w w' ∧ OR w.heap.size w' v (paL s.data.toList) := by
 have NN := Lib.hid (Below.refl w.heap.size w)
 have SL := s_len s
 have WC := Lib.hid (fun W => words_calls s 10 W (by omega))
 obtain ⟨l, hl⟩ : ∃ l, s.data.toList = l := ⟨_, rfl⟩
 rw [hl] at SL WC ⊢
 clear hl
 by_cases h0 : 20000 < s.size
 ·have PA := pa_long (s := l) (by omega)
  have d1 : decide ((20000 : Int) < (s.size : Int)) = true := decide_eq_true (by omega)
  rw [PA.1, PA.2]
  clear PA WC SL
  go_enter Tryz.func12, Tryz.ntmps12
  go_wp2_with fail
  exact bodyPost_ret (v := .tuple #[.slice none 0 0, .int .i64 4]) (by simp [results, Tryz.results12, go_sem]) rfl ⟨_, rfl, NN.out, OR.nil _ _⟩
 have d1 : decide ((20000 : Int) < (s.size : Int)) = false := decide_eq_false (by omega)
 have PN := Lib.hid (fun (h : parP l = none) => pa_none (by omega) h)
 have PS := Lib.hid (fun t (h : parP l = some t) => pa_some (by omega) h)
 have LB : l.length ≤ 20000 := by omega
 have WM := Lib.hid (fun h => parP_many (s := l) h)
 have WB := Lib.hid (fun x hx h => parP_bad (s := l) (x := x) hx h)
 have WE := Lib.hid (fun t h => parP_end (s := l) (t := t) h)
 have WP := Lib.hid (fun x hx => Nat.le_trans (wordsL_part 10 l x hx) LB)
 have WL := wordsL_len 10 l
 have WN := wordsL_ne 10 l
 generalize paE l = pe at *
 generalize paL l = pl at *
 generalize wordsL 10 l = L at *
 generalize parP l = PP at *
 go_enter Tryz.func12, Tryz.ntmps12
 go_wp2_with fail
 refine (WC.out _).mono ?_
 rintro e wl ⟨v, rfl, NW, hov⟩
 obtain ⟨gl, cl, cap, rfl, hcap, hcap', hgl, hbl, hcl⟩ := hov.form WN
 obtain ⟨N, hN⟩ : ∃ N, L.length = N := ⟨_, rfl⟩
 rw [hN] at hcap ⊢
 have NL : N ≤ 20001 := by omega
 have LN : L.dropLast.length = N - 1 := by rw [List.length_dropLast, hN]
 have N1 : 1 ≤ N := by rw [← hN]; exact List.length_pos_iff.2 WN
 clear NN d1 SL LB hs h0 hov WC WL
 have NW := Lib.hid NW
 have HGL := Lib.hid hgl
 have HCL := Lib.hid hcl
 have OGL := Lib.hid hbl
 have HLT : Hid (gl < wl.heap.size) := Lib.hid (blk_lt hbl)
 have HN := Lib.hid hN
 have HLN := Lib.hid LN
 clear hgl hcl hbl hN LN
 have NN := Lib.hid (Below.refl wl.heap.size wl)
 go_wp2_with fail
 go_loopw [4, 6] (fun v i wr => ∃ (k : Nat) (t : List Vr) (A : Option Addr) (c : Nat), k + 1 ≤ N ∧ i = .int .i64 k ∧ v = .slice A t.length c ∧ Hid (t.length = k) ∧ Hid (allO prR (L.dropLast.take k) = some t) ∧ Hid (OR wl.heap.size wr v t) ∧ Hid (Below wl.heap.size wl wr) ∧ Hid (wr.heap[gl]? = some (.cells cl 9))) (fun v i _ => N - (intOf i).toNat)
 case atStart => exact ⟨0, [], none, 0, N1, rfl, rfl, Lib.hid rfl, Lib.hid rfl, Lib.hid (OR.nil _ _), NN, OGL⟩
 case round =>
  clear NN OGL
  obtain ⟨k, t, A, ct, hk, rfl, rfl, TL, TA, OT, NN, OGL⟩ := hrel
  have wK : IntKind.i64.wrap ((k : Int) + 1) = (k : Int) + 1 := IntWalk.i64_in _ (by omega)
  by_cases hlt : k + 1 < N
  ·obtain ⟨ln, hln⟩ : ∃ ln, L.dropLast[k]? = some ln := ⟨_, List.getElem?_eq_getElem (by have := HLN.out; omega)⟩
   have MEM := Lib.hid (List.mem_of_getElem? hln)
   have LK : L[k]? = some ln := by rw [List.getElem?_dropLast] at hln; split at hln; exact hln; cases hln
   have CK := Lib.hid (HCL.out k ln LK)
   have LB := WP.out ln (List.mem_of_getElem? LK)
   have HLK := Lib.hid hln
   clear LK hln
   have WC7 := Lib.hid (fun W => words_of ln 32 (.int .u8 32) rfl W (by omega))
   have ck := blk_cell OGL.out k _ CK.out
   have lk := blk_lt OGL.out
   go_wp2_with fail
   refine (WC7.out _).mono ?_
   rintro e w1 ⟨v7, rfl, hb, ho7⟩
   clear ck lk
   obtain ⟨g7, c7, cap7, rfl, hcap7, hcap7', hg7, hb7, hc7⟩ := ho7.form (wordsL_ne 32 ln)
   clear ho7
   have OG7 := Lib.hid hb7
   have HG7 := Lib.hid hg7
   have HC7 := Lib.hid hc7
   clear hb7 hg7 hc7
   replace NN := Lib.hid (Bgo NN.out hb)
   replace OT := Lib.hid (OR.next OT.out hb)
   replace OGL := Lib.hid (blk_next hb OGL.out)
   clear hb
   by_cases h7 : (wordsL 32 ln).length = 7
   ·rw [h7] at hcap7 ⊢
    obtain ⟨f0, f1, f2, f3, f4, f5, f6, e7⟩ := seven h7
    have WP7 := Lib.hid (fun x hx => Nat.le_trans (wordsL_part 32 ln x hx) LB)
    rw [e7] at HC7 WP7
    have Y0 := Lib.hid (HC7.out 0 f0 rfl)
    have Y1 := Lib.hid (HC7.out 1 f1 rfl)
    have Y2 := Lib.hid (HC7.out 2 f2 rfl)
    have Y3 := Lib.hid (HC7.out 3 f3 rfl)
    have Y4 := Lib.hid (HC7.out 4 f4 rfl)
    have Y5 := Lib.hid (HC7.out 5 f5 rfl)
    have Y6 := Lib.hid (HC7.out 6 f6 rfl)
    have B0 : f0.length ≤ 100000 := Nat.le_trans (WP7.out f0 (by simp)) (by decide)
    have B1 : f1.length ≤ 100000 := Nat.le_trans (WP7.out f1 (by simp)) (by decide)
    have B2 : f2.length ≤ 100000 := Nat.le_trans (WP7.out f2 (by simp)) (by decide)
    have B3 : f3.length ≤ 100000 := Nat.le_trans (WP7.out f3 (by simp)) (by decide)
    have B4 : f4.length ≤ 100000 := Nat.le_trans (WP7.out f4 (by simp)) (by decide)
    have B5 : f5.length ≤ 100000 := Nat.le_trans (WP7.out f5 (by simp)) (by decide)
    have B6 : f6.length ≤ 100000 := Nat.le_trans (WP7.out f6 (by simp)) (by decide)
    have PR7 := Lib.hid (prR_seven e7)
    clear HC7 WP7 h7
    by_cases hm : 200 < t.length
    ·have q8 : decide ((200 : Int) < (t.length : Int)) = true := decide_eq_true (by omega)
     have E0 := Lib.hid (PN.out (WM.out (by have := HLN.out; have := TL.out; omega)))
     clear PR7 WB WE WM PN PS B0 B1 B2 B3 B4 B5 B6 LB
     go_wp2_with fail
     exact bodyPost_ret (v := .tuple #[.slice none 0 0, .int .i64 12]) (by simp [results, Tryz.results12, go_sem]) rfl ⟨_, by rw [E0.out.1], NW.out.trans (NN.out.mono NW.out.size), by rw [E0.out.2]; exact OR.nil _ _⟩
    have q8 : decide ((200 : Int) < (t.length : Int)) = false := decide_eq_false (by omega)
    have P4 := Lib.hid (fun W => rparse_frac f4 B4 W)
    have P5 := Lib.hid (fun W => rparse_frac f5 B5 W)
    have M0 := Lib.hid (fun W => numb_of f0 W B0)
    have M1 := Lib.hid (fun W => numb_of f1 W B1)
    have M2 := Lib.hid (fun W => numb_of f2 W B2)
    have M3 := Lib.hid (fun W => numb_of f3 W B3)
    have M6 := Lib.hid (fun W => numb_of f6 W B6)
    have F4 := Lib.hid (fun n d (h : prC f4 = (n, d, 0)) => prC_vf h)
    have F5 := Lib.hid (fun n d (h : prC f5 = (n, d, 0)) => prC_vf h)
    generalize numbL f0 = m0 at *
    generalize numbL f1 = m1 at *
    generalize numbL f2 = m2 at *
    generalize numbL f3 = m3 at *
    generalize numbL f6 = m6 at *
    generalize prC f4 = p4 at *
    generalize prC f5 = p5 at *
    obtain ⟨n1, d1, e1⟩ := p4
    obtain ⟨n2, d2, e2⟩ := p5
    clear B0 B1 B2 B3 B4 B5 B6
    have c74 := blk_cell OG7.out 4 _ Y4.out
    have l7 := blk_lt OG7.out
    go_wp2_with fail
    clear c74 l7
    refine (P4.out _).mono ?_
    rintro e w2 ⟨rfl, hb⟩
    replace NN := Lib.hid (Bgo NN.out hb)
    replace OT := Lib.hid (OR.next OT.out hb)
    replace OGL := Lib.hid (blk_next hb OGL.out)
    replace OG7 := Lib.hid (blk_next hb OG7.out)
    clear hb
    go_upto_region 12 with fail
    have HB := Lib.hid (show Below w2.heap.size w2 (w2.alloc (.cells #[.int .i64 n1, .int .i64 d1] 83)) from (Bal (Below.refl _ _) _))
    have VA : Hid ((w2.alloc (.cells #[.int .i64 n1, .int .i64 d1] 83)).heap[w2.heap.size]? = some (.cells #[.int .i64 n1, .int .i64 d1] 83)) := Lib.hid (blk_new w2 _)
    have LT_VA : Hid (wl.heap.size ≤ w2.heap.size) := Lib.hid NN.out.size
    replace NN := Lib.hid (Bgo NN.out HB.out)
    replace OT := Lib.hid (OR.next OT.out HB.out)
    replace OGL := Lib.hid (blk_next HB.out OGL.out)
    replace OG7 := Lib.hid (blk_next HB.out OG7.out)
    clear HB
    generalize (w2.alloc (.cells #[.int .i64 n1, .int .i64 d1] 83)) = W3 at *
    generalize w2.heap.size = gA at *
    have c75 := blk_cell OG7.out 5 _ Y5.out
    have l7 := blk_lt OG7.out
    go_wp2_with fail
    clear c75 l7
    refine (P5.out _).mono ?_
    rintro e w4 ⟨rfl, hb⟩
    replace NN := Lib.hid (Bgo NN.out hb)
    replace OT := Lib.hid (OR.next OT.out hb)
    replace OGL := Lib.hid (blk_next hb OGL.out)
    replace OG7 := Lib.hid (blk_next hb OG7.out)
    replace VA := Lib.hid (blk_next hb VA.out)
    clear hb
    go_upto_region 13 with fail
    have HB := Lib.hid (show Below w4.heap.size w4 (w4.alloc (.cells #[.int .i64 n2, .int .i64 d2] 83)) from (Bal (Below.refl _ _) _))
    have VB : Hid ((w4.alloc (.cells #[.int .i64 n2, .int .i64 d2] 83)).heap[w4.heap.size]? = some (.cells #[.int .i64 n2, .int .i64 d2] 83)) := Lib.hid (blk_new w4 _)
    have LT_VB : Hid (gA < w4.heap.size ∧ wl.heap.size ≤ w4.heap.size) := Lib.hid ⟨blk_lt VA.out, NN.out.size⟩
    replace NN := Lib.hid (Bgo NN.out HB.out)
    replace OT := Lib.hid (OR.next OT.out HB.out)
    replace OGL := Lib.hid (blk_next HB.out OGL.out)
    replace OG7 := Lib.hid (blk_next HB.out OG7.out)
    replace VA := Lib.hid (blk_next HB.out VA.out)
    clear HB
    generalize (w4.alloc (.cells #[.int .i64 n2, .int .i64 d2] 83)) = W5 at *
    generalize w4.heap.size = gB at *
    clear P4 P5
    by_cases he : e1 = 0 ∧ e2 = 0
    ·obtain ⟨rfl, rfl⟩ := he
     have V1 := F4.out n1 d1 rfl
     have V2 := F5.out n2 d2 rfl
     have CV := Lib.hid (fun W => rvalue_calls V1 V2 W)
     clear F4 F5 V1 V2
     have RV : Hid ((valO n1 d1 n2 d2 = none ∧ (valR n1 d1 n2 d2).2.2.2 = 16) ∨ (valO n1 d1 n2 d2 = some ((valR n1 d1 n2 d2).1, (valR n1 d1 n2 d2).2.1, (valR n1 d1 n2 d2).2.2.1) ∧ (valR n1 d1 n2 d2).2.2.2 = 0)) := Lib.hid (by cases h : valO n1 d1 n2 d2 with | none => exact .inl ⟨rfl, by rw [valR_none h]⟩ | some q => obtain ⟨a, b, D⟩ := q; exact .inr ⟨by rw [valR_some h], by rw [valR_some h]⟩)
     generalize valR n1 d1 n2 d2 = R at *
     obtain ⟨va, vb, vD, ve⟩ := R
     simp only [Rc] at CV
     simp only at RV
     replace PR7 := Lib.hid (PR7.out.trans (if_pos ⟨rfl, rfl⟩))
     have c_VA_0 := blk_cell VA.out 0 _ rfl
     have f_VA_0 := blk_frozen VA.out 0
     have c_VA_1 := blk_cell VA.out 1 _ rfl
     have f_VA_1 := blk_frozen VA.out 1
     have l_VA := blk_lt VA.out
     have c_VB_0 := blk_cell VB.out 0 _ rfl
     have f_VB_0 := blk_frozen VB.out 0
     have c_VB_1 := blk_cell VB.out 1 _ rfl
     have f_VB_1 := blk_frozen VB.out 1
     have l_VB := blk_lt VB.out
     go_wp2_with fail
     clear c_VA_0 f_VA_0 c_VA_1 f_VA_1 l_VA c_VB_0 f_VB_0 c_VB_1 f_VB_1 l_VB
     refine (CV.out _).mono ?_
     rintro e w6 ⟨rfl, hb⟩
     replace NN := Lib.hid (Bgo NN.out hb)
     replace OT := Lib.hid (OR.next OT.out hb)
     replace OGL := Lib.hid (blk_next hb OGL.out)
     replace OG7 := Lib.hid (blk_next hb OG7.out)
     replace VA := Lib.hid (blk_next hb VA.out)
     replace VB := Lib.hid (blk_next hb VB.out)
     clear hb
     go_upto_region 16 with fail
     have HB := Lib.hid (show Below w6.heap.size w6 (w6.alloc (.cells #[.int .i64 va, .int .i64 vb, .int .i64 vD] 40)) from (Bal (Below.refl _ _) _))
     have VC : Hid ((w6.alloc (.cells #[.int .i64 va, .int .i64 vb, .int .i64 vD] 40)).heap[w6.heap.size]? = some (.cells #[.int .i64 va, .int .i64 vb, .int .i64 vD] 40)) := Lib.hid (blk_new w6 _)
     have LT_VC : Hid (gA < w6.heap.size ∧ gB < w6.heap.size ∧ wl.heap.size ≤ w6.heap.size) := Lib.hid ⟨blk_lt VA.out, blk_lt VB.out, NN.out.size⟩
     replace NN := Lib.hid (Bgo NN.out HB.out)
     replace OT := Lib.hid (OR.next OT.out HB.out)
     replace OGL := Lib.hid (blk_next HB.out OGL.out)
     replace OG7 := Lib.hid (blk_next HB.out OG7.out)
     replace VA := Lib.hid (blk_next HB.out VA.out)
     replace VB := Lib.hid (blk_next HB.out VB.out)
     clear HB
     generalize (w6.alloc (.cells #[.int .i64 va, .int .i64 vb, .int .i64 vD] 40)) = W7 at *
     generalize w6.heap.size = gC at *
     clear VA VB LT_VA LT_VB CV
     have NO := NN
     replace NN := Lib.hid (Below.refl W7.heap.size W7)
     have OG97 := OG7
     have HDRW := Lib.hid (Below.drew (Below.refl W7.heap.size W7))
     replace NN := Lib.hid (Bgo NN.out HDRW.out)
     replace OG7 := Lib.hid (blk_next HDRW.out OG7.out)
     replace VC := Lib.hid (blk_next HDRW.out VC.out)
     clear HDRW
     have HAL : Hid (∀ kx9 : Nat, GK [(2, g7, .cells c7 9), (6, g7, .cells c7 9), (10, g7, .cells c7 9), (14, g7, .cells c7 9), (16, gC, .cells #[.int .i64 va, .int .i64 vb, .int .i64 vD] 40), (19, g7, .cells c7 9)] kx9 W7.drew) := Lib.hid (fun kx9 => fun px9 hp e => by
      simp only [List.mem_cons, List.not_mem_nil, or_false] at hp
      rcases hp with rfl | rfl | rfl | rfl | rfl | rfl
      ·exact OG7.out
      ·exact OG7.out
      ·exact OG7.out
      ·exact OG7.out
      ·exact VC.out
      ·exact OG7.out
     )
     refine region_G (S := GK [(2, g7, .cells c7 9), (6, g7, .cells c7 9), (10, g7, .cells c7 9), (14, g7, .cells c7 9), (16, gC, .cells #[.int .i64 va, .int .i64 vb, .int .i64 vD] 40), (19, g7, .cells c7 9)]) (by kernel_rfl) ?_
     refine tG 0 (.slice (some ⟨g7, 0, none⟩) 7 cap7) (some 66) (GK.grow _) rfl (YieldsIf.toG (Or.inl ⟨by rfl, ?_⟩)) (GK.drop (by simp)) ?_
     ·intro X hX
      clear hX
      go_simp
     try simp only [Act.put, zA, zB, zC]
     refine tG 1 (.pointer (some ⟨g7, 0, none⟩)) (some 67) (GK.grow _) rfl (YieldsIf.toG (Or.inl ⟨by rfl, ?_⟩)) (GK.drop (by simp)) ?_
     ·intro X hX
      clear hX
      go_simp
     try simp only [Act.put, zA, zB, zC]
     refine tG 2 (Str f0) (some 68) (GK.grow _) rfl (YieldsIf.toG (Or.inl ⟨by rfl, ?_⟩)) (HAL.out 2) ?_
     ·intro X hX
      have hh := hX (2, g7, .cells c7 9) (List.Mem.head _) rfl
      have hh0 := blk_cell hh (0 + 0) _ Y0.out
      simp only [Nat.add_zero] at hh0
      have hhl := blk_lt hh
      clear hh
      clear hX
      go_simp
     try simp only [Act.put, zA, zB, zC]
     have CFn : ∀ (args : Array Value) (W : World), Sem.run Tryz.prog (callFunc 38 args) W = .ok (.enter 38 args) W := fun _ _ => by kernel_rfl
     refine tG 3 (.int .i64 m0) (some 69) (GK.grow _) rfl (yieldsG_call 38 #[Str f0] (by rfl) ?_ (fun X hS => M0.out X)) (GK.drop (by simp)) ?_
     ·intro X hX
      clear hX
      go_simp
     clear CFn
     try simp only [Act.put, zA, zB, zC]
     refine tG 4 (.slice (some ⟨g7, 0, none⟩) 7 cap7) (some 70) (GK.grow _) rfl (YieldsIf.toG (Or.inl ⟨by rfl, ?_⟩)) (GK.drop (by simp)) ?_
     ·intro X hX
      clear hX
      go_simp
     try simp only [Act.put, zA, zB, zC]
     refine tG 5 (.pointer (some ⟨g7, 1, none⟩)) (some 71) (GK.grow _) rfl (YieldsIf.toG (Or.inl ⟨by rfl, ?_⟩)) (GK.drop (by simp)) ?_
     ·intro X hX
      clear hX
      go_simp
     try simp only [Act.put, zA, zB, zC]
     refine tG 6 (Str f1) (some 72) (GK.grow _) rfl (YieldsIf.toG (Or.inl ⟨by rfl, ?_⟩)) (HAL.out 6) ?_
     ·intro X hX
      have hh := hX (6, g7, .cells c7 9) (List.Mem.tail _ (List.Mem.head _)) rfl
      have hh0 := blk_cell hh (1 + 0) _ Y1.out
      simp only [Nat.add_zero] at hh0
      have hhl := blk_lt hh
      clear hh
      clear hX
      go_simp
     try simp only [Act.put, zA, zB, zC]
     have CFn : ∀ (args : Array Value) (W : World), Sem.run Tryz.prog (callFunc 38 args) W = .ok (.enter 38 args) W := fun _ _ => by kernel_rfl
     refine tG 7 (.int .i64 m1) (some 73) (GK.grow _) rfl (yieldsG_call 38 #[Str f1] (by rfl) ?_ (fun X hS => M1.out X)) (GK.drop (by simp)) ?_
     ·intro X hX
      clear hX
      go_simp
     clear CFn
     try simp only [Act.put, zA, zB, zC]
     refine tG 8 (.slice (some ⟨g7, 0, none⟩) 7 cap7) (some 74) (GK.grow _) rfl (YieldsIf.toG (Or.inl ⟨by rfl, ?_⟩)) (GK.drop (by simp)) ?_
     ·intro X hX
      clear hX
      go_simp
     try simp only [Act.put, zA, zB, zC]
     refine tG 9 (.pointer (some ⟨g7, 2, none⟩)) (some 75) (GK.grow _) rfl (YieldsIf.toG (Or.inl ⟨by rfl, ?_⟩)) (GK.drop (by simp)) ?_
     ·intro X hX
      clear hX
      go_simp
     try simp only [Act.put, zA, zB, zC]
     refine tG 10 (Str f2) (some 76) (GK.grow _) rfl (YieldsIf.toG (Or.inl ⟨by rfl, ?_⟩)) (HAL.out 10) ?_
     ·intro X hX
      have hh := hX (10, g7, .cells c7 9) (List.Mem.tail _ (List.Mem.tail _ (List.Mem.head _))) rfl
      have hh0 := blk_cell hh (2 + 0) _ Y2.out
      simp only [Nat.add_zero] at hh0
      have hhl := blk_lt hh
      clear hh
      clear hX
      go_simp
     try simp only [Act.put, zA, zB, zC]
     have CFn : ∀ (args : Array Value) (W : World), Sem.run Tryz.prog (callFunc 38 args) W = .ok (.enter 38 args) W := fun _ _ => by kernel_rfl
     refine tG 11 (.int .i64 m2) (some 77) (GK.grow _) rfl (yieldsG_call 38 #[Str f2] (by rfl) ?_ (fun X hS => M2.out X)) (GK.drop (by simp)) ?_
     ·intro X hX
      clear hX
      go_simp
     clear CFn
     try simp only [Act.put, zA, zB, zC]
     refine tG 12 (.slice (some ⟨g7, 0, none⟩) 7 cap7) (some 78) (GK.grow _) rfl (YieldsIf.toG (Or.inl ⟨by rfl, ?_⟩)) (GK.drop (by simp)) ?_
     ·intro X hX
      clear hX
      go_simp
     try simp only [Act.put, zA, zB, zC]
     refine tG 13 (.pointer (some ⟨g7, 3, none⟩)) (some 79) (GK.grow _) rfl (YieldsIf.toG (Or.inl ⟨by rfl, ?_⟩)) (GK.drop (by simp)) ?_
     ·intro X hX
      clear hX
      go_simp
     try simp only [Act.put, zA, zB, zC]
     refine tG 14 (Str f3) (some 80) (GK.grow _) rfl (YieldsIf.toG (Or.inl ⟨by rfl, ?_⟩)) (HAL.out 14) ?_
     ·intro X hX
      have hh := hX (14, g7, .cells c7 9) (List.Mem.tail _ (List.Mem.tail _ (List.Mem.tail _ (List.Mem.head _)))) rfl
      have hh0 := blk_cell hh (3 + 0) _ Y3.out
      simp only [Nat.add_zero] at hh0
      have hhl := blk_lt hh
      clear hh
      clear hX
      go_simp
     try simp only [Act.put, zA, zB, zC]
     have CFn : ∀ (args : Array Value) (W : World), Sem.run Tryz.prog (callFunc 38 args) W = .ok (.enter 38 args) W := fun _ _ => by kernel_rfl
     refine tG 15 (.int .i64 m3) (some 81) (GK.grow _) rfl (yieldsG_call 38 #[Str f3] (by rfl) ?_ (fun X hS => M3.out X)) (GK.drop (by simp)) ?_
     ·intro X hX
      clear hX
      go_simp
     clear CFn
     try simp only [Act.put, zA, zB, zC]
     refine tG 16 (.agg #[.int .i64 va, .int .i64 vb, .int .i64 vD]) (some 82) (GK.grow _) rfl (YieldsIf.toG (Or.inl ⟨by rfl, ?_⟩)) (HAL.out 16) ?_
     ·intro X hX
      have hh := hX (16, gC, .cells #[.int .i64 va, .int .i64 vb, .int .i64 vD] 40) (List.Mem.tail _ (List.Mem.tail _ (List.Mem.tail _ (List.Mem.tail _ (List.Mem.head _))))) rfl
      have hh0 := blk_cell hh 0 _ rfl
      have hh1 := blk_cell hh 1 _ rfl
      have hh2 := blk_cell hh 2 _ rfl
      have hhl := blk_lt hh
      clear hh
      clear hX
      go_simp
     try simp only [Act.put, zA, zB, zC]
     refine tG 17 (.slice (some ⟨g7, 0, none⟩) 7 cap7) (some 83) (GK.grow _) rfl (YieldsIf.toG (Or.inl ⟨by rfl, ?_⟩)) (GK.drop (by simp)) ?_
     ·intro X hX
      clear hX
      go_simp
     try simp only [Act.put, zA, zB, zC]
     refine tG 18 (.pointer (some ⟨g7, 6, none⟩)) (some 84) (GK.grow _) rfl (YieldsIf.toG (Or.inl ⟨by rfl, ?_⟩)) (GK.drop (by simp)) ?_
     ·intro X hX
      clear hX
      go_simp
     try simp only [Act.put, zA, zB, zC]
     refine tG 19 (Str f6) (some 85) (GK.grow _) rfl (YieldsIf.toG (Or.inl ⟨by rfl, ?_⟩)) (HAL.out 19) ?_
     ·intro X hX
      have hh := hX (19, g7, .cells c7 9) (List.Mem.tail _ (List.Mem.tail _ (List.Mem.tail _ (List.Mem.tail _ (List.Mem.tail _ (List.Mem.head _)))))) rfl
      have hh0 := blk_cell hh (6 + 0) _ Y6.out
      simp only [Nat.add_zero] at hh0
      have hhl := blk_lt hh
      clear hh
      clear hX
      go_simp
     try simp only [Act.put, zA, zB, zC]
     have CFn : ∀ (args : Array Value) (W : World), Sem.run Tryz.prog (callFunc 38 args) W = .ok (.enter 38 args) W := fun _ _ => by kernel_rfl
     refine tG 20 (.int .i64 m6) (some 86) (GK.grow _) rfl (yieldsG_call 38 #[Str f6] (by rfl) ?_ (fun X hS => M6.out X)) (GK.drop (by simp)) ?_
     ·intro X hX
      clear hX
      go_simp
     clear CFn
     try simp only [Act.put, zA, zB, zC]
     refine tG 21 (.agg #[.int .i64 m2, .int .i64 m3, .int .i64 va, .int .i64 vb, .int .i64 vD, .int .i64 m6]) (some 87) (GK.grow _) rfl (YieldsIf.toG (Or.inl ⟨by rfl, ?_⟩)) (GK.drop (by simp)) ?_
     ·intro X hX
      clear hX
      go_simp
     try simp only [Act.put, zA, zB, zC]
     refine tG 22 (.agg #[.int .i64 m0, .int .i64 m1, .int .i64 m2, .int .i64 m3, .int .i64 va, .int .i64 vb, .int .i64 vD, .int .i64 m6]) (some 88) (GK.grow _) rfl (YieldsIf.toG (Or.inl ⟨by rfl, ?_⟩)) (GK.drop (by simp)) ?_
     ·intro X hX
      clear hX
      go_simp
     try simp only [Act.put, zA, zB, zC]
     refine only_G 23 (by kernel_rfl) rfl (fun X8 hX K' hK' => ?_)
     replace NN := Lib.hid (Bgo NN.out hX)
     replace OG7 := Lib.hid (blk_next hX OG7.out)
     replace VC := Lib.hid (blk_next hX VC.out)
     replace HAL := Lib.hid (fun kx9 => GK.grow _ _ _ _ (HAL.out kx9) hX)
     clear hX
     go_simp
     refine hK'.out _ _ (fun _ _ h => h.alloc _) ?_
     clear hK' K'
     try simp only [Act.put, zA, zB, zC]
     have HB := Lib.hid (Bal (Below.refl X8.heap.size X8) (.cells #[.int .i64 0, .int .i64 0, .int .i64 0, .int .i64 0, .int .i64 0, .int .i64 0, .int .i64 0, .int .i64 0] 44))
     have VR : Hid ((X8.alloc (.cells #[.int .i64 0, .int .i64 0, .int .i64 0, .int .i64 0, .int .i64 0, .int .i64 0, .int .i64 0, .int .i64 0] 44)).heap[X8.heap.size]? = some (.cells #[.int .i64 0, .int .i64 0, .int .i64 0, .int .i64 0, .int .i64 0, .int .i64 0, .int .i64 0, .int .i64 0] 44)) := Lib.hid (blk_new X8 (.cells #[.int .i64 0, .int .i64 0, .int .i64 0, .int .i64 0, .int .i64 0, .int .i64 0, .int .i64 0, .int .i64 0] 44))
     have LT_VR : Hid (gC < X8.heap.size ∧ W7.heap.size ≤ X8.heap.size) := Lib.hid ⟨blk_lt VC.out, NN.out.size⟩
     replace NN := Lib.hid (Bgo NN.out HB.out)
     replace OG7 := Lib.hid (blk_next HB.out OG7.out)
     replace VC := Lib.hid (blk_next HB.out VC.out)
     replace HAL := Lib.hid (fun kx9 => GK.grow _ _ _ _ (HAL.out kx9) HB.out)
     clear HB
     generalize X8.alloc (.cells #[.int .i64 0, .int .i64 0, .int .i64 0, .int .i64 0, .int .i64 0, .int .i64 0, .int .i64 0, .int .i64 0] 44) = W9 at *
     generalize X8.heap.size = gVR at *
     refine only_G 24 (by kernel_rfl) rfl (fun X10 hX K' hK' => ?_)
     replace NN := Lib.hid (Bgo NN.out hX)
     replace OG7 := Lib.hid (blk_next hX OG7.out)
     replace VC := Lib.hid (blk_next hX VC.out)
     replace VR := Lib.hid (blk_next hX VR.out)
     replace HAL := Lib.hid (fun kx9 => GK.grow _ _ _ _ (HAL.out kx9) hX)
     clear hX
     have c_VR_0 := blk_cell VR.out 0 _ rfl
     have f_VR_0 := blk_frozen VR.out 0
     have c_VR_1 := blk_cell VR.out 1 _ rfl
     have f_VR_1 := blk_frozen VR.out 1
     have c_VR_2 := blk_cell VR.out 2 _ rfl
     have f_VR_2 := blk_frozen VR.out 2
     have c_VR_3 := blk_cell VR.out 3 _ rfl
     have f_VR_3 := blk_frozen VR.out 3
     have c_VR_4 := blk_cell VR.out 4 _ rfl
     have f_VR_4 := blk_frozen VR.out 4
     have c_VR_5 := blk_cell VR.out 5 _ rfl
     have f_VR_5 := blk_frozen VR.out 5
     have c_VR_6 := blk_cell VR.out 6 _ rfl
     have f_VR_6 := blk_frozen VR.out 6
     have c_VR_7 := blk_cell VR.out 7 _ rfl
     have f_VR_7 := blk_frozen VR.out 7
     have l_VR := blk_lt VR.out
     go_simp
     clear c_VR_0 f_VR_0 c_VR_1 f_VR_1 c_VR_2 f_VR_2 c_VR_3 f_VR_3 c_VR_4 f_VR_4 c_VR_5 f_VR_5 c_VR_6 f_VR_6 c_VR_7 f_VR_7 l_VR
     refine hK'.out _ _ (fun kk hk hS => ?_) ?_
     ·have HN : ∀ px9 ∈ ([(2, g7, .cells c7 9), (6, g7, .cells c7 9), (10, g7, .cells c7 9), (14, g7, .cells c7 9), (16, gC, .cells #[.int .i64 va, .int .i64 vb, .int .i64 vD] 40), (19, g7, .cells c7 9)] : List (Nat × Nat × Obj)), px9.1 = kk → px9.2.1 ≠ gVR := fun px9 hp e => by
       simp only [List.mem_cons, List.not_mem_nil, or_false] at hp
       rcases hp with rfl | rfl | rfl | rfl | rfl | rfl
       ·subst e
        exact bfl (by kernel_rfl) hk
       ·subst e
        exact bfl (by kernel_rfl) hk
       ·subst e
        exact bfl (by kernel_rfl) hk
       ·subst e
        exact bfl (by kernel_rfl) hk
       ·subst e
        exact bfl (by kernel_rfl) hk
       ·subst e
        exact bfl (by kernel_rfl) hk
      exact GK.set (GK.set (GK.set (GK.set (GK.set (GK.set (GK.set (GK.set hS HN) HN) HN) HN) HN) HN) HN) HN
     clear hK' K'
     try simp only [Act.put, zA, zB, zC]
     clear HAL
     replace OG7 := Lib.hid (blk_set_other (b' := gVR) (blk_set_other (b' := gVR) (blk_set_other (b' := gVR) (blk_set_other (b' := gVR) (blk_set_other (b' := gVR) (blk_set_other (b' := gVR) (blk_set_other (b' := gVR) (blk_set_other (b' := gVR) (OG7.out) (by have := LT_VR.out; have := blk_lt OG97.out; omega) 0 (.int .i64 m0)) (by have := LT_VR.out; have := blk_lt OG97.out; omega) 1 (.int .i64 m1)) (by have := LT_VR.out; have := blk_lt OG97.out; omega) 2 (.int .i64 m2)) (by have := LT_VR.out; have := blk_lt OG97.out; omega) 3 (.int .i64 m3)) (by have := LT_VR.out; have := blk_lt OG97.out; omega) 4 (.int .i64 va)) (by have := LT_VR.out; have := blk_lt OG97.out; omega) 5 (.int .i64 vb)) (by have := LT_VR.out; have := blk_lt OG97.out; omega) 6 (.int .i64 vD)) (by have := LT_VR.out; have := blk_lt OG97.out; omega) 7 (.int .i64 m6))
     replace VC : Hid (((((((((X10.setCell ⟨gVR, 0, none⟩ (.int .i64 m0)).setCell ⟨gVR, 1, none⟩ (.int .i64 m1)).setCell ⟨gVR, 2, none⟩ (.int .i64 m2)).setCell ⟨gVR, 3, none⟩ (.int .i64 m3)).setCell ⟨gVR, 4, none⟩ (.int .i64 va)).setCell ⟨gVR, 5, none⟩ (.int .i64 vb)).setCell ⟨gVR, 6, none⟩ (.int .i64 vD)).setCell ⟨gVR, 7, none⟩ (.int .i64 m6)).heap[gC]? = some (.cells #[.int .i64 va, .int .i64 vb, .int .i64 vD] 40)) := Lib.hid (blk_set_other (b' := gVR) (blk_set_other (b' := gVR) (blk_set_other (b' := gVR) (blk_set_other (b' := gVR) (blk_set_other (b' := gVR) (blk_set_other (b' := gVR) (blk_set_other (b' := gVR) (blk_set_other (b' := gVR) (VC.out) (by have := LT_VR.out; omega) 0 (.int .i64 m0)) (by have := LT_VR.out; omega) 1 (.int .i64 m1)) (by have := LT_VR.out; omega) 2 (.int .i64 m2)) (by have := LT_VR.out; omega) 3 (.int .i64 m3)) (by have := LT_VR.out; omega) 4 (.int .i64 va)) (by have := LT_VR.out; omega) 5 (.int .i64 vb)) (by have := LT_VR.out; omega) 6 (.int .i64 vD)) (by have := LT_VR.out; omega) 7 (.int .i64 m6))
     replace VR : Hid (((((((((X10.setCell ⟨gVR, 0, none⟩ (.int .i64 m0)).setCell ⟨gVR, 1, none⟩ (.int .i64 m1)).setCell ⟨gVR, 2, none⟩ (.int .i64 m2)).setCell ⟨gVR, 3, none⟩ (.int .i64 m3)).setCell ⟨gVR, 4, none⟩ (.int .i64 va)).setCell ⟨gVR, 5, none⟩ (.int .i64 vb)).setCell ⟨gVR, 6, none⟩ (.int .i64 vD)).setCell ⟨gVR, 7, none⟩ (.int .i64 m6)).heap[gVR]? = some (.cells #[.int .i64 m0, .int .i64 m1, .int .i64 m2, .int .i64 m3, .int .i64 va, .int .i64 vb, .int .i64 vD, .int .i64 m6] 44)) := Lib.hid (blk_set (blk_set (blk_set (blk_set (blk_set (blk_set (blk_set (blk_set (VR.out) 0 (.int .i64 m0)) 1 (.int .i64 m1)) 2 (.int .i64 m2)) 3 (.int .i64 m3)) 4 (.int .i64 va)) 5 (.int .i64 vb)) 6 (.int .i64 vD)) 7 (.int .i64 m6))
     replace NN := Lib.hid (Bset1 (Bset1 (Bset1 (Bset1 (Bset1 (Bset1 (Bset1 (Bset1 (NN.out) (show W7.heap.size ≤ gVR by have := LT_VR.out; omega) 0 (.int .i64 m0)) (show W7.heap.size ≤ gVR by have := LT_VR.out; omega) 1 (.int .i64 m1)) (show W7.heap.size ≤ gVR by have := LT_VR.out; omega) 2 (.int .i64 m2)) (show W7.heap.size ≤ gVR by have := LT_VR.out; omega) 3 (.int .i64 m3)) (show W7.heap.size ≤ gVR by have := LT_VR.out; omega) 4 (.int .i64 va)) (show W7.heap.size ≤ gVR by have := LT_VR.out; omega) 5 (.int .i64 vb)) (show W7.heap.size ≤ gVR by have := LT_VR.out; omega) 6 (.int .i64 vD)) (show W7.heap.size ≤ gVR by have := LT_VR.out; omega) 7 (.int .i64 m6))
     generalize ((((((((X10.setCell ⟨gVR, 0, none⟩ (.int .i64 m0)).setCell ⟨gVR, 1, none⟩ (.int .i64 m1)).setCell ⟨gVR, 2, none⟩ (.int .i64 m2)).setCell ⟨gVR, 3, none⟩ (.int .i64 m3)).setCell ⟨gVR, 4, none⟩ (.int .i64 va)).setCell ⟨gVR, 5, none⟩ (.int .i64 vb)).setCell ⟨gVR, 6, none⟩ (.int .i64 vD)).setCell ⟨gVR, 7, none⟩ (.int .i64 m6)) = W11 at *
     refine done_G (by kernel_rfl) (fun X12 hX => ?_) _
     replace NN := Lib.hid (Bgo NN.out hX)
     replace OG7 := Lib.hid (blk_next hX OG7.out)
     replace VC := Lib.hid (blk_next hX VC.out)
     replace VR := Lib.hid (blk_next hX VR.out)
     clear hX
     clear VC OG97 OG7
     replace OT := Lib.hid (OT.out.next NN.out)
     replace OGL := Lib.hid (blk_next NN.out OGL.out)
     replace NN := Lib.hid (Bgo NO.out NN.out)
     clear NO
     go_upto_region 17 with fail
     rcases RV.out with ⟨hv, rfl⟩ | ⟨hv, rfl⟩
     ·clear RV
      have E0 := Lib.hid (PN.out (WB.out ln MEM.out (by rw [PR7.out]; simp only [hv])))
      clear PR7 WB WE WM PN PS
      have CKc := CK
      have HDRW := Lib.hid (Below.drew (Below.refl X12.heap.size X12))
      replace NN := Lib.hid (Bgo NN.out HDRW.out)
      replace OT := Lib.hid (OR.next OT.out HDRW.out)
      replace OGL := Lib.hid (blk_next HDRW.out OGL.out)
      replace VR := Lib.hid (blk_next HDRW.out VR.out)
      clear HDRW
      have HAL : Hid (∀ kx9 : Nat, GK [] kx9 X12.drew) := Lib.hid (fun kx9 => fun px9 hp e => absurd hp (by simp))
      refine region_G (S := GK []) (by kernel_rfl) ?_
      refine tG 0 (.int .i64 16) (some 89) (GK.grow _) rfl (YieldsIf.toG (Or.inl ⟨by rfl, ?_⟩)) (GK.drop (by simp)) ?_
      ·intro X hX
       clear hX
       go_simp
       all_goals (first | (intro h9; exfalso; omega) | omega | skip)
      try simp only [Act.put, zA, zB, zC]
      refine tG 1 (.bool true) (some 90) (GK.grow _) rfl (YieldsIf.toG (Or.inl ⟨by rfl, ?_⟩)) (GK.drop (by simp)) ?_
      ·intro X hX
       clear hX
       go_simp
       all_goals (first | (intro h9; exfalso; omega) | omega | skip)
      try simp only [Act.put, zA, zB, zC]
      refine tG 2 (.bool true) (some 91) (GK.grow _) rfl (YieldsIf.toG (Or.inl ⟨by rfl, ?_⟩)) (GK.drop (by simp)) ?_
      ·intro X hX
       clear hX
       go_simp
       all_goals (first | (intro h9; exfalso; omega) | omega | skip)
      try simp only [Act.put, zA, zB, zC]
      refine tG 3 (undef) (some 92) (GK.grow _) rfl (YieldsIf.toG (Or.inr ⟨by rfl, rfl⟩)) (GK.drop (by simp)) ?_
      try simp only [Act.put, zA, zB, zC]
      refine tG 4 (undef) (some 93) (GK.grow _) rfl (YieldsIf.toG (Or.inr ⟨by rfl, rfl⟩)) (GK.drop (by simp)) ?_
      try simp only [Act.put, zA, zB, zC]
      refine tG 5 (undef) (some 94) (GK.grow _) rfl (YieldsIf.toG (Or.inr ⟨by rfl, rfl⟩)) (GK.drop (by simp)) ?_
      try simp only [Act.put, zA, zB, zC]
      refine tG 6 (.bool true) (some 95) (GK.grow _) rfl (YieldsIf.toG (Or.inl ⟨by rfl, ?_⟩)) (GK.drop (by simp)) ?_
      ·intro X hX
       clear hX
       go_simp
       all_goals (first | (intro h9; exfalso; omega) | omega | skip)
      try simp only [Act.put, zA, zB, zC]
      refine tG 7 (.bool true) (some 96) (GK.grow _) rfl (YieldsIf.toG (Or.inl ⟨by rfl, ?_⟩)) (GK.drop (by simp)) ?_
      ·intro X hX
       clear hX
       go_simp
       all_goals (first | (intro h9; exfalso; omega) | omega | skip)
      try simp only [Act.put, zA, zB, zC]
      refine tG 8 (undef) (some 97) (GK.grow _) rfl (YieldsIf.toG (Or.inr ⟨by rfl, rfl⟩)) (GK.drop (by simp)) ?_
      try simp only [Act.put, zA, zB, zC]
      refine tG 9 (undef) (some 98) (GK.grow _) rfl (YieldsIf.toG (Or.inr ⟨by rfl, rfl⟩)) (GK.drop (by simp)) ?_
      try simp only [Act.put, zA, zB, zC]
      refine tG 10 (undef) (some 99) (GK.grow _) rfl (YieldsIf.toG (Or.inr ⟨by rfl, rfl⟩)) (GK.drop (by simp)) ?_
      try simp only [Act.put, zA, zB, zC]
      refine tG 11 (undef) (some 100) (GK.grow _) rfl (YieldsIf.toG (Or.inr ⟨by rfl, rfl⟩)) (GK.drop (by simp)) ?_
      try simp only [Act.put, zA, zB, zC]
      refine tG 12 (undef) (some 101) (GK.grow _) rfl (YieldsIf.toG (Or.inr ⟨by rfl, rfl⟩)) (GK.drop (by simp)) ?_
      try simp only [Act.put, zA, zB, zC]
      refine tG 13 (undef) (some 102) (GK.grow _) rfl (YieldsIf.toG (Or.inr ⟨by rfl, rfl⟩)) (GK.drop (by simp)) ?_
      try simp only [Act.put, zA, zB, zC]
      refine tG 14 (undef) (some 103) (GK.grow _) rfl (YieldsIf.toG (Or.inr ⟨by rfl, rfl⟩)) (GK.drop (by simp)) ?_
      try simp only [Act.put, zA, zB, zC]
      refine tG 15 (undef) (some 104) (GK.grow _) rfl (YieldsIf.toG (Or.inr ⟨by rfl, rfl⟩)) (GK.drop (by simp)) ?_
      try simp only [Act.put, zA, zB, zC]
      refine tG 16 (.bool true) (some 105) (GK.grow _) rfl (YieldsIf.toG (Or.inl ⟨by rfl, ?_⟩)) (GK.drop (by simp)) ?_
      ·intro X hX
       clear hX
       go_simp
       all_goals (first | (intro h9; exfalso; omega) | omega | skip)
      try simp only [Act.put, zA, zB, zC]
      clear HAL
      refine done_G (by kernel_rfl) (fun X13 hX => ?_) _
      replace NN := Lib.hid (Bgo NN.out hX)
      replace OT := Lib.hid (OR.next OT.out hX)
      replace OGL := Lib.hid (blk_next hX OGL.out)
      replace VR := Lib.hid (blk_next hX VR.out)
      clear hX
      go_wp2_with fail
      exact bodyPost_ret (v := .tuple #[.slice none 0 0, .int .i64 12]) (by simp [results, Tryz.results12, go_sem]) rfl ⟨_, by rw [E0.out.1], NW.out.trans (NN.out.mono NW.out.size), by rw [E0.out.2]; exact OR.nil _ _⟩
     ·have PR8 : Hid (prR ln = if rowB ⟨m0, m1, m2, m3, va, vb, vD, m6⟩ = true ∧ lnL ⟨m0, m1, m2, m3, va, vb, vD, m6⟩ = ln then some ⟨m0, m1, m2, m3, va, vb, vD, m6⟩ else none) := Lib.hid (by rw [PR7.out]; simp only [hv])
      have VC := Lib.hid (fun W => refvalid_calls ⟨m0, m1, m2, m3, va, vb, vD, m6⟩ W)
      have LC := Lib.hid (fun h W => rline_calls (r := ⟨m0, m1, m2, m3, va, vb, vD, m6⟩) h W)
      have RL := Lib.hid (fun h => lnL_len (r := ⟨m0, m1, m2, m3, va, vb, vD, m6⟩) h)
      clear PR7 RV hv
      cases hrb : rowB ⟨m0, m1, m2, m3, va, vb, vD, m6⟩
      ·rw [hrb] at VC PR8
       have E0 := Lib.hid (PN.out (WB.out ln MEM.out (by rw [PR8.out]; exact if_neg (by simp))))
       clear PR8 WB WE WM PN PS LC RL
       have CKc := CK
       have HDRW := Lib.hid (Below.drew (Below.refl X12.heap.size X12))
       replace NN := Lib.hid (Bgo NN.out HDRW.out)
       replace OT := Lib.hid (OR.next OT.out HDRW.out)
       replace OGL := Lib.hid (blk_next HDRW.out OGL.out)
       replace VR := Lib.hid (blk_next HDRW.out VR.out)
       clear HDRW
       have HAL : Hid (∀ kx9 : Nat, GK [(3, gVR, .cells #[.int .i64 m0, .int .i64 m1, .int .i64 m2, .int .i64 m3, .int .i64 va, .int .i64 vb, .int .i64 vD, .int .i64 m6] 44)] kx9 X12.drew) := Lib.hid (fun kx9 => fun px9 hp e => by
        simp only [List.mem_cons, List.not_mem_nil, or_false] at hp
        subst hp
        exact VR.out
       )
       refine region_G (S := GK [(3, gVR, .cells #[.int .i64 m0, .int .i64 m1, .int .i64 m2, .int .i64 m3, .int .i64 va, .int .i64 vb, .int .i64 vD, .int .i64 m6] 44)]) (by kernel_rfl) ?_
       refine tG 0 (.int .i64 0) (some 89) (GK.grow _) rfl (YieldsIf.toG (Or.inl ⟨by rfl, ?_⟩)) (GK.drop (by simp)) ?_
       ·intro X hX
        clear hX
        go_simp
        all_goals (first | (intro h9; exfalso; omega) | omega | skip)
       try simp only [Act.put, zA, zB, zC]
       refine tG 1 (.bool false) (some 90) (GK.grow _) rfl (YieldsIf.toG (Or.inl ⟨by rfl, ?_⟩)) (GK.drop (by simp)) ?_
       ·intro X hX
        clear hX
        go_simp
        all_goals (first | (intro h9; exfalso; omega) | omega | skip)
       try simp only [Act.put, zA, zB, zC]
       refine tG 2 (.bool false) (some 91) (GK.grow _) rfl (YieldsIf.toG (Or.inl ⟨by rfl, ?_⟩)) (GK.drop (by simp)) ?_
       ·intro X hX
        clear hX
        go_simp
        all_goals (first | (intro h9; exfalso; omega) | omega | skip)
       try simp only [Act.put, zA, zB, zC]
       refine tG 3 (.agg #[.int .i64 m0, .int .i64 m1, .int .i64 m2, .int .i64 m3, .int .i64 va, .int .i64 vb, .int .i64 vD, .int .i64 m6]) (some 92) (GK.grow _) rfl (YieldsIf.toG (Or.inl ⟨by rfl, ?_⟩)) (HAL.out 3) ?_
       ·intro X hX
        have hh := hX (3, gVR, .cells #[.int .i64 m0, .int .i64 m1, .int .i64 m2, .int .i64 m3, .int .i64 va, .int .i64 vb, .int .i64 vD, .int .i64 m6] 44) (List.Mem.head _) rfl
        have hh0 := blk_cell hh 0 _ rfl
        have hh1 := blk_cell hh 1 _ rfl
        have hh2 := blk_cell hh 2 _ rfl
        have hh3 := blk_cell hh 3 _ rfl
        have hh4 := blk_cell hh 4 _ rfl
        have hh5 := blk_cell hh 5 _ rfl
        have hh6 := blk_cell hh 6 _ rfl
        have hh7 := blk_cell hh 7 _ rfl
        have hhl := blk_lt hh
        clear hh
        clear hX
        go_simp
        all_goals (first | (intro h9; exfalso; omega) | omega | skip)
       try simp only [Act.put, zA, zB, zC]
       have CFn : ∀ (args : Array Value) (W : World), Sem.run Tryz.prog (callFunc 39 args) W = .ok (.enter 39 args) W := fun _ _ => by kernel_rfl
       refine tG 4 (.bool false) (some 93) (GK.grow _) rfl (yieldsG_call 39 #[.agg #[.int .i64 m0, .int .i64 m1, .int .i64 m2, .int .i64 m3, .int .i64 va, .int .i64 vb, .int .i64 vD, .int .i64 m6]] (by rfl) ?_ (fun X hS => VC.out X)) (GK.drop (by simp)) ?_
       ·intro X hX
        clear hX
        go_simp
       clear CFn
       try simp only [Act.put, zA, zB, zC]
       refine tG 5 (.bool true) (some 94) (GK.grow _) rfl (YieldsIf.toG (Or.inl ⟨by rfl, ?_⟩)) (GK.drop (by simp)) ?_
       ·intro X hX
        clear hX
        go_simp
        all_goals (first | (intro h9; exfalso; omega) | omega | skip)
       try simp only [Act.put, zA, zB, zC]
       refine tG 6 (.bool true) (some 95) (GK.grow _) rfl (YieldsIf.toG (Or.inl ⟨by rfl, ?_⟩)) (GK.drop (by simp)) ?_
       ·intro X hX
        clear hX
        go_simp
        all_goals (first | (intro h9; exfalso; omega) | omega | skip)
       try simp only [Act.put, zA, zB, zC]
       refine tG 7 (.bool true) (some 96) (GK.grow _) rfl (YieldsIf.toG (Or.inl ⟨by rfl, ?_⟩)) (GK.drop (by simp)) ?_
       ·intro X hX
        clear hX
        go_simp
        all_goals (first | (intro h9; exfalso; omega) | omega | skip)
       try simp only [Act.put, zA, zB, zC]
       refine tG 8 (undef) (some 97) (GK.grow _) rfl (YieldsIf.toG (Or.inr ⟨by rfl, rfl⟩)) (GK.drop (by simp)) ?_
       try simp only [Act.put, zA, zB, zC]
       refine tG 9 (undef) (some 98) (GK.grow _) rfl (YieldsIf.toG (Or.inr ⟨by rfl, rfl⟩)) (GK.drop (by simp)) ?_
       try simp only [Act.put, zA, zB, zC]
       refine tG 10 (undef) (some 99) (GK.grow _) rfl (YieldsIf.toG (Or.inr ⟨by rfl, rfl⟩)) (GK.drop (by simp)) ?_
       try simp only [Act.put, zA, zB, zC]
       refine tG 11 (undef) (some 100) (GK.grow _) rfl (YieldsIf.toG (Or.inr ⟨by rfl, rfl⟩)) (GK.drop (by simp)) ?_
       try simp only [Act.put, zA, zB, zC]
       refine tG 12 (undef) (some 101) (GK.grow _) rfl (YieldsIf.toG (Or.inr ⟨by rfl, rfl⟩)) (GK.drop (by simp)) ?_
       try simp only [Act.put, zA, zB, zC]
       refine tG 13 (undef) (some 102) (GK.grow _) rfl (YieldsIf.toG (Or.inr ⟨by rfl, rfl⟩)) (GK.drop (by simp)) ?_
       try simp only [Act.put, zA, zB, zC]
       refine tG 14 (undef) (some 103) (GK.grow _) rfl (YieldsIf.toG (Or.inr ⟨by rfl, rfl⟩)) (GK.drop (by simp)) ?_
       try simp only [Act.put, zA, zB, zC]
       refine tG 15 (undef) (some 104) (GK.grow _) rfl (YieldsIf.toG (Or.inr ⟨by rfl, rfl⟩)) (GK.drop (by simp)) ?_
       try simp only [Act.put, zA, zB, zC]
       refine tG 16 (.bool true) (some 105) (GK.grow _) rfl (YieldsIf.toG (Or.inl ⟨by rfl, ?_⟩)) (GK.drop (by simp)) ?_
       ·intro X hX
        clear hX
        go_simp
        all_goals (first | (intro h9; exfalso; omega) | omega | skip)
       try simp only [Act.put, zA, zB, zC]
       clear HAL
       refine done_G (by kernel_rfl) (fun X14 hX => ?_) _
       replace NN := Lib.hid (Bgo NN.out hX)
       replace OT := Lib.hid (OR.next OT.out hX)
       replace OGL := Lib.hid (blk_next hX OGL.out)
       replace VR := Lib.hid (blk_next hX VR.out)
       clear hX
       go_wp2_with fail
       exact bodyPost_ret (v := .tuple #[.slice none 0 0, .int .i64 12]) (by simp [results, Tryz.results12, go_sem]) rfl ⟨_, by rw [E0.out.1], NW.out.trans (NN.out.mono NW.out.size), by rw [E0.out.2]; exact OR.nil _ _⟩
      ·rw [hrb] at VC PR8
       replace LC := Lib.hid (LC.out hrb)
       have RL := RL.out hrb
       generalize lnL ⟨m0, m1, m2, m3, va, vb, vD, m6⟩ = lr at *
       clear hrb
       by_cases hq : lr = ln
       ·have PS8 : Hid (prR ln = some ⟨m0, m1, m2, m3, va, vb, vD, m6⟩) := Lib.hid (by rw [PR8.out]; exact if_pos ⟨rfl, hq⟩)
        clear PR8
        have QN : (lr == ln) = true := by rw [hq]; exact beq_self_eq_true _
        have CAT : (⟨ln.toArray⟩ : ByteArray) ++ ⟨#[10]⟩ = ⟨(ln ++ [10]).toArray⟩ := by rw [show (⟨#[10]⟩ : ByteArray) = ⟨[10].toArray⟩ from rfl, cat2]
        have CKc := CK
        have HDRW := Lib.hid (Below.drew (Below.refl X12.heap.size X12))
        replace NN := Lib.hid (Bgo NN.out HDRW.out)
        replace OT := Lib.hid (OR.next OT.out HDRW.out)
        replace OGL := Lib.hid (blk_next HDRW.out OGL.out)
        replace VR := Lib.hid (blk_next HDRW.out VR.out)
        clear HDRW
        have HAL : Hid (∀ kx9 : Nat, GK [(3, gVR, .cells #[.int .i64 m0, .int .i64 m1, .int .i64 m2, .int .i64 m3, .int .i64 va, .int .i64 vb, .int .i64 vD, .int .i64 m6] 44), (8, gVR, .cells #[.int .i64 m0, .int .i64 m1, .int .i64 m2, .int .i64 m3, .int .i64 va, .int .i64 vb, .int .i64 vD, .int .i64 m6] 44), (13, gl, .cells cl 9)] kx9 X12.drew) := Lib.hid (fun kx9 => fun px9 hp e => by
         simp only [List.mem_cons, List.not_mem_nil, or_false] at hp
         rcases hp with rfl | rfl | rfl
         ·exact VR.out
         ·exact VR.out
         ·exact OGL.out
        )
        refine region_G (S := GK [(3, gVR, .cells #[.int .i64 m0, .int .i64 m1, .int .i64 m2, .int .i64 m3, .int .i64 va, .int .i64 vb, .int .i64 vD, .int .i64 m6] 44), (8, gVR, .cells #[.int .i64 m0, .int .i64 m1, .int .i64 m2, .int .i64 m3, .int .i64 va, .int .i64 vb, .int .i64 vD, .int .i64 m6] 44), (13, gl, .cells cl 9)]) (by kernel_rfl) ?_
        refine tG 0 (.int .i64 0) (some 89) (GK.grow _) rfl (YieldsIf.toG (Or.inl ⟨by rfl, ?_⟩)) (GK.drop (by simp)) ?_
        ·intro X hX
         clear hX
         go_simp
         all_goals (first | (intro h9; exfalso; omega) | omega | skip)
        try simp only [Act.put, zA, zB, zC]
        refine tG 1 (.bool false) (some 90) (GK.grow _) rfl (YieldsIf.toG (Or.inl ⟨by rfl, ?_⟩)) (GK.drop (by simp)) ?_
        ·intro X hX
         clear hX
         go_simp
         all_goals (first | (intro h9; exfalso; omega) | omega | skip)
        try simp only [Act.put, zA, zB, zC]
        refine tG 2 (.bool false) (some 91) (GK.grow _) rfl (YieldsIf.toG (Or.inl ⟨by rfl, ?_⟩)) (GK.drop (by simp)) ?_
        ·intro X hX
         clear hX
         go_simp
         all_goals (first | (intro h9; exfalso; omega) | omega | skip)
        try simp only [Act.put, zA, zB, zC]
        refine tG 3 (.agg #[.int .i64 m0, .int .i64 m1, .int .i64 m2, .int .i64 m3, .int .i64 va, .int .i64 vb, .int .i64 vD, .int .i64 m6]) (some 92) (GK.grow _) rfl (YieldsIf.toG (Or.inl ⟨by rfl, ?_⟩)) (HAL.out 3) ?_
        ·intro X hX
         have hh := hX (3, gVR, .cells #[.int .i64 m0, .int .i64 m1, .int .i64 m2, .int .i64 m3, .int .i64 va, .int .i64 vb, .int .i64 vD, .int .i64 m6] 44) (List.Mem.head _) rfl
         have hh0 := blk_cell hh 0 _ rfl
         have hh1 := blk_cell hh 1 _ rfl
         have hh2 := blk_cell hh 2 _ rfl
         have hh3 := blk_cell hh 3 _ rfl
         have hh4 := blk_cell hh 4 _ rfl
         have hh5 := blk_cell hh 5 _ rfl
         have hh6 := blk_cell hh 6 _ rfl
         have hh7 := blk_cell hh 7 _ rfl
         have hhl := blk_lt hh
         clear hh
         clear hX
         go_simp
         all_goals (first | (intro h9; exfalso; omega) | omega | skip)
        try simp only [Act.put, zA, zB, zC]
        have CFn : ∀ (args : Array Value) (W : World), Sem.run Tryz.prog (callFunc 39 args) W = .ok (.enter 39 args) W := fun _ _ => by kernel_rfl
        refine tG 4 (.bool true) (some 93) (GK.grow _) rfl (yieldsG_call 39 #[.agg #[.int .i64 m0, .int .i64 m1, .int .i64 m2, .int .i64 m3, .int .i64 va, .int .i64 vb, .int .i64 vD, .int .i64 m6]] (by rfl) ?_ (fun X hS => VC.out X)) (GK.drop (by simp)) ?_
        ·intro X hX
         clear hX
         go_simp
        clear CFn
        try simp only [Act.put, zA, zB, zC]
        refine tG 5 (.bool false) (some 94) (GK.grow _) rfl (YieldsIf.toG (Or.inl ⟨by rfl, ?_⟩)) (GK.drop (by simp)) ?_
        ·intro X hX
         clear hX
         go_simp
         all_goals (first | (intro h9; exfalso; omega) | omega | skip)
        try simp only [Act.put, zA, zB, zC]
        refine tG 6 (.bool false) (some 95) (GK.grow _) rfl (YieldsIf.toG (Or.inl ⟨by rfl, ?_⟩)) (GK.drop (by simp)) ?_
        ·intro X hX
         clear hX
         go_simp
         all_goals (first | (intro h9; exfalso; omega) | omega | skip)
        try simp only [Act.put, zA, zB, zC]
        refine tG 7 (.bool false) (some 96) (GK.grow _) rfl (YieldsIf.toG (Or.inl ⟨by rfl, ?_⟩)) (GK.drop (by simp)) ?_
        ·intro X hX
         clear hX
         go_simp
         all_goals (first | (intro h9; exfalso; omega) | omega | skip)
        try simp only [Act.put, zA, zB, zC]
        refine tG 8 (.agg #[.int .i64 m0, .int .i64 m1, .int .i64 m2, .int .i64 m3, .int .i64 va, .int .i64 vb, .int .i64 vD, .int .i64 m6]) (some 97) (GK.grow _) rfl (YieldsIf.toG (Or.inl ⟨by rfl, ?_⟩)) (HAL.out 8) ?_
        ·intro X hX
         have hh := hX (8, gVR, .cells #[.int .i64 m0, .int .i64 m1, .int .i64 m2, .int .i64 m3, .int .i64 va, .int .i64 vb, .int .i64 vD, .int .i64 m6] 44) (List.Mem.tail _ (List.Mem.head _)) rfl
         have hh0 := blk_cell hh 0 _ rfl
         have hh1 := blk_cell hh 1 _ rfl
         have hh2 := blk_cell hh 2 _ rfl
         have hh3 := blk_cell hh 3 _ rfl
         have hh4 := blk_cell hh 4 _ rfl
         have hh5 := blk_cell hh 5 _ rfl
         have hh6 := blk_cell hh 6 _ rfl
         have hh7 := blk_cell hh 7 _ rfl
         have hhl := blk_lt hh
         clear hh
         clear hX
         go_simp
         all_goals (first | (intro h9; exfalso; omega) | omega | skip)
        try simp only [Act.put, zA, zB, zC]
        have CFn : ∀ (args : Array Value) (W : World), Sem.run Tryz.prog (callFunc 32 args) W = .ok (.enter 32 args) W := fun _ _ => by kernel_rfl
        refine tG 9 (Str (lr ++ [10])) (some 98) (GK.grow _) rfl (yieldsG_call 32 #[.agg #[.int .i64 m0, .int .i64 m1, .int .i64 m2, .int .i64 m3, .int .i64 va, .int .i64 vb, .int .i64 vD, .int .i64 m6]] (by rfl) ?_ (fun X hS => LC.out X)) (GK.drop (by simp)) ?_
        ·intro X hX
         clear hX
         go_simp
        clear CFn
        try simp only [Act.put, zA, zB, zC]
        refine tG 10 (.slice (some ⟨gl, 0, none⟩) N cap) (some 99) (GK.grow _) rfl (YieldsIf.toG (Or.inl ⟨by rfl, ?_⟩)) (GK.drop (by simp)) ?_
        ·intro X hX
         clear hX
         go_simp
         all_goals (first | (intro h9; exfalso; omega) | omega | skip)
        try simp only [Act.put, zA, zB, zC]
        refine tG 11 (.int .i64 (k : Int)) (some 100) (GK.grow _) rfl (YieldsIf.toG (Or.inl ⟨by rfl, ?_⟩)) (GK.drop (by simp)) ?_
        ·intro X hX
         clear hX
         go_simp
         all_goals (first | (intro h9; exfalso; omega) | omega | skip)
        try simp only [Act.put, zA, zB, zC]
        refine tG 12 (.pointer (some ⟨gl, k, none⟩)) (some 101) (GK.grow _) rfl (YieldsIf.toG (Or.inl ⟨by rfl, ?_⟩)) (GK.drop (by simp)) ?_
        ·intro X hX
         clear hX
         go_simp
         all_goals (first | (intro h9; exfalso; omega) | omega | skip)
        try simp only [Act.put, zA, zB, zC]
        refine tG 13 (Str ln) (some 102) (GK.grow _) rfl (YieldsIf.toG (Or.inl ⟨by rfl, ?_⟩)) (HAL.out 13) ?_
        ·intro X hX
         have hh := hX (13, gl, .cells cl 9) (List.Mem.tail _ (List.Mem.tail _ (List.Mem.head _))) rfl
         have hh0 := blk_cell hh (k + 0) _ CK.out
         simp only [Nat.add_zero] at hh0
         have hhl := blk_lt hh
         clear hh
         clear hX
         go_simp
         all_goals (first | (intro h9; exfalso; omega) | omega | skip)
        try simp only [Act.put, zA, zB, zC]
        refine tG 14 (Str (ln ++ [10])) (some 103) (GK.grow _) rfl (YieldsIf.toG (Or.inl ⟨by rfl, ?_⟩)) (GK.drop (by simp)) ?_
        ·intro X hX
         clear hX
         go_simp
         all_goals (first | (intro h9; exfalso; omega) | omega | skip)
        try simp only [Act.put, zA, zB, zC]
        refine tG 15 (.bool false) (some 104) (GK.grow _) rfl (YieldsIf.toG (Or.inl ⟨by rfl, ?_⟩)) (GK.drop (by simp)) ?_
        ·intro X hX
         clear hX
         go_simp
         all_goals (first | (intro h9; exfalso; omega) | omega | skip)
        try simp only [Act.put, zA, zB, zC]
        refine tG 16 (.bool false) (some 105) (GK.grow _) rfl (YieldsIf.toG (Or.inl ⟨by rfl, ?_⟩)) (GK.drop (by simp)) ?_
        ·intro X hX
         clear hX
         go_simp
         all_goals (first | (intro h9; exfalso; omega) | omega | skip)
        try simp only [Act.put, zA, zB, zC]
        clear HAL
        refine done_G (by kernel_rfl) (fun X15 hX => ?_) _
        replace NN := Lib.hid (Bgo NN.out hX)
        replace OT := Lib.hid (OR.next OT.out hX)
        replace OGL := Lib.hid (blk_next hX OGL.out)
        replace VR := Lib.hid (blk_next hX VR.out)
        clear hX
        have c_VR_0 := blk_cell VR.out 0 _ rfl
        have f_VR_0 := blk_frozen VR.out 0
        have c_VR_1 := blk_cell VR.out 1 _ rfl
        have f_VR_1 := blk_frozen VR.out 1
        have c_VR_2 := blk_cell VR.out 2 _ rfl
        have f_VR_2 := blk_frozen VR.out 2
        have c_VR_3 := blk_cell VR.out 3 _ rfl
        have f_VR_3 := blk_frozen VR.out 3
        have c_VR_4 := blk_cell VR.out 4 _ rfl
        have f_VR_4 := blk_frozen VR.out 4
        have c_VR_5 := blk_cell VR.out 5 _ rfl
        have f_VR_5 := blk_frozen VR.out 5
        have c_VR_6 := blk_cell VR.out 6 _ rfl
        have f_VR_6 := blk_frozen VR.out 6
        have c_VR_7 := blk_cell VR.out 7 _ rfl
        have f_VR_7 := blk_frozen VR.out 7
        have l_VR := blk_lt VR.out
        clear PN PS WM WB WE LC VC RL CAT QN hq
        have SW : Hid (wl.heap.size ≤ X15.heap.size) := Lib.hid NN.out.size
        go_upto_region 19 with fail
        go_wp2_with (at_builtin; refine wpList_app1 rfl _ _ rfl wl.heap.size _ t rfl (some ⟨X15.heap.size, 0, none⟩) ⟨m0, m1, m2, m3, va, vb, vD, m6⟩ rfl (OT.out.alloc _) (RT.one (blk_new X15 _)) ?_ ?_ ?_; omega; (rw [World.size_alloc]; have := SW.out; omega); intro A1 c1 w9 o1 q1; have B9 := Lib.hid q1; have O9 := Lib.hid o1; clear o1 q1)
        have TA8 : Hid (allO prR (L.dropLast.take (k + 1)) = some (t ++ [⟨m0, m1, m2, m3, va, vb, vD, m6⟩])) := Lib.hid (by obtain ⟨q1, q2⟩ := List.getElem?_eq_some_iff.1 HLK.out; rw [← List.take_append_getElem q1, q2]; exact allO_snoc PS8.out TA.out)
        have NA := Bal NN.out (.cells #[.int .i64 m0, .int .i64 m1, .int .i64 m2, .int .i64 m3, .int .i64 va, .int .i64 vb, .int .i64 vD, .int .i64 m6] 44)
        have N9 := Lib.hid (NA.trans B9.out)
        have OG9 := Lib.hid (blk_B B9.out (blk_alloc OGL.out (.cells #[.int .i64 m0, .int .i64 m1, .int .i64 m2, .int .i64 m3, .int .i64 va, .int .i64 vb, .int .i64 vD, .int .i64 m6] 44)) HLT.out)
        go_roundw
        case rel => exact ⟨k + 1, t ++ [⟨m0, m1, m2, m3, va, vb, vD, m6⟩], A1, c1, by omega, by go_num, by simp, Lib.hid (by simp [TL.out]), TA8, O9, N9, OG9⟩
        case measure => simp [intOf]; omega
       ·have E0 := Lib.hid (PN.out (WB.out ln MEM.out (by rw [PR8.out]; exact if_neg (fun h => hq h.2))))
        clear PR8 WB WE WM PN PS
        have QN : (lr == ln) = false := by rw [beq_eq_false_iff_ne]; exact hq
        have CAT : (⟨ln.toArray⟩ : ByteArray) ++ ⟨#[10]⟩ = ⟨(ln ++ [10]).toArray⟩ := by rw [show (⟨#[10]⟩ : ByteArray) = ⟨[10].toArray⟩ from rfl, cat2]
        have CKc := CK
        have HDRW := Lib.hid (Below.drew (Below.refl X12.heap.size X12))
        replace NN := Lib.hid (Bgo NN.out HDRW.out)
        replace OT := Lib.hid (OR.next OT.out HDRW.out)
        replace OGL := Lib.hid (blk_next HDRW.out OGL.out)
        replace VR := Lib.hid (blk_next HDRW.out VR.out)
        clear HDRW
        have HAL : Hid (∀ kx9 : Nat, GK [(3, gVR, .cells #[.int .i64 m0, .int .i64 m1, .int .i64 m2, .int .i64 m3, .int .i64 va, .int .i64 vb, .int .i64 vD, .int .i64 m6] 44), (8, gVR, .cells #[.int .i64 m0, .int .i64 m1, .int .i64 m2, .int .i64 m3, .int .i64 va, .int .i64 vb, .int .i64 vD, .int .i64 m6] 44), (13, gl, .cells cl 9)] kx9 X12.drew) := Lib.hid (fun kx9 => fun px9 hp e => by
         simp only [List.mem_cons, List.not_mem_nil, or_false] at hp
         rcases hp with rfl | rfl | rfl
         ·exact VR.out
         ·exact VR.out
         ·exact OGL.out
        )
        refine region_G (S := GK [(3, gVR, .cells #[.int .i64 m0, .int .i64 m1, .int .i64 m2, .int .i64 m3, .int .i64 va, .int .i64 vb, .int .i64 vD, .int .i64 m6] 44), (8, gVR, .cells #[.int .i64 m0, .int .i64 m1, .int .i64 m2, .int .i64 m3, .int .i64 va, .int .i64 vb, .int .i64 vD, .int .i64 m6] 44), (13, gl, .cells cl 9)]) (by kernel_rfl) ?_
        refine tG 0 (.int .i64 0) (some 89) (GK.grow _) rfl (YieldsIf.toG (Or.inl ⟨by rfl, ?_⟩)) (GK.drop (by simp)) ?_
        ·intro X hX
         clear hX
         go_simp
         all_goals (first | (intro h9; exfalso; omega) | omega | skip)
        try simp only [Act.put, zA, zB, zC]
        refine tG 1 (.bool false) (some 90) (GK.grow _) rfl (YieldsIf.toG (Or.inl ⟨by rfl, ?_⟩)) (GK.drop (by simp)) ?_
        ·intro X hX
         clear hX
         go_simp
         all_goals (first | (intro h9; exfalso; omega) | omega | skip)
        try simp only [Act.put, zA, zB, zC]
        refine tG 2 (.bool false) (some 91) (GK.grow _) rfl (YieldsIf.toG (Or.inl ⟨by rfl, ?_⟩)) (GK.drop (by simp)) ?_
        ·intro X hX
         clear hX
         go_simp
         all_goals (first | (intro h9; exfalso; omega) | omega | skip)
        try simp only [Act.put, zA, zB, zC]
        refine tG 3 (.agg #[.int .i64 m0, .int .i64 m1, .int .i64 m2, .int .i64 m3, .int .i64 va, .int .i64 vb, .int .i64 vD, .int .i64 m6]) (some 92) (GK.grow _) rfl (YieldsIf.toG (Or.inl ⟨by rfl, ?_⟩)) (HAL.out 3) ?_
        ·intro X hX
         have hh := hX (3, gVR, .cells #[.int .i64 m0, .int .i64 m1, .int .i64 m2, .int .i64 m3, .int .i64 va, .int .i64 vb, .int .i64 vD, .int .i64 m6] 44) (List.Mem.head _) rfl
         have hh0 := blk_cell hh 0 _ rfl
         have hh1 := blk_cell hh 1 _ rfl
         have hh2 := blk_cell hh 2 _ rfl
         have hh3 := blk_cell hh 3 _ rfl
         have hh4 := blk_cell hh 4 _ rfl
         have hh5 := blk_cell hh 5 _ rfl
         have hh6 := blk_cell hh 6 _ rfl
         have hh7 := blk_cell hh 7 _ rfl
         have hhl := blk_lt hh
         clear hh
         clear hX
         go_simp
         all_goals (first | (intro h9; exfalso; omega) | omega | skip)
        try simp only [Act.put, zA, zB, zC]
        have CFn : ∀ (args : Array Value) (W : World), Sem.run Tryz.prog (callFunc 39 args) W = .ok (.enter 39 args) W := fun _ _ => by kernel_rfl
        refine tG 4 (.bool true) (some 93) (GK.grow _) rfl (yieldsG_call 39 #[.agg #[.int .i64 m0, .int .i64 m1, .int .i64 m2, .int .i64 m3, .int .i64 va, .int .i64 vb, .int .i64 vD, .int .i64 m6]] (by rfl) ?_ (fun X hS => VC.out X)) (GK.drop (by simp)) ?_
        ·intro X hX
         clear hX
         go_simp
        clear CFn
        try simp only [Act.put, zA, zB, zC]
        refine tG 5 (.bool false) (some 94) (GK.grow _) rfl (YieldsIf.toG (Or.inl ⟨by rfl, ?_⟩)) (GK.drop (by simp)) ?_
        ·intro X hX
         clear hX
         go_simp
         all_goals (first | (intro h9; exfalso; omega) | omega | skip)
        try simp only [Act.put, zA, zB, zC]
        refine tG 6 (.bool false) (some 95) (GK.grow _) rfl (YieldsIf.toG (Or.inl ⟨by rfl, ?_⟩)) (GK.drop (by simp)) ?_
        ·intro X hX
         clear hX
         go_simp
         all_goals (first | (intro h9; exfalso; omega) | omega | skip)
        try simp only [Act.put, zA, zB, zC]
        refine tG 7 (.bool false) (some 96) (GK.grow _) rfl (YieldsIf.toG (Or.inl ⟨by rfl, ?_⟩)) (GK.drop (by simp)) ?_
        ·intro X hX
         clear hX
         go_simp
         all_goals (first | (intro h9; exfalso; omega) | omega | skip)
        try simp only [Act.put, zA, zB, zC]
        refine tG 8 (.agg #[.int .i64 m0, .int .i64 m1, .int .i64 m2, .int .i64 m3, .int .i64 va, .int .i64 vb, .int .i64 vD, .int .i64 m6]) (some 97) (GK.grow _) rfl (YieldsIf.toG (Or.inl ⟨by rfl, ?_⟩)) (HAL.out 8) ?_
        ·intro X hX
         have hh := hX (8, gVR, .cells #[.int .i64 m0, .int .i64 m1, .int .i64 m2, .int .i64 m3, .int .i64 va, .int .i64 vb, .int .i64 vD, .int .i64 m6] 44) (List.Mem.tail _ (List.Mem.head _)) rfl
         have hh0 := blk_cell hh 0 _ rfl
         have hh1 := blk_cell hh 1 _ rfl
         have hh2 := blk_cell hh 2 _ rfl
         have hh3 := blk_cell hh 3 _ rfl
         have hh4 := blk_cell hh 4 _ rfl
         have hh5 := blk_cell hh 5 _ rfl
         have hh6 := blk_cell hh 6 _ rfl
         have hh7 := blk_cell hh 7 _ rfl
         have hhl := blk_lt hh
         clear hh
         clear hX
         go_simp
         all_goals (first | (intro h9; exfalso; omega) | omega | skip)
        try simp only [Act.put, zA, zB, zC]
        have CFn : ∀ (args : Array Value) (W : World), Sem.run Tryz.prog (callFunc 32 args) W = .ok (.enter 32 args) W := fun _ _ => by kernel_rfl
        refine tG 9 (Str (lr ++ [10])) (some 98) (GK.grow _) rfl (yieldsG_call 32 #[.agg #[.int .i64 m0, .int .i64 m1, .int .i64 m2, .int .i64 m3, .int .i64 va, .int .i64 vb, .int .i64 vD, .int .i64 m6]] (by rfl) ?_ (fun X hS => LC.out X)) (GK.drop (by simp)) ?_
        ·intro X hX
         clear hX
         go_simp
        clear CFn
        try simp only [Act.put, zA, zB, zC]
        refine tG 10 (.slice (some ⟨gl, 0, none⟩) N cap) (some 99) (GK.grow _) rfl (YieldsIf.toG (Or.inl ⟨by rfl, ?_⟩)) (GK.drop (by simp)) ?_
        ·intro X hX
         clear hX
         go_simp
         all_goals (first | (intro h9; exfalso; omega) | omega | skip)
        try simp only [Act.put, zA, zB, zC]
        refine tG 11 (.int .i64 (k : Int)) (some 100) (GK.grow _) rfl (YieldsIf.toG (Or.inl ⟨by rfl, ?_⟩)) (GK.drop (by simp)) ?_
        ·intro X hX
         clear hX
         go_simp
         all_goals (first | (intro h9; exfalso; omega) | omega | skip)
        try simp only [Act.put, zA, zB, zC]
        refine tG 12 (.pointer (some ⟨gl, k, none⟩)) (some 101) (GK.grow _) rfl (YieldsIf.toG (Or.inl ⟨by rfl, ?_⟩)) (GK.drop (by simp)) ?_
        ·intro X hX
         clear hX
         go_simp
         all_goals (first | (intro h9; exfalso; omega) | omega | skip)
        try simp only [Act.put, zA, zB, zC]
        refine tG 13 (Str ln) (some 102) (GK.grow _) rfl (YieldsIf.toG (Or.inl ⟨by rfl, ?_⟩)) (HAL.out 13) ?_
        ·intro X hX
         have hh := hX (13, gl, .cells cl 9) (List.Mem.tail _ (List.Mem.tail _ (List.Mem.head _))) rfl
         have hh0 := blk_cell hh (k + 0) _ CK.out
         simp only [Nat.add_zero] at hh0
         have hhl := blk_lt hh
         clear hh
         clear hX
         go_simp
         all_goals (first | (intro h9; exfalso; omega) | omega | skip)
        try simp only [Act.put, zA, zB, zC]
        refine tG 14 (Str (ln ++ [10])) (some 103) (GK.grow _) rfl (YieldsIf.toG (Or.inl ⟨by rfl, ?_⟩)) (GK.drop (by simp)) ?_
        ·intro X hX
         clear hX
         go_simp
         all_goals (first | (intro h9; exfalso; omega) | omega | skip)
        try simp only [Act.put, zA, zB, zC]
        refine tG 15 (.bool true) (some 104) (GK.grow _) rfl (YieldsIf.toG (Or.inl ⟨by rfl, ?_⟩)) (GK.drop (by simp)) ?_
        ·intro X hX
         clear hX
         go_simp
         all_goals (first | (intro h9; exfalso; omega) | omega | skip)
        try simp only [Act.put, zA, zB, zC]
        refine tG 16 (.bool true) (some 105) (GK.grow _) rfl (YieldsIf.toG (Or.inl ⟨by rfl, ?_⟩)) (GK.drop (by simp)) ?_
        ·intro X hX
         clear hX
         go_simp
         all_goals (first | (intro h9; exfalso; omega) | omega | skip)
        try simp only [Act.put, zA, zB, zC]
        clear HAL
        refine done_G (by kernel_rfl) (fun X16 hX => ?_) _
        replace NN := Lib.hid (Bgo NN.out hX)
        replace OT := Lib.hid (OR.next OT.out hX)
        replace OGL := Lib.hid (blk_next hX OGL.out)
        replace VR := Lib.hid (blk_next hX VR.out)
        clear hX
        go_wp2_with fail
        exact bodyPost_ret (v := .tuple #[.slice none 0 0, .int .i64 12]) (by simp [results, Tryz.results12, go_sem]) rfl ⟨_, by rw [E0.out.1], NW.out.trans (NN.out.mono NW.out.size), by rw [E0.out.2]; exact OR.nil _ _⟩
    ·have E0 := Lib.hid (PN.out (WB.out ln MEM.out (by rw [PR7.out]; exact if_neg he)))
     clear PR7 WB WE WM PN PS F4 F5 LB
     by_cases h8 : e1 = 0
     ·have q9 : (e1 != 0) = false := by rw [h8]; rfl
      have q10 : (e2 != 0) = true := by rw [bne_iff_ne]; exact fun h => he ⟨h8, h⟩
      clear he h8
      go_wp2_with fail
      exact bodyPost_ret (v := .tuple #[.slice none 0 0, .int .i64 12]) (by simp [results, Tryz.results12, go_sem]) rfl ⟨_, by rw [E0.out.1], NW.out.trans (NN.out.mono NW.out.size), by rw [E0.out.2]; exact OR.nil _ _⟩
     ·have q9 : (e1 != 0) = true := by rw [bne_iff_ne]; exact h8
      clear he h8
      go_wp2_with fail
      exact bodyPost_ret (v := .tuple #[.slice none 0 0, .int .i64 12]) (by simp [results, Tryz.results12, go_sem]) rfl ⟨_, by rw [E0.out.1], NW.out.trans (NN.out.mono NW.out.size), by rw [E0.out.2]; exact OR.nil _ _⟩
   ·obtain ⟨n7, hn7⟩ : ∃ n, (wordsL 32 ln).length = n := ⟨_, rfl⟩
    rw [hn7] at h7 hcap7 ⊢
    have q7 : ((n7 : Int) != 7) = true := by rw [bne_iff_ne]; omega
    have E0 := Lib.hid (PN.out (WB.out ln MEM.out (prR_count (by rw [hn7]; exact h7))))
    clear WB WE WM PN PS
    go_wp2_with fail
    exact bodyPost_ret (v := .tuple #[.slice none 0 0, .int .i64 12]) (by simp [results, Tryz.results12, go_sem]) rfl ⟨_, by rw [E0.out.1], NW.out.trans (NN.out.mono NW.out.size), by rw [E0.out.2]; exact OR.nil _ _⟩
  ·have hke : k = N - 1 := by omega
   have TE : Hid (allO prR L.dropLast = some t) := Lib.hid (by have h := TA.out; rw [List.take_of_length_le (by have := HLN.out; omega)] at h; exact h)
   obtain ⟨la, hla⟩ : ∃ la, L[k]? = some la := ⟨_, List.getElem?_eq_getElem (by have := HN.out; omega)⟩
   have GL9 : L.getLast? = some la := by rw [List.getLast?_eq_getElem?, HN.out, ← hke]; exact hla
   have PE := Lib.hid (WE.out t TE.out)
   rw [GL9] at PE
   have CK := Lib.hid (HCL.out k la hla)
   have LB := WP.out la (List.mem_of_getElem? hla)
   clear hla GL9 TE TA WM WB WE
   have wN : IntKind.i64.wrap ((N : Int) - 1) = (k : Int) := by rw [IntWalk.i64_in _ (by omega)]; omega
   have k9 : ((k : Int) + 1 < (N : Int)) = False := by simp; omega
   clear hke
   have ck := blk_cell OGL.out k _ CK.out
   have lk := blk_lt OGL.out
   cases la with
   | cons a la =>
    have E0 := Lib.hid (PN.out (by rw [PE.out]; exact if_neg (by simp)))
    clear PE PN PS
    go_wp2_with fail
    exact bodyPost_ret (v := .tuple #[.slice none 0 0, .int .i64 12]) (by simp [results, Tryz.results12, go_sem]) rfl ⟨_, by rw [E0.out.1], NW.out.trans (NN.out.mono NW.out.size), by rw [E0.out.2]; exact OR.nil _ _⟩
   | nil =>
    obtain ⟨A2, c2, hv2, hc2, hc2', hrt, -⟩ := OR.form OT.out
    injection hv2 with e1 e2 e3
    subst e1 e3
    clear e2
    have CC := Lib.hid (refchk_calls hrt hc2 hc2')
    clear hrt
    go_wp2_with fail
    clear ck lk
    refine (CC.out).mono ?_
    rintro e w17 ⟨rfl, hb⟩
    replace NN := Lib.hid (Bgo NN.out hb)
    replace OT := Lib.hid (OR.next OT.out hb)
    replace OGL := Lib.hid (blk_next hb OGL.out)
    clear hb
    by_cases hc : chkE t = 0
    ·have E0 := Lib.hid (PS.out t (by rw [PE.out]; exact if_pos ⟨by first | rfl | trivial, hc⟩))
     rw [hc]
     clear PE PN PS hc
     go_wp2_with fail
     exact bodyPost_ret (v := .tuple #[.slice A t.length ct, .int .i64 0]) (by simp [results, Tryz.results12, go_sem]) rfl ⟨_, by rw [E0.out.1], NW.out.trans (NN.out.mono NW.out.size), by rw [E0.out.2]; exact OR.mono OT.out NW.out.size⟩
    ·have E0 := Lib.hid (PN.out (by rw [PE.out]; exact if_neg (fun h => hc h.2)))
     have q9 : (chkE t != 0) = true := by rw [bne_iff_ne]; exact hc
     clear PE PN PS
     go_wp2_with fail
     exact bodyPost_ret (v := .tuple #[.slice none 0 0, .int .i64 12]) (by simp [results, Tryz.results12, go_sem]) rfl ⟨_, by rw [E0.out.1], NW.out.trans (NN.out.mono NW.out.size), by rw [E0.out.2]; exact OR.nil _ _⟩
end Go.Proofs.YtbbnkclajpaghaaGreatDoor
