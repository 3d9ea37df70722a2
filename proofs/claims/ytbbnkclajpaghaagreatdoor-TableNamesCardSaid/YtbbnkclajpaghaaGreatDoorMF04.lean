/- Several texts in one. -/
import Derived.Lib.AtoiErrMem
import Derived.Lib.ParseIntBTie
import Derived.Lib.AppendIntMem
import Derived.StillTail
import Derived.Test.YtbbnkclajpaghaaGreatDoorMF00
import Derived.Test.YtbbnkclajpaghaaGreatDoorMF01
import Derived.Test.YtbbnkclajpaghaaGreatDoorMF03
set_option maxHeartbeats 8000000
set_option maxRecDepth 100000
set_option linter.unusedVariables false
set_option linter.unusedSimpArgs false
namespace Go.Proofs.YtbbnkclajpaghaaGreatDoor
section
open Go.ChangeShapes Go.WideShapes Go.ChangeAt Go.RowKit
attribute [local go_sem ↓] Go.wp_at_zero Go.wp_at_succ
theorem var_keep {P : Program} {w w' : World} {n : String} {cs : Array Value} (h : w.var? P n = some cs) (hb : Below w.heap.size w w') : w'.var? P n = some cs := by
 unfold World.var? at h ⊢
 cases hg : P.globalNamed n with
 | none => rw [hg] at h; cases h
 | some g =>
  rw [hg] at h
  simp only [Option.bind_some] at h ⊢
  cases hh : w.heap[g]? with
  | none => rw [hh] at h; cases h
  | some o =>
   rw [hh] at h
   rw [blk_next hb hh]
   exact h
structure GL (w : World) : Prop where
 tab : Lib.TabIs Tryz.prog w "internal/strconv.uint64pow10" .u64 Lib.pow10Tab
 syn : ∃ tp p, w.var? Tryz.prog "strconv.ErrSyntax" = some #[.iface tp p]
 ran : ∃ tp p, w.var? Tryz.prog "strconv.ErrRange" = some #[.iface tp p]
 max : ∃ m, w.cell? ⟨0, 0, none⟩ = some (.int .i64 m)
theorem cell_keep {w w' : World} {a : Addr} {v : Value} (h : w.cell? a = some v) (hb : Below w.heap.size w w') : w'.cell? a = some v := by
 have : a.block < w.heap.size := by
  unfold World.cell? at h
  cases hh : w.heap[a.block]? with
  | none => rw [hh] at h; cases h
  | some o => exact blk_lt hh
 exact (hb.cell this).trans h
theorem GL.next {w w' : World} (h : GL w) (hb : Below w.heap.size w w') : GL w' :=
 ⟨var_keep h.tab hb, by obtain ⟨t, p, e⟩ := h.syn; exact ⟨t, p, var_keep e hb⟩, by obtain ⟨t, p, e⟩ := h.ran; exact ⟨t, p, var_keep e hb⟩, by obtain ⟨m, e⟩ := h.max; exact ⟨m, cell_keep e hb⟩⟩
abbrev Str (l : List UInt8) : Value := .string ⟨l.toArray⟩
theorem fmt_calls (n : Int) (w : World) (h1 : -9223372036854775808 ≤ n) (h2 : n ≤ 9223372036854775807) (g : GL w) :
  Calls Tryz.prog 80 #[.int .i64 n, .int .i64 10] w fun e w' => e = .returned (Str (Lib.itoa n)) ∧ Below w.heap.size w w' :=
 (Tryz.strconv_FormatInt_10 n h1 h2 w g.tab).mono fun e w' ⟨h, k, os, hw⟩ => ⟨h, by rw [hw]; exact Lib.below_grow _ _ (Nat.le_refl _) k os⟩
theorem cutS_calls (s : ByteArray) (w : World) (hs : s.size < 4294967281) (g : GL w) :
  Calls Tryz.prog 61 #[.string s, .string ⟨#[47]⟩] w fun e w' => e = .returned (.tuple #[Str (Lib.cut s.data.toList [47]).1, Str (Lib.cut s.data.toList [47]).2.1, .bool (Lib.cut s.data.toList [47]).2.2]) ∧ Below w.heap.size w w' := by
 obtain ⟨m, hm⟩ := g.max
 exact (Tryz.strings_Cut s ⟨#[47]⟩ m w hs hm).mono fun e w' ⟨h, k, hw⟩ => ⟨h, by rw [hw]; exact below_drewN (Below.refl _ _) k⟩
theorem parse_bounds {l : List UInt8} {v : Int} (h : Lib.parseIntB 64 l = .ok v) : -9223372036854775808 ≤ v ∧ v ≤ 9223372036854775807 := by
 have := Lib.parseIntB_bounds h
 rw [show ((2 ^ (64 - 1) : Nat) : Int) = 9223372036854775808 from rfl] at this
 omega
def PI (l : List UInt8) (w : World) (e : Ending) (w' : World) : Prop :=
 (∃ v, Lib.parseIntB 64 l = .ok v ∧ -9223372036854775808 ≤ v ∧ v ≤ 9223372036854775807 ∧ e = .returned (.tuple #[.int .i64 v, .nilIface]) ∧ Below w.heap.size w w') ∨ ((∀ v, Lib.parseIntB 64 l ≠ .ok v) ∧ ∃ v t p, e = .returned (.tuple #[.int .i64 v, .iface t p]) ∧ Below w.heap.size w w')
theorem parse_calls (s : ByteArray) (w : World) (hs : s.size ≤ 4294967281) (g : GL w) :
  Calls Tryz.prog 90 #[.string s, .int .i64 10, .int .i64 64] w (PI s.data.toList w) := by
 cases h : Lib.parseIntB 64 s.data.toList with
 | ok v =>
  refine (Tryz.strconv_ParseInt_10_at64_ok s (by omega) v h w).mono fun e w' ⟨h1, h2⟩ => .inl ⟨v, h, ?_, ?_, h1, ?_⟩
  ·exact (parse_bounds h).1
  ·exact (parse_bounds h).2
  ·rcases h2 with rfl | ⟨t, rfl⟩
   ·exact Below.refl _ _
   ·exact Lib.bytesWorld_below _ _ _
 | range =>
  obtain ⟨tp, p, hv⟩ := g.ran
  exact (Tryz.strconv_ParseInt_10_at64_range_var s (by omega) h tp p w hv).mono fun e w' ⟨N, h1, h2, h3, h4⟩ => .inr ⟨fun v => (by rw [h]; intro k; cases k), _, _, _, h1, h4⟩
 | _ =>
  obtain ⟨tp, p, hv⟩ := g.syn
  exact (Tryz.strconv_ParseInt_10_at64_syntax_var s (by omega) ⟨fun v => (by rw [h]; intro k; cases k), by rw [h]; intro k; cases k⟩ tp p w hv).mono fun e w' ⟨N, h1, h2, h3, h4⟩ => .inr ⟨fun v => (by rw [h]; intro k; cases k), _, _, _, h1, h4⟩
theorem cat2 (a b : List UInt8) : (⟨a.toArray⟩ : ByteArray) ++ ⟨b.toArray⟩ = ⟨(a ++ b).toArray⟩ := by
 rw [ByteArray.ext_iff, ByteArray.data_append]
 simp
theorem cat3 (a b : List UInt8) : (⟨a.toArray⟩ : ByteArray) ++ ((⟨#[47]⟩ : ByteArray) ++ ⟨b.toArray⟩) = ⟨(a ++ 47 :: b).toArray⟩ := by
 rw [show (⟨#[47]⟩ : ByteArray) = ⟨[47].toArray⟩ from rfl, cat2, cat2]
 rfl
def txR (n d : Int) : List UInt8 := if errF n d = 0 then textL n d else []
theorem text_calls (n d : Int) (w : World) (g : GL w) :
  Calls Tryz.prog 52 #[Fv n d] w fun e w' => e = .returned (.tuple #[Str (txR n d), .int .i64 (errF n d)]) ∧ Below w.heap.size w w' := by
 have C1 := zh (fun W => check_calls n d W)
 have G := zh g
 clear g
 by_cases ck : errF n d = 0
 rotate_left
 ·have F : Hid (txR n d = []) := zh (by unfold txR; rw [if_neg ck])
  have ck' : (errF n d != 0) = true := by rw [bne_iff_ne]; exact ck
  generalize txR n d = res at *
  generalize errF n d = er at *
  clear ck
  go_enter Tryz.func52, Tryz.ntmps52
  go_wp2_with fail
  refine (C1.out _).mono ?_
  rintro e w1 ⟨rfl, hb⟩
  have NN := zh (Bgo (Bal (Below.refl _ _) _) hb)
  clear hb
  go_wp2_with fail
  go_ret2
  exact ⟨by rw [F.out]; rfl, NN.out⟩
 have v := errF_ok ck
 have F : Hid (txR n d = textL n d) := zh (by unfold txR; rw [if_pos ck])
 rw [ck] at C1 ⊢
 generalize txR n d = res at *
 have n1 := v.n1
 have n2 := v.n2
 have d1 := v.d1
 have d2 := v.d2
 have T1 := zh (fun W (h : GL W) => fmt_calls n W (by omega) (by omega) h)
 have T2 := zh (fun W (h : GL W) => fmt_calls d W (by omega) (by omega) h)
 have FT : Hid (textL n d = if d = 1 then Lib.itoa n else Lib.itoa n ++ 47 :: Lib.itoa d) := zh rfl
 have ln := Lib.itoa_length_le n (by omega) (by omega)
 have ld := Lib.itoa_length_le d (by omega) (by omega)
 generalize Lib.itoa n = tn at *
 generalize Lib.itoa d = td at *
 clear ck v
 by_cases hd : d = 1
 ·have F2 := zh (F.out.trans (FT.out.trans (if_pos hd)))
  clear F FT
  subst hd
  go_enter Tryz.func52, Tryz.ntmps52
  go_wp2_with fail
  refine (C1.out _).mono ?_
  rintro e w1 ⟨rfl, hb⟩
  have NN := zh (Bgo (Bal (Below.refl _ _) _) hb)
  have K := zh (blk_next hb (blk_new w (.cells #[.int .i64 n, .int .i64 1] 83)))
  replace G := zh (G.out.next NN.out)
  clear hb
  obtain ⟨a0, a1, al⟩ := zcl2 K
  go_wp2_with fail
  refine (T1.out _ G.out).mono ?_
  rintro e w2 ⟨rfl, hb⟩
  clear a0 a1 al
  replace NN := zh (Bgo NN.out hb)
  replace K := zn hb K
  replace G := zh (G.out.next hb)
  clear hb
  obtain ⟨a0, a1, al⟩ := zcl2 K
  go_wp2_with fail
  go_ret2
  exact ⟨by rw [F2.out]; rfl, NN.out⟩
 ·have F2 := zh (F.out.trans (FT.out.trans (if_neg hd)))
  clear F FT
  have hd' : (d != 1) = true := by rw [bne_iff_ne]; exact hd
  clear hd
  go_enter Tryz.func52, Tryz.ntmps52
  go_wp2_with fail
  refine (C1.out _).mono ?_
  rintro e w1 ⟨rfl, hb⟩
  have NN := zh (Bgo (Bal (Below.refl _ _) _) hb)
  have K := zh (blk_next hb (blk_new w (.cells #[.int .i64 n, .int .i64 d] 83)))
  replace G := zh (G.out.next NN.out)
  clear hb
  obtain ⟨a0, a1, al⟩ := zcl2 K
  go_wp2_with fail
  refine (T1.out _ G.out).mono ?_
  rintro e w2 ⟨rfl, hb⟩
  clear a0 a1 al
  replace NN := zh (Bgo NN.out hb)
  replace K := zn hb K
  replace G := zh (G.out.next hb)
  clear hb
  obtain ⟨a0, a1, al⟩ := zcl2 K
  go_wp2_with fail
  refine (T2.out _ G.out).mono ?_
  rintro e w3 ⟨rfl, hb⟩
  replace NN := zh (Bgo NN.out hb)
  clear hb a0 a1 al
  go_wp2_with fail
  rw [cat3 tn td, ← F2.out]
  go_ret2
  exact ⟨rfl, NN.out⟩
end
section
open Go.ChangeShapes Go.WideShapes Go.ChangeAt Go.RowKit
attribute [local go_sem ↓] Go.wp_at_zero Go.wp_at_succ
theorem PR.none {l : List UInt8} (h : ∀ n d, VF n d → textL n d ≠ l) : PR l (0, 0, 12) := .inr ⟨rfl, h⟩
theorem PR.some {l : List UInt8} {n d : Int} (h1 : errF n d = 0) (h2 : txR n d = l) : PR l (n, d, 0) := by
 refine .inl ⟨rfl, errF_ok h1, ?_⟩
 unfold txR at h2
 rwa [if_pos h1] at h2
theorem VF.itoaN {n d : Int} (v : VF n d) : Lib.parseIntB 64 (Lib.itoa n) = .ok n := parseI_itoa (by have := v.n1; omega) (by have := v.n2; omega)
theorem VF.itoaD {n d : Int} (v : VF n d) : Lib.parseIntB 64 (Lib.itoa d) = .ok d := parseI_itoa (by have := v.d1; omega) (by have := v.d2; omega)
theorem VF.tx {n d : Int} (v : VF n d) : txR n d = textL n d := by unfold txR; rw [if_pos v.err]
theorem s_len (s : ByteArray) : s.data.toList.length = s.size := by rw [Array.length_toList]; rfl
theorem parseP_calls (s : ByteArray) (w : World) (g : GL w) :
  Calls Tryz.prog 64 #[.string s] w fun e w' => ∃ r, e = .returned (Rv r) ∧ PR s.data.toList r ∧ Below w.heap.size w w' := by
 have G := zh g
 clear g
 have SL := s_len s
 by_cases big : 40 < s.size
 ·have NO := zh (PR.none (l := s.data.toList) (fun n d v h => by have := text_len v; rw [h] at this; omega))
  clear SL
  have bg : decide ((40 : Int) < (s.size : Int)) = true := decide_eq_true (by omega)
  go_enter Tryz.func64, Tryz.ntmps64
  go_wp2_with fail
  have K := zh (blk_new w (.cells #[.int .i64 0, .int .i64 0] 83))
  have NN := zh (Bal (Below.refl w.heap.size w) (.cells #[.int .i64 0, .int .i64 0] 83))
  refine bodyPost_ret (v := Rv (0, 0, 12)) (by simp [results, Tryz.results64, go_sem]) rfl ⟨_, rfl, NO.out, by first | exact NN.out | exact Bset1 (Bset1 NN.out (Nat.le_refl _) _ _) (Nat.le_refl _) _ _⟩
 have bg : decide ((40 : Int) < (s.size : Int)) = false := decide_eq_false (by omega)
 have CC := zh (fun W (h : GL W) => cutS_calls s W (by omega) h)
 have CT : Hid (∀ n d, VF n d → textL n d = s.data.toList → Lib.cut s.data.toList [47] = (Lib.itoa n, if d = 1 then [] else Lib.itoa d, !decide (d = 1))) := zh (fun n d v h => by rw [← h, cut_text])
 have LL : (Lib.cut s.data.toList [47]).1.length ≤ 40 ∧ (Lib.cut s.data.toList [47]).2.1.length ≤ 40 := by
  unfold Lib.cut; split <;> simp <;> omega
 obtain ⟨⟨la, lb, f⟩, hc⟩ : ∃ r, Lib.cut s.data.toList [47] = r := ⟨_, rfl⟩
 rw [hc] at CC CT LL
 clear hc
 obtain ⟨ll1, ll2⟩ := LL
 have P1 := zh (fun W (h : GL W) => parse_calls ⟨la.toArray⟩ W (by have := s_len ⟨la.toArray⟩; simp at this ll1; omega) h)
 have P2 := zh (fun W (h : GL W) => parse_calls ⟨lb.toArray⟩ W (by have := s_len ⟨lb.toArray⟩; simp at this ll2; omega) h)
 rw [show (⟨la.toArray⟩ : ByteArray).data.toList = la by simp] at P1
 rw [show (⟨lb.toArray⟩ : ByteArray).data.toList = lb by simp] at P2
 clear big SL ll1 ll2
 go_enter Tryz.func64, Tryz.ntmps64
 go_wp2_with fail
 have K := zh (blk_new w (.cells #[.int .i64 0, .int .i64 0] 83))
 have NN := zh (Bal (Below.refl w.heap.size w) (.cells #[.int .i64 0, .int .i64 0] 83))
 replace G := zh (G.out.next NN.out)
 generalize w.alloc (.cells #[.int .i64 0, .int .i64 0] 83) = W0 at *
 refine (CC.out _ G.out).mono ?_
 rintro e w1 ⟨rfl, hb⟩
 replace NN := zh (Bgo NN.out hb)
 replace K := zn hb K
 replace G := zh (G.out.next hb)
 clear hb
 clear CC
 go_wp2_with fail
 refine (P1.out _ G.out).mono ?_
 clear P1
 rintro e w2 (⟨num, pn, n1, n2, rfl, hb⟩ | ⟨pn, v2, t2, p2, rfl, hb⟩)
 rotate_left
 ·have NO := zh (PR.none (l := s.data.toList) (fun n d v h => by have := CT.out n d v h; simp only [Prod.mk.injEq] at this; exact pn n (by rw [this.1]; exact v.itoaN)))
  clear pn CT
  replace NN := zh (Bgo NN.out hb)
  replace K := zn hb K
  replace G := zh (G.out.next hb)
  clear hb
  obtain ⟨z0, f0, z1, f1, zl⟩ := zfl2 K
  go_wp2_with fail
  have e1 := blk_cell (blk_set (blk_set K.out 0 (.int .i64 0)) 1 (.int .i64 0)) 0 _ rfl
  have e2 := blk_cell (blk_set (blk_set K.out 0 (.int .i64 0)) 1 (.int .i64 0)) 1 _ rfl
  refine bodyPost_ret (v := Rv (0, 0, 12)) (by simp [results, Tryz.results64, go_sem, e1, e2]) rfl ⟨_, rfl, NO.out, Bset1 (Bset1 NN.out (Nat.le_refl _) _ _) (Nat.le_refl _) _ _⟩
 replace NN := zh (Bgo NN.out hb)
 replace K := zn hb K
 replace G := zh (G.out.next hb)
 clear hb
 have PN := zh pn
 clear pn
 cases f with
 | true =>
  go_wp2_with fail
  refine (P2.out _ G.out).mono ?_
  clear P2
  rintro e w3 (⟨den, pd, d1, d2, rfl, hb⟩ | ⟨pd, v3, t3, p3, rfl, hb⟩)
  rotate_left
  ·have NO := zh (PR.none (l := s.data.toList) (fun n d v h => by
    have := CT.out n d v h; simp only [Prod.mk.injEq] at this
    have hd : ¬ d = 1 := by have := this.2.2; simpa using this
    rw [if_neg hd] at this
    exact pd d (by rw [this.2.1]; exact v.itoaD)))
   clear pd CT
   replace NN := zh (Bgo NN.out hb)
   replace K := zn hb K
   replace G := zh (G.out.next hb)
   clear hb
   obtain ⟨z0, f0, z1, f1, zl⟩ := zfl2 K
   go_wp2_with fail
   have e1 := blk_cell (blk_set (blk_set K.out 0 (.int .i64 0)) 1 (.int .i64 0)) 0 _ rfl
   have e2 := blk_cell (blk_set (blk_set K.out 0 (.int .i64 0)) 1 (.int .i64 0)) 1 _ rfl
   refine bodyPost_ret (v := Rv (0, 0, 12)) (by simp [results, Tryz.results64, go_sem, e1, e2]) rfl ⟨_, rfl, NO.out, Bset1 (Bset1 NN.out (Nat.le_refl _) _ _) (Nat.le_refl _) _ _⟩
  ·have UN : Hid (∀ n d, VF n d → textL n d = s.data.toList → errF num den = 0 ∧ txR num den = s.data.toList) := zh (fun n d v h => by
    have := CT.out n d v h; simp only [Prod.mk.injEq] at this
    have hd : ¬ d = 1 := by have := this.2.2; simpa using this
    rw [if_neg hd] at this
    have en := PN.out
    rw [this.1, v.itoaN] at en
    rw [this.2.1, v.itoaD] at pd
    cases en; cases pd
    exact ⟨v.err, by rw [v.tx]; exact h⟩)
   clear pd CT PN
   replace NN := zh (Bgo NN.out hb)
   replace K := zn hb K
   replace G := zh (G.out.next hb)
   clear hb
   have TC := zh (fun W (h : GL W) => text_calls num den W h)
   have OKR := zh (fun (h1 : errF num den = 0) (h2 : txR num den = s.data.toList) => PR.some h1 h2)
   obtain ⟨tx, htx⟩ : ∃ z, txR num den = z := ⟨_, rfl⟩
   obtain ⟨er, her⟩ : ∃ z, errF num den = z := ⟨_, rfl⟩
   rw [htx, her] at TC OKR UN
   clear htx her
   obtain ⟨HB, A⟩ := zl (w := w3) (.cells #[.int .i64 num, .int .i64 den] 83)
   replace NN := zh (Bgo NN.out HB.out)
   replace K := zn HB K
   replace G := zh (G.out.next HB.out)
   clear HB
   go_wp2_with fail
   generalize w3.alloc (.cells #[.int .i64 num, .int .i64 den] 83) = W4 at *
   generalize w3.heap.size = ga at *
   refine (TC.out _ G.out).mono ?_
   rintro e w5 ⟨rfl, hb⟩
   replace A := zn hb A
   replace NN := zh (Bgo NN.out hb)
   replace K := zn hb K
   replace G := zh (G.out.next hb)
   clear hb
   clear TC
   obtain ⟨z0, f0, z1, f1, zl⟩ := zfl2 K
   obtain ⟨a0, a1, al⟩ := zcl2 A
   by_cases ez : er = 0
   rotate_left
   ·have ez' : (er != 0) = true := by rw [bne_iff_ne]; exact ez
    have NO := zh (PR.none (l := s.data.toList) (fun n d v h => ez (UN.out n d v h).1))
    clear UN OKR ez
    go_wp2_with fail
    have e1 := blk_cell (blk_set (blk_set K.out 0 (.int .i64 0)) 1 (.int .i64 0)) 0 _ rfl
    have e2 := blk_cell (blk_set (blk_set K.out 0 (.int .i64 0)) 1 (.int .i64 0)) 1 _ rfl
    refine bodyPost_ret (v := Rv (0, 0, 12)) (by simp [results, Tryz.results64, go_sem, e1, e2]) rfl ⟨_, rfl, NO.out, Bset1 (Bset1 NN.out (Nat.le_refl _) _ _) (Nat.le_refl _) _ _⟩
   subst ez
   by_cases et : tx = s.data.toList
   rotate_left
   ·have et' : (tx == s.toList) = false := by rw [ByteArray.toList_eq, beq_eq_false_iff_ne]; exact et
    have NO := zh (PR.none (l := s.data.toList) (fun n d v h => et (UN.out n d v h).2))
    clear UN OKR et
    go_wp2_with fail
    have e1 := blk_cell (blk_set (blk_set K.out 0 (.int .i64 0)) 1 (.int .i64 0)) 0 _ rfl
    have e2 := blk_cell (blk_set (blk_set K.out 0 (.int .i64 0)) 1 (.int .i64 0)) 1 _ rfl
    refine bodyPost_ret (v := Rv (0, 0, 12)) (by simp [results, Tryz.results64, go_sem, e1, e2]) rfl ⟨_, rfl, NO.out, Bset1 (Bset1 NN.out (Nat.le_refl _) _ _) (Nat.le_refl _) _ _⟩
   have R := zh (OKR.out rfl et)
   have et' : (tx == s.toList) = true := by rw [ByteArray.toList_eq, et]; exact beq_self_eq_true _
   clear UN OKR et
   go_wp2_with fail
   have e1 := blk_cell (blk_set (blk_set K.out 0 (.int .i64 num)) 1 (.int .i64 den)) 0 _ rfl
   have e2 := blk_cell (blk_set (blk_set K.out 0 (.int .i64 num)) 1 (.int .i64 den)) 1 _ rfl
   refine bodyPost_ret (v := Rv (num, den, 0)) (by simp [results, Tryz.results64, go_sem, e1, e2]) rfl ⟨_, rfl, R.out, Bset1 (Bset1 NN.out (Nat.le_refl _) _ _) (Nat.le_refl _) _ _⟩
 | false =>
  have UN : Hid (∀ n d, VF n d → textL n d = s.data.toList → errF num 1 = 0 ∧ txR num 1 = s.data.toList) := zh (fun n d v h => by
    have := CT.out n d v h; simp only [Prod.mk.injEq] at this
    have hd : d = 1 := by have := this.2.2; simpa using this
    subst hd
    have en := PN.out
    rw [this.1, v.itoaN] at en
    cases en
    exact ⟨v.err, by rw [v.tx]; exact h⟩)
  clear CT PN P2
  have TC := zh (fun W (h : GL W) => text_calls num 1 W h)
  have OKR := zh (fun (h1 : errF num 1 = 0) (h2 : txR num 1 = s.data.toList) => PR.some h1 h2)
  obtain ⟨tx, htx⟩ : ∃ z, txR num 1 = z := ⟨_, rfl⟩
  obtain ⟨er, her⟩ : ∃ z, errF num 1 = z := ⟨_, rfl⟩
  rw [htx, her] at TC OKR UN
  clear htx her
  obtain ⟨HB, A⟩ := zl (w := w2) (.cells #[.int .i64 num, .int .i64 1] 83)
  replace NN := zh (Bgo NN.out HB.out)
  replace K := zn HB K
  replace G := zh (G.out.next HB.out)
  clear HB
  go_wp2_with fail
  generalize w2.alloc (.cells #[.int .i64 num, .int .i64 1] 83) = W4 at *
  generalize w2.heap.size = ga at *
  refine (TC.out _ G.out).mono ?_
  rintro e w5 ⟨rfl, hb⟩
  replace A := zn hb A
  replace NN := zh (Bgo NN.out hb)
  replace K := zn hb K
  replace G := zh (G.out.next hb)
  clear hb
  clear TC
  obtain ⟨z0, f0, z1, f1, zl⟩ := zfl2 K
  obtain ⟨a0, a1, al⟩ := zcl2 A
  by_cases ez : er = 0
  rotate_left
  ·have ez' : (er != 0) = true := by rw [bne_iff_ne]; exact ez
   have NO := zh (PR.none (l := s.data.toList) (fun n d v h => ez (UN.out n d v h).1))
   clear UN OKR ez
   go_wp2_with fail
   have e1 := blk_cell (blk_set (blk_set K.out 0 (.int .i64 0)) 1 (.int .i64 0)) 0 _ rfl
   have e2 := blk_cell (blk_set (blk_set K.out 0 (.int .i64 0)) 1 (.int .i64 0)) 1 _ rfl
   refine bodyPost_ret (v := Rv (0, 0, 12)) (by simp [results, Tryz.results64, go_sem, e1, e2]) rfl ⟨_, rfl, NO.out, Bset1 (Bset1 NN.out (Nat.le_refl _) _ _) (Nat.le_refl _) _ _⟩
  subst ez
  by_cases et : tx = s.data.toList
  rotate_left
  ·have et' : (tx == s.toList) = false := by rw [ByteArray.toList_eq, beq_eq_false_iff_ne]; exact et
   have NO := zh (PR.none (l := s.data.toList) (fun n d v h => et (UN.out n d v h).2))
   clear UN OKR et
   go_wp2_with fail
   have e1 := blk_cell (blk_set (blk_set K.out 0 (.int .i64 0)) 1 (.int .i64 0)) 0 _ rfl
   have e2 := blk_cell (blk_set (blk_set K.out 0 (.int .i64 0)) 1 (.int .i64 0)) 1 _ rfl
   refine bodyPost_ret (v := Rv (0, 0, 12)) (by simp [results, Tryz.results64, go_sem, e1, e2]) rfl ⟨_, rfl, NO.out, Bset1 (Bset1 NN.out (Nat.le_refl _) _ _) (Nat.le_refl _) _ _⟩
  have R := zh (OKR.out rfl et)
  have et' : (tx == s.toList) = true := by rw [ByteArray.toList_eq, et]; exact beq_self_eq_true _
  clear UN OKR et
  go_wp2_with fail
  have e1 := blk_cell (blk_set (blk_set K.out 0 (.int .i64 num)) 1 (.int .i64 1)) 0 _ rfl
  have e2 := blk_cell (blk_set (blk_set K.out 0 (.int .i64 num)) 1 (.int .i64 1)) 1 _ rfl
  refine bodyPost_ret (v := Rv (num, 1, 0)) (by simp [results, Tryz.results64, go_sem, e1, e2]) rfl ⟨_, rfl, R.out, Bset1 (Bset1 NN.out (Nat.le_refl _) _ _) (Nat.le_refl _) _ _⟩
end
section
theorem okF_VF {n d : Int} (h : okF n d = true) : VF n d := errF_ok (by unfold errF; rw [h]; rfl)
theorem VF_okF {n d : Int} (h : VF n d) : okF n d = true := by
 unfold okF
 rw [h.g, decide_eq_true ⟨h.d1, h.d2, h.n1, h.n2⟩]; rfl
def prC (l : List UInt8) : Int × Int × Int := match Lib.cut l [47] with
 | (a, b, f) => match Lib.parseIntB 64 a with
  | .ok n => if f then (match Lib.parseIntB 64 b with
    | .ok d => if okF n d && (textL n d == l) then (n, d, 0) else (0, 0, 12)
    | _ => (0, 0, 12))
   else if okF n 1 && (textL n 1 == l) then (n, 1, 0) else (0, 0, 12)
  | _ => (0, 0, 12)
theorem prC_text {n d : Int} (v : VF n d) : prC (textL n d) = (n, d, 0) := by
 unfold prC
 rw [cut_text]
 simp only [v.itoaN]
 by_cases h : d = 1
 ·subst h
  simp [VF_okF v]
 ·simp only [h, decide_false, Bool.not_false, if_true, if_false]
  simp only [v.itoaD, VF_okF v, beq_self_eq_true, Bool.and_self, if_true]
theorem prC_form (l : List UInt8) : (∃ n d, VF n d ∧ textL n d = l ∧ prC l = (n, d, 0)) ∨ prC l = (0, 0, 12) := by
 have K : ∀ n d, (okF n d && (textL n d == l)) = true → VF n d ∧ textL n d = l := fun n d h => by
  rw [Bool.and_eq_true, beq_iff_eq] at h
  exact ⟨okF_VF h.1, h.2⟩
 unfold prC
 split
 split
 ·rename_i n hn
  split
  ·split
   ·rename_i d hd
    split
    ·rename_i h; exact .inl ⟨n, d, (K n d h).1, (K n d h).2, rfl⟩
    ·exact .inr rfl
   ·exact .inr rfl
  ·split
   ·rename_i h; exact .inl ⟨n, 1, (K n 1 h).1, (K n 1 h).2, rfl⟩
   ·exact .inr rfl
 ·exact .inr rfl
theorem prC_PR (l : List UInt8) : PR l (prC l) := by
 rcases prC_form l with ⟨n, d, v, h, e⟩ | e
 ·rw [e]; exact .inl ⟨rfl, v, h⟩
 ·rw [e]
  refine .inr ⟨rfl, fun n d v h => ?_⟩
  subst h
  rw [prC_text v] at e
  cases e
theorem PR.eq {l : List UInt8} {r : Int × Int × Int} (h : PR l r) : r = prC l := h.unique (prC_PR l)
end
section
open Go.ChangeShapes Go.WideShapes Go.ChangeAt Go.RowKit
attribute [local go_sem ↓] Go.wp_at_zero Go.wp_at_succ
structure P2 (w W : World) (an ad bn bd : Int) : Prop where
 a : W.heap[w.heap.size]? = some (.cells #[.int .i64 an, .int .i64 ad] 83)
 b : W.heap[w.heap.size + 1]? = some (.cells #[.int .i64 bn, .int .i64 bd] 83)
 n : Below w.heap.size w W
theorem P2.next {w W W' : World} {an ad bn bd : Int} (h : P2 w W an ad bn bd) (hb : Below W.heap.size W W') : P2 w W' an ad bn bd := ⟨blk_next hb h.a, blk_next hb h.b, Bgo h.n hb⟩
theorem P2.init (w : World) (an ad bn bd : Int) : P2 w ((w.alloc (.cells #[.int .i64 an, .int .i64 ad] 83)).alloc (.cells #[.int .i64 bn, .int .i64 bd] 83)) an ad bn bd := ⟨blk1 w _ _, blk2 w _ _, Bal (Bal (Below.refl _ _) _) _⟩
end
section
open Go
section
variable {P : Program} {ops : Array Oper} {Q : Exit → Act → World → Prop} {md : Region.Mode} {S : Nat → World → Prop}
theorem edge_ne {i j : Nat} {oj : Oper} {done : Array Bool} (hoj : ops[j]? = some oj) (hj : j ∈ Region.ready md ops done) (hi : i ∈ Region.ready md ops done) : ∀ e ∈ oj.after, Region.binds md e = true → e.on ≠ i := fun e he hb heq => by
 obtain ⟨_, o', ho', hall⟩ := mem_ready.1 hj
 have : o' = oj := Option.some.inj (ho'.symm.trans hoj)
 subst this
 have h1 := hall e he hb
 rw [heq, getD_both (mem_ready.1 hi).1] at h1
 cases h1
end
theorem zA {α : Type} (l : List α) (i : Nat) (a : α) : l.toArray.setIfInBounds i a = (l.set i a).toArray := List.setIfInBounds_toArray ..
theorem zB {α : Type} {a b : α} {l : List α} : (a :: l).set 0 b = b :: l := rfl
theorem zC {α : Type} {a b : α} {l : List α} {n : Nat} : (a :: l).set (n + 1) b = a :: l.set n b := rfl
end
section
open Go.ChangeShapes Go.WideShapes Go.ChangeAt Go.RowKit
attribute [local go_sem ↓] Go.wp_at_zero Go.wp_at_succ
def tailF (neg : Bool) (X g d1 d2 : Nat) : Int × Int × Int := if X / Nat.gcd (X % g) g = 0 then (0, 1, 0) else lowF neg (X / Nat.gcd (X % g) g) ((d1 / g) * (d2 / Nat.gcd (X % g) g))
def addP (an bn : Int) (P Q g y v : Nat) : Int × Int × Int :=
 if decide (an < 0) = decide (bn < 0) then tailF (decide (an < 0)) (P + Q) g y v else if P < Q then tailF (decide (bn < 0)) (Q - P) g v y else tailF (decide (an < 0)) (P - Q) g y v
def addF (an ad bn bd : Int) : Int × Int × Int :=
 addP an bn (an.natAbs * (bd.natAbs / Nat.gcd ad.natAbs bd.natAbs)) (bn.natAbs * (ad.natAbs / Nat.gcd ad.natAbs bd.natAbs)) (Nat.gcd ad.natAbs bd.natAbs) ad.natAbs bd.natAbs
def addR (an ad bn bd : Int) : Int × Int × Int := if errB an ad bn bd = 0 then addF an ad bn bd else (0, 0, errB an ad bn bd)
theorem eqArr4 (a b c d : Int) (w : World) : (Op.equalIn 9999 152 (.agg #[.int .u64 a, .int .u64 b, .int .u64 c, .int .u64 d]) (.agg #[.int .u64 0, .int .u64 0, .int .u64 0, .int .u64 0])).run Tryz.prog w = .ok (a == 0 && (b == 0 && (c == 0 && d == 0))) w := by
 have u3 := Tryz.underlying147
 have a3 := Tryz.isAgg147
 have z3 := Tryz.sizeOf147
 rw [show (9999 : Nat) = 9998 + 1 from rfl, Op.equalIn]
 simp only [Sem.run_bind, run_underlying Tryz.underlying152, Result.andThen_ok]
 simp only [Std.Legacy.Range.forIn_eq_forIn_range', Std.Legacy.Range.size, Nat.sub_zero, Nat.add_sub_cancel, Nat.div_one, List.range'_succ, List.range'_zero, List.forIn_cons, List.forIn_nil]
 go_simp
 by_cases h1 : a = 0 <;> by_cases h2 : b = 0 <;> by_cases h3 : c = 0 <;> by_cases h4 : d = 0 <;> simp [h1, h2, h3, h4]
attribute [local go_sem] eqArr4
theorem bfl {p : Prop} {b : Bool} (h1 : b = true) (h2 : b = false) : p := by rw [h1] at h2; cases h2
theorem PK.swap {w W : World} {an ad bn bd : Int} (h : PK w W an ad bn bd) (cn cd dn dd : Int) : PK w ((((W.setCell ⟨w.heap.size, 0, none⟩ (.int .i64 cn)).setCell ⟨w.heap.size, 1, none⟩ (.int .i64 cd)).setCell ⟨w.heap.size + 1, 0, none⟩ (.int .i64 dn)).setCell ⟨w.heap.size + 1, 1, none⟩ (.int .i64 dd)) cn cd dn dd :=
 ⟨blk_set_other (blk_set_other (blk_set (blk_set h.a 0 _) 1 _) (by omega) _ _) (by omega) _ _, blk_set (blk_set (blk_set_other (blk_set_other h.b (by omega) _ _) (by omega) _ _) 0 _) 1 _, blk_set_other (blk_set_other (blk_set_other (blk_set_other h.z (by omega) _ _) (by omega) _ _) (by omega) _ _) (by omega) _ _, Bset1 (Bset1 (Bset1 (Bset1 h.n (by omega) _ _) (by omega) _ _) (by omega) _ _) (by omega) _ _⟩
end
section
def redF (N : Int) (D : Nat) : Int × Int × Int := lowF (decide (N < 0)) (N.natAbs / Nat.gcd N.natAbs D) (D / Nat.gcd N.natAbs D)
theorem cop_of {A B m : Nat} (h : Nat.gcd B m = 1) (f : ∀ d, d ∣ A → d ∣ m → d ∣ B) : Nat.gcd A m = 1 :=
 Nat.eq_one_of_dvd_one (h ▸ Nat.dvd_gcd (f _ (Nat.gcd_dvd_left _ _) (Nat.gcd_dvd_right _ _)) (Nat.gcd_dvd_right _ _))
theorem lowF_zero (b : Bool) (d : Nat) : lowF b 0 d = lowF false 0 d := by cases b <;> simp [lowF]
theorem tail_red {neg : Bool} {X g y v d1 d2 : Nat} (hg : 0 < g) (e1 : d1 = g * y) (e2 : d2 = g * v) (hy : Nat.gcd X y = 1) (hv : Nat.gcd X v = 1) :
  tailF neg X g d1 d2 = if X = 0 then (0, 1, 0) else lowF neg ((g * X) / Nat.gcd (g * X) (d1 * d2)) ((d1 * d2) / Nat.gcd (g * X) (d1 * d2)) := by
 subst e1 e2
 have h1 : Nat.gcd (X % g) g = Nat.gcd X g := by rw [← Nat.gcd_rec, Nat.gcd_comm]
 have e : g * y * (g * v) = g * (y * (v * g)) := by grind
 have h2 : Nat.gcd (g * X) (g * y * (g * v)) = g * Nat.gcd X g := by
  rw [e, Nat.gcd_mul_left, Nat.gcd_mul_right_right_of_gcd_eq_one hy, Nat.gcd_mul_right_right_of_gcd_eq_one hv]
 have hp : 0 < Nat.gcd X g := Nat.gcd_pos_of_pos_right _ hg
 have hd : Nat.gcd X g ∣ X := Nat.gcd_dvd_left _ _
 have hdg : Nat.gcd X g ∣ g := Nat.gcd_dvd_right _ _
 unfold tailF
 rw [h1, h2]
 have z : X / Nat.gcd X g = 0 ↔ X = 0 := by
  constructor
  ·intro h
   have := Nat.div_mul_cancel hd
   rw [h] at this; omega
  ·intro h; rw [h]; exact Nat.zero_div _
 by_cases c : X = 0
 ·rw [if_pos (z.2 c), if_pos c]
 ·rw [if_neg (fun h => c (z.1 h)), if_neg c, Nat.mul_div_mul_left _ _ hg, e, Nat.mul_div_mul_left _ _ hg, Nat.mul_div_cancel_left _ hg, Nat.mul_comm v g, Nat.mul_div_assoc _ (Nat.dvd_trans hdg (Nat.dvd_mul_right _ _))]
theorem redF_of_zero (D : Nat) (hD : 0 < D) : redF 0 D = (0, 1, 0) := by
 unfold redF
 simp [Nat.div_self hD, lowF]
theorem tail_eq {neg : Bool} {X g y v d1 d2 : Nat} {N : Int} {D : Nat} (hg : 0 < g) (e1 : d1 = g * y) (e2 : d2 = g * v) (hy : Nat.gcd X y = 1) (hv : Nat.gcd X v = 1) (hN : N.natAbs = g * X) (hs : X ≠ 0 → neg = decide (N < 0)) (hD : D = d1 * d2) (h1 : 0 < d1) (h2 : 0 < d2) :
  tailF neg X g d1 d2 = redF N D := by
 rw [tail_red hg e1 e2 hy hv]
 by_cases c : X = 0
 ·rw [if_pos c]
  have : N = 0 := by rw [c] at hN; omega
  rw [this, redF_of_zero D (by rw [hD]; exact Nat.mul_pos h1 h2)]
 ·rw [if_neg c]
  unfold redF
  rw [hN, hD, hs c]
theorem addF_red {an ad bn bd : Int} (va : VF an ad) (vb : VF bn bd) : addF an ad bn bd = redF (an * bd + bn * ad) (ad.natAbs * bd.natAbs) := by
 have d1 := va.d1
 have d3 := vb.d1
 have ga := va.g
 have gb := vb.g
 obtain ⟨Y, rfl⟩ := Int.eq_ofNat_of_zero_le (show 0 ≤ ad by omega)
 obtain ⟨V, rfl⟩ := Int.eq_ofNat_of_zero_le (show 0 ≤ bd by omega)
 unfold addF
 simp only [Int.natAbs_natCast] at *
 have hg : 0 < Nat.gcd Y V := Nat.gcd_pos_of_pos_right _ (by omega)
 have eY := Nat.mul_div_cancel' (Nat.gcd_dvd_left Y V)
 have eV := Nat.mul_div_cancel' (Nat.gcd_dvd_right Y V)
 have cop : Nat.gcd (Y / Nat.gcd Y V) (V / Nat.gcd Y V) = 1 := Nat.coprime_div_gcd_div_gcd hg
 generalize Nat.gcd Y V = g at *
 generalize Y / g = y at *
 generalize V / g = v at *
 have cx : Nat.gcd an.natAbs y = 1 := by
  refine cop_of (B := an.natAbs) (m := y) ?_ (fun d h _ => h)
  exact Nat.Coprime.coprime_mul_left_right (k := g) (by rw [eY]; exact ga)
 have cu : Nat.gcd bn.natAbs v = 1 := Nat.Coprime.coprime_mul_left_right (k := g) (by rw [eV]; exact gb)
 have cP : Nat.gcd (an.natAbs * v) y = 1 := Nat.Coprime.mul_left cx (Nat.Coprime.symm cop)
 have cQ : Nat.gcd (bn.natAbs * y) v = 1 := Nat.Coprime.mul_left cu cop
 have pP : v ∣ an.natAbs * v := Nat.dvd_mul_left _ _
 have pQ : y ∣ bn.natAbs * y := Nat.dvd_mul_left _ _
 have nP : ((an.natAbs * v : Nat) : Int) * g = if an < 0 then -(an * V) else an * V := by
  rw [← eV]; push_cast
  by_cases c : an < 0
  ·rw [if_pos c, show ((an.natAbs : Nat) : Int) = -an by omega]; grind
  ·rw [if_neg c, show ((an.natAbs : Nat) : Int) = an by omega]; grind
 have nQ : ((bn.natAbs * y : Nat) : Int) * g = if bn < 0 then -(bn * Y) else bn * Y := by
  rw [← eY]; push_cast
  by_cases c : bn < 0
  ·rw [if_pos c, show ((bn.natAbs : Nat) : Int) = -bn by omega]; grind
  ·rw [if_neg c, show ((bn.natAbs : Nat) : Int) = bn by omega]; grind
 have zP : an < 0 → 0 < an.natAbs * v := fun h => Nat.mul_pos (by omega) (Nat.pos_of_ne_zero (fun e => by rw [e] at eV; omega))
 have zQ : bn < 0 → 0 < bn.natAbs * y := fun h => Nat.mul_pos (by omega) (Nat.pos_of_ne_zero (fun e => by rw [e] at eY; omega))
 generalize an.natAbs * v = P at *
 generalize bn.natAbs * y = Q at *
 have gi : 0 < (g : Int) := by omega
 unfold addP
 have gP : (P : Int) * g = ((g * P : Nat) : Int) := by push_cast; grind
 have gQ : (Q : Int) * g = ((g * Q : Nat) : Int) := by push_cast; grind
 rw [gP] at nP
 rw [gQ] at nQ
 have mP : 0 < P → 0 < g * P := fun h => Nat.mul_pos hg h
 have mQ : 0 < Q → 0 < g * Q := fun h => Nat.mul_pos hg h
 by_cases cs : decide (an < 0) = decide (bn < 0)
 ·rw [if_pos cs]
  refine tail_eq hg eY.symm eV.symm ?_ ?_ ?_ ?_ rfl (by omega) (by omega)
  ·exact cop_of cP (fun d h k => (Nat.dvd_add_left (Nat.dvd_trans k pQ)).1 h)
  ·exact cop_of cQ (fun d h k => (Nat.dvd_add_right (Nat.dvd_trans k pP)).1 h)
  ·rw [Nat.mul_add]
   generalize an * (V : Int) = A at *
   generalize bn * (Y : Int) = B at *
   by_cases c : an < 0
   ·have c' : bn < 0 := by simpa [c] using cs
    rw [if_pos c] at nP; rw [if_pos c'] at nQ; omega
   ·have c' : ¬ bn < 0 := by simpa [c] using cs
    rw [if_neg c] at nP; rw [if_neg c'] at nQ; omega
  ·intro _
   generalize an * (V : Int) = A at *
   generalize bn * (Y : Int) = B at *
   by_cases c : an < 0
   ·have c' : bn < 0 := by simpa [c] using cs
    rw [if_pos c] at nP; rw [if_pos c'] at nQ
    have := mP (zP c)
    simp [c]; omega
   ·have c' : ¬ bn < 0 := by simpa [c] using cs
    rw [if_neg c] at nP; rw [if_neg c'] at nQ
    simp [c]; omega
 ·rw [if_neg cs]
  by_cases cp : P < Q
  ·rw [if_pos cp]
   have cl : g * P < g * Q := Nat.mul_lt_mul_of_pos_left cp hg
   have eX : P + (Q - P) = Q := by omega
   have eG : g * (Q - P) = g * Q - g * P := Nat.mul_sub g Q P
   refine tail_eq hg eV.symm eY.symm ?_ ?_ ?_ ?_ (Nat.mul_comm _ _) (by omega) (by omega)
   ·refine cop_of cQ (fun d h k => ?_)
    rw [← eX]; exact Nat.dvd_add (Nat.dvd_trans k pP) h
   ·refine cop_of cP (fun d h k => ?_)
    have := Nat.dvd_trans k pQ
    rw [← eX] at this
    exact (Nat.dvd_add_left h).1 this
   ·rw [eG]
    generalize an * (V : Int) = A at *
    generalize bn * (Y : Int) = B at *
    by_cases c : an < 0
    ·have c' : ¬ bn < 0 := fun h => cs (by simp [c, h])
     rw [if_pos c] at nP; rw [if_neg c'] at nQ; omega
    ·have c' : bn < 0 := by
      by_cases h : bn < 0
      ·exact h
      ·exact absurd (by simp [c, h]) cs
     rw [if_neg c] at nP; rw [if_pos c'] at nQ; omega
   ·intro _
    generalize an * (V : Int) = A at *
    generalize bn * (Y : Int) = B at *
    by_cases c : an < 0
    ·have c' : ¬ bn < 0 := fun h => cs (by simp [c, h])
     rw [if_pos c] at nP; rw [if_neg c'] at nQ; simp [c']; omega
    ·have c' : bn < 0 := by
      by_cases h : bn < 0
      ·exact h
      ·exact absurd (by simp [c, h]) cs
     rw [if_neg c] at nP; rw [if_pos c'] at nQ; simp [c']; omega
  ·rw [if_neg cp]
   have cl : g * Q ≤ g * P := Nat.mul_le_mul_left _ (by omega)
   have eX : Q + (P - Q) = P := by omega
   have eG : g * (P - Q) = g * P - g * Q := Nat.mul_sub g P Q
   refine tail_eq hg eY.symm eV.symm ?_ ?_ ?_ ?_ rfl (by omega) (by omega)
   ·refine cop_of cP (fun d h k => ?_)
    rw [← eX]; exact Nat.dvd_add (Nat.dvd_trans k pQ) h
   ·refine cop_of cQ (fun d h k => ?_)
    have := Nat.dvd_trans k pP
    rw [← eX] at this
    exact (Nat.dvd_add_left h).1 this
   ·rw [eG]
    generalize an * (V : Int) = A at *
    generalize bn * (Y : Int) = B at *
    by_cases c : an < 0
    ·have c' : ¬ bn < 0 := fun h => cs (by simp [c, h])
     rw [if_pos c] at nP; rw [if_neg c'] at nQ; omega
    ·have c' : bn < 0 := by
      by_cases h : bn < 0
      ·exact h
      ·exact absurd (by simp [c, h]) cs
     rw [if_neg c] at nP; rw [if_pos c'] at nQ; omega
   ·intro hX
    have cl' : g * Q < g * P := Nat.mul_lt_mul_of_pos_left (by omega) hg
    generalize an * (V : Int) = A at *
    generalize bn * (Y : Int) = B at *
    by_cases c : an < 0
    ·have c' : ¬ bn < 0 := fun h => cs (by simp [c, h])
     rw [if_pos c] at nP; rw [if_neg c'] at nQ; simp [c]; omega
    ·have c' : bn < 0 := by
      by_cases h : bn < 0
      ·exact h
      ·exact absurd (by simp [c, h]) cs
     rw [if_neg c] at nP; rw [if_pos c'] at nQ; simp [c]; omega
theorem mulF_red {an ad bn bd : Int} (va : VF an ad) (vb : VF bn bd) : mulF an ad bn bd = redF (an * bn) (ad.natAbs * bd.natAbs) := by
 have d1 := va.d1
 have d3 := vb.d1
 have ga := va.g
 have gb := vb.g
 have hg : 0 < Nat.gcd an.natAbs bd.natAbs := Nat.gcd_pos_of_pos_right _ (by omega)
 have hh : 0 < Nat.gcd bn.natAbs ad.natAbs := Nat.gcd_pos_of_pos_right _ (by omega)
 have ex := Nat.mul_div_cancel' (Nat.gcd_dvd_left an.natAbs bd.natAbs)
 have ev := Nat.mul_div_cancel' (Nat.gcd_dvd_right an.natAbs bd.natAbs)
 have eu := Nat.mul_div_cancel' (Nat.gcd_dvd_left bn.natAbs ad.natAbs)
 have ey := Nat.mul_div_cancel' (Nat.gcd_dvd_right bn.natAbs ad.natAbs)
 have c1 : Nat.gcd (an.natAbs / Nat.gcd an.natAbs bd.natAbs) (bd.natAbs / Nat.gcd an.natAbs bd.natAbs) = 1 := Nat.coprime_div_gcd_div_gcd hg
 have c2 : Nat.gcd (bn.natAbs / Nat.gcd bn.natAbs ad.natAbs) (ad.natAbs / Nat.gcd bn.natAbs ad.natAbs) = 1 := Nat.coprime_div_gcd_div_gcd hh
 have nz : (an * bn).natAbs = an.natAbs * bn.natAbs := Int.natAbs_mul _ _
 have sg : an.natAbs * bn.natAbs ≠ 0 → (decide (an < 0) != decide (bn < 0)) = decide (an * bn < 0) := by
  intro h
  have a0 : an ≠ 0 := fun e => h (by rw [e]; simp)
  have b0 : bn ≠ 0 := fun e => h (by rw [e]; simp)
  by_cases ca : an < 0 <;> by_cases cb : bn < 0
  ·have := Int.mul_pos_of_neg_of_neg ca cb
   simp [ca, cb]; omega
  ·have := Int.mul_neg_of_neg_of_pos ca (show 0 < bn by omega)
   simp [ca, cb, this]
  ·have := Int.mul_neg_of_pos_of_neg (show 0 < an by omega) cb
   simp [ca, cb, this]
  ·have := Int.mul_pos (show 0 < an by omega) (show 0 < bn by omega)
   simp [ca, cb]; omega
 unfold mulF redF
 rw [nz]
 generalize (decide (an < 0) != decide (bn < 0)) = neg at *
 generalize decide (an * bn < 0) = neg' at *
 generalize an.natAbs = x at *
 generalize bn.natAbs = u at *
 generalize ad.natAbs = y at *
 generalize bd.natAbs = v at *
 generalize Nat.gcd x v = g at *
 generalize Nat.gcd u y = h at *
 generalize x / g = x' at *
 generalize v / g = v' at *
 generalize u / h = u' at *
 generalize y / h = y' at *
 have c3 : Nat.gcd x' y' = 1 := Nat.Coprime.coprime_mul_left (k := g) (Nat.Coprime.coprime_mul_left_right (k := h) (by rw [ex, ey]; exact ga))
 have c4 : Nat.gcd u' v' = 1 := Nat.Coprime.coprime_mul_left (k := h) (Nat.Coprime.coprime_mul_left_right (k := g) (by rw [eu, ev]; exact gb))
 have cc : Nat.gcd (x' * u') (y' * v') = 1 := Nat.Coprime.mul_left (Nat.Coprime.mul_right c3 c1) (Nat.Coprime.mul_right c2 c4)
 have hgh : 0 < g * h := Nat.mul_pos hg hh
 have e1 : x * u = g * h * (x' * u') := by rw [← ex, ← eu]; grind
 have e2 : y * v = g * h * (y' * v') := by rw [← ey, ← ev]; grind
 have e3 : Nat.gcd (x * u) (y * v) = g * h := by rw [e1, e2, Nat.gcd_mul_left, cc, Nat.mul_one]
 rw [e3, e2, Nat.mul_div_cancel_left _ hgh]
 by_cases c : x * u = 0
 ·have z : x' * u' = 0 := by
   rw [e1] at c
   rcases Nat.mul_eq_zero.1 c with c | c
   ·omega
   ·exact c
  rw [z, c, Nat.zero_div, lowF_zero neg, lowF_zero neg']
 ·rw [sg c, e1, Nat.mul_div_cancel_left _ hgh]
theorem redF_cases (N : Int) (D : Nat) : redF N D = (0, 0, 16) ∨ ∃ n d, redF N D = (n, d, 0) := by
 unfold redF lowF
 split
 ·exact .inl rfl
 ·exact .inr ⟨_, _, rfl⟩
theorem redF_val {N n d e : Int} {D : Nat} (hD : 0 < D) (h : redF N D = (n, d, e)) (he : e = 0) : VF n d ∧ n * D = N * d := by
 unfold redF at h
 have hp : 0 < Nat.gcd N.natAbs D := Nat.gcd_pos_of_pos_right _ hD
 have e1 := Nat.mul_div_cancel' (Nat.gcd_dvd_left N.natAbs D)
 have e2 := Nat.mul_div_cancel' (Nat.gcd_dvd_right N.natAbs D)
 have co : Nat.gcd (N.natAbs / Nat.gcd N.natAbs D) (D / Nat.gcd N.natAbs D) = 1 := Nat.coprime_div_gcd_div_gcd hp
 generalize Nat.gcd N.natAbs D = g at *
 generalize N.natAbs / g = m at *
 generalize D / g = k at *
 have k0 : 0 < k := Nat.pos_of_ne_zero (fun z => by rw [z] at e2; omega)
 unfold lowF at h
 by_cases c : 1000000000000000000 < m ∨ 1000000000000000000 < k
 ·rw [if_pos c] at h
  cases h; cases he
 ·rw [if_neg c] at h
  simp only [Prod.mk.injEq] at h
  obtain ⟨h1, h2, _⟩ := h
  subst h1 h2
  have eN : (g : Int) * m = if N < 0 then -N else N := by
   have : ((g * m : Nat) : Int) = (N.natAbs : Int) := by rw [e1]
   push_cast at this
   split <;> omega
  have eD : (g : Int) * k = D := by exact_mod_cast e2
  by_cases cn : N < 0
  ·rw [if_pos cn] at eN
   simp only [cn, decide_true, if_true]
   refine ⟨⟨by omega, by omega, by omega, by omega, by simpa using co⟩, ?_⟩
   rw [← eD]; grind
  ·rw [if_neg cn] at eN
   simp only [cn, decide_false, Bool.false_eq_true, if_false]
   refine ⟨⟨by omega, by omega, by omega, by omega, by simpa using co⟩, ?_⟩
   rw [← eD]; grind
theorem VF.same {n d m k : Int} (h : VF n d) (h' : VF m k) (e : n * k = m * d) : n = m ∧ d = k := by
 have d1 := h.d1
 have k1 := h'.d1
 have en : n.natAbs * k.natAbs = m.natAbs * d.natAbs := by rw [← Int.natAbs_mul, ← Int.natAbs_mul, e]
 have a : d.natAbs ∣ k.natAbs := Nat.Coprime.dvd_of_dvd_mul_left (show Nat.Coprime d.natAbs n.natAbs from Nat.Coprime.symm h.g) (en ▸ Nat.dvd_mul_left _ _)
 have b : k.natAbs ∣ d.natAbs := Nat.Coprime.dvd_of_dvd_mul_left (show Nat.Coprime k.natAbs m.natAbs from Nat.Coprime.symm h'.g) (en ▸ Nat.dvd_mul_left _ _)
 have ed : d = k := by have := Nat.dvd_antisymm a b; omega
 subst ed
 refine ⟨?_, rfl⟩
 exact Int.eq_of_mul_eq_mul_right (by omega) e
end
section
theorem makeF_red {a D : Int} (hD : 0 < D) : makeF a D = redF a D.natAbs := by
 unfold makeF redF
 rw [if_neg (by omega), show decide (D < 0) = false from decide_eq_false (by omega)]
 simp
theorem part_of {a D : Int} (hD : 1 ≤ D) (hD' : D ≤ 1000000000) (ha : -1000000000 ≤ a) (ha' : a ≤ 1000000000) : ∃ n d, makeF a D = (n, d, 0) ∧ VF n d ∧ n * D = a * d := by
 rw [makeF_red (by omega)]
 rcases redF_cases a D.natAbs with h | ⟨n, d, h⟩
 ·exfalso
  unfold redF lowF at h
  have h1 := Nat.div_le_self a.natAbs (Nat.gcd a.natAbs D.natAbs)
  have h2 := Nat.div_le_self D.natAbs (Nat.gcd a.natAbs D.natAbs)
  rw [if_neg (by omega)] at h
  injection h with _ h
  injection h with _ h
  cases h
 ·have := redF_val (by omega) h rfl
  refine ⟨n, d, h, this.1, ?_⟩
  have h2 := this.2
  rw [show ((D.natAbs : Nat) : Int) = D by omega] at h2
  exact h2
def lnF (r : Vr) : List (List UInt8) := [Lib.itoa r.t, Lib.itoa r.c, Lib.itoa r.i, Lib.itoa r.j, textL (makeF r.re r.dn).1 (makeF r.re r.dn).2.1, textL (makeF r.im r.dn).1 (makeF r.im r.dn).2.1, Lib.itoa r.n]
def lnL (r : Vr) : List UInt8 := Lib.join (lnF r) [32]
theorem rowB_val {r : Vr} (h : rowB r = true) : 0 ≤ r.n ∧ r.n ≤ 1000000 ∧ Cxm.chkB r.re r.im r.dn = true ∧ (∃ n d, makeF r.re r.dn = (n, d, 0) ∧ VF n d ∧ n * r.dn = r.re * d) ∧ (∃ n d, makeF r.im r.dn = (n, d, 0) ∧ VF n d ∧ n * r.dn = r.im * d) ∧ Nat.gcd (Nat.gcd r.re.natAbs r.im.natAbs) r.dn.natAbs = 1 := by
 simp only [rowB, visB, Bool.and_eq_true, decide_eq_true_eq] at h
 obtain ⟨-, -, -, -, -, -, -, hv, h0, h1⟩ := h
 have hv' := hv
 simp only [valB, Cxm.chkB, Cxm.fitsB, Bool.and_eq_true, decide_eq_true_eq] at hv'
 obtain ⟨hd, hr, hi, hg⟩ := hv'
 refine ⟨h0, h1, hv, part_of hd.1 hd.2 hr.1 hr.2, part_of hd.1 hd.2 hi.1 hi.2, ?_⟩
 simp only [Cxm.g3, Cxm.g2, Int.gcd] at hg
 simp only [Int.natAbs_natCast] at hg
 omega
def mkO (t c i j n1 d1 n2 d2 n : Int) : Option Vr :=
 if i < 0 ∨ 8 ≤ i ∨ j < 0 ∨ 8 ≤ j ∨ i = j ∨ n < 0 ∨ 1000000 < n then none
 else match valO n1 d1 n2 d2 with
  | none => none
  | some (a, b, D) => if j < i then some ⟨t, c, j, i, a, -b, D, n⟩ else some ⟨t, c, i, j, a, b, D, n⟩
def prP (l : List UInt8) : Option Vr := match wordsL 32 l with
 | [a, b, c, d, e, f, g] => match Lib.atoiAll a, Lib.atoiAll b, Lib.atoiAll c, Lib.atoiAll d, Lib.atoiAll g with
  | .ok t, .ok ch, .ok i, .ok j, .ok n => if (prC e).2.2 = 0 ∧ (prC f).2.2 = 0 then mkO t ch i j (prC e).1 (prC e).2.1 (prC f).1 (prC f).2.1 n else none
  | _, _, _, _, _ => none
 | _ => none
def txT (t : List Vr) : List UInt8 := (t.map fun r => lnL r ++ [10]).flatten
theorem txT_cons (r : Vr) (t : List Vr) : txT (r :: t) = lnL r ++ 10 :: txT t := by simp [txT]
theorem goodF_rows : ∀ {q : Option Vr} {l : List Vr}, goodF q l = true → ∀ r ∈ l, rowB r = true
 | _, [], _, r, hr => by cases hr
 | none, x :: l, h, r, hr => by
  simp only [goodF, Bool.and_eq_true] at h
  rcases List.mem_cons.1 hr with rfl | hr
  ·exact h.1
  ·exact goodF_rows h.2 r hr
 | some q, x :: l, h, r, hr => by
  simp only [goodF, Bool.and_eq_true] at h
  rcases List.mem_cons.1 hr with rfl | hr
  ·exact h.1
  ·exact goodF_rows h.2.2 r hr
theorem chk_rows {t : List Vr} (h : chkE t = 0) : t.length ≤ 200 ∧ ∀ r ∈ t, rowB r = true := by
 unfold chkE at h
 split at h
 ·cases h
 ·split at h
  ·rename_i hg
   exact ⟨by omega, goodF_rows hg⟩
  ·cases h
def allO (f : List UInt8 → Option Vr) : List (List UInt8) → Option (List Vr)
 | [] => some []
 | l :: ls => match f l, allO f ls with
  | some r, some t => some (r :: t)
  | _, _ => none
def parP (s : List UInt8) : Option (List Vr) := match allO prP (linesL (s.length + 1) s) with
 | some t => if chkE t = 0 ∧ txT t = s then some t else none
 | none => none
end
section
open Go Go.RowKit
section
variable {P : Program} {ops : Array Oper} {Q : Exit → Act → World → Prop} {md : Region.Mode} {S : Nat → World → Prop}
theorem below_go {w X Y : World} (h : Below w.heap.size w X) (h' : Below X.heap.size X Y) : Below w.heap.size w Y := h.trans (h'.mono h.size)
def Shutd (md : Region.Mode) (ops : Array Oper) (done : Array Bool) : Prop := ∀ (m : Nat) (om : Oper), ops[m]? = some om → done.getD m false = true → ∀ e ∈ om.after, Region.binds md e = true → done.getD e.on false = true
def waitsT (md : Region.Mode) (ops : Array Oper) : Nat → Nat → Nat → Bool
 | 0, _, _ => false
 | f + 1, j, k => Region.waitsFor md ops j k || (List.range ops.size).any fun m => Region.waitsFor md ops j m && waitsT md ops f m k
theorem shut_T {done : Array Bool} (hc : Shutd md ops done) : ∀ (f j k : Nat), waitsT md ops f j k = true → done.getD j false = true → done.getD k false = true
 | 0, _, _, h, _ => by cases h
 | f + 1, j, k, h, hj => by
  unfold waitsT at h
  rw [Bool.or_eq_true, List.any_eq_true] at h
  rcases h with h | ⟨m, _, h⟩
  ·obtain ⟨oj, hoj, e, he, hb, hon⟩ := Region.waitsFor_spec h
   rw [← hon]; exact hc j oj hoj hj e he hb
  ·rw [Bool.and_eq_true] at h
   obtain ⟨oj, hoj, e, he, hb, hon⟩ := Region.waitsFor_spec h.1
   exact shut_T hc f m k h.2 (by rw [← hon]; exact hc j oj hoj hj e he hb)
theorem ready_T {done : Array Bool} (hc : Shutd md ops done) {f j k : Nat} (hj : j ∈ Region.ready md ops done) (h : waitsT md ops f j k = true) : done.getD k false = true := by
 obtain ⟨_, o', ho', hall⟩ := mem_ready.1 hj
 cases f with
 | zero => cases h
 | succ f =>
  unfold waitsT at h
  rw [Bool.or_eq_true, List.any_eq_true] at h
  rcases h with h | ⟨m, _, h⟩
  ·obtain ⟨oj, hoj, e, he, hb, hon⟩ := Region.waitsFor_spec h
   have : o' = oj := Option.some.inj (ho'.symm.trans hoj)
   subst this
   rw [← hon]; exact hall e he hb
  ·rw [Bool.and_eq_true] at h
   obtain ⟨oj, hoj, e, he, hb, hon⟩ := Region.waitsFor_spec h.1
   have : o' = oj := Option.some.inj (ho'.symm.trans hoj)
   subst this
   exact shut_T hc f m k h.2 (by rw [← hon]; exact hall e he hb)
theorem shut_set {done : Array Bool} (hc : Shutd md ops done) {i : Nat} (hi : i ∈ Region.ready md ops done) : Shutd md ops (done.setIfInBounds i true) := by
 intro m om ho hm e he hb
 refine getD_set_true ?_
 by_cases h : i = m
 ·subst h
  obtain ⟨_, o', ho', hall⟩ := mem_ready.1 hi
  have : o' = om := Option.some.inj (ho'.symm.trans ho)
  subst this
  exact hall e he hb
 ·rw [getD_set_ne false h] at hm
  exact hc m om ho hm e he hb
abbrev Keeps (md : Region.Mode) (ops : Array Oper) (S : Nat → World → Prop) (i : Nat) (X W : World) : Prop := ∀ k, waitsT md ops ops.size i k = false → S k X → S k W
def wpAnyG (P : Program) (md : Region.Mode) (ops : Array Oper) (Q : Exit → Act → World → Prop) (S : Nat → World → Prop) : Nat → Array Bool → Act → World → Prop
 | 0, done, a, w => ∀ X : World, Below w.heap.size w X → Region.ready md ops done = [] ∧ Q .normal a X
 | f + 1, done, a, w => ∀ X : World, Below w.heap.size w X → (Region.ready md ops done = [] → Q .normal a X) ∧
  ∀ i ∈ Region.ready md ops done, wpOp P ops Q i (fun a' w' => Keeps md ops S i X w' ∧ wpAnyG P md ops Q S f (done.setIfInBounds i true) a' w') a X
theorem wpAny_of_G : ∀ (f : Nat) (done : Array Bool) (a : Act) (w : World), wpAnyG P md ops Q S f done a w → wpAny P md ops Q f done a w
 | 0, _, _, w, h => h w (Below.refl _ _)
 | f + 1, _, _, w, h => ⟨(h w (Below.refl _ _)).1, fun i hi => wpOp_mono (fun a' w' h' => wpAny_of_G f _ a' w' h'.2) ((h w (Below.refl _ _)).2 i hi)⟩
theorem wpAnyG_grow : ∀ (f : Nat) (done : Array Bool) (a : Act) (w X : World), Below w.heap.size w X → wpAnyG P md ops Q S f done a w → wpAnyG P md ops Q S f done a X
 | 0, _, _, _, _, hb, h => fun Y hY => h Y (below_go hb hY)
 | _ + 1, _, _, _, _, hb, h => fun Y hY => h Y (below_go hb hY)
def YieldsG (P : Program) (ops : Array Oper) (S : World → Prop) (o : Oper) (v : Value) (a : Act) : Prop :=
 (Region.wanted o (yielded ops a.tmps) = true ∧ ∀ w, S w → (execOp a.eval o).run P w = .ok (.value v) w ∨ ∃ f args, (execOp a.eval o).run P w = .ok (.enter f args) w ∧ Calls P f args w fun e w' => e = .returned v ∧ Below w.heap.size w w') ∨
 (Region.wanted o (yielded ops a.tmps) = false ∧ v = undef)
theorem YieldsIf.toG {S : World → Prop} {o : Oper} {v : Value} {a : Act} (h : YieldsIf P ops S o v a) : YieldsG P ops S o v a :=
 h.imp (fun ⟨hw, hv⟩ => ⟨hw, fun w hs => .inl (hv w hs)⟩) id
theorem yieldsG_call {S : World → Prop} {o : Oper} {v : Value} {a : Act} (f : Nat) (args : Array Value) (hw : Region.wanted o (yielded ops a.tmps) = true) (hr : ∀ w, S w → (execOp a.eval o).run P w = .ok (.enter f args) w)
  (hc : ∀ w, S w → Calls P f args w fun e w' => e = .returned v ∧ Below w.heap.size w w') : YieldsG P ops S o v a := .inl ⟨hw, fun w hs => .inr ⟨f, args, hr w hs, hc w hs⟩⟩
theorem YieldsG.wpOp {S : World → Prop} {i : Nat} {o : Oper} {v : Value} {a : Act} (hi : ops[i]? = some o) (hy : YieldsG P ops S o v a)
  {K : Act → World → Prop} {w : World} (hS : S w) (h : ∀ X, Below w.heap.size w X → K (a.put o.dst v) X) : wpOp P ops Q i K a w := by
 unfold Go.wpOp
 simp only [hi]
 rcases hy with ⟨hw, hv⟩ | ⟨hw, rfl⟩
 ·simp only [hw, if_true]
  rcases hv w hS with hv | ⟨f, args, hv, hc⟩
  ·simp only [Oper.wp, hv, Oper.upon]; exact .inl (h w (Below.refl _ _))
  ·simp only [Oper.wp, hv, Oper.upon]
   refine .inl (hc.mono ?_)
   rintro e w' ⟨rfl, hb⟩
   exact h w' hb
 ·simp only [hw, Bool.false_eq_true, if_false]; exact h w (Below.refl _ _)
theorem YieldsG.of_same {S : World → Prop} {o : Oper} {v : Value} {a a' : Act} (hy : YieldsG P ops S o v a) (he : execOp a'.eval o = execOp a.eval o)
  (hw : Region.wanted o (yielded ops a'.tmps) = Region.wanted o (yielded ops a.tmps)) : YieldsG P ops S o v a' := by
 unfold YieldsG at *
 rw [he, hw]
 exact hy
theorem wpOp_putG {S : World → Prop} {j : Nat} {oi oj : Oper} {v : Value} (hj : ops[j]? = some oj) (hap : oi.apart ops oj = true)
  (hsi : ∀ cs b, oi.op ≠ .select cs b) (hsj : ∀ cs b, oj.op ≠ .select cs b)
  (hQ : ∀ c a w, Q (.panic c) (a.put oi.dst v) w → Q (.panic c) a w) {K : Act → World → Prop} {a : Act} {w : World}
  (hy : YieldsG P ops S oi v a) (h : wpOp P ops Q j K (a.put oi.dst v) w) :
  wpOp P ops Q j (fun a' w' => YieldsG P ops S oi v a' ∧ K (a'.put oi.dst v) w') a w := by
 obtain ⟨h1, h2, h3⟩ := Oper.apart_spec hap
 have keep : ∀ (a : Act), YieldsG P ops S oi v a → ∀ u, YieldsG P ops S oi v (a.put oj.dst u) := fun a hy u =>
  hy.of_same (execOp_put oi hsi a oj.dst u h3) (wanted_put oi a oj.dst u h3)
 have keepD : ∀ d, YieldsG P ops S oi v { a with defers := d :: a.defers } := fun d => hy.of_same rfl rfl
 unfold wpOp at *
 simp only [hj] at *
 rw [wanted_put oj a oi.dst v h1] at h
 split
 ·rename_i hw
  simp only [hw, if_true] at h
  rcases h with h | ⟨hasks, hlets⟩
  case inr => exact .inr ⟨by unfold Oper.asks at *; rw [execOp_put oj hsj a oi.dst v h1] at hasks; exact hasks, hlets⟩
  refine .inl ?_
  unfold Oper.wp at *
  rw [execOp_put oj hsj a oi.dst v h1] at h
  generalize (execOp a.eval oj).run P w = r at *
  cases r with
  | ok n w' =>
   cases n <;> simp only [Oper.upon] at h ⊢
   case value u => exact ⟨keep a hy u, by rw [← Act.put_comm a v u h2]; exact h⟩
   case skip => exact ⟨keep a hy _, by rw [← Act.put_comm a v undef h2]; exact h⟩
   case defer d =>
    refine ⟨keep _ (keepD d) _, ?_⟩
    rw [← Act.put_comm _ v undef h2, ← Act.put_defers]
    exact h
   case enter f args =>
    refine Calls.mono h fun e w'' he => ?_
    cases e with
    | returned u => exact ⟨keep a hy u, by rw [← Act.put_comm a v u h2]; exact he⟩
    | panicked c => exact hQ _ _ _ he
    | outgrown => exact he
   case row row args => exact Rows.mono h fun u w'' he => ⟨keep a hy u, by rw [← Act.put_comm a v u h2]; exact he⟩
  | halt x w' =>
   cases x <;> simp only [Oper.upon] at h ⊢
   case panic u => exact hQ _ _ _ h
 ·rename_i hw
  simp only [hw] at h
  exact ⟨keep a hy _, by rw [← Act.put_comm a v undef h2]; exact h⟩
theorem wpAnyG_first {i : Nat} {oi : Oper} {v : Value} (hi : ops[i]? = some oi) (hsel : ∀ (j : Nat) (o : Oper) cs b, ops[j]? = some o → o.op ≠ .select cs b)
  (hQ : ∀ c a w, Q (.panic c) (a.put oi.dst v) w → Q (.panic c) a w) (hg : ∀ k w X, S k w → Below w.heap.size w X → S k X) :
  ∀ (f : Nat) (done : Array Bool) (a : Act) (w : World), Shutd md ops done →
   (∀ j oj, ops[j]? = some oj → j ≠ i → done.getD j true = false → (∀ e ∈ oj.after, Region.binds md e = true → e.on ≠ i) → oi.apart ops oj = true) →
   i ∈ Region.ready md ops done → YieldsG P ops (S i) oi v a → S i w →
   wpAnyG P md ops Q S f (done.setIfInBounds i true) (a.put oi.dst v) w → wpAnyG P md ops Q S (f + 1) done a w := by
 intro f
 induction f with
 | zero =>
  intro done a w hsh _ hr hy hS H X hX
  refine ⟨fun h => (by rw [h] at hr; cases hr), fun j hj => ?_⟩
  by_cases e : j = i
  ·subst e; exact hy.wpOp hi (hg _ _ _ hS hX) fun Y hY => ⟨fun k _ hk => hg k _ _ hk hY, fun Z hZ => H Z (below_go (below_go hX hY) hZ)⟩
  ·have := ready_mono hj e
   rw [(H X hX).1] at this
   cases this
 | succ f ih =>
  intro done a w hsh hfree hr hy hS H X hX
  refine ⟨fun h => (by rw [h] at hr; cases hr), fun j hj => ?_⟩
  by_cases e : j = i
  ·subst e; exact hy.wpOp hi (hg _ _ _ hS hX) fun Y hY => ⟨fun k _ hk => hg k _ _ hk hY, wpAnyG_grow _ _ _ _ _ (below_go hX hY) H⟩
  ·have h1 := (H X hX).2 j (ready_mono hj e)
   obtain ⟨hjun, oj, hoj, _⟩ := mem_ready.1 hj
   have nw : waitsT md ops ops.size j i = false := by
    cases h : waitsT md ops ops.size j i with
    | false => rfl
    | true =>
     have h0 := ready_T hsh hj h
     have h2 := getD_both (mem_ready.1 hr).1
     rw [h0] at h2
     cases h2
   have h2 := wpOp_putG hoj (hfree j oj hoj e hjun (edge_ne hoj hj hr)) (fun cs b => hsel i oi cs b hi) (fun cs b => hsel j oj cs b hoj) hQ hy h1
   have hfree' : ∀ k ok, ops[k]? = some ok → k ≠ i → (done.setIfInBounds j true).getD k true = false → (∀ e ∈ ok.after, Region.binds md e = true → e.on ≠ i) → oi.apart ops ok = true := fun k ok hk hki hun hno => by
    refine hfree k ok hk hki ?_ hno
    by_cases hjk : j = k
    ·subst hjk; exact hjun
    ·rw [getD_set_ne true hjk] at hun; exact hun
   have hSX := hg _ _ _ hS hX
   refine wpOp_mono (fun a' w' h3 => ⟨h3.2.1, ?_⟩) h2
   have r2 := ready_mono hr (Ne.symm e)
   refine ih (done.setIfInBounds j true) a' w' (shut_set hsh hj) hfree' r2 h3.1 (h3.2.1 i nw hSX) ?_
   rw [Array.setIfInBounds_comm _ _ e]
   exact h3.2.2
def shutB (md : Region.Mode) (ops : Array Oper) (done : Array Bool) : Bool := (List.range ops.size).all fun m => match ops[m]? with
 | none => true
 | some om => !(done.getD m false) || om.after.all fun e => !(Region.binds md e) || done.getD e.on false
theorem shutB_spec {done : Array Bool} (h : shutB md ops done = true) : Shutd md ops done := by
 intro m om ho hm e he hb
 unfold shutB at h
 have h1 := List.all_eq_true.1 h m (List.mem_range.2 (Array.getElem?_eq_some_iff.1 ho).1)
 rw [ho] at h1
 simp only [hm, Bool.not_true, Bool.false_or, Array.all_eq_true_iff_forall_mem] at h1
 have h2 := h1 e he
 rw [hb] at h2
 simpa using h2
theorem take_G {oi : Oper} {f : Nat} {done : Array Bool} {a : Act} {w : World} (i : Nat) (v : Value) (d : Option Nat) (hg : ∀ k w X, S k w → Below w.heap.size w X → S k X) (hsh : shutB md ops done = true) (hi : ops[i]? = some oi) (hs : Region.noSelect ops = true) (hf : Region.free md ops done i = true)
  (hr : (Region.ready md ops done).contains i = true) (hd : oi.dst = d) (hQ : ∀ c a w, Q (.panic c) (a.put oi.dst v) w → Q (.panic c) a w) (hy : YieldsG P ops (S i) oi v a) (hS : S i w)
  (h : wpAnyG P md ops Q S f (done.setIfInBounds i true) (a.put d v) w) : wpAnyG P md ops Q S (f + 1) done a w :=
 wpAnyG_first hi (Region.noSelect_spec hs) hQ hg f done a w (shutB_spec hsh) (Region.free_spec hi hf) (by simpa using hr) hy hS (by rw [hd]; exact h)
theorem tG {oi : Oper} {f : Nat} {done : Array Bool} {a : Act} {w : World} (i : Nat) (v : Value) (d : Option Nat) (hg : ∀ k w X, S k w → Below w.heap.size w X → S k X) (hi : ops[i]? = some oi) (hy : YieldsG P ops (S i) oi v a) (hS : S i w)
 (h : wpAnyG P md ops Q S f (done.setIfInBounds i true) (a.put d v) w) (hsh : shutB md ops done = true := by kernel_rfl) (hs : Region.noSelect ops = true := by kernel_rfl) (hf : Region.free md ops done i = true := by kernel_rfl)
 (hr : (Region.ready md ops done).contains i = true := by kernel_rfl) (hd : oi.dst = d := by rfl) (hQ : ∀ c a w, Q (.panic c) (a.put oi.dst v) w → Q (.panic c) a w := by exact fun _ _ _ h => h) : wpAnyG P md ops Q S (f + 1) done a w :=
 take_G i v d hg hsh hi hs hf hr hd hQ hy hS h
theorem only_G {o : Oper} {f : Nat} {done : Array Bool} {a : Act} {w : World} (i : Nat) (hr : Region.ready md ops done = [i]) (ho : ops[i]? = some o)
  (h : ∀ X : World, Below w.heap.size w X → ∀ K' : Act → World → Prop, Shut (∀ a' w', Keeps md ops S i X w' → wpAnyG P md ops Q S f (done.setIfInBounds i true) a' w' → K' a' w') → if Region.wanted o (yielded ops a.tmps) = true then Oper.wp P o a X K' Q else K' (a.put o.dst undef) X) :
  wpAnyG P md ops Q S (f + 1) done a w := fun X hX =>
 ⟨fun h0 => (by rw [hr] at h0; cases h0), fun j hj => by
  rw [hr] at hj
  have e : j = i := by simpa using hj
  subst e
  exact wpOp_step ho (fun K' hK => h X hX K' (fun a' w' h1 h2 => hK a' w' ⟨h1, h2⟩))⟩
theorem done_G {done : Array Bool} {a : Act} {w : World} (hr : Region.ready md ops done = []) (h : ∀ X : World, Below w.heap.size w X → Q .normal a X) : ∀ f, wpAnyG P md ops Q S f done a w
 | 0 => fun X hX => ⟨hr, h X hX⟩
 | _ + 1 => fun X hX => ⟨fun _ => h X hX, by rw [hr]; simp⟩
theorem region_G {id : Nat} {a : Act} {w : World} (hm : P.follows .mixedOrders = true) (h : wpAnyG P .any ops Q S ops.size (Array.replicate ops.size false) a w.drew) : (Code.region id ops true).wp P Q a w :=
 wp_region_any hm (wpAny_of_G _ _ _ _ h)
end
def GK (L : List (Nat × Nat × Obj)) (k : Nat) (X : World) : Prop := ∀ p ∈ L, p.1 = k → X.heap[p.2.1]? = some p.2.2
theorem GK.grow (L : List (Nat × Nat × Obj)) : ∀ k (w X : World), GK L k w → Below w.heap.size w X → GK L k X := fun k w X h hb p hp e => blk_next hb (h p hp e)
theorem GK.drop {L : List (Nat × Nat × Obj)} {k : Nat} {Y : World} (h : ∀ p ∈ L, p.1 ≠ k) : GK L k Y := fun p hp e => absurd e (h p hp)
theorem GK.drew {L : List (Nat × Nat × Obj)} {k : Nat} {w : World} (h : GK L k w) : GK L k w.drew := fun p hp e => h p hp e
theorem GK.set {L : List (Nat × Nat × Obj)} {k b off : Nat} {X : World} {v : Value} (h : GK L k X) (hn : ∀ p ∈ L, p.1 = k → p.2.1 ≠ b) : GK L k (X.setCell ⟨b, off, none⟩ v) := fun p hp e => blk_set_other (h p hp e) (fun hh => hn p hp e hh.symm) _ _
theorem GK.alloc {L : List (Nat × Nat × Obj)} {k : Nat} {X : World} (h : GK L k X) (o : Obj) : GK L k (X.alloc o) := fun p hp e => blk_alloc (h p hp e) o
theorem tP {P : Program} {ops : Array Oper} {Q : Exit → Act → World → Prop} {md : Region.Mode} {L : List (Nat × Nat × Obj)} {oi : Oper} {f : Nat} {done : Array Bool} {a : Act} {w : World} (i : Nat) (v : Value) (d : Option Nat) (hi : ops[i]? = some oi)
 (hy : ∀ w, GK L i w → (execOp a.eval oi).run P w = .ok (.value v) w) (h : wpAnyG P md ops Q (GK L) f (done.setIfInBounds i true) (a.put d v) w) (hw : Region.wanted oi (yielded ops a.tmps) = true := by rfl) (hS : ∀ p ∈ L, p.1 ≠ i := by simp) (hsh : shutB md ops done = true := by kernel_rfl) (hs : Region.noSelect ops = true := by kernel_rfl) (hf : Region.free md ops done i = true := by kernel_rfl)
 (hr : (Region.ready md ops done).contains i = true := by kernel_rfl) (hd : oi.dst = d := by rfl) (hQ : ∀ c a w, Q (.panic c) (a.put oi.dst v) w → Q (.panic c) a w := by exact fun _ _ _ h => h) : wpAnyG P md ops Q (GK L) (f + 1) done a w :=
 take_G i v d (GK.grow _) hsh hi hs hf hr hd hQ (YieldsIf.toG (Or.inl ⟨hw, hy⟩)) (GK.drop hS) h
end
end Go.Proofs.YtbbnkclajpaghaaGreatDoor
