/- Several texts in one. -/
import Derived.Lib.AtoiErrMem
import Derived.Lib.ParseIntBTie
import Derived.Lib.AppendIntMem
import Derived.Deep.RegionLaw
import Derived.Laws.IdiomStrings
import Derived.Test.YtfangplfbbgphaaGreatDoorMN00
import Derived.Test.YtfangplfbbgphaaGreatDoorMN04
import Derived.Test.YtfangplfbbgphaaGreatDoorMN05
import Derived.Test.YtfangplfbbgphaaGreatDoorMN06
namespace Go.Proofs.YtfangplfbbgphaaGreatDoor
open Go.ChangeShapes Go.WideShapes Go.ChangeAt Go.RowKit
set_option linter.unusedVariables false
attribute [local go_sem ↓] Go.wp_at_zero Go.wp_at_succ
theorem var_keep {P : Program} {w w' : World} {n : String} {cs : Array Value} (h : w.var? P n = some cs) (hb : Below w.heap.size w w') : w'.var? P n = some cs := by
 unfold World.var? at h ⊢
 cases hg : P.globalNamed n with
 | none => rw [hg] at h; cases h
 | some g =>
  rw [hg] at h
  simp only [Option.bind_some] at h ⊢
  cases hh : w.heap[g]? with
  | none => rw [hh] at h; cases h
  | some o =>
   rw [hh] at h
   rw [blk_next hb hh]
   exact h
structure GL (w : World) : Prop where
 tab : Lib.TabIs Tryz.prog w "internal/strconv.uint64pow10" .u64 Lib.pow10Tab
 syn : ∃ tp p, w.var? Tryz.prog "strconv.ErrSyntax" = some #[.iface tp p]
 ran : ∃ tp p, w.var? Tryz.prog "strconv.ErrRange" = some #[.iface tp p]
 max : ∃ m, w.cell? ⟨2, 0, none⟩ = some (.int .i64 m)
theorem cell_keep {w w' : World} {a : Addr} {v : Value} (h : w.cell? a = some v) (hb : Below w.heap.size w w') : w'.cell? a = some v := by
 have : a.block < w.heap.size := by
  unfold World.cell? at h
  cases hh : w.heap[a.block]? with
  | none => rw [hh] at h; cases h
  | some o => exact blk_lt hh
 exact (hb.cell this).trans h
theorem GL.next {w w' : World} (h : GL w) (hb : Below w.heap.size w w') : GL w' :=
 ⟨var_keep h.tab hb, by obtain ⟨t, p, e⟩ := h.syn; exact ⟨t, p, var_keep e hb⟩, by obtain ⟨t, p, e⟩ := h.ran; exact ⟨t, p, var_keep e hb⟩, by obtain ⟨m, e⟩ := h.max; exact ⟨m, cell_keep e hb⟩⟩
structure GT (w : World) : Prop where
 tab : Lib.TabIs Tryz.prog w "internal/strconv.uint64pow10" .u64 Lib.pow10Tab
theorem GT.next {w w' : World} (h : GT w) (hb : Below w.heap.size w w') : GT w' := ⟨var_keep h.tab hb⟩
theorem GL.gt {w : World} (h : GL w) : GT w := ⟨h.tab⟩
abbrev Str (l : List UInt8) : Value := .string ⟨l.toArray⟩
theorem fmt_calls (n : Int) (w : World) (h1 : -9223372036854775808 ≤ n) (h2 : n ≤ 9223372036854775807) (g : GT w) :
  Calls Tryz.prog 76 #[.int .i64 n, .int .i64 10] w fun e w' => e = .returned (Str (Lib.itoa n)) ∧ Below w.heap.size w w' :=
 (Tryz.strconv_FormatInt_10 n h1 h2 w g.tab).mono fun e w' ⟨h, k, os, hw⟩ => ⟨h, by rw [hw]; exact Lib.below_grow _ _ (Nat.le_refl _) k os⟩
theorem cutS_calls (s : ByteArray) (w : World) (hs : s.size < 4294967281) (g : GL w) :
  Calls Tryz.prog 56 #[.string s, .string ⟨#[47]⟩] w fun e w' => e = .returned (.tuple #[Str (Lib.cut s.data.toList [47]).1, Str (Lib.cut s.data.toList [47]).2.1, .bool (Lib.cut s.data.toList [47]).2.2]) ∧ Below w.heap.size w w' := by
 obtain ⟨m, hm⟩ := g.max
 exact (Tryz.strings_Cut s ⟨#[47]⟩ m w hs hm).mono fun e w' ⟨h, k, hw⟩ => ⟨h, by rw [hw]; exact below_drewN (Below.refl _ _) k⟩
theorem parse_bounds {l : List UInt8} {v : Int} (h : Lib.parseIntB 64 l = .ok v) : -9223372036854775808 ≤ v ∧ v ≤ 9223372036854775807 := by
 have := Lib.parseIntB_bounds h
 rw [show ((2 ^ (64 - 1) : Nat) : Int) = 9223372036854775808 from rfl] at this
 omega
def PI (l : List UInt8) (w : World) (e : Ending) (w' : World) : Prop :=
 (∃ v, Lib.parseIntB 64 l = .ok v ∧ -9223372036854775808 ≤ v ∧ v ≤ 9223372036854775807 ∧ e = .returned (.tuple #[.int .i64 v, .nilIface]) ∧ Below w.heap.size w w') ∨ ((∀ v, Lib.parseIntB 64 l ≠ .ok v) ∧ ∃ v t p, e = .returned (.tuple #[.int .i64 v, .iface t p]) ∧ Below w.heap.size w w')
theorem parse_calls (s : ByteArray) (w : World) (hs : s.size ≤ 4294967281) (g : GL w) :
  Calls Tryz.prog 117 #[.string s, .int .i64 10, .int .i64 64] w (PI s.data.toList w) := by
 cases h : Lib.parseIntB 64 s.data.toList with
 | ok v =>
  refine (Tryz.strconv_ParseInt_10_at64_ok s (by omega) v h w).mono fun e w' ⟨h1, h2⟩ => .inl ⟨v, h, ?_, ?_, h1, ?_⟩
  ·exact (parse_bounds h).1
  ·exact (parse_bounds h).2
  ·rcases h2 with rfl | ⟨t, rfl⟩
   ·exact Below.refl _ _
   ·exact Lib.bytesWorld_below _ _ _
 | range =>
  obtain ⟨tp, p, hv⟩ := g.ran
  exact (Tryz.strconv_ParseInt_10_at64_range_var s (by omega) h tp p w hv).mono fun e w' ⟨N, h1, h2, h3, h4⟩ => .inr ⟨fun v => (by rw [h]; intro k; cases k), _, _, _, h1, h4⟩
 | _ =>
  obtain ⟨tp, p, hv⟩ := g.syn
  exact (Tryz.strconv_ParseInt_10_at64_syntax_var s (by omega) ⟨fun v => (by rw [h]; intro k; cases k), by rw [h]; intro k; cases k⟩ tp p w hv).mono fun e w' ⟨N, h1, h2, h3, h4⟩ => .inr ⟨fun v => (by rw [h]; intro k; cases k), _, _, _, h1, h4⟩
theorem cat2 (a b : List UInt8) : (⟨a.toArray⟩ : ByteArray) ++ ⟨b.toArray⟩ = ⟨(a ++ b).toArray⟩ := by
 rw [ByteArray.ext_iff, ByteArray.data_append]
 simp
theorem cat3 (a b : List UInt8) : (⟨a.toArray⟩ : ByteArray) ++ ((⟨#[47]⟩ : ByteArray) ++ ⟨b.toArray⟩) = ⟨(a ++ 47 :: b).toArray⟩ := by
 rw [show (⟨#[47]⟩ : ByteArray) = ⟨[47].toArray⟩ from rfl, cat2, cat2]
 rfl
def txR (n d : Int) : List UInt8 := if errF n d = 0 then textL n d else []
set_option maxRecDepth 100000 in
set_option maxHeartbeats 4000000 in
theorem text_calls (n d : Int) (w : World) (g : GT w) :
  Calls Tryz.prog 51 #[Fv n d] w fun e w' => e = .returned (.tuple #[Str (txR n d), .int .i64 (errF n d)]) ∧ Below w.heap.size w w' := by
 have C1 := Lib.hid (fun W => check_calls n d W)
 have G := Lib.hid g
 clear g
 by_cases ck : errF n d = 0
 rotate_left
 ·have F : Hid (txR n d = []) := Lib.hid (by unfold txR; rw [if_neg ck])
  have ck' : (errF n d != 0) = true := by rw [bne_iff_ne]; exact ck
  generalize txR n d = res at *
  generalize errF n d = er at *
  clear ck
  go_enter Tryz.func51, Tryz.ntmps51
  go_wp2_with fail
  refine (C1.out _).mono ?_
  rintro e w1 ⟨rfl, hb⟩
  have NN := Lib.hid (Bgo (Bal (Below.refl _ _) _) hb)
  clear hb
  go_wp2_with fail
  go_ret2
  exact ⟨by rw [F.out]; rfl, NN.out⟩
 have v := errF_ok ck
 have F : Hid (txR n d = textL n d) := Lib.hid (by unfold txR; rw [if_pos ck])
 rw [ck] at C1 ⊢
 generalize txR n d = res at *
 have n1 := v.n1
 have n2 := v.n2
 have d1 := v.d1
 have d2 := v.d2
 have T1 := Lib.hid (fun W (h : GT W) => fmt_calls n W (by omega) (by omega) h)
 have T2 := Lib.hid (fun W (h : GT W) => fmt_calls d W (by omega) (by omega) h)
 have FT : Hid (textL n d = if d = 1 then Lib.itoa n else Lib.itoa n ++ 47 :: Lib.itoa d) := Lib.hid rfl
 have ln := Lib.itoa_length_le n (by omega) (by omega)
 have ld := Lib.itoa_length_le d (by omega) (by omega)
 generalize Lib.itoa n = tn at *
 generalize Lib.itoa d = td at *
 clear ck v
 by_cases hd : d = 1
 ·have F2 := Lib.hid (F.out.trans (FT.out.trans (if_pos hd)))
  clear F FT
  subst hd
  go_enter Tryz.func51, Tryz.ntmps51
  go_wp2_with fail
  refine (C1.out _).mono ?_
  rintro e w1 ⟨rfl, hb⟩
  have NN := Lib.hid (Bgo (Bal (Below.refl _ _) _) hb)
  have K := Lib.hid (blk_next hb (blk_new w (.cells #[.int .i64 n, .int .i64 1] 36)))
  replace G := Lib.hid (G.out.next NN.out)
  clear hb
  have a0 := blk_cell K.out 0 _ rfl
  have a1 := blk_cell K.out 1 _ rfl
  have al := blk_lt K.out
  go_wp2_with fail
  refine (T1.out _ G.out).mono ?_
  rintro e w2 ⟨rfl, hb⟩
  clear a0 a1 al
  replace NN := Lib.hid (Bgo NN.out hb)
  replace K := Lib.hid (blk_next hb K.out)
  replace G := Lib.hid (G.out.next hb)
  clear hb
  have a0 := blk_cell K.out 0 _ rfl
  have a1 := blk_cell K.out 1 _ rfl
  have al := blk_lt K.out
  go_wp2_with fail
  go_ret2
  exact ⟨by rw [F2.out]; rfl, NN.out⟩
 ·have F2 := Lib.hid (F.out.trans (FT.out.trans (if_neg hd)))
  clear F FT
  have hd' : (d != 1) = true := by rw [bne_iff_ne]; exact hd
  clear hd
  go_enter Tryz.func51, Tryz.ntmps51
  go_wp2_with fail
  refine (C1.out _).mono ?_
  rintro e w1 ⟨rfl, hb⟩
  have NN := Lib.hid (Bgo (Bal (Below.refl _ _) _) hb)
  have K := Lib.hid (blk_next hb (blk_new w (.cells #[.int .i64 n, .int .i64 d] 36)))
  replace G := Lib.hid (G.out.next NN.out)
  clear hb
  have a0 := blk_cell K.out 0 _ rfl
  have a1 := blk_cell K.out 1 _ rfl
  have al := blk_lt K.out
  go_wp2_with fail
  refine (T1.out _ G.out).mono ?_
  rintro e w2 ⟨rfl, hb⟩
  clear a0 a1 al
  replace NN := Lib.hid (Bgo NN.out hb)
  replace K := Lib.hid (blk_next hb K.out)
  replace G := Lib.hid (G.out.next hb)
  clear hb
  have a0 := blk_cell K.out 0 _ rfl
  have a1 := blk_cell K.out 1 _ rfl
  have al := blk_lt K.out
  go_wp2_with fail
  refine (T2.out _ G.out).mono ?_
  rintro e w3 ⟨rfl, hb⟩
  replace NN := Lib.hid (Bgo NN.out hb)
  clear hb a0 a1 al
  go_wp2_with fail
  rw [cat3 tn td, ← F2.out]
  go_ret2
  exact ⟨rfl, NN.out⟩
end Go.Proofs.YtfangplfbbgphaaGreatDoor
namespace Go.Proofs.YtfangplfbbgphaaGreatDoor
open Go.ChangeShapes Go.WideShapes Go.ChangeAt Go.RowKit
set_option linter.unusedVariables false
attribute [local go_sem ↓] Go.wp_at_zero Go.wp_at_succ
theorem PR.none {l : List UInt8} (h : ∀ n d, VF n d → textL n d ≠ l) : PR l (0, 0, 12) := .inr ⟨rfl, h⟩
theorem PR.some {l : List UInt8} {n d : Int} (h1 : errF n d = 0) (h2 : txR n d = l) : PR l (n, d, 0) := by
 refine .inl ⟨rfl, errF_ok h1, ?_⟩
 unfold txR at h2
 rwa [if_pos h1] at h2
theorem VF.itoaN {n d : Int} (v : VF n d) : Lib.parseIntB 64 (Lib.itoa n) = .ok n := parseI_itoa (by have := v.n1; omega) (by have := v.n2; omega)
theorem VF.itoaD {n d : Int} (v : VF n d) : Lib.parseIntB 64 (Lib.itoa d) = .ok d := parseI_itoa (by have := v.d1; omega) (by have := v.d2; omega)
theorem VF.tx {n d : Int} (v : VF n d) : txR n d = textL n d := by unfold txR; rw [if_pos v.err]
theorem s_len (s : ByteArray) : s.data.toList.length = s.size := by rw [Array.length_toList]; rfl
set_option maxRecDepth 100000 in
set_option maxHeartbeats 8000000 in
theorem parseP_calls (s : ByteArray) (w : World) (g : GL w) :
  Calls Tryz.prog 83 #[.string s] w fun e w' => ∃ r, e = .returned (Rv r) ∧ PR s.data.toList r ∧ Below w.heap.size w w' := by
 have G := Lib.hid g
 clear g
 have SL := s_len s
 by_cases big : 40 < s.size
 ·have NO := Lib.hid (PR.none (l := s.data.toList) (fun n d v h => by have := text_len v; rw [h] at this; omega))
  clear SL
  have bg : decide ((40 : Int) < (s.size : Int)) = true := decide_eq_true (by omega)
  go_enter Tryz.func83, Tryz.ntmps83
  go_wp2_with fail
  have K := Lib.hid (blk_new w (.cells #[.int .i64 0, .int .i64 0] 36))
  have NN := Lib.hid (Bal (Below.refl w.heap.size w) (.cells #[.int .i64 0, .int .i64 0] 36))
  refine bodyPost_ret (v := Rv (0, 0, 12)) (by simp [results, Tryz.results83, go_sem]) rfl ⟨_, rfl, NO.out, by first | exact NN.out | exact Bset1 (Bset1 NN.out (Nat.le_refl _) _ _) (Nat.le_refl _) _ _⟩
 have bg : decide ((40 : Int) < (s.size : Int)) = false := decide_eq_false (by omega)
 have CC := Lib.hid (fun W (h : GL W) => cutS_calls s W (by omega) h)
 have CT : Hid (∀ n d, VF n d → textL n d = s.data.toList → Lib.cut s.data.toList [47] = (Lib.itoa n, if d = 1 then [] else Lib.itoa d, !decide (d = 1))) := Lib.hid (fun n d v h => by rw [← h, cut_text])
 have LL : (Lib.cut s.data.toList [47]).1.length ≤ 40 ∧ (Lib.cut s.data.toList [47]).2.1.length ≤ 40 := by
  unfold Lib.cut; split <;> simp <;> omega
 obtain ⟨⟨la, lb, f⟩, hc⟩ : ∃ r, Lib.cut s.data.toList [47] = r := ⟨_, rfl⟩
 rw [hc] at CC CT LL
 clear hc
 obtain ⟨ll1, ll2⟩ := LL
 have P1 := Lib.hid (fun W (h : GL W) => parse_calls ⟨la.toArray⟩ W (by have := s_len ⟨la.toArray⟩; simp at this ll1; omega) h)
 have P2 := Lib.hid (fun W (h : GL W) => parse_calls ⟨lb.toArray⟩ W (by have := s_len ⟨lb.toArray⟩; simp at this ll2; omega) h)
 rw [show (⟨la.toArray⟩ : ByteArray).data.toList = la by simp] at P1
 rw [show (⟨lb.toArray⟩ : ByteArray).data.toList = lb by simp] at P2
 clear big SL ll1 ll2
 go_enter Tryz.func83, Tryz.ntmps83
 go_wp2_with fail
 have K := Lib.hid (blk_new w (.cells #[.int .i64 0, .int .i64 0] 36))
 have NN := Lib.hid (Bal (Below.refl w.heap.size w) (.cells #[.int .i64 0, .int .i64 0] 36))
 replace G := Lib.hid (G.out.next NN.out)
 generalize w.alloc (.cells #[.int .i64 0, .int .i64 0] 36) = W0 at *
 refine (CC.out _ G.out).mono ?_
 rintro e w1 ⟨rfl, hb⟩
 replace NN := Lib.hid (Bgo NN.out hb)
 replace K := Lib.hid (blk_next hb K.out)
 replace G := Lib.hid (G.out.next hb)
 clear hb
 clear CC
 go_wp2_with fail
 refine (P1.out _ G.out).mono ?_
 clear P1
 rintro e w2 (⟨num, pn, n1, n2, rfl, hb⟩ | ⟨pn, v2, t2, p2, rfl, hb⟩)
 rotate_left
 ·have NO := Lib.hid (PR.none (l := s.data.toList) (fun n d v h => by have := CT.out n d v h; simp only [Prod.mk.injEq] at this; exact pn n (by rw [this.1]; exact v.itoaN)))
  clear pn CT
  replace NN := Lib.hid (Bgo NN.out hb)
  replace K := Lib.hid (blk_next hb K.out)
  replace G := Lib.hid (G.out.next hb)
  clear hb
  have z0 := blk_cell K.out 0 _ rfl
  have z1 := blk_cell K.out 1 _ rfl
  have f0 := blk_frozen K.out 0
  have f1 := blk_frozen K.out 1
  have zl := blk_lt K.out
  go_wp2_with fail
  have e1 := blk_cell (blk_set (blk_set K.out 0 (.int .i64 0)) 1 (.int .i64 0)) 0 _ rfl
  have e2 := blk_cell (blk_set (blk_set K.out 0 (.int .i64 0)) 1 (.int .i64 0)) 1 _ rfl
  refine bodyPost_ret (v := Rv (0, 0, 12)) (by simp [results, Tryz.results83, go_sem, e1, e2]) rfl ⟨_, rfl, NO.out, Bset1 (Bset1 NN.out (Nat.le_refl _) _ _) (Nat.le_refl _) _ _⟩
 replace NN := Lib.hid (Bgo NN.out hb)
 replace K := Lib.hid (blk_next hb K.out)
 replace G := Lib.hid (G.out.next hb)
 clear hb
 have PN := Lib.hid pn
 clear pn
 cases f with
 | true =>
  go_wp2_with fail
  refine (P2.out _ G.out).mono ?_
  clear P2
  rintro e w3 (⟨den, pd, d1, d2, rfl, hb⟩ | ⟨pd, v3, t3, p3, rfl, hb⟩)
  rotate_left
  ·have NO := Lib.hid (PR.none (l := s.data.toList) (fun n d v h => by
    have := CT.out n d v h; simp only [Prod.mk.injEq] at this
    have hd : ¬ d = 1 := by have := this.2.2; simpa using this
    rw [if_neg hd] at this
    exact pd d (by rw [this.2.1]; exact v.itoaD)))
   clear pd CT
   replace NN := Lib.hid (Bgo NN.out hb)
   replace K := Lib.hid (blk_next hb K.out)
   replace G := Lib.hid (G.out.next hb)
   clear hb
   have z0 := blk_cell K.out 0 _ rfl
   have z1 := blk_cell K.out 1 _ rfl
   have f0 := blk_frozen K.out 0
   have f1 := blk_frozen K.out 1
   have zl := blk_lt K.out
   go_wp2_with fail
   have e1 := blk_cell (blk_set (blk_set K.out 0 (.int .i64 0)) 1 (.int .i64 0)) 0 _ rfl
   have e2 := blk_cell (blk_set (blk_set K.out 0 (.int .i64 0)) 1 (.int .i64 0)) 1 _ rfl
   refine bodyPost_ret (v := Rv (0, 0, 12)) (by simp [results, Tryz.results83, go_sem, e1, e2]) rfl ⟨_, rfl, NO.out, Bset1 (Bset1 NN.out (Nat.le_refl _) _ _) (Nat.le_refl _) _ _⟩
  ·have UN : Hid (∀ n d, VF n d → textL n d = s.data.toList → errF num den = 0 ∧ txR num den = s.data.toList) := Lib.hid (fun n d v h => by
    have := CT.out n d v h; simp only [Prod.mk.injEq] at this
    have hd : ¬ d = 1 := by have := this.2.2; simpa using this
    rw [if_neg hd] at this
    have en := PN.out
    rw [this.1, v.itoaN] at en
    rw [this.2.1, v.itoaD] at pd
    cases en; cases pd
    exact ⟨v.err, by rw [v.tx]; exact h⟩)
   clear pd CT PN
   replace NN := Lib.hid (Bgo NN.out hb)
   replace K := Lib.hid (blk_next hb K.out)
   replace G := Lib.hid (G.out.next hb)
   clear hb
   have TC := Lib.hid (fun W (h : GL W) => text_calls num den W h.gt)
   have OKR := Lib.hid (fun (h1 : errF num den = 0) (h2 : txR num den = s.data.toList) => PR.some h1 h2)
   obtain ⟨tx, htx⟩ : ∃ z, txR num den = z := ⟨_, rfl⟩
   obtain ⟨er, her⟩ : ∃ z, errF num den = z := ⟨_, rfl⟩
   rw [htx, her] at TC OKR UN
   clear htx her
   have HB : Hid (Below w3.heap.size w3 (w3.alloc (.cells #[.int .i64 num, .int .i64 den] 36))) := Lib.hid (Bal (Below.refl _ _) _)
   have A := Lib.hid (blk_new w3 (.cells #[.int .i64 num, .int .i64 den] 36))
   replace NN := Lib.hid (Bgo NN.out HB.out)
   replace K := Lib.hid (blk_next HB.out K.out)
   replace G := Lib.hid (G.out.next HB.out)
   clear HB
   go_wp2_with fail
   generalize w3.alloc (.cells #[.int .i64 num, .int .i64 den] 36) = W4 at *
   generalize w3.heap.size = ga at *
   refine (TC.out _ G.out).mono ?_
   rintro e w5 ⟨rfl, hb⟩
   replace A := Lib.hid (blk_next hb A.out)
   replace NN := Lib.hid (Bgo NN.out hb)
   replace K := Lib.hid (blk_next hb K.out)
   replace G := Lib.hid (G.out.next hb)
   clear hb
   clear TC
   have z0 := blk_cell K.out 0 _ rfl
   have z1 := blk_cell K.out 1 _ rfl
   have f0 := blk_frozen K.out 0
   have f1 := blk_frozen K.out 1
   have zl := blk_lt K.out
   have a0 := blk_cell A.out 0 _ rfl
   have a1 := blk_cell A.out 1 _ rfl
   have al := blk_lt A.out
   by_cases ez : er = 0
   rotate_left
   ·have ez' : (er != 0) = true := by rw [bne_iff_ne]; exact ez
    have NO := Lib.hid (PR.none (l := s.data.toList) (fun n d v h => ez (UN.out n d v h).1))
    clear UN OKR ez
    go_wp2_with fail
    have e1 := blk_cell (blk_set (blk_set K.out 0 (.int .i64 0)) 1 (.int .i64 0)) 0 _ rfl
    have e2 := blk_cell (blk_set (blk_set K.out 0 (.int .i64 0)) 1 (.int .i64 0)) 1 _ rfl
    refine bodyPost_ret (v := Rv (0, 0, 12)) (by simp [results, Tryz.results83, go_sem, e1, e2]) rfl ⟨_, rfl, NO.out, Bset1 (Bset1 NN.out (Nat.le_refl _) _ _) (Nat.le_refl _) _ _⟩
   subst ez
   by_cases et : tx = s.data.toList
   rotate_left
   ·have et' : (tx == s.toList) = false := by rw [ByteArray.toList_eq, beq_eq_false_iff_ne]; exact et
    have NO := Lib.hid (PR.none (l := s.data.toList) (fun n d v h => et (UN.out n d v h).2))
    clear UN OKR et
    go_wp2_with fail
    have e1 := blk_cell (blk_set (blk_set K.out 0 (.int .i64 0)) 1 (.int .i64 0)) 0 _ rfl
    have e2 := blk_cell (blk_set (blk_set K.out 0 (.int .i64 0)) 1 (.int .i64 0)) 1 _ rfl
    refine bodyPost_ret (v := Rv (0, 0, 12)) (by simp [results, Tryz.results83, go_sem, e1, e2]) rfl ⟨_, rfl, NO.out, Bset1 (Bset1 NN.out (Nat.le_refl _) _ _) (Nat.le_refl _) _ _⟩
   have R := Lib.hid (OKR.out rfl et)
   have et' : (tx == s.toList) = true := by rw [ByteArray.toList_eq, et]; exact beq_self_eq_true _
   clear UN OKR et
   go_wp2_with fail
   have e1 := blk_cell (blk_set (blk_set K.out 0 (.int .i64 num)) 1 (.int .i64 den)) 0 _ rfl
   have e2 := blk_cell (blk_set (blk_set K.out 0 (.int .i64 num)) 1 (.int .i64 den)) 1 _ rfl
   refine bodyPost_ret (v := Rv (num, den, 0)) (by simp [results, Tryz.results83, go_sem, e1, e2]) rfl ⟨_, rfl, R.out, Bset1 (Bset1 NN.out (Nat.le_refl _) _ _) (Nat.le_refl _) _ _⟩
 | false =>
  have UN : Hid (∀ n d, VF n d → textL n d = s.data.toList → errF num 1 = 0 ∧ txR num 1 = s.data.toList) := Lib.hid (fun n d v h => by
    have := CT.out n d v h; simp only [Prod.mk.injEq] at this
    have hd : d = 1 := by have := this.2.2; simpa using this
    subst hd
    have en := PN.out
    rw [this.1, v.itoaN] at en
    cases en
    exact ⟨v.err, by rw [v.tx]; exact h⟩)
  clear CT PN P2
  have TC := Lib.hid (fun W (h : GL W) => text_calls num 1 W h.gt)
  have OKR := Lib.hid (fun (h1 : errF num 1 = 0) (h2 : txR num 1 = s.data.toList) => PR.some h1 h2)
  obtain ⟨tx, htx⟩ : ∃ z, txR num 1 = z := ⟨_, rfl⟩
  obtain ⟨er, her⟩ : ∃ z, errF num 1 = z := ⟨_, rfl⟩
  rw [htx, her] at TC OKR UN
  clear htx her
  have HB : Hid (Below w2.heap.size w2 (w2.alloc (.cells #[.int .i64 num, .int .i64 1] 36))) := Lib.hid (Bal (Below.refl _ _) _)
  have A := Lib.hid (blk_new w2 (.cells #[.int .i64 num, .int .i64 1] 36))
  replace NN := Lib.hid (Bgo NN.out HB.out)
  replace K := Lib.hid (blk_next HB.out K.out)
  replace G := Lib.hid (G.out.next HB.out)
  clear HB
  go_wp2_with fail
  generalize w2.alloc (.cells #[.int .i64 num, .int .i64 1] 36) = W4 at *
  generalize w2.heap.size = ga at *
  refine (TC.out _ G.out).mono ?_
  rintro e w5 ⟨rfl, hb⟩
  replace A := Lib.hid (blk_next hb A.out)
  replace NN := Lib.hid (Bgo NN.out hb)
  replace K := Lib.hid (blk_next hb K.out)
  replace G := Lib.hid (G.out.next hb)
  clear hb
  clear TC
  have z0 := blk_cell K.out 0 _ rfl
  have z1 := blk_cell K.out 1 _ rfl
  have f0 := blk_frozen K.out 0
  have f1 := blk_frozen K.out 1
  have zl := blk_lt K.out
  have a0 := blk_cell A.out 0 _ rfl
  have a1 := blk_cell A.out 1 _ rfl
  have al := blk_lt A.out
  by_cases ez : er = 0
  rotate_left
  ·have ez' : (er != 0) = true := by rw [bne_iff_ne]; exact ez
   have NO := Lib.hid (PR.none (l := s.data.toList) (fun n d v h => ez (UN.out n d v h).1))
   clear UN OKR ez
   go_wp2_with fail
   have e1 := blk_cell (blk_set (blk_set K.out 0 (.int .i64 0)) 1 (.int .i64 0)) 0 _ rfl
   have e2 := blk_cell (blk_set (blk_set K.out 0 (.int .i64 0)) 1 (.int .i64 0)) 1 _ rfl
   refine bodyPost_ret (v := Rv (0, 0, 12)) (by simp [results, Tryz.results83, go_sem, e1, e2]) rfl ⟨_, rfl, NO.out, Bset1 (Bset1 NN.out (Nat.le_refl _) _ _) (Nat.le_refl _) _ _⟩
  subst ez
  by_cases et : tx = s.data.toList
  rotate_left
  ·have et' : (tx == s.toList) = false := by rw [ByteArray.toList_eq, beq_eq_false_iff_ne]; exact et
   have NO := Lib.hid (PR.none (l := s.data.toList) (fun n d v h => et (UN.out n d v h).2))
   clear UN OKR et
   go_wp2_with fail
   have e1 := blk_cell (blk_set (blk_set K.out 0 (.int .i64 0)) 1 (.int .i64 0)) 0 _ rfl
   have e2 := blk_cell (blk_set (blk_set K.out 0 (.int .i64 0)) 1 (.int .i64 0)) 1 _ rfl
   refine bodyPost_ret (v := Rv (0, 0, 12)) (by simp [results, Tryz.results83, go_sem, e1, e2]) rfl ⟨_, rfl, NO.out, Bset1 (Bset1 NN.out (Nat.le_refl _) _ _) (Nat.le_refl _) _ _⟩
  have R := Lib.hid (OKR.out rfl et)
  have et' : (tx == s.toList) = true := by rw [ByteArray.toList_eq, et]; exact beq_self_eq_true _
  clear UN OKR et
  go_wp2_with fail
  have e1 := blk_cell (blk_set (blk_set K.out 0 (.int .i64 num)) 1 (.int .i64 1)) 0 _ rfl
  have e2 := blk_cell (blk_set (blk_set K.out 0 (.int .i64 num)) 1 (.int .i64 1)) 1 _ rfl
  refine bodyPost_ret (v := Rv (num, 1, 0)) (by simp [results, Tryz.results83, go_sem, e1, e2]) rfl ⟨_, rfl, R.out, Bset1 (Bset1 NN.out (Nat.le_refl _) _ _) (Nat.le_refl _) _ _⟩
end Go.Proofs.YtfangplfbbgphaaGreatDoor
namespace Go.Proofs.YtfangplfbbgphaaGreatDoor
open Go.ChangeShapes Go.WideShapes Go.ChangeAt Go.RowKit
set_option linter.unusedVariables false
attribute [local go_sem ↓] Go.wp_at_zero Go.wp_at_succ
theorem str_get (s : ByteArray) (k : Nat) (h : k < s.size) : s.data.toList[k]? = some s[k] := by
 have : k < s.data.toList.length := by rw [Array.length_toList]; exact h
 rw [List.getElem?_eq_getElem this]
 rfl
end Go.Proofs.YtfangplfbbgphaaGreatDoor
namespace Go.Proofs.YtfangplfbbgphaaGreatDoor
open Go.ChangeShapes Go.WideShapes Go.ChangeAt Go.RowKit
set_option linter.unusedVariables false
set_option maxRecDepth 100000
set_option linter.unusedSimpArgs false
set_option maxRecDepth 100000
attribute [local go_sem ↓] Go.wp_at_zero Go.wp_at_succ
theorem str_len (s : ByteArray) : s.data.toList.length = s.size := by rw [Array.length_toList]; rfl
theorem all_bad {l : List UInt8} {k : Nat} {c : UInt8} (h : l[k]? = some c) (hc : namC c.toNat = false) : namB l = false := by
 unfold namB
 have : (l.all fun c => namC c.toNat) = false := by
  rw [List.all_eq_false]
  exact ⟨c, List.mem_of_getElem? h, by rw [hc]; simp⟩
 rw [this, Bool.and_false, Bool.and_false]
theorem all_good {l : List UInt8} (h1 : 1 ≤ l.length) (h2 : l.length ≤ 40) {c0 : UInt8} (h0 : l[0]? = some c0) (hl : lowB c0.toNat = true) (h : ∀ (k : Nat) (c : UInt8), l[k]? = some c → namC c.toNat = true) : namB l = true := by
 unfold namB
 have e : l.headD 0 = c0 := by cases l with | nil => simp at h0 | cons x r => simp at h0; simp [h0]
 rw [e, hl, decide_eq_true ⟨h1, h2⟩, Bool.true_and, Bool.true_and, List.all_eq_true]
 intro c hc
 obtain ⟨k, hk⟩ := List.mem_iff_getElem?.1 hc
 exact h k c hk
theorem head_bad {l : List UInt8} {c0 : UInt8} (h0 : l[0]? = some c0) (hl : lowB c0.toNat = false) : namB l = false := by
 unfold namB
 have e : l.headD 0 = c0 := by cases l with | nil => simp at h0 | cons x r => simp at h0; simp [h0]
 rw [e, hl, Bool.false_and, Bool.and_false]
theorem len_bad {l : List UInt8} (h : l.length < 1 ∨ 40 < l.length) : namB l = false := by
 unfold namB
 rw [decide_eq_false (by omega), Bool.false_and]
set_option maxHeartbeats 4000000 in
theorem valid_calls (x : St) (w : World) (hs : x.nm.size ≤ 9223372036854775807) :
  Calls Tryz.prog 74 #[Sv x] w fun e w' => e = .returned (.bool (valS x)) ∧ Below w.heap.size w w' := by
 obtain ⟨s, sn, sd, tn, td⟩ := x
 have AT := Lib.hid (fun W => at_calls 1 1 sn sd tn td W)
 have EA : atE 1 1 sn sd tn td = if plB sn sd tn td then 0 else 8 := by unfold atE; rw [if_neg (by decide)]
 rw [EA] at AT
 clear EA
 have VS : Hid (valS ⟨s, sn, sd, tn, td⟩ = (namB s.data.toList && plB sn sd tn td)) := Lib.hid rfl
 generalize valS ⟨s, sn, sd, tn, td⟩ = vs at *
 simp only at hs
 generalize plB sn sd tn td = pl at *
 obtain ⟨v, hv⟩ : ∃ v : V6, atV 1 1 sn sd tn td = Vv v := by
  unfold atV
  split
  ·exact ⟨⟨_, _, _, _, _, _⟩, rfl⟩
  ·exact ⟨⟨0, 0, 0, 0, 0, 0⟩, rfl⟩
 rw [hv] at AT
 clear hv
 have SL := str_len s
 have SG := Lib.hid (fun k (h : k < s.size) => str_get s k h)
 obtain ⟨l, hl⟩ : ∃ l, s.data.toList = l := ⟨_, rfl⟩
 rw [hl] at SL SG VS
 clear hl
 by_cases z : s.size < 1
 ·have NB := Lib.hid (len_bad (l := l) (.inl (by omega)))
  have d1 : decide ((s.size : Int) < 1) = true := decide_eq_true (by omega)
  have SL' := Lib.hid SL
  clear SL z
  go_enter Tryz.func74, Tryz.ntmps74
  go_wp2_with fail
  go_ret
  exact ⟨ret_bool (by rw [VS.out, NB.out]; rfl), Bal (Below.refl _ _) _⟩
 have d1 : decide ((s.size : Int) < 1) = false := decide_eq_false (by omega)
 by_cases big : 40 < s.size
 ·have NB := Lib.hid (len_bad (l := l) (.inr (by omega)))
  have d2 : decide ((40 : Int) < (s.size : Int)) = true := decide_eq_true (by omega)
  have SL' := Lib.hid SL
  clear SL z big
  go_enter Tryz.func74, Tryz.ntmps74
  go_wp2_with fail
  go_ret
  exact ⟨ret_bool (by rw [VS.out, NB.out]; rfl), Bal (Below.refl _ _) _⟩
 have d2 : decide ((40 : Int) < (s.size : Int)) = false := decide_eq_false (by omega)
 have s1 : 0 < s.size := by omega
 have s2 : s.size ≤ 40 := by omega
 have h0 := SG.out 0 s1
 have SL' := Lib.hid SL
 clear SL z big
 by_cases lo : s[0].toNat < 97
 ·have e1 : decide ((s[0].toNat : Int) < 97) = true := decide_eq_true (by omega)
  have NB := Lib.hid (head_bad h0 (by unfold lowB; exact decide_eq_false (by omega)))
  clear h0
  go_enter Tryz.func74, Tryz.ntmps74
  go_wp2_with fail
  go_ret
  exact ⟨ret_bool (by rw [VS.out, NB.out]; rfl), Bal (Below.refl _ _) _⟩
 have e1 : decide ((s[0].toNat : Int) < 97) = false := decide_eq_false (by omega)
 by_cases hi : 122 < s[0].toNat
 ·have e2 : decide ((122 : Int) < (s[0].toNat : Int)) = true := decide_eq_true (by omega)
  have NB := Lib.hid (head_bad h0 (by unfold lowB; exact decide_eq_false (by omega)))
  clear h0
  go_enter Tryz.func74, Tryz.ntmps74
  go_wp2_with fail
  go_ret
  exact ⟨ret_bool (by rw [VS.out, NB.out]; rfl), Bal (Below.refl _ _) _⟩
 have e2 : decide ((122 : Int) < (s[0].toNat : Int)) = false := decide_eq_false (by omega)
 have AG := Lib.hid (fun h => all_good (l := l) (by rw [SL'.out]; omega) (by rw [SL'.out]; omega) h0 (by unfold lowB; exact decide_eq_true (by omega)) h)
 clear h0 lo hi
 go_enter Tryz.func74, Tryz.ntmps74
 go_wp2_with fail
 go_loop [32] (fun i => ∃ k : Nat, k ≤ s.size ∧ i = .int .i64 k ∧ Hid (∀ (j : Nat) (c : UInt8), j < k → l[j]? = some c → namC c.toNat = true)) (fun i => s.size - (intOf i).toNat)
 case atStart => exact ⟨0, by omega, rfl, Lib.hid (fun j c h => by omega)⟩
 case round =>
  obtain ⟨k, hk, rfl, GD⟩ := hrel
  by_cases hlt : k < s.size
  ·have hc := Lib.hid (SG.out k hlt)
   have kk : k + 1 ≤ s.size := hlt
   have z1 : decide ((0 : Int) ≤ (k : Int)) = true := decide_eq_true (by omega)
   by_cases p1 : 97 ≤ s[k].toNat ∧ s[k].toNat ≤ 122
   ·have d1 : decide ((s[k].toNat : Int) < 97) = false := decide_eq_false (by omega)
    have d2 : decide ((122 : Int) < (s[k].toNat : Int)) = false := decide_eq_false (by omega)
    have d5 : ((s[k].toNat : Int) != 45) = true := by rw [bne_iff_ne]; omega
    have d3 : decide ((s[k].toNat : Int) < 48) = false := decide_eq_false (by omega)
    have d4 : decide ((57 : Int) < (s[k].toNat : Int)) = true := decide_eq_true (by omega)
    have G2 : Hid (∀ (j : Nat) (c : UInt8), j < k + 1 → l[j]? = some c → namC c.toNat = true) := Lib.hid (fun j c hj h => by
     by_cases e : j = k
     ·subst e
      rw [hc.out] at h
      cases h
      unfold namC; exact decide_eq_true (Or.inl p1)
     ·exact GD.out j c (by omega) h)
    clear GD hc
    have PP := Lib.hid p1
    clear p1
    go_wp2_with fail
    go_round
    case rel => exact ⟨k + 1, kk, by go_num, G2⟩
    case measure => simp [intOf]; omega
   by_cases p2 : 48 ≤ s[k].toNat ∧ s[k].toNat ≤ 57
   ·have d1 : decide ((s[k].toNat : Int) < 97) = true := decide_eq_true (by omega)
    have d3 : decide ((s[k].toNat : Int) < 48) = false := decide_eq_false (by omega)
    have d4 : decide ((57 : Int) < (s[k].toNat : Int)) = false := decide_eq_false (by omega)
    have d5 : ((s[k].toNat : Int) != 45) = true := by rw [bne_iff_ne]; omega
    have G2 : Hid (∀ (j : Nat) (c : UInt8), j < k + 1 → l[j]? = some c → namC c.toNat = true) := Lib.hid (fun j c hj h => by
     by_cases e : j = k
     ·subst e
      rw [hc.out] at h
      cases h
      unfold namC; exact decide_eq_true (Or.inr (Or.inl p2))
     ·exact GD.out j c (by omega) h)
    clear GD hc
    have PP := Lib.hid p2
    clear p2
    go_wp2_with fail
    go_round
    case rel => exact ⟨k + 1, kk, by go_num, G2⟩
    case measure => simp [intOf]; omega
   by_cases p3 : s[k].toNat = 45
   ·have d1 : decide ((s[k].toNat : Int) < 97) = true := decide_eq_true (by omega)
    have d3 : decide ((s[k].toNat : Int) < 48) = true := decide_eq_true (by omega)
    have d5 : ((s[k].toNat : Int) != 45) = false := by rw [bne_eq_false_iff_eq]; omega
    have G2 : Hid (∀ (j : Nat) (c : UInt8), j < k + 1 → l[j]? = some c → namC c.toNat = true) := Lib.hid (fun j c hj h => by
     by_cases e : j = k
     ·subst e
      rw [hc.out] at h
      cases h
      unfold namC; exact decide_eq_true (Or.inr (Or.inr p3))
     ·exact GD.out j c (by omega) h)
    clear GD hc
    have PP := Lib.hid p3
    clear p3
    go_wp2_with fail
    go_round
    case rel => exact ⟨k + 1, kk, by go_num, G2⟩
    case measure => simp [intOf]; omega
   have d5 : ((s[k].toNat : Int) != 45) = true := by rw [bne_iff_ne]; omega
   have nc : namC s[k].toNat = false := by unfold namC; exact decide_eq_false (by omega)
   by_cases p4 : s[k].toNat < 48
   ·have d1 : decide ((s[k].toNat : Int) < 97) = true := decide_eq_true (by omega)
    have d3 : decide ((s[k].toNat : Int) < 48) = true := decide_eq_true (by omega)
    have NB := Lib.hid (all_bad hc.out nc)
    clear nc hc
    go_wp2_with fail
    go_ret
    exact ⟨ret_bool (by rw [VS.out, NB.out]; rfl), Bal (Below.refl _ _) _⟩
   have d3 : decide ((s[k].toNat : Int) < 48) = false := decide_eq_false (by omega)
   have d4 : decide ((57 : Int) < (s[k].toNat : Int)) = true := decide_eq_true (by omega)
   by_cases p5 : s[k].toNat < 97
   ·have d1 : decide ((s[k].toNat : Int) < 97) = true := decide_eq_true (by omega)
    have NB := Lib.hid (all_bad hc.out nc)
    clear nc hc
    go_wp2_with fail
    go_ret
    exact ⟨ret_bool (by rw [VS.out, NB.out]; rfl), Bal (Below.refl _ _) _⟩
   have d1 : decide ((s[k].toNat : Int) < 97) = false := decide_eq_false (by omega)
   have d2 : decide ((122 : Int) < (s[k].toNat : Int)) = true := decide_eq_true (by omega)
   have NB := Lib.hid (all_bad hc.out nc)
   clear nc hc
   go_wp2_with fail
   go_ret
   exact ⟨ret_bool (by rw [VS.out, NB.out]; rfl), Bal (Below.refl _ _) _⟩
  ·have NB := Lib.hid (AG.out (fun j c h => GD.out j c (by have := (List.getElem?_eq_some_iff.1 h).1; rw [SL'.out] at this; omega) h))
   clear GD AG
   have BW := Lib.hid (Bal (Below.refl w.heap.size w) (.cells #[.string s, .int .i64 sn, .int .i64 sd, .int .i64 tn, .int .i64 td] 69))
   cases pl
   ·go_wp2_with fail
    refine (AT.out _).mono ?_
    rintro e w1 ⟨rfl, hb⟩
    replace BW := Lib.hid (Bgo BW.out hb)
    clear hb
    simp only [Bool.false_eq_true, if_false]
    go_wp2_with fail
    go_ret
    exact ⟨ret_bool (by rw [VS.out, Bool.and_false]), Bal BW.out _⟩
   ·go_wp2_with fail
    refine (AT.out _).mono ?_
    rintro e w1 ⟨rfl, hb⟩
    replace BW := Lib.hid (Bgo BW.out hb)
    clear hb
    simp only [if_true]
    go_wp2_with fail
    go_ret
    exact ⟨ret_bool (by rw [VS.out, NB.out]; rfl), Bal BW.out _⟩
end Go.Proofs.YtfangplfbbgphaaGreatDoor
