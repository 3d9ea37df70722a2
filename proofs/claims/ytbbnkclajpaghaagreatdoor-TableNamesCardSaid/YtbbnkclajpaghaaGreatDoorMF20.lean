/- Several texts in one. -/
import Derived.OwnWalk
import Derived.Test.YtbbnkclajpaghaaGreatDoorMF03
import Derived.Test.YtbbnkclajpaghaaGreatDoorMF04
import Derived.Test.YtbbnkclajpaghaaGreatDoorMF19
set_option maxHeartbeats 16000000
set_option maxRecDepth 100000
set_option linter.unusedVariables false
set_option linter.unusedSimpArgs false
namespace Go.Proofs.YtbbnkclajpaghaaGreatDoor
section
open Go.ChangeShapes Go.WideShapes Go.ChangeAt Go.RowKit
attribute [local go_sem ↓] Go.wp_at_zero Go.wp_at_succ
def Rn (s : Nat) (R : List (List Vr)) : Prop := ∀ r ∈ R, r.length = s ∧ Srt vkey r
theorem Rn.len {s : Nat} {R : List (List Vr)} (h : Rn s R) : R.flatten.length = R.length * s := by
 induction R with
 | nil => simp
 | cons r R ih =>
  rw [List.flatten_cons, List.length_append, ih (fun x hx => h x (List.mem_cons_of_mem _ hx)), (h r (List.mem_cons_self ..)).1, List.length_cons, Nat.succ_mul]; omega
theorem Rn.snoc {s : Nat} {R : List (List Vr)} {r : List Vr} (h : Rn s R) (h1 : r.length = s) (h2 : Srt vkey r) : Rn s (R ++ [r]) := fun x hx => by
 rcases List.mem_append.1 hx with hx | hx
 ·exact h x hx
 ·rw [List.mem_singleton.1 hx]; exact ⟨h1, h2⟩
theorem fe_mid {A B C S xs : List Vr} (h : FE vkey xs (A ++ B ++ C)) (hs : FE vkey B S) : FE vkey xs (A ++ S ++ C) := h.trans (((FE.refl A).app hs).app (FE.refl C))
theorem fe_valid {xs ys : List Vr} (h : FE vkey xs ys) (hv : ∀ r ∈ xs, rowB r = true) : ∀ r ∈ ys, rowB r = true := fun r hr => hv r (h.mem.2 hr)
theorem runs_end {s n : Nat} {R : List (List Vr)} {L : List Vr} (h : Rn s R) (hL : Srt vkey L) (hn : (R.flatten ++ L).length = n) (hs : n ≤ s) (hs0 : 0 < s) : Srt vkey (R.flatten ++ L) := by
 rw [List.length_append, h.len] at hn
 match R, h, hn with
 | [], _, _ => simpa using hL
 | [r], h, hn =>
  have h0 : L = [] := List.length_eq_zero_iff.1 (by simp at hn; omega)
  rw [h0]
  simpa using (h r (by simp)).2
 | r :: r' :: R, _, hn =>
  exfalso
  simp only [List.length_cons, Nat.succ_mul] at hn
  omega
theorem stable_calls {g n c : Nat} {xs : List Vr} {w : World} (hn : xs.length = n) (hx : RW w g xs) (hnc : n ≤ c) (hc : c ≤ 9223372036854775807) (hb9 : n ≤ 100000) (hv : ∀ r ∈ xs, rowB r = true) :
  Calls Tryz.prog 72 #[.slice (some ⟨g, 0, none⟩) n c, .int .i64 n, CmpV] w fun e w' => (∃ v, e = .returned v) ∧ w.grownBy w' (some g) ∧ ∃ ys, RW w' g ys ∧ Srt vkey ys ∧ FE vkey xs ys := by
 have NN := zh (grown_refl w (some g))
 have HX := zh hx
 have HV := zh hv
 have HN := zh hn
 clear hx hv hn
 go_enter Tryz.func72, Tryz.ntmps72
 go_wp2_with fail
 go_loopw [7, 8] (fun p q wr => ∃ (D : List (List Vr)) (rest : List Vr) (a b : Nat), p = .int .i64 (a : Int) ∧ q = .int .i64 (b : Int) ∧ b = a + 20 ∧ D.flatten.length = a ∧ a + rest.length = n ∧ Hid (Rn 20 D) ∧ Hid (FE vkey xs (D.flatten ++ rest)) ∧ Hid (RW wr g (D.flatten ++ rest)) ∧ Hid (w.grownBy wr (some g))) (fun p _ _ => n - (intOf p).toNat)
 case atStart => exact ⟨[], xs, 0, 20, rfl, rfl, rfl, rfl, by rw [HN.out]; omega, zh (fun r hr => by cases hr), zh (FE.refl _), HX, NN⟩
 case round =>
  clear NN HX
  obtain ⟨D, rest, a, b, rfl, rfl, hba, hda, hrn, HD, HF, HR, NG⟩ := hrel
  by_cases hlt : b ≤ n
  ·have HBA := zh hba
   have HDA := zh hda
   have hb20 : IntKind.i64.wrap ((b : Int) + 20) = ((b + 20 : Nat) : Int) := by rw [IntWalk.i64_in _ (by omega)]; omega
   have hab : a < b := by omega
   clear hba hda
   go_wp2_with fail
   refine (ins_calls (a := a) (b := b) (n := n) (xs := D.flatten ++ rest) (by rw [List.length_append, HDA.out]; exact hrn) HR.out hnc hc (by omega) hlt hb9 (fe_valid HF.out HV.out)).mono ?_
   rintro e w1 ⟨⟨v1, rfl⟩, hg1, S, hr1, hs1, hf1, hl1⟩
   have E1 : (D.flatten ++ rest).take a = D.flatten := by rw [← HDA.out, List.take_left]
   have E2 : (D.flatten ++ rest).drop b = rest.drop 20 := by rw [HBA.out, ← HDA.out, ← List.drop_drop, List.drop_left]
   have E3 : ((D.flatten ++ rest).take b).drop a = rest.take 20 := by rw [List.drop_take, ← HDA.out, List.drop_left]; congr 1; have := HBA.out; have := HDA.out; omega
   rw [E1, E2] at hr1
   rw [E3] at hf1
   have HF1 := zh (fe_mid (A := D.flatten) (B := rest.take 20) (C := rest.drop 20) (by rw [List.append_assoc, List.take_append_drop]; exact HF.out) hf1)
   have HR1 := zh hr1
   have HD1 := zh (HD.out.snoc (r := S) (by rw [hl1]; have := HBA.out; omega) hs1)
   have HL1 : Hid (S.length = 20) := zh (by rw [hl1]; have := HBA.out; omega)
   replace NG := zh (grown_trans NG.out hg1)
   clear hr1 hs1 hf1 hl1 hg1 E1 E2 E3 HR HF
   go_wp2_with fail
   go_roundw
   case rel => exact ⟨D ++ [S], rest.drop 20, b, b + 20, rfl, by go_num, rfl, by have := HBA.out; have := HDA.out; have := HL1.out; simp only [List.flatten_append, List.flatten_cons, List.flatten_nil, List.append_nil, List.length_append]; omega, by have := HBA.out; rw [List.length_drop]; omega, HD1, zh (by have h := HF1.out; simpa using h), zh (by have h := HR1.out; simpa using h), NG⟩
   case measure => simp [intOf]; omega
  ·have HBA := zh hba
   have HDA := zh hda
   have han : a ≤ n := by omega
   clear hba hda
   go_wp2_with fail
   refine (ins_calls (a := a) (b := n) (n := n) (xs := D.flatten ++ rest) (by rw [List.length_append, HDA.out]; exact hrn) HR.out hnc hc han (Nat.le_refl _) hb9 (fe_valid HF.out HV.out)).mono ?_
   rintro e w1 ⟨⟨v1, rfl⟩, hg1, S, hr1, hs1, hf1, hl1⟩
   have hLn : (D.flatten ++ rest).length = n := by rw [List.length_append, HDA.out]; exact hrn
   have E1 : (D.flatten ++ rest).take a = D.flatten := by rw [← HDA.out, List.take_left]
   have E2 : (D.flatten ++ rest).drop n = [] := List.drop_eq_nil_of_le (by omega)
   have E3 : ((D.flatten ++ rest).take n).drop a = rest := by rw [List.take_of_length_le (by omega), ← HDA.out, List.drop_left]
   rw [E1, E2] at hr1
   rw [E3] at hf1
   have HF1 : Hid (FE vkey xs (D.flatten ++ S)) := zh (HF.out.trans ((FE.refl _).app hf1))
   have HR1 : Hid (RW w1 g (D.flatten ++ S)) := zh (by simpa using hr1)
   have HSS := zh hs1
   have HL1 : Hid (S.length < 20) := zh (by rw [hl1]; have := HBA.out; omega)
   have HLN : Hid ((D.flatten ++ S).length = n) := zh (by rw [List.length_append, HDA.out, hl1]; omega)
   replace NG := zh (grown_trans NG.out hg1)
   clear hr1 hs1 hf1 hl1 hg1 E1 E2 E3 HR HF hLn HBA HDA
   go_wp2_with fail
   go_loopw [6, 7, 8] (fun p _ _ wr => ∃ (R : List (List Vr)) (L : List Vr) (s : Nat), p = .int .i64 (s : Int) ∧ 0 < s ∧ s ≤ 200000 ∧ Hid (Rn s R) ∧ Hid (Srt vkey L) ∧ L.length < s ∧ (R.flatten ++ L).length = n ∧ Hid (FE vkey xs (R.flatten ++ L)) ∧ Hid (RW wr g (R.flatten ++ L)) ∧ Hid (w.grownBy wr (some g))) (fun p _ _ _ => n - (intOf p).toNat)
   case atStart => exact ⟨D, S, 20, rfl, by decide, by decide, HD, HSS, HL1.out, HLN.out, HF1, HR1, NG⟩
   case round =>
    clear HF1 HR1 HD HSS HL1 HLN NG
    obtain ⟨R, L, s, rfl, hs0, hs9, HD, HS, hls, hn9, HF, HR, NG⟩ := hrel
    by_cases hlt2 : s < n
    ·obtain ⟨s2, hs2⟩ : ∃ s2, 2 * s = s2 := ⟨_, rfl⟩
     have w2s : IntKind.i64.wrap (2 * (s : Int)) = (s2 : Int) := by rw [IntWalk.i64_in _ (by omega)]; omega
     have ws2 : IntKind.i64.wrap ((s : Int) * 2) = (s2 : Int) := by rw [IntWalk.i64_in _ (by omega)]; omega
     have hs2b : s2 ≤ 200000 := by omega
     have hs2p : s < s2 := by omega
     have HS2 := zh hs2
     have HN9 := zh hn9
     have HLS := zh hls
     clear hs2 hn9 hls
     obtain ⟨w5, hw5⟩ : ∃ z, z = wr := ⟨_, rfl⟩
     subst hw5
     go_wp2_with fail
     go_loopw [7, 8] (fun p q wr => ∃ (D2 R2 : List (List Vr)) (a b : Nat), p = .int .i64 (a : Int) ∧ q = .int .i64 (b : Int) ∧ b = a + s2 ∧ D2.flatten.length = a ∧ Hid (Rn s2 D2) ∧ Hid (Rn s R2) ∧ (D2.flatten ++ R2.flatten ++ L).length = n ∧ Hid (FE vkey xs (D2.flatten ++ R2.flatten ++ L)) ∧ Hid (RW wr g (D2.flatten ++ R2.flatten ++ L)) ∧ Hid (w.grownBy wr (some g))) (fun p _ _ => n - (intOf p).toNat)
     case atStart => exact ⟨[], R, 0, s2, rfl, rfl, by omega, rfl, zh (fun r hr => by cases hr), HD, by simpa using HN9.out, zh (by simpa using HF.out), zh (by simpa using HR.out), NG⟩
     case round =>
      clear HD HF HR NG HN9
      obtain ⟨D2, R2, a, b, rfl, rfl, hba, hda, HD2, HR2, hn2, HF, HR, NG⟩ := hrel
      have hrl := HR2.out.len
      have hnn : a + R2.length * s + L.length = n := by rw [List.length_append, List.length_append, hda, hrl] at hn2; exact hn2
      have hS2 := HS2.out
      have hLS := HLS.out
      by_cases hlt3 : b ≤ n
      ·obtain ⟨r1, r2, R3, rfl⟩ : ∃ r1 r2 R3, R2 = r1 :: r2 :: R3 := by match R2, hnn with | [], hnn => (exfalso; simp at hnn; omega) | [r], hnn => (exfalso; simp at hnn; omega) | r1 :: r2 :: R3, _ => exact ⟨r1, r2, R3, rfl⟩
       obtain ⟨h1l, h1s⟩ := HR2.out r1 (by simp)
       obtain ⟨h2l, h2s⟩ := HR2.out r2 (by simp)
       have HR3 : Hid (Rn s R3) := zh (fun r hr => HR2.out r (by simp [hr]))
       have wm : IntKind.i64.wrap ((a : Int) + (s : Int)) = ((a + s : Nat) : Int) := by rw [IntWalk.i64_in _ (by omega)]; omega
       have wb : IntKind.i64.wrap ((b : Int) + (s2 : Int)) = ((b + s2 : Nat) : Int) := by rw [IntWalk.i64_in _ (by omega)]; omega
       have EL : D2.flatten ++ (r1 :: r2 :: R3).flatten ++ L = D2.flatten ++ r1 ++ r2 ++ (R3.flatten ++ L) := by simp
       rw [EL] at hn2 HF HR
       obtain ⟨m, hm⟩ : ∃ m, a + s = m := ⟨_, rfl⟩
       rw [hm] at wm
       have HM := zh hm
       have H1 := zh (And.intro h1l h1s)
       have H2 := zh (And.intro h2l h2s)
       have hab : a < b := by omega
       have HBA := zh hba
       have HDA := zh hda
       have HN2 := zh hn2
       have HNN := zh hnn
       have HRL := zh hrl
       clear hm h1l h1s h2l h2s hba hda hn2 hnn hrl hS2 hLS EL HR2
       go_wp2_with fail
       refine (sym_calls (r1.length + r2.length) g n c a m b D2.flatten r1 r2 (R3.flatten ++ L) _ (Nat.le_refl _) HN2.out HR.out hnc hc hb9 HDA.out (by rw [H1.out.1]; exact HM.out) (by rw [H2.out.1]; have := HM.out; have := HBA.out; have := HS2.out; omega) (by rw [H1.out.1]; exact hs0) (by rw [H2.out.1]; exact hs0) (fun r hr => fe_valid HF.out HV.out r (List.mem_append_left _ (by rcases List.mem_append.1 hr with h | h; exact List.mem_append_left _ (List.mem_append_right _ h); exact List.mem_append_right _ h))) H1.out.2 H2.out.2).mono ?_
       rintro e w1 ⟨⟨v1, rfl⟩, hg1, S, hr1, hs1, hf1, hl1⟩
       have HF1 := zh (fe_mid (A := D2.flatten) (B := r1 ++ r2) (C := R3.flatten ++ L) (by have h := HF.out; simpa using h) hf1)
       have HR1 := zh hr1
       have HL1 : Hid (S.length = s2) := zh (by rw [hl1, List.length_append, H1.out.1, H2.out.1]; have := HS2.out; omega)
       have HD1 := zh (HD2.out.snoc (r := S) HL1.out hs1)
       replace NG := zh (grown_trans NG.out hg1)
       clear hr1 hs1 hf1 hl1 hg1 HR HF
       go_wp2_with fail
       go_roundw
       case rel => exact ⟨D2 ++ [S], R3, b, b + s2, rfl, by go_num, rfl, by have := HBA.out; have := HDA.out; have := HL1.out; simp only [List.flatten_append, List.flatten_cons, List.flatten_nil, List.append_nil, List.length_append]; omega, HD1, HR3, by have := HBA.out; have := HDA.out; have := HL1.out; have := HNN.out; have h3 := HR3.out.len; have := HS2.out; simp only [List.flatten_append, List.flatten_cons, List.flatten_nil, List.append_nil, List.length_append, List.length_cons, Nat.succ_mul] at *; omega, zh (by have h := HF1.out; simpa using h), zh (by have h := HR1.out; simpa using h), NG⟩
       case measure => simp [intOf]; omega
      ·have hR1 : R2 = [] ∨ ∃ r, R2 = [r] := by match R2, hnn with | [], _ => exact .inl rfl | [r], _ => exact .inr ⟨r, rfl⟩ | r1 :: r2 :: R3, hnn => (exfalso; simp only [List.length_cons, Nat.succ_mul] at hnn; omega)
       have wm : IntKind.i64.wrap ((a : Int) + (s : Int)) = ((a + s : Nat) : Int) := by rw [IntWalk.i64_in _ (by omega)]; omega
       obtain ⟨m, hm⟩ : ∃ m, a + s = m := ⟨_, rfl⟩
       rw [hm] at wm
       rcases hR1 with rfl | ⟨r1, rfl⟩
       ·have hmn : ¬ m < n := by simp at hnn; omega
        have HBA := zh hba
        have HDA := zh hda
        have HN2 := zh hn2
        have HNN := zh hnn
        have HRL := zh hrl
        clear hba hda hn2 hnn hrl hS2 hLS hm
        go_wp2_with fail
        go_roundw
        case rel => exact ⟨D2, L, s2, by go_num, by omega, hs2b, HD2, HS, by have := HLS.out; omega, by simpa using HN2.out, zh (by simpa using HF.out), zh (by simpa using HR.out), NG⟩
        case measure => simp [intOf]; omega
       ·obtain ⟨h1l, h1s⟩ := HR2.out r1 (by simp)
        have H1 := zh (And.intro h1l h1s)
        have HM := zh hm
        by_cases hmn : m < n
        ·have hl0 : 0 < L.length := by simp at hnn; omega
         have hmL : m + L.length = n := by simp at hnn; omega
         have HBA := zh hba
         have HDA := zh hda
         have HN2 := zh hn2
         have HNN := zh hnn
         have HRL := zh hrl
         have HML := zh (And.intro hl0 hmL)
         clear hba hda hn2 hnn hrl hS2 hLS hm h1l h1s hl0 hmL
         go_wp2_with fail
         refine (sym_calls (r1.length + L.length) g n c a m n D2.flatten r1 L [] _ (Nat.le_refl _) (by have h := HN2.out; simpa using h) (by have h := HR.out; simpa using h) hnc hc hb9 HDA.out (by rw [H1.out.1]; exact HM.out) HML.out.2 (by rw [H1.out.1]; exact hs0) HML.out.1 (fun r hr => fe_valid HF.out HV.out r (by rcases List.mem_append.1 hr with h | h; exact List.mem_append_left _ (List.mem_append_right _ (by simpa using h)); exact List.mem_append_right _ h)) H1.out.2 HS.out).mono ?_
         rintro e w1 ⟨⟨v1, rfl⟩, hg1, S, hr1, hs1, hf1, hl1⟩
         have HF1 := zh (fe_mid (A := D2.flatten) (B := r1 ++ L) (C := []) (by have h := HF.out; simpa using h) hf1)
         have HR1 := zh hr1
         have HSS := zh hs1
         have HL1 : Hid (S.length = s + L.length) := zh (by rw [hl1, List.length_append, H1.out.1])
         replace NG := zh (grown_trans NG.out hg1)
         clear hr1 hs1 hf1 hl1 hg1 HR HF
         go_wp2_with fail
         go_roundw
         case rel => exact ⟨D2, S, s2, by go_num, by omega, hs2b, HD2, HSS, by have := HLS.out; have := HL1.out; have := HS2.out; omega, by have := HDA.out; have := HL1.out; have := HML.out.2; have := HM.out; rw [List.length_append]; omega, zh (by have h := HF1.out; simpa using h), zh (by have h := HR1.out; simpa using h), NG⟩
         case measure => simp [intOf]; omega
        ·have hl0 : L = [] := List.length_eq_zero_iff.1 (by simp at hnn; omega)
         subst hl0
         have HBA := zh hba
         have HDA := zh hda
         have HN2 := zh hn2
         have HNN := zh hnn
         have HRL := zh hrl
         clear hba hda hn2 hnn hrl hS2 hLS hm h1l h1s
         go_wp2_with fail
         go_roundw
         case rel => exact ⟨D2, r1, s2, by go_num, by omega, hs2b, HD2, zh H1.out.2, by rw [H1.out.1]; omega, by have h := HN2.out; simpa using h, zh (by have h := HF.out; simpa using h), zh (by have h := HR.out; simpa using h), NG⟩
         case measure => simp [intOf]; omega
    ·have HE := zh (runs_end HD.out HS.out hn9 (by omega) hs0)
     clear hls hn9
     go_wp2_with fail
     go_end0
     exact ⟨⟨_, rfl⟩, NG.out, R.flatten ++ L, HR.out, HE.out, HF.out⟩
theorem sort_calls {g n c : Nat} {xs : List Vr} {w : World} (hn : xs.length = n) (hx : RW w g xs) (hnc : n ≤ c) (hc : c ≤ 9223372036854775807) (hb9 : n ≤ 100000) (hv : ∀ r ∈ xs, rowB r = true) :
  Calls Tryz.prog 41 #[.slice (some ⟨g, 0, none⟩) n c, CmpV] w fun e w' => (∃ v, e = .returned v) ∧ w.grownBy w' (some g) ∧ ∃ ys, RW w' g ys ∧ Srt vkey ys ∧ FE vkey xs ys := by
 have SC := zh (stable_calls hn hx hnc hc hb9 hv)
 clear hn hx hv
 go_enter Tryz.func41, Tryz.ntmps41
 go_wp2_with fail
 refine SC.out.mono ?_
 rintro e w1 ⟨⟨v1, rfl⟩, hg1, hy⟩
 have HG := zh hg1
 have HY := zh hy
 clear hg1 hy
 go_wp2_with fail
 go_end0
 exact ⟨⟨_, rfl⟩, HG.out, HY.out⟩
end
section
open Go Go.RowKit
section
variable {P : Program} {ops : Array Oper} {Q : Exit → Act → World → Prop} {md : Region.Mode}
def noDefer (ops : Array Oper) : Bool := ops.all fun o => match o.op with | .defer _ => false | _ => true
theorem noDefer_spec {ops : Array Oper} (h : noDefer ops = true) {i : Nat} {o : Oper} (ho : ops[i]? = some o) : ∀ c, o.op ≠ .defer c := by
 intro c hc
 have h1 := Array.all_eq_true_iff_forall_mem.1 h o (Array.mem_of_getElem? ho)
 rw [hc] at h1
 cases h1
theorem rows_wide {n : Nat} {row : String} {args : Array Value} {w : World} {R : Value → World → Prop} (h : Rows P row args w R) : RowsIn Fence.wide n P row args w R := fun c cs _ =>
 let ⟨v, w', r, s⟩ := h c cs; ⟨v, w', r, stepsIn_wide.2 s⟩
theorem wide_depth (lp : Nat) : (Fence.wide.inRound lp).depth.isSome = true → 1 ≤ 0 := fun h => by simp [Fence.wide] at h
theorem oper_in (lp : Nat) {o : Oper} {a : Act} {w : World} {K : Act → World → Prop} (hnd : ∀ c, o.op ≠ .defer c) (h : o.wp P a w K Q) : o.wpIn (Fence.wide.inRound lp) 0 P a w K Q := by
 unfold Oper.wp at h
 unfold Oper.wpIn
 refine ⟨fun _ _ => trivial, ?_⟩
 rw [Oper.semAt_plain _ _ _ hnd]
 generalize (execOp a.eval o).run P w = r at *
 cases r with
 | ok x w' =>
  cases x <;> simp only [Oper.upon] at h <;> simp only [Oper.uponIn]
  case value u => exact h
  case skip => exact h
  case defer d => exact h
  case enter f args => exact ⟨wide_depth lp, CallsIn.mono (CallsIn.inRound lp (callsIn_wide.2 h)) fun e w'' he => by cases e <;> exact he⟩
  case row row args => exact ⟨wide_depth lp, RowsIn.mono (F := Fence.wide.inRound lp) (rows_wide (n := 0) h) fun v w'' he => he⟩
 | halt x w' => cases x <;> simp only [Oper.upon] at h <;> simp only [Oper.uponIn] <;> exact h
theorem opAny_in (lp : Nat) (hnd : ∀ (i : Nat) (o : Oper), ops[i]? = some o → ∀ c, o.op ≠ .defer c) (hno : ¬ LetsOut Q) {i : Nat} {a : Act} {w : World} {K K' : Act → World → Prop} (hk : ∀ a w, K a w → K' a w) (h : wpOp P ops Q i K a w) : wpOpIn (Fence.wide.inRound lp) 0 P ops Q i K' a w := by
 unfold wpOp at h
 unfold wpOpIn
 split
 ·rename_i ho; simp only [ho] at h; exact hk _ _ h
 ·rename_i o ho
  simp only [ho] at h
  split
  ·rename_i hw
   simp only [hw, if_true] at h
   rcases h with h | ⟨_, h⟩
   ·exact Oper.wpIn_mono hk (oper_in lp (hnd i o ho) h)
   ·exact absurd h hno
  ·rename_i hw
   simp only [hw] at h
   exact ⟨fun _ _ => trivial, hk _ _ h⟩
theorem any_in (lp : Nat) (hnd : ∀ (i : Nat) (o : Oper), ops[i]? = some o → ∀ c, o.op ≠ .defer c) (hno : ¬ LetsOut Q) : ∀ (f : Nat) (done : Array Bool) (a : Act) (w : World), wpAny P md ops Q f done a w → wpAnyIn (Fence.wide.inRound lp) 0 P md ops Q f done a w
 | 0, _, _, _, h => h
 | f + 1, _, _, _, h => ⟨h.1, fun i hi => opAny_in lp hnd hno (fun a' w' h' => any_in lp hnd hno f _ a' w' h') (h.2 i hi)⟩
theorem region_G_round {S : Nat → World → Prop} {lp id : Nat} {a : Act} {w : World} (hnd : noDefer ops = true) (hm : P.follows .mixedOrders = true) (hno : ¬ LetsOut Q) (h : wpAnyG P .any ops Q S ops.size (Array.replicate ops.size false) a w.drew) : (Code.region id ops true).wpIn (Fence.wide.inRound lp) 0 P Q a w :=
 wpIn_region_any hm (any_in lp (fun _ _ ho => noDefer_spec hnd ho) hno _ _ _ _ (wpAny_of_G _ _ _ _ h))
end
end
section
open Go.ChangeShapes Go.WideShapes Go.ChangeAt Go.RowKit
def NP (Q : Exit → Act → World → Prop) : Exit → Act → World → Prop
 | .panic _, _, _ => False
 | e, a, w => Q e a w
theorem wp_np {P : Program} {c : Code} {Q : Exit → Act → World → Prop} {a : Act} {w : World} (h : c.wp P (NP Q) a w) : c.wp P Q a w := wp_mono h fun e a w q => by cases e <;> first | exact q | exact q.elim
theorem done_np {P : Program} {md : Region.Mode} {ops : Array Oper} {S : Nat → World → Prop} {Q : Exit → Act → World → Prop} {done : Array Bool} {a : Act} {w : World} (hr : Region.ready md ops done = []) (h : ∀ X : World, Below w.heap.size w X → Q .normal a X) : ∀ f, wpAnyG P md ops (NP Q) S f done a w :=
 done_G hr h
def Oth (T : TypeId) (w w' : World) : Prop := w.heap.size ≤ w'.heap.size ∧ ∀ (b : Nat) (ob : Obj), w.heap[b]? = some ob → (∀ cs f, ob ≠ Obj.cells cs T f) → w'.heap[b]? = some ob
theorem Oth.refl (T : TypeId) (w : World) : Oth T w w := ⟨Nat.le_refl _, fun _ _ h _ => h⟩
theorem Oth.trans {T : TypeId} {a b c : World} (h : Oth T a b) (h' : Oth T b c) : Oth T a c := ⟨Nat.le_trans h.1 h'.1, fun k ob hk hn => h'.2 k ob (h.2 k ob hk hn) hn⟩
theorem Oth.below {T : TypeId} {w w' : World} (h : Below w.heap.size w w') : Oth T w w' := ⟨h.size, fun _ _ hb _ => blk_next h hb⟩
theorem Oth.grow {T : TypeId} {w w' : World} {g : Nat} {cs : Array Value} {f : Nat × Nat} (h : w.heap[g]? = some (.cells cs T f)) (hg : w.grownBy w' (some g)) : Oth T w w' :=
 ⟨hg.size, fun b ob hb hn => (hg.block b (blk_lt hb) (by intro e; injection e with e; subst e; rw [h] at hb; injection hb with hb; exact hn cs f hb.symm)).trans hb⟩
theorem Oth.set {T : TypeId} {w : World} {b : Nat} {cs : Array Value} (h : w.heap[b]? = some (.cells cs T)) (off : Nat) (x : Value) : Oth T w (w.setCell ⟨b, off, none⟩ x) :=
 ⟨by simp, fun k ob hk hn => blk_set_other hk (fun e => by subst e; rw [h] at hk; injection hk with hk; exact hn cs (0, 0) hk.symm) off x⟩
theorem Oth.row {T : TypeId} {w : World} {b : Nat} {cs ds : Array Value} (h : w.heap[b]? = some (.cells cs T)) : Oth T w (w.setRow b ds) :=
 ⟨by simp, fun k ob hk hn => (setRow_other w b k ds (fun e => by subst e; rw [h] at hk; injection hk with hk; exact hn cs (0, 0) hk.symm)).trans hk⟩
theorem Oth.blk {T T' : TypeId} {w w' : World} {b : Nat} {cs : Array Value} (h : Oth T w w') (hb : w.heap[b]? = some (.cells cs T')) (hne : T' ≠ T) : w'.heap[b]? = some (.cells cs T') :=
 h.2 b _ hb fun c f e => by injection e with _ e _; exact hne e
theorem Oth.obj {T : TypeId} {w w' : World} {b : Nat} {ob : Obj} (h : Oth T w w') (hb : w.heap[b]? = some ob) (hc : ob.isCells = false) : w'.heap[b]? = some ob :=
 h.2 b _ hb fun c f e => by rw [e] at hc; cases hc
section
variable {α : Type}
def OG (T : TypeId) (sz : Nat) (f : α → List Value) (B : Nat) (w : World) (v : Value) (l : List α) : Prop := w.ownsRow B T sz v l.length (l.flatMap f)
variable {T : TypeId} {sz : Nat} {f : α → List Value} {B : Nat} {w w' : World} {v : Value} {l : List α}
theorem OG.nil (T : TypeId) (sz : Nat) (f : α → List Value) (B : Nat) (w : World) : OG T sz f B w (.slice none 0 0) [] := World.ownsRow_nil _ _ _ _
theorem OG.next (h : OG T sz f B w v l) (hb : Below w.heap.size w w') : OG T sz f B w' v l := by
 refine ⟨h.1, ?_⟩
 rcases h.2 with h2 | ⟨g, cap, cur, h1, h2, h3, h4⟩
 ·exact .inl h2
 ·exact .inr ⟨g, cap, cur, h1, h2, blk_next hb h3, h4⟩
theorem OG.oth {T' : TypeId} (h : OG T sz f B w v l) (ho : Oth T' w w') (hne : T ≠ T') : OG T sz f B w' v l := by
 refine ⟨h.1, ?_⟩
 rcases h.2 with h2 | ⟨g, cap, cur, h1, h2, h3, h4⟩
 ·exact .inl h2
 ·exact .inr ⟨g, cap, cur, h1, h2, ho.blk h3 hne, h4⟩
theorem OG.mono {B' : Nat} (h : OG T sz f B w v l) (hB : B' ≤ B) : OG T sz f B' w v l := by
 refine ⟨h.1, ?_⟩
 rcases h.2 with h2 | ⟨g, cap, cur, h1, h2, h3⟩
 ·exact .inl h2
 ·exact .inr ⟨g, cap, cur, h1, by omega, h3⟩
theorem OG.put (h : OG T sz f B w v l) {D : Nat} {o : Obj} (o' : Obj) (hD : w.heap[D]? = some o) (hc : o.isCells = false) : OG T sz f B (w.putObj D o') v l := ownsRow_putObj h _ hD hc
theorem OG.form (h : OG T sz f B w v l) : ∃ A cap, v = .slice A l.length cap ∧ l.length ≤ cap ∧ cap ≤ 9223372036854775807 ∧ Rd w sz A l.length (l.flatMap f) ∧ ∀ b off, A = some ⟨b, off, none⟩ → b < w.heap.size := by
 obtain ⟨A, cap, rfl, h1, h2, h3⟩ := Rd.of_own h
 refine ⟨A, cap, rfl, h1, h2, h3, fun b off e => ?_⟩
 rcases h.2 with ⟨h5, _⟩ | ⟨g, cap', cur, hv, _, hg, _⟩
 ·injection h5 with h6; rw [h6] at e; cases e
 ·injection hv with h6; rw [h6] at e; injection e with e; injection e with e1 _; rw [← e1]; exact blk_lt hg
theorem OG.grown (h : OG T sz f B w v l) (hg : w.grownBy w' v.ownBlock) (hB : B ≤ w.heap.size) : Below B w w' ∧ Oth T w w' := by
 constructor
 ·refine (Below.refl B w).grown hg hB fun k e => ?_
  rcases h.2 with ⟨h5, _⟩ | ⟨g, cap', cur, hv, hb, _⟩
  ·rw [h5] at e; cases e
  ·rw [hv] at e; simp [Value.ownBlock] at e; omega
 ·rcases h.2 with ⟨h5, _⟩ | ⟨g, cap', cur, hv, hb, h3, _⟩
  ·rw [h5] at hg
   exact ⟨hg.size, fun b ob hb _ => (hg.block b (blk_lt hb) (by intro e; cases e)).trans hb⟩
  ·rw [hv] at hg
   exact Oth.grow h3 hg
structure Ty (T S : TypeId) (sz : Nat) (f : α → List Value) : Prop where
 z : ∃ z bytes, (Tryz.prog.info? T).map (fun i => (i.zero, i.size, i.bytes)) = some (some z, sz, bytes) ∧ z.cells.size = sz ∧ bytes ≤ 1000
 und : Tryz.prog.underlying S = some (.slice T)
 pos : 0 < sz
 len : ∀ x, (f x).length = sz
 one : ∀ (l : List α), ∀ u ∈ l.flatMap f, u.oneCell' = true
theorem wpList_gapp {S : TypeId} (ty : Ty T S sz f) {ops : Array Oper} {rest : List Oper} {o : Oper} {a : Act} {Q : Exit → Act → World → Prop}
  (hg : o.guard = none) (s x : Operand) (hop : o.op = Op.call { callee := Callee.builtin Builtin.append, args := #[s, x], argTypes := #[S, S] })
  (B : Nat) (v : Value) (l : List α) (hs : a.eval s = v) (A : Option Addr) (m c : Nat) (l2 : List α) (hx : a.eval x = .slice A m c)
  (hown : OG T sz f B w v l) (hm : l2.length = m) (hr : Rd w sz A l2.length (l2.flatMap f)) (hb : l.length + m ≤ 100000) (hB : B ≤ w.heap.size)
  (hK : ∀ v' w', OG T sz f B w' v' (l ++ l2) → Below B w w' → Oth T w w' → wpList Tryz.prog ops Q rest (a.put o.dst v') w') : wpList Tryz.prog ops Q (o :: rest) a w := by
 subst hm
 obtain ⟨z, bytes, hz, hzs, hby⟩ := ty.z
 obtain ⟨i, hi, hzi, hsz, hbi⟩ := info_parts hz
 have hbb : (l.length + l2.length) * bytes ≤ 100000 * 1000 := Nat.mul_le_mul hb hby
 refine wpList_append_rd w hg s x S hop B T i z sz bytes ty.und hi hzi hsz hbi hzs ty.pos v l.length (l.flatMap f) hs hown A l2.length c (l2.flatMap f) hx hr (ty.one l2) (by simp [maxLen]; omega) (by omega) hB ?_
 intro v' w' r1 r2 r3
 obtain ⟨k1, k2⟩ := hown.grown r2 hB
 refine hK v' w' (by unfold OG; rw [List.length_append, List.flatMap_append]; exact r1) k1 k2
end
end
end Go.Proofs.YtbbnkclajpaghaaGreatDoor
