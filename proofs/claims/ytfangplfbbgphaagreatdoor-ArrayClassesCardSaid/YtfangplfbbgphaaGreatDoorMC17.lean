/- Several texts in one. -/
import Derived.BigQuiet
import Derived.Laws.OwnMore
import Derived.Deep.Slices
import Derived.Deep.Fields
import Derived.ChangeSame
import Derived.ChangeArms
import Derived.ChangeSlices
import Derived.Lib.SmallJoins
import Derived.Test.YtfangplfbbgphaaGreatDoorMC16
namespace Go.Proofs.YtfangplfbbgphaaGreatDoor
open Go.ChangeShapes Go.WideShapes Go.ChangeAt Go.RowKit
set_option linter.unusedVariables false
set_option maxRecDepth 100000
set_option linter.unusedSimpArgs false
attribute [local go_sem ↓] Go.wp_at_zero Go.wp_at_succ
attribute [local go_sem ↓] eqVe
theorem Rd.rec2 {w : World} {size n : Nat} {A : Option Addr} {α : Type} {f : α → List Value} {l : List α} (h : Rd w size A n (l.flatMap f)) (hn : l.length ≤ n) (hf : ∀ x, (f x).length = size) {i k : Nat} {x y : α} (hi : l[i]? = some x) (hk : l[k]? = some y) :
  ∃ b off, A = some ⟨b, off, none⟩ ∧ b < w.heap.size ∧ (∀ j u, (f x)[j]? = some u → w.cell? ⟨b, off + i * size + j, none⟩ = some u) ∧ (∀ j u, (f y)[j]? = some u → w.cell? ⟨b, off + k * size + j, none⟩ = some u) := by
 obtain ⟨b, off, e, hb, h1⟩ := Rd.rec_ h hn hf hi
 obtain ⟨b', off', e', _, h2⟩ := Rd.rec_ h hn hf hk
 rw [e] at e'
 injection e' with e'
 injection e' with e1 e2
 subst e1 e2
 exact ⟨b, off, e, hb, h1, h2⟩
theorem own_drewN {W : World} {B : Nat} {e : TypeId} {sz n : Nat} {v : Value} {xs : List Value} (h : W.ownsRow B e sz v n xs) (k : Nat) : (W.drewN k).ownsRow B e sz v n xs := own_next (below_drewN (Below.refl _ _) k) h
set_option maxRecDepth 100000 in
set_option maxHeartbeats 16000000 in
theorem rcheck_calls {A B : Int} {a : Option Addr} {c : Nat} {l : List St} {w : World} (hl : RSt w a l) (hc : l.length ≤ c) (hc' : c ≤ 9223372036854775807) (hn : ∀ x ∈ l, x.nm.size ≤ 9223372036854775807) : Calls Tryz.prog 34 #[Gv A B, .slice a l.length c] w fun e w' => e = .returned (.int .i64 (plE A B l)) ∧ Below w.heap.size w w' := by
 have NN := Lib.hid (Below.refl w.heap.size w)
 have GC := Lib.hid (fun W => refgcheck_calls A B W)
 have HL := Lib.hid hl
 have HN := Lib.hid hn
 have PE : Hid (plE A B l = if errG A B ≠ 0 then errG A B else if stsE l ≠ 0 then stsE l else if dupB (pls A B l) then 14 else 0) := Lib.hid rfl
 generalize plE A B l = pe at *
 clear hl hn
 by_cases hg : errG A B ≠ 0
 ·rw [if_pos hg] at PE
  have q1 : (errG A B != 0) = true := by simpa using hg
  generalize errG A B = eg at *
  clear hg
  go_enter Tryz.func34, Tryz.ntmps34
  go_wp2_with fail
  have G : Hid ((w.alloc (.cells #[.int .i64 A, .int .i64 B] 23)).heap[w.heap.size]? = some (.cells #[.int .i64 A, .int .i64 B] 23)) := Lib.hid (blk_new w _)
  replace NN : Hid (Below w.heap.size w (w.alloc (.cells #[.int .i64 A, .int .i64 B] 23))) := Lib.hid (Bal NN.out _)
  generalize (w.alloc (.cells #[.int .i64 A, .int .i64 B] 23)) = W1 at *
  refine (GC.out _).mono ?_
  rintro e w2 ⟨rfl, hb⟩
  replace NN := Lib.hid (Bgo NN.out hb)
  replace G := Lib.hid (blk_next hb G.out)
  clear hb
  have c_G_0 := blk_cell G.out 0 _ rfl
  have f_G_0 := blk_frozen G.out 0
  have c_G_1 := blk_cell G.out 1 _ rfl
  have f_G_1 := blk_frozen G.out 1
  have l_G := blk_lt G.out
  go_wp2_with fail
  refine (GC.out _).mono ?_
  rintro e w3 ⟨rfl, hb⟩
  clear c_G_0 f_G_0 c_G_1 f_G_1 l_G
  replace NN := Lib.hid (Bgo NN.out hb)
  replace G := Lib.hid (blk_next hb G.out)
  clear hb
  go_wp2_with fail
  go_ret
  exact ⟨ret_int PE.out.symm, NN.out⟩
 rw [if_neg hg] at PE
 have hg0 : errG A B = 0 := by omega
 rw [hg0] at GC
 have HG := Lib.hid hg0
 clear hg hg0
 by_cases h8 : 8 < l.length
 ·have HP : Hid (pe = 4) := Lib.hid (by rw [PE.out, show stsE l = 4 by unfold stsE; rw [if_pos h8]]; rfl)
  clear PE
  go_enter Tryz.func34, Tryz.ntmps34
  go_wp2_with fail
  have G : Hid ((w.alloc (.cells #[.int .i64 A, .int .i64 B] 23)).heap[w.heap.size]? = some (.cells #[.int .i64 A, .int .i64 B] 23)) := Lib.hid (blk_new w _)
  replace NN : Hid (Below w.heap.size w (w.alloc (.cells #[.int .i64 A, .int .i64 B] 23))) := Lib.hid (Bal NN.out _)
  generalize (w.alloc (.cells #[.int .i64 A, .int .i64 B] 23)) = W1 at *
  refine (GC.out _).mono ?_
  rintro e w2 ⟨rfl, hb⟩
  replace NN := Lib.hid (Bgo NN.out hb)
  replace G := Lib.hid (blk_next hb G.out)
  clear hb
  go_wp2_with fail
  go_ret
  exact ⟨ret_int HP.out.symm, NN.out⟩
 have YES : Hid ((∀ (j : Nat) (y : St), j < l.length → l[j]? = some y → valS y = true) → stsE l = 0) := Lib.hid (fun h => by unfold stsE; rw [if_neg h8, if_pos (all_get h)])
 have NO : Hid (∀ (k : Nat) (x : St), l[k]? = some x → valS x = false → pe = 8) := Lib.hid (fun k x h h' => by rw [PE.out, show stsE l = 8 by unfold stsE; rw [if_neg h8, if_neg (by rw [all_not h h']; simp)]]; rfl)
 have H8 := Lib.hid h8
 go_enter Tryz.func34, Tryz.ntmps34
 go_wp2_with fail
 have G : Hid ((w.alloc (.cells #[.int .i64 A, .int .i64 B] 23)).heap[w.heap.size]? = some (.cells #[.int .i64 A, .int .i64 B] 23)) := Lib.hid (blk_new w _)
 replace NN : Hid (Below w.heap.size w (w.alloc (.cells #[.int .i64 A, .int .i64 B] 23))) := Lib.hid (Bal NN.out _)
 generalize (w.alloc (.cells #[.int .i64 A, .int .i64 B] 23)) = W1 at *
 refine (GC.out _).mono ?_
 rintro e w2 ⟨rfl, hb⟩
 replace NN := Lib.hid (Bgo NN.out hb)
 replace G := Lib.hid (blk_next hb G.out)
 clear hb
 go_wp2_with fail
 go_loopw [5] (fun i wr => ∃ k : Nat, k ≤ l.length ∧ i = .int .i64 k ∧ Hid (Below w.heap.size w wr) ∧ Hid (wr.heap[w.heap.size]? = some (.cells #[.int .i64 A, .int .i64 B] 23)) ∧ Hid (∀ (j : Nat) (y : St), j < k → l[j]? = some y → valS y = true)) (fun i _ => l.length - (intOf i).toNat)
 case atStart => exact ⟨0, by omega, rfl, NN, G, Lib.hid (by omega)⟩
 case round =>
  clear NN G
  obtain ⟨k, hk, rfl, NN, G, GD⟩ := hrel
  by_cases hlt : k < l.length
  ·obtain ⟨x, hx⟩ := get_some hlt
   obtain ⟨b, off, e, hb, hc0⟩ := Rd.rec_ HL.out (Nat.le_refl _) st5_len hx
   subst e
   have c0 := (NN.out.cell (p := ⟨b, off + k * 5, none⟩) hb).trans (hc0 0 _ rfl)
   have c1 := (NN.out.cell (p := ⟨b, off + k * 5 + 1, none⟩) hb).trans (hc0 1 _ rfl)
   have c2 := (NN.out.cell (p := ⟨b, off + k * 5 + 2, none⟩) hb).trans (hc0 2 _ rfl)
   have c3 := (NN.out.cell (p := ⟨b, off + k * 5 + 3, none⟩) hb).trans (hc0 3 _ rfl)
   have c4 := (NN.out.cell (p := ⟨b, off + k * 5 + 4, none⟩) hb).trans (hc0 4 _ rfl)
   have hbr : b < wr.heap.size := Nat.lt_of_lt_of_le hb NN.out.size
   have HX := Lib.hid hx
   have kk : k + 1 ≤ l.length := hlt
   have CV := Lib.hid (fun W => refValid_calls x W (HN.out x (List.mem_of_getElem? hx)))
   clear hc0 hx hb
   go_wp2_with fail
   refine (CV.out _).mono ?_
   rintro e w3 ⟨rfl, hb⟩
   replace NN := Lib.hid (Bgo NN.out hb)
   replace G := Lib.hid (blk_next hb G.out)
   clear hb
   clear hbr c0 c1 c2 c3 c4
   cases hp : valS x
   ·have FV := Lib.hid (NO.out k x HX.out hp)
    clear GD YES NO HX hp
    go_wp2_with fail
    go_ret
    exact ⟨ret_int FV.out.symm, NN.out⟩
   ·have G2 := Lib.hid (take_all HX.out GD.out hp)
    clear GD YES NO HX hp
    go_wp2_with fail
    go_roundw
    case rel => exact ⟨k + 1, kk, by go_num, NN, G, G2⟩
    case measure => simp [intOf]; omega
  ·obtain rfl : k = l.length := by omega
   have S0 := Lib.hid (YES.out GD.out)
   have HV := Lib.hid (stsE_ok S0.out).2
   clear GD YES NO hk hlt
   rw [S0.out, if_neg (by simp)] at PE
   have CA := Lib.hid (fun (W : World) (hb : Below w.heap.size w W) => all_calls (A := A) (B := B) (w := W) (HL.out.next hb) hc hc' HG.out HV.out (by have := H8.out; omega))
   have c_G_0 := blk_cell G.out 0 _ rfl
   have f_G_0 := blk_frozen G.out 0
   have c_G_1 := blk_cell G.out 1 _ rfl
   have f_G_1 := blk_frozen G.out 1
   have l_G := blk_lt G.out
   go_wp2_with fail
   clear c_G_0 f_G_0 c_G_1 f_G_1 l_G
   refine (CA.out _ NN.out).mono ?_
   rintro e w4 ⟨v, rfl, ov, hb⟩
   replace NN := Lib.hid (Bgo NN.out hb)
   replace G := Lib.hid (blk_next hb G.out)
   clear hb
   have OV := Lib.hid ov
   clear ov
   go_wp2_with fail
   obtain ⟨BO, OV⟩ : ∃ BO, Hid (OVe BO w4 v (l.map (plV A B))) := ⟨_, OV⟩
   go_loopw [7] (fun i wr => ∃ i' : Nat, i' ≤ l.length ∧ i = .int .i64 i' ∧ Hid (Below w.heap.size w wr) ∧ Hid (OVe BO wr v (l.map (plV A B))) ∧ Hid (∀ s t p q, t < s → s < i' → (pls A B l)[s]? = some p → (pls A B l)[t]? = some q → dupP q p = false)) (fun i _ => l.length - (intOf i).toNat)
   case atStart => exact ⟨0, by omega, rfl, NN, OV, Lib.hid (by omega)⟩
   case round =>
    skip
    clear NN OV G
    obtain ⟨i, hi, rfl, NN, OV, GD⟩ := hrel
    by_cases hlt : i < l.length
    ·obtain ⟨s, hs⟩ := get_some hlt
     have HS := Lib.hid hs
     have HP := Lib.hid (pls_get (A := A) (B := B) hs)
     have kk : i + 1 ≤ l.length := hlt
     have hltc : (i : Int) < (l.length : Int) := by omega
     have HLT := Lib.hid hlt
     clear hs hlt
     go_wp2_with fail
     go_loopw [8] (fun i9 wr => ∃ k : Nat, k ≤ i ∧ i9 = .int .i64 k ∧ Hid (Below w.heap.size w wr) ∧ Hid (OVe BO wr v (l.map (plV A B))) ∧ Hid (∀ t q, t < k → (pls A B l)[t]? = some q → dupP q (s, plV A B s) = false)) (fun i9 _ => i - (intOf i9).toNat)
     case atStart => exact ⟨0, by omega, rfl, NN, OV, Lib.hid (by omega)⟩
     case round =>
      clear NN OV
      obtain ⟨k, hk, rfl, NN, OV, GK9⟩ := hrel
      by_cases hlt : k < i
      ·obtain ⟨t, ht⟩ := get_some (show k < l.length by have := HLT.out; omega)
       have HQ := Lib.hid (pls_get (A := A) (B := B) ht)
       obtain ⟨b, off, e, hb, h1, h2⟩ := Rd.rec2 HL.out (Nat.le_refl _) st5_len HS.out ht
       subst e
       have ci0 := (NN.out.cell (p := ⟨b, off + i * 5, none⟩) hb).trans (h1 0 _ rfl)
       have ck0 := (NN.out.cell (p := ⟨b, off + k * 5, none⟩) hb).trans (h2 0 _ rfl)
       have hbr : b < wr.heap.size := Nat.lt_of_lt_of_le hb NN.out.size
       obtain ⟨A1, c1, hv1, hn1, hc1, hr1⟩ := Rd.of_own OV.out
       rw [List.length_map] at hv1 hn1 hr1
       subst hv1
       obtain ⟨b2, off2, e2, hb2, h3, h4⟩ := Rd.rec2 hr1 (by simp) v6_len (show (l.map (plV A B))[i]? = some (plV A B s) by rw [List.getElem?_map, HS.out]; rfl) (show (l.map (plV A B))[k]? = some (plV A B t) by rw [List.getElem?_map, ht]; rfl)
       subst e2
       have vi0 := h3 0 _ rfl
       have vi1 := h3 1 _ rfl
       have vi2 := h3 2 _ rfl
       have vi3 := h3 3 _ rfl
       have vi4 := h3 4 _ rfl
       have vi5 := h3 5 _ rfl
       have vk0 := h4 0 _ rfl
       have vk1 := h4 1 _ rfl
       have vk2 := h4 2 _ rfl
       have vk3 := h4 3 _ rfl
       have vk4 := h4 4 _ rfl
       have vk5 := h4 5 _ rfl
       simp only [Nat.add_zero] at vi0 vk0
       have HK := Lib.hid hlt
       have kn1 : k + 1 ≤ i := hlt
       have kn2 : (k : Int) < (i : Int) := by omega
       have kn3 : (k : Int) < (l.length : Int) := by have := HLT.out; omega
       have kn4 : (0 : Int) ≤ (k : Int) := by omega
       have kn5 : (0 : Int) ≤ (i : Int) := by omega
       clear h1 h2 h3 h4 hr1 ht hlt hb
       generalize plV A B s = sv at *
       generalize plV A B t = tv at *
       cases hnm : (s.nm.toList == t.nm.toList)
       ·cases hve : decide (sv = tv)
        ·have HD : Hid (dupP (s, sv) (t, tv) = false) := Lib.hid (by unfold dupP; rw [hnm, hve]; rfl)
         go_wp2_with fail
         go_quiet (fail)
         clear ci0 ck0 hbr vi0 vk0 vi1 vk1 vi2 vk2 vi3 vk3 vi4 vk4 vi5 vk5 kn2 kn3 kn4 kn5 hb2
         replace NN := Lib.hid (below_drewN NN.out nq)
         replace OV := Lib.hid (own_drewN OV.out nq)
         have G2 : Hid (∀ t' q, t' < k + 1 → (pls A B l)[t']? = some q → dupP q (s, sv) = false) := Lib.hid (fun t' q ht' hq => by
          by_cases e : t' = k
          ·subst e; rw [HQ.out] at hq; cases hq; rw [dupP_comm]; exact HD.out
          ·exact GK9.out t' q (by omega) hq)
         clear GK9
         go_wp2_with fail
         go_roundw
         case rel => exact ⟨k + 1, kn1, by go_num, NN, OV, G2⟩
         case measure => simp [intOf]; omega
        ·have HD : Hid (dupP (s, sv) (t, tv) = true) := Lib.hid (by unfold dupP; rw [hnm, hve]; rfl)
         go_wp2_with fail
         go_quiet (fail)
         clear ci0 ck0 hbr vi0 vk0 vi1 vk1 vi2 vk2 vi3 vk3 vi4 vk4 vi5 vk5 kn2 kn3 kn4 kn5 hb2
         replace NN := Lib.hid (below_drewN NN.out nq)
         replace OV := Lib.hid (own_drewN OV.out nq)
         have HP9 : Hid (pe = 14) := Lib.hid (by rw [PE.out, if_pos (dupB_iff.2 ⟨k, i, _, _, HK.out, HQ.out, HP.out, by rw [dupP_comm]; exact HD.out⟩)])
         clear PE GD GK9
         go_wp2_with fail
         go_ret
         exact ⟨ret_int HP9.out.symm, NN.out⟩
       ·have HD : Hid (dupP (s, sv) (t, tv) = true) := Lib.hid (by unfold dupP; rw [hnm]; rfl)
        go_wp2_with fail
        go_quiet (fail)
        clear ci0 ck0 hbr vi0 vk0 vi1 vk1 vi2 vk2 vi3 vk3 vi4 vk4 vi5 vk5 kn2 kn3 kn4 kn5 hb2
        replace NN := Lib.hid (below_drewN NN.out nq)
        replace OV := Lib.hid (own_drewN OV.out nq)
        have HP9 : Hid (pe = 14) := Lib.hid (by rw [PE.out, if_pos (dupB_iff.2 ⟨k, i, _, _, HK.out, HQ.out, HP.out, by rw [dupP_comm]; exact HD.out⟩)])
        clear PE GD GK9
        go_wp2_with fail
        go_ret
        exact ⟨ret_int HP9.out.symm, NN.out⟩
      ·obtain rfl : k = i := by omega
       have G2 : Hid (∀ s t p q, t < s → s < (k + 1) → (pls A B l)[s]? = some p → (pls A B l)[t]? = some q → dupP q p = false) := Lib.hid (fun s' t' p q h1 h2 h3 h4 => by
        by_cases e : s' = k
        ·subst e; rw [HP.out] at h3; cases h3; exact GK9.out t' q h1 h4
        ·exact GD.out s' t' p q h1 (by omega) h3 h4)
       clear GK9 GD
       go_wp2_with fail
       go_roundw
       case rel => exact ⟨k + 1, kk, by go_num, NN, OV, G2⟩
       case measure => have := HLT.out; simp [intOf]; omega
    ·obtain rfl : i = l.length := by omega
     have HD : dupB (pls A B l) = false := by
      cases hd : dupB (pls A B l)
      ·rfl
      ·obtain ⟨i, j, p, q, h1, h2, h3, h4⟩ := dupB_iff.1 hd
       have h5 := GD.out j i q p h1 (by have := get_lt h3; unfold pls at this; simpa using this) h3 h2
       rw [h4] at h5; cases h5
     have HP9 : Hid (pe = 0) := Lib.hid (by rw [PE.out, HD]; rfl)
     clear PE GD HD
     go_wp2_with fail
     go_ret
     exact ⟨ret_int HP9.out.symm, NN.out⟩
end Go.Proofs.YtfangplfbbgphaaGreatDoor
namespace Go.Proofs.YtfangplfbbgphaaGreatDoor
open Go.ChangeShapes Go.WideShapes Go.ChangeAt Go.RowKit
set_option linter.unusedVariables false
set_option maxRecDepth 100000
set_option linter.unusedSimpArgs false
attribute [local go_sem ↓] Go.wp_at_zero Go.wp_at_succ
theorem eqVe_self (a : V6) (w : World) : (Op.equalIn 10000 38 (Vv a) (Vv a)).run Tryz.prog w = .ok true w := by
 rw [eqVe]; simp
theorem eqSt_self (a : St) (w : World) : (Op.equalIn 10000 69 (Sv a) (Sv a)).run Tryz.prog w = .ok true w := by
 obtain ⟨a1, a2, a3, a4, a5⟩ := a
 have uu := Tryz.underlying2
 have ua := Tryz.isAgg2
 have uz := Tryz.sizeOf2
 have su := Tryz.underlying9
 have sa := Tryz.isAgg9
 have sz := Tryz.sizeOf9
 have fu := Tryz.underlying36
 rw [show (10000 : Nat) = 9999 + 1 from rfl, Op.equalIn]
 simp only [Sem.run_bind, run_underlying Tryz.underlying69, Result.andThen_ok]
 go_simp
theorem eqPr_self (a b : Int) (w : World) : (Op.equalIn 10000 43 (.agg #[.int .i64 a, .int .i64 b]) (.agg #[.int .i64 a, .int .i64 b])).run Tryz.prog w = .ok true w := by
 have uu := Tryz.underlying3
 have ua := Tryz.isAgg3
 have uz := Tryz.sizeOf3
 rw [show (10000 : Nat) = 9999 + 1 from rfl, Op.equalIn]
 simp only [Sem.run_bind, run_underlying Tryz.underlying43, Result.andThen_ok]
 go_simp
attribute [local go_sem ↓] eqVe_self eqSt_self eqPr_self
set_option maxRecDepth 100000 in
set_option maxHeartbeats 4000000 in
theorem sameV_calls (A A' : Option Addr) (c c' : Nat) (l : List V6) (w : World) (h : Rd w 6 A l.length (l.flatMap v6)) (h' : Rd w 6 A' l.length (l.flatMap v6)) (hc : l.length ≤ c) (hc1 : c ≤ 9223372036854775807) (hc' : l.length ≤ c') (hc1' : c' ≤ 9223372036854775807) :
  Calls Tryz.prog 35 #[.slice A l.length c, .slice A' l.length c'] w fun e w' => e = .returned (.bool true) ∧ Below w.heap.size w w' := by
 have H1 := Lib.hid h
 have H2 := Lib.hid h'
 clear h h'
 go_enter Tryz.func35, Tryz.ntmps35
 go_wp2_with fail
 go_loopw [5] (fun i wr => ∃ k : Nat, k ≤ l.length ∧ i = .int .i64 k ∧ Hid (Below w.heap.size w wr)) (fun i _ => l.length - (intOf i).toNat)
 case atStart => exact ⟨0, by omega, rfl, Lib.hid (Below.refl _ _)⟩
 case round =>
  obtain ⟨k, hk, rfl, NN⟩ := hrel
  by_cases hlt : k < l.length
  ·obtain ⟨x, hx⟩ := get_some hlt
   obtain ⟨b, off, e, hb, hc0⟩ := Rd.rec_ H1.out (Nat.le_refl _) v6_len hx
   obtain ⟨b', off', e', hb', hc0'⟩ := Rd.rec_ H2.out (Nat.le_refl _) v6_len hx
   subst e e'
   have c0 := (NN.out.cell (p := ⟨b, off + k * 6, none⟩) hb).trans (hc0 0 _ rfl)
   have d0 := (NN.out.cell (p := ⟨b', off' + k * 6, none⟩) hb').trans (hc0' 0 _ rfl)
   have c1 := (NN.out.cell (p := ⟨b, off + k * 6 + 1, none⟩) hb).trans (hc0 1 _ rfl)
   have d1 := (NN.out.cell (p := ⟨b', off' + k * 6 + 1, none⟩) hb').trans (hc0' 1 _ rfl)
   have c2 := (NN.out.cell (p := ⟨b, off + k * 6 + 2, none⟩) hb).trans (hc0 2 _ rfl)
   have d2 := (NN.out.cell (p := ⟨b', off' + k * 6 + 2, none⟩) hb').trans (hc0' 2 _ rfl)
   have c3 := (NN.out.cell (p := ⟨b, off + k * 6 + 3, none⟩) hb).trans (hc0 3 _ rfl)
   have d3 := (NN.out.cell (p := ⟨b', off' + k * 6 + 3, none⟩) hb').trans (hc0' 3 _ rfl)
   have c4 := (NN.out.cell (p := ⟨b, off + k * 6 + 4, none⟩) hb).trans (hc0 4 _ rfl)
   have d4 := (NN.out.cell (p := ⟨b', off' + k * 6 + 4, none⟩) hb').trans (hc0' 4 _ rfl)
   have c5 := (NN.out.cell (p := ⟨b, off + k * 6 + 5, none⟩) hb).trans (hc0 5 _ rfl)
   have d5 := (NN.out.cell (p := ⟨b', off' + k * 6 + 5, none⟩) hb').trans (hc0' 5 _ rfl)
   have hbr : b < wr.heap.size := Nat.lt_of_lt_of_le hb NN.out.size
   have hbr' : b' < wr.heap.size := Nat.lt_of_lt_of_le hb' NN.out.size
   have kk : k + 1 ≤ l.length := hlt
   have k1 : (k : Int) < (l.length : Int) := by omega
   clear hc0 hc0' hx hlt hb hb'
   go_wp2_with fail
   go_quiet (fail)
   replace NN := Lib.hid (below_drewN NN.out nq)
   clear c0 d0 c1 d1 c2 d2 c3 d3 c4 d4 c5 d5
   go_wp2_with fail
   go_roundw
   case rel => exact ⟨k + 1, kk, by go_num, NN⟩
   case measure => simp [intOf]; omega
  ·obtain rfl : k = l.length := by omega
   go_wp2_with fail
   go_ret
   exact ⟨rfl, NN.out⟩
set_option maxRecDepth 100000 in
set_option maxHeartbeats 4000000 in
theorem sameP_calls (A A' : Option Addr) (c c' : Nat) (l : List (Nat × Nat)) (w : World) (h : Rd w 2 A l.length (l.flatMap pr2)) (h' : Rd w 2 A' l.length (l.flatMap pr2)) (hc : l.length ≤ c) (hc1 : c ≤ 9223372036854775807) (hc' : l.length ≤ c') (hc1' : c' ≤ 9223372036854775807) :
  Calls Tryz.prog 32 #[.slice A l.length c, .slice A' l.length c'] w fun e w' => e = .returned (.bool true) ∧ Below w.heap.size w w' := by
 have H1 := Lib.hid h
 have H2 := Lib.hid h'
 clear h h'
 go_enter Tryz.func32, Tryz.ntmps32
 go_wp2_with fail
 go_loopw [5] (fun i wr => ∃ k : Nat, k ≤ l.length ∧ i = .int .i64 k ∧ Hid (Below w.heap.size w wr)) (fun i _ => l.length - (intOf i).toNat)
 case atStart => exact ⟨0, by omega, rfl, Lib.hid (Below.refl _ _)⟩
 case round =>
  obtain ⟨k, hk, rfl, NN⟩ := hrel
  by_cases hlt : k < l.length
  ·obtain ⟨x, hx⟩ := get_some hlt
   obtain ⟨b, off, e, hb, hc0⟩ := Rd.rec_ H1.out (Nat.le_refl _) pr2_len hx
   obtain ⟨b', off', e', hb', hc0'⟩ := Rd.rec_ H2.out (Nat.le_refl _) pr2_len hx
   subst e e'
   have c0 := (NN.out.cell (p := ⟨b, off + k * 2, none⟩) hb).trans (hc0 0 _ rfl)
   have d0 := (NN.out.cell (p := ⟨b', off' + k * 2, none⟩) hb').trans (hc0' 0 _ rfl)
   have c1 := (NN.out.cell (p := ⟨b, off + k * 2 + 1, none⟩) hb).trans (hc0 1 _ rfl)
   have d1 := (NN.out.cell (p := ⟨b', off' + k * 2 + 1, none⟩) hb').trans (hc0' 1 _ rfl)
   have hbr : b < wr.heap.size := Nat.lt_of_lt_of_le hb NN.out.size
   have hbr' : b' < wr.heap.size := Nat.lt_of_lt_of_le hb' NN.out.size
   have kk : k + 1 ≤ l.length := hlt
   have k1 : (k : Int) < (l.length : Int) := by omega
   clear hc0 hc0' hx hlt hb hb'
   go_wp2_with fail
   go_quiet (fail)
   replace NN := Lib.hid (below_drewN NN.out nq)
   clear c0 d0 c1 d1
   go_wp2_with fail
   go_roundw
   case rel => exact ⟨k + 1, kk, by go_num, NN⟩
   case measure => simp [intOf]; omega
  ·obtain rfl : k = l.length := by omega
   go_wp2_with fail
   go_ret
   exact ⟨rfl, NN.out⟩
end Go.Proofs.YtfangplfbbgphaaGreatDoor
namespace Go.Proofs.YtfangplfbbgphaaGreatDoor
open Go.ChangeShapes Go.WideShapes Go.ChangeAt Go.RowKit
set_option linter.unusedVariables false
set_option maxRecDepth 100000
set_option linter.unusedSimpArgs false
attribute [local go_sem ↓] Go.wp_at_zero Go.wp_at_succ
def zS : St := ⟨⟨#[]⟩, 0, 0, 0, 0⟩
theorem und_sites : Tryz.prog.underlying 24 = some (.slice 69) := by kernel_rfl
end Go.Proofs.YtfangplfbbgphaaGreatDoor
namespace Go.Proofs.YtfangplfbbgphaaGreatDoor
open Go.ChangeShapes Go.WideShapes Go.ChangeAt Go.RowKit
set_option linter.unusedVariables false
set_option maxRecDepth 100000
set_option linter.unusedSimpArgs false
attribute [local go_sem ↓] Go.wp_at_zero Go.wp_at_succ
attribute [local go_sem] Oper.semAt_some
theorem infoR : (Tryz.prog.info? 43).map (fun i => (i.zero, i.size, i.bytes)) = some (some (.agg #[.int .i64 0, .int .i64 0]), 2, 16) := by kernel_rfl
theorem und_prs : Tryz.prog.underlying 31 = some (.slice 43) := by kernel_rfl
abbrev OPr (B : Nat) (w : World) (v : Value) (l : List (Nat × Nat)) : Prop := w.ownsRow B 43 2 v l.length (l.flatMap pr2)
theorem opr_nil (B : Nat) (w : World) : w.ownsRow B 43 2 (.slice none 0 0) 0 [] := World.ownsRow_nil _ _ _ _
theorem prs_take {n k : Nat} {p : Nat × Nat} (h : (prs n)[k]? = some p) : (prs n).take (k + 1) = (prs n).take k ++ [p] := by
 have hlt := get_lt h
 rw [List.take_succ_eq_append_getElem hlt]
 rw [List.getElem?_eq_getElem hlt] at h
 rw [Option.some.inj h]
theorem prs_len8 {n : Nat} (h : n < 9) : (prs n).length ≤ 28 := by
 have hn : n = 0 ∨ n = 1 ∨ n = 2 ∨ n = 3 ∨ n = 4 ∨ n = 5 ∨ n = 6 ∨ n = 7 ∨ n = 8 := by omega
 rcases hn with rfl | rfl | rfl | rfl | rfl | rfl | rfl | rfl | rfl <;> decide
theorem own_keeps {B : Nat} {w w' : World} {e : TypeId} {sz n : Nat} {v : Value} {xs : List Value} (h : w.ownsRow B e sz v n xs) (hg : w.grownBy w' v.ownBlock) : KeepsOthers w w' := by
 refine KeepsOthers.of_grownBy hg fun j o e hj => ?_
 rcases h.2 with ⟨h5, _⟩ | ⟨g, cap', cur, hv, hb, h3, _⟩
 ·rw [h5] at e; cases e
 ·rw [hv] at e
  simp [Value.ownBlock] at e
  subst e
  rw [h3] at hj
  cases hj
  rfl
theorem own_rowG {B B' : Nat} {β : Type} (e : TypeId) (sz : Nat) (v : β → Value) (n : β → Nat) (xs : β → List Value) : OwnFrom B (fun k W => W.ownsRow B' e sz (v k) (n k) (xs k)) := by
 intro s W W' row h hg hr
 refine ⟨h.1, ?_⟩
 rcases h.2 with h2 | ⟨g, cap, cur, h1, h2, h3, h4⟩
 ·exact .inl h2
 ·refine .inr ⟨g, cap, cur, h1, h2, (hg.block g (blk_lt h3) fun e => ?_).trans h3, h4⟩
  obtain ⟨_, o, ho, hc⟩ := hr g e.symm
  rw [h3] at ho
  cases ho
  cases hc
theorem own_set_other {B : Nat} {w : World} {e : TypeId} {sz n : Nat} {v : Value} {xs : List Value} (h : w.ownsRow B e sz v n xs) {b : Nat} (hb : b < B) (off : Nat) (x : Value) : (w.setCell ⟨b, off, none⟩ x).ownsRow B e sz v n xs := by
 refine ⟨h.1, ?_⟩
 rcases h.2 with h2 | ⟨g, cap, cur, h1, h2, h3, h4⟩
 ·exact .inl h2
 ·exact .inr ⟨g, cap, cur, h1, h2, blk_set_other h3 (by omega) off x, h4⟩
theorem wpListIn_app2 {F : Fence} {n : Nat} {w : World} {ops : Array Oper} {rest : List Oper} {o : Oper} {a : Act} {Q : Exit → Act → World → Prop}
  (hg : o.guard = none) (s x : Operand) (hop : o.op = Op.call { callee := Callee.builtin Builtin.append, args := #[s, x], argTypes := #[31, 31] })
  (B : Nat) (v : Value) (l : List (Nat × Nat)) (hs : a.eval s = v) (A : Option Addr) (m c : Nat) (l2 : List (Nat × Nat)) (hx : a.eval x = .slice A m c)
  (hown : OPr B w v l) (hm : l2.length = m) (hr : Rd w 2 A m (l2.flatMap pr2)) (hb : l.length + m ≤ 1000) (hB : B ≤ w.heap.size)
  (hK : ∀ v' w', OPr B w' v' (l ++ l2) → Below B w w' → KeepsOthers w w' → wpListIn F n Tryz.prog ops Q rest (a.put o.dst v') w') : wpListIn F n Tryz.prog ops Q (o :: rest) a w := by
 subst hm
 refine wpListIn_plain hg fun K hK' => ?_
 obtain ⟨i, hi, hz, hsz, hby⟩ := info_parts infoR
 obtain ⟨v', w', hrun, r1, r2, _⟩ := run_append_rd (P := Tryz.prog) w B 31 o.type 43 i _ 2 16 und_prs hi hz hsz hby rfl (by decide) v l.length (l.flatMap pr2) hown A l2.length c (l2.flatMap pr2) hr (fm_one pr2 pr2_one l2) (by simp [maxLen]; omega) (by omega) hB
 unfold Oper.wpIn
 refine ⟨?_, ?_⟩
 ·simp [Oper.about, hop, resolve, Target.leads, Sem.run_pure]
 ·rw [Oper.semAt_plain F _ _ (by rw [hop]; intro c hc'; cases hc')]
  simp [execOp, hop, resolve, invoke, builtin, hs, hx, hrun, Result.andThen]
  refine hK' _ _ (hK v' w' ?_ (own_grown hown r2 hB) (own_keeps hown r2))
  unfold OPr
  rw [List.length_append, List.flatMap_append]; exact r1
set_option maxRecDepth 100000 in
set_option maxHeartbeats 8000000 in
theorem apairs_calls (n : Int) (w : World) : Calls Tryz.prog 11 #[.int .i64 n] w fun e w' =>
  ∃ v, e = .returned (.tuple #[v, .int .i64 (prE n)]) ∧ Below w.heap.size w w' ∧ (prE n ≠ 0 → v = .slice none 0 0) ∧ (prE n = 0 → OPr w.heap.size w' v (prs n.toNat)) := by
 have hc : n < 0 ∨ 8 < n ∨ (0 ≤ n ∧ n ≤ 8) := by omega
 rcases hc with h | h | ⟨h, h1⟩
 ·have HE : Hid (prE n = 2) := Lib.hid (by unfold prE; rw [if_pos (by omega)])
  generalize prE n = pe at *
  have d1 : decide (n < 0) = true := decide_eq_true h
  clear h
  refine (callsIn_wide (n := 0)).1 ?_
  refine callsIn_of_wp_marks Tryz.func11 rfl trivial ?_ rfl
  simp only [Tryz.ntmps11, List.size_toArray, List.length_cons, List.length_nil, Nat.reduceAdd, Nat.reduceSub, Array.replicate_succ, Array.replicate_zero, List.push_toArray, List.append_toArray, List.nil_append, List.cons_append]
  refine wpIn_wide.2 ?_
  go_wp2_with fail
  exact ⟨.tuple #[.slice none 0 0, .int .i64 2], by simp [results, Tryz.results11, go_sem], ⟨_, by rw [HE.out], Below.refl _ _, fun _ => rfl, fun h => absurd (HE.out.symm.trans h) (by decide)⟩⟩
 ·have HE : Hid (prE n = 2) := Lib.hid (by unfold prE; rw [if_pos (by omega)])
  generalize prE n = pe at *
  have d1 : decide (n < 0) = false := decide_eq_false (by omega)
  have d2 : decide ((8 : Int) < n) = true := decide_eq_true h
  clear h
  refine (callsIn_wide (n := 0)).1 ?_
  refine callsIn_of_wp_marks Tryz.func11 rfl trivial ?_ rfl
  simp only [Tryz.ntmps11, List.size_toArray, List.length_cons, List.length_nil, Nat.reduceAdd, Nat.reduceSub, Array.replicate_succ, Array.replicate_zero, List.push_toArray, List.append_toArray, List.nil_append, List.cons_append]
  refine wpIn_wide.2 ?_
  go_wp2_with fail
  exact ⟨.tuple #[.slice none 0 0, .int .i64 2], by simp [results, Tryz.results11, go_sem], ⟨_, by rw [HE.out], Below.refl _ _, fun _ => rfl, fun h => absurd (HE.out.symm.trans h) (by decide)⟩⟩
 obtain ⟨m, rfl⟩ := Int.eq_ofNat_of_zero_le h
 have h9 : m < 9 := by omega
 have HE : Hid (prE (m : Int) = 0) := Lib.hid (by unfold prE; rw [if_neg (by omega)])
 generalize prE (m : Int) = pe at *
 have d1 : decide ((m : Int) < 0) = false := decide_eq_false (by omega)
 have d2 : decide ((8 : Int) < (m : Int)) = false := decide_eq_false (by omega)
 have d3 : (8 < m) = False := by simp; omega
 have L28 := Lib.hid (prs_len8 h9)
 simp only [Int.toNat_natCast]
 clear h h1
 refine (callsIn_wide (n := 0)).1 ?_
 refine callsIn_of_wp_marks Tryz.func11 rfl trivial ?_ rfl
 simp only [Tryz.ntmps11, List.size_toArray, List.length_cons, List.length_nil, Nat.reduceAdd, Nat.reduceSub, Array.replicate_succ, Array.replicate_zero, List.push_toArray, List.append_toArray, List.nil_append, List.cons_append]
 refine wpIn_wide.2 ?_
 go_wp2_with fail
 refine (pairs_calls _ _).mono ?_
 rintro e w9 ⟨rfl, rfl⟩
 go_wp2_with fail
 clear d1 d2 d3
 have NN : Hid (Below w.heap.size w ((w.alloc (.cells #[.slice none 0 0] 31)).alloc (.cells #[.int .i64 (m : Int)] 3))) := Lib.hid (Bal (Bal (Below.refl _ _) _) _)
 have SZ : Hid (((w.alloc (.cells #[.slice none 0 0] 31)).alloc (.cells #[.int .i64 (m : Int)] 3)).heap.size = w.heap.size + 2) := Lib.hid (by simp)
 have V4 : Hid (((w.alloc (.cells #[.slice none 0 0] 31)).alloc (.cells #[.int .i64 (m : Int)] 3)).heap[w.heap.size]? = some (.cells #[.slice none 0 0] 31)) := Lib.hid (blk_alloc (blk_new w _) _)
 have VT : Hid (((w.alloc (.cells #[.slice none 0 0] 31)).alloc (.cells #[.int .i64 (m : Int)] 3)).heap[w.heap.size + 1]? = some (.cells #[.int .i64 (m : Int)] 3)) := Lib.hid (blk_at _ (by simp))
 generalize ((w.alloc (.cells #[.slice none 0 0] 31)).alloc (.cells #[.int .i64 (m : Int)] 3)) = W0 at *
 refine wpIn_wide.1 (range_k 66 #[.pointer (some ⟨w.heap.size + 1, 0, none⟩)] rfl (enters_of Tryz.func66 (by kernel_rfl) rfl) (encP m) w.heap.size (prs m).length (fun W => W.heap[w.heap.size + 1]? = some (.cells #[.int .i64 (m : Int)] 3))
  (pairs_seq h9 (by have := SZ.out; omega)) (by have := SZ.out; omega) (fun _ => rfl)
  (fun k W => (∃ A9 c9, W.heap[w.heap.size]? = some (.cells #[.slice A9 k c9] 31) ∧ OPr W0.heap.size W (.slice A9 k c9) ((prs m).take k)) ∧ (W.heap[w.heap.size + 1]? = some (.cells #[.int .i64 (m : Int)] 3)) ∧ (Below w.heap.size w W) ∧ (w.heap.size + 2 ≤ W.heap.size)) (fun cd k W => False) (fun k a' W => ∃ Bx : Nat, (a' = { tmps := #[.int .i64 (m : Int), undef, .slice none 0 0, .int .i64 0, .pointer (some ⟨w.heap.size, 0, none⟩), .pointer (some ⟨Bx, 0, none⟩), .int .i64 (m : Int), .bool false, .bool false, .int .i64 (m : Int), .bool false, .bool false, .int .i64 (m : Int), .func (.func 66) #[] #[.pointer (some ⟨w.heap.size + 1, 0, none⟩)], .agg #[.int .i64 ((prAt m k).1 : Int), .int .i64 ((prAt m k).2 : Int)], undef, undef, undef, undef, undef], defers := [] }) ∧ (w.heap.size + 2 ≤ Bx) ∧ (W.heap[Bx]? = some (.cells #[.int .i64 ((prAt m k).1 : Int), .int .i64 ((prAt m k).2 : Int)] 43)) ∧ (∃ A9 c9, W.heap[w.heap.size]? = some (.cells #[.slice A9 k c9] 31) ∧ OPr W0.heap.size W (.slice A9 k c9) ((prs m).take k)) ∧ (W.heap[w.heap.size + 1]? = some (.cells #[.int .i64 (m : Int)] 3)) ∧ (Below w.heap.size w W) ∧ (w.heap.size + 2 ≤ W.heap.size))
  ((own_ex fun _ => own_ex fun _ => (own_blk _ _ _).and (own_rowG _ _ _ _ _)).and ((own_blk _ _ _).and ((ownFrom_below (Nat.le_refl _) (by have := SZ.out; omega)).and (own_size _)))) (fun _ => (own_pure _)) (fun _ => own_ex fun _ => ((own_pure _).and ((own_pure _).and ((own_blk _ _ _).and ((own_ex fun _ => own_ex fun _ => (own_blk _ _ _).and (own_rowG _ _ _ _ _)).and ((own_blk _ _ _).and ((ownFrom_below (Nat.le_refl _) (by have := SZ.out; omega)).and (own_size _))))))))
  (fun k W h => h.2.1) ⟨⟨none, 0, V4.out, opr_nil _ _⟩, VT.out, NN.out, by have := SZ.out; omega⟩ ?assign ?body ?done ?stop)
 case assign =>
  rintro lp k W K ⟨⟨A9, c9, v4, o9⟩, vt, nn, sz⟩ hlt hK
  gi_wp2
  exact hK _ _ (keeps_of_below (Bal (Below.refl _ _) _)) ((Below.refl _ W).alloc nn.size _) ⟨W.heap.size, rfl, sz, blk_new W _, ⟨A9, c9, blk_alloc v4 _, World.ownsRow.alloc o9 _⟩, blk_alloc vt _, Bal nn _, by rw [World.size_alloc]; omega⟩
 case body =>
  rintro lp k a' W ⟨Bx, rfl, lx, vx, ⟨A9, c9, v4, o9⟩, vt, nn, sz⟩ hlt
  have hp : (prs m)[k]? = some (prAt m k) := by unfold prAt; rw [List.getD_eq_getElem?_getD, List.getElem?_eq_getElem hlt]; rfl
  have PT := Lib.hid (prs_take hp)
  have hlen : ((prs m).take k).length = k := by rw [List.length_take]; omega
  have h28 := L28.out
  have hz := SZ.out
  generalize prAt m k = p at *
  have O9 := Lib.hid o9
  have V4 := Lib.hid v4
  have VT := Lib.hid vt
  have NN := Lib.hid nn
  have nn0 := Lib.hid nn
  have LX := Lib.hid lx
  have SW : Hid (W0.heap.size ≤ W.heap.size) := Lib.hid (by omega)
  have c40 := blk_cell V4.out 0 _ rfl
  have f40 := blk_frozen V4.out 0
  have l40 := blk_lt V4.out
  have cx0 := blk_cell vx 0 _ rfl
  have cx1 := blk_cell vx 1 _ rfl
  have lx1 := blk_lt vx
  have HLEN := Lib.hid hlen
  clear o9 v4 vt nn lx hp vx hlen hz
  gi_wp2_with (gi_at_builtin; refine wpListIn_app2 rfl _ _ rfl W0.heap.size _ ((prs m).take k) rfl (some ⟨W.heap.size, 0, none⟩) 1 1 [p] rfl (World.ownsRow.alloc O9.out _) rfl (Rd.blk (T := 43) (blk_new W _) rfl) ?_ ?_ ?_; (have := HLEN.out; omega); (rw [World.size_alloc]; have := SW.out; omega); intro v1 w1 o1 q1 k1; obtain ⟨A1, c1, hv1, -, -, -⟩ := Rd.of_own o1; rw [show ((prs m).take k ++ [p]).length = k + 1 by rw [List.length_append, HLEN.out]; rfl] at hv1; subst hv1; have B1 := Lib.hid (((Below.refl W0.heap.size W).alloc SW.out _).trans q1); have O1 := Lib.hid o1; have K1 := Lib.hid (((KeepsOthers.alloc W _).trans k1).from W0.heap.size); have V41 := Lib.hid (blk_B B1.out V4.out (by have := SZ.out; omega)); have c9a := blk_cell V41.out 0 _ rfl; have f9a := blk_frozen V41.out 0; have l9a := blk_lt V41.out; clear o1 q1 k1)
  clear c9a f9a l9a c40 f40 l40 cx0 cx1 lx1
  replace V4 := Lib.hid (blk_set V41.out 0 (.slice A1 (k + 1) c1))
  replace VT := Lib.hid (blk_set_other (b' := w.heap.size) (blk_B B1.out VT.out (by have := SZ.out; omega)) (by omega) 0 (.slice A1 (k + 1) c1))
  replace NN := Lib.hid (Bset1 (NN.out.trans (B1.out.mono (by have := SZ.out; omega))) (Nat.le_refl _) 0 (.slice A1 (k + 1) c1))
  replace O1 := Lib.hid (own_set_other O1.out (show w.heap.size < W0.heap.size by have := SZ.out; omega) 0 (.slice A1 (k + 1) c1))
  replace K1 := Lib.hid (keep_set K1.out w.heap.size 0 (.slice A1 (k + 1) c1))
  refine ⟨K1.out, below_mid nn0.out NN.out K1.out.size, ⟨A1, c1, V4.out, by unfold OPr; rw [PT.out]; exact O1.out⟩, VT.out, NN.out, by have := K1.out.size; have := SW.out; have := SZ.out; omega⟩
 case done =>
  rintro D W hD ⟨⟨A9, c9, v4, o9⟩, vt, nn, sz⟩ hK
  have hz := SZ.out
  have O9 := Lib.hid o9
  have V4 := Lib.hid v4
  have NN := Lib.hid nn
  have HK := Lib.hid hK
  clear o9 v4 vt nn hK
  rw [List.take_length] at O9
  have c40 := blk_cell V4.out 0 _ rfl
  have l40 := blk_lt V4.out
  go_wp2_with fail
  refine ⟨by simp, .inl ⟨_, _, rfl, run_takeDeferred HK.out, ?_⟩⟩
  exact ⟨.tuple #[.slice A9 (prs m).length c9, .int .i64 0], by simp [results, Tryz.results11, go_sem], ⟨_, by rw [HE.out], put_below NN.out (by omega) (Nat.le_refl _) HK.out, fun h => absurd HE.out h, fun _ => ownsRow_putObj (own_mono O9.out (by omega)) _ HK.out rfl⟩⟩
 case stop =>
  rintro D cd k W hD hlt h hK
  exact h.elim
end Go.Proofs.YtfangplfbbgphaaGreatDoor
namespace Go.Proofs.YtfangplfbbgphaaGreatDoor
open Go.ChangeShapes Go.WideShapes Go.ChangeAt Go.RowKit
set_option linter.unusedVariables false
set_option maxRecDepth 100000
set_option linter.unusedSimpArgs false
abbrev Cl : Type := V6 × List (Nat × Nat)
def hitC (v b : V6) (c : Cl) : Bool := decide (c.1 = v) || decide (c.1 = b)
def putC (p : Nat × Nat) (v b : V6) : List Cl → List Cl
 | [] => [(v, [p])]
 | c :: cs => if hitC v b c then (c.1, c.2 ++ [p]) :: cs else c :: putC p v b cs
theorem putC_none {p : Nat × Nat} {v b : V6} : ∀ {cs : List Cl}, (∀ (j : Nat) (c : Cl), cs[j]? = some c → hitC v b c = false) → putC p v b cs = cs ++ [(v, [p])]
 | [], _ => rfl
 | c :: cs, h => by
  unfold putC
  rw [if_neg (by rw [h 0 c rfl]; simp), putC_none (fun j c' hj => h (j + 1) c' (by simpa using hj))]
  rfl
theorem putC_hit {p : Nat × Nat} {v b : V6} : ∀ {cs : List Cl} {k : Nat} {c : Cl}, cs[k]? = some c → (∀ (j : Nat) (c' : Cl), j < k → cs[j]? = some c' → hitC v b c' = false) → hitC v b c = true → putC p v b cs = cs.set k (c.1, c.2 ++ [p])
 | [], k, c, hk, _, _ => by simp at hk
 | c0 :: cs, 0, c, hk, _, hh => by
  simp at hk
  subst hk
  unfold putC
  rw [if_pos hh]; rfl
 | c0 :: cs, k + 1, c, hk, hn, hh => by
  unfold putC
  rw [if_neg (by rw [hn 0 c0 (by omega) rfl]; simp), putC_hit (cs := cs) (k := k) (by simpa using hk) (fun j c' hj hc => hn (j + 1) c' (by omega) (by simpa using hc)) hh]
  rfl
theorem putC_len {p : Nat × Nat} {v b : V6} : ∀ {cs : List Cl}, (putC p v b cs).length ≤ cs.length + 1
 | [] => by simp [putC]
 | c :: cs => by
  unfold putC
  split
  ·simp
  ·have := putC_len (p := p) (v := v) (b := b) (cs := cs); simp only [List.length_cons]; omega
theorem putC_size {p : Nat × Nat} {v b : V6} {m : Nat} : ∀ {cs : List Cl}, (∀ c ∈ cs, c.2.length ≤ m) → ∀ c ∈ putC p v b cs, c.2.length ≤ m + 1
 | [], _, c, hc => by simp [putC] at hc; subst hc; simp
 | c0 :: cs, h, c, hc => by
  unfold putC at hc
  split at hc
  ·rcases List.mem_cons.1 hc with rfl | hc
   ·have := h c0 (List.mem_cons_self ..); simp; omega
   ·have := h c (List.mem_cons_of_mem _ hc); omega
  ·rcases List.mem_cons.1 hc with rfl | hc
   ·have := h c (List.mem_cons_self ..); omega
   ·exact putC_size (fun c hc => h c (List.mem_cons_of_mem _ hc)) c hc
def cl7 (p : V6 × Value) : List Value := [.int .i64 p.1.x1, .int .i64 p.1.x2, .int .i64 p.1.y1, .int .i64 p.1.y2, .int .i64 p.1.z1, .int .i64 p.1.z2, p.2]
theorem cl7_len (p : V6 × Value) : (cl7 p).length = 7 := rfl
def hdC (cs : List Cl) (hs : List Value) : List (V6 × Value) := (cs.map (·.1)).zip hs
theorem hdC_len {cs : List Cl} {hs : List Value} (h : hs.length = cs.length) : (hdC cs hs).length = cs.length := by simp [hdC, h]
theorem hdC_get {cs : List Cl} {hs : List Value} {k : Nat} {c : Cl} {u : Value} (hc : cs[k]? = some c) (hu : hs[k]? = some u) : (hdC cs hs)[k]? = some (c.1, u) := by
 unfold hdC
 rw [List.getElem?_zip_eq_some]
 exact ⟨by rw [List.getElem?_map, hc]; rfl, hu⟩
theorem hdC_set {cs : List Cl} {hs : List Value} {k : Nat} {c : Cl} {u : Value} (hl : hs.length = cs.length) (hc : cs[k]? = some c) (q : List (Nat × Nat)) : (hdC cs hs).set k (c.1, u) = hdC (cs.set k (c.1, q)) (hs.set k u) := by
 have hlt := get_lt hc
 apply List.ext_getElem?
 intro i
 by_cases e : k = i
 ·subst e
  rw [List.getElem?_set_self (by rw [hdC_len hl]; exact hlt), hdC_get (c := (c.1, q)) (by rw [List.getElem?_set_self hlt]) (by rw [List.getElem?_set_self (by omega)])]
 ·rw [List.getElem?_set_ne e]
  unfold hdC List.zip
  rw [List.getElem?_zipWith, List.getElem?_zipWith, List.getElem?_map, List.getElem?_map, List.getElem?_set_ne e, List.getElem?_set_ne e]
theorem own_block_lt {B : Nat} {W : World} {e : TypeId} {sz n : Nat} {v : Value} {xs : List Value} (h : W.ownsRow B e sz v n xs) {g : Nat} (hb : v.ownBlock = some g) : g < W.heap.size ∧ B ≤ g ∧ ∃ cs, W.heap[g]? = some (.cells cs e) := by
 rcases h.2 with ⟨h5, _⟩ | ⟨g', cap, cur, h1, h2, h3, h4⟩
 ·rw [h5] at hb; cases hb
 ·rw [h1] at hb
  simp [Value.ownBlock] at hb
  subst hb
  exact ⟨blk_lt h3, h2, _, h3⟩
end Go.Proofs.YtfangplfbbgphaaGreatDoor
namespace Go.Proofs.YtfangplfbbgphaaGreatDoor
open Go.ChangeShapes Go.WideShapes Go.ChangeAt Go.RowKit
set_option linter.unusedVariables false
set_option maxRecDepth 100000
set_option linter.unusedSimpArgs false
theorem fm_setj {α : Type} (f : α → List Value) (sz : Nat) (hf : ∀ x, (f x).length = sz) : ∀ (l : List α) (k j : Nat) (x y : α) (u : Value), l[k]? = some x → j < sz → f y = (f x).set j u → (l.flatMap f).set (k * sz + j) u = (l.set k y).flatMap f
 | [], k, j, x, y, u, hk, _, _ => by simp at hk
 | x0 :: l, 0, j, x, y, u, hk, hj, hy => by
  simp at hk
  subst hk
  rw [List.flatMap_cons, List.set_cons_zero, List.flatMap_cons, Nat.zero_mul, Nat.zero_add, List.set_append_left _ _ (by rw [hf]; exact hj), hy]
 | x0 :: l, k + 1, j, x, y, u, hk, hj, hy => by
  rw [List.flatMap_cons, List.set_cons_succ, List.flatMap_cons, List.set_append_right _ _ (by rw [hf, Nat.succ_mul]; omega), hf, show (k + 1) * sz + j - sz = k * sz + j by rw [Nat.succ_mul]; omega, fm_setj f sz hf l k j x y u (by simpa using hk) hj hy]
theorem own_ne2 {W : World} {base base' : Nat} {e e' : TypeId} {size size' n n' : Nat} {v v' : Value} {xs xs' : List Value} (h : W.ownsRow base e size v n xs) (h' : W.ownsRow base' e' size' v' n' xs') (hne : e ≠ e') : v'.ownBlock = none ∨ v'.ownBlock ≠ v.ownBlock := by
 cases hq : v'.ownBlock with
 | none => exact .inl rfl
 | some g =>
  refine .inr fun hh => ?_
  obtain ⟨_, _, cs, h1⟩ := own_block_lt h' hq
  obtain ⟨_, _, cs', h2⟩ := own_block_lt h hh.symm
  rw [h1] at h2
  injection h2 with h2
  injection h2 with _ ht
  exact hne ht.symm
theorem ap_one {α : Type} {l : List α} {x y : α} {i : Nat} (h : (l ++ [x])[i]? = some y) : l[i]? = some y ∨ (i = l.length ∧ y = x) := by
 rcases Nat.lt_trichotomy i l.length with h1 | h1 | h1
 ·exact .inl (by rw [List.getElem?_append_left h1] at h; exact h)
 ·subst h1; simp at h; exact .inr ⟨rfl, h.symm⟩
 ·rw [List.getElem?_eq_none (by simp; omega)] at h; cases h
structure OC (B : Nat) (W : World) (v : Value) (cs : List Cl) (hs : List Value) : Prop where
 len : hs.length = cs.length
 row : W.ownsRow B 40 7 v cs.length ((hdC cs hs).flatMap cl7)
 inn : ∀ (k : Nat) (c : Cl) (u : Value), cs[k]? = some c → hs[k]? = some u → OPr B W u c.2
 sep : ∀ (i j : Nat) (u u' : Value), hs[i]? = some u → hs[j]? = some u' → i ≠ j → u.ownBlock = none ∨ u.ownBlock ≠ u'.ownBlock
structure OC1 (B : Nat) (W : World) (v : Value) (cs : List Cl) (hs : List Value) (k : Nat) (u' : Value) (q : List (Nat × Nat)) : Prop where
 len : hs.length = cs.length
 row : W.ownsRow B 40 7 v cs.length ((hdC cs hs).flatMap cl7)
 inn : ∀ (j : Nat) (c : Cl) (u : Value), j ≠ k → cs[j]? = some c → hs[j]? = some u → OPr B W u c.2
 new : OPr B W u' q
 sep : ∀ (i j : Nat) (x x' : Value), (hs.set k u')[i]? = some x → (hs.set k u')[j]? = some x' → i ≠ j → x.ownBlock = none ∨ x.ownBlock ≠ x'.ownBlock
theorem neCP : (40 : TypeId) ≠ 43 := by decide
theorem nePC : (43 : TypeId) ≠ 40 := by decide
theorem OC.nil (B : Nat) (W : World) : OC B W (.slice none 0 0) [] [] := ⟨rfl, World.ownsRow_nil _ _ _ _, fun k c u h => by simp at h, fun i j u u' h => by simp at h⟩
theorem OC.next {B : Nat} {W W' : World} {v : Value} {cs : List Cl} {hs : List Value} (h : OC B W v cs hs) (hb : Below W.heap.size W W') : OC B W' v cs hs :=
 ⟨h.len, own_next hb h.row, fun k c u hc hu => own_next hb (h.inn k c u hc hu), h.sep⟩
theorem OC1.next {B : Nat} {W W' : World} {v u' : Value} {cs : List Cl} {hs : List Value} {k : Nat} {q : List (Nat × Nat)} (h : OC1 B W v cs hs k u' q) (hb : Below W.heap.size W W') : OC1 B W' v cs hs k u' q :=
 ⟨h.len, own_next hb h.row, fun j c u hj hc hu => own_next hb (h.inn j c u hj hc hu), own_next hb h.new, h.sep⟩
theorem OC.low {B : Nat} {W : World} {v : Value} {cs : List Cl} {hs : List Value} (h : OC B W v cs hs) {b : Nat} (hb : b < B) (off : Nat) (x : Value) : OC B (W.setCell ⟨b, off, none⟩ x) v cs hs :=
 ⟨h.len, own_set_other h.row hb off x, fun k c u hc hu => own_set_other (h.inn k c u hc hu) hb off x, h.sep⟩
theorem OC.grow {B : Nat} {W W' : World} {v u u' : Value} {cs : List Cl} {hs : List Value} {k : Nat} {c : Cl} {q : List (Nat × Nat)} (h : OC B W v cs hs) (hc : cs[k]? = some c) (hu : hs[k]? = some u)
  (hn : OPr B W' u' q) (hg : W.grownBy W' u.ownBlock) (ho : u'.ownBlock = u.ownBlock ∨ u'.ownBlock = some W.heap.size) : OC1 B W' v cs hs k u' q := by
 have hk := get_lt hu
 refine ⟨h.len, h.row.kept hg (own_ne2 (h.inn k c u hc hu) h.row nePC), fun j c' x hj hc' hx => (h.inn j c' x hc' hx).kept hg (h.sep j k x u hx hu hj), hn, fun i j x x' hx hx' hij => ?_⟩
 have old : ∀ {i : Nat} {x : Value}, hs[i]? = some x → ∀ g, x.ownBlock = some g → g < W.heap.size := fun {i x} h1 g hg' => by
  obtain ⟨c1, hc1⟩ := (⟨_, List.getElem?_eq_getElem (show i < cs.length by have := get_lt h1; rw [h.len] at this; exact this)⟩ : ∃ c1, cs[i]? = some c1)
  exact ((h.inn i c1 x hc1 h1).lt g hg').2
 have far : ∀ {j : Nat} {y : Value}, hs[j]? = some y → j ≠ k → y.ownBlock = none ∨ y.ownBlock ≠ u'.ownBlock := fun {j y} hy hj => by
  rcases ho with e | e
  ·rw [e]; exact h.sep j k y u hy hu hj
  ·cases hq : y.ownBlock with
   | none => exact .inl rfl
   | some g =>
    refine .inr fun hh => ?_
    have := old hy g hq
    rw [e] at hh
    injection hh with hh
    omega
 by_cases e1 : i = k
 ·subst e1
  rw [List.getElem?_set_self hk] at hx
  injection hx with hx
  subst hx
  rw [List.getElem?_set_ne hij] at hx'
  rcases far hx' (fun e => hij e.symm) with h1 | h1
  ·cases hq : u'.ownBlock with
   | none => exact .inl rfl
   | some g => exact .inr (by rw [h1]; simp)
  ·exact .inr (fun e => h1 e.symm)
 ·rw [List.getElem?_set_ne (fun e => e1 e.symm)] at hx
  by_cases e2 : j = k
  ·subst e2
   rw [List.getElem?_set_self hk] at hx'
   injection hx' with hx'
   subst hx'
   exact far hx e1
  ·rw [List.getElem?_set_ne (fun e => e2 e.symm)] at hx'
   exact h.sep i j x x' hx hx' hij
theorem OC1.store {B : Nat} {W : World} {g n cap : Nat} {u' : Value} {cs : List Cl} {hs : List Value} {k : Nat} {c : Cl} {q : List (Nat × Nat)} (h : OC1 B W (.slice (some ⟨g, 0, none⟩) n cap) cs hs k u' q) (hc : cs[k]? = some c) :
  OC B (W.setCell ⟨g, k * 7 + 6, none⟩ u') (.slice (some ⟨g, 0, none⟩) n cap) (cs.set k (c.1, q)) (hs.set k u') ∧ W.grownBy (W.setCell ⟨g, k * 7 + 6, none⟩ u') (some g) := by
 have hk := get_lt hc
 have hn : n = cs.length := by
  obtain ⟨A0, c0, e, _⟩ := Rd.of_own h.row
  injection e
 subst hn
 obtain ⟨u, hu⟩ := (⟨_, List.getElem?_eq_getElem (show k < hs.length by rw [h.len]; exact hk)⟩ : ∃ u, hs[k]? = some u)
 obtain ⟨h1, h2⟩ := h.row.stored (k * 7 + 6) u'
 have keep : ∀ {x : Value} {l : List (Nat × Nat)}, OPr B W x l → OPr B (W.setCell ⟨g, k * 7 + 6, none⟩ u') x l := fun {x l} hx => hx.kept h2 (own_ne2 h.row hx neCP)
 refine ⟨⟨by simpa using h.len, ?_, fun j c' x hc' hx => ?_, h.sep⟩, h2⟩
 ·rw [List.length_set, ← hdC_set h.len hc q]
  rw [fm_setj cl7 7 cl7_len (hdC cs hs) k 6 (c.1, u) (c.1, u') u' (hdC_get hc hu) (by omega) rfl] at h1
  exact h1
 ·by_cases e : k = j
  ·subst e
   rw [List.getElem?_set_self hk] at hc'
   rw [List.getElem?_set_self (by rw [h.len]; exact hk)] at hx
   injection hc' with hc'
   injection hx with hx
   subst hc' hx
   exact keep h.new
  ·rw [List.getElem?_set_ne e] at hc' hx
   exact keep (h.inn j c' x (fun e' => e e'.symm) hc' hx)
theorem hdC_push {cs : List Cl} {hs : List Value} (h : hs.length = cs.length) (c : Cl) (u : Value) : hdC (cs ++ [c]) (hs ++ [u]) = hdC cs hs ++ [(c.1, u)] := by
 unfold hdC
 rw [List.map_append, List.zip_append (by rw [List.length_map, h])]
 rfl
theorem OC.lo {B : Nat} {W : World} {v : Value} {cs : List Cl} {hs : List Value} (h : OC B W v cs hs) : ∀ (i : Nat) (x : Value) (g : Nat), hs[i]? = some x → x.ownBlock = some g → g < W.heap.size := fun i x g h1 hg' => by
 obtain ⟨c1, hc1⟩ := (⟨_, List.getElem?_eq_getElem (show i < cs.length by have := get_lt h1; rw [h.len] at this; exact this)⟩ : ∃ c1, cs[i]? = some c1)
 exact ((h.inn i c1 x hc1 h1).lt g hg').2
theorem OC.push {B n0 : Nat} {W W' : World} {v v' u : Value} {cs : List Cl} {hs : List Value} {c : V6} {l : List (Nat × Nat)} (h : OC B W v cs hs) (hlo : ∀ (i : Nat) (x : Value) (g : Nat), hs[i]? = some x → x.ownBlock = some g → g < n0) (hu : OPr n0 W u l) (hB : B ≤ n0)
  (hown : W'.ownsRow B 40 7 v' (cs.length + 1) ((hdC cs hs).flatMap cl7 ++ cl7 (c, u))) (hg : W.grownBy W' v.ownBlock) : OC B W' v' (cs ++ [(c, l)]) (hs ++ [u]) := by
 have keep : ∀ {base : Nat} {x : Value} {k : List (Nat × Nat)}, OPr base W x k → OPr base W' x k := fun hx => hx.kept hg (own_ne2 h.row hx neCP)
 have new : ∀ g, u.ownBlock = some g → n0 ≤ g := fun g hg' => (hu.lt g hg').1
 refine ⟨by simp [h.len], ?_, fun i c' x hc' hx => ?_, fun i j x x' hx hx' hij => ?_⟩
 ·rw [hdC_push h.len, List.flatMap_append, List.length_append]
  simpa using hown
 ·rcases ap_one hc' with h1 | ⟨h1, rfl⟩
  ·rcases ap_one hx with h2 | ⟨h2, rfl⟩
   ·exact keep (h.inn i c' x h1 h2)
   ·have := get_lt h1; rw [h.len] at h2; omega
  ·rcases ap_one hx with h2 | ⟨h2, rfl⟩
   ·have := get_lt h2; rw [h.len] at this; omega
   ·exact own_mono (keep hu) hB
 ·rcases ap_one hx with h1 | ⟨h1, rfl⟩
  ·rcases ap_one hx' with h2 | ⟨h2, rfl⟩
   ·exact h.sep i j x x' h1 h2 hij
   ·cases e : x.ownBlock with
    | none => exact .inl rfl
    | some g =>
     refine .inr fun e' => ?_
     have := hlo i x g h1 e
     have := new g e'.symm
     omega
  ·rcases ap_one hx' with h2 | ⟨h2, rfl⟩
   ·cases e : x.ownBlock with
    | none => exact .inl rfl
    | some g =>
     refine .inr fun e' => ?_
     have := hlo j x' g h2 e'.symm
     have := new g e
     omega
   ·omega
theorem OC1.cell {B : Nat} {W : World} {g n c0 : Nat} {cs : List Cl} {hs : List Value} {k : Nat} {u' : Value} {q : List (Nat × Nat)} {c : Cl} {u : Value} (h : OC1 B W (.slice (some ⟨g, 0, none⟩) n c0) cs hs k u' q) (hc : cs[k]? = some c) (hu : hs[k]? = some u) : W.cell? ⟨g, k * 7 + 6, none⟩ = some u ∧ g < W.heap.size := by
 have := h.row.cells (g := g) rfl (k * 7 + 6) u (by rw [fm_get cl7 7 cl7_len (hdC cs hs) k 6 (c.1, u) (hdC_get hc hu) (by omega)]; rfl)
 simp only [Addr.add, Nat.zero_add] at this
 exact ⟨this, (h.row.lt g rfl).2⟩
theorem cl7_one (A : Option Addr) (n c0 : Nat) (v : V6) : ∀ u ∈ cl7 (v, .slice A n c0), u.oneCell' = true := by
 intro u hu; simp [cl7] at hu; rcases hu with rfl | rfl | rfl | rfl | rfl | rfl | rfl <;> rfl
end Go.Proofs.YtfangplfbbgphaaGreatDoor
namespace Go.Proofs.YtfangplfbbgphaaGreatDoor
open Go.ChangeShapes Go.WideShapes Go.ChangeAt Go.RowKit Go.Deep Go.Joins
set_option linter.unusedVariables false
set_option maxRecDepth 100000
set_option linter.unusedSimpArgs false
theorem own_of_blk {W : World} {g base sz n : Nat} {e : TypeId} {xs : List Value} (h : W.heap[g]? = some (.cells xs.toArray e)) (hb : base ≤ g) (hl : xs.length = n * sz) (hn : n ≤ 1000) : W.ownsRow base e sz (.slice (some ⟨g, 0, none⟩) n n) n xs :=
 ⟨hl, .inr ⟨g, n, xs.toArray, rfl, hb, h, Nat.le_refl _, by simp [maxLen]; omega, by simpa using hl, by simp [List.take_of_length_le (Nat.le_of_eq hl)]⟩⟩
instance : Inhabited St := ⟨zS⟩
theorem plain_addr {w : World} {a : Addr} {v : Value} (h : w.cell? a = some v) : a = ⟨a.block, a.off, none⟩ := by
 rcases a with ⟨b, o, s⟩
 cases s with
 | none => rfl
 | some s =>
  unfold World.cell? at h
  split at h
  ·simp at h
  ·cases h
theorem add_plain (b o j : Nat) : (⟨b, o, none⟩ : Addr).add j = ⟨b, o + j, none⟩ := by
 unfold Addr.add; split
 ·rename_i h; subst h; rfl
 ·rfl
theorem list2 {α : Type} {cs : List α} (h : cs.length = 2) : ∃ c0 c1, cs = [c0, c1] := by
 match cs, h with
 | [c0, c1], _ => exact ⟨c0, c1, rfl⟩
theorem list3 {α : Type} {cs : List α} (h : cs.length = 3) : ∃ c0 c1 c2, cs = [c0, c1, c2] := by
 match cs, h with
 | [c0, c1, c2], _ => exact ⟨c0, c1, c2, rfl⟩
theorem list5 {α : Type} {cs : List α} (h : cs.length = 5) : ∃ c0 c1 c2 c3 c4, cs = [c0, c1, c2, c3, c4] := by
 match cs, h with
 | [c0, c1, c2, c3, c4], _ => exact ⟨c0, c1, c2, c3, c4, rfl⟩
theorem cof_l : Tryz.prog.cellsOf 2 = 1 := by kernel_rfl
theorem cof_i : Tryz.prog.cellsOf 3 = 1 := by kernel_rfl
theorem cof_t : Tryz.prog.cellsOf 9 = 1 := by kernel_rfl
theorem cof_f : Tryz.prog.cellsOf 36 = 2 := by kernel_rfl
theorem cof_g : Tryz.prog.cellsOf 23 = 2 := by kernel_rfl
theorem cof_s : Tryz.prog.cellsOf 69 = 5 := by kernel_rfl
section
variable {H : Type} {enc : TypeId × Value → H} {w : World} {base : Nat} {spare : Nat → Bool} {held : Bool}
theorem long_one {n : Nat} {c : Value} {x : Option (DataW H × List MemPlace)} {y : DataW H × List MemPlace} (hx : x = some y) (h : DataW.trod enc Tryz.prog w base spare held n 2 [c] = x) : ∃ a : Int, c = .int .i64 a := by
 subst hx
 obtain ⟨a, e, _⟩ := DataW.trod_int Tryz.underlying2 h
 simp only [List.cons.injEq, and_true] at e
 exact ⟨a, e⟩
theorem inum_one {n : Nat} {c : Value} {x : Option (DataW H × List MemPlace)} {y : DataW H × List MemPlace} (hx : x = some y) (h : DataW.trod enc Tryz.prog w base spare held n 3 [c] = x) : ∃ a : Int, c = .int .i64 a := by
 subst hx
 obtain ⟨a, e, _⟩ := DataW.trod_int Tryz.underlying3 h
 simp only [List.cons.injEq, and_true] at e
 exact ⟨a, e⟩
theorem str_one {n : Nat} {c : Value} {x : Option (DataW H × List MemPlace)} {y : DataW H × List MemPlace} (hx : x = some y) (h : DataW.trod enc Tryz.prog w base spare held n 9 [c] = x) : ∃ s : ByteArray, c = .string s := by
 subst hx
 obtain ⟨a, e, _⟩ := DataW.trod_string Tryz.underlying9 h
 simp only [List.cons.injEq, and_true] at e
 exact ⟨a, e⟩
theorem frac_cells {fuel : Nat} {cs : List Value} {x : DataW H × List MemPlace} (h : DataW.trod enc Tryz.prog w base spare held fuel 36 cs = some x) : ∃ a b : Int, cs = [.int .i64 a, .int .i64 b] := by
 obtain ⟨xs, n, _, _, hl, hx, hf⟩ := DataW.trod_struct Tryz.underlying36 h
 rw [cof_f] at hl
 obtain ⟨u0, u1, rfl⟩ := list2 hl
 obtain ⟨x0, x1, rfl⟩ := list2 hx
 have h0 := hf 0 _ rfl
 have h1 := hf 1 _ rfl
 change DataW.trod enc Tryz.prog w base spare held n 2 (([u0, u1].drop 0).take (Tryz.prog.cellsOf 2)) = _ at h0
 rw [cof_l] at h0
 change DataW.trod enc Tryz.prog w base spare held n 2 (([u0, u1].drop 1).take (Tryz.prog.cellsOf 2)) = _ at h1
 rw [cof_l] at h1
 obtain ⟨a, rfl⟩ := long_one rfl h0
 obtain ⟨b, rfl⟩ := long_one rfl h1
 exact ⟨a, b, rfl⟩
theorem globe_cells {fuel : Nat} {cs : List Value} {x : DataW H × List MemPlace} (h : DataW.trod enc Tryz.prog w base spare held fuel 23 cs = some x) : ∃ a b : Int, cs = [.int .i64 a, .int .i64 b] := by
 obtain ⟨xs, n, _, _, hl, hx, hf⟩ := DataW.trod_struct Tryz.underlying23 h
 rw [cof_g] at hl
 obtain ⟨u0, u1, rfl⟩ := list2 hl
 obtain ⟨x0, x1, rfl⟩ := list2 hx
 have h0 := hf 0 _ rfl
 have h1 := hf 1 _ rfl
 change DataW.trod enc Tryz.prog w base spare held n 3 (([u0, u1].drop 0).take (Tryz.prog.cellsOf 3)) = _ at h0
 rw [cof_i] at h0
 change DataW.trod enc Tryz.prog w base spare held n 3 (([u0, u1].drop 1).take (Tryz.prog.cellsOf 3)) = _ at h1
 rw [cof_i] at h1
 obtain ⟨a, rfl⟩ := inum_one rfl h0
 obtain ⟨b, rfl⟩ := inum_one rfl h1
 exact ⟨a, b, rfl⟩
theorem site_cells {fuel : Nat} {cs : List Value} {x : DataW H × List MemPlace} (h : DataW.trod enc Tryz.prog w base spare held fuel 69 cs = some x) : ∃ s : St, cs = st5 s := by
 obtain ⟨xs, n, _, _, hl, hx, hf⟩ := DataW.trod_struct Tryz.underlying69 h
 rw [cof_s] at hl
 obtain ⟨u0, u1, u2, u3, u4, rfl⟩ := list5 hl
 obtain ⟨x0, x1, x2, rfl⟩ := list3 hx
 have h0 := hf 0 _ rfl
 have h1 := hf 1 _ rfl
 have h2 := hf 2 _ rfl
 change DataW.trod enc Tryz.prog w base spare held n 9 (([u0, u1, u2, u3, u4].drop 0).take (Tryz.prog.cellsOf 9)) = _ at h0
 rw [cof_t] at h0
 change DataW.trod enc Tryz.prog w base spare held n 36 (([u0, u1, u2, u3, u4].drop 1).take (Tryz.prog.cellsOf 36)) = _ at h1
 rw [cof_f] at h1
 change DataW.trod enc Tryz.prog w base spare held n 36 (([u0, u1, u2, u3, u4].drop 3).take (Tryz.prog.cellsOf 36)) = _ at h2
 rw [cof_f] at h2
 obtain ⟨s, rfl⟩ := str_one rfl h0
 obtain ⟨a, b, e⟩ := frac_cells (x := x1) h1
 obtain ⟨c, d, e'⟩ := frac_cells (x := x2) h2
 simp at e e'
 obtain ⟨rfl, rfl⟩ := e
 obtain ⟨rfl, rfl⟩ := e'
 exact ⟨⟨s, a, b, c, d⟩, rfl⟩
set_option maxRecDepth 100000 in
theorem open_globe {r : Reach} {b0 : Nat} {v : Value} {d : DataW H} {p : List MemPlace} (hv : Value.okWide Tryz.prog w r b0 23 v) (h : DataW.Trod enc Tryz.prog w base spare held 23 v d p) : ∃ a b : Int, v = Gv a b := by
 obtain ⟨cs, rfl, hsz⟩ := okWide_struct Tryz.underlying23 hv
 obtain ⟨fuel, hf⟩ := h
 obtain ⟨a, b, hr⟩ := globe_cells hf
 refine ⟨a, b, ?_⟩
 obtain ⟨l⟩ := cs
 simp only [Value.cells] at hr
 subst hr
 rfl
theorem open_srows {fuel : Nat} {cs : List Value} {x : DataW H × List MemPlace} (h : DataW.trod enc Tryz.prog w base spare held fuel 24 cs = some x) :
  ∃ (a : Option Addr) (l : List St) (cap : Nat), cs = [.slice a l.length cap] ∧ l.length ≤ cap ∧ cap ≤ 9223372036854775807 ∧ RSt w a l := by
 rcases open_slice und_sites h with ⟨rfl, _⟩ | ⟨a, len, cap, m, n, D, Pl, rfl, hb, hl, hm, hmm, hx, hi⟩
 ·exact ⟨none, [], 0, rfl, Nat.le_refl _, by omega, rfl, fun h => absurd h (by simp)⟩
 ·have hle : len ≤ m := by rw [hmm]; split <;> omega
  have key : ∀ i, i < len → ∃ r : St, ∀ j, j < 5 → w.cell? (a.add (i * 5 + j)) = (st5 r)[j]? := by
   intro i hil
   obtain ⟨cs', hc, ht⟩ := hi i (by omega)
   rw [cof_s] at hc
   obtain ⟨r, rfl⟩ := site_cells ht
   obtain ⟨_, _, hat⟩ := World.cells?_some hc
   exact ⟨r, fun j hj => by rw [← Go.Deep.add_add]; exact hat j hj⟩
  obtain ⟨f, hf⟩ := choose_lt key
  refine ⟨some a, (List.range len).map f, cap, by simp, by simpa using hl, by simpa [maxLen] using hm, fm_len _ _ st5_len _, fun hn => ?_⟩
  have hn' : 0 < len := by simpa using hn
  have h0 := hf 0 hn' 0 (by omega)
  have ha : a = ⟨a.block, a.off, none⟩ := plain_addr (by simpa [Addr.add, st5] using h0)
  have hlt := World.block_lt_of_cell? w (a.add (0 * 5 + 0)) h0
  refine ⟨a.block, a.off, by rw [← ha], hlt, fun j u hu => ?_⟩
  have hj : j < len * 5 := by
   have := (List.getElem?_eq_some_iff.1 hu).1
   rw [fm_len _ _ st5_len] at this
   simpa using this
  have e : j / 5 * 5 + j % 5 = j := by omega
  have hi5 : j / 5 < len := by omega
  have g := fm_get st5 5 st5_len ((List.range len).map f) (j / 5) (j % 5) (f (j / 5)) (by rw [List.getElem?_map, List.getElem?_range hi5]; rfl) (by omega)
  rw [e] at g
  have h1 := hf (j / 5) hi5 (j % 5) (by omega)
  rw [e, ha, add_plain] at h1
  have h2 : w.cell? ⟨a.block, a.off + j, none⟩ = (st5 (f (j / 5)))[j % 5]? := h1
  rw [h2, ← g]
  exact hu
set_option maxRecDepth 100000 in
theorem open_sites {r : Reach} {b0 : Nat} {v : Value} {d : DataW H} {p : List MemPlace} (hv : Value.okWide Tryz.prog w r b0 24 v) (h : DataW.Trod enc Tryz.prog w base spare held 24 v d p) :
  ∃ (A : Option Addr) (l : List St) (cap : Nat), v = .slice A l.length cap ∧ l.length ≤ cap ∧ cap ≤ 9223372036854775807 ∧ RSt w A l := by
 obtain ⟨fuel, hf⟩ := h
 obtain ⟨sa, sl, sc, rfl⟩ := okWide_slice und_sites hv
 obtain ⟨A, l, cap, e, h1, h2, h3⟩ := open_srows (cs := [.slice sa sl sc]) hf
 simp only [List.cons.injEq, and_true, Value.slice.injEq] at e
 obtain ⟨rfl, rfl, rfl⟩ := e
 exact ⟨_, l, _, rfl, h1, h2, h3⟩
end
end Go.Proofs.YtfangplfbbgphaaGreatDoor
