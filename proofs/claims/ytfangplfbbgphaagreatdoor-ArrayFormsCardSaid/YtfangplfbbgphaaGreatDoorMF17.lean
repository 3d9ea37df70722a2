/- Several texts in one. -/
import Derived.BigQuiet
import Derived.Laws.OwnMore
import Derived.Deep.Slices
import Derived.Deep.Fields
import Derived.ChangeSame
import Derived.ChangeArms
import Derived.ChangeSlices
import Derived.Lib.SmallJoins
import Derived.Test.YtfangplfbbgphaaGreatDoorMF16
namespace Go.Proofs.YtfangplfbbgphaaGreatDoor
open Go.ChangeShapes Go.WideShapes Go.ChangeAt Go.RowKit
set_option linter.unusedVariables false
set_option maxRecDepth 100000
set_option linter.unusedSimpArgs false
attribute [local go_sem ↓] Go.wp_at_zero Go.wp_at_succ
attribute [local go_sem ↓] eqVe
theorem Rd.rec2 {w : World} {size n : Nat} {A : Option Addr} {α : Type} {f : α → List Value} {l : List α} (h : Rd w size A n (l.flatMap f)) (hn : l.length ≤ n) (hf : ∀ x, (f x).length = size) {i k : Nat} {x y : α} (hi : l[i]? = some x) (hk : l[k]? = some y) :
  ∃ b off, A = some ⟨b, off, none⟩ ∧ b < w.heap.size ∧ (∀ j u, (f x)[j]? = some u → w.cell? ⟨b, off + i * size + j, none⟩ = some u) ∧ (∀ j u, (f y)[j]? = some u → w.cell? ⟨b, off + k * size + j, none⟩ = some u) := by
 obtain ⟨b, off, e, hb, h1⟩ := Rd.rec_ h hn hf hi
 obtain ⟨b', off', e', _, h2⟩ := Rd.rec_ h hn hf hk
 rw [e] at e'
 injection e' with e'
 injection e' with e1 e2
 subst e1 e2
 exact ⟨b, off, e, hb, h1, h2⟩
theorem own_drewN {W : World} {B : Nat} {e : TypeId} {sz n : Nat} {v : Value} {xs : List Value} (h : W.ownsRow B e sz v n xs) (k : Nat) : (W.drewN k).ownsRow B e sz v n xs := own_next (below_drewN (Below.refl _ _) k) h
set_option maxRecDepth 100000 in
set_option maxHeartbeats 16000000 in
theorem rcheck_calls {A B : Int} {a : Option Addr} {c : Nat} {l : List St} {w : World} (hl : RSt w a l) (hc : l.length ≤ c) (hc' : c ≤ 9223372036854775807) (hn : ∀ x ∈ l, x.nm.size ≤ 9223372036854775807) : Calls Tryz.prog 34 #[Gv A B, .slice a l.length c] w fun e w' => e = .returned (.int .i64 (plE A B l)) ∧ Below w.heap.size w w' := by
 have NN := Lib.hid (Below.refl w.heap.size w)
 have GC := Lib.hid (fun W => refgcheck_calls A B W)
 have HL := Lib.hid hl
 have HN := Lib.hid hn
 have PE : Hid (plE A B l = if errG A B ≠ 0 then errG A B else if stsE l ≠ 0 then stsE l else if dupB (pls A B l) then 14 else 0) := Lib.hid rfl
 generalize plE A B l = pe at *
 clear hl hn
 by_cases hg : errG A B ≠ 0
 ·rw [if_pos hg] at PE
  have q1 : (errG A B != 0) = true := by simpa using hg
  generalize errG A B = eg at *
  clear hg
  go_enter Tryz.func34, Tryz.ntmps34
  go_wp2_with fail
  have G : Hid ((w.alloc (.cells #[.int .i64 A, .int .i64 B] 23)).heap[w.heap.size]? = some (.cells #[.int .i64 A, .int .i64 B] 23)) := Lib.hid (blk_new w _)
  replace NN : Hid (Below w.heap.size w (w.alloc (.cells #[.int .i64 A, .int .i64 B] 23))) := Lib.hid (Bal NN.out _)
  generalize (w.alloc (.cells #[.int .i64 A, .int .i64 B] 23)) = W1 at *
  refine (GC.out _).mono ?_
  rintro e w2 ⟨rfl, hb⟩
  replace NN := Lib.hid (Bgo NN.out hb)
  replace G := Lib.hid (blk_next hb G.out)
  clear hb
  have c_G_0 := blk_cell G.out 0 _ rfl
  have f_G_0 := blk_frozen G.out 0
  have c_G_1 := blk_cell G.out 1 _ rfl
  have f_G_1 := blk_frozen G.out 1
  have l_G := blk_lt G.out
  go_wp2_with fail
  refine (GC.out _).mono ?_
  rintro e w3 ⟨rfl, hb⟩
  clear c_G_0 f_G_0 c_G_1 f_G_1 l_G
  replace NN := Lib.hid (Bgo NN.out hb)
  replace G := Lib.hid (blk_next hb G.out)
  clear hb
  go_wp2_with fail
  go_ret
  exact ⟨ret_int PE.out.symm, NN.out⟩
 rw [if_neg hg] at PE
 have hg0 : errG A B = 0 := by omega
 rw [hg0] at GC
 have HG := Lib.hid hg0
 clear hg hg0
 by_cases h8 : 8 < l.length
 ·have HP : Hid (pe = 4) := Lib.hid (by rw [PE.out, show stsE l = 4 by unfold stsE; rw [if_pos h8]]; rfl)
  clear PE
  go_enter Tryz.func34, Tryz.ntmps34
  go_wp2_with fail
  have G : Hid ((w.alloc (.cells #[.int .i64 A, .int .i64 B] 23)).heap[w.heap.size]? = some (.cells #[.int .i64 A, .int .i64 B] 23)) := Lib.hid (blk_new w _)
  replace NN : Hid (Below w.heap.size w (w.alloc (.cells #[.int .i64 A, .int .i64 B] 23))) := Lib.hid (Bal NN.out _)
  generalize (w.alloc (.cells #[.int .i64 A, .int .i64 B] 23)) = W1 at *
  refine (GC.out _).mono ?_
  rintro e w2 ⟨rfl, hb⟩
  replace NN := Lib.hid (Bgo NN.out hb)
  replace G := Lib.hid (blk_next hb G.out)
  clear hb
  go_wp2_with fail
  go_ret
  exact ⟨ret_int HP.out.symm, NN.out⟩
 have YES : Hid ((∀ (j : Nat) (y : St), j < l.length → l[j]? = some y → valS y = true) → stsE l = 0) := Lib.hid (fun h => by unfold stsE; rw [if_neg h8, if_pos (all_get h)])
 have NO : Hid (∀ (k : Nat) (x : St), l[k]? = some x → valS x = false → pe = 8) := Lib.hid (fun k x h h' => by rw [PE.out, show stsE l = 8 by unfold stsE; rw [if_neg h8, if_neg (by rw [all_not h h']; simp)]]; rfl)
 have H8 := Lib.hid h8
 go_enter Tryz.func34, Tryz.ntmps34
 go_wp2_with fail
 have G : Hid ((w.alloc (.cells #[.int .i64 A, .int .i64 B] 23)).heap[w.heap.size]? = some (.cells #[.int .i64 A, .int .i64 B] 23)) := Lib.hid (blk_new w _)
 replace NN : Hid (Below w.heap.size w (w.alloc (.cells #[.int .i64 A, .int .i64 B] 23))) := Lib.hid (Bal NN.out _)
 generalize (w.alloc (.cells #[.int .i64 A, .int .i64 B] 23)) = W1 at *
 refine (GC.out _).mono ?_
 rintro e w2 ⟨rfl, hb⟩
 replace NN := Lib.hid (Bgo NN.out hb)
 replace G := Lib.hid (blk_next hb G.out)
 clear hb
 go_wp2_with fail
 go_loopw [5] (fun i wr => ∃ k : Nat, k ≤ l.length ∧ i = .int .i64 k ∧ Hid (Below w.heap.size w wr) ∧ Hid (wr.heap[w.heap.size]? = some (.cells #[.int .i64 A, .int .i64 B] 23)) ∧ Hid (∀ (j : Nat) (y : St), j < k → l[j]? = some y → valS y = true)) (fun i _ => l.length - (intOf i).toNat)
 case atStart => exact ⟨0, by omega, rfl, NN, G, Lib.hid (by omega)⟩
 case round =>
  clear NN G
  obtain ⟨k, hk, rfl, NN, G, GD⟩ := hrel
  by_cases hlt : k < l.length
  ·obtain ⟨x, hx⟩ := get_some hlt
   obtain ⟨b, off, e, hb, hc0⟩ := Rd.rec_ HL.out (Nat.le_refl _) st5_len hx
   subst e
   have c0 := (NN.out.cell (p := ⟨b, off + k * 5, none⟩) hb).trans (hc0 0 _ rfl)
   have c1 := (NN.out.cell (p := ⟨b, off + k * 5 + 1, none⟩) hb).trans (hc0 1 _ rfl)
   have c2 := (NN.out.cell (p := ⟨b, off + k * 5 + 2, none⟩) hb).trans (hc0 2 _ rfl)
   have c3 := (NN.out.cell (p := ⟨b, off + k * 5 + 3, none⟩) hb).trans (hc0 3 _ rfl)
   have c4 := (NN.out.cell (p := ⟨b, off + k * 5 + 4, none⟩) hb).trans (hc0 4 _ rfl)
   have hbr : b < wr.heap.size := Nat.lt_of_lt_of_le hb NN.out.size
   have HX := Lib.hid hx
   have kk : k + 1 ≤ l.length := hlt
   have CV := Lib.hid (fun W => refValid_calls x W (HN.out x (List.mem_of_getElem? hx)))
   clear hc0 hx hb
   go_wp2_with fail
   refine (CV.out _).mono ?_
   rintro e w3 ⟨rfl, hb⟩
   replace NN := Lib.hid (Bgo NN.out hb)
   replace G := Lib.hid (blk_next hb G.out)
   clear hb
   clear hbr c0 c1 c2 c3 c4
   cases hp : valS x
   ·have FV := Lib.hid (NO.out k x HX.out hp)
    clear GD YES NO HX hp
    go_wp2_with fail
    go_ret
    exact ⟨ret_int FV.out.symm, NN.out⟩
   ·have G2 := Lib.hid (take_all HX.out GD.out hp)
    clear GD YES NO HX hp
    go_wp2_with fail
    go_roundw
    case rel => exact ⟨k + 1, kk, by go_num, NN, G, G2⟩
    case measure => simp [intOf]; omega
  ·obtain rfl : k = l.length := by omega
   have S0 := Lib.hid (YES.out GD.out)
   have HV := Lib.hid (stsE_ok S0.out).2
   clear GD YES NO hk hlt
   rw [S0.out, if_neg (by simp)] at PE
   have CA := Lib.hid (fun (W : World) (hb : Below w.heap.size w W) => all_calls (A := A) (B := B) (w := W) (HL.out.next hb) hc hc' HG.out HV.out (by have := H8.out; omega))
   have c_G_0 := blk_cell G.out 0 _ rfl
   have f_G_0 := blk_frozen G.out 0
   have c_G_1 := blk_cell G.out 1 _ rfl
   have f_G_1 := blk_frozen G.out 1
   have l_G := blk_lt G.out
   go_wp2_with fail
   clear c_G_0 f_G_0 c_G_1 f_G_1 l_G
   refine (CA.out _ NN.out).mono ?_
   rintro e w4 ⟨v, rfl, ov, hb⟩
   replace NN := Lib.hid (Bgo NN.out hb)
   replace G := Lib.hid (blk_next hb G.out)
   clear hb
   have OV := Lib.hid ov
   clear ov
   go_wp2_with fail
   obtain ⟨BO, OV⟩ : ∃ BO, Hid (OVe BO w4 v (l.map (plV A B))) := ⟨_, OV⟩
   go_loopw [7] (fun i wr => ∃ i' : Nat, i' ≤ l.length ∧ i = .int .i64 i' ∧ Hid (Below w.heap.size w wr) ∧ Hid (OVe BO wr v (l.map (plV A B))) ∧ Hid (∀ s t p q, t < s → s < i' → (pls A B l)[s]? = some p → (pls A B l)[t]? = some q → dupP q p = false)) (fun i _ => l.length - (intOf i).toNat)
   case atStart => exact ⟨0, by omega, rfl, NN, OV, Lib.hid (by omega)⟩
   case round =>
    skip
    clear NN OV G
    obtain ⟨i, hi, rfl, NN, OV, GD⟩ := hrel
    by_cases hlt : i < l.length
    ·obtain ⟨s, hs⟩ := get_some hlt
     have HS := Lib.hid hs
     have HP := Lib.hid (pls_get (A := A) (B := B) hs)
     have kk : i + 1 ≤ l.length := hlt
     have hltc : (i : Int) < (l.length : Int) := by omega
     have HLT := Lib.hid hlt
     clear hs hlt
     go_wp2_with fail
     go_loopw [8] (fun i9 wr => ∃ k : Nat, k ≤ i ∧ i9 = .int .i64 k ∧ Hid (Below w.heap.size w wr) ∧ Hid (OVe BO wr v (l.map (plV A B))) ∧ Hid (∀ t q, t < k → (pls A B l)[t]? = some q → dupP q (s, plV A B s) = false)) (fun i9 _ => i - (intOf i9).toNat)
     case atStart => exact ⟨0, by omega, rfl, NN, OV, Lib.hid (by omega)⟩
     case round =>
      clear NN OV
      obtain ⟨k, hk, rfl, NN, OV, GK9⟩ := hrel
      by_cases hlt : k < i
      ·obtain ⟨t, ht⟩ := get_some (show k < l.length by have := HLT.out; omega)
       have HQ := Lib.hid (pls_get (A := A) (B := B) ht)
       obtain ⟨b, off, e, hb, h1, h2⟩ := Rd.rec2 HL.out (Nat.le_refl _) st5_len HS.out ht
       subst e
       have ci0 := (NN.out.cell (p := ⟨b, off + i * 5, none⟩) hb).trans (h1 0 _ rfl)
       have ck0 := (NN.out.cell (p := ⟨b, off + k * 5, none⟩) hb).trans (h2 0 _ rfl)
       have hbr : b < wr.heap.size := Nat.lt_of_lt_of_le hb NN.out.size
       obtain ⟨A1, c1, hv1, hn1, hc1, hr1⟩ := Rd.of_own OV.out
       rw [List.length_map] at hv1 hn1 hr1
       subst hv1
       obtain ⟨b2, off2, e2, hb2, h3, h4⟩ := Rd.rec2 hr1 (by simp) v6_len (show (l.map (plV A B))[i]? = some (plV A B s) by rw [List.getElem?_map, HS.out]; rfl) (show (l.map (plV A B))[k]? = some (plV A B t) by rw [List.getElem?_map, ht]; rfl)
       subst e2
       have vi0 := h3 0 _ rfl
       have vi1 := h3 1 _ rfl
       have vi2 := h3 2 _ rfl
       have vi3 := h3 3 _ rfl
       have vi4 := h3 4 _ rfl
       have vi5 := h3 5 _ rfl
       have vk0 := h4 0 _ rfl
       have vk1 := h4 1 _ rfl
       have vk2 := h4 2 _ rfl
       have vk3 := h4 3 _ rfl
       have vk4 := h4 4 _ rfl
       have vk5 := h4 5 _ rfl
       simp only [Nat.add_zero] at vi0 vk0
       have HK := Lib.hid hlt
       have kn1 : k + 1 ≤ i := hlt
       have kn2 : (k : Int) < (i : Int) := by omega
       have kn3 : (k : Int) < (l.length : Int) := by have := HLT.out; omega
       have kn4 : (0 : Int) ≤ (k : Int) := by omega
       have kn5 : (0 : Int) ≤ (i : Int) := by omega
       clear h1 h2 h3 h4 hr1 ht hlt hb
       generalize plV A B s = sv at *
       generalize plV A B t = tv at *
       cases hnm : (s.nm.toList == t.nm.toList)
       ·cases hve : decide (sv = tv)
        ·have HD : Hid (dupP (s, sv) (t, tv) = false) := Lib.hid (by unfold dupP; rw [hnm, hve]; rfl)
         go_wp2_with fail
         go_quiet (fail)
         clear ci0 ck0 hbr vi0 vk0 vi1 vk1 vi2 vk2 vi3 vk3 vi4 vk4 vi5 vk5 kn2 kn3 kn4 kn5 hb2
         replace NN := Lib.hid (below_drewN NN.out nq)
         replace OV := Lib.hid (own_drewN OV.out nq)
         have G2 : Hid (∀ t' q, t' < k + 1 → (pls A B l)[t']? = some q → dupP q (s, sv) = false) := Lib.hid (fun t' q ht' hq => by
          by_cases e : t' = k
          ·subst e; rw [HQ.out] at hq; cases hq; rw [dupP_comm]; exact HD.out
          ·exact GK9.out t' q (by omega) hq)
         clear GK9
         go_wp2_with fail
         go_roundw
         case rel => exact ⟨k + 1, kn1, by go_num, NN, OV, G2⟩
         case measure => simp [intOf]; omega
        ·have HD : Hid (dupP (s, sv) (t, tv) = true) := Lib.hid (by unfold dupP; rw [hnm, hve]; rfl)
         go_wp2_with fail
         go_quiet (fail)
         clear ci0 ck0 hbr vi0 vk0 vi1 vk1 vi2 vk2 vi3 vk3 vi4 vk4 vi5 vk5 kn2 kn3 kn4 kn5 hb2
         replace NN := Lib.hid (below_drewN NN.out nq)
         replace OV := Lib.hid (own_drewN OV.out nq)
         have HP9 : Hid (pe = 14) := Lib.hid (by rw [PE.out, if_pos (dupB_iff.2 ⟨k, i, _, _, HK.out, HQ.out, HP.out, by rw [dupP_comm]; exact HD.out⟩)])
         clear PE GD GK9
         go_wp2_with fail
         go_ret
         exact ⟨ret_int HP9.out.symm, NN.out⟩
       ·have HD : Hid (dupP (s, sv) (t, tv) = true) := Lib.hid (by unfold dupP; rw [hnm]; rfl)
        go_wp2_with fail
        go_quiet (fail)
        clear ci0 ck0 hbr vi0 vk0 vi1 vk1 vi2 vk2 vi3 vk3 vi4 vk4 vi5 vk5 kn2 kn3 kn4 kn5 hb2
        replace NN := Lib.hid (below_drewN NN.out nq)
        replace OV := Lib.hid (own_drewN OV.out nq)
        have HP9 : Hid (pe = 14) := Lib.hid (by rw [PE.out, if_pos (dupB_iff.2 ⟨k, i, _, _, HK.out, HQ.out, HP.out, by rw [dupP_comm]; exact HD.out⟩)])
        clear PE GD GK9
        go_wp2_with fail
        go_ret
        exact ⟨ret_int HP9.out.symm, NN.out⟩
      ·obtain rfl : k = i := by omega
       have G2 : Hid (∀ s t p q, t < s → s < (k + 1) → (pls A B l)[s]? = some p → (pls A B l)[t]? = some q → dupP q p = false) := Lib.hid (fun s' t' p q h1 h2 h3 h4 => by
        by_cases e : s' = k
        ·subst e; rw [HP.out] at h3; cases h3; exact GK9.out t' q h1 h4
        ·exact GD.out s' t' p q h1 (by omega) h3 h4)
       clear GK9 GD
       go_wp2_with fail
       go_roundw
       case rel => exact ⟨k + 1, kk, by go_num, NN, OV, G2⟩
       case measure => have := HLT.out; simp [intOf]; omega
    ·obtain rfl : i = l.length := by omega
     have HD : dupB (pls A B l) = false := by
      cases hd : dupB (pls A B l)
      ·rfl
      ·obtain ⟨i, j, p, q, h1, h2, h3, h4⟩ := dupB_iff.1 hd
       have h5 := GD.out j i q p h1 (by have := get_lt h3; unfold pls at this; simpa using this) h3 h2
       rw [h4] at h5; cases h5
     have HP9 : Hid (pe = 0) := Lib.hid (by rw [PE.out, HD]; rfl)
     clear PE GD HD
     go_wp2_with fail
     go_ret
     exact ⟨ret_int HP9.out.symm, NN.out⟩
set_option maxRecDepth 100000 in
set_option maxHeartbeats 8000000 in
theorem rplaces_calls {A B : Int} {a : Option Addr} {c : Nat} {l : List St} {w : World} (hl : RSt w a l) (hc : l.length ≤ c) (hc' : c ≤ 9223372036854775807) (hn : ∀ x ∈ l, x.nm.size ≤ 9223372036854775807) : Calls Tryz.prog 47 #[Gv A B, .slice a l.length c] w fun e w' =>
  ∃ v, e = .returned (.tuple #[v, .int .i64 (plE A B l)]) ∧ Below w.heap.size w w' ∧ (plE A B l ≠ 0 → v = .slice none 0 0) ∧ (plE A B l = 0 → OVe w.heap.size w' v (l.map (plV A B))) := by
 have NN := Lib.hid (Below.refl w.heap.size w)
 have CC := Lib.hid (fun (W : World) (hb : Below w.heap.size w W) => rcheck_calls (A := A) (B := B) (w := W) (hl.next hb) hc hc' hn)
 have CA := Lib.hid (fun (h : plE A B l = 0) (W : World) (hb : Below w.heap.size w W) => all_calls (A := A) (B := B) (w := W) (hl.next hb) hc hc' (plE_ok h).1 (stsE_ok (plE_ok h).2.1).2 (Nat.le_trans (stsE_ok (plE_ok h).2.1).1 (by decide)))
 obtain ⟨pe, hpe⟩ : ∃ pe, plE A B l = pe := ⟨_, rfl⟩
 simp only [hpe] at CC CA ⊢
 clear hl hn hpe
 go_enter Tryz.func47, Tryz.ntmps47
 go_wp2_with fail
 have G : Hid ((w.alloc (.cells #[.int .i64 A, .int .i64 B] 23)).heap[w.heap.size]? = some (.cells #[.int .i64 A, .int .i64 B] 23)) := Lib.hid (blk_new w _)
 replace NN : Hid (Below w.heap.size w (w.alloc (.cells #[.int .i64 A, .int .i64 B] 23))) := Lib.hid (Bal NN.out _)
 generalize (w.alloc (.cells #[.int .i64 A, .int .i64 B] 23)) = W1 at *
 refine (CC.out _ NN.out).mono ?_
 rintro e w2 ⟨rfl, hb⟩
 replace NN := Lib.hid (Bgo NN.out hb)
 replace G := Lib.hid (blk_next hb G.out)
 clear hb
 by_cases he : pe ≠ 0
 ·have q1 : (pe != 0) = true := by simpa using he
  have HE := Lib.hid he
  clear he CA
  have c_G_0 := blk_cell G.out 0 _ rfl
  have f_G_0 := blk_frozen G.out 0
  have c_G_1 := blk_cell G.out 1 _ rfl
  have f_G_1 := blk_frozen G.out 1
  have l_G := blk_lt G.out
  go_wp2_with fail
  clear c_G_0 f_G_0 c_G_1 f_G_1 l_G
  refine (CC.out _ NN.out).mono ?_
  rintro e w3 ⟨rfl, hb⟩
  replace NN := Lib.hid (Bgo NN.out hb)
  replace G := Lib.hid (blk_next hb G.out)
  clear hb
  go_wp2_with fail
  refine bodyPost_ret (v := .tuple #[.slice none 0 0, .int .i64 pe]) (by simp [results, Tryz.results47, go_sem]) rfl ⟨_, rfl, NN.out, fun _ => rfl, fun h => absurd h HE.out⟩
 have he0 : pe = 0 := by omega
 have HE := Lib.hid he0
 have q1 : (pe != 0) = false := by simpa using he0
 clear he he0 CC
 have c_G_0 := blk_cell G.out 0 _ rfl
 have f_G_0 := blk_frozen G.out 0
 have c_G_1 := blk_cell G.out 1 _ rfl
 have f_G_1 := blk_frozen G.out 1
 have l_G := blk_lt G.out
 go_wp2_with fail
 clear c_G_0 f_G_0 c_G_1 f_G_1 l_G
 have WB := Lib.hid NN.out.size
 refine (CA.out HE.out _ NN.out).mono ?_
 rintro e w4 ⟨v, rfl, ov, hb⟩
 replace NN := Lib.hid (Bgo NN.out hb)
 replace G := Lib.hid (blk_next hb G.out)
 clear hb
 have OV := Lib.hid ov
 clear ov
 go_wp2_with fail
 refine bodyPost_ret (v := .tuple #[v, .int .i64 0]) (by simp [results, Tryz.results47, go_sem]) rfl ⟨_, by rw [HE.out], NN.out, fun h => absurd HE.out h, fun _ => own_mono OV.out WB.out⟩
end Go.Proofs.YtfangplfbbgphaaGreatDoor
namespace Go.Proofs.YtfangplfbbgphaaGreatDoor
open Go.ChangeShapes Go.WideShapes Go.ChangeAt Go.RowKit
set_option linter.unusedVariables false
set_option maxRecDepth 100000
set_option linter.unusedSimpArgs false
attribute [local go_sem ↓] Go.wp_at_zero Go.wp_at_succ
theorem eqVe_self (a : V6) (w : World) : (Op.equalIn 10000 38 (Vv a) (Vv a)).run Tryz.prog w = .ok true w := by
 rw [eqVe]; simp
theorem eqSt_self (a : St) (w : World) : (Op.equalIn 10000 69 (Sv a) (Sv a)).run Tryz.prog w = .ok true w := by
 obtain ⟨a1, a2, a3, a4, a5⟩ := a
 have uu := Tryz.underlying2
 have ua := Tryz.isAgg2
 have uz := Tryz.sizeOf2
 have su := Tryz.underlying9
 have sa := Tryz.isAgg9
 have sz := Tryz.sizeOf9
 have fu := Tryz.underlying36
 rw [show (10000 : Nat) = 9999 + 1 from rfl, Op.equalIn]
 simp only [Sem.run_bind, run_underlying Tryz.underlying69, Result.andThen_ok]
 go_simp
theorem eqPr_self (a b : Int) (w : World) : (Op.equalIn 10000 43 (.agg #[.int .i64 a, .int .i64 b]) (.agg #[.int .i64 a, .int .i64 b])).run Tryz.prog w = .ok true w := by
 have uu := Tryz.underlying3
 have ua := Tryz.isAgg3
 have uz := Tryz.sizeOf3
 rw [show (10000 : Nat) = 9999 + 1 from rfl, Op.equalIn]
 simp only [Sem.run_bind, run_underlying Tryz.underlying43, Result.andThen_ok]
 go_simp
attribute [local go_sem ↓] eqVe_self eqSt_self eqPr_self
theorem info_bool : (Tryz.prog.info? 4).map (fun i => (i.zero, i.size, i.bytes)) = some (some (.bool false), 1, 1) := by kernel_rfl
theorem make_bools (n : Nat) (h : n ≤ 1000) (W : World) : (Instr.makeSlice 105 (.int .i64 (n : Int)) (.int .i64 (n : Int))).run Tryz.prog W = .ok (.slice (some ⟨W.heap.size, 0, none⟩) n n) (W.alloc (.cells (madeCells #[.bool false] n) 4)) := by
 obtain ⟨i, hi, hz, hs, hb⟩ := info_parts info_bool
 have h1 := run_make (P := Tryz.prog) W 105 4 i _ Tryz.underlying105 hi hz .i64 .i64 (n : Int) (n : Int) (by omega) (by omega) (by rw [hb]; omega) (by omega)
 rw [hs, Int.toNat_natCast, Nat.mul_one] at h1
 exact h1
theorem made_bools (n : Nat) : (madeCells #[.bool false] n) = (List.replicate n (.bool false)).toArray := by
 apply Array.ext
 ·simp [madeCells]
 ·intro i h1 h2; simp [madeCells, Nat.mod_one]
set_option maxRecDepth 100000 in
set_option maxHeartbeats 4000000 in
theorem sameP_calls (A A' : Option Addr) (c c' : Nat) (l : List (Nat × Nat)) (w : World) (h : Rd w 2 A l.length (l.flatMap pr2)) (h' : Rd w 2 A' l.length (l.flatMap pr2)) (hc : l.length ≤ c) (hc1 : c ≤ 9223372036854775807) (hc' : l.length ≤ c') (hc1' : c' ≤ 9223372036854775807) :
  Calls Tryz.prog 32 #[.slice A l.length c, .slice A' l.length c'] w fun e w' => e = .returned (.bool true) ∧ Below w.heap.size w w' := by
 have H1 := Lib.hid h
 have H2 := Lib.hid h'
 clear h h'
 go_enter Tryz.func32, Tryz.ntmps32
 go_wp2_with fail
 go_loopw [5] (fun i wr => ∃ k : Nat, k ≤ l.length ∧ i = .int .i64 k ∧ Hid (Below w.heap.size w wr)) (fun i _ => l.length - (intOf i).toNat)
 case atStart => exact ⟨0, by omega, rfl, Lib.hid (Below.refl _ _)⟩
 case round =>
  obtain ⟨k, hk, rfl, NN⟩ := hrel
  by_cases hlt : k < l.length
  ·obtain ⟨x, hx⟩ := get_some hlt
   obtain ⟨b, off, e, hb, hc0⟩ := Rd.rec_ H1.out (Nat.le_refl _) pr2_len hx
   obtain ⟨b', off', e', hb', hc0'⟩ := Rd.rec_ H2.out (Nat.le_refl _) pr2_len hx
   subst e e'
   have c0 := (NN.out.cell (p := ⟨b, off + k * 2, none⟩) hb).trans (hc0 0 _ rfl)
   have d0 := (NN.out.cell (p := ⟨b', off' + k * 2, none⟩) hb').trans (hc0' 0 _ rfl)
   have c1 := (NN.out.cell (p := ⟨b, off + k * 2 + 1, none⟩) hb).trans (hc0 1 _ rfl)
   have d1 := (NN.out.cell (p := ⟨b', off' + k * 2 + 1, none⟩) hb').trans (hc0' 1 _ rfl)
   have hbr : b < wr.heap.size := Nat.lt_of_lt_of_le hb NN.out.size
   have hbr' : b' < wr.heap.size := Nat.lt_of_lt_of_le hb' NN.out.size
   have kk : k + 1 ≤ l.length := hlt
   have k1 : (k : Int) < (l.length : Int) := by omega
   clear hc0 hc0' hx hlt hb hb'
   go_wp2_with fail
   go_quiet (fail)
   replace NN := Lib.hid (below_drewN NN.out nq)
   clear c0 d0 c1 d1
   go_wp2_with fail
   go_roundw
   case rel => exact ⟨k + 1, kk, by go_num, NN⟩
   case measure => simp [intOf]; omega
  ·obtain rfl : k = l.length := by omega
   go_wp2_with fail
   go_ret
   exact ⟨rfl, NN.out⟩
set_option maxRecDepth 100000 in
set_option maxHeartbeats 4000000 in
theorem sameS_calls (A A' : Option Addr) (c c' : Nat) (l : List St) (w : World) (h : Rd w 5 A l.length (l.flatMap st5)) (h' : Rd w 5 A' l.length (l.flatMap st5)) (hc : l.length ≤ c) (hc1 : c ≤ 9223372036854775807) (hc' : l.length ≤ c') (hc1' : c' ≤ 9223372036854775807) :
  Calls Tryz.prog 23 #[.slice A l.length c, .slice A' l.length c'] w fun e w' => e = .returned (.bool true) ∧ Below w.heap.size w w' := by
 have H1 := Lib.hid h
 have H2 := Lib.hid h'
 clear h h'
 go_enter Tryz.func23, Tryz.ntmps23
 go_wp2_with fail
 go_loopw [5] (fun i wr => ∃ k : Nat, k ≤ l.length ∧ i = .int .i64 k ∧ Hid (Below w.heap.size w wr)) (fun i _ => l.length - (intOf i).toNat)
 case atStart => exact ⟨0, by omega, rfl, Lib.hid (Below.refl _ _)⟩
 case round =>
  obtain ⟨k, hk, rfl, NN⟩ := hrel
  by_cases hlt : k < l.length
  ·obtain ⟨x, hx⟩ := get_some hlt
   obtain ⟨b, off, e, hb, hc0⟩ := Rd.rec_ H1.out (Nat.le_refl _) st5_len hx
   obtain ⟨b', off', e', hb', hc0'⟩ := Rd.rec_ H2.out (Nat.le_refl _) st5_len hx
   subst e e'
   have c0 := (NN.out.cell (p := ⟨b, off + k * 5, none⟩) hb).trans (hc0 0 _ rfl)
   have d0 := (NN.out.cell (p := ⟨b', off' + k * 5, none⟩) hb').trans (hc0' 0 _ rfl)
   have c1 := (NN.out.cell (p := ⟨b, off + k * 5 + 1, none⟩) hb).trans (hc0 1 _ rfl)
   have d1 := (NN.out.cell (p := ⟨b', off' + k * 5 + 1, none⟩) hb').trans (hc0' 1 _ rfl)
   have c2 := (NN.out.cell (p := ⟨b, off + k * 5 + 2, none⟩) hb).trans (hc0 2 _ rfl)
   have d2 := (NN.out.cell (p := ⟨b', off' + k * 5 + 2, none⟩) hb').trans (hc0' 2 _ rfl)
   have c3 := (NN.out.cell (p := ⟨b, off + k * 5 + 3, none⟩) hb).trans (hc0 3 _ rfl)
   have d3 := (NN.out.cell (p := ⟨b', off' + k * 5 + 3, none⟩) hb').trans (hc0' 3 _ rfl)
   have c4 := (NN.out.cell (p := ⟨b, off + k * 5 + 4, none⟩) hb).trans (hc0 4 _ rfl)
   have d4 := (NN.out.cell (p := ⟨b', off' + k * 5 + 4, none⟩) hb').trans (hc0' 4 _ rfl)
   have hbr : b < wr.heap.size := Nat.lt_of_lt_of_le hb NN.out.size
   have hbr' : b' < wr.heap.size := Nat.lt_of_lt_of_le hb' NN.out.size
   have kk : k + 1 ≤ l.length := hlt
   have k1 : (k : Int) < (l.length : Int) := by omega
   clear hc0 hc0' hx hlt hb hb'
   go_wp2_with fail
   go_quiet (fail)
   replace NN := Lib.hid (below_drewN NN.out nq)
   clear c0 d0 c1 d1 c2 d2 c3 d3 c4 d4
   go_wp2_with fail
   go_roundw
   case rel => exact ⟨k + 1, kk, by go_num, NN⟩
   case measure => simp [intOf]; omega
  ·obtain rfl : k = l.length := by omega
   go_wp2_with fail
   go_ret
   exact ⟨rfl, NN.out⟩
end Go.Proofs.YtfangplfbbgphaaGreatDoor
namespace Go.Proofs.YtfangplfbbgphaaGreatDoor
open Go.ChangeShapes Go.WideShapes Go.ChangeAt Go.RowKit
set_option linter.unusedVariables false
set_option maxRecDepth 100000
set_option linter.unusedSimpArgs false
attribute [local go_sem ↓] Go.wp_at_zero Go.wp_at_succ
def zS : St := ⟨⟨#[]⟩, 0, 0, 0, 0⟩
theorem infoS : (Tryz.prog.info? 69).map (fun i => (i.zero, i.size, i.bytes)) = some (some (.agg #[.string ⟨#[]⟩, .int .i64 0, .int .i64 0, .int .i64 0, .int .i64 0]), 5, 48) := by kernel_rfl
theorem und_sites : Tryz.prog.underlying 24 = some (.slice 69) := by kernel_rfl
abbrev OSt (B : Nat) (w : World) (v : Value) (l : List St) : Prop := w.ownsRow B 69 5 v l.length (l.flatMap st5)
theorem ost_nil (B : Nat) (w : World) : w.ownsRow B 69 5 (.slice none 0 0) 0 [] := World.ownsRow_nil _ _ _ _
end Go.Proofs.YtfangplfbbgphaaGreatDoor
namespace Go.Proofs.YtfangplfbbgphaaGreatDoor
open Go.ChangeShapes Go.WideShapes Go.ChangeAt Go.RowKit
set_option linter.unusedVariables false
set_option maxRecDepth 100000
set_option linter.unusedSimpArgs false
attribute [local go_sem ↓] Go.wp_at_zero Go.wp_at_succ
attribute [local go_sem] Oper.semAt_some
theorem infoR : (Tryz.prog.info? 43).map (fun i => (i.zero, i.size, i.bytes)) = some (some (.agg #[.int .i64 0, .int .i64 0]), 2, 16) := by kernel_rfl
theorem und_prs : Tryz.prog.underlying 31 = some (.slice 43) := by kernel_rfl
abbrev OPr (B : Nat) (w : World) (v : Value) (l : List (Nat × Nat)) : Prop := w.ownsRow B 43 2 v l.length (l.flatMap pr2)
theorem opr_nil (B : Nat) (w : World) : w.ownsRow B 43 2 (.slice none 0 0) 0 [] := World.ownsRow_nil _ _ _ _
theorem prs_take {n k : Nat} {p : Nat × Nat} (h : (prs n)[k]? = some p) : (prs n).take (k + 1) = (prs n).take k ++ [p] := by
 have hlt := get_lt h
 rw [List.take_succ_eq_append_getElem hlt]
 rw [List.getElem?_eq_getElem hlt] at h
 rw [Option.some.inj h]
theorem prs_len8 {n : Nat} (h : n < 9) : (prs n).length ≤ 28 := by
 have hn : n = 0 ∨ n = 1 ∨ n = 2 ∨ n = 3 ∨ n = 4 ∨ n = 5 ∨ n = 6 ∨ n = 7 ∨ n = 8 := by omega
 rcases hn with rfl | rfl | rfl | rfl | rfl | rfl | rfl | rfl | rfl <;> decide
theorem own_keeps {B : Nat} {w w' : World} {e : TypeId} {sz n : Nat} {v : Value} {xs : List Value} (h : w.ownsRow B e sz v n xs) (hg : w.grownBy w' v.ownBlock) : KeepsOthers w w' := by
 refine KeepsOthers.of_grownBy hg fun j o e hj => ?_
 rcases h.2 with ⟨h5, _⟩ | ⟨g, cap', cur, hv, hb, h3, _⟩
 ·rw [h5] at e; cases e
 ·rw [hv] at e
  simp [Value.ownBlock] at e
  subst e
  rw [h3] at hj
  cases hj
  rfl
theorem own_rowG {B B' : Nat} {β : Type} (e : TypeId) (sz : Nat) (v : β → Value) (n : β → Nat) (xs : β → List Value) : OwnFrom B (fun k W => W.ownsRow B' e sz (v k) (n k) (xs k)) := by
 intro s W W' row h hg hr
 refine ⟨h.1, ?_⟩
 rcases h.2 with h2 | ⟨g, cap, cur, h1, h2, h3, h4⟩
 ·exact .inl h2
 ·refine .inr ⟨g, cap, cur, h1, h2, (hg.block g (blk_lt h3) fun e => ?_).trans h3, h4⟩
  obtain ⟨_, o, ho, hc⟩ := hr g e.symm
  rw [h3] at ho
  cases ho
  cases hc
theorem own_set_other {B : Nat} {w : World} {e : TypeId} {sz n : Nat} {v : Value} {xs : List Value} (h : w.ownsRow B e sz v n xs) {b : Nat} (hb : b < B) (off : Nat) (x : Value) : (w.setCell ⟨b, off, none⟩ x).ownsRow B e sz v n xs := by
 refine ⟨h.1, ?_⟩
 rcases h.2 with h2 | ⟨g, cap, cur, h1, h2, h3, h4⟩
 ·exact .inl h2
 ·exact .inr ⟨g, cap, cur, h1, h2, blk_set_other h3 (by omega) off x, h4⟩
set_option maxRecDepth 100000 in
set_option maxHeartbeats 8000000 in
theorem rpairs_calls (n : Int) (w : World) : Calls Tryz.prog 48 #[.int .i64 n] w fun e w' =>
  ∃ v, e = .returned (.tuple #[v, .int .i64 (prE n)]) ∧ Below w.heap.size w w' ∧ (prE n ≠ 0 → v = .slice none 0 0) ∧ (prE n = 0 → OPr w.heap.size w' v (prs n.toNat)) := by
 have hc : n < 0 ∨ 8 < n ∨ (0 ≤ n ∧ n ≤ 8) := by omega
 rcases hc with h | h | ⟨h, h1⟩
 ·have HE : Hid (prE n = 2) := Lib.hid (by unfold prE; rw [if_pos (by omega)])
  generalize prE n = pe at *
  have d1 : decide (n < 0) = true := decide_eq_true h
  clear h
  go_enter Tryz.func48, Tryz.ntmps48
  go_wp2_with fail
  refine bodyPost_ret (v := .tuple #[.slice none 0 0, .int .i64 2]) (by simp [results, Tryz.results48, go_sem]) rfl ⟨_, by rw [HE.out], Below.refl _ _, fun _ => rfl, fun h => absurd (HE.out.symm.trans h) (by decide)⟩
 ·have HE : Hid (prE n = 2) := Lib.hid (by unfold prE; rw [if_pos (by omega)])
  generalize prE n = pe at *
  have d1 : decide (n < 0) = false := decide_eq_false (by omega)
  have d2 : decide ((8 : Int) < n) = true := decide_eq_true h
  clear h
  go_enter Tryz.func48, Tryz.ntmps48
  go_wp2_with fail
  refine bodyPost_ret (v := .tuple #[.slice none 0 0, .int .i64 2]) (by simp [results, Tryz.results48, go_sem]) rfl ⟨_, by rw [HE.out], Below.refl _ _, fun _ => rfl, fun h => absurd (HE.out.symm.trans h) (by decide)⟩
 obtain ⟨m, rfl⟩ := Int.eq_ofNat_of_zero_le h
 have h9 : m < 9 := by omega
 have HE : Hid (prE (m : Int) = 0) := Lib.hid (by unfold prE; rw [if_neg (by omega)])
 generalize prE (m : Int) = pe at *
 have d1 : decide ((m : Int) < 0) = false := decide_eq_false (by omega)
 have d2 : decide ((8 : Int) < (m : Int)) = false := decide_eq_false (by omega)
 have d3 : (8 < m) = False := by simp; omega
 obtain ⟨p0, pl, pa⟩ := pix_all h9
 have P0 := Lib.hid p0
 have PL := Lib.hid pl
 have PA := Lib.hid pa
 have L28 := Lib.hid (prs_len8 h9)
 obtain ⟨i0, hi, hz, hs0, hb0⟩ := info_parts infoR
 have HI := Lib.hid (And.intro hi (And.intro hz (And.intro hs0 hb0)))
 simp only [Int.toNat_natCast]
 clear p0 pl pa hi hz hs0 hb0 h h1
 go_enter Tryz.func48, Tryz.ntmps48
 go_wp2_with fail
 clear d1 d2 d3
 have OV : Hid (OPr w.heap.size w (.slice none 0 0) ((prs m).take (pix m 0 1))) := Lib.hid (by rw [P0.out]; exact opr_nil _ _)
 go_loopw [4, 5] (fun v i wr => ∃ k : Nat, k ≤ m ∧ i = .int .i64 k ∧ Hid (Below w.heap.size w wr) ∧ Hid (OPr w.heap.size wr v ((prs m).take (pix m k (k + 1))))) (fun v i _ => m - (intOf i).toNat)
 case atStart => exact ⟨0, by omega, rfl, Lib.hid (Below.refl _ _), OV⟩
 case round =>
  clear OV
  obtain ⟨k, hk, rfl, NN, OV⟩ := hrel
  by_cases hlt : k < m
  ·have HLT := Lib.hid hlt
   go_wp2_with fail
   go_loopw [4, 6] (fun v i wr => ∃ j : Nat, k + 1 ≤ j ∧ j ≤ m ∧ i = .int .i64 j ∧ Hid (Below w.heap.size w wr) ∧ Hid (OPr w.heap.size wr v ((prs m).take (pix m k j)))) (fun v i _ => m - (intOf i).toNat)
   case atStart => exact ⟨k + 1, Nat.le_refl _, hlt, by simp, NN, OV⟩
   case round =>
    clear NN OV
    obtain ⟨j, hj1, hj2, rfl, NN, OV⟩ := hrel
    by_cases hjn : j < m
    ·obtain ⟨g1, g2⟩ := (PA.out k HLT.out).2.2 j hjn (by omega)
     have G2 := Lib.hid g2
     have PT := Lib.hid (prs_take g1)
     have hlen : ((prs m).take (pix m k j)).length = pix m k j := by rw [List.length_take]; have := get_lt g1; omega
     have hpl := get_lt g1
     obtain ⟨A0, c0, hv0, hn0, hc1, -⟩ := Rd.of_own OV.out
     rw [hlen] at hv0 hn0
     have H63 : Hid (((prs m).take (pix m k j)).length + 1 ≤ maxLen) := Lib.hid (by have := L28.out; rw [hlen]; simp [maxLen]; omega)
     have H64 : Hid ((((prs m).take (pix m k j)).length + 1) * 16 ≤ 140737488355328) := Lib.hid (by have := L28.out; rw [hlen]; omega)
     have H5 : Hid (w.heap.size ≤ (wr.alloc (.cells #[.int .i64 (k : Int), .int .i64 (j : Int)] 43)).heap.size) := Lib.hid (by rw [World.size_alloc]; have := NN.out.size; omega)
     subst hv0
     clear g1 g2 hlen hpl hn0 hc1
     go_wp2_with (at_builtin; refine wpList_append_rd _ rfl _ _ 31 rfl w.heap.size 43 i0 (.agg #[.int .i64 0, .int .i64 0]) 2 16 und_prs HI.out.1 HI.out.2.1 HI.out.2.2.1 HI.out.2.2.2 rfl (by decide) (.slice A0 (pix m k j) c0) _ _ rfl (World.ownsRow.alloc OV.out _) (some ⟨wr.heap.size, 0, none⟩) 1 1 (pr2 (k, j)) rfl (Rd.blk (T := 43) (blk_new wr _) rfl) (pr2_one (k, j)) H63.out H64.out H5.out ?_; intro v9 w9 o9 g9 hat9)
     have BG := Lib.hid (own_grown (World.ownsRow.alloc OV.out _) g9 H5.out)
     have O9 : Hid (OPr w.heap.size w9 v9 ((prs m).take (pix m k (j + 1)))) := Lib.hid (by unfold OPr; rw [G2.out, PT.out, List.flatMap_append, List.length_append]; simpa using o9)
     have N9 := Lib.hid ((Bal NN.out (.cells #[.int .i64 (k : Int), .int .i64 (j : Int)] 43)).trans BG.out)
     go_roundw
     case rel => exact ⟨j + 1, by omega, by omega, by go_num, N9, O9⟩
     case measure => simp [intOf]; omega
    ·obtain rfl : j = m := by omega
     go_wp2_with fail
     go_roundw
     case rel => exact ⟨k + 1, HLT.out, by go_num, NN, Lib.hid (by rw [← (PA.out k HLT.out).1]; exact OV.out)⟩
     case measure => have := HLT.out; simp [intOf]; omega
  ·obtain rfl : k = m := by omega
   rw [PL.out, List.take_length] at OV
   go_wp2_with fail
   refine bodyPost_ret (by simp [results, Tryz.results48, go_sem]; rfl) rfl ⟨_, by rw [HE.out], NN.out, fun h => absurd HE.out h, fun _ => OV.out⟩
end Go.Proofs.YtfangplfbbgphaaGreatDoor
namespace Go.Proofs.YtfangplfbbgphaaGreatDoor
open Go.ChangeShapes Go.WideShapes Go.ChangeAt Go.RowKit
set_option linter.unusedVariables false
set_option maxRecDepth 100000
set_option linter.unusedSimpArgs false
abbrev Cl : Type := V6 × List (Nat × Nat)
def hitC (v b : V6) (c : Cl) : Bool := decide (c.1 = v) || decide (c.1 = b)
def putC (p : Nat × Nat) (v b : V6) : List Cl → List Cl
 | [] => [(v, [p])]
 | c :: cs => if hitC v b c then (c.1, c.2 ++ [p]) :: cs else c :: putC p v b cs
theorem putC_none {p : Nat × Nat} {v b : V6} : ∀ {cs : List Cl}, (∀ (j : Nat) (c : Cl), cs[j]? = some c → hitC v b c = false) → putC p v b cs = cs ++ [(v, [p])]
 | [], _ => rfl
 | c :: cs, h => by
  unfold putC
  rw [if_neg (by rw [h 0 c rfl]; simp), putC_none (fun j c' hj => h (j + 1) c' (by simpa using hj))]
  rfl
theorem putC_hit {p : Nat × Nat} {v b : V6} : ∀ {cs : List Cl} {k : Nat} {c : Cl}, cs[k]? = some c → (∀ (j : Nat) (c' : Cl), j < k → cs[j]? = some c' → hitC v b c' = false) → hitC v b c = true → putC p v b cs = cs.set k (c.1, c.2 ++ [p])
 | [], k, c, hk, _, _ => by simp at hk
 | c0 :: cs, 0, c, hk, _, hh => by
  simp at hk
  subst hk
  unfold putC
  rw [if_pos hh]; rfl
 | c0 :: cs, k + 1, c, hk, hn, hh => by
  unfold putC
  rw [if_neg (by rw [hn 0 c0 (by omega) rfl]; simp), putC_hit (cs := cs) (k := k) (by simpa using hk) (fun j c' hj hc => hn (j + 1) c' (by omega) (by simpa using hc)) hh]
  rfl
theorem putC_len {p : Nat × Nat} {v b : V6} : ∀ {cs : List Cl}, (putC p v b cs).length ≤ cs.length + 1
 | [] => by simp [putC]
 | c :: cs => by
  unfold putC
  split
  ·simp
  ·have := putC_len (p := p) (v := v) (b := b) (cs := cs); simp only [List.length_cons]; omega
theorem putC_size {p : Nat × Nat} {v b : V6} {m : Nat} : ∀ {cs : List Cl}, (∀ c ∈ cs, c.2.length ≤ m) → ∀ c ∈ putC p v b cs, c.2.length ≤ m + 1
 | [], _, c, hc => by simp [putC] at hc; subst hc; simp
 | c0 :: cs, h, c, hc => by
  unfold putC at hc
  split at hc
  ·rcases List.mem_cons.1 hc with rfl | hc
   ·have := h c0 (List.mem_cons_self ..); simp; omega
   ·have := h c (List.mem_cons_of_mem _ hc); omega
  ·rcases List.mem_cons.1 hc with rfl | hc
   ·have := h c (List.mem_cons_self ..); omega
   ·exact putC_size (fun c hc => h c (List.mem_cons_of_mem _ hc)) c hc
def cl7 (p : V6 × Value) : List Value := [.int .i64 p.1.x1, .int .i64 p.1.x2, .int .i64 p.1.y1, .int .i64 p.1.y2, .int .i64 p.1.z1, .int .i64 p.1.z2, p.2]
theorem cl7_len (p : V6 × Value) : (cl7 p).length = 7 := rfl
def hdC (cs : List Cl) (hs : List Value) : List (V6 × Value) := (cs.map (·.1)).zip hs
theorem hdC_len {cs : List Cl} {hs : List Value} (h : hs.length = cs.length) : (hdC cs hs).length = cs.length := by simp [hdC, h]
theorem hdC_get {cs : List Cl} {hs : List Value} {k : Nat} {c : Cl} {u : Value} (hc : cs[k]? = some c) (hu : hs[k]? = some u) : (hdC cs hs)[k]? = some (c.1, u) := by
 unfold hdC
 rw [List.getElem?_zip_eq_some]
 exact ⟨by rw [List.getElem?_map, hc]; rfl, hu⟩
theorem hdC_set {cs : List Cl} {hs : List Value} {k : Nat} {c : Cl} {u : Value} (hl : hs.length = cs.length) (hc : cs[k]? = some c) (q : List (Nat × Nat)) : (hdC cs hs).set k (c.1, u) = hdC (cs.set k (c.1, q)) (hs.set k u) := by
 have hlt := get_lt hc
 apply List.ext_getElem?
 intro i
 by_cases e : k = i
 ·subst e
  rw [List.getElem?_set_self (by rw [hdC_len hl]; exact hlt), hdC_get (c := (c.1, q)) (by rw [List.getElem?_set_self hlt]) (by rw [List.getElem?_set_self (by omega)])]
 ·rw [List.getElem?_set_ne e]
  unfold hdC List.zip
  rw [List.getElem?_zipWith, List.getElem?_zipWith, List.getElem?_map, List.getElem?_map, List.getElem?_set_ne e, List.getElem?_set_ne e]
theorem own_block_lt {B : Nat} {W : World} {e : TypeId} {sz n : Nat} {v : Value} {xs : List Value} (h : W.ownsRow B e sz v n xs) {g : Nat} (hb : v.ownBlock = some g) : g < W.heap.size ∧ B ≤ g ∧ ∃ cs, W.heap[g]? = some (.cells cs e) := by
 rcases h.2 with ⟨h5, _⟩ | ⟨g', cap, cur, h1, h2, h3, h4⟩
 ·rw [h5] at hb; cases hb
 ·rw [h1] at hb
  simp [Value.ownBlock] at hb
  subst hb
  exact ⟨blk_lt h3, h2, _, h3⟩
end Go.Proofs.YtfangplfbbgphaaGreatDoor
namespace Go.Proofs.YtfangplfbbgphaaGreatDoor
open Go.ChangeShapes Go.WideShapes Go.ChangeAt Go.RowKit
set_option linter.unusedVariables false
set_option maxRecDepth 100000
set_option linter.unusedSimpArgs false
theorem fm_setj {α : Type} (f : α → List Value) (sz : Nat) (hf : ∀ x, (f x).length = sz) : ∀ (l : List α) (k j : Nat) (x y : α) (u : Value), l[k]? = some x → j < sz → f y = (f x).set j u → (l.flatMap f).set (k * sz + j) u = (l.set k y).flatMap f
 | [], k, j, x, y, u, hk, _, _ => by simp at hk
 | x0 :: l, 0, j, x, y, u, hk, hj, hy => by
  simp at hk
  subst hk
  rw [List.flatMap_cons, List.set_cons_zero, List.flatMap_cons, Nat.zero_mul, Nat.zero_add, List.set_append_left _ _ (by rw [hf]; exact hj), hy]
 | x0 :: l, k + 1, j, x, y, u, hk, hj, hy => by
  rw [List.flatMap_cons, List.set_cons_succ, List.flatMap_cons, List.set_append_right _ _ (by rw [hf, Nat.succ_mul]; omega), hf, show (k + 1) * sz + j - sz = k * sz + j by rw [Nat.succ_mul]; omega, fm_setj f sz hf l k j x y u (by simpa using hk) hj hy]
theorem own_ne2 {W : World} {base base' : Nat} {e e' : TypeId} {size size' n n' : Nat} {v v' : Value} {xs xs' : List Value} (h : W.ownsRow base e size v n xs) (h' : W.ownsRow base' e' size' v' n' xs') (hne : e ≠ e') : v'.ownBlock = none ∨ v'.ownBlock ≠ v.ownBlock := by
 cases hq : v'.ownBlock with
 | none => exact .inl rfl
 | some g =>
  refine .inr fun hh => ?_
  obtain ⟨_, _, cs, h1⟩ := own_block_lt h' hq
  obtain ⟨_, _, cs', h2⟩ := own_block_lt h hh.symm
  rw [h1] at h2
  injection h2 with h2
  injection h2 with _ ht
  exact hne ht.symm
theorem ap_one {α : Type} {l : List α} {x y : α} {i : Nat} (h : (l ++ [x])[i]? = some y) : l[i]? = some y ∨ (i = l.length ∧ y = x) := by
 rcases Nat.lt_trichotomy i l.length with h1 | h1 | h1
 ·exact .inl (by rw [List.getElem?_append_left h1] at h; exact h)
 ·subst h1; simp at h; exact .inr ⟨rfl, h.symm⟩
 ·rw [List.getElem?_eq_none (by simp; omega)] at h; cases h
structure OC (B : Nat) (W : World) (v : Value) (cs : List Cl) (hs : List Value) : Prop where
 len : hs.length = cs.length
 row : W.ownsRow B 40 7 v cs.length ((hdC cs hs).flatMap cl7)
 inn : ∀ (k : Nat) (c : Cl) (u : Value), cs[k]? = some c → hs[k]? = some u → OPr B W u c.2
 sep : ∀ (i j : Nat) (u u' : Value), hs[i]? = some u → hs[j]? = some u' → i ≠ j → u.ownBlock = none ∨ u.ownBlock ≠ u'.ownBlock
structure OC1 (B : Nat) (W : World) (v : Value) (cs : List Cl) (hs : List Value) (k : Nat) (u' : Value) (q : List (Nat × Nat)) : Prop where
 len : hs.length = cs.length
 row : W.ownsRow B 40 7 v cs.length ((hdC cs hs).flatMap cl7)
 inn : ∀ (j : Nat) (c : Cl) (u : Value), j ≠ k → cs[j]? = some c → hs[j]? = some u → OPr B W u c.2
 new : OPr B W u' q
 sep : ∀ (i j : Nat) (x x' : Value), (hs.set k u')[i]? = some x → (hs.set k u')[j]? = some x' → i ≠ j → x.ownBlock = none ∨ x.ownBlock ≠ x'.ownBlock
theorem neCP : (40 : TypeId) ≠ 43 := by decide
theorem nePC : (43 : TypeId) ≠ 40 := by decide
theorem OC.nil (B : Nat) (W : World) : OC B W (.slice none 0 0) [] [] := ⟨rfl, World.ownsRow_nil _ _ _ _, fun k c u h => by simp at h, fun i j u u' h => by simp at h⟩
theorem OC.next {B : Nat} {W W' : World} {v : Value} {cs : List Cl} {hs : List Value} (h : OC B W v cs hs) (hb : Below W.heap.size W W') : OC B W' v cs hs :=
 ⟨h.len, own_next hb h.row, fun k c u hc hu => own_next hb (h.inn k c u hc hu), h.sep⟩
theorem OC1.next {B : Nat} {W W' : World} {v u' : Value} {cs : List Cl} {hs : List Value} {k : Nat} {q : List (Nat × Nat)} (h : OC1 B W v cs hs k u' q) (hb : Below W.heap.size W W') : OC1 B W' v cs hs k u' q :=
 ⟨h.len, own_next hb h.row, fun j c u hj hc hu => own_next hb (h.inn j c u hj hc hu), own_next hb h.new, h.sep⟩
theorem OC.low {B : Nat} {W : World} {v : Value} {cs : List Cl} {hs : List Value} (h : OC B W v cs hs) {b : Nat} (hb : b < B) (off : Nat) (x : Value) : OC B (W.setCell ⟨b, off, none⟩ x) v cs hs :=
 ⟨h.len, own_set_other h.row hb off x, fun k c u hc hu => own_set_other (h.inn k c u hc hu) hb off x, h.sep⟩
theorem OC.grow {B : Nat} {W W' : World} {v u u' : Value} {cs : List Cl} {hs : List Value} {k : Nat} {c : Cl} {q : List (Nat × Nat)} (h : OC B W v cs hs) (hc : cs[k]? = some c) (hu : hs[k]? = some u)
  (hn : OPr B W' u' q) (hg : W.grownBy W' u.ownBlock) (ho : u'.ownBlock = u.ownBlock ∨ u'.ownBlock = some W.heap.size) : OC1 B W' v cs hs k u' q := by
 have hk := get_lt hu
 refine ⟨h.len, h.row.kept hg (own_ne2 (h.inn k c u hc hu) h.row nePC), fun j c' x hj hc' hx => (h.inn j c' x hc' hx).kept hg (h.sep j k x u hx hu hj), hn, fun i j x x' hx hx' hij => ?_⟩
 have old : ∀ {i : Nat} {x : Value}, hs[i]? = some x → ∀ g, x.ownBlock = some g → g < W.heap.size := fun {i x} h1 g hg' => by
  obtain ⟨c1, hc1⟩ := (⟨_, List.getElem?_eq_getElem (show i < cs.length by have := get_lt h1; rw [h.len] at this; exact this)⟩ : ∃ c1, cs[i]? = some c1)
  exact ((h.inn i c1 x hc1 h1).lt g hg').2
 have far : ∀ {j : Nat} {y : Value}, hs[j]? = some y → j ≠ k → y.ownBlock = none ∨ y.ownBlock ≠ u'.ownBlock := fun {j y} hy hj => by
  rcases ho with e | e
  ·rw [e]; exact h.sep j k y u hy hu hj
  ·cases hq : y.ownBlock with
   | none => exact .inl rfl
   | some g =>
    refine .inr fun hh => ?_
    have := old hy g hq
    rw [e] at hh
    injection hh with hh
    omega
 by_cases e1 : i = k
 ·subst e1
  rw [List.getElem?_set_self hk] at hx
  injection hx with hx
  subst hx
  rw [List.getElem?_set_ne hij] at hx'
  rcases far hx' (fun e => hij e.symm) with h1 | h1
  ·cases hq : u'.ownBlock with
   | none => exact .inl rfl
   | some g => exact .inr (by rw [h1]; simp)
  ·exact .inr (fun e => h1 e.symm)
 ·rw [List.getElem?_set_ne (fun e => e1 e.symm)] at hx
  by_cases e2 : j = k
  ·subst e2
   rw [List.getElem?_set_self hk] at hx'
   injection hx' with hx'
   subst hx'
   exact far hx e1
  ·rw [List.getElem?_set_ne (fun e => e2 e.symm)] at hx'
   exact h.sep i j x x' hx hx' hij
theorem OC1.store {B : Nat} {W : World} {g n cap : Nat} {u' : Value} {cs : List Cl} {hs : List Value} {k : Nat} {c : Cl} {q : List (Nat × Nat)} (h : OC1 B W (.slice (some ⟨g, 0, none⟩) n cap) cs hs k u' q) (hc : cs[k]? = some c) :
  OC B (W.setCell ⟨g, k * 7 + 6, none⟩ u') (.slice (some ⟨g, 0, none⟩) n cap) (cs.set k (c.1, q)) (hs.set k u') ∧ W.grownBy (W.setCell ⟨g, k * 7 + 6, none⟩ u') (some g) := by
 have hk := get_lt hc
 have hn : n = cs.length := by
  obtain ⟨A0, c0, e, _⟩ := Rd.of_own h.row
  injection e
 subst hn
 obtain ⟨u, hu⟩ := (⟨_, List.getElem?_eq_getElem (show k < hs.length by rw [h.len]; exact hk)⟩ : ∃ u, hs[k]? = some u)
 obtain ⟨h1, h2⟩ := h.row.stored (k * 7 + 6) u'
 have keep : ∀ {x : Value} {l : List (Nat × Nat)}, OPr B W x l → OPr B (W.setCell ⟨g, k * 7 + 6, none⟩ u') x l := fun {x l} hx => hx.kept h2 (own_ne2 h.row hx neCP)
 refine ⟨⟨by simpa using h.len, ?_, fun j c' x hc' hx => ?_, h.sep⟩, h2⟩
 ·rw [List.length_set, ← hdC_set h.len hc q]
  rw [fm_setj cl7 7 cl7_len (hdC cs hs) k 6 (c.1, u) (c.1, u') u' (hdC_get hc hu) (by omega) rfl] at h1
  exact h1
 ·by_cases e : k = j
  ·subst e
   rw [List.getElem?_set_self hk] at hc'
   rw [List.getElem?_set_self (by rw [h.len]; exact hk)] at hx
   injection hc' with hc'
   injection hx with hx
   subst hc' hx
   exact keep h.new
  ·rw [List.getElem?_set_ne e] at hc' hx
   exact keep (h.inn j c' x (fun e' => e e'.symm) hc' hx)
theorem hdC_push {cs : List Cl} {hs : List Value} (h : hs.length = cs.length) (c : Cl) (u : Value) : hdC (cs ++ [c]) (hs ++ [u]) = hdC cs hs ++ [(c.1, u)] := by
 unfold hdC
 rw [List.map_append, List.zip_append (by rw [List.length_map, h])]
 rfl
theorem OC.lo {B : Nat} {W : World} {v : Value} {cs : List Cl} {hs : List Value} (h : OC B W v cs hs) : ∀ (i : Nat) (x : Value) (g : Nat), hs[i]? = some x → x.ownBlock = some g → g < W.heap.size := fun i x g h1 hg' => by
 obtain ⟨c1, hc1⟩ := (⟨_, List.getElem?_eq_getElem (show i < cs.length by have := get_lt h1; rw [h.len] at this; exact this)⟩ : ∃ c1, cs[i]? = some c1)
 exact ((h.inn i c1 x hc1 h1).lt g hg').2
theorem OC.push {B n0 : Nat} {W W' : World} {v v' u : Value} {cs : List Cl} {hs : List Value} {c : V6} {l : List (Nat × Nat)} (h : OC B W v cs hs) (hlo : ∀ (i : Nat) (x : Value) (g : Nat), hs[i]? = some x → x.ownBlock = some g → g < n0) (hu : OPr n0 W u l) (hB : B ≤ n0)
  (hown : W'.ownsRow B 40 7 v' (cs.length + 1) ((hdC cs hs).flatMap cl7 ++ cl7 (c, u))) (hg : W.grownBy W' v.ownBlock) : OC B W' v' (cs ++ [(c, l)]) (hs ++ [u]) := by
 have keep : ∀ {base : Nat} {x : Value} {k : List (Nat × Nat)}, OPr base W x k → OPr base W' x k := fun hx => hx.kept hg (own_ne2 h.row hx neCP)
 have new : ∀ g, u.ownBlock = some g → n0 ≤ g := fun g hg' => (hu.lt g hg').1
 refine ⟨by simp [h.len], ?_, fun i c' x hc' hx => ?_, fun i j x x' hx hx' hij => ?_⟩
 ·rw [hdC_push h.len, List.flatMap_append, List.length_append]
  simpa using hown
 ·rcases ap_one hc' with h1 | ⟨h1, rfl⟩
  ·rcases ap_one hx with h2 | ⟨h2, rfl⟩
   ·exact keep (h.inn i c' x h1 h2)
   ·have := get_lt h1; rw [h.len] at h2; omega
  ·rcases ap_one hx with h2 | ⟨h2, rfl⟩
   ·have := get_lt h2; rw [h.len] at this; omega
   ·exact own_mono (keep hu) hB
 ·rcases ap_one hx with h1 | ⟨h1, rfl⟩
  ·rcases ap_one hx' with h2 | ⟨h2, rfl⟩
   ·exact h.sep i j x x' h1 h2 hij
   ·cases e : x.ownBlock with
    | none => exact .inl rfl
    | some g =>
     refine .inr fun e' => ?_
     have := hlo i x g h1 e
     have := new g e'.symm
     omega
  ·rcases ap_one hx' with h2 | ⟨h2, rfl⟩
   ·cases e : x.ownBlock with
    | none => exact .inl rfl
    | some g =>
     refine .inr fun e' => ?_
     have := hlo j x' g h2 e'.symm
     have := new g e
     omega
   ·omega
theorem OC1.cell {B : Nat} {W : World} {g n c0 : Nat} {cs : List Cl} {hs : List Value} {k : Nat} {u' : Value} {q : List (Nat × Nat)} {c : Cl} {u : Value} (h : OC1 B W (.slice (some ⟨g, 0, none⟩) n c0) cs hs k u' q) (hc : cs[k]? = some c) (hu : hs[k]? = some u) : W.cell? ⟨g, k * 7 + 6, none⟩ = some u ∧ g < W.heap.size := by
 have := h.row.cells (g := g) rfl (k * 7 + 6) u (by rw [fm_get cl7 7 cl7_len (hdC cs hs) k 6 (c.1, u) (hdC_get hc hu) (by omega)]; rfl)
 simp only [Addr.add, Nat.zero_add] at this
 exact ⟨this, (h.row.lt g rfl).2⟩
theorem cl7_one (A : Option Addr) (n c0 : Nat) (v : V6) : ∀ u ∈ cl7 (v, .slice A n c0), u.oneCell' = true := by
 intro u hu; simp [cl7] at hu; rcases hu with rfl | rfl | rfl | rfl | rfl | rfl | rfl <;> rfl
end Go.Proofs.YtfangplfbbgphaaGreatDoor
namespace Go.Proofs.YtfangplfbbgphaaGreatDoor
open Go.ChangeShapes Go.WideShapes Go.ChangeAt Go.RowKit Go.Deep Go.Joins
set_option linter.unusedVariables false
set_option maxRecDepth 100000
set_option linter.unusedSimpArgs false
def GB (L : List (Nat × Nat × Obj)) (w0 : World) (k : Nat) (X : World) : Prop := GK L k X ∧ Below w0.heap.size w0 X
theorem GB.grow {L : List (Nat × Nat × Obj)} {w0 : World} : ∀ k (w X : World), GB L w0 k w → Below w.heap.size w X → GB L w0 k X := fun k w X h hb => ⟨GK.grow L k w X h.1 hb, below_go h.2 hb⟩
theorem own_of_blk {W : World} {g base sz n : Nat} {e : TypeId} {xs : List Value} (h : W.heap[g]? = some (.cells xs.toArray e)) (hb : base ≤ g) (hl : xs.length = n * sz) (hn : n ≤ 1000) : W.ownsRow base e sz (.slice (some ⟨g, 0, none⟩) n n) n xs :=
 ⟨hl, .inr ⟨g, n, xs.toArray, rfl, hb, h, Nat.le_refl _, by simp [maxLen]; omega, by simpa using hl, by simp [List.take_of_length_le (Nat.le_of_eq hl)]⟩⟩
theorem rd_nil (W : World) (sz : Nat) (A : Option Addr) : Rd W sz A 0 [] := ⟨by simp, fun h => absurd h (by simp)⟩
instance : Inhabited St := ⟨zS⟩
theorem plain_addr {w : World} {a : Addr} {v : Value} (h : w.cell? a = some v) : a = ⟨a.block, a.off, none⟩ := by
 rcases a with ⟨b, o, s⟩
 cases s with
 | none => rfl
 | some s =>
  unfold World.cell? at h
  split at h
  ·simp at h
  ·cases h
theorem add_plain (b o j : Nat) : (⟨b, o, none⟩ : Addr).add j = ⟨b, o + j, none⟩ := by
 unfold Addr.add; split
 ·rename_i h; subst h; rfl
 ·rfl
theorem list2 {α : Type} {cs : List α} (h : cs.length = 2) : ∃ c0 c1, cs = [c0, c1] := by
 match cs, h with
 | [c0, c1], _ => exact ⟨c0, c1, rfl⟩
theorem list3 {α : Type} {cs : List α} (h : cs.length = 3) : ∃ c0 c1 c2, cs = [c0, c1, c2] := by
 match cs, h with
 | [c0, c1, c2], _ => exact ⟨c0, c1, c2, rfl⟩
theorem list5 {α : Type} {cs : List α} (h : cs.length = 5) : ∃ c0 c1 c2 c3 c4, cs = [c0, c1, c2, c3, c4] := by
 match cs, h with
 | [c0, c1, c2, c3, c4], _ => exact ⟨c0, c1, c2, c3, c4, rfl⟩
theorem cof_l : Tryz.prog.cellsOf 2 = 1 := by kernel_rfl
theorem cof_i : Tryz.prog.cellsOf 3 = 1 := by kernel_rfl
theorem cof_t : Tryz.prog.cellsOf 9 = 1 := by kernel_rfl
theorem cof_f : Tryz.prog.cellsOf 36 = 2 := by kernel_rfl
theorem cof_g : Tryz.prog.cellsOf 23 = 2 := by kernel_rfl
theorem cof_s : Tryz.prog.cellsOf 69 = 5 := by kernel_rfl
section
variable {H : Type} {enc : TypeId × Value → H} {w : World} {base : Nat} {spare : Nat → Bool} {held : Bool}
theorem long_one {n : Nat} {c : Value} {x : Option (DataW H × List MemPlace)} {y : DataW H × List MemPlace} (hx : x = some y) (h : DataW.trod enc Tryz.prog w base spare held n 2 [c] = x) : ∃ a : Int, c = .int .i64 a := by
 subst hx
 obtain ⟨a, e, _⟩ := DataW.trod_int Tryz.underlying2 h
 simp only [List.cons.injEq, and_true] at e
 exact ⟨a, e⟩
theorem inum_one {n : Nat} {c : Value} {x : Option (DataW H × List MemPlace)} {y : DataW H × List MemPlace} (hx : x = some y) (h : DataW.trod enc Tryz.prog w base spare held n 3 [c] = x) : ∃ a : Int, c = .int .i64 a := by
 subst hx
 obtain ⟨a, e, _⟩ := DataW.trod_int Tryz.underlying3 h
 simp only [List.cons.injEq, and_true] at e
 exact ⟨a, e⟩
theorem str_one {n : Nat} {c : Value} {x : Option (DataW H × List MemPlace)} {y : DataW H × List MemPlace} (hx : x = some y) (h : DataW.trod enc Tryz.prog w base spare held n 9 [c] = x) : ∃ s : ByteArray, c = .string s := by
 subst hx
 obtain ⟨a, e, _⟩ := DataW.trod_string Tryz.underlying9 h
 simp only [List.cons.injEq, and_true] at e
 exact ⟨a, e⟩
theorem frac_cells {fuel : Nat} {cs : List Value} {x : DataW H × List MemPlace} (h : DataW.trod enc Tryz.prog w base spare held fuel 36 cs = some x) : ∃ a b : Int, cs = [.int .i64 a, .int .i64 b] := by
 obtain ⟨xs, n, _, _, hl, hx, hf⟩ := DataW.trod_struct Tryz.underlying36 h
 rw [cof_f] at hl
 obtain ⟨u0, u1, rfl⟩ := list2 hl
 obtain ⟨x0, x1, rfl⟩ := list2 hx
 have h0 := hf 0 _ rfl
 have h1 := hf 1 _ rfl
 change DataW.trod enc Tryz.prog w base spare held n 2 (([u0, u1].drop 0).take (Tryz.prog.cellsOf 2)) = _ at h0
 rw [cof_l] at h0
 change DataW.trod enc Tryz.prog w base spare held n 2 (([u0, u1].drop 1).take (Tryz.prog.cellsOf 2)) = _ at h1
 rw [cof_l] at h1
 obtain ⟨a, rfl⟩ := long_one rfl h0
 obtain ⟨b, rfl⟩ := long_one rfl h1
 exact ⟨a, b, rfl⟩
theorem globe_cells {fuel : Nat} {cs : List Value} {x : DataW H × List MemPlace} (h : DataW.trod enc Tryz.prog w base spare held fuel 23 cs = some x) : ∃ a b : Int, cs = [.int .i64 a, .int .i64 b] := by
 obtain ⟨xs, n, _, _, hl, hx, hf⟩ := DataW.trod_struct Tryz.underlying23 h
 rw [cof_g] at hl
 obtain ⟨u0, u1, rfl⟩ := list2 hl
 obtain ⟨x0, x1, rfl⟩ := list2 hx
 have h0 := hf 0 _ rfl
 have h1 := hf 1 _ rfl
 change DataW.trod enc Tryz.prog w base spare held n 3 (([u0, u1].drop 0).take (Tryz.prog.cellsOf 3)) = _ at h0
 rw [cof_i] at h0
 change DataW.trod enc Tryz.prog w base spare held n 3 (([u0, u1].drop 1).take (Tryz.prog.cellsOf 3)) = _ at h1
 rw [cof_i] at h1
 obtain ⟨a, rfl⟩ := inum_one rfl h0
 obtain ⟨b, rfl⟩ := inum_one rfl h1
 exact ⟨a, b, rfl⟩
theorem site_cells {fuel : Nat} {cs : List Value} {x : DataW H × List MemPlace} (h : DataW.trod enc Tryz.prog w base spare held fuel 69 cs = some x) : ∃ s : St, cs = st5 s := by
 obtain ⟨xs, n, _, _, hl, hx, hf⟩ := DataW.trod_struct Tryz.underlying69 h
 rw [cof_s] at hl
 obtain ⟨u0, u1, u2, u3, u4, rfl⟩ := list5 hl
 obtain ⟨x0, x1, x2, rfl⟩ := list3 hx
 have h0 := hf 0 _ rfl
 have h1 := hf 1 _ rfl
 have h2 := hf 2 _ rfl
 change DataW.trod enc Tryz.prog w base spare held n 9 (([u0, u1, u2, u3, u4].drop 0).take (Tryz.prog.cellsOf 9)) = _ at h0
 rw [cof_t] at h0
 change DataW.trod enc Tryz.prog w base spare held n 36 (([u0, u1, u2, u3, u4].drop 1).take (Tryz.prog.cellsOf 36)) = _ at h1
 rw [cof_f] at h1
 change DataW.trod enc Tryz.prog w base spare held n 36 (([u0, u1, u2, u3, u4].drop 3).take (Tryz.prog.cellsOf 36)) = _ at h2
 rw [cof_f] at h2
 obtain ⟨s, rfl⟩ := str_one rfl h0
 obtain ⟨a, b, e⟩ := frac_cells (x := x1) h1
 obtain ⟨c, d, e'⟩ := frac_cells (x := x2) h2
 simp at e e'
 obtain ⟨rfl, rfl⟩ := e
 obtain ⟨rfl, rfl⟩ := e'
 exact ⟨⟨s, a, b, c, d⟩, rfl⟩
set_option maxRecDepth 100000 in
theorem open_globe {r : Reach} {b0 : Nat} {v : Value} {d : DataW H} {p : List MemPlace} (hv : Value.okWide Tryz.prog w r b0 23 v) (h : DataW.Trod enc Tryz.prog w base spare held 23 v d p) : ∃ a b : Int, v = Gv a b := by
 obtain ⟨cs, rfl, hsz⟩ := okWide_struct Tryz.underlying23 hv
 obtain ⟨fuel, hf⟩ := h
 obtain ⟨a, b, hr⟩ := globe_cells hf
 refine ⟨a, b, ?_⟩
 obtain ⟨l⟩ := cs
 simp only [Value.cells] at hr
 subst hr
 rfl
theorem open_srows {fuel : Nat} {cs : List Value} {x : DataW H × List MemPlace} (h : DataW.trod enc Tryz.prog w base spare held fuel 24 cs = some x) :
  ∃ (a : Option Addr) (l : List St) (cap : Nat), cs = [.slice a l.length cap] ∧ l.length ≤ cap ∧ cap ≤ 9223372036854775807 ∧ RSt w a l := by
 rcases open_slice und_sites h with ⟨rfl, _⟩ | ⟨a, len, cap, m, n, D, Pl, rfl, hb, hl, hm, hmm, hx, hi⟩
 ·exact ⟨none, [], 0, rfl, Nat.le_refl _, by omega, rfl, fun h => absurd h (by simp)⟩
 ·have hle : len ≤ m := by rw [hmm]; split <;> omega
  have key : ∀ i, i < len → ∃ r : St, ∀ j, j < 5 → w.cell? (a.add (i * 5 + j)) = (st5 r)[j]? := by
   intro i hil
   obtain ⟨cs', hc, ht⟩ := hi i (by omega)
   rw [cof_s] at hc
   obtain ⟨r, rfl⟩ := site_cells ht
   obtain ⟨_, _, hat⟩ := World.cells?_some hc
   exact ⟨r, fun j hj => by rw [← Go.Deep.add_add]; exact hat j hj⟩
  obtain ⟨f, hf⟩ := choose_lt key
  refine ⟨some a, (List.range len).map f, cap, by simp, by simpa using hl, by simpa [maxLen] using hm, fm_len _ _ st5_len _, fun hn => ?_⟩
  have hn' : 0 < len := by simpa using hn
  have h0 := hf 0 hn' 0 (by omega)
  have ha : a = ⟨a.block, a.off, none⟩ := plain_addr (by simpa [Addr.add, st5] using h0)
  have hlt := World.block_lt_of_cell? w (a.add (0 * 5 + 0)) h0
  refine ⟨a.block, a.off, by rw [← ha], hlt, fun j u hu => ?_⟩
  have hj : j < len * 5 := by
   have := (List.getElem?_eq_some_iff.1 hu).1
   rw [fm_len _ _ st5_len] at this
   simpa using this
  have e : j / 5 * 5 + j % 5 = j := by omega
  have hi5 : j / 5 < len := by omega
  have g := fm_get st5 5 st5_len ((List.range len).map f) (j / 5) (j % 5) (f (j / 5)) (by rw [List.getElem?_map, List.getElem?_range hi5]; rfl) (by omega)
  rw [e] at g
  have h1 := hf (j / 5) hi5 (j % 5) (by omega)
  rw [e, ha, add_plain] at h1
  have h2 : w.cell? ⟨a.block, a.off + j, none⟩ = (st5 (f (j / 5)))[j % 5]? := h1
  rw [h2, ← g]
  exact hu
set_option maxRecDepth 100000 in
theorem open_sites {r : Reach} {b0 : Nat} {v : Value} {d : DataW H} {p : List MemPlace} (hv : Value.okWide Tryz.prog w r b0 24 v) (h : DataW.Trod enc Tryz.prog w base spare held 24 v d p) :
  ∃ (A : Option Addr) (l : List St) (cap : Nat), v = .slice A l.length cap ∧ l.length ≤ cap ∧ cap ≤ 9223372036854775807 ∧ RSt w A l := by
 obtain ⟨fuel, hf⟩ := h
 obtain ⟨sa, sl, sc, rfl⟩ := okWide_slice und_sites hv
 obtain ⟨A, l, cap, e, h1, h2, h3⟩ := open_srows (cs := [.slice sa sl sc]) hf
 simp only [List.cons.injEq, and_true, Value.slice.injEq] at e
 obtain ⟨rfl, rfl, rfl⟩ := e
 exact ⟨_, l, _, rfl, h1, h2, h3⟩
end
end Go.Proofs.YtfangplfbbgphaaGreatDoor
