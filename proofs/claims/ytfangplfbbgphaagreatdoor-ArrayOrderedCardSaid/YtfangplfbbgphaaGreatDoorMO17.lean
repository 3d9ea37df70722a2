/- Several texts in one. -/
import Derived.BigQuiet
import Derived.Laws.OwnMore
import Derived.Test.YtfangplfbbgphaaGreatDoorMO16
namespace Go.Proofs.YtfangplfbbgphaaGreatDoor
open Go.ChangeShapes Go.WideShapes Go.ChangeAt Go.RowKit
set_option linter.unusedVariables false
set_option maxRecDepth 100000
set_option linter.unusedSimpArgs false
attribute [local go_sem ↓] Go.wp_at_zero Go.wp_at_succ
attribute [local go_sem ↓] eqVe
theorem Rd.rec2 {w : World} {size n : Nat} {A : Option Addr} {α : Type} {f : α → List Value} {l : List α} (h : Rd w size A n (l.flatMap f)) (hn : l.length ≤ n) (hf : ∀ x, (f x).length = size) {i k : Nat} {x y : α} (hi : l[i]? = some x) (hk : l[k]? = some y) :
  ∃ b off, A = some ⟨b, off, none⟩ ∧ b < w.heap.size ∧ (∀ j u, (f x)[j]? = some u → w.cell? ⟨b, off + i * size + j, none⟩ = some u) ∧ (∀ j u, (f y)[j]? = some u → w.cell? ⟨b, off + k * size + j, none⟩ = some u) := by
 obtain ⟨b, off, e, hb, h1⟩ := Rd.rec_ h hn hf hi
 obtain ⟨b', off', e', _, h2⟩ := Rd.rec_ h hn hf hk
 rw [e] at e'
 injection e' with e'
 injection e' with e1 e2
 subst e1 e2
 exact ⟨b, off, e, hb, h1, h2⟩
theorem own_drewN {W : World} {B : Nat} {e : TypeId} {sz n : Nat} {v : Value} {xs : List Value} (h : W.ownsRow B e sz v n xs) (k : Nat) : (W.drewN k).ownsRow B e sz v n xs := own_next (below_drewN (Below.refl _ _) k) h
set_option maxRecDepth 100000 in
set_option maxHeartbeats 16000000 in
theorem rcheck_calls {A B : Int} {a : Option Addr} {c : Nat} {l : List St} {w : World} (hl : RSt w a l) (hc : l.length ≤ c) (hc' : c ≤ 9223372036854775807) (hn : ∀ x ∈ l, x.nm.size ≤ 9223372036854775807) : Calls Tryz.prog 34 #[Gv A B, .slice a l.length c] w fun e w' => e = .returned (.int .i64 (plE A B l)) ∧ Below w.heap.size w w' := by
 have NN := Lib.hid (Below.refl w.heap.size w)
 have GC := Lib.hid (fun W => refgcheck_calls A B W)
 have HL := Lib.hid hl
 have HN := Lib.hid hn
 have PE : Hid (plE A B l = if errG A B ≠ 0 then errG A B else if stsE l ≠ 0 then stsE l else if dupB (pls A B l) then 14 else 0) := Lib.hid rfl
 generalize plE A B l = pe at *
 clear hl hn
 by_cases hg : errG A B ≠ 0
 ·rw [if_pos hg] at PE
  have q1 : (errG A B != 0) = true := by simpa using hg
  generalize errG A B = eg at *
  clear hg
  go_enter Tryz.func34, Tryz.ntmps34
  go_wp2_with fail
  have G : Hid ((w.alloc (.cells #[.int .i64 A, .int .i64 B] 23)).heap[w.heap.size]? = some (.cells #[.int .i64 A, .int .i64 B] 23)) := Lib.hid (blk_new w _)
  replace NN : Hid (Below w.heap.size w (w.alloc (.cells #[.int .i64 A, .int .i64 B] 23))) := Lib.hid (Bal NN.out _)
  generalize (w.alloc (.cells #[.int .i64 A, .int .i64 B] 23)) = W1 at *
  refine (GC.out _).mono ?_
  rintro e w2 ⟨rfl, hb⟩
  replace NN := Lib.hid (Bgo NN.out hb)
  replace G := Lib.hid (blk_next hb G.out)
  clear hb
  have c_G_0 := blk_cell G.out 0 _ rfl
  have f_G_0 := blk_frozen G.out 0
  have c_G_1 := blk_cell G.out 1 _ rfl
  have f_G_1 := blk_frozen G.out 1
  have l_G := blk_lt G.out
  go_wp2_with fail
  refine (GC.out _).mono ?_
  rintro e w3 ⟨rfl, hb⟩
  clear c_G_0 f_G_0 c_G_1 f_G_1 l_G
  replace NN := Lib.hid (Bgo NN.out hb)
  replace G := Lib.hid (blk_next hb G.out)
  clear hb
  go_wp2_with fail
  go_ret
  exact ⟨ret_int PE.out.symm, NN.out⟩
 rw [if_neg hg] at PE
 have hg0 : errG A B = 0 := by omega
 rw [hg0] at GC
 have HG := Lib.hid hg0
 clear hg hg0
 by_cases h8 : 8 < l.length
 ·have HP : Hid (pe = 4) := Lib.hid (by rw [PE.out, show stsE l = 4 by unfold stsE; rw [if_pos h8]]; rfl)
  clear PE
  go_enter Tryz.func34, Tryz.ntmps34
  go_wp2_with fail
  have G : Hid ((w.alloc (.cells #[.int .i64 A, .int .i64 B] 23)).heap[w.heap.size]? = some (.cells #[.int .i64 A, .int .i64 B] 23)) := Lib.hid (blk_new w _)
  replace NN : Hid (Below w.heap.size w (w.alloc (.cells #[.int .i64 A, .int .i64 B] 23))) := Lib.hid (Bal NN.out _)
  generalize (w.alloc (.cells #[.int .i64 A, .int .i64 B] 23)) = W1 at *
  refine (GC.out _).mono ?_
  rintro e w2 ⟨rfl, hb⟩
  replace NN := Lib.hid (Bgo NN.out hb)
  replace G := Lib.hid (blk_next hb G.out)
  clear hb
  go_wp2_with fail
  go_ret
  exact ⟨ret_int HP.out.symm, NN.out⟩
 have YES : Hid ((∀ (j : Nat) (y : St), j < l.length → l[j]? = some y → valS y = true) → stsE l = 0) := Lib.hid (fun h => by unfold stsE; rw [if_neg h8, if_pos (all_get h)])
 have NO : Hid (∀ (k : Nat) (x : St), l[k]? = some x → valS x = false → pe = 8) := Lib.hid (fun k x h h' => by rw [PE.out, show stsE l = 8 by unfold stsE; rw [if_neg h8, if_neg (by rw [all_not h h']; simp)]]; rfl)
 have H8 := Lib.hid h8
 go_enter Tryz.func34, Tryz.ntmps34
 go_wp2_with fail
 have G : Hid ((w.alloc (.cells #[.int .i64 A, .int .i64 B] 23)).heap[w.heap.size]? = some (.cells #[.int .i64 A, .int .i64 B] 23)) := Lib.hid (blk_new w _)
 replace NN : Hid (Below w.heap.size w (w.alloc (.cells #[.int .i64 A, .int .i64 B] 23))) := Lib.hid (Bal NN.out _)
 generalize (w.alloc (.cells #[.int .i64 A, .int .i64 B] 23)) = W1 at *
 refine (GC.out _).mono ?_
 rintro e w2 ⟨rfl, hb⟩
 replace NN := Lib.hid (Bgo NN.out hb)
 replace G := Lib.hid (blk_next hb G.out)
 clear hb
 go_wp2_with fail
 go_loopw [5] (fun i wr => ∃ k : Nat, k ≤ l.length ∧ i = .int .i64 k ∧ Hid (Below w.heap.size w wr) ∧ Hid (wr.heap[w.heap.size]? = some (.cells #[.int .i64 A, .int .i64 B] 23)) ∧ Hid (∀ (j : Nat) (y : St), j < k → l[j]? = some y → valS y = true)) (fun i _ => l.length - (intOf i).toNat)
 case atStart => exact ⟨0, by omega, rfl, NN, G, Lib.hid (by omega)⟩
 case round =>
  clear NN G
  obtain ⟨k, hk, rfl, NN, G, GD⟩ := hrel
  by_cases hlt : k < l.length
  ·obtain ⟨x, hx⟩ := get_some hlt
   obtain ⟨b, off, e, hb, hc0⟩ := Rd.rec_ HL.out (Nat.le_refl _) st5_len hx
   subst e
   have c0 := (NN.out.cell (p := ⟨b, off + k * 5, none⟩) hb).trans (hc0 0 _ rfl)
   have c1 := (NN.out.cell (p := ⟨b, off + k * 5 + 1, none⟩) hb).trans (hc0 1 _ rfl)
   have c2 := (NN.out.cell (p := ⟨b, off + k * 5 + 2, none⟩) hb).trans (hc0 2 _ rfl)
   have c3 := (NN.out.cell (p := ⟨b, off + k * 5 + 3, none⟩) hb).trans (hc0 3 _ rfl)
   have c4 := (NN.out.cell (p := ⟨b, off + k * 5 + 4, none⟩) hb).trans (hc0 4 _ rfl)
   have hbr : b < wr.heap.size := Nat.lt_of_lt_of_le hb NN.out.size
   have HX := Lib.hid hx
   have kk : k + 1 ≤ l.length := hlt
   have CV := Lib.hid (fun W => refValid_calls x W (HN.out x (List.mem_of_getElem? hx)))
   clear hc0 hx hb
   go_wp2_with fail
   refine (CV.out _).mono ?_
   rintro e w3 ⟨rfl, hb⟩
   replace NN := Lib.hid (Bgo NN.out hb)
   replace G := Lib.hid (blk_next hb G.out)
   clear hb
   clear hbr c0 c1 c2 c3 c4
   cases hp : valS x
   ·have FV := Lib.hid (NO.out k x HX.out hp)
    clear GD YES NO HX hp
    go_wp2_with fail
    go_ret
    exact ⟨ret_int FV.out.symm, NN.out⟩
   ·have G2 := Lib.hid (take_all HX.out GD.out hp)
    clear GD YES NO HX hp
    go_wp2_with fail
    go_roundw
    case rel => exact ⟨k + 1, kk, by go_num, NN, G, G2⟩
    case measure => simp [intOf]; omega
  ·obtain rfl : k = l.length := by omega
   have S0 := Lib.hid (YES.out GD.out)
   have HV := Lib.hid (stsE_ok S0.out).2
   clear GD YES NO hk hlt
   rw [S0.out, if_neg (by simp)] at PE
   have CA := Lib.hid (fun (W : World) (hb : Below w.heap.size w W) => all_calls (A := A) (B := B) (w := W) (HL.out.next hb) hc hc' HG.out HV.out (by have := H8.out; omega))
   have c_G_0 := blk_cell G.out 0 _ rfl
   have f_G_0 := blk_frozen G.out 0
   have c_G_1 := blk_cell G.out 1 _ rfl
   have f_G_1 := blk_frozen G.out 1
   have l_G := blk_lt G.out
   go_wp2_with fail
   clear c_G_0 f_G_0 c_G_1 f_G_1 l_G
   refine (CA.out _ NN.out).mono ?_
   rintro e w4 ⟨v, rfl, ov, hb⟩
   replace NN := Lib.hid (Bgo NN.out hb)
   replace G := Lib.hid (blk_next hb G.out)
   clear hb
   have OV := Lib.hid ov
   clear ov
   go_wp2_with fail
   obtain ⟨BO, OV⟩ : ∃ BO, Hid (OVe BO w4 v (l.map (plV A B))) := ⟨_, OV⟩
   go_loopw [7] (fun i wr => ∃ i' : Nat, i' ≤ l.length ∧ i = .int .i64 i' ∧ Hid (Below w.heap.size w wr) ∧ Hid (OVe BO wr v (l.map (plV A B))) ∧ Hid (∀ s t p q, t < s → s < i' → (pls A B l)[s]? = some p → (pls A B l)[t]? = some q → dupP q p = false)) (fun i _ => l.length - (intOf i).toNat)
   case atStart => exact ⟨0, by omega, rfl, NN, OV, Lib.hid (by omega)⟩
   case round =>
    skip
    clear NN OV G
    obtain ⟨i, hi, rfl, NN, OV, GD⟩ := hrel
    by_cases hlt : i < l.length
    ·obtain ⟨s, hs⟩ := get_some hlt
     have HS := Lib.hid hs
     have HP := Lib.hid (pls_get (A := A) (B := B) hs)
     have kk : i + 1 ≤ l.length := hlt
     have hltc : (i : Int) < (l.length : Int) := by omega
     have HLT := Lib.hid hlt
     clear hs hlt
     go_wp2_with fail
     go_loopw [8] (fun i9 wr => ∃ k : Nat, k ≤ i ∧ i9 = .int .i64 k ∧ Hid (Below w.heap.size w wr) ∧ Hid (OVe BO wr v (l.map (plV A B))) ∧ Hid (∀ t q, t < k → (pls A B l)[t]? = some q → dupP q (s, plV A B s) = false)) (fun i9 _ => i - (intOf i9).toNat)
     case atStart => exact ⟨0, by omega, rfl, NN, OV, Lib.hid (by omega)⟩
     case round =>
      clear NN OV
      obtain ⟨k, hk, rfl, NN, OV, GK9⟩ := hrel
      by_cases hlt : k < i
      ·obtain ⟨t, ht⟩ := get_some (show k < l.length by have := HLT.out; omega)
       have HQ := Lib.hid (pls_get (A := A) (B := B) ht)
       obtain ⟨b, off, e, hb, h1, h2⟩ := Rd.rec2 HL.out (Nat.le_refl _) st5_len HS.out ht
       subst e
       have ci0 := (NN.out.cell (p := ⟨b, off + i * 5, none⟩) hb).trans (h1 0 _ rfl)
       have ck0 := (NN.out.cell (p := ⟨b, off + k * 5, none⟩) hb).trans (h2 0 _ rfl)
       have hbr : b < wr.heap.size := Nat.lt_of_lt_of_le hb NN.out.size
       obtain ⟨A1, c1, hv1, hn1, hc1, hr1⟩ := Rd.of_own OV.out
       rw [List.length_map] at hv1 hn1 hr1
       subst hv1
       obtain ⟨b2, off2, e2, hb2, h3, h4⟩ := Rd.rec2 hr1 (by simp) v6_len (show (l.map (plV A B))[i]? = some (plV A B s) by rw [List.getElem?_map, HS.out]; rfl) (show (l.map (plV A B))[k]? = some (plV A B t) by rw [List.getElem?_map, ht]; rfl)
       subst e2
       have vi0 := h3 0 _ rfl
       have vi1 := h3 1 _ rfl
       have vi2 := h3 2 _ rfl
       have vi3 := h3 3 _ rfl
       have vi4 := h3 4 _ rfl
       have vi5 := h3 5 _ rfl
       have vk0 := h4 0 _ rfl
       have vk1 := h4 1 _ rfl
       have vk2 := h4 2 _ rfl
       have vk3 := h4 3 _ rfl
       have vk4 := h4 4 _ rfl
       have vk5 := h4 5 _ rfl
       simp only [Nat.add_zero] at vi0 vk0
       have HK := Lib.hid hlt
       have kn1 : k + 1 ≤ i := hlt
       have kn2 : (k : Int) < (i : Int) := by omega
       have kn3 : (k : Int) < (l.length : Int) := by have := HLT.out; omega
       have kn4 : (0 : Int) ≤ (k : Int) := by omega
       have kn5 : (0 : Int) ≤ (i : Int) := by omega
       clear h1 h2 h3 h4 hr1 ht hlt hb
       generalize plV A B s = sv at *
       generalize plV A B t = tv at *
       cases hnm : (s.nm.toList == t.nm.toList)
       ·cases hve : decide (sv = tv)
        ·have HD : Hid (dupP (s, sv) (t, tv) = false) := Lib.hid (by unfold dupP; rw [hnm, hve]; rfl)
         go_wp2_with fail
         go_quiet (fail)
         clear ci0 ck0 hbr vi0 vk0 vi1 vk1 vi2 vk2 vi3 vk3 vi4 vk4 vi5 vk5 kn2 kn3 kn4 kn5 hb2
         replace NN := Lib.hid (below_drewN NN.out nq)
         replace OV := Lib.hid (own_drewN OV.out nq)
         have G2 : Hid (∀ t' q, t' < k + 1 → (pls A B l)[t']? = some q → dupP q (s, sv) = false) := Lib.hid (fun t' q ht' hq => by
          by_cases e : t' = k
          ·subst e; rw [HQ.out] at hq; cases hq; rw [dupP_comm]; exact HD.out
          ·exact GK9.out t' q (by omega) hq)
         clear GK9
         go_wp2_with fail
         go_roundw
         case rel => exact ⟨k + 1, kn1, by go_num, NN, OV, G2⟩
         case measure => simp [intOf]; omega
        ·have HD : Hid (dupP (s, sv) (t, tv) = true) := Lib.hid (by unfold dupP; rw [hnm, hve]; rfl)
         go_wp2_with fail
         go_quiet (fail)
         clear ci0 ck0 hbr vi0 vk0 vi1 vk1 vi2 vk2 vi3 vk3 vi4 vk4 vi5 vk5 kn2 kn3 kn4 kn5 hb2
         replace NN := Lib.hid (below_drewN NN.out nq)
         replace OV := Lib.hid (own_drewN OV.out nq)
         have HP9 : Hid (pe = 14) := Lib.hid (by rw [PE.out, if_pos (dupB_iff.2 ⟨k, i, _, _, HK.out, HQ.out, HP.out, by rw [dupP_comm]; exact HD.out⟩)])
         clear PE GD GK9
         go_wp2_with fail
         go_ret
         exact ⟨ret_int HP9.out.symm, NN.out⟩
       ·have HD : Hid (dupP (s, sv) (t, tv) = true) := Lib.hid (by unfold dupP; rw [hnm]; rfl)
        go_wp2_with fail
        go_quiet (fail)
        clear ci0 ck0 hbr vi0 vk0 vi1 vk1 vi2 vk2 vi3 vk3 vi4 vk4 vi5 vk5 kn2 kn3 kn4 kn5 hb2
        replace NN := Lib.hid (below_drewN NN.out nq)
        replace OV := Lib.hid (own_drewN OV.out nq)
        have HP9 : Hid (pe = 14) := Lib.hid (by rw [PE.out, if_pos (dupB_iff.2 ⟨k, i, _, _, HK.out, HQ.out, HP.out, by rw [dupP_comm]; exact HD.out⟩)])
        clear PE GD GK9
        go_wp2_with fail
        go_ret
        exact ⟨ret_int HP9.out.symm, NN.out⟩
      ·obtain rfl : k = i := by omega
       have G2 : Hid (∀ s t p q, t < s → s < (k + 1) → (pls A B l)[s]? = some p → (pls A B l)[t]? = some q → dupP q p = false) := Lib.hid (fun s' t' p q h1 h2 h3 h4 => by
        by_cases e : s' = k
        ·subst e; rw [HP.out] at h3; cases h3; exact GK9.out t' q h1 h4
        ·exact GD.out s' t' p q h1 (by omega) h3 h4)
       clear GK9 GD
       go_wp2_with fail
       go_roundw
       case rel => exact ⟨k + 1, kk, by go_num, NN, OV, G2⟩
       case measure => have := HLT.out; simp [intOf]; omega
    ·obtain rfl : i = l.length := by omega
     have HD : dupB (pls A B l) = false := by
      cases hd : dupB (pls A B l)
      ·rfl
      ·obtain ⟨i, j, p, q, h1, h2, h3, h4⟩ := dupB_iff.1 hd
       have h5 := GD.out j i q p h1 (by have := get_lt h3; unfold pls at this; simpa using this) h3 h2
       rw [h4] at h5; cases h5
     have HP9 : Hid (pe = 0) := Lib.hid (by rw [PE.out, HD]; rfl)
     clear PE GD HD
     go_wp2_with fail
     go_ret
     exact ⟨ret_int HP9.out.symm, NN.out⟩
end Go.Proofs.YtfangplfbbgphaaGreatDoor
namespace Go.Proofs.YtfangplfbbgphaaGreatDoor
open Go.ChangeShapes Go.WideShapes Go.ChangeAt Go.RowKit
set_option linter.unusedVariables false
set_option maxRecDepth 100000
set_option linter.unusedSimpArgs false
attribute [local go_sem ↓] Go.wp_at_zero Go.wp_at_succ
theorem eqVe_self (a : V6) (w : World) : (Op.equalIn 10000 38 (Vv a) (Vv a)).run Tryz.prog w = .ok true w := by
 rw [eqVe]; simp
theorem eqSt_self (a : St) (w : World) : (Op.equalIn 10000 69 (Sv a) (Sv a)).run Tryz.prog w = .ok true w := by
 obtain ⟨a1, a2, a3, a4, a5⟩ := a
 have uu := Tryz.underlying2
 have ua := Tryz.isAgg2
 have uz := Tryz.sizeOf2
 have su := Tryz.underlying9
 have sa := Tryz.isAgg9
 have sz := Tryz.sizeOf9
 have fu := Tryz.underlying36
 rw [show (10000 : Nat) = 9999 + 1 from rfl, Op.equalIn]
 simp only [Sem.run_bind, run_underlying Tryz.underlying69, Result.andThen_ok]
 go_simp
theorem eqPr_self (a b : Int) (w : World) : (Op.equalIn 10000 43 (.agg #[.int .i64 a, .int .i64 b]) (.agg #[.int .i64 a, .int .i64 b])).run Tryz.prog w = .ok true w := by
 have uu := Tryz.underlying3
 have ua := Tryz.isAgg3
 have uz := Tryz.sizeOf3
 rw [show (10000 : Nat) = 9999 + 1 from rfl, Op.equalIn]
 simp only [Sem.run_bind, run_underlying Tryz.underlying43, Result.andThen_ok]
 go_simp
attribute [local go_sem ↓] eqVe_self eqSt_self eqPr_self
def okO (q : List Int) (n k : Nat) : Bool := match q[k]? with
 | some x => decide (0 ≤ x) && (decide (x < n) && !((q.take k).contains x))
 | none => false
def ordB (q : List Int) (n : Nat) : Bool := decide (q.length = n) && (List.range q.length).all fun k => okO q n k
theorem ordB_no {q : List Int} {n k : Nat} {x : Int} (hx : q[k]? = some x) (h : okO q n k = false) : ordB q n = false := by
 have e : ((List.range q.length).all fun k => okO q n k) = false := by
  cases e : ((List.range q.length).all fun k => okO q n k)
  ·rfl
  ·have := List.all_eq_true.1 e k (List.mem_range.2 (get_lt hx))
   rw [h] at this; cases this
 unfold ordB
 rw [e, Bool.and_false]
theorem ordB_yes {q : List Int} {n : Nat} (hn : q.length = n) (h : ∀ k, k < q.length → okO q n k = true) : ordB q n = true := by
 unfold ordB
 rw [decide_eq_true hn, Bool.true_and, List.all_eq_true]
 exact fun k hk => h k (List.mem_range.1 hk)
def usedC (q : List Int) (k N : Nat) : List Value := (List.range N).map fun (t : Nat) => Value.bool ((q.take k).contains (t : Int))
theorem usedC_len (q : List Int) (k N : Nat) : (usedC q k N).length = N := by simp [usedC]
theorem usedC_get (q : List Int) (k : Nat) {N t : Nat} (h : t < N) : (usedC q k N)[t]? = some (.bool ((q.take k).contains (t : Int))) := by
 unfold usedC; rw [List.getElem?_map, List.getElem?_range h]; rfl
theorem usedC_set {q : List Int} {k N t : Nat} (h : t < N) (hq : q[k]? = some (t : Int)) : (usedC q k N).set t (.bool true) = usedC q (k + 1) N := by
 have hlt := get_lt hq
 have e : q[k] = (t : Int) := by rw [List.getElem?_eq_getElem hlt] at hq; exact Option.some.inj hq
 apply List.ext_getElem?
 intro i
 by_cases hi : i < N
 ·rw [usedC_get q (k + 1) hi, List.getElem?_set, usedC_len, List.take_succ_eq_append_getElem hlt, e]
  by_cases h2 : t = i
  ·subst h2; rw [if_pos rfl, if_pos hi]; simp
  ·rw [if_neg h2, usedC_get q k hi]
   have : ¬ ((i : Int) = (t : Int)) := by omega
   simp [this]
 ·rw [List.getElem?_eq_none (by rw [List.length_set, usedC_len]; omega), List.getElem?_eq_none (by rw [usedC_len]; omega)]
theorem usedC_zero (q : List Int) (N : Nat) : usedC q 0 N = List.replicate N (.bool false) := by
 unfold usedC
 apply List.ext_getElem?
 intro i
 by_cases hi : i < N
 ·rw [List.getElem?_map, List.getElem?_range hi, List.getElem?_replicate, if_pos hi]; simp
 ·rw [List.getElem?_eq_none (by simp; omega), List.getElem?_eq_none (by simp; omega)]
theorem info_bool : (Tryz.prog.info? 4).map (fun i => (i.zero, i.size, i.bytes)) = some (some (.bool false), 1, 1) := by kernel_rfl
theorem make_bools (n : Nat) (h : n ≤ 1000) (W : World) : (Instr.makeSlice 105 (.int .i64 (n : Int)) (.int .i64 (n : Int))).run Tryz.prog W = .ok (.slice (some ⟨W.heap.size, 0, none⟩) n n) (W.alloc (.cells (madeCells #[.bool false] n) 4)) := by
 obtain ⟨i, hi, hz, hs, hb⟩ := info_parts info_bool
 have h1 := run_make (P := Tryz.prog) W 105 4 i _ Tryz.underlying105 hi hz .i64 .i64 (n : Int) (n : Int) (by omega) (by omega) (by rw [hb]; omega) (by omega)
 rw [hs, Int.toNat_natCast, Nat.mul_one] at h1
 exact h1
theorem made_bools (n : Nat) : (madeCells #[.bool false] n) = (List.replicate n (.bool false)).toArray := by
 apply Array.ext
 ·simp [madeCells]
 ·intro i h1 h2; simp [madeCells, Nat.mod_one]
set_option maxRecDepth 100000 in
set_option maxHeartbeats 4000000 in
theorem sameV_calls (A A' : Option Addr) (c c' : Nat) (l : List V6) (w : World) (h : Rd w 6 A l.length (l.flatMap v6)) (h' : Rd w 6 A' l.length (l.flatMap v6)) (hc : l.length ≤ c) (hc1 : c ≤ 9223372036854775807) (hc' : l.length ≤ c') (hc1' : c' ≤ 9223372036854775807) :
  Calls Tryz.prog 35 #[.slice A l.length c, .slice A' l.length c'] w fun e w' => e = .returned (.bool true) ∧ Below w.heap.size w w' := by
 have H1 := Lib.hid h
 have H2 := Lib.hid h'
 clear h h'
 go_enter Tryz.func35, Tryz.ntmps35
 go_wp2_with fail
 go_loopw [5] (fun i wr => ∃ k : Nat, k ≤ l.length ∧ i = .int .i64 k ∧ Hid (Below w.heap.size w wr)) (fun i _ => l.length - (intOf i).toNat)
 case atStart => exact ⟨0, by omega, rfl, Lib.hid (Below.refl _ _)⟩
 case round =>
  obtain ⟨k, hk, rfl, NN⟩ := hrel
  by_cases hlt : k < l.length
  ·obtain ⟨x, hx⟩ := get_some hlt
   obtain ⟨b, off, e, hb, hc0⟩ := Rd.rec_ H1.out (Nat.le_refl _) v6_len hx
   obtain ⟨b', off', e', hb', hc0'⟩ := Rd.rec_ H2.out (Nat.le_refl _) v6_len hx
   subst e e'
   have c0 := (NN.out.cell (p := ⟨b, off + k * 6, none⟩) hb).trans (hc0 0 _ rfl)
   have d0 := (NN.out.cell (p := ⟨b', off' + k * 6, none⟩) hb').trans (hc0' 0 _ rfl)
   have c1 := (NN.out.cell (p := ⟨b, off + k * 6 + 1, none⟩) hb).trans (hc0 1 _ rfl)
   have d1 := (NN.out.cell (p := ⟨b', off' + k * 6 + 1, none⟩) hb').trans (hc0' 1 _ rfl)
   have c2 := (NN.out.cell (p := ⟨b, off + k * 6 + 2, none⟩) hb).trans (hc0 2 _ rfl)
   have d2 := (NN.out.cell (p := ⟨b', off' + k * 6 + 2, none⟩) hb').trans (hc0' 2 _ rfl)
   have c3 := (NN.out.cell (p := ⟨b, off + k * 6 + 3, none⟩) hb).trans (hc0 3 _ rfl)
   have d3 := (NN.out.cell (p := ⟨b', off' + k * 6 + 3, none⟩) hb').trans (hc0' 3 _ rfl)
   have c4 := (NN.out.cell (p := ⟨b, off + k * 6 + 4, none⟩) hb).trans (hc0 4 _ rfl)
   have d4 := (NN.out.cell (p := ⟨b', off' + k * 6 + 4, none⟩) hb').trans (hc0' 4 _ rfl)
   have c5 := (NN.out.cell (p := ⟨b, off + k * 6 + 5, none⟩) hb).trans (hc0 5 _ rfl)
   have d5 := (NN.out.cell (p := ⟨b', off' + k * 6 + 5, none⟩) hb').trans (hc0' 5 _ rfl)
   have hbr : b < wr.heap.size := Nat.lt_of_lt_of_le hb NN.out.size
   have hbr' : b' < wr.heap.size := Nat.lt_of_lt_of_le hb' NN.out.size
   have kk : k + 1 ≤ l.length := hlt
   have k1 : (k : Int) < (l.length : Int) := by omega
   clear hc0 hc0' hx hlt hb hb'
   go_wp2_with fail
   go_quiet (fail)
   replace NN := Lib.hid (below_drewN NN.out nq)
   clear c0 d0 c1 d1 c2 d2 c3 d3 c4 d4 c5 d5
   go_wp2_with fail
   go_roundw
   case rel => exact ⟨k + 1, kk, by go_num, NN⟩
   case measure => simp [intOf]; omega
  ·obtain rfl : k = l.length := by omega
   go_wp2_with fail
   go_ret
   exact ⟨rfl, NN.out⟩
set_option maxRecDepth 100000 in
set_option maxHeartbeats 4000000 in
theorem sameP_calls (A A' : Option Addr) (c c' : Nat) (l : List (Nat × Nat)) (w : World) (h : Rd w 2 A l.length (l.flatMap pr2)) (h' : Rd w 2 A' l.length (l.flatMap pr2)) (hc : l.length ≤ c) (hc1 : c ≤ 9223372036854775807) (hc' : l.length ≤ c') (hc1' : c' ≤ 9223372036854775807) :
  Calls Tryz.prog 32 #[.slice A l.length c, .slice A' l.length c'] w fun e w' => e = .returned (.bool true) ∧ Below w.heap.size w w' := by
 have H1 := Lib.hid h
 have H2 := Lib.hid h'
 clear h h'
 go_enter Tryz.func32, Tryz.ntmps32
 go_wp2_with fail
 go_loopw [5] (fun i wr => ∃ k : Nat, k ≤ l.length ∧ i = .int .i64 k ∧ Hid (Below w.heap.size w wr)) (fun i _ => l.length - (intOf i).toNat)
 case atStart => exact ⟨0, by omega, rfl, Lib.hid (Below.refl _ _)⟩
 case round =>
  obtain ⟨k, hk, rfl, NN⟩ := hrel
  by_cases hlt : k < l.length
  ·obtain ⟨x, hx⟩ := get_some hlt
   obtain ⟨b, off, e, hb, hc0⟩ := Rd.rec_ H1.out (Nat.le_refl _) pr2_len hx
   obtain ⟨b', off', e', hb', hc0'⟩ := Rd.rec_ H2.out (Nat.le_refl _) pr2_len hx
   subst e e'
   have c0 := (NN.out.cell (p := ⟨b, off + k * 2, none⟩) hb).trans (hc0 0 _ rfl)
   have d0 := (NN.out.cell (p := ⟨b', off' + k * 2, none⟩) hb').trans (hc0' 0 _ rfl)
   have c1 := (NN.out.cell (p := ⟨b, off + k * 2 + 1, none⟩) hb).trans (hc0 1 _ rfl)
   have d1 := (NN.out.cell (p := ⟨b', off' + k * 2 + 1, none⟩) hb').trans (hc0' 1 _ rfl)
   have hbr : b < wr.heap.size := Nat.lt_of_lt_of_le hb NN.out.size
   have hbr' : b' < wr.heap.size := Nat.lt_of_lt_of_le hb' NN.out.size
   have kk : k + 1 ≤ l.length := hlt
   have k1 : (k : Int) < (l.length : Int) := by omega
   clear hc0 hc0' hx hlt hb hb'
   go_wp2_with fail
   go_quiet (fail)
   replace NN := Lib.hid (below_drewN NN.out nq)
   clear c0 d0 c1 d1
   go_wp2_with fail
   go_roundw
   case rel => exact ⟨k + 1, kk, by go_num, NN⟩
   case measure => simp [intOf]; omega
  ·obtain rfl : k = l.length := by omega
   go_wp2_with fail
   go_ret
   exact ⟨rfl, NN.out⟩
set_option maxRecDepth 100000 in
set_option maxHeartbeats 4000000 in
theorem sameS_calls (A A' : Option Addr) (c c' : Nat) (l : List St) (w : World) (h : Rd w 5 A l.length (l.flatMap st5)) (h' : Rd w 5 A' l.length (l.flatMap st5)) (hc : l.length ≤ c) (hc1 : c ≤ 9223372036854775807) (hc' : l.length ≤ c') (hc1' : c' ≤ 9223372036854775807) :
  Calls Tryz.prog 23 #[.slice A l.length c, .slice A' l.length c'] w fun e w' => e = .returned (.bool true) ∧ Below w.heap.size w w' := by
 have H1 := Lib.hid h
 have H2 := Lib.hid h'
 clear h h'
 go_enter Tryz.func23, Tryz.ntmps23
 go_wp2_with fail
 go_loopw [5] (fun i wr => ∃ k : Nat, k ≤ l.length ∧ i = .int .i64 k ∧ Hid (Below w.heap.size w wr)) (fun i _ => l.length - (intOf i).toNat)
 case atStart => exact ⟨0, by omega, rfl, Lib.hid (Below.refl _ _)⟩
 case round =>
  obtain ⟨k, hk, rfl, NN⟩ := hrel
  by_cases hlt : k < l.length
  ·obtain ⟨x, hx⟩ := get_some hlt
   obtain ⟨b, off, e, hb, hc0⟩ := Rd.rec_ H1.out (Nat.le_refl _) st5_len hx
   obtain ⟨b', off', e', hb', hc0'⟩ := Rd.rec_ H2.out (Nat.le_refl _) st5_len hx
   subst e e'
   have c0 := (NN.out.cell (p := ⟨b, off + k * 5, none⟩) hb).trans (hc0 0 _ rfl)
   have d0 := (NN.out.cell (p := ⟨b', off' + k * 5, none⟩) hb').trans (hc0' 0 _ rfl)
   have c1 := (NN.out.cell (p := ⟨b, off + k * 5 + 1, none⟩) hb).trans (hc0 1 _ rfl)
   have d1 := (NN.out.cell (p := ⟨b', off' + k * 5 + 1, none⟩) hb').trans (hc0' 1 _ rfl)
   have c2 := (NN.out.cell (p := ⟨b, off + k * 5 + 2, none⟩) hb).trans (hc0 2 _ rfl)
   have d2 := (NN.out.cell (p := ⟨b', off' + k * 5 + 2, none⟩) hb').trans (hc0' 2 _ rfl)
   have c3 := (NN.out.cell (p := ⟨b, off + k * 5 + 3, none⟩) hb).trans (hc0 3 _ rfl)
   have d3 := (NN.out.cell (p := ⟨b', off' + k * 5 + 3, none⟩) hb').trans (hc0' 3 _ rfl)
   have c4 := (NN.out.cell (p := ⟨b, off + k * 5 + 4, none⟩) hb).trans (hc0 4 _ rfl)
   have d4 := (NN.out.cell (p := ⟨b', off' + k * 5 + 4, none⟩) hb').trans (hc0' 4 _ rfl)
   have hbr : b < wr.heap.size := Nat.lt_of_lt_of_le hb NN.out.size
   have hbr' : b' < wr.heap.size := Nat.lt_of_lt_of_le hb' NN.out.size
   have kk : k + 1 ≤ l.length := hlt
   have k1 : (k : Int) < (l.length : Int) := by omega
   clear hc0 hc0' hx hlt hb hb'
   go_wp2_with fail
   go_quiet (fail)
   replace NN := Lib.hid (below_drewN NN.out nq)
   clear c0 d0 c1 d1 c2 d2 c3 d3 c4 d4
   go_wp2_with fail
   go_roundw
   case rel => exact ⟨k + 1, kk, by go_num, NN⟩
   case measure => simp [intOf]; omega
  ·obtain rfl : k = l.length := by omega
   go_wp2_with fail
   go_ret
   exact ⟨rfl, NN.out⟩
set_option maxRecDepth 100000 in
set_option maxHeartbeats 4000000 in
theorem ordered_calls (A : Option Addr) (c : Nat) (q : List Int) (n : Nat) (w : World) (h : Rd w 1 A q.length (lv q)) (hc : q.length ≤ c) (hc' : c ≤ 9223372036854775807) (hn : n ≤ 1000) :
  Calls Tryz.prog 24 #[.slice A q.length c, .int .i64 (n : Int)] w fun e w' => e = .returned (.bool (ordB q n)) ∧ Below w.heap.size w w' := by
 by_cases hl : q.length = n
 rotate_left
 ·have FV : Hid (ordB q n = false) := Lib.hid (by unfold ordB; rw [decide_eq_false hl]; rfl)
  have q1 : ((q.length : Int) != (n : Int)) = true := by rw [bne_iff_ne]; omega
  generalize ordB q n = v at *
  clear h hl
  go_enter Tryz.func24, Tryz.ntmps24
  go_wp2_with fail
  go_ret
  exact ⟨ret_bool FV.out.symm, Below.refl _ _⟩
 have HQ := Lib.hid h
 have NO := Lib.hid (fun (k : Nat) (x : Int) (hx : q[k]? = some x) (h : okO q n k = false) => ordB_no hx h)
 have YES := Lib.hid (fun (h : ∀ k, k < q.length → okO q n k = true) => ordB_yes hl h)
 have HL := Lib.hid hl
 have q1 : ((q.length : Int) != (n : Int)) = false := by rw [bne_eq_false_iff_eq]; omega
 have MK := fun W => make_bools n hn W
 have NN := Lib.hid (Below.refl w.heap.size w)
 generalize ordB q n = v at *
 clear h hl
 go_enter Tryz.func24, Tryz.ntmps24
 go_wp2_with fail
 clear MK
 have UB : Hid ((w.alloc (.cells (madeCells #[.bool false] n) 4)).heap[w.heap.size]? = some (.cells (madeCells #[.bool false] n) 4)) := Lib.hid (blk_new w _)
 replace NN := Lib.hid (Bal NN.out (.cells (madeCells #[.bool false] n) 4))
 generalize w.alloc (.cells (madeCells #[.bool false] n) 4) = W1 at *
 rw [made_bools, ← usedC_zero q n] at UB
 go_loopw [6] (fun i wr => ∃ k : Nat, k ≤ n ∧ i = .int .i64 k ∧ Hid (Below w.heap.size w wr) ∧ Hid (wr.heap[w.heap.size]? = some (.cells (usedC q k n).toArray 4)) ∧ Hid (∀ t, t < k → okO q n t = true)) (fun i _ => n - (intOf i).toNat)
 case atStart => exact ⟨0, by omega, rfl, NN, UB, Lib.hid (by omega)⟩
 case round =>
  clear NN UB W1
  obtain ⟨k, hk, rfl, NN, UB, GD⟩ := hrel
  by_cases hlt : k < n
  ·obtain ⟨x, hx⟩ := get_some (show k < q.length by rw [HL.out]; exact hlt)
   obtain ⟨b, off, e, hb, hc0⟩ := HQ.out.2 (by rw [HL.out]; omega)
   subst e
   have cq := (NN.out.cell (p := ⟨b, off + k, none⟩) hb).trans (hc0 k _ (lv_get hx))
   have hbr : b < wr.heap.size := Nat.lt_of_lt_of_le hb NN.out.size
   have HX := Lib.hid hx
   have kk : k + 1 ≤ n := hlt
   have k1 : (k : Int) < (q.length : Int) := by rw [HL.out]; omega
   have hc3 : x < 0 ∨ (0 ≤ x ∧ (n : Int) ≤ x) ∨ (0 ≤ x ∧ x < n) := by omega
   clear hc0 hx hb
   rcases hc3 with h | ⟨h, h1⟩ | ⟨h, h1⟩
   ·have FV := Lib.hid (NO.out k x HX.out (by unfold okO; rw [HX.out]; simp only; rw [decide_eq_false (by omega : ¬ 0 ≤ x)]; rfl))
    have d1 : decide (x < 0) = true := decide_eq_true h
    clear NO YES GD HX
    go_wp2_with fail
    go_ret
    exact ⟨ret_bool FV.out.symm, NN.out⟩
   ·have FV := Lib.hid (NO.out k x HX.out (by unfold okO; rw [HX.out]; simp only; rw [decide_eq_false (by omega : ¬ x < (n : Int))]; simp))
    have d1 : decide (x < 0) = false := decide_eq_false (by omega)
    have d2 : decide ((n : Int) ≤ x) = true := decide_eq_true h1
    clear NO YES GD HX
    go_wp2_with fail
    go_ret
    exact ⟨ret_bool FV.out.symm, NN.out⟩
   ·obtain ⟨t, rfl⟩ := Int.eq_ofNat_of_zero_le h
    have tn : t < n := by omega
    have cu := blk_cell UB.out t _ (by rw [List.getElem?_toArray]; exact usedC_get q k tn)
    have lu := blk_lt UB.out
    have fu := blk_frozen UB.out t
    have d1 : decide ((t : Int) < 0) = false := decide_eq_false (by omega)
    have d2 : decide ((n : Int) ≤ (t : Int)) = false := decide_eq_false (by omega)
    have kt : (0 : Int) ≤ (t : Int) := h
    have d3 : (n ≤ t) = False := by simp; omega
    have d4 : decide (n ≤ t) = false := decide_eq_false (by omega)
    have kt2 : (t : Int) < (n : Int) := h1
    have TN := Lib.hid tn
    clear h h1
    cases hu : (q.take k).contains (t : Int)
    ·have OK : Hid (okO q n k = true) := Lib.hid (by unfold okO; rw [HX.out]; simp only; rw [hu, decide_eq_true kt, decide_eq_true kt2]; rfl)
     rw [hu] at cu
     have HU := Lib.hid hu
     clear hu NO YES
     go_wp2_with fail
     go_roundw
     case rel => exact ⟨k + 1, kk, by go_num, Lib.hid (Bset1 NN.out (Nat.le_refl _) t (.bool true)), Lib.hid (by have h := blk_set UB.out t (.bool true); rw [List.setIfInBounds_toArray, usedC_set TN.out HX.out] at h; exact h), Lib.hid (fun u hu => by
      by_cases e : u = k
      ·subst e; exact OK.out
      ·exact GD.out u (by omega))⟩
     case measure => simp [intOf]; omega
    ·have FV := Lib.hid (NO.out k _ HX.out (by unfold okO; rw [HX.out]; simp only; rw [hu]; simp))
     rw [hu] at cu
     clear NO YES GD HX hu
     go_wp2_with fail
     go_ret
     exact ⟨ret_bool FV.out.symm, NN.out⟩
  ·obtain rfl : k = n := by omega
   have FV := Lib.hid (YES.out (fun t ht => GD.out t (by rw [← HL.out]; exact ht)))
   clear NO YES GD
   go_wp2_with fail
   go_ret
   exact ⟨ret_bool FV.out.symm, NN.out⟩
end Go.Proofs.YtfangplfbbgphaaGreatDoor
namespace Go.Proofs.YtfangplfbbgphaaGreatDoor
open Go.ChangeShapes Go.WideShapes Go.ChangeAt Go.RowKit
set_option linter.unusedVariables false
set_option maxRecDepth 100000
set_option linter.unusedSimpArgs false
attribute [local go_sem ↓] Go.wp_at_zero Go.wp_at_succ
def zS : St := ⟨⟨#[]⟩, 0, 0, 0, 0⟩
theorem infoS : (Tryz.prog.info? 69).map (fun i => (i.zero, i.size, i.bytes)) = some (some (.agg #[.string ⟨#[]⟩, .int .i64 0, .int .i64 0, .int .i64 0, .int .i64 0]), 5, 48) := by kernel_rfl
theorem infoSs : (Tryz.prog.info? 69).map (·.size) = some 5 := by kernel_rfl
theorem und_sites : Tryz.prog.underlying 24 = some (.slice 69) := by kernel_rfl
theorem made_sites {n : Nat} (h : n ≤ 8) : madeCells #[.string ⟨#[]⟩, .int .i64 0, .int .i64 0, .int .i64 0, .int .i64 0] (n * 5) = ((List.replicate n zS).flatMap st5).toArray := by
 have hn : n = 0 ∨ n = 1 ∨ n = 2 ∨ n = 3 ∨ n = 4 ∨ n = 5 ∨ n = 6 ∨ n = 7 ∨ n = 8 := by omega
 rcases hn with rfl | rfl | rfl | rfl | rfl | rfl | rfl | rfl | rfl
 all_goals (show madeCells _ _ = _; kernel_rfl)
theorem make_sites {n : Nat} (h : n ≤ 8) (W : World) : (Instr.makeSlice 24 (.int .i64 (n : Int)) (.int .i64 (n : Int))).run Tryz.prog W = .ok (.slice (some ⟨W.heap.size, 0, none⟩) n n) (W.alloc (.cells ((List.replicate n zS).flatMap st5).toArray 69)) := by
 obtain ⟨i, hi, hz, hs, hb⟩ := info_parts infoS
 have h1 := run_make (P := Tryz.prog) W 24 69 i _ und_sites hi hz .i64 .i64 (n : Int) (n : Int) (by omega) (by omega) (by rw [hb]; omega) (by omega)
 rw [hs, Int.toNat_natCast] at h1
 rw [h1]
 unfold Value.cells
 simp only
 rw [made_sites h]
abbrev OSt (B : Nat) (w : World) (v : Value) (l : List St) : Prop := w.ownsRow B 69 5 v l.length (l.flatMap st5)
theorem ost_nil (B : Nat) (w : World) : w.ownsRow B 69 5 (.slice none 0 0) 0 [] := World.ownsRow_nil _ _ _ _
def ordE (A B : Int) (l : List St) (q : List Int) : Int := if plE A B l ≠ 0 then plE A B l else if ordB q l.length then 0 else 2
def ordL (l : List St) (q : List Int) : List St := q.map fun x => l.getD x.toNat zS
theorem ordB_at {q : List Int} {n k : Nat} {x : Int} (h : ordB q n = true) (hx : q[k]? = some x) : q.length = n ∧ 0 ≤ x ∧ x < n := by
 unfold ordB at h
 simp only [Bool.and_eq_true, decide_eq_true_eq, List.all_eq_true, List.mem_range] at h
 have h1 := h.2 k (get_lt hx)
 unfold okO at h1
 rw [hx] at h1
 simp only [Bool.and_eq_true, decide_eq_true_eq] at h1
 exact ⟨h.1, h1.1, h1.2.1⟩
theorem ordL_take {l : List St} {q : List Int} {k t : Nat} {s : St} (hq : q[k]? = some (t : Int)) (hs : l[t]? = some s) : ordL l (q.take (k + 1)) = ordL l (q.take k) ++ [s] := by
 have hlt := get_lt hq
 have e : q[k] = (t : Int) := by rw [List.getElem?_eq_getElem hlt] at hq; exact Option.some.inj hq
 unfold ordL
 rw [List.take_succ_eq_append_getElem hlt, List.map_append, e]
 simp [List.getD_eq_getElem?_getD, hs]
def rowsS (l : List St) (q : List Int) (n k : Nat) : List St := ordL l (q.take k) ++ List.replicate (n - k) zS
theorem rowsS_len {l : List St} {q : List Int} {n k : Nat} (h : k ≤ n) (hq : q.length = n) : (rowsS l q n k).length = n := by
 unfold rowsS ordL
 simp; omega
theorem rowsS_set {l : List St} {q : List Int} {n k t : Nat} {s : St} (hn : q.length = n) (hq : q[k]? = some (t : Int)) (hs : l[t]? = some s) : (rowsS l q n k).set k s = rowsS l q n (k + 1) := by
 have hlt := get_lt hq
 unfold rowsS
 obtain ⟨m, hm⟩ : ∃ m, n - k = m + 1 := ⟨n - k - 1, by omega⟩
 have hl : (ordL l (q.take k)).length = k := by unfold ordL; simp; omega
 rw [hm, show n - (k + 1) = m by omega, List.replicate_succ, List.set_append_right _ _ (by omega), hl, Nat.sub_self, List.set_cons_zero, ordL_take hq hs, List.append_assoc]
 rfl
theorem rowsS_zero (l : List St) (q : List Int) (n : Nat) : rowsS l q n 0 = List.replicate n zS := by unfold rowsS ordL; simp
theorem rowsS_all {l : List St} {q : List Int} {n : Nat} (hn : q.length = n) : rowsS l q n n = ordL l q := by unfold rowsS; rw [← hn]; simp
set_option maxRecDepth 100000 in
set_option maxHeartbeats 8000000 in
theorem aorder_calls {A B : Int} {a : Option Addr} {c : Nat} {l : List St} {w : World} {aq : Option Addr} {cq : Nat} {q : List Int} (hl : RSt w a l) (hc : l.length ≤ c) (hc' : c ≤ 9223372036854775807) (hn : ∀ x ∈ l, x.nm.size ≤ 9223372036854775807) (hq : Rd w 1 aq q.length (lv q)) (hcq : q.length ≤ cq) (hcq' : cq ≤ 9223372036854775807) : Calls Tryz.prog 25 #[Gv A B, .slice a l.length c, .slice aq q.length cq] w fun e w' =>
  ∃ v, e = .returned (.tuple #[v, .int .i64 (ordE A B l q)]) ∧ Below w.heap.size w w' ∧ (ordE A B l q ≠ 0 → v = .slice none 0 0) ∧
   (ordE A B l q = 0 → ∃ g, v = .slice (some ⟨g, 0, none⟩) l.length l.length ∧ w.heap.size ≤ g ∧ w'.heap[g]? = some (.cells ((ordL l q).flatMap st5).toArray 69)) := by
 have NN := Lib.hid (Below.refl w.heap.size w)
 have CC := Lib.hid (fun (W : World) (hb : Below w.heap.size w W) => acheck_calls (A := A) (B := B) (w := W) (hl.next hb) hc hc' hn)
 have OE : Hid (ordE A B l q = if plE A B l ≠ 0 then plE A B l else if ordB q l.length then 0 else 2) := Lib.hid rfl
 have L8 := Lib.hid (fun (h : plE A B l = 0) => (stsE_ok (plE_ok h).2.1).1)
 obtain ⟨oe, hoe⟩ : ∃ oe, ordE A B l q = oe := ⟨_, rfl⟩
 obtain ⟨pe, hpe⟩ : ∃ pe, plE A B l = pe := ⟨_, rfl⟩
 simp only [hpe, hoe] at CC OE L8 ⊢
 have HL := Lib.hid hl
 have HQ := Lib.hid hq
 clear hl hn hpe hoe hq
 go_enter Tryz.func25, Tryz.ntmps25
 go_wp2_with fail
 have G : Hid ((w.alloc (.cells #[.int .i64 A, .int .i64 B] 23)).heap[w.heap.size]? = some (.cells #[.int .i64 A, .int .i64 B] 23)) := Lib.hid (blk_new w _)
 replace NN : Hid (Below w.heap.size w (w.alloc (.cells #[.int .i64 A, .int .i64 B] 23))) := Lib.hid (Bal NN.out _)
 generalize (w.alloc (.cells #[.int .i64 A, .int .i64 B] 23)) = W1 at *
 refine (CC.out _ NN.out).mono ?_
 rintro e w2 ⟨rfl, hb⟩
 replace NN := Lib.hid (Bgo NN.out hb)
 replace G := Lib.hid (blk_next hb G.out)
 clear hb
 by_cases he : pe ≠ 0
 ·have q1 : (pe != 0) = true := by simpa using he
  have HE : Hid (oe = pe) := Lib.hid (by rw [OE.out, if_pos he])
  have HP := Lib.hid he
  clear he OE L8 CC
  go_wp2_with fail
  refine bodyPost_ret (v := .tuple #[.slice none 0 0, .int .i64 pe]) (by simp [results, Tryz.results25, go_sem]) rfl ⟨_, by rw [HE.out], NN.out, fun _ => rfl, fun h => absurd (HE.out.symm.trans h) HP.out⟩
 have he0 : pe = 0 := by omega
 subst he0
 clear he CC
 rw [if_neg (by simp)] at OE
 have l8 := L8.out rfl
 have H8 := Lib.hid l8
 by_cases hlen : q.length = l.length
 rotate_left
 ·have HE : Hid (oe = 2) := Lib.hid (by rw [OE.out, show ordB q l.length = false by unfold ordB; rw [decide_eq_false hlen]; rfl]; rfl)
  have q1 : ((q.length : Int) != (l.length : Int)) = true := by rw [bne_iff_ne]; omega
  clear OE L8 hlen l8
  go_wp2_with fail
  refine bodyPost_ret (v := .tuple #[.slice none 0 0, .int .i64 2]) (by simp [results, Tryz.results25, go_sem]) rfl ⟨_, by rw [HE.out], NN.out, fun _ => rfl, fun h => absurd (HE.out.symm.trans h) (by decide)⟩
 have q1 : ((q.length : Int) != (l.length : Int)) = false := by rw [bne_eq_false_iff_eq]; omega
 have HLN := Lib.hid hlen
 have MK := fun W => make_sites l8 W
 have NO := Lib.hid (fun (k : Nat) (x : Int) (hx : q[k]? = some x) (h : okO q l.length k = false) => (show oe = 2 by rw [OE.out, ordB_no hx h]; rfl))
 have YES := Lib.hid (fun (h : ∀ k, k < q.length → okO q l.length k = true) => (show oe = 0 by rw [OE.out, ordB_yes hlen h]; rfl))
 clear OE L8 hlen l8
 go_wp2_with fail
 have HB := Lib.hid (show Below w2.heap.size w2 ((w2.alloc (.cells #[.bool false, .bool false, .bool false, .bool false, .bool false, .bool false, .bool false, .bool false] 126)).alloc (.cells ((List.replicate l.length zS).flatMap st5).toArray 69)) from Bal (Bal (Below.refl _ _) _) _)
 have UB : Hid (((w2.alloc (.cells #[.bool false, .bool false, .bool false, .bool false, .bool false, .bool false, .bool false, .bool false] 126)).alloc (.cells ((List.replicate l.length zS).flatMap st5).toArray 69)).heap[w2.heap.size]? = some (.cells #[.bool false, .bool false, .bool false, .bool false, .bool false, .bool false, .bool false, .bool false] 126)) := Lib.hid (blk_alloc (blk_new w2 _) _)
 have RB : Hid (((w2.alloc (.cells #[.bool false, .bool false, .bool false, .bool false, .bool false, .bool false, .bool false, .bool false] 126)).alloc (.cells ((List.replicate l.length zS).flatMap st5).toArray 69)).heap[w2.heap.size + 1]? = some (.cells ((List.replicate l.length zS).flatMap st5).toArray 69)) := Lib.hid (blk_at _ (by simp))
 have LU : Hid (w.heap.size ≤ w2.heap.size) := Lib.hid NN.out.size
 replace NN := Lib.hid (Bgo NN.out HB.out)
 replace G := Lib.hid (blk_next HB.out G.out)
 clear HB MK
 generalize ((w2.alloc (.cells #[.bool false, .bool false, .bool false, .bool false, .bool false, .bool false, .bool false, .bool false] 126)).alloc (.cells ((List.replicate l.length zS).flatMap st5).toArray 69)) = W0 at *
 generalize w2.heap.size = gU at *
 rw [show (#[.bool false, .bool false, .bool false, .bool false, .bool false, .bool false, .bool false, .bool false] : Array Value) = (usedC q 0 8).toArray by rw [usedC_zero]; rfl] at UB
 rw [← rowsS_zero l q l.length] at RB
 go_loopw [29] (fun i wr => ∃ k : Nat, k ≤ q.length ∧ i = .int .i64 k ∧ Hid (Below w.heap.size w wr) ∧ Hid (wr.heap[gU]? = some (.cells (usedC q k 8).toArray 126)) ∧ Hid (wr.heap[gU + 1]? = some (.cells ((rowsS l q l.length k).flatMap st5).toArray 69)) ∧ Hid (∀ t, t < k → okO q l.length t = true)) (fun i _ => q.length - (intOf i).toNat)
 case atStart => exact ⟨0, by omega, rfl, NN, UB, RB, Lib.hid (by omega)⟩
 case round =>
  clear NN G UB RB
  obtain ⟨k, hk, rfl, NN, UB, RB, GD⟩ := hrel
  by_cases hlt : k < q.length
  ·obtain ⟨x, hx⟩ := get_some hlt
   obtain ⟨b, off, e, hb, hc0⟩ := HQ.out.2 (by omega)
   subst e
   have cq := (NN.out.cell (p := ⟨b, off + k, none⟩) hb).trans (hc0 k _ (lv_get hx))
   have hbr : b < wr.heap.size := Nat.lt_of_lt_of_le hb NN.out.size
   have HX := Lib.hid hx
   have kk : k + 1 ≤ q.length := hlt
   have hc3 : x < 0 ∨ (0 ≤ x ∧ (l.length : Int) ≤ x) ∨ (0 ≤ x ∧ x < l.length) := by omega
   clear hc0 hx hb
   rcases hc3 with h | ⟨h, h1⟩ | ⟨h, h1⟩
   ·have HE := Lib.hid (NO.out k x HX.out (by unfold okO; rw [HX.out]; simp only; rw [decide_eq_false (by omega : ¬ 0 ≤ x)]; rfl))
    have d1 : decide (x < 0) = true := decide_eq_true h
    clear NO YES GD HX
    go_wp2_with fail
    refine bodyPost_ret (v := .tuple #[.slice none 0 0, .int .i64 2]) (by simp [results, Tryz.results25, go_sem]) rfl ⟨_, by rw [HE.out], NN.out, fun _ => rfl, fun h => absurd (HE.out.symm.trans h) (by decide)⟩
   ·have HE := Lib.hid (NO.out k x HX.out (by unfold okO; rw [HX.out]; simp only; rw [decide_eq_false (by omega : ¬ x < (l.length : Int))]; simp))
    have d1 : decide (x < 0) = false := decide_eq_false (by omega)
    have d2 : decide ((l.length : Int) ≤ x) = true := decide_eq_true h1
    clear NO YES GD HX
    go_wp2_with fail
    refine bodyPost_ret (v := .tuple #[.slice none 0 0, .int .i64 2]) (by simp [results, Tryz.results25, go_sem]) rfl ⟨_, by rw [HE.out], NN.out, fun _ => rfl, fun h => absurd (HE.out.symm.trans h) (by decide)⟩
   ·obtain ⟨t, rfl⟩ := Int.eq_ofNat_of_zero_le h
    have tn : t < l.length := by omega
    have t8 : t < 8 := by have := H8.out; omega
    have cu := blk_cell UB.out t _ (by rw [List.getElem?_toArray]; exact usedC_get q k t8)
    have lu := blk_lt UB.out
    have fu := blk_frozen UB.out t
    have d1 : decide ((t : Int) < 0) = false := decide_eq_false (by omega)
    have d2 : decide ((l.length : Int) ≤ (t : Int)) = false := decide_eq_false (by omega)
    have d3 : (l.length ≤ t) = False := by simp; omega
    have d4 : decide (l.length ≤ t) = false := decide_eq_false (by omega)
    have kt : (0 : Int) ≤ (t : Int) := h
    have kt2 : (t : Int) < (l.length : Int) := h1
    have T8 := Lib.hid t8
    have TN := Lib.hid tn
    clear h h1
    cases hu : (q.take k).contains (t : Int)
    ·have OK : Hid (okO q l.length k = true) := Lib.hid (by unfold okO; rw [HX.out]; simp only; rw [hu, decide_eq_true kt, decide_eq_true kt2]; rfl)
     rw [hu] at cu
     clear hu NO YES
     obtain ⟨s, hs⟩ := get_some tn
     obtain ⟨b1, off1, e, hb1, hc1⟩ := Rd.rec_ HL.out (Nat.le_refl _) st5_len hs
     subst e
     have c0 := (NN.out.cell (p := ⟨b1, off1 + t * 5, none⟩) hb1).trans (hc1 0 _ rfl)
     have c1 := (NN.out.cell (p := ⟨b1, off1 + t * 5 + 1, none⟩) hb1).trans (hc1 1 _ rfl)
     have c2 := (NN.out.cell (p := ⟨b1, off1 + t * 5 + 2, none⟩) hb1).trans (hc1 2 _ rfl)
     have c3 := (NN.out.cell (p := ⟨b1, off1 + t * 5 + 3, none⟩) hb1).trans (hc1 3 _ rfl)
     have c4 := (NN.out.cell (p := ⟨b1, off1 + t * 5 + 4, none⟩) hb1).trans (hc1 4 _ rfl)
     have hbr1 : b1 < wr.heap.size := Nat.lt_of_lt_of_le hb1 NN.out.size
     have HB1 := Lib.hid hb1
     have HS := Lib.hid hs
     have n1 : ¬ b1 = gU := by have := LU.out; omega
     have n2 : ¬ gU = b1 := by have := LU.out; omega
     have HK : Hid (k < (rowsS l q l.length k).length) := Lib.hid (by rw [rowsS_len (by have := HLN.out; omega) HLN.out, ← HLN.out]; exact hlt)
     have kq : k < l.length := by have := HLN.out; omega
     have lr := blk_lt RB.out
     clear hc1 hs hb1
     have R1 : Hid ((wr.setCell ⟨gU, t, none⟩ (.bool true)).heap[gU + 1]? = some (.cells ((rowsS l q l.length k).flatMap st5).toArray 69)) := Lib.hid (blk_set_other RB.out (by omega) t _)
     go_wp2_with ((with_reducible refine (show wpList _ _ _ (Oper.mk none (Op.store 69 _ _) _ _ _ _ :: _) _ _ from ?_)); (refine wpList_store_rec rfl 69 _ _ rfl st5 5 st5_len st5_one (gU + 1) k (rowsS l q l.length k) s HK.out _ rfl rfl rfl 69 R1.out infoSs ?_))
     go_roundw
     case rel => exact ⟨k + 1, kk, by go_num, Lib.hid (below_setRow (Bset1 NN.out LU.out t (.bool true)) (Nat.le_succ_of_le LU.out) _), Lib.hid ((setRow_other _ (gU + 1) gU _ (by omega)).trans (by have h := blk_set UB.out t (.bool true); rw [List.setIfInBounds_toArray, usedC_set T8.out HX.out] at h; exact h)), Lib.hid ((setRow_heap _ (gU + 1) _ (((rowsS l q l.length k).set k s).flatMap st5).toArray _ _ R1.out).trans (by rw [rowsS_set HLN.out HX.out HS.out])), Lib.hid (fun u hu => by
      by_cases e : u = k
      ·subst e; exact OK.out
      ·exact GD.out u (by omega))⟩
     case measure => simp [intOf]; omega
    ·have HE := Lib.hid (NO.out k _ HX.out (by unfold okO; rw [HX.out]; simp only; rw [hu]; simp))
     rw [hu] at cu
     clear NO YES GD HX hu
     go_wp2_with fail
     refine bodyPost_ret (v := .tuple #[.slice none 0 0, .int .i64 2]) (by simp [results, Tryz.results25, go_sem]) rfl ⟨_, by rw [HE.out], NN.out, fun _ => rfl, fun h => absurd (HE.out.symm.trans h) (by decide)⟩
  ·obtain rfl : k = q.length := by omega
   have HE := Lib.hid (YES.out GD.out)
   rw [HLN.out, rowsS_all HLN.out] at RB
   clear NO YES GD UB
   go_wp2_with fail
   refine bodyPost_ret (by simp [results, Tryz.results25, go_sem]; rfl) rfl ⟨_, by rw [HE.out], NN.out, fun h => absurd HE.out h, fun _ => ⟨gU + 1, rfl, Nat.le_succ_of_le LU.out, RB.out⟩⟩
end Go.Proofs.YtfangplfbbgphaaGreatDoor
namespace Go.Proofs.YtfangplfbbgphaaGreatDoor
open Go.ChangeShapes Go.WideShapes Go.ChangeAt Go.RowKit
set_option linter.unusedVariables false
set_option maxRecDepth 100000
set_option linter.unusedSimpArgs false
attribute [local go_sem ↓] Go.wp_at_zero Go.wp_at_succ
attribute [local go_sem] Oper.semAt_some
theorem infoR : (Tryz.prog.info? 43).map (fun i => (i.zero, i.size, i.bytes)) = some (some (.agg #[.int .i64 0, .int .i64 0]), 2, 16) := by kernel_rfl
theorem und_prs : Tryz.prog.underlying 31 = some (.slice 43) := by kernel_rfl
abbrev OPr (B : Nat) (w : World) (v : Value) (l : List (Nat × Nat)) : Prop := w.ownsRow B 43 2 v l.length (l.flatMap pr2)
theorem prs_take {n k : Nat} {p : Nat × Nat} (h : (prs n)[k]? = some p) : (prs n).take (k + 1) = (prs n).take k ++ [p] := by
 have hlt := get_lt h
 rw [List.take_succ_eq_append_getElem hlt]
 rw [List.getElem?_eq_getElem hlt] at h
 rw [Option.some.inj h]
theorem prs_len8 {n : Nat} (h : n < 9) : (prs n).length ≤ 28 := by
 have hn : n = 0 ∨ n = 1 ∨ n = 2 ∨ n = 3 ∨ n = 4 ∨ n = 5 ∨ n = 6 ∨ n = 7 ∨ n = 8 := by omega
 rcases hn with rfl | rfl | rfl | rfl | rfl | rfl | rfl | rfl | rfl <;> decide
theorem own_keeps {B : Nat} {w w' : World} {e : TypeId} {sz n : Nat} {v : Value} {xs : List Value} (h : w.ownsRow B e sz v n xs) (hg : w.grownBy w' v.ownBlock) : KeepsOthers w w' := by
 refine KeepsOthers.of_grownBy hg fun j o e hj => ?_
 rcases h.2 with ⟨h5, _⟩ | ⟨g, cap', cur, hv, hb, h3, _⟩
 ·rw [h5] at e; cases e
 ·rw [hv] at e
  simp [Value.ownBlock] at e
  subst e
  rw [h3] at hj
  cases hj
  rfl
theorem own_rowG {B B' : Nat} {β : Type} (e : TypeId) (sz : Nat) (v : β → Value) (n : β → Nat) (xs : β → List Value) : OwnFrom B (fun k W => W.ownsRow B' e sz (v k) (n k) (xs k)) := by
 intro s W W' row h hg hr
 refine ⟨h.1, ?_⟩
 rcases h.2 with h2 | ⟨g, cap, cur, h1, h2, h3, h4⟩
 ·exact .inl h2
 ·refine .inr ⟨g, cap, cur, h1, h2, (hg.block g (blk_lt h3) fun e => ?_).trans h3, h4⟩
  obtain ⟨_, o, ho, hc⟩ := hr g e.symm
  rw [h3] at ho
  cases ho
  cases hc
theorem own_set_other {B : Nat} {w : World} {e : TypeId} {sz n : Nat} {v : Value} {xs : List Value} (h : w.ownsRow B e sz v n xs) {b : Nat} (hb : b < B) (off : Nat) (x : Value) : (w.setCell ⟨b, off, none⟩ x).ownsRow B e sz v n xs := by
 refine ⟨h.1, ?_⟩
 rcases h.2 with h2 | ⟨g, cap, cur, h1, h2, h3, h4⟩
 ·exact .inl h2
 ·exact .inr ⟨g, cap, cur, h1, h2, blk_set_other h3 (by omega) off x, h4⟩
end Go.Proofs.YtfangplfbbgphaaGreatDoor
namespace Go.Proofs.YtfangplfbbgphaaGreatDoor
open Go.ChangeShapes Go.WideShapes Go.ChangeAt Go.RowKit
set_option linter.unusedVariables false
set_option maxRecDepth 100000
set_option linter.unusedSimpArgs false
abbrev Cl : Type := V6 × List (Nat × Nat)
def hitC (v b : V6) (c : Cl) : Bool := decide (c.1 = v) || decide (c.1 = b)
def putC (p : Nat × Nat) (v b : V6) : List Cl → List Cl
 | [] => [(v, [p])]
 | c :: cs => if hitC v b c then (c.1, c.2 ++ [p]) :: cs else c :: putC p v b cs
theorem putC_none {p : Nat × Nat} {v b : V6} : ∀ {cs : List Cl}, (∀ (j : Nat) (c : Cl), cs[j]? = some c → hitC v b c = false) → putC p v b cs = cs ++ [(v, [p])]
 | [], _ => rfl
 | c :: cs, h => by
  unfold putC
  rw [if_neg (by rw [h 0 c rfl]; simp), putC_none (fun j c' hj => h (j + 1) c' (by simpa using hj))]
  rfl
theorem putC_hit {p : Nat × Nat} {v b : V6} : ∀ {cs : List Cl} {k : Nat} {c : Cl}, cs[k]? = some c → (∀ (j : Nat) (c' : Cl), j < k → cs[j]? = some c' → hitC v b c' = false) → hitC v b c = true → putC p v b cs = cs.set k (c.1, c.2 ++ [p])
 | [], k, c, hk, _, _ => by simp at hk
 | c0 :: cs, 0, c, hk, _, hh => by
  simp at hk
  subst hk
  unfold putC
  rw [if_pos hh]; rfl
 | c0 :: cs, k + 1, c, hk, hn, hh => by
  unfold putC
  rw [if_neg (by rw [hn 0 c0 (by omega) rfl]; simp), putC_hit (cs := cs) (k := k) (by simpa using hk) (fun j c' hj hc => hn (j + 1) c' (by omega) (by simpa using hc)) hh]
  rfl
theorem putC_len {p : Nat × Nat} {v b : V6} : ∀ {cs : List Cl}, (putC p v b cs).length ≤ cs.length + 1
 | [] => by simp [putC]
 | c :: cs => by
  unfold putC
  split
  ·simp
  ·have := putC_len (p := p) (v := v) (b := b) (cs := cs); simp only [List.length_cons]; omega
theorem putC_size {p : Nat × Nat} {v b : V6} {m : Nat} : ∀ {cs : List Cl}, (∀ c ∈ cs, c.2.length ≤ m) → ∀ c ∈ putC p v b cs, c.2.length ≤ m + 1
 | [], _, c, hc => by simp [putC] at hc; subst hc; simp
 | c0 :: cs, h, c, hc => by
  unfold putC at hc
  split at hc
  ·rcases List.mem_cons.1 hc with rfl | hc
   ·have := h c0 (List.mem_cons_self ..); simp; omega
   ·have := h c (List.mem_cons_of_mem _ hc); omega
  ·rcases List.mem_cons.1 hc with rfl | hc
   ·have := h c (List.mem_cons_self ..); omega
   ·exact putC_size (fun c hc => h c (List.mem_cons_of_mem _ hc)) c hc
def cl7 (p : V6 × Value) : List Value := [.int .i64 p.1.x1, .int .i64 p.1.x2, .int .i64 p.1.y1, .int .i64 p.1.y2, .int .i64 p.1.z1, .int .i64 p.1.z2, p.2]
theorem cl7_len (p : V6 × Value) : (cl7 p).length = 7 := rfl
def hdC (cs : List Cl) (hs : List Value) : List (V6 × Value) := (cs.map (·.1)).zip hs
theorem hdC_len {cs : List Cl} {hs : List Value} (h : hs.length = cs.length) : (hdC cs hs).length = cs.length := by simp [hdC, h]
theorem hdC_get {cs : List Cl} {hs : List Value} {k : Nat} {c : Cl} {u : Value} (hc : cs[k]? = some c) (hu : hs[k]? = some u) : (hdC cs hs)[k]? = some (c.1, u) := by
 unfold hdC
 rw [List.getElem?_zip_eq_some]
 exact ⟨by rw [List.getElem?_map, hc]; rfl, hu⟩
theorem hdC_set {cs : List Cl} {hs : List Value} {k : Nat} {c : Cl} {u : Value} (hl : hs.length = cs.length) (hc : cs[k]? = some c) (q : List (Nat × Nat)) : (hdC cs hs).set k (c.1, u) = hdC (cs.set k (c.1, q)) (hs.set k u) := by
 have hlt := get_lt hc
 apply List.ext_getElem?
 intro i
 by_cases e : k = i
 ·subst e
  rw [List.getElem?_set_self (by rw [hdC_len hl]; exact hlt), hdC_get (c := (c.1, q)) (by rw [List.getElem?_set_self hlt]) (by rw [List.getElem?_set_self (by omega)])]
 ·rw [List.getElem?_set_ne e]
  unfold hdC List.zip
  rw [List.getElem?_zipWith, List.getElem?_zipWith, List.getElem?_map, List.getElem?_map, List.getElem?_set_ne e, List.getElem?_set_ne e]
theorem own_block_lt {B : Nat} {W : World} {e : TypeId} {sz n : Nat} {v : Value} {xs : List Value} (h : W.ownsRow B e sz v n xs) {g : Nat} (hb : v.ownBlock = some g) : g < W.heap.size ∧ B ≤ g ∧ ∃ cs, W.heap[g]? = some (.cells cs e) := by
 rcases h.2 with ⟨h5, _⟩ | ⟨g', cap, cur, h1, h2, h3, h4⟩
 ·rw [h5] at hb; cases hb
 ·rw [h1] at hb
  simp [Value.ownBlock] at hb
  subst hb
  exact ⟨blk_lt h3, h2, _, h3⟩
end Go.Proofs.YtfangplfbbgphaaGreatDoor
namespace Go.Proofs.YtfangplfbbgphaaGreatDoor
open Go.ChangeShapes Go.WideShapes Go.ChangeAt Go.RowKit
set_option linter.unusedVariables false
set_option maxRecDepth 100000
set_option linter.unusedSimpArgs false
theorem fm_setj {α : Type} (f : α → List Value) (sz : Nat) (hf : ∀ x, (f x).length = sz) : ∀ (l : List α) (k j : Nat) (x y : α) (u : Value), l[k]? = some x → j < sz → f y = (f x).set j u → (l.flatMap f).set (k * sz + j) u = (l.set k y).flatMap f
 | [], k, j, x, y, u, hk, _, _ => by simp at hk
 | x0 :: l, 0, j, x, y, u, hk, hj, hy => by
  simp at hk
  subst hk
  rw [List.flatMap_cons, List.set_cons_zero, List.flatMap_cons, Nat.zero_mul, Nat.zero_add, List.set_append_left _ _ (by rw [hf]; exact hj), hy]
 | x0 :: l, k + 1, j, x, y, u, hk, hj, hy => by
  rw [List.flatMap_cons, List.set_cons_succ, List.flatMap_cons, List.set_append_right _ _ (by rw [hf, Nat.succ_mul]; omega), hf, show (k + 1) * sz + j - sz = k * sz + j by rw [Nat.succ_mul]; omega, fm_setj f sz hf l k j x y u (by simpa using hk) hj hy]
theorem own_ne2 {W : World} {base base' : Nat} {e e' : TypeId} {size size' n n' : Nat} {v v' : Value} {xs xs' : List Value} (h : W.ownsRow base e size v n xs) (h' : W.ownsRow base' e' size' v' n' xs') (hne : e ≠ e') : v'.ownBlock = none ∨ v'.ownBlock ≠ v.ownBlock := by
 cases hq : v'.ownBlock with
 | none => exact .inl rfl
 | some g =>
  refine .inr fun hh => ?_
  obtain ⟨_, _, cs, h1⟩ := own_block_lt h' hq
  obtain ⟨_, _, cs', h2⟩ := own_block_lt h hh.symm
  rw [h1] at h2
  injection h2 with h2
  injection h2 with _ ht
  exact hne ht.symm
theorem ap_one {α : Type} {l : List α} {x y : α} {i : Nat} (h : (l ++ [x])[i]? = some y) : l[i]? = some y ∨ (i = l.length ∧ y = x) := by
 rcases Nat.lt_trichotomy i l.length with h1 | h1 | h1
 ·exact .inl (by rw [List.getElem?_append_left h1] at h; exact h)
 ·subst h1; simp at h; exact .inr ⟨rfl, h.symm⟩
 ·rw [List.getElem?_eq_none (by simp; omega)] at h; cases h
structure OC (B : Nat) (W : World) (v : Value) (cs : List Cl) (hs : List Value) : Prop where
 len : hs.length = cs.length
 row : W.ownsRow B 40 7 v cs.length ((hdC cs hs).flatMap cl7)
 inn : ∀ (k : Nat) (c : Cl) (u : Value), cs[k]? = some c → hs[k]? = some u → OPr B W u c.2
 sep : ∀ (i j : Nat) (u u' : Value), hs[i]? = some u → hs[j]? = some u' → i ≠ j → u.ownBlock = none ∨ u.ownBlock ≠ u'.ownBlock
structure OC1 (B : Nat) (W : World) (v : Value) (cs : List Cl) (hs : List Value) (k : Nat) (u' : Value) (q : List (Nat × Nat)) : Prop where
 len : hs.length = cs.length
 row : W.ownsRow B 40 7 v cs.length ((hdC cs hs).flatMap cl7)
 inn : ∀ (j : Nat) (c : Cl) (u : Value), j ≠ k → cs[j]? = some c → hs[j]? = some u → OPr B W u c.2
 new : OPr B W u' q
 sep : ∀ (i j : Nat) (x x' : Value), (hs.set k u')[i]? = some x → (hs.set k u')[j]? = some x' → i ≠ j → x.ownBlock = none ∨ x.ownBlock ≠ x'.ownBlock
theorem neCP : (40 : TypeId) ≠ 43 := by decide
theorem nePC : (43 : TypeId) ≠ 40 := by decide
theorem OC.nil (B : Nat) (W : World) : OC B W (.slice none 0 0) [] [] := ⟨rfl, World.ownsRow_nil _ _ _ _, fun k c u h => by simp at h, fun i j u u' h => by simp at h⟩
theorem OC.next {B : Nat} {W W' : World} {v : Value} {cs : List Cl} {hs : List Value} (h : OC B W v cs hs) (hb : Below W.heap.size W W') : OC B W' v cs hs :=
 ⟨h.len, own_next hb h.row, fun k c u hc hu => own_next hb (h.inn k c u hc hu), h.sep⟩
theorem OC1.next {B : Nat} {W W' : World} {v u' : Value} {cs : List Cl} {hs : List Value} {k : Nat} {q : List (Nat × Nat)} (h : OC1 B W v cs hs k u' q) (hb : Below W.heap.size W W') : OC1 B W' v cs hs k u' q :=
 ⟨h.len, own_next hb h.row, fun j c u hj hc hu => own_next hb (h.inn j c u hj hc hu), own_next hb h.new, h.sep⟩
theorem OC.low {B : Nat} {W : World} {v : Value} {cs : List Cl} {hs : List Value} (h : OC B W v cs hs) {b : Nat} (hb : b < B) (off : Nat) (x : Value) : OC B (W.setCell ⟨b, off, none⟩ x) v cs hs :=
 ⟨h.len, own_set_other h.row hb off x, fun k c u hc hu => own_set_other (h.inn k c u hc hu) hb off x, h.sep⟩
theorem OC.grow {B : Nat} {W W' : World} {v u u' : Value} {cs : List Cl} {hs : List Value} {k : Nat} {c : Cl} {q : List (Nat × Nat)} (h : OC B W v cs hs) (hc : cs[k]? = some c) (hu : hs[k]? = some u)
  (hn : OPr B W' u' q) (hg : W.grownBy W' u.ownBlock) (ho : u'.ownBlock = u.ownBlock ∨ u'.ownBlock = some W.heap.size) : OC1 B W' v cs hs k u' q := by
 have hk := get_lt hu
 refine ⟨h.len, h.row.kept hg (own_ne2 (h.inn k c u hc hu) h.row nePC), fun j c' x hj hc' hx => (h.inn j c' x hc' hx).kept hg (h.sep j k x u hx hu hj), hn, fun i j x x' hx hx' hij => ?_⟩
 have old : ∀ {i : Nat} {x : Value}, hs[i]? = some x → ∀ g, x.ownBlock = some g → g < W.heap.size := fun {i x} h1 g hg' => by
  obtain ⟨c1, hc1⟩ := (⟨_, List.getElem?_eq_getElem (show i < cs.length by have := get_lt h1; rw [h.len] at this; exact this)⟩ : ∃ c1, cs[i]? = some c1)
  exact ((h.inn i c1 x hc1 h1).lt g hg').2
 have far : ∀ {j : Nat} {y : Value}, hs[j]? = some y → j ≠ k → y.ownBlock = none ∨ y.ownBlock ≠ u'.ownBlock := fun {j y} hy hj => by
  rcases ho with e | e
  ·rw [e]; exact h.sep j k y u hy hu hj
  ·cases hq : y.ownBlock with
   | none => exact .inl rfl
   | some g =>
    refine .inr fun hh => ?_
    have := old hy g hq
    rw [e] at hh
    injection hh with hh
    omega
 by_cases e1 : i = k
 ·subst e1
  rw [List.getElem?_set_self hk] at hx
  injection hx with hx
  subst hx
  rw [List.getElem?_set_ne hij] at hx'
  rcases far hx' (fun e => hij e.symm) with h1 | h1
  ·cases hq : u'.ownBlock with
   | none => exact .inl rfl
   | some g => exact .inr (by rw [h1]; simp)
  ·exact .inr (fun e => h1 e.symm)
 ·rw [List.getElem?_set_ne (fun e => e1 e.symm)] at hx
  by_cases e2 : j = k
  ·subst e2
   rw [List.getElem?_set_self hk] at hx'
   injection hx' with hx'
   subst hx'
   exact far hx e1
  ·rw [List.getElem?_set_ne (fun e => e2 e.symm)] at hx'
   exact h.sep i j x x' hx hx' hij
theorem OC1.store {B : Nat} {W : World} {g n cap : Nat} {u' : Value} {cs : List Cl} {hs : List Value} {k : Nat} {c : Cl} {q : List (Nat × Nat)} (h : OC1 B W (.slice (some ⟨g, 0, none⟩) n cap) cs hs k u' q) (hc : cs[k]? = some c) :
  OC B (W.setCell ⟨g, k * 7 + 6, none⟩ u') (.slice (some ⟨g, 0, none⟩) n cap) (cs.set k (c.1, q)) (hs.set k u') ∧ W.grownBy (W.setCell ⟨g, k * 7 + 6, none⟩ u') (some g) := by
 have hk := get_lt hc
 have hn : n = cs.length := by
  obtain ⟨A0, c0, e, _⟩ := Rd.of_own h.row
  injection e
 subst hn
 obtain ⟨u, hu⟩ := (⟨_, List.getElem?_eq_getElem (show k < hs.length by rw [h.len]; exact hk)⟩ : ∃ u, hs[k]? = some u)
 obtain ⟨h1, h2⟩ := h.row.stored (k * 7 + 6) u'
 have keep : ∀ {x : Value} {l : List (Nat × Nat)}, OPr B W x l → OPr B (W.setCell ⟨g, k * 7 + 6, none⟩ u') x l := fun {x l} hx => hx.kept h2 (own_ne2 h.row hx neCP)
 refine ⟨⟨by simpa using h.len, ?_, fun j c' x hc' hx => ?_, h.sep⟩, h2⟩
 ·rw [List.length_set, ← hdC_set h.len hc q]
  rw [fm_setj cl7 7 cl7_len (hdC cs hs) k 6 (c.1, u) (c.1, u') u' (hdC_get hc hu) (by omega) rfl] at h1
  exact h1
 ·by_cases e : k = j
  ·subst e
   rw [List.getElem?_set_self hk] at hc'
   rw [List.getElem?_set_self (by rw [h.len]; exact hk)] at hx
   injection hc' with hc'
   injection hx with hx
   subst hc' hx
   exact keep h.new
  ·rw [List.getElem?_set_ne e] at hc' hx
   exact keep (h.inn j c' x (fun e' => e e'.symm) hc' hx)
theorem hdC_push {cs : List Cl} {hs : List Value} (h : hs.length = cs.length) (c : Cl) (u : Value) : hdC (cs ++ [c]) (hs ++ [u]) = hdC cs hs ++ [(c.1, u)] := by
 unfold hdC
 rw [List.map_append, List.zip_append (by rw [List.length_map, h])]
 rfl
theorem OC.lo {B : Nat} {W : World} {v : Value} {cs : List Cl} {hs : List Value} (h : OC B W v cs hs) : ∀ (i : Nat) (x : Value) (g : Nat), hs[i]? = some x → x.ownBlock = some g → g < W.heap.size := fun i x g h1 hg' => by
 obtain ⟨c1, hc1⟩ := (⟨_, List.getElem?_eq_getElem (show i < cs.length by have := get_lt h1; rw [h.len] at this; exact this)⟩ : ∃ c1, cs[i]? = some c1)
 exact ((h.inn i c1 x hc1 h1).lt g hg').2
theorem OC.push {B n0 : Nat} {W W' : World} {v v' u : Value} {cs : List Cl} {hs : List Value} {c : V6} {l : List (Nat × Nat)} (h : OC B W v cs hs) (hlo : ∀ (i : Nat) (x : Value) (g : Nat), hs[i]? = some x → x.ownBlock = some g → g < n0) (hu : OPr n0 W u l) (hB : B ≤ n0)
  (hown : W'.ownsRow B 40 7 v' (cs.length + 1) ((hdC cs hs).flatMap cl7 ++ cl7 (c, u))) (hg : W.grownBy W' v.ownBlock) : OC B W' v' (cs ++ [(c, l)]) (hs ++ [u]) := by
 have keep : ∀ {base : Nat} {x : Value} {k : List (Nat × Nat)}, OPr base W x k → OPr base W' x k := fun hx => hx.kept hg (own_ne2 h.row hx neCP)
 have new : ∀ g, u.ownBlock = some g → n0 ≤ g := fun g hg' => (hu.lt g hg').1
 refine ⟨by simp [h.len], ?_, fun i c' x hc' hx => ?_, fun i j x x' hx hx' hij => ?_⟩
 ·rw [hdC_push h.len, List.flatMap_append, List.length_append]
  simpa using hown
 ·rcases ap_one hc' with h1 | ⟨h1, rfl⟩
  ·rcases ap_one hx with h2 | ⟨h2, rfl⟩
   ·exact keep (h.inn i c' x h1 h2)
   ·have := get_lt h1; rw [h.len] at h2; omega
  ·rcases ap_one hx with h2 | ⟨h2, rfl⟩
   ·have := get_lt h2; rw [h.len] at this; omega
   ·exact own_mono (keep hu) hB
 ·rcases ap_one hx with h1 | ⟨h1, rfl⟩
  ·rcases ap_one hx' with h2 | ⟨h2, rfl⟩
   ·exact h.sep i j x x' h1 h2 hij
   ·cases e : x.ownBlock with
    | none => exact .inl rfl
    | some g =>
     refine .inr fun e' => ?_
     have := hlo i x g h1 e
     have := new g e'.symm
     omega
  ·rcases ap_one hx' with h2 | ⟨h2, rfl⟩
   ·cases e : x.ownBlock with
    | none => exact .inl rfl
    | some g =>
     refine .inr fun e' => ?_
     have := hlo j x' g h2 e'.symm
     have := new g e
     omega
   ·omega
theorem OC1.cell {B : Nat} {W : World} {g n c0 : Nat} {cs : List Cl} {hs : List Value} {k : Nat} {u' : Value} {q : List (Nat × Nat)} {c : Cl} {u : Value} (h : OC1 B W (.slice (some ⟨g, 0, none⟩) n c0) cs hs k u' q) (hc : cs[k]? = some c) (hu : hs[k]? = some u) : W.cell? ⟨g, k * 7 + 6, none⟩ = some u ∧ g < W.heap.size := by
 have := h.row.cells (g := g) rfl (k * 7 + 6) u (by rw [fm_get cl7 7 cl7_len (hdC cs hs) k 6 (c.1, u) (hdC_get hc hu) (by omega)]; rfl)
 simp only [Addr.add, Nat.zero_add] at this
 exact ⟨this, (h.row.lt g rfl).2⟩
theorem cl7_one (A : Option Addr) (n c0 : Nat) (v : V6) : ∀ u ∈ cl7 (v, .slice A n c0), u.oneCell' = true := by
 intro u hu; simp [cl7] at hu; rcases hu with rfl | rfl | rfl | rfl | rfl | rfl | rfl <;> rfl
end Go.Proofs.YtfangplfbbgphaaGreatDoor
