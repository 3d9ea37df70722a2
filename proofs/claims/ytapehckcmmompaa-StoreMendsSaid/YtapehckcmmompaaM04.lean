/- Several texts in one. -/
import Derived.Test.YtapehckcmmompaaM03
namespace Go.Proofs.Ytapehckcmmompaa
open Go.ChangeShapes Go.WideShapes Go.ChangeAt Go.RowKit Gf
set_option linter.unusedVariables false
set_option maxRecDepth 100000
attribute [local go_sem ↓] Go.wp_at_zero Go.wp_at_succ
theorem keepL_none (m : List (List Nat)) : keepL m (goneB []) = m := by
 apply List.ext_getElem?
 intro i
 by_cases hi : i < m.length
 ·obtain ⟨l, hl⟩ := get_some hi
  rw [keepL_at hl, hl]; rfl
 ·rw [List.getElem?_eq_none (by rw [keepL_len]; omega), List.getElem?_eq_none (by omega)]
theorem keepL_snoc {m : List (List Nat)} {ds : List Int} {k x : Nat} (h : ds[k]? = some (x : Int)) : keepL m (goneB (ds.take (k + 1))) = (keepL m (goneB (ds.take k))).set x [] := by
 apply List.ext_getElem?
 intro i
 rw [List.getElem?_set]
 by_cases hi : i < m.length
 ·obtain ⟨l, hl⟩ := get_some hi
  rw [keepL_at hl, keepL_at hl, goneB_snoc h]
  by_cases e : x = i
  ·subst e
   rw [if_pos rfl, if_pos (by simp), if_pos (by rw [keepL_len]; exact hi)]
  ·rw [if_neg e]
   have : (((x : Nat) : Int) == (i : Int)) = false := by rw [beq_eq_false_iff_ne]; omega
   rw [this, Bool.or_false]
 ·rw [List.getElem?_eq_none (by rw [keepL_len]; omega)]
  by_cases e : x = i
  ·subst e; rw [if_pos rfl, if_neg (by rw [keepL_len]; exact hi)]
  ·rw [if_neg e, List.getElem?_eq_none (by rw [keepL_len]; omega)]
set_option maxHeartbeats 2000000 in
theorem refLose_calls (D M : Int) (A : Option Addr) (c B : Nat) (m : List (List Nat)) (Ad : Option Addr) (cd Bd : Nat) (ds : List Int) (w : World) (hn : m.length ≤ c) (hc : c ≤ 9223372036854775807) (hs : RMA B w A m) (hdn : ds.length ≤ cd) (hdc : cd ≤ 9223372036854775807) (hd : RI Bd w Ad ds) :
  Calls Try.prog 62 #[Sv D M (.slice A m.length c), .slice Ad ds.length cd] w (SEPost w (loseS D M m ds) (loseE D M m ds)) := by
 have HS := Lib.hid hs
 have HD := Lib.hid hd
 clear hs hd
 have CC := Lib.hid (fun W (h : RMA B W A m) => refCheck_calls D M A c B m W hn hc h)
 by_cases ck : chkE D M m = 0
 ·have OKS := (chkE_ok ck).1
  have hmn : m.length ≤ 12 := by have := OKS.len; have := OKS.d8; have := OKS.m4; omega
  have F0 : Hid (loseE D M m ds = if inB m.length ds = false then 2 else if ds.Nodup then (if szL (keepL m (goneB ds)) = 0 then 32 else 0) else 14) := Lib.hid (by unfold loseE; rw [if_neg (by rw [ck]; decide)])
  rw [ck] at CC
  have OK := Lib.hid OKS
  clear ck OKS
  go_enter Try.func62, Try.ntmps62
  go_wp2_with fail
  refine (CC.out _ (HS.out.next (Bal (Bal (Below.refl _ _) _) _))).mono ?_
  rintro e w1 ⟨rfl, hb1⟩
  have N1 : Hid (Below w.heap.size w w1) := Lib.hid (Bgo (Bal (Bal (Below.refl _ _) _) _) hb1)
  have SB1 : Hid (w1.heap[w.heap.size]? = some (.cells #[.int .i64 D, .int .i64 M, .slice A m.length c] 54)) := Lib.hid (blk_next hb1 (blk_alloc (blk_new w _) _))
  have X1 : Hid (w1.heap[w.heap.size + 1]? = some (.cells #[.int .i64 0, .int .i64 0, .slice none 0 0] 54)) := Lib.hid (blk_next hb1 (blk_at _ (by simp)))
  clear hb1
  go_wp2_with fail
  go_loopw [7] (fun i wr => ∃ k : Nat, k ≤ ds.length ∧ i = .int .i64 k ∧ Hid (Below w.heap.size w wr) ∧ Hid (wr.heap[w.heap.size]? = some (.cells #[.int .i64 D, .int .i64 M, .slice A m.length c] 54)) ∧ Hid (wr.heap[w.heap.size + 1]? = some (.cells #[.int .i64 0, .int .i64 0, .slice none 0 0] 54)) ∧ Hid (∀ (j : Nat) (d : Int), j < k → ds[j]? = some d → 0 ≤ d ∧ d < (m.length : Int))) (fun i _ => ds.length - (intOf i).toNat)
  case atStart => exact ⟨0, by omega, rfl, N1, SB1, X1, Lib.hid (fun j l' h => by omega)⟩
  case round =>
   clear N1 SB1 X1
   obtain ⟨k, hk, rfl, N1, SB, X1, HN⟩ := hrel
   have s2 : wr.cell? ⟨w.heap.size, 2, none⟩ = some (.slice A m.length c) := blk_cell SB.out 2 _ rfl
   by_cases hlt : k < ds.length
   ·obtain ⟨d, hdk⟩ := get_some hlt
    obtain ⟨bd, od, rfl, hbd, hcd⟩ := (HD.out.next N1.out).at_ hdk
    have HDK := Lib.hid hdk
    clear hdk
    have k1 : (0 : Int) ≤ (k : Int) := by omega
    have k2 : (k : Int) < (ds.length : Int) := by omega
    have cs : d < 0 ∨ (0 ≤ d ∧ (m.length : Int) ≤ d) ∨ (0 ≤ d ∧ d < (m.length : Int)) := by omega
    have x0 : wr.cell? ⟨w.heap.size + 1, 0, none⟩ = some (.int .i64 0) := blk_cell X1.out 0 _ rfl
    have x1 : wr.cell? ⟨w.heap.size + 1, 1, none⟩ = some (.int .i64 0) := blk_cell X1.out 1 _ rfl
    have x2 : wr.cell? ⟨w.heap.size + 1, 2, none⟩ = some (.slice none 0 0) := blk_cell X1.out 2 _ rfl
    have f0 : wr.frozen? ⟨w.heap.size + 1, 0, none⟩ = false := blk_frozen X1.out 0
    have f1 : wr.frozen? ⟨w.heap.size + 1, 1, none⟩ = false := blk_frozen X1.out 1
    have f2 : wr.frozen? ⟨w.heap.size + 1, 2, none⟩ = false := blk_frozen X1.out 2
    rcases cs with a | ⟨a, a2⟩ | ⟨a, a2⟩
    ·have FE : Hid (loseE D M m ds = 2) := Lib.hid (by rw [F0.out, if_pos (inB_false HDK.out (.inl a))])
     have d1 : decide (d < 0) = true := by simpa using a
     go_wp2_with fail
     go_quiet (fail)
     go_wp2_with fail
     have Z := blk_set3 (w := wr.drewN nq) X1.out (.int .i64 0) (.int .i64 0) (.slice none 0 0)
     have e0 := blk_cell Z 0 _ rfl
     have e1 := blk_cell Z 1 _ rfl
     have e2 := blk_cell Z 2 _ rfl
     rw [loseS_err FE.out (by decide), FE.out]
     refine bodyPost_ret (v := .tuple #[Sv 0 0 (.slice none 0 0), .int .i64 2]) (by simp [results, Try.results62, go_sem, e0, e1, e2]) rfl (SEPost.none_ ?_)
     exact Bset3 (below_drewN N1.out _) (by omega) _ _ _
    ·have FE : Hid (loseE D M m ds = 2) := Lib.hid (by rw [F0.out, if_pos (inB_false HDK.out (.inr a2))])
     have d1 : decide (d < 0) = false := by simpa using a
     go_wp2_with fail
     go_quiet (fail)
     go_wp2_with fail
     have Z := blk_set3 (w := wr.drewN nq) X1.out (.int .i64 0) (.int .i64 0) (.slice none 0 0)
     have e0 := blk_cell Z 0 _ rfl
     have e1 := blk_cell Z 1 _ rfl
     have e2 := blk_cell Z 2 _ rfl
     rw [loseS_err FE.out (by decide), FE.out]
     refine bodyPost_ret (v := .tuple #[Sv 0 0 (.slice none 0 0), .int .i64 2]) (by simp [results, Try.results62, go_sem, e0, e1, e2]) rfl (SEPost.none_ ?_)
     exact Bset3 (below_drewN N1.out _) (by omega) _ _ _
    ·have d1 : decide (d < 0) = false := by simpa using a
     go_wp2_with fail
     go_quiet (fail)
     go_wp2_with fail
     refine ⟨⟨k + 1, by omega, by go_num, Lib.hid (below_drewN N1.out _), Lib.hid (blk_drewN SB.out _), Lib.hid (blk_drewN X1.out _), Lib.hid ?_⟩, by simp [intOf]; omega⟩
     intro j d' hj hd'
     by_cases e : j = k
     ·subst e; rw [HDK.out] at hd'; cases hd'; exact ⟨a, a2⟩
     ·exact HN.out j d' (by omega) hd'
   ·obtain rfl : k = ds.length := by omega
    have IN : Hid (inB m.length ds = true) := Lib.hid (inB_true (fun j d h => HN.out j d (get_lt h) h))
    have F1 : Hid (loseE D M m ds = if ds.Nodup then (if szL (keepL m (goneB ds)) = 0 then 32 else 0) else 14) := Lib.hid (by rw [F0.out, IN.out, if_neg (by decide)])
    have LE : Hid (∀ l ∈ m, l.length ≤ 100) := Lib.hid (fun l hl => by have h := OK.out.each l hl; have := OK.out.s64; omega)
    have s0 : wr.cell? ⟨w.heap.size, 0, none⟩ = some (.int .i64 D) := blk_cell SB.out 0 _ rfl
    have s1 : wr.cell? ⟨w.heap.size, 1, none⟩ = some (.int .i64 M) := blk_cell SB.out 1 _ rfl
    clear HN F0 hlt hk
    go_wp2_with fail
    refine (refTwin_calls D M A c B m _ hn hc (by omega) (HS.out.next N1.out) LE.out).mono ?_
    rintro e w2 ⟨v, rfl, ⟨us0, ho⟩, hb2⟩
    obtain ⟨Av, cv, rfl, hv1, hv2, _⟩ := own_form ho.top
    have X2 := Lib.hid (blk_alloc (blk_next hb2 X1.out) (.cells #[.int .i64 D, .int .i64 M, .slice Av m.length cv] 54))
    have N2 := Lib.hid (Bal (Bgo N1.out hb2) (.cells #[.int .i64 D, .int .i64 M, .slice Av m.length cv] 54))
    have O2 : Hid (OMx w.heap.size (w2.alloc (.cells #[.int .i64 D, .int .i64 M, .slice Av m.length cv] 54)) (.slice Av m.length cv) us0 (keepL m (goneB (ds.take 0)))) := Lib.hid (by rw [List.take_zero, keepL_none]; exact (ho.mono (B' := w.heap.size) N1.out.size).next (Bal (Below.refl _ _) _))
    have Y2 : Hid ((w2.alloc (.cells #[.int .i64 D, .int .i64 M, .slice Av m.length cv] 54)).heap[w2.heap.size]? = some (.cells #[.int .i64 D, .int .i64 M, .slice Av m.length cv] 54)) := Lib.hid (blk_new _ _)
    have AV : Hid (∃ hb, Av = some ⟨hb, 0, none⟩) := Lib.hid (by
     rcases ho.top.2 with ⟨h1, h2⟩ | ⟨g, cap, cur, h1, _⟩
     ·exfalso; have := OK.out.len; have := OK.out.d1; simp only [Value.slice.injEq] at h1; omega
     ·simp only [Value.slice.injEq] at h1; exact ⟨g, h1.1⟩)
    have hz1 : w.heap.size + 1 < w2.heap.size := blk_lt (blk_next hb2 X1.out)
    obtain ⟨hb, rfl⟩ := AV.out
    clear ho hb2 s0 s1 s2 AV N1 SB X1
    go_wp2_with fail
    go_loopw [9] (fun i wr => ∃ (k : Nat) (us : List Value), k ≤ ds.length ∧ i = .int .i64 k ∧ Hid (Below w.heap.size w wr) ∧ Hid (wr.heap[w.heap.size + 1]? = some (.cells #[.int .i64 0, .int .i64 0, .slice none 0 0] 54)) ∧ Hid (wr.heap[w2.heap.size]? = some (.cells #[.int .i64 D, .int .i64 M, .slice (some ⟨hb, 0, none⟩) m.length cv] 54)) ∧ Hid ((ds.take k).Nodup) ∧ Hid (OMx w.heap.size wr (.slice (some ⟨hb, 0, none⟩) m.length cv) us (keepL m (goneB (ds.take k))))) (fun i _ => ds.length - (intOf i).toNat)
    case atStart => exact ⟨0, us0, by omega, rfl, N2, X2, Y2, Lib.hid (by simp), O2⟩
    case round =>
     clear N2 X2 Y2 O2
     obtain ⟨k, us, hk, rfl, N, X, Y, ND, O⟩ := hrel
     by_cases hlt : k < ds.length
     ·obtain ⟨d, hdk⟩ := get_some hlt
      obtain ⟨dp, dl⟩ := inB_out IN.out hdk
      obtain ⟨x, rfl⟩ := Int.eq_ofNat_of_zero_le dp
      have HDK := Lib.hid hdk
      obtain ⟨wo, rfl⟩ : ∃ wo : World, wo = wr := ⟨_, rfl⟩
      clear hdk
      go_wp2_with fail
      go_loopw [10] (fun i wr => ∃ t : Nat, t ≤ k ∧ i = .int .i64 t ∧ Hid (∃ n, wr = wo.drewN n) ∧ Hid (∀ (j : Nat) (d : Int), j < t → ds[j]? = some d → d ≠ (x : Int))) (fun i _ => k - (intOf i).toNat)
      case atStart => exact ⟨0, by omega, rfl, Lib.hid ⟨0, rfl⟩, Lib.hid (fun j d h => by omega)⟩
      case round =>
       obtain ⟨t, ht, rfl, HW, HN⟩ := hrel
       obtain ⟨nw, hnw⟩ := HW.out
       have N3 : Hid (Below w.heap.size w wr) := Lib.hid (by rw [hnw]; exact below_drewN N.out _)
       have X3 : Hid (wr.heap[w.heap.size + 1]? = some (.cells #[.int .i64 0, .int .i64 0, .slice none 0 0] 54)) := Lib.hid (by rw [hnw]; exact X.out)
       have Y3 : Hid (wr.heap[w2.heap.size]? = some (.cells #[.int .i64 D, .int .i64 M, .slice (some ⟨hb, 0, none⟩) m.length cv] 54)) := Lib.hid (by rw [hnw]; exact Y.out)
       have O3 : Hid (OMx w.heap.size wr (.slice (some ⟨hb, 0, none⟩) m.length cv) us (keepL m (goneB (ds.take k)))) := Lib.hid (by rw [hnw]; exact O.out.next (below_drewN (Below.refl _ _) _))
       have HWN := Lib.hid hnw
       obtain ⟨bd, od, rfl, hbd, hcd⟩ := (HD.out.next N3.out).at_ HDK.out
       clear hnw HW
       have k1 : (0 : Int) ≤ (k : Int) := by omega
       have k2 : (k : Int) < (ds.length : Int) := by omega
       by_cases hlt3 : t < k
       ·obtain ⟨d', hd'⟩ := get_some (show t < ds.length by omega)
        obtain ⟨bd', od', e', hbd', hcd'⟩ := (HD.out.next N3.out).at_ hd'
        injection e' with e'
        injection e' with e1 e2
        subst e1 e2
        have HD' := Lib.hid hd'
        have t1 : (0 : Int) ≤ (t : Int) := by omega
        have t2 : (t : Int) < (ds.length : Int) := by omega
        clear hd'
        by_cases e : d' = (x : Int)
        ·have q : (d' == (x : Int)) = true := by rw [e]; simp
         have FE : Hid (loseE D M m ds = 14) := Lib.hid (by
          rw [F1.out, if_neg (dup_not HDK.out (d := (x : Int)) ?_)]
          rw [← e]
          exact List.mem_of_getElem? (i := t) (by rw [List.getElem?_take, if_pos hlt3]; exact HD'.out))
         have x0 : wr.cell? ⟨w.heap.size + 1, 0, none⟩ = some (.int .i64 0) := blk_cell X3.out 0 _ rfl
         have x1 : wr.cell? ⟨w.heap.size + 1, 1, none⟩ = some (.int .i64 0) := blk_cell X3.out 1 _ rfl
         have x2 : wr.cell? ⟨w.heap.size + 1, 2, none⟩ = some (.slice none 0 0) := blk_cell X3.out 2 _ rfl
         have f0 : wr.frozen? ⟨w.heap.size + 1, 0, none⟩ = false := blk_frozen X3.out 0
         have f1 : wr.frozen? ⟨w.heap.size + 1, 1, none⟩ = false := blk_frozen X3.out 1
         have f2 : wr.frozen? ⟨w.heap.size + 1, 2, none⟩ = false := blk_frozen X3.out 2
         clear e
         go_wp2_with fail
         go_quiet (fail)
         go_wp2_with fail
         have Z := blk_set3 (w := wr.drewN nq) X3.out (.int .i64 0) (.int .i64 0) (.slice none 0 0)
         have e0 := blk_cell Z 0 _ rfl
         have e1 := blk_cell Z 1 _ rfl
         have e2 := blk_cell Z 2 _ rfl
         rw [loseS_err FE.out (by decide), FE.out]
         refine bodyPost_ret (v := .tuple #[Sv 0 0 (.slice none 0 0), .int .i64 14]) (by simp [results, Try.results62, go_sem, e0, e1, e2]) rfl (SEPost.none_ ?_)
         exact Bset3 (below_drewN N3.out _) (by omega) _ _ _
        ·have q : (d' == (x : Int)) = false := by rw [beq_eq_false_iff_ne]; exact e
         have E := Lib.hid e
         clear e
         go_wp2_with fail
         go_quiet (fail)
         go_wp2_with fail
         refine ⟨⟨t + 1, by omega, by go_num, Lib.hid ⟨nw + nq, by rw [HWN.out, World.drewN_drewN]⟩, Lib.hid ?_⟩, by simp [intOf]; omega⟩
         intro j d2 hj hd2
         by_cases ej : j = t
         ·subst ej; rw [HD'.out] at hd2; cases hd2; exact E.out
         ·exact HN.out j d2 (by omega) hd2
       ·obtain rfl : t = k := by omega
        have NI : Hid ((x : Int) ∉ ds.take t) := Lib.hid (fun hm => by
         obtain ⟨j, hj, e⟩ := List.mem_iff_getElem.1 hm
         have hj2 : j < t := by rw [List.length_take] at hj; omega
         refine HN.out j _ hj2 (List.getElem?_eq_getElem (by omega)) ?_
         rw [List.getElem_take] at e; exact e)
        have ND2 := Lib.hid (nodup_snoc HDK.out ND.out NI.out)
        have y2 : wr.cell? ⟨w2.heap.size, 2, none⟩ = some (.slice (some ⟨hb, 0, none⟩) m.length cv) := blk_cell Y3.out 2 _ rfl
        have hxl : x < m.length := by omega
        have xx1 : (0 : Int) ≤ (x : Int) := by omega
        have xx2 : (x : Int) < (m.length : Int) := by omega
        obtain ⟨u0, hu0⟩ := get_some (show x < us.length by rw [O3.out.len, keepL_len]; exact hxl)
        have TOP : Hid (wr.ownsRow w.heap.size 26 1 (.slice (some ⟨hb, 0, none⟩) m.length cv) m.length us) := Lib.hid (by have := O3.out.top; rw [keepL_len] at this; exact this)
        have c9 : wr.cell? ⟨hb, x, none⟩ = some u0 := (TOP.out.cellAt x (by omega)).trans hu0
        have f9 : wr.frozen? ⟨hb, x, none⟩ = false := TOP.out.frozenAt x
        have HNE : Hid (hb ≠ w2.heap.size) := Lib.hid (fun e => own_ne TOP.out Y3.out ne_sl_st (by rw [e]; rfl))
        have HNX : Hid (hb ≠ w.heap.size + 1) := Lib.hid (fun e => own_ne TOP.out X3.out ne_sl_st (by rw [e]; rfl))
        have HBS : Hid (w.heap.size ≤ hb) := Lib.hid ((TOP.out.lt hb rfl).1)
        clear hu0
        go_wp2_with fail
        refine wp_region_still_tail 7 (by kernel_rfl) (by kernel_rfl) ?_
        simp only [List.take_succ_cons, List.take_zero, List.drop_succ_cons, List.drop_zero]
        repeat still_step
        refine wpStill_nil ?_
        go_wp2_with fail
        refine ⟨⟨t + 1, us.set x (.slice none 0 0), by omega, by go_num, Lib.hid ?_, Lib.hid ?_, Lib.hid ?_, ND2, Lib.hid ?_⟩, by simp [intOf]; omega⟩
        ·first | exact Bset1 N3.out HBS.out x _ | exact (Bset1 N3.out HBS.out x _).drew
        ·exact blk_set_other X3.out HNX.out x _
        ·exact blk_set_other Y3.out HNE.out x _
        ·rw [keepL_snoc HDK.out]
         exact (OMx.setRow O3.out (keepL_len _ _) (Below.refl _ _) (World.ownsRow_nil _ _ _ _) Byt.nil N3.out.size).next (Below.refl _ _).drew
     ·obtain rfl : k = ds.length := by omega
      have ND2 : Hid ds.Nodup := Lib.hid (by have := ND.out; rwa [List.take_of_length_le (Nat.le_refl _)] at this)
      have F2 : Hid (loseE D M m ds = if szL (keepL m (goneB ds)) = 0 then 32 else 0) := Lib.hid (by rw [F1.out, if_pos ND2.out])
      have O3 : Hid (OMx w.heap.size wr (.slice (some ⟨hb, 0, none⟩) m.length cv) us (keepL m (goneB ds))) := Lib.hid (by have := O.out; rwa [List.take_of_length_le (Nat.le_refl _)] at this)
      have KL : Hid ((keepL m (goneB ds)).length = m.length) := Lib.hid (keepL_len _ _)
      have LC := Lib.hid (refLength_calls D M (some ⟨hb, 0, none⟩) cv w.heap.size (keepL m (goneB ds)) wr (by rw [KL.out]; exact hv1) hv2 O3.out.rma)
      rw [KL.out] at LC
      have y0 : wr.cell? ⟨w2.heap.size, 0, none⟩ = some (.int .i64 D) := blk_cell Y.out 0 _ rfl
      have y1 : wr.cell? ⟨w2.heap.size, 1, none⟩ = some (.int .i64 M) := blk_cell Y.out 1 _ rfl
      have y2 : wr.cell? ⟨w2.heap.size, 2, none⟩ = some (.slice (some ⟨hb, 0, none⟩) m.length cv) := blk_cell Y.out 2 _ rfl
      obtain ⟨z, hz⟩ : ∃ z, szL (keepL m (goneB ds)) = z := ⟨_, rfl⟩
      rw [hz] at LC F2
      clear hz O ND F1
      go_wp2_with fail
      refine LC.out.mono ?_
      rintro e w5 ⟨rfl, hb5⟩
      have X5 := Lib.hid (blk_next hb5 X.out)
      have Y5 := Lib.hid (blk_next hb5 Y.out)
      have N5 := Lib.hid (Bgo N.out hb5)
      have O5 := Lib.hid (O3.out.next hb5)
      clear hb5 y0 y1 y2
      have c0 : w5.cell? ⟨w2.heap.size, 0, none⟩ = some (.int .i64 D) := blk_cell Y5.out 0 _ rfl
      have c1 : w5.cell? ⟨w2.heap.size, 1, none⟩ = some (.int .i64 M) := blk_cell Y5.out 1 _ rfl
      have c2 : w5.cell? ⟨w2.heap.size, 2, none⟩ = some (.slice (some ⟨hb, 0, none⟩) m.length cv) := blk_cell Y5.out 2 _ rfl
      have x0 : w5.cell? ⟨w.heap.size + 1, 0, none⟩ = some (.int .i64 0) := blk_cell X5.out 0 _ rfl
      have x1 : w5.cell? ⟨w.heap.size + 1, 1, none⟩ = some (.int .i64 0) := blk_cell X5.out 1 _ rfl
      have x2 : w5.cell? ⟨w.heap.size + 1, 2, none⟩ = some (.slice none 0 0) := blk_cell X5.out 2 _ rfl
      have f0 : w5.frozen? ⟨w.heap.size + 1, 0, none⟩ = false := blk_frozen X5.out 0
      have f1 : w5.frozen? ⟨w.heap.size + 1, 1, none⟩ = false := blk_frozen X5.out 1
      have f2 : w5.frozen? ⟨w.heap.size + 1, 2, none⟩ = false := blk_frozen X5.out 2
      by_cases hzm : z = 0
      ·have FE : Hid (loseE D M m ds = 32) := Lib.hid (by rw [F2.out, if_pos hzm])
       have q : ((z : Int) == 0) = true := by rw [hzm]; rfl
       clear hzm
       go_wp2_with fail
       have Z := blk_set3 X5.out (.int .i64 0) (.int .i64 0) (.slice none 0 0)
       have e0 := blk_cell Z 0 _ rfl
       have e1 := blk_cell Z 1 _ rfl
       have e2 := blk_cell Z 2 _ rfl
       rw [loseS_err FE.out (by decide), FE.out]
       refine bodyPost_ret (v := .tuple #[Sv 0 0 (.slice none 0 0), .int .i64 32]) (by simp [results, Try.results62, go_sem, e0, e1, e2]) rfl (SEPost.none_ ?_)
       exact Bset3 N5.out (by omega) _ _ _
      ·have FE : Hid (loseE D M m ds = 0) := Lib.hid (by rw [F2.out, if_neg hzm])
       have q : ((z : Int) == 0) = false := by rw [beq_eq_false_iff_ne]; omega
       clear hzm
       go_wp2_with fail
       have Z := blk_set3 X5.out (.int .i64 D) (.int .i64 M) (.slice (some ⟨hb, 0, none⟩) m.length cv)
       have e0 := blk_cell Z 0 _ rfl
       have e1 := blk_cell Z 1 _ rfl
       have e2 := blk_cell Z 2 _ rfl
       rw [show loseS D M m ds = (D, M, keepL m (goneB ds)) by unfold loseS; rw [FE.out, if_pos rfl], FE.out]
       refine bodyPost_ret (v := .tuple #[Sv D M (.slice (some ⟨hb, 0, none⟩) m.length cv), .int .i64 0]) (by simp [results, Try.results62, go_sem, e0, e1, e2]) rfl ⟨_, rfl, ⟨us, ?_⟩, ?_⟩
       ·exact O5.out.set3_ X5.out _ _ _
       ·exact Bset3 N5.out (by omega) _ _ _
 ·have FE : Hid (loseE D M m ds = chkE D M m) := Lib.hid (by unfold loseE; rw [if_pos ck])
  have q : (chkE D M m != 0) = true := by rw [bne_iff_ne]; exact ck
  rw [loseS_err FE.out ck, FE.out]
  generalize chkE D M m = er at *
  clear ck FE
  go_enter Try.func62, Try.ntmps62
  go_wp2_with fail
  refine (CC.out _ (HS.out.next (Bal (Bal (Below.refl _ _) _) _))).mono ?_
  rintro e w1 ⟨rfl, hb1⟩
  have N1 : Hid (Below w.heap.size w w1) := Lib.hid (Bgo (Bal (Bal (Below.refl _ _) _) _) hb1)
  have X1 : Hid (w1.heap[w.heap.size + 1]? = some (.cells #[.int .i64 0, .int .i64 0, .slice none 0 0] 54)) := Lib.hid (blk_next hb1 (blk_at _ (by simp)))
  clear hb1
  have x0 : w1.cell? ⟨w.heap.size + 1, 0, none⟩ = some (.int .i64 0) := blk_cell X1.out 0 _ rfl
  have x1 : w1.cell? ⟨w.heap.size + 1, 1, none⟩ = some (.int .i64 0) := blk_cell X1.out 1 _ rfl
  have x2 : w1.cell? ⟨w.heap.size + 1, 2, none⟩ = some (.slice none 0 0) := blk_cell X1.out 2 _ rfl
  have f0 : w1.frozen? ⟨w.heap.size + 1, 0, none⟩ = false := blk_frozen X1.out 0
  have f1 : w1.frozen? ⟨w.heap.size + 1, 1, none⟩ = false := blk_frozen X1.out 1
  have f2 : w1.frozen? ⟨w.heap.size + 1, 2, none⟩ = false := blk_frozen X1.out 2
  go_wp2_with fail
  have Z := blk_set3 X1.out (.int .i64 0) (.int .i64 0) (.slice none 0 0)
  have e0 := blk_cell Z 0 _ rfl
  have e1 := blk_cell Z 1 _ rfl
  have e2 := blk_cell Z 2 _ rfl
  refine bodyPost_ret (v := .tuple #[Sv 0 0 (.slice none 0 0), .int .i64 er]) (by simp [results, Try.results62, go_sem, e0, e1, e2]) rfl (SEPost.none_ ?_)
  exact Bset3 N1.out (by omega) _ _ _
end Go.Proofs.Ytapehckcmmompaa
namespace Go.Proofs.Ytapehckcmmompaa
open Go.ChangeShapes Go.WideShapes Go.ChangeAt Go.RowKit Gf
set_option linter.unusedVariables false
set_option maxRecDepth 100000
structure Fam (B : Nat) (w : World) (us : List Value) (ls : List (List Nat)) : Prop where
 len : us.length = ls.length
 row : ∀ (i : Nat) (u : Value) (l : List Nat), us[i]? = some u → ls[i]? = some l → OB B w u l
 byt : ∀ l ∈ ls, Byt l
 apart : ∀ (i j : Nat) (u u' : Value), us[i]? = some u → us[j]? = some u' → i ≠ j → u.ownBlock = none ∨ u.ownBlock ≠ u'.ownBlock
theorem OMx.fam {B : Nat} {w : World} {v : Value} {us : List Value} {m : List (List Nat)} (h : OMx B w v us m) : Fam B w us m := ⟨h.len, h.row, h.byt, h.apart⟩
theorem Fam.omx {B : Nat} {w : World} {v : Value} {us : List Value} {m : List (List Nat)} (h : Fam B w us m) (ht : w.ownsRow B 26 1 v m.length us) : OMx B w v us m := ⟨ht, h.row, h.byt, h.apart⟩
theorem Fam.next {B : Nat} {w w' : World} {us : List Value} {ls : List (List Nat)} (hb : Below w.heap.size w w') (h : Fam B w us ls) : Fam B w' us ls :=
 ⟨h.len, fun i u l hu hl => own_next hb (h.row i u l hu hl), h.byt, h.apart⟩
theorem Fam.nil (B : Nat) (w : World) : Fam B w [] [] := ⟨rfl, fun i u l hu => by simp at hu, fun l hl => by simp at hl, fun i j u u' hu => by simp at hu⟩
theorem Fam.form {B : Nat} {w : World} {us : List Value} {ls : List (List Nat)} (h : Fam B w us ls) {i : Nat} {l : List Nat} (hl : ls[i]? = some l) (h0 : 0 < l.length) :
  ∃ g cap, us[i]? = some (.slice (some ⟨g, 0, none⟩) l.length cap) ∧ B ≤ g ∧ g < w.heap.size ∧ l.length ≤ cap ∧ cap ≤ 9223372036854775807 ∧ w.ownsRow B 5 1 (.slice (some ⟨g, 0, none⟩) l.length cap) l.length (bv l) ∧ Byt l := by
 obtain ⟨u, hu⟩ := get_some (show i < us.length by rw [h.len]; exact get_lt hl)
 have ho := h.row i u l hu hl
 rcases ho.2 with ⟨_, h2⟩ | ⟨g, cap, cur, e, hb, hg, hc, hm, _⟩
 ·omega
 ·rw [e] at hu ho
  exact ⟨g, cap, hu, hb, blk_lt hg, hc, by simpa [maxLen] using hm, ho, h.byt l (List.mem_of_getElem? hl)⟩
theorem Fam.write {B : Nat} {w w' : World} {us : List Value} {ls : List (List Nat)} (h : Fam B w us ls) {i g n cap : Nat} {l' : List Nat} (hu : us[i]? = some (.slice (some ⟨g, 0, none⟩) n cap)) (hg : w.grownBy w' (some g))
  (ho : w'.ownsRow B 5 1 (.slice (some ⟨g, 0, none⟩) n cap) n (bv l')) (hn : l'.length = n) (hb : Byt l') : Fam B w' us (ls.set i l') := by
 subst hn
 refine ⟨by simpa using h.len, fun j u l hj hl => ?_, fun l hl => ?_, h.apart⟩
 ·rcases set_get hl with ⟨rfl, rfl, _⟩ | ⟨h1, h2⟩
  ·rw [hu] at hj; cases hj; exact ho
  ·refine (h.row j u l hj h2).kept hg ?_
   rcases h.apart j i u _ hj hu h1 with h3 | h3
   ·exact .inl h3
   ·exact .inr h3
 ·rcases List.mem_or_eq_of_mem_set hl with h1 | rfl
  ·exact h.byt l h1
  ·exact hb
theorem Fam.ne_ {B : Nat} {w : World} {us : List Value} {ls : List (List Nat)} (h : Fam B w us ls) {i j g g' n n' cap cap' : Nat} (hi : us[i]? = some (.slice (some ⟨g, 0, none⟩) n cap)) (hj : us[j]? = some (.slice (some ⟨g', 0, none⟩) n' cap')) (hij : i ≠ j) : g ≠ g' := fun e => by
 rcases h.apart i j _ _ hi hj hij with h1 | h1
 ·simp [Value.ownBlock] at h1
 ·exact h1 (by rw [e]; rfl)
structure KU (B : Nat) (w w' : World) : Prop where
 bel : Below B w w'
 oth : ∀ (g : Nat) (cs : Array Value) (t : TypeId) (fz : Nat × Nat), w.heap[g]? = some (.cells cs t fz) → t ≠ 5 → w'.heap[g]? = some (.cells cs t fz)
theorem KU.refl (B : Nat) (w : World) : KU B w w := ⟨Below.refl _ _, fun _ _ _ _ h _ => h⟩
theorem KU.trans {B : Nat} {a b c : World} (h : KU B a b) (k : KU B b c) : KU B a c := ⟨h.bel.trans k.bel, fun g cs t fz hg ht => k.oth g cs t fz (h.oth g cs t fz hg ht) ht⟩
theorem KU.drew {B : Nat} {a b : World} (h : KU B a b) : KU B a b.drew := ⟨h.bel.drew, h.oth⟩
theorem KU.undrew {B : Nat} {a b : World} (h : KU B a.drew b) : KU B a b := ⟨⟨h.bel.os, h.bel.tape, h.bel.output, h.bel.size, h.bel.block⟩, h.oth⟩
theorem KU.grown {B g : Nat} {w w' : World} {n cap : Nat} {xs : List Value} (hg : w.grownBy w' (some g)) (ho : w.ownsRow B 5 1 (.slice (some ⟨g, 0, none⟩) n cap) n xs) (hs : B ≤ w.heap.size) : KU B w w' :=
 ⟨(Below.refl B w).grown hg hs (fun k hk => by cases hk; exact (ho.lt g rfl).1), fun b cs t fz hb ht => gblk hg hb (fun e => own_ne ho hb (fun e' => ht e'.symm) e.symm)⟩
theorem KU.own {B : Nat} {w w' : World} (h : KU B w w') {base : Nat} {e : TypeId} {size n : Nat} {v : Value} {xs : List Value} (ho : w.ownsRow base e size v n xs) (he : e ≠ 5) : w'.ownsRow base e size v n xs := by
 obtain ⟨h1, h2 | ⟨g, cap, cur, e1, e2, e3, e4⟩⟩ := ho
 ·exact ⟨h1, .inl h2⟩
 ·exact ⟨h1, .inr ⟨g, cap, cur, e1, e2, h.oth g cur e (0, 0) e3 he, e4⟩⟩
def mixK (h : Nat → Nat → Nat) (l : List Nat) (k : Nat) : List Nat := (List.range l.length).map fun i => if i < k then h i (l.getD i 0) else l.getD i 0
theorem mixK_len (h : Nat → Nat → Nat) (l : List Nat) (k : Nat) : (mixK h l k).length = l.length := by simp [mixK]
theorem mixK_zero (h : Nat → Nat → Nat) (l : List Nat) : mixK h l 0 = l := by
 apply List.ext_getElem?
 intro i
 simp only [mixK, List.getElem?_map]
 by_cases hi : i < l.length
 ·rw [List.getElem?_range hi, List.getElem?_eq_getElem hi]; simp [List.getD_eq_getElem?_getD, hi]
 ·rw [List.getElem?_eq_none (by simpa using hi), List.getElem?_eq_none (by simpa using hi)]; rfl
theorem mixK_at {h : Nat → Nat → Nat} {l : List Nat} {k x : Nat} (e : l[k]? = some x) : (mixK h l k)[k]? = some x := by
 simp only [mixK, List.getElem?_map, List.getElem?_range (get_lt e), Option.map_some]
 simp [List.getD_eq_getElem?_getD, e]
theorem mixK_succ {h : Nat → Nat → Nat} {l : List Nat} {k x : Nat} (e : l[k]? = some x) : mixK h l (k + 1) = (mixK h l k).set k (h k x) := by
 apply List.ext_getElem?
 intro i
 have hl := get_lt e
 rw [List.getElem?_set]
 by_cases hi : i < l.length
 ·simp only [mixK, List.getElem?_map, List.getElem?_range hi, Option.map_some]
  by_cases ek : k = i
  ·subst ek
   have e1 : l.getD k 0 = x := by rw [List.getD_eq_getElem?_getD, e]; rfl
   rw [if_pos (by omega), e1]
   simp [hl]
  ·rw [if_neg ek]
   congr 1
   by_cases hk : i < k
   ·rw [if_pos (by omega), if_pos hk]
   ·rw [if_neg (by omega), if_neg hk]
 ·rw [List.getElem?_eq_none (by simp [mixK]; omega)]
  by_cases ek : k = i
  ·omega
  ·rw [if_neg ek, List.getElem?_eq_none (by simp [mixK]; omega)]
def scaleR (f : Nat) (l : List Nat) : List Nat := l.map (gm f)
theorem scaleR_len (f : Nat) (l : List Nat) : (scaleR f l).length = l.length := by simp [scaleR]
theorem mixK_scale (f : Nat) (l : List Nat) : mixK (fun _ x => gm f x) l l.length = scaleR f l := by
 apply List.ext_getElem?
 intro i
 simp only [mixK, scaleR, List.getElem?_map]
 by_cases hi : i < l.length
 ·rw [List.getElem?_range hi, List.getElem?_eq_getElem hi]; simp [List.getD_eq_getElem?_getD, hi]
 ·rw [List.getElem?_eq_none (by simpa using hi), List.getElem?_eq_none (by simpa using hi)]; rfl
theorem scaleR_byt {f : Nat} (l : List Nat) (hf : f < 256) : Byt (scaleR f l) := fun x hx => by
 simp only [scaleR, List.mem_map] at hx
 obtain ⟨y, _, rfl⟩ := hx
 exact gm_lt hf
theorem mixK_byt {h : Nat → Nat → Nat} {l : List Nat} (k : Nat) (hl : Byt l) (hh : ∀ i x, h i x < 256) : Byt (mixK h l k) := fun x hx => by
 simp only [mixK, List.mem_map, List.mem_range] at hx
 obtain ⟨i, hi, rfl⟩ := hx
 split
 ·exact hh _ _
 ·rw [List.getD_eq_getElem?_getD, List.getElem?_eq_getElem hi]; exact hl _ (List.getElem_mem hi)
def pivF (M : List (List Nat)) (p : Nat) : Nat := gi ((M.getD p []).getD p 0)
def elim (M L : List (List Nat)) (p r : Nat) : List (List Nat) := (List.range L.length).map fun i =>
 if i = p then scaleR (pivF M p) (L.getD p []) else if i < r then addR (L.getD i []) (scaleR (pivF M p) (L.getD p [])) ((M.getD i []).getD p 0) else L.getD i []
def gjTo (M R : List (List Nat)) : Nat → List (List Nat) × List (List Nat)
 | 0 => (M, R)
 | p + 1 => (elim (gjTo M R p).1 (gjTo M R p).1 p M.length, elim (gjTo M R p).1 (gjTo M R p).2 p M.length)
theorem elim_len (M L : List (List Nat)) (p r : Nat) : (elim M L p r).length = L.length := by simp [elim]
theorem elim_at {M L : List (List Nat)} {p r i : Nat} (hi : i < L.length) : (elim M L p r)[i]? = some (if i = p then scaleR (pivF M p) (L.getD p []) else if i < r then addR (L.getD i []) (scaleR (pivF M p) (L.getD p [])) ((M.getD i []).getD p 0) else L.getD i []) := by
 simp only [elim, List.getElem?_map, List.getElem?_range hi, Option.map_some]
theorem getD_get {m : List (List Nat)} {i : Nat} (hi : i < m.length) : m[i]? = some (m.getD i []) := by
 obtain ⟨l, hl⟩ := get_some hi
 rw [hl, getD_of hl]
theorem elim_zero {M L : List (List Nat)} {p : Nat} (hp : p < L.length) : elim M L p 0 = L.set p (scaleR (pivF M p) (L.getD p [])) := by
 apply List.ext_getElem?
 intro i
 rw [List.getElem?_set]
 by_cases hi : i < L.length
 ·rw [elim_at hi]
  by_cases e : p = i
  ·subst e; rw [if_pos rfl, if_pos rfl, if_pos hp]
  ·rw [if_neg e, if_neg (fun e' => e e'.symm), if_neg (by omega), getD_get hi]
 ·rw [List.getElem?_eq_none (by rw [elim_len]; omega)]
  by_cases e : p = i
  ·omega
  ·rw [if_neg e, List.getElem?_eq_none (by omega)]
theorem elim_skip {M L : List (List Nat)} {p : Nat} : elim M L p (p + 1) = elim M L p p := by
 unfold elim
 apply List.map_congr_left
 intro i _
 by_cases e : i = p
 ·rw [if_pos e, if_pos e]
 ·rw [if_neg e, if_neg e]
  by_cases h : i < p
  ·rw [if_pos (by omega), if_pos h]
  ·rw [if_neg (by omega), if_neg h]
theorem elim_step {M L : List (List Nat)} {p r : Nat} (hr : r < L.length) (hp : r ≠ p) : elim M L p (r + 1) = (elim M L p r).set r (addR (L.getD r []) (scaleR (pivF M p) (L.getD p [])) ((M.getD r []).getD p 0)) := by
 apply List.ext_getElem?
 intro i
 rw [List.getElem?_set]
 by_cases hi : i < L.length
 ·rw [elim_at hi, elim_at hi]
  by_cases e : r = i
  ·subst e; rw [if_pos rfl, if_neg hp, if_pos (by omega), if_pos (by rw [elim_len]; exact hr)]
  ·rw [if_neg e]
   by_cases e' : i = p
   ·rw [if_pos e', if_pos e']
   ·rw [if_neg e', if_neg e']
    by_cases h : i < r
    ·rw [if_pos (by omega), if_pos h]
    ·rw [if_neg (by omega), if_neg h]
 ·rw [List.getElem?_eq_none (by rw [elim_len]; omega)]
  by_cases e : r = i
  ·omega
  ·rw [if_neg e, List.getElem?_eq_none (by rw [elim_len]; omega)]
theorem elim_rows {M L : List (List Nat)} {p r n : Nat} (h : ∀ l ∈ L, l.length = n) (hp : p < L.length) : ∀ l ∈ elim M L p r, l.length = n := fun l hl => by
 have g : ∀ i, i < L.length → (L.getD i []).length = n := fun i hi => by
  obtain ⟨x, hx⟩ := get_some hi
  rw [getD_of hx]; exact h x (List.mem_of_getElem? hx)
 simp only [elim, List.mem_map, List.mem_range] at hl
 obtain ⟨i, hi, rfl⟩ := hl
 split
 ·rw [scaleR_len]; exact g p hp
 ·split
  ·rw [addR_len]; exact g i hi
  ·exact g i hi
theorem gjTo_len (M R : List (List Nat)) (p : Nat) : (gjTo M R p).1.length = M.length ∧ (gjTo M R p).2.length = R.length := by
 induction p with
 | zero => exact ⟨rfl, rfl⟩
 | succ p ih => exact ⟨by rw [gjTo, elim_len, ih.1], by rw [gjTo, elim_len, ih.2]⟩
theorem gjTo_rows {M R : List (List Nat)} {n q : Nat} (hM : ∀ l ∈ M, l.length = n) (hR : ∀ l ∈ R, l.length = q) (hl : R.length = M.length) : ∀ p, p ≤ M.length → (∀ l ∈ (gjTo M R p).1, l.length = n) ∧ (∀ l ∈ (gjTo M R p).2, l.length = q)
 | 0, _ => ⟨hM, hR⟩
 | p + 1, h => by
  have ih := gjTo_rows hM hR hl p (by omega)
  exact ⟨elim_rows ih.1 (by rw [(gjTo_len M R p).1]; omega), elim_rows ih.2 (by rw [(gjTo_len M R p).2]; omega)⟩
theorem set_left {α : Type} {a b : List α} {i : Nat} (h : i < a.length) (x : α) : (a ++ b).set i x = a.set i x ++ b := by rw [List.set_append_left _ _ h]
theorem set_right {α : Type} (a b : List α) (i : Nat) (x : α) : (a ++ b).set (a.length + i) x = a ++ b.set i x := by rw [List.set_append_right _ _ (by omega)]; simp
theorem get_left {α : Type} {a b : List α} {i : Nat} (h : i < a.length) : (a ++ b)[i]? = a[i]? := List.getElem?_append_left h
theorem get_right {α : Type} (a b : List α) (i : Nat) : (a ++ b)[a.length + i]? = b[i]? := by rw [List.getElem?_append_right (by omega)]; simp
end Go.Proofs.Ytapehckcmmompaa
namespace Go.Proofs.Ytapehckcmmompaa
open Go.ChangeShapes Go.WideShapes Go.ChangeAt Go.RowKit Gf
set_option linter.unusedVariables false
set_option maxRecDepth 100000
attribute [local go_sem ↓] Go.wp_at_zero Go.wp_at_succ
theorem own_cell {w : World} {B : Nat} {e : TypeId} {A : Option Addr} {n cap i : Nat} {us : List Value} {u : Value} (h : w.ownsRow B e 1 (.slice A n cap) n us) (hu : us[i]? = some u) : ∃ b, A = some ⟨b, 0, none⟩ ∧ w.cell? ⟨b, i, none⟩ = some u ∧ b < w.heap.size ∧ B ≤ b := by
 have hl : i < n := by have := get_lt hu; have h1 := h.1; omega
 rcases h.2 with ⟨h', _⟩ | ⟨g, cap', cur, h', hb, hg, _⟩
 ·simp only [Value.slice.injEq] at h'; omega
 ·have h0 := h
  simp only [Value.slice.injEq, true_and] at h'
  rw [h'.1] at h0 ⊢
  exact ⟨g, rfl, (h0.cellAt i (by omega)).trans hu, blk_lt hg, hb⟩
theorem ob_cell {w : World} {B g n cap k x : Nat} {l : List Nat} (h : w.ownsRow B 5 1 (.slice (some ⟨g, 0, none⟩) n cap) n (bv l)) (hx : l[k]? = some x) : w.cell? ⟨g, k, none⟩ = some (.int .u8 (x : Int)) := by
 have hl : k < n := by have := get_lt hx; have h1 := h.1; rw [bv_len] at h1; omega
 rw [h.cellAt k (by omega)]; exact bv_get hx
theorem own_nn {w : World} {B B' b g n n' cap cap' : Nat} {e e' : TypeId} {xs ys : List Value} (h : w.ownsRow B e 1 (.slice (some ⟨b, 0, none⟩) n cap) n xs) (h' : w.ownsRow B' e' 1 (.slice (some ⟨g, 0, none⟩) n' cap') n' ys) (hne : e ≠ e') : b ≠ g := fun eq => by
 rcases own_own h h' hne with h1 | h1
 ·simp [Value.ownBlock] at h1
 ·exact h1 (by rw [eq]; rfl)
theorem own_at {w : World} {B b n cap i : Nat} {e : TypeId} {us : List Value} {u : Value} (h : w.ownsRow B e 1 (.slice (some ⟨b, 0, none⟩) n cap) n us) (hu : us[i]? = some u) : w.cell? ⟨b, i, none⟩ = some u := by
 have hl : i < n := by have := get_lt hu; have h1 := h.1; omega
 rw [h.cellAt i (by omega)]; exact hu
theorem rba_own {w : World} {B g n cap : Nat} {l : List Nat} (h : w.ownsRow B 5 1 (.slice (some ⟨g, 0, none⟩) n cap) n (bv l)) (hb : Byt l) : RBA B w (some ⟨g, 0, none⟩) l := ⟨hb, Hd.of_own h⟩
set_option maxRecDepth 100000 in
set_option maxHeartbeats 4000000 in
theorem solve_calls (Am Ar : Option Addr) (cm cr B n q : Nat) (us vs : List Value) (M R : List (List Nat)) (w : World) (hM : M.length = n) (hR : R.length = n) (hq : 1 ≤ q) (hn : n ≤ 100) (hq2 : q ≤ 100) (hMr : ∀ l ∈ M, l.length = n) (hRr : ∀ l ∈ R, l.length = q)
  (hm : w.ownsRow B 26 1 (.slice Am n cm) n us) (hr : w.ownsRow B 26 1 (.slice Ar n cr) n vs) (hf : Fam B w (us ++ vs) (M ++ R)) (hB : B ≤ w.heap.size) :
  Calls Try.prog 90 #[.slice Am n cm, .slice Ar n cr] w fun e w' => e = .returned (.tuple #[]) ∧ Fam B w' (us ++ vs) ((gjTo M R n).1 ++ (gjTo M R n).2) ∧ KU B w w' := by
 have HM := Lib.hid hm
 have HR := Lib.hid hr
 have HF := Lib.hid hf
 have hul : us.length = n := by have := hm.1; omega
 have hvl : vs.length = n := by have := hr.1; omega
 have HUL := Lib.hid hul
 have HVL := Lib.hid hvl
 have HML := Lib.hid hM
 have HRL := Lib.hid hR
 have GR : Hid (∀ p, p ≤ n → (∀ l ∈ (gjTo M R p).1, l.length = n) ∧ (∀ l ∈ (gjTo M R p).2, l.length = q)) := Lib.hid (fun p hp => gjTo_rows hMr hRr (by rw [hM, hR]) p (by omega))
 have GL : Hid (∀ p, (gjTo M R p).1.length = n ∧ (gjTo M R p).2.length = n) := Lib.hid (fun p => by have := gjTo_len M R p; rw [hM, hR] at this; exact this)
 obtain ⟨hmc, hmc2⟩ : n ≤ cm ∧ cm ≤ 9223372036854775807 := by
  obtain ⟨A', c', e, h1, h2, _⟩ := own_form hm
  simp only [Value.slice.injEq, true_and] at e; rw [e.2]; exact ⟨h1, h2⟩
 obtain ⟨hrc, hrc2⟩ : n ≤ cr ∧ cr ≤ 9223372036854775807 := by
  obtain ⟨A', c', e, h1, h2, _⟩ := own_form hr
  simp only [Value.slice.injEq, true_and] at e; rw [e.2]; exact ⟨h1, h2⟩
 clear hm hr hf hul hvl hM hR hMr hRr
 go_enter Try.func90, Try.ntmps90
 go_wp2_with fail
 go_loopw [12] (fun i wr => ∃ p : Nat, p ≤ n ∧ i = .int .i64 p ∧ Hid (KU B w wr) ∧ Hid (Fam B wr (us ++ vs) ((gjTo M R p).1 ++ (gjTo M R p).2))) (fun i _ => n - (intOf i).toNat)
 case atStart => exact ⟨0, by omega, rfl, Lib.hid (KU.refl _ _), HF⟩
 case round =>
  clear HF
  obtain ⟨p, hp, rfl, K, F⟩ := hrel
  by_cases hlt : p < n
  ·have S1 : Hid (gjTo M R (p + 1) = (elim (gjTo M R p).1 (gjTo M R p).1 p n, elim (gjTo M R p).1 (gjTo M R p).2 p n)) := Lib.hid (by rw [gjTo, HML.out])
   have ML := (GL.out p).1
   have RL := (GL.out p).2
   have MR := (GR.out p hp).1
   have RR := (GR.out p hp).2
   generalize (gjTo M R p).1 = X at *
   generalize (gjTo M R p).2 = Y at *
   obtain ⟨wo, rfl⟩ : ∃ wo : World, wo = wr := ⟨_, rfl⟩
   obtain ⟨x, hx⟩ := get_some (show p < X.length by omega)
   obtain ⟨y, hy⟩ := get_some (show p < Y.length by omega)
   have hxl : x.length = n := MR x (List.mem_of_getElem? hx)
   have hyl : y.length = q := RR y (List.mem_of_getElem? hy)
   obtain ⟨gx, cx, ux, hgx, hgx2, hcx, hcx2, hox, hbx⟩ := F.out.form (i := p) (l := x) (by rw [get_left (by omega)]; exact hx) (by omega)
   obtain ⟨gy, cy, uy, hgy, hgy2, hcy, hcy2, hoy, hby⟩ := F.out.form (i := X.length + p) (l := y) (by rw [get_right]; exact hy) (by omega)
   have ux' : us[p]? = some (.slice (some ⟨gx, 0, none⟩) x.length cx) := by rw [get_left (by rw [HUL.out]; exact hlt)] at ux; exact ux
   have uy' : vs[p]? = some (.slice (some ⟨gy, 0, none⟩) y.length cy) := by rw [ML, ← HUL.out, get_right] at uy; exact uy
   obtain ⟨bm, rfl, cm1, bm1, bm2⟩ := own_cell (K.out.own HM.out ne_sl_u8) ux'
   obtain ⟨br, rfl, cr1, br1, br2⟩ := own_cell (K.out.own HR.out ne_sl_u8) uy'
   obtain ⟨piv, hpiv⟩ := get_some (show p < x.length by omega)
   have pc := ob_cell hox hpiv
   have pl : piv < 256 := hbx.at_ hpiv
   have PF : Hid (pivF X p = gi piv) := Lib.hid (by unfold pivF; rw [getD_of hx, List.getD_eq_getElem?_getD, hpiv]; rfl)
   rw [hxl] at cm1 ux ux' hcx hox
   rw [hyl] at cr1 uy uy' hcy hoy
   have p1 : (0 : Int) ≤ (p : Int) := by omega
   have p2 : (p : Int) < (n : Int) := by omega
   have MLH := Lib.hid ML
   have RLH := Lib.hid RL
   have MRH := Lib.hid MR
   have RRH := Lib.hid RR
   have HX := Lib.hid hx
   have HY := Lib.hid hy
   have HXL := Lib.hid hxl
   have HYL := Lib.hid hyl
   have UX := Lib.hid ux
   have UY := Lib.hid uy
   have OX := Lib.hid hox
   have OY := Lib.hid hoy
   have BX := Lib.hid hbx
   have BY := Lib.hid hby
   have blkX := K.out.own HM.out ne_sl_u8
   have blkR := K.out.own HR.out ne_sl_u8
   have n1 : Hid (bm ≠ gx) := Lib.hid (own_nn blkX hox ne_sl_u8)
   have n2 : Hid (bm ≠ gy) := Lib.hid (own_nn blkX hoy ne_sl_u8)
   have n3 : Hid (br ≠ gx) := Lib.hid (own_nn blkR hox ne_sl_u8)
   have n4 : Hid (br ≠ gy) := Lib.hid (own_nn blkR hoy ne_sl_u8)
   have nxy : Hid (gx ≠ gy) := Lib.hid (F.out.ne_ ux uy (by omega))
   have hwB : B ≤ wo.heap.size := Nat.le_trans hB K.out.bel.size
   clear ML RL MR RR hx hy hxl hyl ux uy ux' uy' hox hoy hbx hby hpiv blkX blkR
   go_wp2_with fail
   refine (inverse_calls piv pl _).mono ?_
   rintro e w' ⟨rfl, rfl⟩
   have fl : gi piv < 256 := gi_lt pl
   generalize gi piv = f at *
   go_wp2_with fail
   go_loopw [28] (fun i wr => ∃ k : Nat, k ≤ n ∧ i = .int .i64 k ∧ Hid (wo.grownBy wr (some gx)) ∧ Hid (wr.ownsRow B 5 1 (.slice (some ⟨gx, 0, none⟩) n cx) n (bv (mixK (fun _ z => gm f z) x k)))) (fun i _ => n - (intOf i).toNat)
   case atStart => exact ⟨0, by omega, rfl, Lib.hid (World.grownBy.refl _ _), by rw [mixK_zero]; exact OX⟩
   case round =>
    obtain ⟨k, hk, rfl, G, O⟩ := hrel
    by_cases hlt2 : k < n
    ·obtain ⟨z, hz⟩ := get_some (show k < x.length by rw [HXL.out]; exact hlt2)
     have zc := ob_cell O.out (mixK_at hz)
     have zf : wr.frozen? ⟨gx, k, none⟩ = false := O.out.frozenAt k
     have zl : z < 256 := BX.out.at_ hz
     have hc : wr.cell? ⟨bm, p, none⟩ = some (.slice (some ⟨gx, 0, none⟩) n cx) := by rw [← cm1]; exact G.out.cell_far _ bm1 (by simpa using n1.out)
     have HZ := Lib.hid hz
     have k1 : (0 : Int) ≤ (k : Int) := by omega
     have k2 : (k : Int) < (n : Int) := by omega
     clear hz
     go_wp2_with fail
     refine wp_region_still_tail 15 (by kernel_rfl) (by kernel_rfl) ?_
     simp only [List.take_succ_cons, List.take_zero, List.drop_succ_cons, List.drop_zero]
     repeat still_step
     still_call (mul_still f z fl zl _)
     repeat still_step
     refine wpStill_nil ?_
     go_wp2_with fail
     have st := O.out.stored k (.int .u8 ((gm f z : Nat) : Int))
     refine ⟨⟨k + 1, by omega, by go_num, Lib.hid (only_drew (G.out.trans st.2)), Lib.hid ?_⟩, by simp [intOf]; omega⟩
     rw [mixK_succ HZ.out, ← bv_set]
     exact st.1.drew
    ·obtain rfl : k = n := by omega
     have O2 : Hid (wr.ownsRow B 5 1 (.slice (some ⟨gx, 0, none⟩) k cx) k (bv (scaleR f x))) := Lib.hid (by have := O.out; rw [← HXL.out, mixK_scale, HXL.out] at this; exact this)
     have F2 : Hid (Fam B wr (us ++ vs) (X.set p (scaleR f x) ++ Y)) := Lib.hid (by
      rw [← set_left (by rw [MLH.out]; exact hlt)]
      exact F.out.write UX.out G.out O2.out (by rw [scaleR_len, HXL.out]) (scaleR_byt _ fl))
     have K2 : Hid (KU B wo wr) := Lib.hid (KU.grown G.out OX.out hwB)
     have OY2 : Hid (wr.ownsRow B 5 1 (.slice (some ⟨gy, 0, none⟩) q cy) q (bv y)) := Lib.hid (OY.out.kept G.out (.inr (by simp [Value.ownBlock]; exact fun e => nxy.out e.symm)))
     have hc : wr.cell? ⟨bm, p, none⟩ = some (.slice (some ⟨gx, 0, none⟩) k cx) := by rw [← cm1]; exact G.out.cell_far _ bm1 (by simpa using n1.out)
     have hcr : wr.cell? ⟨br, p, none⟩ = some (.slice (some ⟨gy, 0, none⟩) q cy) := by rw [← cr1]; exact G.out.cell_far _ br1 (by simpa using n3.out)
     have br3 : br < wr.heap.size := Nat.lt_of_lt_of_le br1 G.out.size
     have bm3 : bm < wr.heap.size := Nat.lt_of_lt_of_le bm1 G.out.size
     have hgx3 : gx < wr.heap.size := Nat.lt_of_lt_of_le hgx2 G.out.size
     obtain ⟨w2, rfl⟩ : ∃ w2 : World, w2 = wr := ⟨_, rfl⟩
     clear O G hlt2
     go_wp2_with fail
     go_loopw [52] (fun i wr => ∃ t : Nat, t ≤ q ∧ i = .int .i64 t ∧ Hid (w2.grownBy wr (some gy)) ∧ Hid (wr.ownsRow B 5 1 (.slice (some ⟨gy, 0, none⟩) q cy) q (bv (mixK (fun _ z => gm f z) y t)))) (fun i _ => q - (intOf i).toNat)
     case atStart => exact ⟨0, by omega, rfl, Lib.hid (World.grownBy.refl _ _), by rw [mixK_zero]; exact OY2⟩
     case round =>
      obtain ⟨t, ht, rfl, G, O⟩ := hrel
      by_cases hlt3 : t < q
      ·obtain ⟨z, hz⟩ := get_some (show t < y.length by rw [HYL.out]; exact hlt3)
       have zc := ob_cell O.out (mixK_at hz)
       have zf : wr.frozen? ⟨gy, t, none⟩ = false := O.out.frozenAt t
       have zl : z < 256 := BY.out.at_ hz
       have hc : wr.cell? ⟨br, p, none⟩ = some (.slice (some ⟨gy, 0, none⟩) q cy) := by rw [← hcr]; exact G.out.cell_far _ br3 (by simpa using n4.out)
       have HZ := Lib.hid hz
       have k1 : (0 : Int) ≤ (t : Int) := by omega
       have k2 : (t : Int) < (q : Int) := by omega
       clear hz
       go_wp2_with fail
       refine wp_region_still_tail 15 (by kernel_rfl) (by kernel_rfl) ?_
       simp only [List.take_succ_cons, List.take_zero, List.drop_succ_cons, List.drop_zero]
       repeat still_step
       still_call (mul_still f z fl zl _)
       repeat still_step
       refine wpStill_nil ?_
       go_wp2_with fail
       have st := O.out.stored t (.int .u8 ((gm f z : Nat) : Int))
       refine ⟨⟨t + 1, by omega, by go_num, Lib.hid (only_drew (G.out.trans st.2)), Lib.hid ?_⟩, by simp [intOf]; omega⟩
       rw [mixK_succ HZ.out, ← bv_set]
       exact st.1.drew
      ·obtain rfl : t = q := by omega
       have O3 : Hid (wr.ownsRow B 5 1 (.slice (some ⟨gy, 0, none⟩) t cy) t (bv (scaleR f y))) := Lib.hid (by have := O.out; rw [← HYL.out, mixK_scale, HYL.out] at this; exact this)
       have F3 : Hid (Fam B wr (us ++ vs) (elim X X p 0 ++ elim X Y p 0)) := Lib.hid (by
        rw [elim_zero (by rw [MLH.out]; exact hlt), elim_zero (by rw [RLH.out]; exact hlt), getD_of HX.out, getD_of HY.out, PF.out, ← set_right]
        refine F2.out.write ?_ G.out O3.out (by rw [scaleR_len, HYL.out]) (scaleR_byt _ fl)
        rw [List.length_set]; exact UY.out)
       have K3 : Hid (KU B wo wr) := Lib.hid (K2.out.trans (KU.grown G.out OY2.out (Nat.le_trans hwB K2.out.bel.size)))
       obtain ⟨w3, rfl⟩ : ∃ w3 : World, w3 = wr := ⟨_, rfl⟩
       clear O G O3 OY2 F2 K2 hlt3 hc hcr
       go_wp2_with fail
       go_loopw [73] (fun i wr => ∃ r : Nat, r ≤ k ∧ i = .int .i64 r ∧ Hid (KU B wo wr) ∧ Hid (Fam B wr (us ++ vs) (elim X X p r ++ elim X Y p r))) (fun i _ => k - (intOf i).toNat)
       case atStart => exact ⟨0, by omega, rfl, K3, F3⟩
       case round =>
        clear K3 F3
        obtain ⟨r, hr, rfl, K4, F4⟩ := hrel
        by_cases hlt4 : r < k
        ·by_cases hrp : r = p
         ·have q1 : ((r : Int) != (p : Int)) = false := by rw [hrp]; simp
          have E4 : Hid (r = p) := Lib.hid hrp
          clear hrp
          go_wp2_with fail
          refine ⟨⟨r + 1, by omega, by go_num, K4, Lib.hid ?_⟩, by simp [intOf]; omega⟩
          have := F4.out
          rw [E4.out] at this ⊢
          rw [elim_skip, elim_skip]; exact this
         ·have q1 : ((r : Int) != (p : Int)) = true := by rw [bne_iff_ne]; omega
          have e1 : (elim X X p r)[r]? = some (X.getD r []) := by rw [elim_at (by rw [MLH.out]; exact hlt4), if_neg hrp, if_neg (by omega)]
          have e2 : (elim X X p r)[p]? = some (scaleR f x) := by rw [elim_at (by rw [MLH.out]; exact hlt), if_pos rfl, getD_of HX.out, PF.out]
          have e3 : (elim X Y p r)[r]? = some (Y.getD r []) := by rw [elim_at (by rw [RLH.out]; exact hlt4), if_neg hrp, if_neg (by omega)]
          have e4 : (elim X Y p r)[p]? = some (scaleR f y) := by rw [elim_at (by rw [RLH.out]; exact hlt), if_pos rfl, getD_of HY.out, PF.out]
          have l1 : (X.getD r []).length = k := MRH.out _ (List.mem_of_getElem? (getD_get (by rw [MLH.out]; exact hlt4)))
          have l3 : (Y.getD r []).length = t := RRH.out _ (List.mem_of_getElem? (getD_get (by rw [RLH.out]; exact hlt4)))
          have ST : Hid (elim X X p (r + 1) ++ elim X Y p (r + 1) = ((elim X X p r ++ elim X Y p r).set r (addR (X.getD r []) (scaleR f x) ((X.getD r []).getD p 0))).set (k + r) (addR (Y.getD r []) (scaleR f y) ((X.getD r []).getD p 0))) := Lib.hid (by
           rw [elim_step (by rw [MLH.out]; exact hlt4) hrp, elim_step (by rw [RLH.out]; exact hlt4) hrp, set_left (by rw [elim_len, MLH.out]; exact hlt4)]
           rw [show k + r = ((elim X X p r).set r (addR (X.getD r []) (scaleR f x) ((X.getD r []).getD p 0))).length + r by rw [List.length_set, elim_len, MLH.out], set_right, getD_of HX.out, getD_of HY.out, PF.out])
          generalize X.getD r [] = a at *
          generalize Y.getD r [] = b at *
          have EL : (elim X X p r).length = k := by rw [elim_len, MLH.out]
          obtain ⟨ga, ca, ua, ga1, ga2, ca1, ca2, oa, ba⟩ := F4.out.form (i := r) (l := a) (by rw [get_left (by omega)]; exact e1) (by omega)
          obtain ⟨gp, cp, up, gp1, gp2, cp1, cp2, op, bp⟩ := F4.out.form (i := p) (l := scaleR f x) (by rw [get_left (by omega)]; exact e2) (by rw [scaleR_len, HXL.out]; omega)
          obtain ⟨gb, cb, ub, gb1, gb2, cb1, cb2, ob, bb⟩ := F4.out.form (i := k + r) (l := b) (by rw [← EL, get_right]; exact e3) (by omega)
          obtain ⟨gs, cs, us', gs1, gs2, cs1, cs2, os, bs⟩ := F4.out.form (i := k + p) (l := scaleR f y) (by rw [← EL, get_right]; exact e4) (by rw [scaleR_len, HYL.out]; omega)
          rw [scaleR_len, HXL.out] at up cp1 op
          rw [scaleR_len, HYL.out] at us' cs1 os
          rw [l1] at ua ca1 oa
          rw [l3] at ub cb1 ob
          have KM := (K.out.trans K4.out).own HM.out ne_sl_u8
          have KR := (K.out.trans K4.out).own HR.out ne_sl_u8
          have h1 : wr.cell? ⟨bm, r, none⟩ = some (.slice (some ⟨ga, 0, none⟩) k ca) := own_at KM (by rw [get_left (by rw [HUL.out]; exact hlt4)] at ua; exact ua)
          have h2 : wr.cell? ⟨bm, p, none⟩ = some (.slice (some ⟨gp, 0, none⟩) k cp) := own_at KM (by rw [get_left (by rw [HUL.out]; exact hlt)] at up; exact up)
          have h3 : wr.cell? ⟨br, r, none⟩ = some (.slice (some ⟨gb, 0, none⟩) t cb) := own_at KR (by rw [← HUL.out, get_right] at ub; exact ub)
          have h4 : wr.cell? ⟨br, p, none⟩ = some (.slice (some ⟨gs, 0, none⟩) t cs) := own_at KR (by rw [← HUL.out, get_right] at us'; exact us')
          have bmw : bm < wr.heap.size := Nat.lt_of_lt_of_le bm1 K4.out.bel.size
          have brw : br < wr.heap.size := Nat.lt_of_lt_of_le br1 K4.out.bel.size
          obtain ⟨g0, hg0⟩ := get_some (show p < a.length by omega)
          have gc := ob_cell oa hg0
          have gl : g0 < 256 := ba.at_ hg0
          have GD : Hid (a.getD p 0 = g0) := Lib.hid (by rw [List.getD_eq_getElem?_getD, hg0]; rfl)
          have r1 : (0 : Int) ≤ (r : Int) := by omega
          have r2 : (r : Int) < (k : Int) := by omega
          have nap : gp ≠ ga := fun e => F4.out.ne_ up ua (by omega) e
          have nbs : gs ≠ gb := fun e => F4.out.ne_ us' ub (by omega) e
          have nab : gb ≠ ga := fun e => F4.out.ne_ ub ua (by omega) e
          have nas : gs ≠ ga := fun e => F4.out.ne_ us' ua (by omega) e
          have nra : br ≠ ga := own_nn KR oa ne_sl_u8
          have AC1 : Hid (Calls Try.prog 81 #[.slice (some ⟨ga, 0, none⟩) k ca, .slice (some ⟨gp, 0, none⟩) k cp, .int .u8 (g0 : Int)] wr.drew fun e w' => e = .returned (.tuple #[]) ∧ w'.ownsRow B 5 1 (.slice (some ⟨ga, 0, none⟩) k ca) k (bv (addR a (scaleR f x) g0)) ∧ wr.drew.grownBy w' (some ga)) := Lib.hid (by
           have := add_calls ga ca B a (some ⟨gp, 0, none⟩) cp B (scaleR f x) g0 wr.drew gl ba (by rw [scaleR_len, HXL.out, l1]; exact Nat.le_refl _) (by rw [l1]; exact oa.drew) (by rw [scaleR_len, HXL.out]; exact cp1) cp2 ((rba_own op bp).next (Below.refl _ _).drew) (fun b off hb _ => by cases hb; exact nap)
           rw [scaleR_len, HXL.out, l1] at this
           exact this)
          have AC2 : Hid (∀ W : World, W.ownsRow B 5 1 (.slice (some ⟨gb, 0, none⟩) t cb) t (bv b) → W.ownsRow B 5 1 (.slice (some ⟨gs, 0, none⟩) t cs) t (bv (scaleR f y)) → Calls Try.prog 81 #[.slice (some ⟨gb, 0, none⟩) t cb, .slice (some ⟨gs, 0, none⟩) t cs, .int .u8 (g0 : Int)] W fun e w' => e = .returned (.tuple #[]) ∧ w'.ownsRow B 5 1 (.slice (some ⟨gb, 0, none⟩) t cb) t (bv (addR b (scaleR f y) g0)) ∧ W.grownBy w' (some gb)) := Lib.hid (fun W k1 k2 => by
           have := add_calls gb cb B b (some ⟨gs, 0, none⟩) cs B (scaleR f y) g0 W gl bb (by rw [scaleR_len, HYL.out, l3]; exact Nat.le_refl _) (by rw [l3]; exact k1) (by rw [scaleR_len, HYL.out]; exact cs1) cs2 (rba_own k2 bs) (fun b off hb _ => by cases hb; exact nbs)
           rw [scaleR_len, HYL.out, l3] at this
           exact this)
          have UA := Lib.hid ua
          have UB := Lib.hid ub
          have OA := Lib.hid oa
          have OB' := Lib.hid ob
          have OS := Lib.hid os
          have BA := Lib.hid ba
          have BB := Lib.hid bb
          have L1 := Lib.hid l1
          have L3 := Lib.hid l3
          have N1 := Lib.hid nab
          have N2 := Lib.hid nas
          have N3 := Lib.hid nra
          have K4B : Hid (B ≤ wr.heap.size) := Lib.hid (Nat.le_trans hwB K4.out.bel.size)
          clear e1 e2 e3 e4 l1 l3 EL ua up ub us' oa op ob os ba bp bb bs KM KR hg0 hrp nap nbs nab nas nra
          go_wp2_with fail
          refine wp_region_still_tail 9 (by kernel_rfl) (by kernel_rfl) ?_
          simp only [List.take_succ_cons, List.take_zero, List.drop_succ_cons, List.drop_zero]
          repeat still_step
          refine wpStill_nil ?_
          go_wp2_with fail
          refine AC1.out.mono ?_
          rintro e w4 ⟨rfl, ho4, hg4⟩
          have G4 : Hid (wr.grownBy w4 (some ga)) := Lib.hid (gundrew hg4)
          have O4 := Lib.hid ho4
          have j3 : w4.cell? ⟨br, r, none⟩ = some (.slice (some ⟨gb, 0, none⟩) t cb) := by rw [← h3]; exact G4.out.cell_far _ brw (by simpa using N3.out)
          have j4 : w4.cell? ⟨br, p, none⟩ = some (.slice (some ⟨gs, 0, none⟩) t cs) := by rw [← h4]; exact G4.out.cell_far _ brw (by simpa using N3.out)
          have OB4 : Hid (w4.ownsRow B 5 1 (.slice (some ⟨gb, 0, none⟩) t cb) t (bv b)) := Lib.hid (OB'.out.kept G4.out (.inr (by simp [Value.ownBlock]; exact N1.out)))
          have OS4 : Hid (w4.ownsRow B 5 1 (.slice (some ⟨gs, 0, none⟩) t cs) t (bv (scaleR f y))) := Lib.hid (OS.out.kept G4.out (.inr (by simp [Value.ownBlock]; exact N2.out)))
          have br4 : br < w4.heap.size := Nat.lt_of_lt_of_le brw G4.out.size
          clear ho4 hg4 h1 h2 h3 h4 gc
          go_wp2_with fail
          refine wp_region_still_tail 9 (by kernel_rfl) (by kernel_rfl) ?_
          simp only [List.take_succ_cons, List.take_zero, List.drop_succ_cons, List.drop_zero]
          repeat still_step
          refine wpStill_nil ?_
          go_wp2_with fail
          refine (AC2.out _ OB4.out.drew OS4.out.drew).mono ?_
          rintro e w5 ⟨rfl, ho5, hg5⟩
          have G5 : Hid (w4.grownBy w5 (some gb)) := Lib.hid (gundrew hg5)
          have O5 := Lib.hid ho5
          clear ho5 hg5 j3 j4
          go_wp2_with fail
          refine ⟨⟨r + 1, by omega, by go_num, Lib.hid ?_, Lib.hid ?_⟩, by simp [intOf]; omega⟩
          ·have c1 := KU.grown G4.out OA.out K4B.out
           exact (K4.out.trans c1).trans (KU.grown G5.out OB4.out (Nat.le_trans K4B.out c1.bel.size))
          ·rw [ST.out, GD.out]
           have f1 := F4.out.write UA.out G4.out O4.out (by rw [addR_len, L1.out]) (addR_byt BA.out gl)
           exact f1.write UB.out G5.out O5.out (by rw [addR_len, L3.out]) (addR_byt BB.out gl)
        ·obtain rfl : r = k := by omega
         go_wp2_with fail
         refine ⟨⟨p + 1, by omega, by go_num, Lib.hid (K.out.trans K4.out), Lib.hid ?_⟩, by simp [intOf]; omega⟩
         rw [S1.out]; exact F4.out
  ·obtain rfl : p = n := by omega
   go_wp2_with fail
   go_end0
   exact ⟨rfl, F.out, K.out⟩
end Go.Proofs.Ytapehckcmmompaa
namespace Go.Proofs.Ytapehckcmmompaa
open Go.ChangeShapes Go.WideShapes Go.ChangeAt Go.RowKit Gf
set_option linter.unusedVariables false
set_option maxRecDepth 100000
def synTo (D : Nat) (m : List (List Nat)) (j : Nat) : Nat → List Nat
 | 0 => m.getD (D + j) []
 | i + 1 => addR (synTo D m j i) (m.getD i []) (fac D j i)
def syn (D : Nat) (m : List (List Nat)) (j : Nat) : List Nat := synTo D m j D
def choTo (D : Nat) (m : List (List Nat)) (g : Nat) : Nat → List Nat
 | 0 => []
 | k + 1 => if (choTo D m g k).length < g ∧ (m.getD (D + k) []).length ≠ 0 then choTo D m g k ++ [k] else choTo D m g k
def goneL (D : Nat) (m : List (List Nat)) : List Nat := lostL m D
def matM (D : Nat) (m : List (List Nat)) (cho : List Nat) : List (List Nat) := cho.map fun j => (goneL D m).map (fac D j)
def matR (D : Nat) (m : List (List Nat)) (cho : List Nat) : List (List Nat) := cho.map (syn D m)
def solR (D M : Nat) (m : List (List Nat)) : List (List Nat) := (gjTo (matM D m (choTo D m (goneL D m).length M)) (matR D m (choTo D m (goneL D m).length M)) (goneL D m).length).2
def dataL (D M : Nat) (m : List (List Nat)) : List (List Nat) := (List.range D).map fun i => if (m.getD i []).length = 0 then (solR D M m).getD (lostL m i).length [] else m.getD i []
theorem synTo_len (D : Nat) (m : List (List Nat)) (j i : Nat) : (synTo D m j i).length = (m.getD (D + j) []).length := by
 induction i with
 | zero => rfl
 | succ i ih => rw [synTo, addR_len, ih]
theorem synTo_byt {D : Nat} {m : List (List Nat)} {j : Nat} (hb : ∀ l ∈ m, Byt l) (hD : D ≤ 8) (hj : j < 4) (hlt : D + j < m.length) : ∀ i, i ≤ D → Byt (synTo D m j i)
 | 0, _ => by
  rw [synTo]
  obtain ⟨l, hl⟩ := get_some hlt
  rw [getD_of hl]; exact hb l (List.mem_of_getElem? hl)
 | i + 1, h => addR_byt (synTo_byt hb hD hj hlt i (by omega)) (fac_lt (by omega) (by omega))
theorem choTo_le (D : Nat) (m : List (List Nat)) (g k : Nat) : (choTo D m g k).length ≤ g ∧ (choTo D m g k).length ≤ k ∧ ∀ x ∈ choTo D m g k, x < k ∧ (m.getD (D + x) []).length ≠ 0 := by
 induction k with
 | zero => exact ⟨by simp [choTo], by simp [choTo], by simp [choTo]⟩
 | succ k ih =>
  simp only [choTo]
  split
  ·rename_i h
   refine ⟨by simp; omega, by simp; omega, fun x hx => ?_⟩
   rcases List.mem_append.1 hx with h1 | h1
   ·have := ih.2.2 x h1; exact ⟨by omega, this.2⟩
   ·simp at h1; subst h1; exact ⟨by omega, h.2⟩
  ·exact ⟨ih.1, by omega, fun x hx => ⟨by have := (ih.2.2 x hx).1; omega, (ih.2.2 x hx).2⟩⟩
theorem choTo_full {D : Nat} {m : List (List Nat)} {g k : Nat} (h : (choTo D m g k).length = g) : ∀ d, choTo D m g (k + d) = choTo D m g k
 | 0 => rfl
 | d + 1 => by
  rw [← Nat.add_assoc, choTo, choTo_full h d, if_neg (by omega)]
theorem cho_lost {D : Nat} {m : List (List Nat)} {g : Nat} : ∀ k, (choTo D m g k).length < g → D + k ≤ m.length → (choTo D m g k).length + lostN ((m.drop D).take k) = k
 | 0, _, _ => by simp [choTo, lostN]
 | k + 1, h, hl => by
  have hk : (m.drop D)[k]? = m[D + k]? := by rw [List.getElem?_drop]
  obtain ⟨l, e⟩ := get_some (show D + k < m.length by omega)
  rw [e] at hk
  rw [lostN_snoc hk]
  simp only [choTo] at h ⊢
  rw [getD_of e] at h ⊢
  by_cases c : (choTo D m g k).length < g ∧ l.length ≠ 0
  ·rw [if_pos c] at h ⊢
   have := cho_lost k c.1 (by omega)
   rw [if_neg c.2]; simp; omega
  ·rw [if_neg c] at h ⊢
   have := cho_lost k h (by omega)
   have h0 : l.length = 0 := by
    by_cases h0 : l.length = 0
    ·exact h0
    ·exact absurd ⟨h, h0⟩ c
   rw [if_pos h0]; omega
theorem lost_split (D : Nat) (m : List (List Nat)) : lostN m = lostN (m.take D) + lostN (m.drop D) := by
 rw [← lostN_append, List.take_append_drop]
theorem cho_enough {D M : Nat} {m : List (List Nat)} (hm : m.length = D + M) (h : lostN m ≤ M) : (choTo D m (goneL D m).length M).length = (goneL D m).length := by
 have hg : (goneL D m).length = lostN (m.take D) := lostL_count D (by omega)
 have h1 := (choTo_le D m (goneL D m).length M).1
 rcases Nat.lt_or_ge (choTo D m (goneL D m).length M).length (goneL D m).length with hlt | hge
 ·have := cho_lost M hlt (by omega)
  rw [List.take_of_length_le (by rw [List.length_drop]; omega)] at this
  have := lost_split D m
  omega
 ·omega
theorem lostL_more (m : List (List Nat)) (n : Nat) : lostL m (n + 1) = lostL m n ++ (if (m.getD n []).length = 0 then [n] else []) := by
 unfold lostL
 rw [List.range_succ, List.filter_append, List.filter_cons, List.filter_nil]; simp only [decide_eq_true_eq]
theorem lostL_rank {m : List (List Nat)} {k i : Nat} : ∀ n, (lostL m n)[k]? = some i → i < n ∧ (m.getD i []).length = 0 ∧ (lostL m i).length = k
 | 0, h => by simp [lostL] at h
 | n + 1, h => by
  rw [lostL_more] at h
  rcases Nat.lt_or_ge k (lostL m n).length with hk | hk
  ·rw [List.getElem?_append_left hk] at h
   have := lostL_rank n h
   exact ⟨by omega, this.2⟩
  ·rw [List.getElem?_append_right hk] at h
   have hlt := (List.getElem?_eq_some_iff.1 h).1
   by_cases h0 : (m.getD n []).length = 0
   ·rw [if_pos h0] at h hlt
    have hk0 : k - (lostL m n).length = 0 := by simp at hlt; omega
    rw [hk0] at h
    simp at h
    subst h
    exact ⟨by omega, h0, by omega⟩
   ·rw [if_neg h0] at hlt; simp at hlt
theorem lostL_mono (m : List (List Nat)) {a b : Nat} (h : a ≤ b) : (lostL m a).length ≤ (lostL m b).length := by
 induction b with
 | zero => rw [Nat.le_zero.1 h]; exact Nat.le_refl _
 | succ b ih =>
  rcases Nat.lt_or_ge a (b + 1) with h1 | h1
  ·have := ih (by omega)
   unfold lostL at this ⊢
   rw [List.range_succ, List.filter_append, List.length_append]; omega
  ·have : a = b + 1 := by omega
   subst this; exact Nat.le_refl _
theorem lostL_lt {m : List (List Nat)} {i n : Nat} (hi : i < n) (h0 : (m.getD i []).length = 0) : (lostL m i).length < (lostL m n).length := by
 have h1 : (lostL m (i + 1)).length = (lostL m i).length + 1 := by
  unfold lostL
  rw [List.range_succ, List.filter_append, List.length_append]
  rw [List.filter_cons, List.filter_nil]; simp only [h0, decide_true, if_true]; rfl
 have := lostL_mono m (show i + 1 ≤ n by omega)
 omega
theorem lostL_inj {m : List (List Nat)} {i j : Nat} (h0 : (m.getD i []).length = 0) (h1 : (m.getD j []).length = 0) (h : (lostL m i).length = (lostL m j).length) : i = j := by
 rcases Nat.lt_trichotomy i j with hl | he | hl
 ·have := lostL_lt hl h0; omega
 ·exact he
 ·have := lostL_lt hl h1; omega
theorem matM_len (D : Nat) (m : List (List Nat)) (cho : List Nat) : (matM D m cho).length = cho.length := by simp [matM]
theorem matR_len (D : Nat) (m : List (List Nat)) (cho : List Nat) : (matR D m cho).length = cho.length := by simp [matR]
theorem matM_snoc (D : Nat) (m : List (List Nat)) (cho : List Nat) (j : Nat) : matM D m (cho ++ [j]) = matM D m cho ++ [(goneL D m).map (fac D j)] := by simp [matM]
theorem matR_snoc (D : Nat) (m : List (List Nat)) (cho : List Nat) (j : Nat) : matR D m (cho ++ [j]) = matR D m cho ++ [syn D m j] := by simp [matR]
theorem matM_rows (D : Nat) (m : List (List Nat)) (cho : List Nat) : ∀ l ∈ matM D m cho, l.length = (goneL D m).length := fun l hl => by
 simp only [matM, List.mem_map] at hl
 obtain ⟨j, _, rfl⟩ := hl
 simp
theorem dataL_len (D M : Nat) (m : List (List Nat)) : (dataL D M m).length = D := by simp [dataL]
theorem dataL_at {D M i : Nat} {m : List (List Nat)} (hi : i < D) : (dataL D M m)[i]? = some (if (m.getD i []).length = 0 then (solR D M m).getD (lostL m i).length [] else m.getD i []) := by
 simp only [dataL, List.getElem?_map, List.getElem?_range hi, Option.map_some]
end Go.Proofs.Ytapehckcmmompaa
