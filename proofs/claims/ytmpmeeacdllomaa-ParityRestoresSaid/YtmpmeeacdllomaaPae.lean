/- Contracts of layer 45: Lose of the reference. -/
import Derived.Test.YtmpmeeacdllomaaPaf
namespace Go.Proofs.Ytmpmeeacdllomaa
open Go.ChangeShapes Go.WideShapes Go.ChangeAt Go.RowKit Gf
set_option linter.unusedVariables false
attribute [local go_sem ↓] Go.wp_at_zero Go.wp_at_succ

theorem keepL_none (m : List (List Nat)) : keepL m (goneB []) = m := by
  apply List.ext_getElem?
  intro i
  by_cases hi : i < m.length
  · obtain ⟨l, hl⟩ := get_some hi
    rw [keepL_at hl, hl]; rfl
  · rw [List.getElem?_eq_none (by rw [keepL_len]; omega), List.getElem?_eq_none (by omega)]
theorem keepL_snoc {m : List (List Nat)} {ds : List Int} {k x : Nat} (h : ds[k]? = some (x : Int)) : keepL m (goneB (ds.take (k + 1))) = (keepL m (goneB (ds.take k))).set x [] := by
  apply List.ext_getElem?
  intro i
  rw [List.getElem?_set]
  by_cases hi : i < m.length
  · obtain ⟨l, hl⟩ := get_some hi
    rw [keepL_at hl, keepL_at hl, goneB_snoc h]
    by_cases e : x = i
    · subst e
      rw [if_pos rfl, if_pos (by simp), if_pos (by rw [keepL_len]; exact hi)]
    · rw [if_neg e]
      have : (((x : Nat) : Int) == (i : Int)) = false := by rw [beq_eq_false_iff_ne]; omega
      rw [this, Bool.or_false]
  · rw [List.getElem?_eq_none (by rw [keepL_len]; omega)]
    by_cases e : x = i
    · subst e; rw [if_pos rfl, if_neg (by rw [keepL_len]; exact hi)]
    · rw [if_neg e, List.getElem?_eq_none (by rw [keepL_len]; omega)]
set_option maxHeartbeats 2000000 in
theorem refLose_calls (D M : Int) (A : Option Addr) (c B : Nat) (m : List (List Nat)) (Ad : Option Addr) (cd Bd : Nat) (ds : List Int) (w : World) (hn : m.length ≤ c) (hc : c ≤ 9223372036854775807) (hs : RMA B w A m) (hdn : ds.length ≤ cd) (hdc : cd ≤ 9223372036854775807) (hd : RI Bd w Ad ds) :
    Calls Try.prog 27 #[Sv D M (.slice A m.length c), .slice Ad ds.length cd] w (SEPost w (loseS D M m ds) (loseE D M m ds)) := by
  have HS := Lib.hid hs
  have HD := Lib.hid hd
  clear hs hd
  have CC := Lib.hid (fun W (h : RMA B W A m) => refCheck_calls D M A c B m W hn hc h)
  by_cases ck : chkE D M m = 0
  · have OKS := (chkE_ok ck).1
    have hmn : m.length ≤ 12 := by have := OKS.len; have := OKS.d8; have := OKS.m4; omega
    have F0 : Hid (loseE D M m ds = if inB m.length ds = false then 2 else if ds.Nodup then (if szL (keepL m (goneB ds)) = 0 then 32 else 0) else 14) := Lib.hid (by unfold loseE; rw [if_neg (by rw [ck]; decide)])
    rw [ck] at CC
    have OK := Lib.hid OKS
    clear ck OKS
    go_enter Try.func27, Try.ntmps27
    go_wp2_with fail
    refine (CC.out _ (HS.out.next (Bal (Bal (Below.refl _ _) _) _))).mono ?_
    rintro e w1 ⟨rfl, hb1⟩
    have N1 : Hid (Below w.heap.size w w1) := Lib.hid (Bgo (Bal (Bal (Below.refl _ _) _) _) hb1)
    have SB1 : Hid (w1.heap[w.heap.size]? = some (.cells #[.int .i64 D, .int .i64 M, .slice A m.length c] 31)) := Lib.hid (blk_next hb1 (blk_alloc (blk_new w _) _))
    have X1 : Hid (w1.heap[w.heap.size + 1]? = some (.cells #[.int .i64 0, .int .i64 0, .slice none 0 0] 31)) := Lib.hid (blk_next hb1 (blk_at _ (by simp)))
    clear hb1
    go_wp2_with fail
    go_loopw [7] (fun i wr => ∃ k : Nat, k ≤ ds.length ∧ i = .int .i64 k ∧ Hid (Below w.heap.size w wr) ∧ Hid (wr.heap[w.heap.size]? = some (.cells #[.int .i64 D, .int .i64 M, .slice A m.length c] 31)) ∧ Hid (wr.heap[w.heap.size + 1]? = some (.cells #[.int .i64 0, .int .i64 0, .slice none 0 0] 31)) ∧ Hid (∀ (j : Nat) (d : Int), j < k → ds[j]? = some d → 0 ≤ d ∧ d < (m.length : Int))) (fun i _ => ds.length - (intOf i).toNat)
    case atStart => exact ⟨0, by omega, rfl, N1, SB1, X1, Lib.hid (fun j l' h => by omega)⟩
    case round =>
      clear N1 SB1 X1
      obtain ⟨k, hk, rfl, N1, SB, X1, HN⟩ := hrel
      have s2 : wr.cell? ⟨w.heap.size, 2, none⟩ = some (.slice A m.length c) := blk_cell SB.out 2 _ rfl
      by_cases hlt : k < ds.length
      · obtain ⟨d, hdk⟩ := get_some hlt
        obtain ⟨bd, od, rfl, hbd, hcd⟩ := (HD.out.next N1.out).at_ hdk
        have HDK := Lib.hid hdk
        clear hdk
        have k1 : (0 : Int) ≤ (k : Int) := by omega
        have k2 : (k : Int) < (ds.length : Int) := by omega
        have cs : d < 0 ∨ (0 ≤ d ∧ (m.length : Int) ≤ d) ∨ (0 ≤ d ∧ d < (m.length : Int)) := by omega
        have x0 : wr.cell? ⟨w.heap.size + 1, 0, none⟩ = some (.int .i64 0) := blk_cell X1.out 0 _ rfl
        have x1 : wr.cell? ⟨w.heap.size + 1, 1, none⟩ = some (.int .i64 0) := blk_cell X1.out 1 _ rfl
        have x2 : wr.cell? ⟨w.heap.size + 1, 2, none⟩ = some (.slice none 0 0) := blk_cell X1.out 2 _ rfl
        have f0 : wr.frozen? ⟨w.heap.size + 1, 0, none⟩ = false := blk_frozen X1.out 0
        have f1 : wr.frozen? ⟨w.heap.size + 1, 1, none⟩ = false := blk_frozen X1.out 1
        have f2 : wr.frozen? ⟨w.heap.size + 1, 2, none⟩ = false := blk_frozen X1.out 2
        rcases cs with a | ⟨a, a2⟩ | ⟨a, a2⟩
        · have FE : Hid (loseE D M m ds = 2) := Lib.hid (by rw [F0.out, if_pos (inB_false HDK.out (.inl a))])
          have d1 : decide (d < 0) = true := by simpa using a
          go_wp2_with fail
          go_quiet (fail)
          go_wp2_with fail
          have Z := blk_set3 (w := wr.drewN nq) X1.out (.int .i64 0) (.int .i64 0) (.slice none 0 0)
          have e0 := blk_cell Z 0 _ rfl
          have e1 := blk_cell Z 1 _ rfl
          have e2 := blk_cell Z 2 _ rfl
          rw [loseS_err FE.out (by decide), FE.out]
          refine bodyPost_ret (v := .tuple #[Sv 0 0 (.slice none 0 0), .int .i64 2]) (by simp [results, Try.results27, go_sem, e0, e1, e2]) rfl (SEPost.none_ ?_)
          exact Bset3 (below_drewN N1.out _) (by omega) _ _ _
        · have FE : Hid (loseE D M m ds = 2) := Lib.hid (by rw [F0.out, if_pos (inB_false HDK.out (.inr a2))])
          have d1 : decide (d < 0) = false := by simpa using a
          go_wp2_with fail
          go_quiet (fail)
          go_wp2_with fail
          have Z := blk_set3 (w := wr.drewN nq) X1.out (.int .i64 0) (.int .i64 0) (.slice none 0 0)
          have e0 := blk_cell Z 0 _ rfl
          have e1 := blk_cell Z 1 _ rfl
          have e2 := blk_cell Z 2 _ rfl
          rw [loseS_err FE.out (by decide), FE.out]
          refine bodyPost_ret (v := .tuple #[Sv 0 0 (.slice none 0 0), .int .i64 2]) (by simp [results, Try.results27, go_sem, e0, e1, e2]) rfl (SEPost.none_ ?_)
          exact Bset3 (below_drewN N1.out _) (by omega) _ _ _
        · have d1 : decide (d < 0) = false := by simpa using a
          go_wp2_with fail
          go_quiet (fail)
          go_wp2_with fail
          refine ⟨⟨k + 1, by omega, by go_num, Lib.hid (below_drewN N1.out _), Lib.hid (blk_drewN SB.out _), Lib.hid (blk_drewN X1.out _), Lib.hid ?_⟩, by simp [intOf]; omega⟩
          intro j d' hj hd'
          by_cases e : j = k
          · subst e; rw [HDK.out] at hd'; cases hd'; exact ⟨a, a2⟩
          · exact HN.out j d' (by omega) hd'
      · obtain rfl : k = ds.length := by omega
        have IN : Hid (inB m.length ds = true) := Lib.hid (inB_true (fun j d h => HN.out j d (get_lt h) h))
        have F1 : Hid (loseE D M m ds = if ds.Nodup then (if szL (keepL m (goneB ds)) = 0 then 32 else 0) else 14) := Lib.hid (by rw [F0.out, IN.out, if_neg (by decide)])
        have LE : Hid (∀ l ∈ m, l.length ≤ 100) := Lib.hid (fun l hl => by have h := OK.out.each l hl; have := OK.out.s64; omega)
        have s0 : wr.cell? ⟨w.heap.size, 0, none⟩ = some (.int .i64 D) := blk_cell SB.out 0 _ rfl
        have s1 : wr.cell? ⟨w.heap.size, 1, none⟩ = some (.int .i64 M) := blk_cell SB.out 1 _ rfl
        clear HN F0 hlt hk
        go_wp2_with fail
        refine (refTwin_calls D M A c B m _ hn hc (by omega) (HS.out.next N1.out) LE.out).mono ?_
        rintro e w2 ⟨v, rfl, ⟨us0, ho⟩, hb2⟩
        obtain ⟨Av, cv, rfl, hv1, hv2, _⟩ := own_form ho.top
        have X2 := Lib.hid (blk_alloc (blk_next hb2 X1.out) (.cells #[.int .i64 D, .int .i64 M, .slice Av m.length cv] 31))
        have N2 := Lib.hid (Bal (Bgo N1.out hb2) (.cells #[.int .i64 D, .int .i64 M, .slice Av m.length cv] 31))
        have O2 : Hid (OMx w.heap.size (w2.alloc (.cells #[.int .i64 D, .int .i64 M, .slice Av m.length cv] 31)) (.slice Av m.length cv) us0 (keepL m (goneB (ds.take 0)))) := Lib.hid (by rw [List.take_zero, keepL_none]; exact (ho.mono (B' := w.heap.size) N1.out.size).next (Bal (Below.refl _ _) _))
        have Y2 : Hid ((w2.alloc (.cells #[.int .i64 D, .int .i64 M, .slice Av m.length cv] 31)).heap[w2.heap.size]? = some (.cells #[.int .i64 D, .int .i64 M, .slice Av m.length cv] 31)) := Lib.hid (blk_new _ _)
        have AV : Hid (∃ hb, Av = some ⟨hb, 0, none⟩) := Lib.hid (by
          rcases ho.top.2 with ⟨h1, h2⟩ | ⟨g, cap, cur, h1, _⟩
          · exfalso; have := OK.out.len; have := OK.out.d1; simp only [Value.slice.injEq] at h1; omega
          · simp only [Value.slice.injEq] at h1; exact ⟨g, h1.1⟩)
        have hz1 : w.heap.size + 1 < w2.heap.size := blk_lt (blk_next hb2 X1.out)
        obtain ⟨hb, rfl⟩ := AV.out
        clear ho hb2 s0 s1 s2 AV N1 SB X1
        go_wp2_with fail
        go_loopw [9] (fun i wr => ∃ (k : Nat) (us : List Value), k ≤ ds.length ∧ i = .int .i64 k ∧ Hid (Below w.heap.size w wr) ∧ Hid (wr.heap[w.heap.size + 1]? = some (.cells #[.int .i64 0, .int .i64 0, .slice none 0 0] 31)) ∧ Hid (wr.heap[w2.heap.size]? = some (.cells #[.int .i64 D, .int .i64 M, .slice (some ⟨hb, 0, none⟩) m.length cv] 31)) ∧ Hid ((ds.take k).Nodup) ∧ Hid (OMx w.heap.size wr (.slice (some ⟨hb, 0, none⟩) m.length cv) us (keepL m (goneB (ds.take k))))) (fun i _ => ds.length - (intOf i).toNat)
        case atStart => exact ⟨0, us0, by omega, rfl, N2, X2, Y2, Lib.hid (by simp), O2⟩
        case round =>
          clear N2 X2 Y2 O2
          obtain ⟨k, us, hk, rfl, N, X, Y, ND, O⟩ := hrel
          by_cases hlt : k < ds.length
          · obtain ⟨d, hdk⟩ := get_some hlt
            obtain ⟨dp, dl⟩ := inB_out IN.out hdk
            obtain ⟨x, rfl⟩ := Int.eq_ofNat_of_zero_le dp
            have HDK := Lib.hid hdk
            obtain ⟨wo, rfl⟩ : ∃ wo : World, wo = wr := ⟨_, rfl⟩
            clear hdk
            go_wp2_with fail
            go_loopw [10] (fun i wr => ∃ t : Nat, t ≤ k ∧ i = .int .i64 t ∧ Hid (∃ n, wr = wo.drewN n) ∧ Hid (∀ (j : Nat) (d : Int), j < t → ds[j]? = some d → d ≠ (x : Int))) (fun i _ => k - (intOf i).toNat)
            case atStart => exact ⟨0, by omega, rfl, Lib.hid ⟨0, rfl⟩, Lib.hid (fun j d h => by omega)⟩
            case round =>
              obtain ⟨t, ht, rfl, HW, HN⟩ := hrel
              obtain ⟨nw, hnw⟩ := HW.out
              have N3 : Hid (Below w.heap.size w wr) := Lib.hid (by rw [hnw]; exact below_drewN N.out _)
              have X3 : Hid (wr.heap[w.heap.size + 1]? = some (.cells #[.int .i64 0, .int .i64 0, .slice none 0 0] 31)) := Lib.hid (by rw [hnw]; exact X.out)
              have Y3 : Hid (wr.heap[w2.heap.size]? = some (.cells #[.int .i64 D, .int .i64 M, .slice (some ⟨hb, 0, none⟩) m.length cv] 31)) := Lib.hid (by rw [hnw]; exact Y.out)
              have O3 : Hid (OMx w.heap.size wr (.slice (some ⟨hb, 0, none⟩) m.length cv) us (keepL m (goneB (ds.take k)))) := Lib.hid (by rw [hnw]; exact O.out.next (below_drewN (Below.refl _ _) _))
              have HWN := Lib.hid hnw
              obtain ⟨bd, od, rfl, hbd, hcd⟩ := (HD.out.next N3.out).at_ HDK.out
              clear hnw HW
              have k1 : (0 : Int) ≤ (k : Int) := by omega
              have k2 : (k : Int) < (ds.length : Int) := by omega
              by_cases hlt3 : t < k
              · obtain ⟨d', hd'⟩ := get_some (show t < ds.length by omega)
                obtain ⟨bd', od', e', hbd', hcd'⟩ := (HD.out.next N3.out).at_ hd'
                injection e' with e'
                injection e' with e1 e2
                subst e1 e2
                have HD' := Lib.hid hd'
                have t1 : (0 : Int) ≤ (t : Int) := by omega
                have t2 : (t : Int) < (ds.length : Int) := by omega
                clear hd'
                by_cases e : d' = (x : Int)
                · have q : (d' == (x : Int)) = true := by rw [e]; simp
                  have FE : Hid (loseE D M m ds = 14) := Lib.hid (by
                    rw [F1.out, if_neg (dup_not HDK.out (d := (x : Int)) ?_)]
                    rw [← e]
                    exact List.mem_of_getElem? (i := t) (by rw [List.getElem?_take, if_pos hlt3]; exact HD'.out))
                  have x0 : wr.cell? ⟨w.heap.size + 1, 0, none⟩ = some (.int .i64 0) := blk_cell X3.out 0 _ rfl
                  have x1 : wr.cell? ⟨w.heap.size + 1, 1, none⟩ = some (.int .i64 0) := blk_cell X3.out 1 _ rfl
                  have x2 : wr.cell? ⟨w.heap.size + 1, 2, none⟩ = some (.slice none 0 0) := blk_cell X3.out 2 _ rfl
                  have f0 : wr.frozen? ⟨w.heap.size + 1, 0, none⟩ = false := blk_frozen X3.out 0
                  have f1 : wr.frozen? ⟨w.heap.size + 1, 1, none⟩ = false := blk_frozen X3.out 1
                  have f2 : wr.frozen? ⟨w.heap.size + 1, 2, none⟩ = false := blk_frozen X3.out 2
                  clear e
                  go_wp2_with fail
                  go_quiet (fail)
                  go_wp2_with fail
                  have Z := blk_set3 (w := wr.drewN nq) X3.out (.int .i64 0) (.int .i64 0) (.slice none 0 0)
                  have e0 := blk_cell Z 0 _ rfl
                  have e1 := blk_cell Z 1 _ rfl
                  have e2 := blk_cell Z 2 _ rfl
                  rw [loseS_err FE.out (by decide), FE.out]
                  refine bodyPost_ret (v := .tuple #[Sv 0 0 (.slice none 0 0), .int .i64 14]) (by simp [results, Try.results27, go_sem, e0, e1, e2]) rfl (SEPost.none_ ?_)
                  exact Bset3 (below_drewN N3.out _) (by omega) _ _ _
                · have q : (d' == (x : Int)) = false := by rw [beq_eq_false_iff_ne]; exact e
                  have E := Lib.hid e
                  clear e
                  go_wp2_with fail
                  go_quiet (fail)
                  go_wp2_with fail
                  refine ⟨⟨t + 1, by omega, by go_num, Lib.hid ⟨nw + nq, by rw [HWN.out, World.drewN_drewN]⟩, Lib.hid ?_⟩, by simp [intOf]; omega⟩
                  intro j d2 hj hd2
                  by_cases ej : j = t
                  · subst ej; rw [HD'.out] at hd2; cases hd2; exact E.out
                  · exact HN.out j d2 (by omega) hd2
              · obtain rfl : t = k := by omega
                have NI : Hid ((x : Int) ∉ ds.take t) := Lib.hid (fun hm => by
                  obtain ⟨j, hj, e⟩ := List.mem_iff_getElem.1 hm
                  have hj2 : j < t := by rw [List.length_take] at hj; omega
                  refine HN.out j _ hj2 (List.getElem?_eq_getElem (by omega)) ?_
                  rw [List.getElem_take] at e; exact e)
                have ND2 := Lib.hid (nodup_snoc HDK.out ND.out NI.out)
                have y2 : wr.cell? ⟨w2.heap.size, 2, none⟩ = some (.slice (some ⟨hb, 0, none⟩) m.length cv) := blk_cell Y3.out 2 _ rfl
                have hxl : x < m.length := by omega
                have xx1 : (0 : Int) ≤ (x : Int) := by omega
                have xx2 : (x : Int) < (m.length : Int) := by omega
                obtain ⟨u0, hu0⟩ := get_some (show x < us.length by rw [O3.out.len, keepL_len]; exact hxl)
                have TOP : Hid (wr.ownsRow w.heap.size 57 1 (.slice (some ⟨hb, 0, none⟩) m.length cv) m.length us) := Lib.hid (by have := O3.out.top; rw [keepL_len] at this; exact this)
                have c9 : wr.cell? ⟨hb, x, none⟩ = some u0 := (TOP.out.cellAt x (by omega)).trans hu0
                have f9 : wr.frozen? ⟨hb, x, none⟩ = false := TOP.out.frozenAt x
                have HNE : Hid (hb ≠ w2.heap.size) := Lib.hid (fun e => own_ne TOP.out Y3.out ne_sl_st (by rw [e]; rfl))
                have HNX : Hid (hb ≠ w.heap.size + 1) := Lib.hid (fun e => own_ne TOP.out X3.out ne_sl_st (by rw [e]; rfl))
                have HBS : Hid (w.heap.size ≤ hb) := Lib.hid ((TOP.out.lt hb rfl).1)
                clear hu0
                go_wp2_with fail
                refine wp_region_still_tail 7 (by kernel_rfl) (by kernel_rfl) ?_
                simp only [List.take_succ_cons, List.take_zero, List.drop_succ_cons, List.drop_zero]
                repeat still_step
                refine wpStill_nil ?_
                go_wp2_with fail
                refine ⟨⟨t + 1, us.set x (.slice none 0 0), by omega, by go_num, Lib.hid ?_, Lib.hid ?_, Lib.hid ?_, ND2, Lib.hid ?_⟩, by simp [intOf]; omega⟩
                · first | exact Bset1 N3.out HBS.out x _ | exact (Bset1 N3.out HBS.out x _).drew
                · exact blk_set_other X3.out HNX.out x _
                · exact blk_set_other Y3.out HNE.out x _
                · rw [keepL_snoc HDK.out]
                  exact (OMx.setRow O3.out (keepL_len _ _) (Below.refl _ _) (World.ownsRow_nil _ _ _ _) Byt.nil N3.out.size).next (Below.refl _ _).drew
          · obtain rfl : k = ds.length := by omega
            have ND2 : Hid ds.Nodup := Lib.hid (by have := ND.out; rwa [List.take_of_length_le (Nat.le_refl _)] at this)
            have F2 : Hid (loseE D M m ds = if szL (keepL m (goneB ds)) = 0 then 32 else 0) := Lib.hid (by rw [F1.out, if_pos ND2.out])
            have O3 : Hid (OMx w.heap.size wr (.slice (some ⟨hb, 0, none⟩) m.length cv) us (keepL m (goneB ds))) := Lib.hid (by have := O.out; rwa [List.take_of_length_le (Nat.le_refl _)] at this)
            have KL : Hid ((keepL m (goneB ds)).length = m.length) := Lib.hid (keepL_len _ _)
            have LC := Lib.hid (refLength_calls D M (some ⟨hb, 0, none⟩) cv w.heap.size (keepL m (goneB ds)) wr (by rw [KL.out]; exact hv1) hv2 O3.out.rma)
            rw [KL.out] at LC
            have y0 : wr.cell? ⟨w2.heap.size, 0, none⟩ = some (.int .i64 D) := blk_cell Y.out 0 _ rfl
            have y1 : wr.cell? ⟨w2.heap.size, 1, none⟩ = some (.int .i64 M) := blk_cell Y.out 1 _ rfl
            have y2 : wr.cell? ⟨w2.heap.size, 2, none⟩ = some (.slice (some ⟨hb, 0, none⟩) m.length cv) := blk_cell Y.out 2 _ rfl
            obtain ⟨z, hz⟩ : ∃ z, szL (keepL m (goneB ds)) = z := ⟨_, rfl⟩
            rw [hz] at LC F2
            clear hz O ND F1
            go_wp2_with fail
            refine LC.out.mono ?_
            rintro e w5 ⟨rfl, hb5⟩
            have X5 := Lib.hid (blk_next hb5 X.out)
            have Y5 := Lib.hid (blk_next hb5 Y.out)
            have N5 := Lib.hid (Bgo N.out hb5)
            have O5 := Lib.hid (O3.out.next hb5)
            clear hb5 y0 y1 y2
            have c0 : w5.cell? ⟨w2.heap.size, 0, none⟩ = some (.int .i64 D) := blk_cell Y5.out 0 _ rfl
            have c1 : w5.cell? ⟨w2.heap.size, 1, none⟩ = some (.int .i64 M) := blk_cell Y5.out 1 _ rfl
            have c2 : w5.cell? ⟨w2.heap.size, 2, none⟩ = some (.slice (some ⟨hb, 0, none⟩) m.length cv) := blk_cell Y5.out 2 _ rfl
            have x0 : w5.cell? ⟨w.heap.size + 1, 0, none⟩ = some (.int .i64 0) := blk_cell X5.out 0 _ rfl
            have x1 : w5.cell? ⟨w.heap.size + 1, 1, none⟩ = some (.int .i64 0) := blk_cell X5.out 1 _ rfl
            have x2 : w5.cell? ⟨w.heap.size + 1, 2, none⟩ = some (.slice none 0 0) := blk_cell X5.out 2 _ rfl
            have f0 : w5.frozen? ⟨w.heap.size + 1, 0, none⟩ = false := blk_frozen X5.out 0
            have f1 : w5.frozen? ⟨w.heap.size + 1, 1, none⟩ = false := blk_frozen X5.out 1
            have f2 : w5.frozen? ⟨w.heap.size + 1, 2, none⟩ = false := blk_frozen X5.out 2
            by_cases hzm : z = 0
            · have FE : Hid (loseE D M m ds = 32) := Lib.hid (by rw [F2.out, if_pos hzm])
              have q : ((z : Int) == 0) = true := by rw [hzm]; rfl
              clear hzm
              go_wp2_with fail
              have Z := blk_set3 X5.out (.int .i64 0) (.int .i64 0) (.slice none 0 0)
              have e0 := blk_cell Z 0 _ rfl
              have e1 := blk_cell Z 1 _ rfl
              have e2 := blk_cell Z 2 _ rfl
              rw [loseS_err FE.out (by decide), FE.out]
              refine bodyPost_ret (v := .tuple #[Sv 0 0 (.slice none 0 0), .int .i64 32]) (by simp [results, Try.results27, go_sem, e0, e1, e2]) rfl (SEPost.none_ ?_)
              exact Bset3 N5.out (by omega) _ _ _
            · have FE : Hid (loseE D M m ds = 0) := Lib.hid (by rw [F2.out, if_neg hzm])
              have q : ((z : Int) == 0) = false := by rw [beq_eq_false_iff_ne]; omega
              clear hzm
              go_wp2_with fail
              have Z := blk_set3 X5.out (.int .i64 D) (.int .i64 M) (.slice (some ⟨hb, 0, none⟩) m.length cv)
              have e0 := blk_cell Z 0 _ rfl
              have e1 := blk_cell Z 1 _ rfl
              have e2 := blk_cell Z 2 _ rfl
              rw [show loseS D M m ds = (D, M, keepL m (goneB ds)) by unfold loseS; rw [FE.out, if_pos rfl], FE.out]
              refine bodyPost_ret (v := .tuple #[Sv D M (.slice (some ⟨hb, 0, none⟩) m.length cv), .int .i64 0]) (by simp [results, Try.results27, go_sem, e0, e1, e2]) rfl ⟨_, rfl, ⟨us, ?_⟩, ?_⟩
              · exact O5.out.set3_ X5.out _ _ _
              · exact Bset3 N5.out (by omega) _ _ _
  · have FE : Hid (loseE D M m ds = chkE D M m) := Lib.hid (by unfold loseE; rw [if_pos ck])
    have q : (chkE D M m != 0) = true := by rw [bne_iff_ne]; exact ck
    rw [loseS_err FE.out ck, FE.out]
    generalize chkE D M m = er at *
    clear ck FE
    go_enter Try.func27, Try.ntmps27
    go_wp2_with fail
    refine (CC.out _ (HS.out.next (Bal (Bal (Below.refl _ _) _) _))).mono ?_
    rintro e w1 ⟨rfl, hb1⟩
    have N1 : Hid (Below w.heap.size w w1) := Lib.hid (Bgo (Bal (Bal (Below.refl _ _) _) _) hb1)
    have X1 : Hid (w1.heap[w.heap.size + 1]? = some (.cells #[.int .i64 0, .int .i64 0, .slice none 0 0] 31)) := Lib.hid (blk_next hb1 (blk_at _ (by simp)))
    clear hb1
    have x0 : w1.cell? ⟨w.heap.size + 1, 0, none⟩ = some (.int .i64 0) := blk_cell X1.out 0 _ rfl
    have x1 : w1.cell? ⟨w.heap.size + 1, 1, none⟩ = some (.int .i64 0) := blk_cell X1.out 1 _ rfl
    have x2 : w1.cell? ⟨w.heap.size + 1, 2, none⟩ = some (.slice none 0 0) := blk_cell X1.out 2 _ rfl
    have f0 : w1.frozen? ⟨w.heap.size + 1, 0, none⟩ = false := blk_frozen X1.out 0
    have f1 : w1.frozen? ⟨w.heap.size + 1, 1, none⟩ = false := blk_frozen X1.out 1
    have f2 : w1.frozen? ⟨w.heap.size + 1, 2, none⟩ = false := blk_frozen X1.out 2
    go_wp2_with fail
    have Z := blk_set3 X1.out (.int .i64 0) (.int .i64 0) (.slice none 0 0)
    have e0 := blk_cell Z 0 _ rfl
    have e1 := blk_cell Z 1 _ rfl
    have e2 := blk_cell Z 2 _ rfl
    refine bodyPost_ret (v := .tuple #[Sv 0 0 (.slice none 0 0), .int .i64 er]) (by simp [results, Try.results27, go_sem, e0, e1, e2]) rfl (SEPost.none_ ?_)
    exact Bset3 N1.out (by omega) _ _ _
end Go.Proofs.Ytmpmeeacdllomaa
