/- Several texts in one. -/
import Derived.Test.YtapehckcmmompaaM06
import Derived.Test.YtapehckcmmompaaM08
namespace Go.Proofs.Ytapehckcmmompaa
open Go.ChangeShapes Go.WideShapes Go.ChangeAt Go.RowKit Gf
set_option linter.unusedVariables false
set_option maxRecDepth 100000
attribute [local go_sem ↓] Go.wp_at_zero Go.wp_at_succ
theorem keepL_one (m : List (List Nat)) (k : Nat) : keepL m (oneB k) = m.set k [] := by
 apply List.ext_getElem?
 intro i
 rw [List.getElem?_set]
 by_cases hi : i < m.length
 ·obtain ⟨l, hl⟩ := get_some hi
  rw [keepL_at hl]
  by_cases e : k = i
  ·subst e; rw [if_pos rfl, if_pos hi]; simp [oneB]
  ·rw [if_neg e, hl]
   have : oneB k i = false := decide_eq_false (by omega)
   rw [this]; rfl
 ·rw [List.getElem?_eq_none (by rw [keepL_len]; omega)]
  by_cases e : k = i
  ·subst e; rw [if_pos rfl, if_neg hi]
  ·rw [if_neg e, List.getElem?_eq_none (by omega)]
theorem szL_zero {m : List (List Nat)} (h : szL m = 0) : ∀ l ∈ m, l.length = 0 := by
 induction m with
 | nil => simp
 | cons x m ih =>
  unfold szL at h
  by_cases hx : x.length = 0
  ·rw [if_pos hx] at h
   intro l hl
   rcases List.mem_cons.1 hl with rfl | h1
   ·exact hx
   ·exact ih h l h1
  ·rw [if_neg hx] at h; exact absurd h hx
theorem keep_ok {D M k : Nat} {m : List (List Nat)} (h : Ok D M m) (hl : lostN m = 0) (h1 : 1 < m.length) : Ok D M (m.set k []) := by
 have nz := lost_none hl
 obtain ⟨j, hj, hjk⟩ : ∃ j, j < m.length ∧ j ≠ k := by
  by_cases e : k = 0
  ·exact ⟨1, h1, by omega⟩
  ·exact ⟨0, by omega, by omega⟩
 obtain ⟨l, hlj⟩ := get_some hj
 have e1 : l.length = szL m := by
  rcases h.each l (List.mem_of_getElem? hlj) with e | e
  ·exact absurd e (nz l (List.mem_of_getElem? hlj))
  ·exact e
 have ev : ∀ x ∈ m.set k [], x.length = 0 ∨ x.length = szL m := fun x hx => by
  rcases List.mem_or_eq_of_mem_set hx with h2 | rfl
  ·exact h.each x h2
  ·exact .inl rfl
 have hin : l ∈ m.set k [] := List.mem_of_getElem? (i := j) (by rw [List.getElem?_set, if_neg (by omega)]; exact hlj)
 have s1 := h.s1
 have e2 : szL (m.set k []) = szL m := by
  have h0 : szL (m.set k []) ≠ 0 := fun e => by
   have hz := szL_zero e l hin
   omega
  obtain ⟨x, hx, ex⟩ := szL_mem h0
  rcases ev x hx with h2 | h2
  ·omega
  ·omega
 exact ⟨h.d1, h.d8, h.m4, by rw [List.length_set]; exact h.len, by rw [e2]; exact h.s1, by rw [e2]; exact h.s64, fun x hx => by rw [e2]; exact ev x hx⟩
theorem fnd_one {D M : Nat} {m : List (List Nat)} (h : Ok D M m) (h1 : m.length = 1) : fndTo D M m 1 = (0, 0) := by
 have hM : M = 0 := by have := h.len; have := h.d1; omega
 obtain ⟨l, hl⟩ : ∃ l, m = [l] := by
  match m, h1 with
  | [l], _ => exact ⟨l, rfl⟩
 subst hM
 have e : rstE D 0 (keepL m (oneB 0)) = 32 := by
  rw [keepL_one, hl]
  unfold rstE
  rw [if_pos (by simp [lostN])]
 simp only [fndTo]
 rw [e, if_neg (by decide)]
set_option maxHeartbeats 4000000 in
theorem refFind_calls (D M : Int) (A : Option Addr) (c B : Nat) (m : List (List Nat)) (w : World) (hn : m.length ≤ c) (hc : c ≤ 9223372036854775807) (hs : RMA B w A m) :
  Calls Try.prog 61 #[Sv D M (.slice A m.length c)] w fun e w' => e = .returned (.tuple #[.int .i64 (fndV D M m).1, .int .i64 (fndV D M m).2]) ∧ Below w.heap.size w w' := by
 have HS := Lib.hid hs
 clear hs
 have CC := Lib.hid (fun W (h : RMA B W A m) => refCheck_calls D M A c B m W hn hc h)
 by_cases ck : chkE D M m = 0
 ·obtain ⟨OKS, hD, hM⟩ := chkE_ok ck
  have F0 : Hid (fndV D M m = if 0 < lostN m then ((0 : Int), (2 : Int)) else if sndB D.toNat M.toNat m then ((-1 : Int), (0 : Int)) else if (fndTo D.toNat M.toNat m m.length).2 ≠ 1 then ((0 : Int), (6 : Int)) else (((fndTo D.toNat M.toNat m m.length).1 : Int), (0 : Int))) := Lib.hid (by unfold fndV; rw [if_neg (by rw [ck]; decide)])
  generalize fndV D M m = fv at *
  generalize D.toNat = D' at *
  generalize M.toNat = M' at *
  subst hD hM
  have SC := Lib.hid (fun W (h : RMA B W A m) => refSnd_calls A c B D' M' m W hn hc h OKS)
  rw [← sndB_eq OKS] at SC
  have hm12 : m.length ≤ 12 := by have := OKS.len; have := OKS.d8; have := OKS.m4; omega
  have hm1 : 1 ≤ m.length := by have := OKS.len; have := OKS.d1; omega
  have LE : Hid (∀ l ∈ m, l.length ≤ 100) := Lib.hid (fun l hl => by have h := OKS.each l hl; have := OKS.s64; omega)
  have WC := Lib.hid (fun W (h : RMA B W A m) => refWhole_calls D' M' A c B m W hn hc (by omega) h)
  rw [ck] at CC
  have FT : Hid (∀ k, fndTo D' M' m (k + 1) = if rstE D' M' (m.set k []) = 0 then (k, (fndTo D' M' m k).2 + 1) else fndTo D' M' m k) := Lib.hid (fun k => by rw [← keepL_one]; rfl)
  have FL := Lib.hid (fun k => fndTo_le D' M' m k)
  have F1' : Hid (m.length = 1 → fndTo D' M' m m.length = (0, 0)) := Lib.hid (fun h => by rw [h]; exact fnd_one OKS h)
  have RC : Hid (lostN m = 0 → 1 < m.length → ∀ (k : Nat) (W : World) (A' : Option Addr) (c' : Nat), m.length ≤ c' → c' ≤ 9223372036854775807 → RMA 0 W A' (m.set k []) → Calls Try.prog 53 #[Sv D' M' (.slice A' m.length c')] W (SEPost W (rstS D' M' (m.set k [])) (rstE D' M' (m.set k [])))) := Lib.hid (fun hl h1 k W A' c' k1 k2 h => by
   have ck2 := ok_chkE (keep_ok (k := k) OKS hl h1)
   have := refRestore_calls D' M' A' c' 0 (m.set k []) W (by rw [List.length_set]; exact k1) k2 h
   have e1 : resE D' M' (m.set k []) = rstE D' M' (m.set k []) := by unfold resE; rw [if_pos ck2]; rfl
   have e2 : resS D' M' (m.set k []) = rstS D' M' (m.set k []) := by unfold resS rstS; rw [e1]; rfl
   rw [e1, e2, List.length_set] at this
   exact this)
  have ML := Lib.hid hm1
  generalize lostN m = z at *
  generalize sndB D' M' m = sb at *
  clear ck OKS
  go_enter Try.func61, Try.ntmps61
  go_wp2_with fail
  refine (CC.out _ (HS.out.next (Bal (Below.refl _ _) _))).mono ?_
  rintro e w1 ⟨rfl, hb1⟩
  have N1 : Hid (Below w.heap.size w w1) := Lib.hid (Bgo (Bal (Below.refl _ _) _) hb1)
  have SB1 : Hid (w1.heap[w.heap.size]? = some (.cells #[.int .i64 D', .int .i64 M', .slice A m.length c] 54)) := Lib.hid (blk_next hb1 (blk_new w _))
  have s0 : w1.cell? ⟨w.heap.size, 0, none⟩ = some (.int .i64 D') := blk_cell SB1.out 0 _ rfl
  have s1 : w1.cell? ⟨w.heap.size, 1, none⟩ = some (.int .i64 M') := blk_cell SB1.out 1 _ rfl
  have s2 : w1.cell? ⟨w.heap.size, 2, none⟩ = some (.slice A m.length c) := blk_cell SB1.out 2 _ rfl
  clear hb1
  go_wp2_with fail
  refine (WC.out _ (HS.out.next N1.out)).mono ?_
  rintro e w2 ⟨rfl, hb2⟩
  have N2 : Hid (Below w.heap.size w w2) := Lib.hid (Bgo N1.out hb2)
  have SB2 := Lib.hid (blk_next hb2 SB1.out)
  clear hb2 s0 s1 s2 N1 SB1
  by_cases hz : z = 0
  ·have F1 : Hid (fv = if sb then ((-1 : Int), (0 : Int)) else if (fndTo D' M' m m.length).2 ≠ 1 then ((0 : Int), (6 : Int)) else (((fndTo D' M' m m.length).1 : Int), (0 : Int))) := Lib.hid (by rw [F0.out, if_neg (by omega)])
   have qz : decide (z = 0) = true := decide_eq_true hz
   have RK := Lib.hid (RC.out hz)
   have s0 : w2.cell? ⟨w.heap.size, 0, none⟩ = some (.int .i64 D') := blk_cell SB2.out 0 _ rfl
   have s1 : w2.cell? ⟨w.heap.size, 1, none⟩ = some (.int .i64 M') := blk_cell SB2.out 1 _ rfl
   have s2 : w2.cell? ⟨w.heap.size, 2, none⟩ = some (.slice A m.length c) := blk_cell SB2.out 2 _ rfl
   rw [qz]
   clear hz RC qz
   go_wp2_with fail
   refine (SC.out _ (HS.out.next N2.out)).mono ?_
   rintro e w3 ⟨rfl, hb3⟩
   have N3 : Hid (Below w.heap.size w w3) := Lib.hid (Bgo N2.out hb3)
   have SB3 := Lib.hid (blk_next hb3 SB2.out)
   clear hb3 s0 s1 s2 N2 SB2 F0
   cases sb
   ·have F2 : Hid (fv = if (fndTo D' M' m m.length).2 ≠ 1 then ((0 : Int), (6 : Int)) else (((fndTo D' M' m m.length).1 : Int), (0 : Int))) := Lib.hid F1.out
    clear F1
    by_cases h1 : m.length = 1
    ·have FF : Hid (fv = ((0 : Int), (6 : Int))) := Lib.hid (by rw [F2.out, F1'.out h1]; rfl)
     have s2 : w3.cell? ⟨w.heap.size, 2, none⟩ = some (.slice A m.length c) := blk_cell SB3.out 2 _ rfl
     have q1 : ¬ (1 < m.length) := by omega
     have q2 : 0 < m.length := by omega
     clear h1
     go_wp2_with fail
     go_loop [5, 6, 7] (fun a b i => a = .int .i64 0 ∧ b = .int .i64 0 ∧ i = .int .i64 0) (fun _ _ _ => 0)
     case atStart => exact ⟨rfl, rfl, rfl⟩
     case round =>
      obtain ⟨rfl, rfl, rfl⟩ := hrel
      go_wp2_with fail
      go_ret2
      exact ⟨by rw [FF.out]; rfl, N3.out⟩
    ·have h2 : 1 < m.length := by omega
     clear h1 F1'
     go_wp2_with fail
     go_loopw [5, 6, 7] (fun s5 s6 i wr => ∃ k : Nat, k ≤ m.length ∧ i = .int .i64 k ∧ s5 = .int .i64 ((fndTo D' M' m k).1 : Nat) ∧ s6 = .int .i64 ((fndTo D' M' m k).2 : Nat) ∧ Hid (Below w.heap.size w wr) ∧ Hid (wr.heap[w.heap.size]? = some (.cells #[.int .i64 D', .int .i64 M', .slice A m.length c] 54))) (fun _ _ i _ => m.length - (intOf i).toNat)
     case atStart => exact ⟨0, by omega, rfl, rfl, rfl, N3, SB3⟩
     case round =>
      clear N3 SB3
      obtain ⟨k, hk, rfl, rfl, rfl, N, SB⟩ := hrel
      have fl := FL.out k
      have s0 : wr.cell? ⟨w.heap.size, 0, none⟩ = some (.int .i64 D') := blk_cell SB.out 0 _ rfl
      have s1 : wr.cell? ⟨w.heap.size, 1, none⟩ = some (.int .i64 M') := blk_cell SB.out 1 _ rfl
      have s2 : wr.cell? ⟨w.heap.size, 2, none⟩ = some (.slice A m.length c) := blk_cell SB.out 2 _ rfl
      by_cases hlt : k < m.length
      ·have FK := Lib.hid (FT.out k)
       have hz0 : w.heap.size < wr.heap.size := blk_lt SB.out
       generalize hft : fndTo D' M' m k = ft at *
       obtain ⟨fa, fb⟩ := ft
       have HFT := Lib.hid hft
       have k1 : (0 : Int) ≤ (k : Int) := by omega
       have k2 : (k : Int) < (m.length : Int) := by omega
       clear hft
       go_wp2_with fail
       refine (refTwin_calls D' M' A c B m _ hn hc (by omega) (HS.out.next N.out) LE.out).mono ?_
       rintro e w4 ⟨v, rfl, ⟨us, ho⟩, hb4⟩
       obtain ⟨Av, cv, rfl, hv1, hv2, _⟩ := own_form ho.top
       have SB4 := Lib.hid (blk_alloc (blk_next hb4 SB.out) (.cells #[.int .i64 D', .int .i64 M', .slice Av m.length cv] 54))
       have N4 := Lib.hid (Bal (Bgo N.out hb4) (.cells #[.int .i64 D', .int .i64 M', .slice Av m.length cv] 54))
       have O4 : Hid (OMx w.heap.size (w4.alloc (.cells #[.int .i64 D', .int .i64 M', .slice Av m.length cv] 54)) (.slice Av m.length cv) us m) := Lib.hid ((ho.mono (B' := w.heap.size) N.out.size).next (Bal (Below.refl _ _) _))
       have Y4 : Hid ((w4.alloc (.cells #[.int .i64 D', .int .i64 M', .slice Av m.length cv] 54)).heap[w4.heap.size]? = some (.cells #[.int .i64 D', .int .i64 M', .slice Av m.length cv] 54)) := Lib.hid (blk_new _ _)
       obtain ⟨gh, cp, ev, hghB, hghl⟩ := ho.top.form hm1
       simp only [Value.slice.injEq, true_and] at ev
       obtain ⟨ev, rfl⟩ := ev
       subst ev
       clear ho hb4 s0 s1 s2 N SB hghl hghB
       go_upto_region 13 with fail
       generalize w4.alloc (.cells #[.int .i64 D', .int .i64 M', .slice (some ⟨gh, 0, none⟩) m.length cv] 54) = W4 at *
       generalize w4.heap.size = gt at *
       obtain ⟨u0, hu0⟩ := get_some (show k < us.length by rw [O4.out.len]; exact hlt)
       have c9 : W4.cell? ⟨gh, k, none⟩ = some u0 := (O4.out.top.cellAt k (by omega)).trans hu0
       have f9 : W4.frozen? ⟨gh, k, none⟩ = false := O4.out.top.frozenAt k
       have l9 : gh < W4.heap.size := (O4.out.top.lt gh rfl).2
       have HNE : Hid (gh ≠ gt) := Lib.hid (fun e => own_ne O4.out.top Y4.out ne_sl_st (by rw [e]; rfl))
       have HNX : Hid (gh ≠ w.heap.size) := Lib.hid (fun e => own_ne O4.out.top SB4.out ne_sl_st (by rw [e]; rfl))
       have HBS : Hid (w.heap.size ≤ gh) := Lib.hid ((O4.out.top.lt gh rfl).1)
       have t2 : W4.cell? ⟨gt, 2, none⟩ = some (.slice (some ⟨gh, 0, none⟩) m.length cv) := blk_cell Y4.out 2 _ rfl
       have tl := blk_lt Y4.out
       have SB5 := Lib.hid (blk_set_other SB4.out HNX.out k (.slice none 0 0))
       have Y5 := Lib.hid (blk_set_other Y4.out HNE.out k (.slice none 0 0))
       have N5 := Lib.hid (Bset1 N4.out HBS.out k (.slice none 0 0))
       have O5 := Lib.hid (OMx.setRow (k := k) O4.out rfl (Below.refl _ _) (World.ownsRow_nil _ _ _ _) Byt.nil N4.out.size)
       have t0' := blk_cell Y5.out 0 _ rfl
       have t1' := blk_cell Y5.out 1 _ rfl
       have t2' := blk_cell Y5.out 2 _ rfl
       have tl' := blk_lt Y5.out
       clear hu0
       go_wp2_with fail
       clear t0' t1' t2' tl' c9 f9 l9 t2 tl
       refine (RK.out h2 k _ (some ⟨gh, 0, none⟩) cv hv1 hv2 (O5.out.rma.mono (Nat.zero_le _))).mono ?_
       generalize rstE D' M' (m.set k []) = er at *
       generalize rstS D' M' (m.set k []) = rs at *
       obtain ⟨r1, r2, r3⟩ := rs
       rintro e w5 ⟨v5, rfl, ⟨us5, ho5⟩, hb5⟩
       obtain ⟨A5, c5, rfl, _, _, _⟩ := own_form ho5.top
       have N6 := Lib.hid (Bgo N5.out hb5)
       have SB6 := Lib.hid (blk_next hb5 SB5.out)
       clear ho5 hb5 N5 SB5 Y5 O5 N4 SB4 Y4 O4
       by_cases he : er = 0
       ·have q : (er == 0) = true := by rw [he]; rfl
        have FK2 : Hid (fndTo D' M' m (k + 1) = (k, fb + 1)) := Lib.hid (by rw [FK.out, if_pos he])
        clear he
        go_wp2_with fail
        refine ⟨⟨k + 1, by omega, by go_num, ?_, ?_, Lib.hid (Bal N6.out _), Lib.hid (blk_alloc SB6.out _)⟩, by simp [intOf]; omega⟩
        ·rw [FK2.out]
        ·rw [FK2.out]; go_num
       ·have q : (er == 0) = false := by rw [beq_eq_false_iff_ne]; exact he
        have FK2 : Hid (fndTo D' M' m (k + 1) = (fa, fb)) := Lib.hid (by rw [FK.out, if_neg he])
        clear he
        go_wp2_with fail
        refine ⟨⟨k + 1, by omega, by go_num, ?_, ?_, Lib.hid (Bal N6.out _), Lib.hid (blk_alloc SB6.out _)⟩, by simp [intOf]; omega⟩
        ·rw [FK2.out]
        ·rw [FK2.out]
      ·obtain rfl : k = m.length := by omega
       generalize (fndTo D' M' m m.length).1 = fa at *
       generalize (fndTo D' M' m m.length).2 = fb at *
       by_cases h1 : fb = 1
       ·have q : ((fb : Int) != 1) = false := by rw [h1]; rfl
        have FF : Hid (fv = ((fa : Int), (0 : Int))) := Lib.hid (by rw [F2.out, if_neg (by omega)])
        clear h1
        go_wp2_with fail
        go_ret2
        exact ⟨by rw [FF.out]; rfl, N.out⟩
       ·have q : ((fb : Int) != 1) = true := by rw [bne_iff_ne]; omega
        have FF : Hid (fv = ((0 : Int), (6 : Int))) := Lib.hid (by rw [F2.out, if_pos h1])
        clear h1
        go_wp2_with fail
        go_ret2
        exact ⟨by rw [FF.out]; rfl, N.out⟩
   ·have FF : Hid (fv = (-1, 0)) := Lib.hid F1.out
    go_wp2_with fail
    go_ret2
    exact ⟨by rw [FF.out]; rfl, N3.out⟩
  ·have FF : Hid (fv = (0, 2)) := Lib.hid (by rw [F0.out, if_pos (by omega)])
   have qz : decide (z = 0) = false := decide_eq_false hz
   rw [qz]
   clear hz qz
   go_wp2_with fail
   go_ret2
   exact ⟨by rw [FF.out]; rfl, N2.out⟩
 ·have FF : Hid (fndV D M m = ((0 : Int), chkE D M m)) := Lib.hid (by unfold fndV; rw [if_pos ck])
  have q : (chkE D M m != 0) = true := by rw [bne_iff_ne]; exact ck
  rw [FF.out]
  generalize chkE D M m = er at *
  clear ck FF
  go_enter Try.func61, Try.ntmps61
  go_wp2_with fail
  refine (CC.out _ (HS.out.next (Bal (Below.refl _ _) _))).mono ?_
  rintro e w1 ⟨rfl, hb1⟩
  go_wp2_with fail
  go_ret2
  exact ⟨rfl, Bgo (Bal (Below.refl _ _) _) hb1⟩
end Go.Proofs.Ytapehckcmmompaa
