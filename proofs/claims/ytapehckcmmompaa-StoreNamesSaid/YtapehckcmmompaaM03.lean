/- Several texts in one. -/
import Derived.Test.YtapehckcmmompaaM02
namespace Go.Proofs.Ytapehckcmmompaa
open Go.ChangeShapes Go.WideShapes Go.ChangeAt Go.RowKit Gf
set_option linter.unusedVariables false
set_option maxRecDepth 100000
attribute [local go_sem ↓] Go.wp_at_zero Go.wp_at_succ
theorem own_cell {w : World} {B : Nat} {e : TypeId} {A : Option Addr} {n cap i : Nat} {us : List Value} {u : Value} (h : w.ownsRow B e 1 (.slice A n cap) n us) (hu : us[i]? = some u) : ∃ b, A = some ⟨b, 0, none⟩ ∧ w.cell? ⟨b, i, none⟩ = some u ∧ b < w.heap.size ∧ B ≤ b := by
 have hl : i < n := by have := get_lt hu; have h1 := h.1; omega
 rcases h.2 with ⟨h', _⟩ | ⟨g, cap', cur, h', hb, hg, _⟩
 ·simp only [Value.slice.injEq] at h'; omega
 ·have h0 := h
  simp only [Value.slice.injEq, true_and] at h'
  rw [h'.1] at h0 ⊢
  exact ⟨g, rfl, (h0.cellAt i (by omega)).trans hu, blk_lt hg, hb⟩
theorem ob_cell {w : World} {B g n cap k x : Nat} {l : List Nat} (h : w.ownsRow B 5 1 (.slice (some ⟨g, 0, none⟩) n cap) n (bv l)) (hx : l[k]? = some x) : w.cell? ⟨g, k, none⟩ = some (.int .u8 (x : Int)) := by
 have hl : k < n := by have := get_lt hx; have h1 := h.1; rw [bv_len] at h1; omega
 rw [h.cellAt k (by omega)]; exact bv_get hx
theorem own_nn {w : World} {B B' b g n n' cap cap' : Nat} {e e' : TypeId} {xs ys : List Value} (h : w.ownsRow B e 1 (.slice (some ⟨b, 0, none⟩) n cap) n xs) (h' : w.ownsRow B' e' 1 (.slice (some ⟨g, 0, none⟩) n' cap') n' ys) (hne : e ≠ e') : b ≠ g := fun eq => by
 rcases own_own h h' hne with h1 | h1
 ·simp [Value.ownBlock] at h1
 ·exact h1 (by rw [eq]; rfl)
theorem own_at {w : World} {B b n cap i : Nat} {e : TypeId} {us : List Value} {u : Value} (h : w.ownsRow B e 1 (.slice (some ⟨b, 0, none⟩) n cap) n us) (hu : us[i]? = some u) : w.cell? ⟨b, i, none⟩ = some u := by
 have hl : i < n := by have := get_lt hu; have h1 := h.1; omega
 rw [h.cellAt i (by omega)]; exact hu
theorem rba_own {w : World} {B g n cap : Nat} {l : List Nat} (h : w.ownsRow B 5 1 (.slice (some ⟨g, 0, none⟩) n cap) n (bv l)) (hb : Byt l) : RBA B w (some ⟨g, 0, none⟩) l := ⟨hb, Hd.of_own h⟩
set_option maxRecDepth 100000 in
set_option maxHeartbeats 4000000 in
theorem solve_calls (Am Ar : Option Addr) (cm cr B n q : Nat) (us vs : List Value) (M R : List (List Nat)) (w : World) (hM : M.length = n) (hR : R.length = n) (hq : 1 ≤ q) (hn : n ≤ 100) (hq2 : q ≤ 100) (hMr : ∀ l ∈ M, l.length = n) (hRr : ∀ l ∈ R, l.length = q)
  (hm : w.ownsRow B 26 1 (.slice Am n cm) n us) (hr : w.ownsRow B 26 1 (.slice Ar n cr) n vs) (hf : Fam B w (us ++ vs) (M ++ R)) (hB : B ≤ w.heap.size) :
  Calls Try.prog 90 #[.slice Am n cm, .slice Ar n cr] w fun e w' => e = .returned (.tuple #[]) ∧ Fam B w' (us ++ vs) ((gjTo M R n).1 ++ (gjTo M R n).2) ∧ KU B w w' := by
 have HM := Lib.hid hm
 have HR := Lib.hid hr
 have HF := Lib.hid hf
 have hul : us.length = n := by have := hm.1; omega
 have hvl : vs.length = n := by have := hr.1; omega
 have HUL := Lib.hid hul
 have HVL := Lib.hid hvl
 have HML := Lib.hid hM
 have HRL := Lib.hid hR
 have GR : Hid (∀ p, p ≤ n → (∀ l ∈ (gjTo M R p).1, l.length = n) ∧ (∀ l ∈ (gjTo M R p).2, l.length = q)) := Lib.hid (fun p hp => gjTo_rows hMr hRr (by rw [hM, hR]) p (by omega))
 have GL : Hid (∀ p, (gjTo M R p).1.length = n ∧ (gjTo M R p).2.length = n) := Lib.hid (fun p => by have := gjTo_len M R p; rw [hM, hR] at this; exact this)
 obtain ⟨hmc, hmc2⟩ : n ≤ cm ∧ cm ≤ 9223372036854775807 := by
  obtain ⟨A', c', e, h1, h2, _⟩ := own_form hm
  simp only [Value.slice.injEq, true_and] at e; rw [e.2]; exact ⟨h1, h2⟩
 obtain ⟨hrc, hrc2⟩ : n ≤ cr ∧ cr ≤ 9223372036854775807 := by
  obtain ⟨A', c', e, h1, h2, _⟩ := own_form hr
  simp only [Value.slice.injEq, true_and] at e; rw [e.2]; exact ⟨h1, h2⟩
 clear hm hr hf hul hvl hM hR hMr hRr
 go_enter Try.func90, Try.ntmps90
 go_wp2_with fail
 go_loopw [12] (fun i wr => ∃ p : Nat, p ≤ n ∧ i = .int .i64 p ∧ Hid (KU B w wr) ∧ Hid (Fam B wr (us ++ vs) ((gjTo M R p).1 ++ (gjTo M R p).2))) (fun i _ => n - (intOf i).toNat)
 case atStart => exact ⟨0, by omega, rfl, Lib.hid (KU.refl _ _), HF⟩
 case round =>
  clear HF
  obtain ⟨p, hp, rfl, K, F⟩ := hrel
  by_cases hlt : p < n
  ·have S1 : Hid (gjTo M R (p + 1) = (elim (gjTo M R p).1 (gjTo M R p).1 p n, elim (gjTo M R p).1 (gjTo M R p).2 p n)) := Lib.hid (by rw [gjTo, HML.out])
   have ML := (GL.out p).1
   have RL := (GL.out p).2
   have MR := (GR.out p hp).1
   have RR := (GR.out p hp).2
   generalize (gjTo M R p).1 = X at *
   generalize (gjTo M R p).2 = Y at *
   obtain ⟨wo, rfl⟩ : ∃ wo : World, wo = wr := ⟨_, rfl⟩
   obtain ⟨x, hx⟩ := get_some (show p < X.length by omega)
   obtain ⟨y, hy⟩ := get_some (show p < Y.length by omega)
   have hxl : x.length = n := MR x (List.mem_of_getElem? hx)
   have hyl : y.length = q := RR y (List.mem_of_getElem? hy)
   obtain ⟨gx, cx, ux, hgx, hgx2, hcx, hcx2, hox, hbx⟩ := F.out.form (i := p) (l := x) (by rw [get_left (by omega)]; exact hx) (by omega)
   obtain ⟨gy, cy, uy, hgy, hgy2, hcy, hcy2, hoy, hby⟩ := F.out.form (i := X.length + p) (l := y) (by rw [get_right]; exact hy) (by omega)
   have ux' : us[p]? = some (.slice (some ⟨gx, 0, none⟩) x.length cx) := by rw [get_left (by rw [HUL.out]; exact hlt)] at ux; exact ux
   have uy' : vs[p]? = some (.slice (some ⟨gy, 0, none⟩) y.length cy) := by rw [ML, ← HUL.out, get_right] at uy; exact uy
   obtain ⟨bm, rfl, cm1, bm1, bm2⟩ := own_cell (K.out.own HM.out ne_sl_u8) ux'
   obtain ⟨br, rfl, cr1, br1, br2⟩ := own_cell (K.out.own HR.out ne_sl_u8) uy'
   obtain ⟨piv, hpiv⟩ := get_some (show p < x.length by omega)
   have pc := ob_cell hox hpiv
   have pl : piv < 256 := hbx.at_ hpiv
   have PF : Hid (pivF X p = gi piv) := Lib.hid (by unfold pivF; rw [getD_of hx, List.getD_eq_getElem?_getD, hpiv]; rfl)
   rw [hxl] at cm1 ux ux' hcx hox
   rw [hyl] at cr1 uy uy' hcy hoy
   have p1 : (0 : Int) ≤ (p : Int) := by omega
   have p2 : (p : Int) < (n : Int) := by omega
   have MLH := Lib.hid ML
   have RLH := Lib.hid RL
   have MRH := Lib.hid MR
   have RRH := Lib.hid RR
   have HX := Lib.hid hx
   have HY := Lib.hid hy
   have HXL := Lib.hid hxl
   have HYL := Lib.hid hyl
   have UX := Lib.hid ux
   have UY := Lib.hid uy
   have OX := Lib.hid hox
   have OY := Lib.hid hoy
   have BX := Lib.hid hbx
   have BY := Lib.hid hby
   have blkX := K.out.own HM.out ne_sl_u8
   have blkR := K.out.own HR.out ne_sl_u8
   have n1 : Hid (bm ≠ gx) := Lib.hid (own_nn blkX hox ne_sl_u8)
   have n2 : Hid (bm ≠ gy) := Lib.hid (own_nn blkX hoy ne_sl_u8)
   have n3 : Hid (br ≠ gx) := Lib.hid (own_nn blkR hox ne_sl_u8)
   have n4 : Hid (br ≠ gy) := Lib.hid (own_nn blkR hoy ne_sl_u8)
   have nxy : Hid (gx ≠ gy) := Lib.hid (F.out.ne_ ux uy (by omega))
   have hwB : B ≤ wo.heap.size := Nat.le_trans hB K.out.bel.size
   clear ML RL MR RR hx hy hxl hyl ux uy ux' uy' hox hoy hbx hby hpiv blkX blkR
   go_wp2_with fail
   refine (inverse_calls piv pl _).mono ?_
   rintro e w' ⟨rfl, rfl⟩
   have fl : gi piv < 256 := gi_lt pl
   generalize gi piv = f at *
   go_wp2_with fail
   go_loopw [28] (fun i wr => ∃ k : Nat, k ≤ n ∧ i = .int .i64 k ∧ Hid (wo.grownBy wr (some gx)) ∧ Hid (wr.ownsRow B 5 1 (.slice (some ⟨gx, 0, none⟩) n cx) n (bv (mixK (fun _ z => gm f z) x k)))) (fun i _ => n - (intOf i).toNat)
   case atStart => exact ⟨0, by omega, rfl, Lib.hid (World.grownBy.refl _ _), by rw [mixK_zero]; exact OX⟩
   case round =>
    obtain ⟨k, hk, rfl, G, O⟩ := hrel
    by_cases hlt2 : k < n
    ·obtain ⟨z, hz⟩ := get_some (show k < x.length by rw [HXL.out]; exact hlt2)
     have zc := ob_cell O.out (mixK_at hz)
     have zf : wr.frozen? ⟨gx, k, none⟩ = false := O.out.frozenAt k
     have zl : z < 256 := BX.out.at_ hz
     have hc : wr.cell? ⟨bm, p, none⟩ = some (.slice (some ⟨gx, 0, none⟩) n cx) := by rw [← cm1]; exact G.out.cell_far _ bm1 (by simpa using n1.out)
     have HZ := Lib.hid hz
     have k1 : (0 : Int) ≤ (k : Int) := by omega
     have k2 : (k : Int) < (n : Int) := by omega
     clear hz
     go_wp2_with fail
     refine wp_region_still_tail 15 (by kernel_rfl) (by kernel_rfl) ?_
     simp only [List.take_succ_cons, List.take_zero, List.drop_succ_cons, List.drop_zero]
     repeat still_step
     still_call (mul_still f z fl zl _)
     repeat still_step
     refine wpStill_nil ?_
     go_wp2_with fail
     have st := O.out.stored k (.int .u8 ((gm f z : Nat) : Int))
     refine ⟨⟨k + 1, by omega, by go_num, Lib.hid (only_drew (G.out.trans st.2)), Lib.hid ?_⟩, by simp [intOf]; omega⟩
     rw [mixK_succ HZ.out, ← bv_set]
     exact st.1.drew
    ·obtain rfl : k = n := by omega
     have O2 : Hid (wr.ownsRow B 5 1 (.slice (some ⟨gx, 0, none⟩) k cx) k (bv (scaleR f x))) := Lib.hid (by have := O.out; rw [← HXL.out, mixK_scale, HXL.out] at this; exact this)
     have F2 : Hid (Fam B wr (us ++ vs) (X.set p (scaleR f x) ++ Y)) := Lib.hid (by
      rw [← set_left (by rw [MLH.out]; exact hlt)]
      exact F.out.write UX.out G.out O2.out (by rw [scaleR_len, HXL.out]) (scaleR_byt _ fl))
     have K2 : Hid (KU B wo wr) := Lib.hid (KU.grown G.out OX.out hwB)
     have OY2 : Hid (wr.ownsRow B 5 1 (.slice (some ⟨gy, 0, none⟩) q cy) q (bv y)) := Lib.hid (OY.out.kept G.out (.inr (by simp [Value.ownBlock]; exact fun e => nxy.out e.symm)))
     have hc : wr.cell? ⟨bm, p, none⟩ = some (.slice (some ⟨gx, 0, none⟩) k cx) := by rw [← cm1]; exact G.out.cell_far _ bm1 (by simpa using n1.out)
     have hcr : wr.cell? ⟨br, p, none⟩ = some (.slice (some ⟨gy, 0, none⟩) q cy) := by rw [← cr1]; exact G.out.cell_far _ br1 (by simpa using n3.out)
     have br3 : br < wr.heap.size := Nat.lt_of_lt_of_le br1 G.out.size
     have bm3 : bm < wr.heap.size := Nat.lt_of_lt_of_le bm1 G.out.size
     have hgx3 : gx < wr.heap.size := Nat.lt_of_lt_of_le hgx2 G.out.size
     obtain ⟨w2, rfl⟩ : ∃ w2 : World, w2 = wr := ⟨_, rfl⟩
     clear O G hlt2
     go_wp2_with fail
     go_loopw [52] (fun i wr => ∃ t : Nat, t ≤ q ∧ i = .int .i64 t ∧ Hid (w2.grownBy wr (some gy)) ∧ Hid (wr.ownsRow B 5 1 (.slice (some ⟨gy, 0, none⟩) q cy) q (bv (mixK (fun _ z => gm f z) y t)))) (fun i _ => q - (intOf i).toNat)
     case atStart => exact ⟨0, by omega, rfl, Lib.hid (World.grownBy.refl _ _), by rw [mixK_zero]; exact OY2⟩
     case round =>
      obtain ⟨t, ht, rfl, G, O⟩ := hrel
      by_cases hlt3 : t < q
      ·obtain ⟨z, hz⟩ := get_some (show t < y.length by rw [HYL.out]; exact hlt3)
       have zc := ob_cell O.out (mixK_at hz)
       have zf : wr.frozen? ⟨gy, t, none⟩ = false := O.out.frozenAt t
       have zl : z < 256 := BY.out.at_ hz
       have hc : wr.cell? ⟨br, p, none⟩ = some (.slice (some ⟨gy, 0, none⟩) q cy) := by rw [← hcr]; exact G.out.cell_far _ br3 (by simpa using n4.out)
       have HZ := Lib.hid hz
       have k1 : (0 : Int) ≤ (t : Int) := by omega
       have k2 : (t : Int) < (q : Int) := by omega
       clear hz
       go_wp2_with fail
       refine wp_region_still_tail 15 (by kernel_rfl) (by kernel_rfl) ?_
       simp only [List.take_succ_cons, List.take_zero, List.drop_succ_cons, List.drop_zero]
       repeat still_step
       still_call (mul_still f z fl zl _)
       repeat still_step
       refine wpStill_nil ?_
       go_wp2_with fail
       have st := O.out.stored t (.int .u8 ((gm f z : Nat) : Int))
       refine ⟨⟨t + 1, by omega, by go_num, Lib.hid (only_drew (G.out.trans st.2)), Lib.hid ?_⟩, by simp [intOf]; omega⟩
       rw [mixK_succ HZ.out, ← bv_set]
       exact st.1.drew
      ·obtain rfl : t = q := by omega
       have O3 : Hid (wr.ownsRow B 5 1 (.slice (some ⟨gy, 0, none⟩) t cy) t (bv (scaleR f y))) := Lib.hid (by have := O.out; rw [← HYL.out, mixK_scale, HYL.out] at this; exact this)
       have F3 : Hid (Fam B wr (us ++ vs) (elim X X p 0 ++ elim X Y p 0)) := Lib.hid (by
        rw [elim_zero (by rw [MLH.out]; exact hlt), elim_zero (by rw [RLH.out]; exact hlt), getD_of HX.out, getD_of HY.out, PF.out, ← set_right]
        refine F2.out.write ?_ G.out O3.out (by rw [scaleR_len, HYL.out]) (scaleR_byt _ fl)
        rw [List.length_set]; exact UY.out)
       have K3 : Hid (KU B wo wr) := Lib.hid (K2.out.trans (KU.grown G.out OY2.out (Nat.le_trans hwB K2.out.bel.size)))
       obtain ⟨w3, rfl⟩ : ∃ w3 : World, w3 = wr := ⟨_, rfl⟩
       clear O G O3 OY2 F2 K2 hlt3 hc hcr
       go_wp2_with fail
       go_loopw [73] (fun i wr => ∃ r : Nat, r ≤ k ∧ i = .int .i64 r ∧ Hid (KU B wo wr) ∧ Hid (Fam B wr (us ++ vs) (elim X X p r ++ elim X Y p r))) (fun i _ => k - (intOf i).toNat)
       case atStart => exact ⟨0, by omega, rfl, K3, F3⟩
       case round =>
        clear K3 F3
        obtain ⟨r, hr, rfl, K4, F4⟩ := hrel
        by_cases hlt4 : r < k
        ·by_cases hrp : r = p
         ·have q1 : ((r : Int) != (p : Int)) = false := by rw [hrp]; simp
          have E4 : Hid (r = p) := Lib.hid hrp
          clear hrp
          go_wp2_with fail
          refine ⟨⟨r + 1, by omega, by go_num, K4, Lib.hid ?_⟩, by simp [intOf]; omega⟩
          have := F4.out
          rw [E4.out] at this ⊢
          rw [elim_skip, elim_skip]; exact this
         ·have q1 : ((r : Int) != (p : Int)) = true := by rw [bne_iff_ne]; omega
          have e1 : (elim X X p r)[r]? = some (X.getD r []) := by rw [elim_at (by rw [MLH.out]; exact hlt4), if_neg hrp, if_neg (by omega)]
          have e2 : (elim X X p r)[p]? = some (scaleR f x) := by rw [elim_at (by rw [MLH.out]; exact hlt), if_pos rfl, getD_of HX.out, PF.out]
          have e3 : (elim X Y p r)[r]? = some (Y.getD r []) := by rw [elim_at (by rw [RLH.out]; exact hlt4), if_neg hrp, if_neg (by omega)]
          have e4 : (elim X Y p r)[p]? = some (scaleR f y) := by rw [elim_at (by rw [RLH.out]; exact hlt), if_pos rfl, getD_of HY.out, PF.out]
          have l1 : (X.getD r []).length = k := MRH.out _ (List.mem_of_getElem? (getD_get (by rw [MLH.out]; exact hlt4)))
          have l3 : (Y.getD r []).length = t := RRH.out _ (List.mem_of_getElem? (getD_get (by rw [RLH.out]; exact hlt4)))
          have ST : Hid (elim X X p (r + 1) ++ elim X Y p (r + 1) = ((elim X X p r ++ elim X Y p r).set r (addR (X.getD r []) (scaleR f x) ((X.getD r []).getD p 0))).set (k + r) (addR (Y.getD r []) (scaleR f y) ((X.getD r []).getD p 0))) := Lib.hid (by
           rw [elim_step (by rw [MLH.out]; exact hlt4) hrp, elim_step (by rw [RLH.out]; exact hlt4) hrp, set_left (by rw [elim_len, MLH.out]; exact hlt4)]
           rw [show k + r = ((elim X X p r).set r (addR (X.getD r []) (scaleR f x) ((X.getD r []).getD p 0))).length + r by rw [List.length_set, elim_len, MLH.out], set_right, getD_of HX.out, getD_of HY.out, PF.out])
          generalize X.getD r [] = a at *
          generalize Y.getD r [] = b at *
          have EL : (elim X X p r).length = k := by rw [elim_len, MLH.out]
          obtain ⟨ga, ca, ua, ga1, ga2, ca1, ca2, oa, ba⟩ := F4.out.form (i := r) (l := a) (by rw [get_left (by omega)]; exact e1) (by omega)
          obtain ⟨gp, cp, up, gp1, gp2, cp1, cp2, op, bp⟩ := F4.out.form (i := p) (l := scaleR f x) (by rw [get_left (by omega)]; exact e2) (by rw [scaleR_len, HXL.out]; omega)
          obtain ⟨gb, cb, ub, gb1, gb2, cb1, cb2, ob, bb⟩ := F4.out.form (i := k + r) (l := b) (by rw [← EL, get_right]; exact e3) (by omega)
          obtain ⟨gs, cs, us', gs1, gs2, cs1, cs2, os, bs⟩ := F4.out.form (i := k + p) (l := scaleR f y) (by rw [← EL, get_right]; exact e4) (by rw [scaleR_len, HYL.out]; omega)
          rw [scaleR_len, HXL.out] at up cp1 op
          rw [scaleR_len, HYL.out] at us' cs1 os
          rw [l1] at ua ca1 oa
          rw [l3] at ub cb1 ob
          have KM := (K.out.trans K4.out).own HM.out ne_sl_u8
          have KR := (K.out.trans K4.out).own HR.out ne_sl_u8
          have h1 : wr.cell? ⟨bm, r, none⟩ = some (.slice (some ⟨ga, 0, none⟩) k ca) := own_at KM (by rw [get_left (by rw [HUL.out]; exact hlt4)] at ua; exact ua)
          have h2 : wr.cell? ⟨bm, p, none⟩ = some (.slice (some ⟨gp, 0, none⟩) k cp) := own_at KM (by rw [get_left (by rw [HUL.out]; exact hlt)] at up; exact up)
          have h3 : wr.cell? ⟨br, r, none⟩ = some (.slice (some ⟨gb, 0, none⟩) t cb) := own_at KR (by rw [← HUL.out, get_right] at ub; exact ub)
          have h4 : wr.cell? ⟨br, p, none⟩ = some (.slice (some ⟨gs, 0, none⟩) t cs) := own_at KR (by rw [← HUL.out, get_right] at us'; exact us')
          have bmw : bm < wr.heap.size := Nat.lt_of_lt_of_le bm1 K4.out.bel.size
          have brw : br < wr.heap.size := Nat.lt_of_lt_of_le br1 K4.out.bel.size
          obtain ⟨g0, hg0⟩ := get_some (show p < a.length by omega)
          have gc := ob_cell oa hg0
          have gl : g0 < 256 := ba.at_ hg0
          have GD : Hid (a.getD p 0 = g0) := Lib.hid (by rw [List.getD_eq_getElem?_getD, hg0]; rfl)
          have r1 : (0 : Int) ≤ (r : Int) := by omega
          have r2 : (r : Int) < (k : Int) := by omega
          have nap : gp ≠ ga := fun e => F4.out.ne_ up ua (by omega) e
          have nbs : gs ≠ gb := fun e => F4.out.ne_ us' ub (by omega) e
          have nab : gb ≠ ga := fun e => F4.out.ne_ ub ua (by omega) e
          have nas : gs ≠ ga := fun e => F4.out.ne_ us' ua (by omega) e
          have nra : br ≠ ga := own_nn KR oa ne_sl_u8
          have AC1 : Hid (Calls Try.prog 81 #[.slice (some ⟨ga, 0, none⟩) k ca, .slice (some ⟨gp, 0, none⟩) k cp, .int .u8 (g0 : Int)] wr.drew fun e w' => e = .returned (.tuple #[]) ∧ w'.ownsRow B 5 1 (.slice (some ⟨ga, 0, none⟩) k ca) k (bv (addR a (scaleR f x) g0)) ∧ wr.drew.grownBy w' (some ga)) := Lib.hid (by
           have := add_calls ga ca B a (some ⟨gp, 0, none⟩) cp B (scaleR f x) g0 wr.drew gl ba (by rw [scaleR_len, HXL.out, l1]; exact Nat.le_refl _) (by rw [l1]; exact oa.drew) (by rw [scaleR_len, HXL.out]; exact cp1) cp2 ((rba_own op bp).next (Below.refl _ _).drew) (fun b off hb _ => by cases hb; exact nap)
           rw [scaleR_len, HXL.out, l1] at this
           exact this)
          have AC2 : Hid (∀ W : World, W.ownsRow B 5 1 (.slice (some ⟨gb, 0, none⟩) t cb) t (bv b) → W.ownsRow B 5 1 (.slice (some ⟨gs, 0, none⟩) t cs) t (bv (scaleR f y)) → Calls Try.prog 81 #[.slice (some ⟨gb, 0, none⟩) t cb, .slice (some ⟨gs, 0, none⟩) t cs, .int .u8 (g0 : Int)] W fun e w' => e = .returned (.tuple #[]) ∧ w'.ownsRow B 5 1 (.slice (some ⟨gb, 0, none⟩) t cb) t (bv (addR b (scaleR f y) g0)) ∧ W.grownBy w' (some gb)) := Lib.hid (fun W k1 k2 => by
           have := add_calls gb cb B b (some ⟨gs, 0, none⟩) cs B (scaleR f y) g0 W gl bb (by rw [scaleR_len, HYL.out, l3]; exact Nat.le_refl _) (by rw [l3]; exact k1) (by rw [scaleR_len, HYL.out]; exact cs1) cs2 (rba_own k2 bs) (fun b off hb _ => by cases hb; exact nbs)
           rw [scaleR_len, HYL.out, l3] at this
           exact this)
          have UA := Lib.hid ua
          have UB := Lib.hid ub
          have OA := Lib.hid oa
          have OB' := Lib.hid ob
          have OS := Lib.hid os
          have BA := Lib.hid ba
          have BB := Lib.hid bb
          have L1 := Lib.hid l1
          have L3 := Lib.hid l3
          have N1 := Lib.hid nab
          have N2 := Lib.hid nas
          have N3 := Lib.hid nra
          have K4B : Hid (B ≤ wr.heap.size) := Lib.hid (Nat.le_trans hwB K4.out.bel.size)
          clear e1 e2 e3 e4 l1 l3 EL ua up ub us' oa op ob os ba bp bb bs KM KR hg0 hrp nap nbs nab nas nra
          go_wp2_with fail
          refine wp_region_still_tail 9 (by kernel_rfl) (by kernel_rfl) ?_
          simp only [List.take_succ_cons, List.take_zero, List.drop_succ_cons, List.drop_zero]
          repeat still_step
          refine wpStill_nil ?_
          go_wp2_with fail
          refine AC1.out.mono ?_
          rintro e w4 ⟨rfl, ho4, hg4⟩
          have G4 : Hid (wr.grownBy w4 (some ga)) := Lib.hid (gundrew hg4)
          have O4 := Lib.hid ho4
          have j3 : w4.cell? ⟨br, r, none⟩ = some (.slice (some ⟨gb, 0, none⟩) t cb) := by rw [← h3]; exact G4.out.cell_far _ brw (by simpa using N3.out)
          have j4 : w4.cell? ⟨br, p, none⟩ = some (.slice (some ⟨gs, 0, none⟩) t cs) := by rw [← h4]; exact G4.out.cell_far _ brw (by simpa using N3.out)
          have OB4 : Hid (w4.ownsRow B 5 1 (.slice (some ⟨gb, 0, none⟩) t cb) t (bv b)) := Lib.hid (OB'.out.kept G4.out (.inr (by simp [Value.ownBlock]; exact N1.out)))
          have OS4 : Hid (w4.ownsRow B 5 1 (.slice (some ⟨gs, 0, none⟩) t cs) t (bv (scaleR f y))) := Lib.hid (OS.out.kept G4.out (.inr (by simp [Value.ownBlock]; exact N2.out)))
          have br4 : br < w4.heap.size := Nat.lt_of_lt_of_le brw G4.out.size
          clear ho4 hg4 h1 h2 h3 h4 gc
          go_wp2_with fail
          refine wp_region_still_tail 9 (by kernel_rfl) (by kernel_rfl) ?_
          simp only [List.take_succ_cons, List.take_zero, List.drop_succ_cons, List.drop_zero]
          repeat still_step
          refine wpStill_nil ?_
          go_wp2_with fail
          refine (AC2.out _ OB4.out.drew OS4.out.drew).mono ?_
          rintro e w5 ⟨rfl, ho5, hg5⟩
          have G5 : Hid (w4.grownBy w5 (some gb)) := Lib.hid (gundrew hg5)
          have O5 := Lib.hid ho5
          clear ho5 hg5 j3 j4
          go_wp2_with fail
          refine ⟨⟨r + 1, by omega, by go_num, Lib.hid ?_, Lib.hid ?_⟩, by simp [intOf]; omega⟩
          ·have c1 := KU.grown G4.out OA.out K4B.out
           exact (K4.out.trans c1).trans (KU.grown G5.out OB4.out (Nat.le_trans K4B.out c1.bel.size))
          ·rw [ST.out, GD.out]
           have f1 := F4.out.write UA.out G4.out O4.out (by rw [addR_len, L1.out]) (addR_byt BA.out gl)
           exact f1.write UB.out G5.out O5.out (by rw [addR_len, L3.out]) (addR_byt BB.out gl)
        ·obtain rfl : r = k := by omega
         go_wp2_with fail
         refine ⟨⟨p + 1, by omega, by go_num, Lib.hid (K.out.trans K4.out), Lib.hid ?_⟩, by simp [intOf]; omega⟩
         rw [S1.out]; exact F4.out
  ·obtain rfl : p = n := by omega
   go_wp2_with fail
   go_end0
   exact ⟨rfl, F.out, K.out⟩
end Go.Proofs.Ytapehckcmmompaa
namespace Go.Proofs.Ytapehckcmmompaa
open Go.ChangeShapes Go.WideShapes Go.ChangeAt Go.RowKit Gf
set_option linter.unusedVariables false
set_option maxRecDepth 100000
def synTo (D : Nat) (m : List (List Nat)) (j : Nat) : Nat → List Nat
 | 0 => m.getD (D + j) []
 | i + 1 => addR (synTo D m j i) (m.getD i []) (fac D j i)
def syn (D : Nat) (m : List (List Nat)) (j : Nat) : List Nat := synTo D m j D
def choTo (D : Nat) (m : List (List Nat)) (g : Nat) : Nat → List Nat
 | 0 => []
 | k + 1 => if (choTo D m g k).length < g ∧ (m.getD (D + k) []).length ≠ 0 then choTo D m g k ++ [k] else choTo D m g k
def goneL (D : Nat) (m : List (List Nat)) : List Nat := lostL m D
def matM (D : Nat) (m : List (List Nat)) (cho : List Nat) : List (List Nat) := cho.map fun j => (goneL D m).map (fac D j)
def matR (D : Nat) (m : List (List Nat)) (cho : List Nat) : List (List Nat) := cho.map (syn D m)
def solR (D M : Nat) (m : List (List Nat)) : List (List Nat) := (gjTo (matM D m (choTo D m (goneL D m).length M)) (matR D m (choTo D m (goneL D m).length M)) (goneL D m).length).2
def dataL (D M : Nat) (m : List (List Nat)) : List (List Nat) := (List.range D).map fun i => if (m.getD i []).length = 0 then (solR D M m).getD (lostL m i).length [] else m.getD i []
theorem synTo_len (D : Nat) (m : List (List Nat)) (j i : Nat) : (synTo D m j i).length = (m.getD (D + j) []).length := by
 induction i with
 | zero => rfl
 | succ i ih => rw [synTo, addR_len, ih]
theorem synTo_byt {D : Nat} {m : List (List Nat)} {j : Nat} (hb : ∀ l ∈ m, Byt l) (hD : D ≤ 8) (hj : j < 4) (hlt : D + j < m.length) : ∀ i, i ≤ D → Byt (synTo D m j i)
 | 0, _ => by
  rw [synTo]
  obtain ⟨l, hl⟩ := get_some hlt
  rw [getD_of hl]; exact hb l (List.mem_of_getElem? hl)
 | i + 1, h => addR_byt (synTo_byt hb hD hj hlt i (by omega)) (fac_lt (by omega) (by omega))
theorem choTo_le (D : Nat) (m : List (List Nat)) (g k : Nat) : (choTo D m g k).length ≤ g ∧ (choTo D m g k).length ≤ k ∧ ∀ x ∈ choTo D m g k, x < k ∧ (m.getD (D + x) []).length ≠ 0 := by
 induction k with
 | zero => exact ⟨by simp [choTo], by simp [choTo], by simp [choTo]⟩
 | succ k ih =>
  simp only [choTo]
  split
  ·rename_i h
   refine ⟨by simp; omega, by simp; omega, fun x hx => ?_⟩
   rcases List.mem_append.1 hx with h1 | h1
   ·have := ih.2.2 x h1; exact ⟨by omega, this.2⟩
   ·simp at h1; subst h1; exact ⟨by omega, h.2⟩
  ·exact ⟨ih.1, by omega, fun x hx => ⟨by have := (ih.2.2 x hx).1; omega, (ih.2.2 x hx).2⟩⟩
theorem choTo_full {D : Nat} {m : List (List Nat)} {g k : Nat} (h : (choTo D m g k).length = g) : ∀ d, choTo D m g (k + d) = choTo D m g k
 | 0 => rfl
 | d + 1 => by
  rw [← Nat.add_assoc, choTo, choTo_full h d, if_neg (by omega)]
theorem cho_lost {D : Nat} {m : List (List Nat)} {g : Nat} : ∀ k, (choTo D m g k).length < g → D + k ≤ m.length → (choTo D m g k).length + lostN ((m.drop D).take k) = k
 | 0, _, _ => by simp [choTo, lostN]
 | k + 1, h, hl => by
  have hk : (m.drop D)[k]? = m[D + k]? := by rw [List.getElem?_drop]
  obtain ⟨l, e⟩ := get_some (show D + k < m.length by omega)
  rw [e] at hk
  rw [lostN_snoc hk]
  simp only [choTo] at h ⊢
  rw [getD_of e] at h ⊢
  by_cases c : (choTo D m g k).length < g ∧ l.length ≠ 0
  ·rw [if_pos c] at h ⊢
   have := cho_lost k c.1 (by omega)
   rw [if_neg c.2]; simp; omega
  ·rw [if_neg c] at h ⊢
   have := cho_lost k h (by omega)
   have h0 : l.length = 0 := by
    by_cases h0 : l.length = 0
    ·exact h0
    ·exact absurd ⟨h, h0⟩ c
   rw [if_pos h0]; omega
theorem lost_split (D : Nat) (m : List (List Nat)) : lostN m = lostN (m.take D) + lostN (m.drop D) := by
 rw [← lostN_append, List.take_append_drop]
theorem cho_enough {D M : Nat} {m : List (List Nat)} (hm : m.length = D + M) (h : lostN m ≤ M) : (choTo D m (goneL D m).length M).length = (goneL D m).length := by
 have hg : (goneL D m).length = lostN (m.take D) := lostL_count D (by omega)
 have h1 := (choTo_le D m (goneL D m).length M).1
 rcases Nat.lt_or_ge (choTo D m (goneL D m).length M).length (goneL D m).length with hlt | hge
 ·have := cho_lost M hlt (by omega)
  rw [List.take_of_length_le (by rw [List.length_drop]; omega)] at this
  have := lost_split D m
  omega
 ·omega
theorem lostL_more (m : List (List Nat)) (n : Nat) : lostL m (n + 1) = lostL m n ++ (if (m.getD n []).length = 0 then [n] else []) := by
 unfold lostL
 rw [List.range_succ, List.filter_append, List.filter_cons, List.filter_nil]; simp only [decide_eq_true_eq]
theorem lostL_rank {m : List (List Nat)} {k i : Nat} : ∀ n, (lostL m n)[k]? = some i → i < n ∧ (m.getD i []).length = 0 ∧ (lostL m i).length = k
 | 0, h => by simp [lostL] at h
 | n + 1, h => by
  rw [lostL_more] at h
  rcases Nat.lt_or_ge k (lostL m n).length with hk | hk
  ·rw [List.getElem?_append_left hk] at h
   have := lostL_rank n h
   exact ⟨by omega, this.2⟩
  ·rw [List.getElem?_append_right hk] at h
   have hlt := (List.getElem?_eq_some_iff.1 h).1
   by_cases h0 : (m.getD n []).length = 0
   ·rw [if_pos h0] at h hlt
    have hk0 : k - (lostL m n).length = 0 := by simp at hlt; omega
    rw [hk0] at h
    simp at h
    subst h
    exact ⟨by omega, h0, by omega⟩
   ·rw [if_neg h0] at hlt; simp at hlt
theorem lostL_mono (m : List (List Nat)) {a b : Nat} (h : a ≤ b) : (lostL m a).length ≤ (lostL m b).length := by
 induction b with
 | zero => rw [Nat.le_zero.1 h]; exact Nat.le_refl _
 | succ b ih =>
  rcases Nat.lt_or_ge a (b + 1) with h1 | h1
  ·have := ih (by omega)
   unfold lostL at this ⊢
   rw [List.range_succ, List.filter_append, List.length_append]; omega
  ·have : a = b + 1 := by omega
   subst this; exact Nat.le_refl _
theorem lostL_lt {m : List (List Nat)} {i n : Nat} (hi : i < n) (h0 : (m.getD i []).length = 0) : (lostL m i).length < (lostL m n).length := by
 have h1 : (lostL m (i + 1)).length = (lostL m i).length + 1 := by
  unfold lostL
  rw [List.range_succ, List.filter_append, List.length_append]
  rw [List.filter_cons, List.filter_nil]; simp only [h0, decide_true, if_true]; rfl
 have := lostL_mono m (show i + 1 ≤ n by omega)
 omega
theorem lostL_inj {m : List (List Nat)} {i j : Nat} (h0 : (m.getD i []).length = 0) (h1 : (m.getD j []).length = 0) (h : (lostL m i).length = (lostL m j).length) : i = j := by
 rcases Nat.lt_trichotomy i j with hl | he | hl
 ·have := lostL_lt hl h0; omega
 ·exact he
 ·have := lostL_lt hl h1; omega
theorem matM_len (D : Nat) (m : List (List Nat)) (cho : List Nat) : (matM D m cho).length = cho.length := by simp [matM]
theorem matR_len (D : Nat) (m : List (List Nat)) (cho : List Nat) : (matR D m cho).length = cho.length := by simp [matR]
theorem matM_snoc (D : Nat) (m : List (List Nat)) (cho : List Nat) (j : Nat) : matM D m (cho ++ [j]) = matM D m cho ++ [(goneL D m).map (fac D j)] := by simp [matM]
theorem matR_snoc (D : Nat) (m : List (List Nat)) (cho : List Nat) (j : Nat) : matR D m (cho ++ [j]) = matR D m cho ++ [syn D m j] := by simp [matR]
theorem matM_rows (D : Nat) (m : List (List Nat)) (cho : List Nat) : ∀ l ∈ matM D m cho, l.length = (goneL D m).length := fun l hl => by
 simp only [matM, List.mem_map] at hl
 obtain ⟨j, _, rfl⟩ := hl
 simp
theorem dataL_len (D M : Nat) (m : List (List Nat)) : (dataL D M m).length = D := by simp [dataL]
theorem dataL_at {D M i : Nat} {m : List (List Nat)} (hi : i < D) : (dataL D M m)[i]? = some (if (m.getD i []).length = 0 then (solR D M m).getD (lostL m i).length [] else m.getD i []) := by
 simp only [dataL, List.getElem?_map, List.getElem?_range hi, Option.map_some]
end Go.Proofs.Ytapehckcmmompaa
namespace Go.Proofs.Ytapehckcmmompaa
open Go.ChangeShapes Go.WideShapes Go.ChangeAt Go.RowKit Gf
set_option linter.unusedVariables false
set_option maxRecDepth 100000
attribute [local go_sem ↓] Go.wp_at_zero Go.wp_at_succ
theorem one_of_rb {B : Nat} {w : World} {us : List Value} {m : List (List Nat)} (hl : us.length = m.length) (h : ∀ (i : Nat) (u : Value) (l : List Nat), us[i]? = some u → m[i]? = some l → RB B w u l) : ∀ u ∈ us, u.oneCell' = true := fun u hu => by
 obtain ⟨i, hi, rfl⟩ := List.mem_iff_getElem.1 hu
 obtain ⟨l, hl'⟩ := get_some (show i < m.length by omega)
 obtain ⟨A, c, e, _⟩ := h i _ l (List.getElem?_eq_getElem hi) hl'
 rw [e]; rfl
theorem OMx.kept_other {B B0 : Nat} {W W' : World} {v v0 : Value} {us xs0 : List Value} {m : List (List Nat)} {n0 : Nat} (h : OMx B W v us m) (hg : W.grownBy W' v0.ownBlock) (ht : W.ownsRow B0 26 1 v0 n0 xs0) (hne : v.ownBlock = none ∨ v.ownBlock ≠ v0.ownBlock) : OMx B W' v us m :=
 ⟨h.top.kept hg hne, fun i u l hu hl => (h.row i u l hu hl).kept hg (own_own ht (h.row i u l hu hl) ne_sl_u8), h.byt, h.apart⟩
theorem OMx.old {B : Nat} {W0 : World} {v : Value} {us : List Value} {m : List (List Nat)} (h : OMx B W0 v us m) {i : Nat} {x : Value} (hx : us[i]? = some x) : ∀ g, x.ownBlock = some g → g < W0.heap.size := fun g hg => by
 obtain ⟨k, hk⟩ := get_some (show i < m.length by have := get_lt hx; rw [h.len] at this; exact this)
 exact ((h.row i x k hx hk).lt g hg).2
theorem old_new {x u : Value} {n : Nat} (hx : ∀ g, x.ownBlock = some g → g < n) (hu : ∀ g, u.ownBlock = some g → n ≤ g) : x.ownBlock = none ∨ x.ownBlock ≠ u.ownBlock := by
 cases e : x.ownBlock with
 | none => exact .inl rfl
 | some g =>
  refine .inr fun e' => ?_
  have := hx g e
  have := hu g e'.symm
  omega
theorem new_old {x u : Value} {n : Nat} (hx : ∀ g, x.ownBlock = some g → g < n) (hu : ∀ g, u.ownBlock = some g → n ≤ g) : u.ownBlock = none ∨ u.ownBlock ≠ x.ownBlock := by
 cases e : u.ownBlock with
 | none => exact .inl rfl
 | some g =>
  refine .inr fun e' => ?_
  have := hu g e
  have := hx g e'.symm
  omega
theorem OMx.push2 {B : Nat} {W W' : World} {v v' u : Value} {us : List Value} {m : List (List Nat)} {l : List Nat} (h : OMx B W v us m) (hu : OB B W u l) (hl : Byt l) (h1 : ∀ (i : Nat) (x : Value), us[i]? = some x → x.ownBlock = none ∨ x.ownBlock ≠ u.ownBlock) (h2 : ∀ (i : Nat) (x : Value), us[i]? = some x → u.ownBlock = none ∨ u.ownBlock ≠ x.ownBlock)
  (hown : W'.ownsRow B 26 1 v' (m.length + 1) (us ++ [u])) (hg : W.grownBy W' v.ownBlock) : OMx B W' v' (us ++ [u]) (m ++ [l]) := by
 have keep : ∀ {base : Nat} {x : Value} {k : List Nat}, OB base W x k → OB base W' x k := fun hx => hx.kept hg (own_own h.top hx (by decide))
 refine ⟨by simpa using hown, fun i x k hx hk => ?_, fun k hk => ?_, fun i j x x' hx hx' hij => ?_⟩
 ·rcases get_append_one hx with k1 | ⟨k1, rfl⟩
  ·rcases get_append_one hk with k2 | ⟨k2, rfl⟩
   ·exact keep (h.row i x k k1 k2)
   ·have := get_lt k1; rw [h.len] at this; omega
  ·rcases get_append_one hk with k2 | ⟨k2, rfl⟩
   ·have := get_lt k2; rw [h.len] at k1; omega
   ·exact keep hu
 ·rcases List.mem_append.1 hk with h1 | h1
  ·exact h.byt k h1
  ·simp at h1; subst h1; exact hl
 ·rcases get_append_one hx with k1 | ⟨k1, rfl⟩
  ·rcases get_append_one hx' with k2 | ⟨k2, rfl⟩
   ·exact h.apart i j x x' k1 k2 hij
   ·exact h1 i x k1
  ·rcases get_append_one hx' with k2 | ⟨k2, rfl⟩
   ·exact h2 j x' k2
   ·omega
def Cross (us vs : List Value) : Prop := ∀ (i j : Nat) (x y : Value), us[i]? = some x → vs[j]? = some y → (x.ownBlock = none ∨ x.ownBlock ≠ y.ownBlock) ∧ (y.ownBlock = none ∨ y.ownBlock ≠ x.ownBlock)
theorem Cross.fam {B : Nat} {w : World} {v v' : Value} {us vs : List Value} {m r : List (List Nat)} (h : OMx B w v us m) (k : OMx B w v' vs r) (hc : Cross us vs) : Fam B w (us ++ vs) (m ++ r) := by
 have hl := h.len
 have kl := k.len
 refine ⟨by simp; omega, fun i u l hu hm => ?_, fun l hm => ?_, fun i j u u' hu hu' hij => ?_⟩
 ·rcases Nat.lt_or_ge i us.length with h1 | h1
  ·rw [List.getElem?_append_left h1] at hu
   rw [List.getElem?_append_left (by omega)] at hm
   exact h.row i u l hu hm
  ·rw [List.getElem?_append_right h1] at hu
   rw [List.getElem?_append_right (by omega), ← hl] at hm
   exact k.row _ u l hu hm
 ·rcases List.mem_append.1 hm with h1 | h1
  ·exact h.byt l h1
  ·exact k.byt l h1
 ·rcases Nat.lt_or_ge i us.length with h1 | h1
  ·rw [List.getElem?_append_left h1] at hu
   rcases Nat.lt_or_ge j us.length with h2 | h2
   ·rw [List.getElem?_append_left h2] at hu'
    exact h.apart i j u u' hu hu' hij
   ·rw [List.getElem?_append_right h2] at hu'
    exact (hc i _ u u' hu hu').1
  ·rw [List.getElem?_append_right h1] at hu
   rcases Nat.lt_or_ge j us.length with h2 | h2
   ·rw [List.getElem?_append_left h2] at hu'
    exact (hc j _ u' u hu' hu).2
   ·rw [List.getElem?_append_right h2] at hu'
    exact k.apart _ _ u u' hu hu' (by omega)
theorem Cross.push {us vs : List Value} {u v : Value} (h : Cross us vs) (h1 : ∀ (i : Nat) (x : Value), us[i]? = some x → (x.ownBlock = none ∨ x.ownBlock ≠ v.ownBlock) ∧ (v.ownBlock = none ∨ v.ownBlock ≠ x.ownBlock))
  (h2 : ∀ (j : Nat) (y : Value), vs[j]? = some y → (u.ownBlock = none ∨ u.ownBlock ≠ y.ownBlock) ∧ (y.ownBlock = none ∨ y.ownBlock ≠ u.ownBlock)) (h3 : (u.ownBlock = none ∨ u.ownBlock ≠ v.ownBlock) ∧ (v.ownBlock = none ∨ v.ownBlock ≠ u.ownBlock)) : Cross (us ++ [u]) (vs ++ [v]) := fun i j x y hx hy => by
 rcases get_append_one hx with k1 | ⟨_, rfl⟩
 ·rcases get_append_one hy with k2 | ⟨_, rfl⟩
  ·exact h i j x y k1 k2
  ·exact h1 i x k1
 ·rcases get_append_one hy with k2 | ⟨_, rfl⟩
  ·exact h2 j y k2
  ·exact h3
theorem flip_ne {x y : Option Nat} (h : x = none ∨ x ≠ y) : y = none ∨ y ≠ x := by
 rcases h with h | h
 ·cases y with
  | none => exact .inl rfl
  | some b => exact .inr (by rw [h]; simp)
 ·exact .inr (fun e => h e.symm)
def hdK (D : Nat) (m : List (List Nat)) (vs hs : List Value) (k : Nat) : List Value := (List.range D).map fun i => if (m.getD i []).length = 0 ∧ (lostL m i).length < k then vs.getD (lostL m i).length (.slice none 0 0) else hs.getD i (.slice none 0 0)
theorem hdK_len (D : Nat) (m : List (List Nat)) (vs hs : List Value) (k : Nat) : (hdK D m vs hs k).length = D := by simp [hdK]
theorem hdK_at {D : Nat} {m : List (List Nat)} {vs hs : List Value} {k i : Nat} (hi : i < D) : (hdK D m vs hs k)[i]? = some (if (m.getD i []).length = 0 ∧ (lostL m i).length < k then vs.getD (lostL m i).length (.slice none 0 0) else hs.getD i (.slice none 0 0)) := by
 simp only [hdK, List.getElem?_map, List.getElem?_range hi, Option.map_some]
theorem hdK_zero {D : Nat} {m : List (List Nat)} {vs hs : List Value} (h : D ≤ hs.length) : hdK D m vs hs 0 = hs.take D := by
 apply List.ext_getElem?
 intro i
 rw [List.getElem?_take]
 by_cases hi : i < D
 ·rw [hdK_at hi, if_neg (by omega), if_pos hi]
  obtain ⟨x, hx⟩ := get_some (show i < hs.length by omega)
  rw [List.getD_eq_getElem?_getD, hx]; rfl
 ·rw [List.getElem?_eq_none (by rw [hdK_len]; omega), if_neg hi]
theorem hdK_succ {D : Nat} {m : List (List Nat)} {vs hs : List Value} {k x : Nat} {u : Value} (hx : (lostL m D)[k]? = some x) (hu : vs[k]? = some u) : hdK D m vs hs (k + 1) = (hdK D m vs hs k).set x u := by
 obtain ⟨x1, x2, x3⟩ := lostL_rank D hx
 apply List.ext_getElem?
 intro i
 rw [List.getElem?_set]
 by_cases hi : i < D
 ·rw [hdK_at hi, hdK_at hi]
  by_cases e : x = i
  ·subst e
   rw [if_pos rfl, if_pos ⟨x2, by omega⟩, x3, List.getD_eq_getElem?_getD, hu, if_pos (by rw [hdK_len]; exact hi)]; rfl
  ·rw [if_neg e]
   by_cases h0 : (m.getD i []).length = 0
   ·have hne : (lostL m i).length ≠ k := fun h => e (lostL_inj x2 h0 (by rw [x3, h]))
    by_cases h1 : (lostL m i).length < k
    ·rw [if_pos ⟨h0, by omega⟩, if_pos ⟨h0, h1⟩]
    ·rw [if_neg (by omega), if_neg (by omega)]
   ·rw [if_neg (fun h => h0 h.1), if_neg (fun h => h0 h.1)]
 ·rw [List.getElem?_eq_none (by rw [hdK_len]; omega)]
  by_cases e : x = i
  ·omega
  ·rw [if_neg e, List.getElem?_eq_none (by rw [hdK_len]; omega)]
theorem rowF_len (D j : Nat) (g : List Nat) : (g.map (fac D j)).length = g.length := by simp
theorem rowF_mix {D j t : Nat} {g : List Nat} (h : g.length = t) : mixK (fun i _ => fac D j (g.getD i 0)) (List.replicate t 0) t = g.map (fac D j) := by
 apply List.ext_getElem?
 intro i
 simp only [mixK, List.getElem?_map, List.length_replicate]
 by_cases hi : i < t
 ·rw [List.getElem?_range hi, Option.map_some, if_pos hi]
  obtain ⟨x, hx⟩ := get_some (show i < g.length by omega)
  rw [hx, List.getD_eq_getElem?_getD, hx]; rfl
 ·rw [List.getElem?_eq_none (by simpa using hi), List.getElem?_eq_none (by omega)]; rfl
set_option maxRecDepth 100000 in
set_option maxHeartbeats 4000000 in
theorem data_calls (A : Option Addr) (c B D M : Nat) (m : List (List Nat)) (w : World) (hn : m.length ≤ c) (hc : c ≤ 9223372036854775807) (hs : RMA B w A m) (hok : Ok D M m) (hlost : lostN m ≤ M) :
  Calls Try.prog 84 #[Sv D M (.slice A m.length c)] w fun e w' => ∃ v, e = .returned v ∧ RM 0 w' v (dataL D M m) ∧ Below w.heap.size w w' := by
 have hD1 := hok.d1
 have hD8 := hok.d8
 have hM4 := hok.m4
 have hml := hok.len
 have hq1 := hok.s1
 have hq2 := hok.s64
 have EACH := Lib.hid hok.each
 have CE := Lib.hid (cho_enough hml hlost)
 obtain ⟨hs0, hsl, hsh, hsr⟩ := hs
 have HS : Hid (RMA B w A m) := Lib.hid ⟨hs0, hsl, hsh, hsr⟩
 have HSR := Lib.hid hsr
 have HSL := Lib.hid hsl
 have HONE : Hid (∀ u ∈ hs0.take D, u.oneCell' = true) := Lib.hid (fun u hu => one_of_rb hsl hsr u (List.mem_of_mem_take hu))
 have HT : Hid (Hd 0 w A (hs0.take D)) := Lib.hid ((hsh.take_ D).mono (by omega))
 have HTL : Hid ((hs0.take D).length = D) := Lib.hid (by rw [List.length_take]; omega)
 obtain ⟨i0, hi0, hz0, hz1, hz2⟩ := info_parts sl_info
 have HI := Lib.hid (And.intro hi0 (And.intro hz0 (And.intro hz1 hz2)))
 obtain ⟨j0, hj0, hy0, hy1, hy2⟩ := info_parts int_info
 have HJ := Lib.hid (And.intro hj0 (And.intro hy0 (And.intro hy1 hy2)))
 clear hi0 hz0 hz1 hz2 hj0 hy0 hy1 hy2 hsh hsr hsl hok
 have HML := Lib.hid hml
 clear hml
 have hDc : D ≤ c := by have := HML.out; omega
 have hDm : D ≤ m.length := by have := HML.out; omega
 have d1 : (0 : Int) ≤ (D : Int) := by omega
 go_enter Try.func84, Try.ntmps84
 have SB0 : Hid ((w.alloc (.cells #[.int .i64 D, .int .i64 M, .slice A m.length c] 54)).heap[w.heap.size]? = some (.cells #[.int .i64 D, .int .i64 M, .slice A m.length c] 54)) := Lib.hid (blk_new w _)
 go_wp2_with (at_builtin; refine wpList_append_rd _ rfl (.const (.slice none 0 0)) (.tmp 22) _ rfl (w.heap.size + 1) 26 i0 _ 1 24 Try.underlying44 HI.out.1 HI.out.2.1 HI.out.2.2.1 HI.out.2.2.2 rfl (by omega) (.slice none 0 0) 0 [] rfl (World.ownsRow_nil _ _ _ _) A D c (hs0.take D) rfl ((HT.out.next (Bal (Below.refl _ _) _)).rd HTL.out) HONE.out (by simp only [maxLen]; omega) (by omega) (by simp) ?_; intro vb w1 hown1 hg1 hat1; simp only [Nat.zero_add, List.nil_append] at hown1; obtain ⟨Ab, cb, rfl, hb1, hb2, _⟩ := own_form hown1; have OB1 := Lib.hid hown1; have N1 : Hid (Below w.heap.size w w1) := Lib.hid ((Bal (Below.refl _ _) _).grown hg1 (by simp) (fun q hq => by cases hq)); have SB1 : Hid (w1.heap[w.heap.size]? = some (.cells #[.int .i64 D, .int .i64 M, .slice A m.length c] 54)) := Lib.hid (gblk hg1 SB0.out (by simp [Value.ownBlock])); clear hown1 hg1 hat1)
 clear SB0
 have AB : Hid (∃ bb, Ab = some ⟨bb, 0, none⟩) := Lib.hid (by
  rcases OB1.out.2 with ⟨_, h⟩ | ⟨g, cap, cur, h, _⟩
  ·omega
  ·simp only [Value.slice.injEq] at h; exact ⟨g, h.1⟩)
 obtain ⟨bb, rfl⟩ := AB.out
 have HROW : Hid (∀ (i : Nat) (l : List Nat), i < D → m[i]? = some l → ∃ Ai ci, hs0[i]? = some (.slice Ai l.length ci) ∧ l.length ≤ ci ∧ ci ≤ 9223372036854775807 ∧ RBA B w Ai l) := Lib.hid (fun i l hi hl => by
  obtain ⟨u, hu⟩ := get_some (show i < hs0.length by rw [HSL.out]; exact get_lt hl)
  obtain ⟨Ai, ci, e, k1, k2, k3⟩ := HSR.out i u l hu hl
  rw [e] at hu
  exact ⟨Ai, ci, hu, k1, k2, k3⟩)
 have BBL : Hid (bb < w1.heap.size ∧ w.heap.size + 1 ≤ bb) := Lib.hid (by have := OB1.out.lt bb rfl; exact ⟨this.2, this.1⟩)
 clear AB
 go_loopw [4, 26] (fun v i wr => ∃ k t : Nat, k ≤ D ∧ t ≤ k ∧ i = .int .i64 k ∧ Hid (Below w1.heap.size w1 wr) ∧ Hid ((lostL m k).length = t) ∧ Hid (wr.ownsRow w1.heap.size 3 1 v t (iv (lostL m k)))) (fun _ i _ => D - (intOf i).toNat)
 case atStart => exact ⟨0, 0, by omega, by omega, rfl, Lib.hid (Below.refl _ _), Lib.hid rfl, Lib.hid (World.ownsRow_nil _ _ _ _)⟩
 case round =>
  obtain ⟨k, t, hk, ht, rfl, N, T, O⟩ := hrel
  by_cases hlt : k < D
  ·obtain ⟨l, hl⟩ := get_some (show k < m.length by omega)
   obtain ⟨Ai, ci, hu, h2, h3, _⟩ := HROW.out k l hlt hl
   have h1 : wr.cell? ⟨bb, k, none⟩ = some (.slice Ai l.length ci) := own_at (own_next N.out OB1.out) (by rw [List.getElem?_take, if_pos hlt]; exact hu)
   have hb : bb < wr.heap.size := Nat.lt_of_lt_of_le BBL.out.1 N.out.size
   have HL := Lib.hid hl
   clear hl hu
   by_cases h0 : l.length = 0
   ·have q : ((l.length : Int) == 0) = true := by rw [h0]; rfl
    have H0 := Lib.hid h0
    clear h0
    go_wp2_with (at_builtin; refine wpList_append_rd _ rfl (.tmp 34) (.tmp 36) _ rfl w1.heap.size 3 j0 _ 1 8 Try.underlying59 HJ.out.1 HJ.out.2.1 HJ.out.2.2.1 HJ.out.2.2.2 rfl (by omega) _ t _ rfl (O.out.alloc _) (some ⟨wr.heap.size, 0, none⟩) 1 1 [.int .i64 (k : Int)] rfl (rd_one (t := 3) (blk_new _ _)) (int_one _ _) (by simp only [maxLen]; omega) (by omega) (by have q := N.out.size; simp; omega) ?_; intro v1 w2 hown1 hg1 hat1; have O1 := Lib.hid hown1; have N2 : Hid (Below w1.heap.size w1 w2) := Lib.hid (gbel hg1 (Bal N.out _) (fun g hg => (O.out.lt g hg).1)); clear hown1 hg1 hat1)
    refine ⟨⟨k + 1, t + 1, by omega, by omega, by go_num, N2, Lib.hid ?_, ?_⟩, by simp [intOf]; omega⟩
    ·rw [lostL_succ HL.out, if_pos H0.out, List.length_append, T.out]; rfl
    ·rw [lostL_succ HL.out, if_pos H0.out, iv_append]; exact O1
   ·have q : ((l.length : Int) == 0) = false := by rw [beq_eq_false_iff_ne]; omega
    have H0 := Lib.hid h0
    clear h0
    go_wp2_with fail
    refine ⟨⟨k + 1, t, by omega, by omega, by go_num, N, Lib.hid ?_, ?_⟩, by simp [intOf]; omega⟩
    ·rw [lostL_succ HL.out, if_neg H0.out, T.out]
    ·rw [lostL_succ HL.out, if_neg H0.out]; exact O
  ·obtain rfl : D = k := by omega
   have GT : Hid ((goneL D m).length = t) := T
   have GI : Hid (wr.ownsRow w1.heap.size 3 1 u4 t (iv (goneL D m))) := O
   obtain ⟨Ag, cg, hug, hg1, hg2, _⟩ := own_form GI.out
   subst hug
   obtain ⟨w2, rfl⟩ : ∃ w2 : World, w2 = wr := ⟨_, rfl⟩
   clear O hlt hk
   go_wp2_with fail
   have ht8 : t ≤ 8 := by omega
   go_loopw [7, 8, 9] (fun s7 s8 i wr => ∃ (j : Nat) (us vs : List Value), j ≤ M ∧ i = .int .i64 j ∧ Hid (Below w2.heap.size w2 wr) ∧ Hid (OMx w2.heap.size wr s7 us (matM D m (choTo D m t j))) ∧ Hid (OMx w2.heap.size wr s8 vs (matR D m (choTo D m t j))) ∧ Hid (Cross us vs) ∧ Hid (s7.ownBlock = none ∨ s7.ownBlock ≠ s8.ownBlock)) (fun _ _ i _ => M - (intOf i).toNat)
   case atStart => exact ⟨0, [], [], by omega, rfl, Lib.hid (Below.refl _ _), Lib.hid (OMx.nil _ _), Lib.hid (OMx.nil _ _), Lib.hid (fun i j x y hx => by simp at hx), Lib.hid (.inl rfl)⟩
   case round =>
    obtain ⟨j, us, vs, hj, rfl, N3, OM1, OM2, CR, HA⟩ := hrel
    obtain ⟨A7, c7, h7, h71, h72, _⟩ := own_form OM1.out.top
    obtain ⟨A8, c8, h8, h81, h82, _⟩ := own_form OM2.out.top
    rw [matM_len] at h7 h71
    rw [matR_len] at h8 h81
    subst h7 h8
    have CL := choTo_le D m t j
    obtain ⟨r, hr⟩ : ∃ r, (choTo D m t j).length = r := ⟨_, rfl⟩
    have hrt : r ≤ t := by rw [← hr]; exact CL.1
    have HR := Lib.hid hr
    rw [hr] at h71 h81
    simp only [HR.out]
    rw [hr] at OM1 OM2 HA
    clear hr CL
    have SB3 := Lib.hid (blk_next (Bgo N.out N3.out) SB1.out)
    have s0 : wr.cell? ⟨w.heap.size, 0, none⟩ = some (.int .i64 D) := blk_cell SB3.out 0 _ rfl
    have s1 : wr.cell? ⟨w.heap.size, 1, none⟩ = some (.int .i64 M) := blk_cell SB3.out 1 _ rfl
    have s2 : wr.cell? ⟨w.heap.size, 2, none⟩ = some (.slice A m.length c) := blk_cell SB3.out 2 _ rfl
    by_cases hgo : j < M ∧ r < t
    ·obtain ⟨hjM, hrt2⟩ := hgo
     have DJ : D + j < m.length := by rw [HML.out]; omega
     obtain ⟨l, hl⟩ := get_some DJ
     have NN : Hid (Below w.heap.size w wr) := Lib.hid (Bgo (Bgo N1.out N.out) N3.out)
     obtain ⟨b, off, Aj, cj, rfl, hb, h1, h2, h3, h4⟩ := (HS.out.next NN.out).at_ hl
     have c1 : wr.cell? ⟨b, off + (D + j), none⟩ = some (.slice Aj l.length cj) := h1
     have HL := Lib.hid hl
     have HB4 := Lib.hid h4
     have dj1 : (0 : Int) ≤ (D : Int) + (j : Int) := by omega
     have dj2 : (D : Int) + (j : Int) < (m.length : Int) := by omega
     have dj3 : ((D : Int) + (j : Int)).toNat = D + j := by omega
     clear hl h4 h1
     by_cases h0 : l.length = 0
     ·have q : ((l.length : Int) == 0) = true := by rw [h0]; rfl
      have E : Hid (choTo D m t (j + 1) = choTo D m t j) := Lib.hid (by rw [choTo, getD_of HL.out, if_neg (fun h => h.2 h0)])
      clear h0
      go_wp2_with fail
      refine ⟨⟨j + 1, us, vs, by omega, by go_num, N3, ?_, ?_, CR, HA⟩, by simp [intOf]; omega⟩
      ·rw [E.out]; exact OM1
      ·rw [E.out]; exact OM2
     ·have q : ((l.length : Int) == 0) = false := by rw [beq_eq_false_iff_ne]; omega
      have E : Hid (choTo D m t (j + 1) = choTo D m t j ++ [j]) := Lib.hid (by rw [choTo, getD_of HL.out, HR.out, if_pos ⟨hrt2, h0⟩])
      have LQ : Hid (l.length = szL m) := Lib.hid (by rcases EACH.out l (List.mem_of_getElem? HL.out) with h | h; exact absurd h h0; exact h)
      have hlq : l.length ≤ 64 := by rw [LQ.out]; exact hq2
      obtain ⟨W0, rfl⟩ : ∃ W0 : World, W0 = wr := ⟨_, rfl⟩
      have hl0 : 0 < l.length := by omega
      clear h0
      go_wp2_with fail
      refine (clone_calls Aj cj B l _ (by omega) HB4.out).mono ?_
      rintro e w3 ⟨u, rfl, hu, hb3⟩
      have UF : ∃ gs cs, u = .slice (some ⟨gs, 0, none⟩) l.length cs := by
       rcases hu.2 with ⟨_, h⟩ | ⟨g, cap, cur, h, _⟩
       ·omega
       ·exact ⟨g, cap, h⟩
      obtain ⟨gs, cs, rfl⟩ := UF
      have GSB : Hid (W0.heap.size ≤ gs ∧ gs < w3.heap.size) := Lib.hid (hu.lt gs rfl)
      have hcs : l.length ≤ cs ∧ cs ≤ 9223372036854775807 := by
       obtain ⟨A', c', e, k1, k2, _⟩ := own_form hu
       simp only [Value.slice.injEq, true_and] at e; rw [e.2]; exact ⟨k1, k2⟩
      have U3 : Hid (w3.ownsRow W0.heap.size 5 1 (.slice (some ⟨gs, 0, none⟩) l.length cs) l.length (bv (synTo D m j 0))) := Lib.hid (by rw [synTo, getD_of HL.out]; exact hu)
      have N4 : Hid (Below W0.heap.size W0 w3) := Lib.hid hb3
      clear hu hb3 s0 s1 s2 c1
      go_wp2_with fail
      go_loopw [73] (fun i wr => ∃ k : Nat, k ≤ D ∧ i = .int .i64 k ∧ Hid (Below W0.heap.size W0 wr) ∧ Hid (wr.ownsRow W0.heap.size 5 1 (.slice (some ⟨gs, 0, none⟩) l.length cs) l.length (bv (synTo D m j k)))) (fun i _ => D - (intOf i).toNat)
      case atStart => exact ⟨0, by omega, rfl, N4, U3⟩
      case round =>
       clear N4 U3
       obtain ⟨k, hk, rfl, N4, U3⟩ := hrel
       have SL : Hid ((synTo D m j k).length = l.length) := Lib.hid (by rw [synTo_len, getD_of HL.out])
       by_cases hlt2 : k < D
       ·obtain ⟨x, hx⟩ := get_some (show k < m.length by omega)
        obtain ⟨Ax, cx, hux, hx2, hx3, hx4⟩ := HROW.out k x hlt2 hx
        have NB : Hid (Below w1.heap.size w1 wr) := Lib.hid (Bgo (Bgo N.out N3.out) N4.out)
        have e1 : wr.cell? ⟨bb, k, none⟩ = some (.slice Ax x.length cx) := own_at (own_next NB.out OB1.out) (by rw [List.getElem?_take, if_pos hlt2]; exact hux)
        have hbw : bb < wr.heap.size := Nat.lt_of_lt_of_le BBL.out.1 NB.out.size
        have s0 : wr.cell? ⟨w.heap.size, 0, none⟩ = some (.int .i64 D) := blk_cell (blk_next NB.out SB1.out) 0 _ rfl
        have xq : x.length ≤ l.length := by
         rcases EACH.out x (List.mem_of_getElem? hx) with h | h
         ·omega
         ·rw [h, LQ.out]; exact Nat.le_refl _
        have AC : Hid (Calls Try.prog 81 #[.slice (some ⟨gs, 0, none⟩) l.length cs, .slice Ax x.length cx, .int .u8 (fac D j k : Nat)] wr fun e w' => e = .returned (.tuple #[]) ∧ w'.ownsRow W0.heap.size 5 1 (.slice (some ⟨gs, 0, none⟩) l.length cs) l.length (bv (synTo D m j (k + 1))) ∧ wr.grownBy w' (some gs)) := Lib.hid (by
         have := add_calls gs cs W0.heap.size (synTo D m j k) Ax cx B x (fac D j k) wr (fac_lt (by omega) (by omega)) (synTo_byt HS.out.byt hD8 (by omega) DJ k (by omega)) (by rw [SL.out]; exact xq) (by rw [SL.out]; exact U3.out) hx2 hx3 (hx4.next (Bgo NN.out N4.out)) (hx4.ne_ (Nat.le_trans NN.out.size GSB.out.1))
         rw [SL.out] at this
         rw [synTo, getD_of hx]
         exact this)
        clear hx hux hx4
        go_wp2_with fail
        refine (factor_calls D j k _ (by omega) (by omega)).mono ?_
        rintro e w' ⟨rfl, rfl⟩
        go_wp2_with fail
        refine AC.out.mono ?_
        rintro e w4 ⟨rfl, ho4, hg4⟩
        have S4 := Lib.hid ho4
        have N5 : Hid (Below W0.heap.size W0 w4) := Lib.hid (gbel hg4 N4.out (fun k hk => by cases hk; exact GSB.out.1))
        clear ho4 hg4
        go_wp2_with fail
        exact ⟨⟨k + 1, by omega, by go_num, N5, S4⟩, by simp [intOf]; omega⟩
       ·obtain rfl : D = k := by omega
        have mk := fun W => make_row W t (by omega)
        have TG : Hid ((goneL D m).length = t) := GT
        obtain ⟨w5, rfl⟩ : ∃ w5 : World, w5 = wr := ⟨_, rfl⟩
        clear hlt2 hk
        go_wp2_with fail
        clear mk
        have S0 : Hid ((w5.alloc (.cells (madeCells #[.int .u8 0] t) 5)).ownsRow w5.heap.size 5 1 (.slice (some ⟨w5.heap.size, 0, none⟩) t t) t (bv (mixK (fun i _ => fac D j ((goneL D m).getD i 0)) (List.replicate t 0) 0))) := Lib.hid (by rw [mixK_zero]; exact made_own w5 t (by omega))
        go_loopw [92] (fun i wr => ∃ k : Nat, k ≤ t ∧ i = .int .i64 k ∧ Hid (Below w5.heap.size w5 wr) ∧ Hid (wr.ownsRow w5.heap.size 5 1 (.slice (some ⟨w5.heap.size, 0, none⟩) t t) t (bv (mixK (fun i _ => fac D j ((goneL D m).getD i 0)) (List.replicate t 0) k)))) (fun i _ => t - (intOf i).toNat)
        case atStart => exact ⟨0, by omega, rfl, Lib.hid (Bal (Below.refl _ _) _), S0⟩
        case round =>
         clear S0
         obtain ⟨k, hk, rfl, N6, U6⟩ := hrel
         have NB : Hid (Below w2.heap.size w2 wr) := Lib.hid (Bgo (Bgo N3.out N4.out) N6.out)
         by_cases hlt3 : k < t
         ·obtain ⟨x, hx⟩ := get_some (show k < (goneL D m).length by rw [TG.out]; exact hlt3)
          obtain ⟨xl, _, _⟩ := lostL_rank D hx
          obtain ⟨bg, rfl, e1, hbg, _⟩ := own_cell (own_next NB.out GI.out) (iv_get hx)
          have s0 : wr.cell? ⟨w.heap.size, 0, none⟩ = some (.int .i64 D) := blk_cell (blk_next (Bgo N.out NB.out) SB1.out) 0 _ rfl
          obtain ⟨z, hz⟩ := get_some (show k < (List.replicate t 0).length by simpa using hlt3)
          have zc := ob_cell U6.out (mixK_at hz)
          have zf : wr.frozen? ⟨w5.heap.size, k, none⟩ = false := U6.out.frozenAt k
          have HZ := Lib.hid hz
          have HX : Hid ((goneL D m).getD k 0 = x) := Lib.hid (by rw [List.getD_eq_getElem?_getD, hx]; rfl)
          have k1 : (0 : Int) ≤ (k : Int) := by omega
          have k2 : (k : Int) < (t : Int) := by omega
          clear hx hz
          go_wp2_with fail
          refine (factor_calls D j x _ (by omega) (by omega)).mono ?_
          rintro e w' ⟨rfl, rfl⟩
          go_wp2_with fail
          have st := U6.out.stored k (.int .u8 ((fac D j x : Nat) : Int))
          refine ⟨⟨k + 1, by omega, by go_num, Lib.hid ?_, Lib.hid ?_⟩, by simp [intOf]; omega⟩
          ·exact gbel st.2 N6.out (fun k hk => by cases hk; exact Nat.le_refl _)
          ·rw [mixK_succ HZ.out, ← bv_set, HX.out]
           exact st.1
         ·obtain rfl : t = k := by omega
          have U7 : Hid (OB w5.heap.size wr (.slice (some ⟨w5.heap.size, 0, none⟩) t t) ((goneL D m).map (fac D j))) := Lib.hid (by
           have := U6.out
           rw [rowF_mix TG.out] at this
           unfold OB
           rw [rowF_len, TG.out]; exact this)
          have SU : Hid (OB W0.heap.size wr (.slice (some ⟨gs, 0, none⟩) l.length cs) (syn D m j)) := Lib.hid (by
           have := own_next N6.out U3.out
           unfold OB
           rw [show (syn D m j).length = l.length from SL.out]; exact this)
          have NW : Hid (Below W0.heap.size W0 wr) := Lib.hid (Bgo N4.out N6.out)
          have T7 : Hid (wr.ownsRow w2.heap.size 26 1 (.slice A7 r c7) r us) := Lib.hid (by have := own_next NW.out OM1.out.top; rw [matM_len, HR.out] at this; exact this)
          have T8 : Hid (wr.ownsRow w2.heap.size 26 1 (.slice A8 r c8) r vs) := Lib.hid (by have := own_next NW.out OM2.out.top; rw [matR_len, HR.out] at this; exact this)
          have HW2 : Hid (w2.heap.size ≤ W0.heap.size ∧ W0.heap.size ≤ w5.heap.size ∧ w5.heap.size ≤ wr.heap.size) := Lib.hid ⟨N3.out.size, N4.out.size, N6.out.size⟩
          have GS5 : Hid (gs < w5.heap.size) := Lib.hid ((U3.out.lt gs rfl).2)
          clear U6 hlt3 hk
          go_wp2_with (first
           | (at_builtin; refine wpList_append_rd _ rfl (.tmp 106) (.tmp 108) _ rfl w2.heap.size 26 i0 _ 1 24 Try.underlying44 HI.out.1 HI.out.2.1 HI.out.2.2.1 HI.out.2.2.2 rfl (by omega) (.slice A7 r c7) r us rfl (T7.out.alloc _) (some ⟨wr.heap.size, 0, none⟩) 1 1 [.slice (some ⟨w5.heap.size, 0, none⟩) t t] rfl (rd_one (t := 26) (blk_new _ _)) (slice_one _ _ _) (by simp only [maxLen]; omega) (by omega) (by have q := HW2.out; simp; omega) ?_; intro v7 w7 ho7 hg7 ha7; obtain ⟨A7', c7', rfl, g71, g72, _⟩ := own_form ho7; have O7 := Lib.hid ho7; have G7 := Lib.hid hg7; have H7 := Lib.hid ha7; have T8' : Hid (w7.ownsRow w2.heap.size 26 1 (.slice A8 r c8) r vs) := Lib.hid ((T8.out.alloc _).kept hg7 (flip_ne HA.out)); clear ho7 hg7 ha7)
           | (at_builtin; refine wpList_append_rd _ rfl (.tmp 110) (.tmp 112) _ rfl w2.heap.size 26 i0 _ 1 24 Try.underlying44 HI.out.1 HI.out.2.1 HI.out.2.2.1 HI.out.2.2.2 rfl (by omega) (.slice A8 r c8) r vs rfl (T8'.out.alloc _) (some ⟨w7.heap.size, 0, none⟩) 1 1 [.slice (some ⟨gs, 0, none⟩) l.length cs] rfl (rd_one (t := 26) (blk_new _ _)) (slice_one _ _ _) (by simp only [maxLen]; omega) (by omega) (by have q := HW2.out; have q2 := G7.out.size; simp at q2; simp; omega) ?_; intro v8 w8 ho8 hg8 ha8; obtain ⟨A8', c8', rfl, g81, g82, _⟩ := own_form ho8; have O8 := Lib.hid ho8; have G8 := Lib.hid hg8; have H8 := Lib.hid ha8; clear ho8 hg8 ha8))
          have M7 := Lib.hid (OM1.out.next (Bal NW.out (.cells #[.slice (some ⟨w5.heap.size, 0, none⟩) t t] 26)))
          have M8 := Lib.hid (OM2.out.next (Bal NW.out (.cells #[.slice (some ⟨w5.heap.size, 0, none⟩) t t] 26)))
          have b1 : ∀ g, (Value.slice (some ⟨w5.heap.size, 0, none⟩) t t).ownBlock = some g → W0.heap.size ≤ g := fun g hg => by cases hg; exact HW2.out.2.1
          have b2 : ∀ g, (Value.slice (some ⟨gs, 0, none⟩) l.length cs).ownBlock = some g → W0.heap.size ≤ g := fun g hg => by cases hg; exact GSB.out.1
          have P7 : OMx w2.heap.size w7 (.slice A7' (r + 1) c7') (us ++ [.slice (some ⟨w5.heap.size, 0, none⟩) t t]) (matM D m (choTo D m t (j + 1))) := by
           rw [E.out, matM_snoc]
           exact OMx.push2 M7.out (own_mono (U7.out.alloc _) (by have := HW2.out; omega)) (fun z hz => by
            simp only [List.mem_map] at hz
            obtain ⟨x, hx, rfl⟩ := hz
            obtain ⟨i, hi, rfl⟩ := List.mem_iff_getElem.1 hx
            have := (lostL_rank D (List.getElem?_eq_getElem hi)).1
            exact fac_lt (by omega) (by omega)) (fun i x hx => old_new (OM1.out.old hx) b1) (fun i x hx => new_old (OM1.out.old hx) b1) (by rw [matM_len, HR.out]; exact O7.out) G7.out
          have P8 : OMx w2.heap.size w8 (.slice A8' (r + 1) c8') (vs ++ [.slice (some ⟨gs, 0, none⟩) l.length cs]) (matR D m (choTo D m t (j + 1))) := by
           rw [E.out, matR_snoc]
           have q1 := (M8.out.kept_other G7.out (T7.out.alloc _) (flip_ne HA.out)).next (Bal (Below.refl _ _) (.cells #[.slice (some ⟨gs, 0, none⟩) l.length cs] 26))
           have q2 : OB W0.heap.size w7 (.slice (some ⟨gs, 0, none⟩) l.length cs) (syn D m j) := (SU.out.alloc _).kept G7.out (own_own T7.out SU.out ne_sl_u8)
           exact OMx.push2 q1 (own_mono (q2.alloc _) HW2.out.1) (synTo_byt HS.out.byt hD8 (by omega) DJ D (Nat.le_refl _)) (fun i x hx => old_new (OM2.out.old hx) b2) (fun i x hx => new_old (OM2.out.old hx) b2) (by rw [matR_len, HR.out]; exact O8.out) G8.out
          have lt7 := P7.top.lt
          have HA2 : (Value.slice A7' (r + 1) c7').ownBlock = none ∨ (Value.slice A7' (r + 1) c7').ownBlock ≠ (Value.slice A8 r c8).ownBlock := by
           rcases H7.out with h | h
           ·have h' : (Value.slice A7' (r + 1) c7').ownBlock = (Value.slice A7 r c7).ownBlock := h
            rw [h']; exact HA.out
           ·have h' : (Value.slice A7' (r + 1) c7').ownBlock = some (wr.heap.size + 1) := by rw [h]; simp
            refine .inr (fun e => ?_)
            rw [h'] at e
            have := (T8.out.lt _ e.symm).2
            omega
          have P7' := (P7.next (Bal (Below.refl _ _) (.cells #[.slice (some ⟨gs, 0, none⟩) l.length cs] 26))).kept_other G8.out (T8'.out.alloc _) HA2
          refine ⟨⟨j + 1, us ++ [.slice (some ⟨w5.heap.size, 0, none⟩) t t], vs ++ [.slice (some ⟨gs, 0, none⟩) l.length cs], by omega, by go_num, Lib.hid ?_, Lib.hid P7', Lib.hid P8, Lib.hid ?_, Lib.hid ?_⟩, by simp [intOf]; omega⟩
          ·have z1 : Below w2.heap.size w2 w7 := gbel G7.out (Bal (Bgo N3.out NW.out) _) (fun g hg => (T7.out.lt g hg).1)
           exact gbel G8.out (Bal z1 _) (fun g hg => (T8'.out.lt g hg).1)
          ·refine CR.out.push (fun i x hx => ⟨old_new (OM1.out.old hx) b2, new_old (OM1.out.old hx) b2⟩) (fun i y hy => ⟨new_old (OM2.out.old hy) b1, old_new (OM2.out.old hy) b1⟩) ⟨.inr ?_, .inr ?_⟩
           ·have := GS5.out; simp [Value.ownBlock]; omega
           ·have := GS5.out; simp [Value.ownBlock]; omega
          ·rcases H8.out with h | h
           ·have h' : (Value.slice A8' (r + 1) c8').ownBlock = (Value.slice A8 r c8).ownBlock := h
            rw [h']; exact HA2
           ·have h' : (Value.slice A8' (r + 1) c8').ownBlock = some (w7.heap.size + 1) := by rw [h]; simp
            cases e : (Value.slice A7' (r + 1) c7').ownBlock with
            | none => exact .inl rfl
            | some g =>
             refine .inr (fun e' => ?_)
             rw [h'] at e'
             have := (lt7 g e).2
             injection e' with e'
             omega
    ·have CE2 : (choTo D m t M).length = t := by have := CE.out; rw [GT.out] at this; exact this
     have CF : choTo D m t j = choTo D m t M ∧ r = t := by
      by_cases hjM : j < M
      ·have hr0 : r = t := by omega
       have hh : (choTo D m t j).length = t := by rw [HR.out]; exact hr0
       have := choTo_full hh (M - j)
       rw [show j + (M - j) = M by omega] at this
       exact ⟨this.symm, hr0⟩
      ·have : j = M := by omega
       subst this
       exact ⟨rfl, by rw [← HR.out]; exact CE2⟩
     obtain ⟨CF1, CF2⟩ := CF
     subst CF2
     have CF := Lib.hid CF1
     have SR : Hid (solR D M m = (gjTo (matM D m (choTo D m r M)) (matR D m (choTo D m r M)) r).2) := Lib.hid (by unfold solR; rw [GT.out])
     rw [CF1] at OM1 OM2
     have ML : (matM D m (choTo D m r M)).length = r := by rw [matM_len, CE2]
     have RL : (matR D m (choTo D m r M)).length = r := by rw [matR_len, CE2]
     have MR : ∀ l ∈ matM D m (choTo D m r M), l.length = r := fun l hl => by rw [matM_rows D m _ l hl, GT.out]
     have RR : ∀ l ∈ matR D m (choTo D m r M), l.length = szL m := fun l hl => by
      simp only [matR, List.mem_map] at hl
      obtain ⟨x, hx, rfl⟩ := hl
      obtain ⟨x1, x2⟩ := (choTo_le D m r M).2.2 x hx
      unfold syn
      rw [synTo_len]
      obtain ⟨z, hz⟩ := get_some (show D + x < m.length by rw [HML.out]; omega)
      rw [getD_of hz] at x2 ⊢
      rcases EACH.out z (List.mem_of_getElem? hz) with h | h
      ·exact absurd h x2
      ·exact h
     have GRW := Lib.hid (gjTo_rows MR RR (by rw [ML, RL]) r (by rw [ML]; exact Nat.le_refl _))
     have GLN := Lib.hid (gjTo_len (matM D m (choTo D m r M)) (matR D m (choTo D m r M)) r)
     have T7 : wr.ownsRow w2.heap.size 26 1 (.slice A7 r c7) r us := by have := OM1.out.top; rw [ML] at this; exact this
     have T8 : wr.ownsRow w2.heap.size 26 1 (.slice A8 r c8) r vs := by have := OM2.out.top; rw [RL] at this; exact this
     have SC := Lib.hid (solve_calls A7 A8 c7 c8 w2.heap.size r (szL m) us vs (matM D m (choTo D m r M)) (matR D m (choTo D m r M)) wr ML RL hq1 (by omega) (by omega) MR RR T7 T8 (Cross.fam OM1.out OM2.out CR.out) N3.out.size)
     have TT8 := Lib.hid T8
     rw [RL] at GLN
     generalize (gjTo (matM D m (choTo D m r M)) (matR D m (choTo D m r M)) r).1 = G1 at *
     generalize (gjTo (matM D m (choTo D m r M)) (matR D m (choTo D m r M)) r).2 = G2 at *
     have ULR : Hid (us.length = r) := Lib.hid (by have := T7.1; omega)
     have G1L : Hid (G1.length = r) := Lib.hid (by rw [GLN.out.1, ML])
     have hjc : (j < M) ∨ (j = M) := by omega
     clear CF1 CE2 ML RL MR RR T7 T8 hgo
     have WK : Hid (∀ w3 : World, Fam w2.heap.size w3 (us ++ vs) (G1 ++ G2) → KU w2.heap.size wr w3 → Hid (Below w.heap.size w w3) ∧ Hid (w3.ownsRow (w.heap.size + 1) 26 1 (.slice (some ⟨bb, 0, none⟩) D cb) D (hdK D m vs hs0 0)) ∧ Hid (w3.ownsRow w1.heap.size 3 1 (.slice Ag r cg) r (iv (goneL D m))) ∧ Hid (w3.ownsRow w2.heap.size 26 1 (.slice A8 r c8) r vs) ∧ bb < w3.heap.size) := Lib.hid (fun w3 hf hk => by
      have B3 : Below w2.heap.size w2 w3 := N3.out.trans hk.bel
      have BB3 : Below w1.heap.size w1 w3 := Bgo N.out B3
      exact ⟨Lib.hid (Bgo N1.out BB3), Lib.hid (by rw [hdK_zero (by rw [HSL.out]; exact hDm)]; exact own_next BB3 OB1.out), Lib.hid (own_next B3 GI.out), Lib.hid (hk.own TT8.out ne_sl_u8), Nat.lt_of_lt_of_le BBL.out.1 BB3.size⟩)
     rcases hjc with hjM | hjM
     all_goals
      go_wp2_with fail
      refine SC.out.mono ?_
      rintro e w3 ⟨rfl, hf3, hk3⟩
      obtain ⟨NB, OHD, OGI, OV8, hbb3⟩ := WK.out w3 hf3 hk3
      have F3 := Lib.hid hf3
      clear hf3 hk3 s0 s1 s2
      go_wp2_with fail
      go_loopw [119] (fun i wr => ∃ k : Nat, k ≤ r ∧ i = .int .i64 k ∧ Hid (w3.grownBy wr (some bb)) ∧ Hid (wr.ownsRow (w.heap.size + 1) 26 1 (.slice (some ⟨bb, 0, none⟩) D cb) D (hdK D m vs hs0 k))) (fun i _ => r - (intOf i).toNat)
      case atStart => exact ⟨0, by omega, rfl, Lib.hid (World.grownBy.refl _ _), OHD⟩
      case round =>
       clear OHD
       obtain ⟨k, hk, rfl, G, OHD⟩ := hrel
       by_cases hlt : k < r
       ·obtain ⟨x, hx⟩ := get_some (show k < (goneL D m).length by rw [GT.out]; exact hlt)
        obtain ⟨xl, xl2, xl3⟩ := lostL_rank D hx
        obtain ⟨y, hy⟩ := get_some (show k < G2.length by rw [GLN.out.2]; exact hlt)
        have yq : y.length = szL m := GRW.out.2 y (List.mem_of_getElem? hy)
        obtain ⟨gy, cy, uy, _, gy2, cy1, cy2, _, _⟩ := F3.out.form (i := r + k) (l := y) (by rw [← G1L.out, get_right]; exact hy) (by omega)
        rw [← ULR.out, get_right] at uy
        obtain ⟨b8, rfl, e8, hb8, hb8'⟩ := own_cell OV8.out uy
        obtain ⟨bg, rfl, eg, hbg, hbg'⟩ := own_cell OGI.out (iv_get hx)
        have n8 : b8 ≠ bb := by have := BBL.out.1; have := N.out.size; omega
        have ng : bg ≠ bb := by have := BBL.out.1; omega
        have e8' : wr.cell? ⟨b8, k, none⟩ = some (.slice (some ⟨gy, 0, none⟩) y.length cy) := by rw [← e8]; exact G.out.cell_far _ hb8 (by simpa using n8)
        have eg' : wr.cell? ⟨bg, k, none⟩ = some (.int .i64 (x : Int)) := by rw [← eg]; exact G.out.cell_far _ hbg (by simpa using ng)
        obtain ⟨u0, hu0⟩ := get_some (show x < (hdK D m vs hs0 k).length by rw [hdK_len]; exact xl)
        have c9 : wr.cell? ⟨bb, x, none⟩ = some u0 := own_at OHD.out hu0
        have f9 : wr.frozen? ⟨bb, x, none⟩ = false := OHD.out.frozenAt x
        have HX := Lib.hid hx
        have UY := Lib.hid uy
        have x1 : (0 : Int) ≤ (x : Int) := by omega
        have x2 : (x : Int) < (D : Int) := by omega
        clear hx hy uy hu0 e8 eg xl2 xl3 yq
        go_wp2_with fail
        have st := OHD.out.stored x (.slice (some ⟨gy, 0, none⟩) y.length cy)
        refine ⟨⟨k + 1, by omega, by go_num, Lib.hid ?_, Lib.hid ?_⟩, by simp [intOf]; omega⟩
        ·exact G.out.trans st.2
        ·rw [hdK_succ HX.out UY.out]; exact st.1
       ·obtain rfl : r = k := by omega
        go_wp2_with fail
        go_ret
        have NW : Below w.heap.size w wr := NB.out.grown G.out NB.out.size (fun g hg => by cases hg; have := BBL.out.2; omega)
        refine ⟨_, rfl, ⟨_, cb, by rw [dataL_len]; rfl, by rw [dataL_len]; exact hb1, hb2, hdK D m vs hs0 r, by rw [hdK_len, dataL_len], (Hd.of_own OHD.out).mono (by omega), fun i u l hu hl => ?_⟩, NW⟩
        have hi : i < D := by have := get_lt hl; rw [dataL_len] at this; exact this
        rw [hdK_at hi] at hu
        rw [dataL_at hi] at hl
        injection hu with hu
        injection hl with hl
        obtain ⟨z, hz⟩ := get_some (show i < m.length by omega)
        rw [getD_of hz] at hu hl
        by_cases h0 : z.length = 0
        ·have hrk : (lostL m i).length < r := by
          have := lostL_lt (m := m) hi (by rw [getD_of hz]; exact h0)
          rw [show (lostL m D).length = r from GT.out] at this
          exact this
         rw [if_pos ⟨h0, hrk⟩] at hu
         rw [if_pos h0, SR.out] at hl
         obtain ⟨y, hy⟩ := get_some (show (lostL m i).length < G2.length by rw [GLN.out.2]; exact hrk)
         rw [getD_of hy] at hl
         have yq : y.length = szL m := GRW.out.2 y (List.mem_of_getElem? hy)
         obtain ⟨gy, cy, uy, gy1, gy2, cy1, cy2, oy, by'⟩ := F3.out.form (i := r + (lostL m i).length) (l := y) (by rw [← G1L.out, get_right]; exact hy) (by omega)
         rw [← ULR.out, get_right] at uy
         rw [List.getD_eq_getElem?_getD, uy] at hu
         have hu' : Value.slice (some ⟨gy, 0, none⟩) y.length cy = u := hu
         rw [← hu', ← hl]
         have ok := oy.kept G.out (.inr (by simp [Value.ownBlock]; have := BBL.out.1; have := N.out.size; omega))
         exact ⟨_, cy, rfl, cy1, cy2, (rba_own ok by').mono (by omega)⟩
        ·rw [if_neg (fun h => h0 h.1)] at hu
         rw [if_neg h0] at hl
         obtain ⟨Ai, ci, hui, k1, k2, k3⟩ := HROW.out i z hi hz
         rw [List.getD_eq_getElem?_getD, hui] at hu
         have hu' : Value.slice Ai z.length ci = u := hu
         rw [← hu', ← hl]
         exact ⟨Ai, ci, rfl, k1, k2, (k3.next NW).mono (by omega)⟩
end Go.Proofs.Ytapehckcmmompaa
