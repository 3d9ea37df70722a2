/- Contracts of layer 45: elimination of the program. -/
import Derived.Test.YtmpmeeacdllomaaPad
namespace Go.Proofs.Ytmpmeeacdllomaa
open Go.ChangeShapes Go.WideShapes Go.ChangeAt Go.RowKit Gf
set_option linter.unusedVariables false
attribute [local go_sem ↓] Go.wp_at_zero Go.wp_at_succ

theorem own_cell {w : World} {B : Nat} {e : TypeId} {A : Option Addr} {n cap i : Nat} {us : List Value} {u : Value} (h : w.ownsRow B e 1 (.slice A n cap) n us) (hu : us[i]? = some u) : ∃ b, A = some ⟨b, 0, none⟩ ∧ w.cell? ⟨b, i, none⟩ = some u ∧ b < w.heap.size ∧ B ≤ b := by
  have hl : i < n := by have := get_lt hu; have h1 := h.1; omega
  rcases h.2 with ⟨h', _⟩ | ⟨g, cap', cur, h', hb, hg, _⟩
  · simp only [Value.slice.injEq] at h'; omega
  · have h0 := h
    simp only [Value.slice.injEq, true_and] at h'
    rw [h'.1] at h0 ⊢
    exact ⟨g, rfl, (h0.cellAt i (by omega)).trans hu, blk_lt hg, hb⟩
theorem ob_cell {w : World} {B g n cap k x : Nat} {l : List Nat} (h : w.ownsRow B 5 1 (.slice (some ⟨g, 0, none⟩) n cap) n (bv l)) (hx : l[k]? = some x) : w.cell? ⟨g, k, none⟩ = some (.int .u8 (x : Int)) := by
  have hl : k < n := by have := get_lt hx; have h1 := h.1; rw [bv_len] at h1; omega
  rw [h.cellAt k (by omega)]; exact bv_get hx
theorem own_nn {w : World} {B B' b g n n' cap cap' : Nat} {e e' : TypeId} {xs ys : List Value} (h : w.ownsRow B e 1 (.slice (some ⟨b, 0, none⟩) n cap) n xs) (h' : w.ownsRow B' e' 1 (.slice (some ⟨g, 0, none⟩) n' cap') n' ys) (hne : e ≠ e') : b ≠ g := fun eq => by
  rcases own_own h h' hne with h1 | h1
  · simp [Value.ownBlock] at h1
  · exact h1 (by rw [eq]; rfl)
theorem own_at {w : World} {B b n cap i : Nat} {e : TypeId} {us : List Value} {u : Value} (h : w.ownsRow B e 1 (.slice (some ⟨b, 0, none⟩) n cap) n us) (hu : us[i]? = some u) : w.cell? ⟨b, i, none⟩ = some u := by
  have hl : i < n := by have := get_lt hu; have h1 := h.1; omega
  rw [h.cellAt i (by omega)]; exact hu
theorem rba_own {w : World} {B g n cap : Nat} {l : List Nat} (h : w.ownsRow B 5 1 (.slice (some ⟨g, 0, none⟩) n cap) n (bv l)) (hb : Byt l) : RBA B w (some ⟨g, 0, none⟩) l := ⟨hb, Hd.of_own h⟩
set_option maxRecDepth 100000 in
set_option maxHeartbeats 4000000 in
theorem solve_calls (Am Ar : Option Addr) (cm cr B n q : Nat) (us vs : List Value) (M R : List (List Nat)) (w : World) (hM : M.length = n) (hR : R.length = n) (hq : 1 ≤ q) (hn : n ≤ 100) (hq2 : q ≤ 100) (hMr : ∀ l ∈ M, l.length = n) (hRr : ∀ l ∈ R, l.length = q)
    (hm : w.ownsRow B 57 1 (.slice Am n cm) n us) (hr : w.ownsRow B 57 1 (.slice Ar n cr) n vs) (hf : Fam B w (us ++ vs) (M ++ R)) (hB : B ≤ w.heap.size) :
    Calls Try.prog 57 #[.slice Am n cm, .slice Ar n cr] w fun e w' => e = .returned (.tuple #[]) ∧ Fam B w' (us ++ vs) ((gjTo M R n).1 ++ (gjTo M R n).2) ∧ KU B w w' := by
  have HM := Lib.hid hm
  have HR := Lib.hid hr
  have HF := Lib.hid hf
  have hul : us.length = n := by have := hm.1; omega
  have hvl : vs.length = n := by have := hr.1; omega
  have HUL := Lib.hid hul
  have HVL := Lib.hid hvl
  have HML := Lib.hid hM
  have HRL := Lib.hid hR
  have GR : Hid (∀ p, p ≤ n → (∀ l ∈ (gjTo M R p).1, l.length = n) ∧ (∀ l ∈ (gjTo M R p).2, l.length = q)) := Lib.hid (fun p hp => gjTo_rows hMr hRr (by rw [hM, hR]) p (by omega))
  have GL : Hid (∀ p, (gjTo M R p).1.length = n ∧ (gjTo M R p).2.length = n) := Lib.hid (fun p => by have := gjTo_len M R p; rw [hM, hR] at this; exact this)
  obtain ⟨hmc, hmc2⟩ : n ≤ cm ∧ cm ≤ 9223372036854775807 := by
    obtain ⟨A', c', e, h1, h2, _⟩ := own_form hm
    simp only [Value.slice.injEq, true_and] at e; rw [e.2]; exact ⟨h1, h2⟩
  obtain ⟨hrc, hrc2⟩ : n ≤ cr ∧ cr ≤ 9223372036854775807 := by
    obtain ⟨A', c', e, h1, h2, _⟩ := own_form hr
    simp only [Value.slice.injEq, true_and] at e; rw [e.2]; exact ⟨h1, h2⟩
  clear hm hr hf hul hvl hM hR hMr hRr
  go_enter Try.func57, Try.ntmps57
  go_wp2_with fail
  go_loopw [12] (fun i wr => ∃ p : Nat, p ≤ n ∧ i = .int .i64 p ∧ Hid (KU B w wr) ∧ Hid (Fam B wr (us ++ vs) ((gjTo M R p).1 ++ (gjTo M R p).2))) (fun i _ => n - (intOf i).toNat)
  case atStart => exact ⟨0, by omega, rfl, Lib.hid (KU.refl _ _), HF⟩
  case round =>
    clear HF
    obtain ⟨p, hp, rfl, K, F⟩ := hrel
    by_cases hlt : p < n
    · have S1 : Hid (gjTo M R (p + 1) = (elim (gjTo M R p).1 (gjTo M R p).1 p n, elim (gjTo M R p).1 (gjTo M R p).2 p n)) := Lib.hid (by rw [gjTo, HML.out])
      have ML := (GL.out p).1
      have RL := (GL.out p).2
      have MR := (GR.out p hp).1
      have RR := (GR.out p hp).2
      generalize (gjTo M R p).1 = X at *
      generalize (gjTo M R p).2 = Y at *
      obtain ⟨wo, rfl⟩ : ∃ wo : World, wo = wr := ⟨_, rfl⟩
      obtain ⟨x, hx⟩ := get_some (show p < X.length by omega)
      obtain ⟨y, hy⟩ := get_some (show p < Y.length by omega)
      have hxl : x.length = n := MR x (List.mem_of_getElem? hx)
      have hyl : y.length = q := RR y (List.mem_of_getElem? hy)
      obtain ⟨gx, cx, ux, hgx, hgx2, hcx, hcx2, hox, hbx⟩ := F.out.form (i := p) (l := x) (by rw [get_left (by omega)]; exact hx) (by omega)
      obtain ⟨gy, cy, uy, hgy, hgy2, hcy, hcy2, hoy, hby⟩ := F.out.form (i := X.length + p) (l := y) (by rw [get_right]; exact hy) (by omega)
      have ux' : us[p]? = some (.slice (some ⟨gx, 0, none⟩) x.length cx) := by rw [get_left (by rw [HUL.out]; exact hlt)] at ux; exact ux
      have uy' : vs[p]? = some (.slice (some ⟨gy, 0, none⟩) y.length cy) := by rw [ML, ← HUL.out, get_right] at uy; exact uy
      obtain ⟨bm, rfl, cm1, bm1, bm2⟩ := own_cell (K.out.own HM.out ne_sl_u8) ux'
      obtain ⟨br, rfl, cr1, br1, br2⟩ := own_cell (K.out.own HR.out ne_sl_u8) uy'
      obtain ⟨piv, hpiv⟩ := get_some (show p < x.length by omega)
      have pc := ob_cell hox hpiv
      have pl : piv < 256 := hbx.at_ hpiv
      have PF : Hid (pivF X p = gi piv) := Lib.hid (by unfold pivF; rw [getD_of hx, List.getD_eq_getElem?_getD, hpiv]; rfl)
      rw [hxl] at cm1 ux ux' hcx hox
      rw [hyl] at cr1 uy uy' hcy hoy
      have p1 : (0 : Int) ≤ (p : Int) := by omega
      have p2 : (p : Int) < (n : Int) := by omega
      have MLH := Lib.hid ML
      have RLH := Lib.hid RL
      have MRH := Lib.hid MR
      have RRH := Lib.hid RR
      have HX := Lib.hid hx
      have HY := Lib.hid hy
      have HXL := Lib.hid hxl
      have HYL := Lib.hid hyl
      have UX := Lib.hid ux
      have UY := Lib.hid uy
      have OX := Lib.hid hox
      have OY := Lib.hid hoy
      have BX := Lib.hid hbx
      have BY := Lib.hid hby
      have blkX := K.out.own HM.out ne_sl_u8
      have blkR := K.out.own HR.out ne_sl_u8
      have n1 : Hid (bm ≠ gx) := Lib.hid (own_nn blkX hox ne_sl_u8)
      have n2 : Hid (bm ≠ gy) := Lib.hid (own_nn blkX hoy ne_sl_u8)
      have n3 : Hid (br ≠ gx) := Lib.hid (own_nn blkR hox ne_sl_u8)
      have n4 : Hid (br ≠ gy) := Lib.hid (own_nn blkR hoy ne_sl_u8)
      have nxy : Hid (gx ≠ gy) := Lib.hid (F.out.ne_ ux uy (by omega))
      have hwB : B ≤ wo.heap.size := Nat.le_trans hB K.out.bel.size
      clear ML RL MR RR hx hy hxl hyl ux uy ux' uy' hox hoy hbx hby hpiv blkX blkR
      go_wp2_with fail
      refine (inverse_calls piv pl _).mono ?_
      rintro e w' ⟨rfl, rfl⟩
      have fl : gi piv < 256 := gi_lt pl
      generalize gi piv = f at *
      go_wp2_with fail
      go_loopw [28] (fun i wr => ∃ k : Nat, k ≤ n ∧ i = .int .i64 k ∧ Hid (wo.grownBy wr (some gx)) ∧ Hid (wr.ownsRow B 5 1 (.slice (some ⟨gx, 0, none⟩) n cx) n (bv (mixK (fun _ z => gm f z) x k)))) (fun i _ => n - (intOf i).toNat)
      case atStart => exact ⟨0, by omega, rfl, Lib.hid (World.grownBy.refl _ _), by rw [mixK_zero]; exact OX⟩
      case round =>
        obtain ⟨k, hk, rfl, G, O⟩ := hrel
        by_cases hlt2 : k < n
        · obtain ⟨z, hz⟩ := get_some (show k < x.length by rw [HXL.out]; exact hlt2)
          have zc := ob_cell O.out (mixK_at hz)
          have zf : wr.frozen? ⟨gx, k, none⟩ = false := O.out.frozenAt k
          have zl : z < 256 := BX.out.at_ hz
          have hc : wr.cell? ⟨bm, p, none⟩ = some (.slice (some ⟨gx, 0, none⟩) n cx) := by rw [← cm1]; exact G.out.cell_far _ bm1 (by simpa using n1.out)
          have HZ := Lib.hid hz
          have k1 : (0 : Int) ≤ (k : Int) := by omega
          have k2 : (k : Int) < (n : Int) := by omega
          clear hz
          go_wp2_with fail
          refine wp_region_still_tail 15 (by kernel_rfl) (by kernel_rfl) ?_
          simp only [List.take_succ_cons, List.take_zero, List.drop_succ_cons, List.drop_zero]
          repeat still_step
          still_call (mul_still f z fl zl _)
          repeat still_step
          refine wpStill_nil ?_
          go_wp2_with fail
          have st := O.out.stored k (.int .u8 ((gm f z : Nat) : Int))
          refine ⟨⟨k + 1, by omega, by go_num, Lib.hid (only_drew (G.out.trans st.2)), Lib.hid ?_⟩, by simp [intOf]; omega⟩
          rw [mixK_succ HZ.out, ← bv_set]
          exact st.1.drew
        · obtain rfl : k = n := by omega
          have O2 : Hid (wr.ownsRow B 5 1 (.slice (some ⟨gx, 0, none⟩) k cx) k (bv (scaleR f x))) := Lib.hid (by have := O.out; rw [← HXL.out, mixK_scale, HXL.out] at this; exact this)
          have F2 : Hid (Fam B wr (us ++ vs) (X.set p (scaleR f x) ++ Y)) := Lib.hid (by
            rw [← set_left (by rw [MLH.out]; exact hlt)]
            exact F.out.write UX.out G.out O2.out (by rw [scaleR_len, HXL.out]) (scaleR_byt _ fl))
          have K2 : Hid (KU B wo wr) := Lib.hid (KU.grown G.out OX.out hwB)
          have OY2 : Hid (wr.ownsRow B 5 1 (.slice (some ⟨gy, 0, none⟩) q cy) q (bv y)) := Lib.hid (OY.out.kept G.out (.inr (by simp [Value.ownBlock]; exact fun e => nxy.out e.symm)))
          have hc : wr.cell? ⟨bm, p, none⟩ = some (.slice (some ⟨gx, 0, none⟩) k cx) := by rw [← cm1]; exact G.out.cell_far _ bm1 (by simpa using n1.out)
          have hcr : wr.cell? ⟨br, p, none⟩ = some (.slice (some ⟨gy, 0, none⟩) q cy) := by rw [← cr1]; exact G.out.cell_far _ br1 (by simpa using n3.out)
          have br3 : br < wr.heap.size := Nat.lt_of_lt_of_le br1 G.out.size
          have bm3 : bm < wr.heap.size := Nat.lt_of_lt_of_le bm1 G.out.size
          have hgx3 : gx < wr.heap.size := Nat.lt_of_lt_of_le hgx2 G.out.size
          obtain ⟨w2, rfl⟩ : ∃ w2 : World, w2 = wr := ⟨_, rfl⟩
          clear O G hlt2
          go_wp2_with fail
          go_loopw [52] (fun i wr => ∃ t : Nat, t ≤ q ∧ i = .int .i64 t ∧ Hid (w2.grownBy wr (some gy)) ∧ Hid (wr.ownsRow B 5 1 (.slice (some ⟨gy, 0, none⟩) q cy) q (bv (mixK (fun _ z => gm f z) y t)))) (fun i _ => q - (intOf i).toNat)
          case atStart => exact ⟨0, by omega, rfl, Lib.hid (World.grownBy.refl _ _), by rw [mixK_zero]; exact OY2⟩
          case round =>
            obtain ⟨t, ht, rfl, G, O⟩ := hrel
            by_cases hlt3 : t < q
            · obtain ⟨z, hz⟩ := get_some (show t < y.length by rw [HYL.out]; exact hlt3)
              have zc := ob_cell O.out (mixK_at hz)
              have zf : wr.frozen? ⟨gy, t, none⟩ = false := O.out.frozenAt t
              have zl : z < 256 := BY.out.at_ hz
              have hc : wr.cell? ⟨br, p, none⟩ = some (.slice (some ⟨gy, 0, none⟩) q cy) := by rw [← hcr]; exact G.out.cell_far _ br3 (by simpa using n4.out)
              have HZ := Lib.hid hz
              have k1 : (0 : Int) ≤ (t : Int) := by omega
              have k2 : (t : Int) < (q : Int) := by omega
              clear hz
              go_wp2_with fail
              refine wp_region_still_tail 15 (by kernel_rfl) (by kernel_rfl) ?_
              simp only [List.take_succ_cons, List.take_zero, List.drop_succ_cons, List.drop_zero]
              repeat still_step
              still_call (mul_still f z fl zl _)
              repeat still_step
              refine wpStill_nil ?_
              go_wp2_with fail
              have st := O.out.stored t (.int .u8 ((gm f z : Nat) : Int))
              refine ⟨⟨t + 1, by omega, by go_num, Lib.hid (only_drew (G.out.trans st.2)), Lib.hid ?_⟩, by simp [intOf]; omega⟩
              rw [mixK_succ HZ.out, ← bv_set]
              exact st.1.drew
            · obtain rfl : t = q := by omega
              have O3 : Hid (wr.ownsRow B 5 1 (.slice (some ⟨gy, 0, none⟩) t cy) t (bv (scaleR f y))) := Lib.hid (by have := O.out; rw [← HYL.out, mixK_scale, HYL.out] at this; exact this)
              have F3 : Hid (Fam B wr (us ++ vs) (elim X X p 0 ++ elim X Y p 0)) := Lib.hid (by
                rw [elim_zero (by rw [MLH.out]; exact hlt), elim_zero (by rw [RLH.out]; exact hlt), getD_of HX.out, getD_of HY.out, PF.out, ← set_right]
                refine F2.out.write ?_ G.out O3.out (by rw [scaleR_len, HYL.out]) (scaleR_byt _ fl)
                rw [List.length_set]; exact UY.out)
              have K3 : Hid (KU B wo wr) := Lib.hid (K2.out.trans (KU.grown G.out OY2.out (Nat.le_trans hwB K2.out.bel.size)))
              obtain ⟨w3, rfl⟩ : ∃ w3 : World, w3 = wr := ⟨_, rfl⟩
              clear O G O3 OY2 F2 K2 hlt3 hc hcr
              go_wp2_with fail
              go_loopw [73] (fun i wr => ∃ r : Nat, r ≤ k ∧ i = .int .i64 r ∧ Hid (KU B wo wr) ∧ Hid (Fam B wr (us ++ vs) (elim X X p r ++ elim X Y p r))) (fun i _ => k - (intOf i).toNat)
              case atStart => exact ⟨0, by omega, rfl, K3, F3⟩
              case round =>
                clear K3 F3
                obtain ⟨r, hr, rfl, K4, F4⟩ := hrel
                by_cases hlt4 : r < k
                · by_cases hrp : r = p
                  · have q1 : ((r : Int) != (p : Int)) = false := by rw [hrp]; simp
                    have E4 : Hid (r = p) := Lib.hid hrp
                    clear hrp
                    go_wp2_with fail
                    refine ⟨⟨r + 1, by omega, by go_num, K4, Lib.hid ?_⟩, by simp [intOf]; omega⟩
                    have := F4.out
                    rw [E4.out] at this ⊢
                    rw [elim_skip, elim_skip]; exact this
                  · have q1 : ((r : Int) != (p : Int)) = true := by rw [bne_iff_ne]; omega
                    have e1 : (elim X X p r)[r]? = some (X.getD r []) := by rw [elim_at (by rw [MLH.out]; exact hlt4), if_neg hrp, if_neg (by omega)]
                    have e2 : (elim X X p r)[p]? = some (scaleR f x) := by rw [elim_at (by rw [MLH.out]; exact hlt), if_pos rfl, getD_of HX.out, PF.out]
                    have e3 : (elim X Y p r)[r]? = some (Y.getD r []) := by rw [elim_at (by rw [RLH.out]; exact hlt4), if_neg hrp, if_neg (by omega)]
                    have e4 : (elim X Y p r)[p]? = some (scaleR f y) := by rw [elim_at (by rw [RLH.out]; exact hlt), if_pos rfl, getD_of HY.out, PF.out]
                    have l1 : (X.getD r []).length = k := MRH.out _ (List.mem_of_getElem? (getD_get (by rw [MLH.out]; exact hlt4)))
                    have l3 : (Y.getD r []).length = t := RRH.out _ (List.mem_of_getElem? (getD_get (by rw [RLH.out]; exact hlt4)))
                    have ST : Hid (elim X X p (r + 1) ++ elim X Y p (r + 1) = ((elim X X p r ++ elim X Y p r).set r (addR (X.getD r []) (scaleR f x) ((X.getD r []).getD p 0))).set (k + r) (addR (Y.getD r []) (scaleR f y) ((X.getD r []).getD p 0))) := Lib.hid (by
                      rw [elim_step (by rw [MLH.out]; exact hlt4) hrp, elim_step (by rw [RLH.out]; exact hlt4) hrp, set_left (by rw [elim_len, MLH.out]; exact hlt4)]
                      rw [show k + r = ((elim X X p r).set r (addR (X.getD r []) (scaleR f x) ((X.getD r []).getD p 0))).length + r by rw [List.length_set, elim_len, MLH.out], set_right, getD_of HX.out, getD_of HY.out, PF.out])
                    generalize X.getD r [] = a at *
                    generalize Y.getD r [] = b at *
                    have EL : (elim X X p r).length = k := by rw [elim_len, MLH.out]
                    obtain ⟨ga, ca, ua, ga1, ga2, ca1, ca2, oa, ba⟩ := F4.out.form (i := r) (l := a) (by rw [get_left (by omega)]; exact e1) (by omega)
                    obtain ⟨gp, cp, up, gp1, gp2, cp1, cp2, op, bp⟩ := F4.out.form (i := p) (l := scaleR f x) (by rw [get_left (by omega)]; exact e2) (by rw [scaleR_len, HXL.out]; omega)
                    obtain ⟨gb, cb, ub, gb1, gb2, cb1, cb2, ob, bb⟩ := F4.out.form (i := k + r) (l := b) (by rw [← EL, get_right]; exact e3) (by omega)
                    obtain ⟨gs, cs, us', gs1, gs2, cs1, cs2, os, bs⟩ := F4.out.form (i := k + p) (l := scaleR f y) (by rw [← EL, get_right]; exact e4) (by rw [scaleR_len, HYL.out]; omega)
                    rw [scaleR_len, HXL.out] at up cp1 op
                    rw [scaleR_len, HYL.out] at us' cs1 os
                    rw [l1] at ua ca1 oa
                    rw [l3] at ub cb1 ob
                    have KM := (K.out.trans K4.out).own HM.out ne_sl_u8
                    have KR := (K.out.trans K4.out).own HR.out ne_sl_u8
                    have h1 : wr.cell? ⟨bm, r, none⟩ = some (.slice (some ⟨ga, 0, none⟩) k ca) := own_at KM (by rw [get_left (by rw [HUL.out]; exact hlt4)] at ua; exact ua)
                    have h2 : wr.cell? ⟨bm, p, none⟩ = some (.slice (some ⟨gp, 0, none⟩) k cp) := own_at KM (by rw [get_left (by rw [HUL.out]; exact hlt)] at up; exact up)
                    have h3 : wr.cell? ⟨br, r, none⟩ = some (.slice (some ⟨gb, 0, none⟩) t cb) := own_at KR (by rw [← HUL.out, get_right] at ub; exact ub)
                    have h4 : wr.cell? ⟨br, p, none⟩ = some (.slice (some ⟨gs, 0, none⟩) t cs) := own_at KR (by rw [← HUL.out, get_right] at us'; exact us')
                    have bmw : bm < wr.heap.size := Nat.lt_of_lt_of_le bm1 K4.out.bel.size
                    have brw : br < wr.heap.size := Nat.lt_of_lt_of_le br1 K4.out.bel.size
                    obtain ⟨g0, hg0⟩ := get_some (show p < a.length by omega)
                    have gc := ob_cell oa hg0
                    have gl : g0 < 256 := ba.at_ hg0
                    have GD : Hid (a.getD p 0 = g0) := Lib.hid (by rw [List.getD_eq_getElem?_getD, hg0]; rfl)
                    have r1 : (0 : Int) ≤ (r : Int) := by omega
                    have r2 : (r : Int) < (k : Int) := by omega
                    have nap : gp ≠ ga := fun e => F4.out.ne_ up ua (by omega) e
                    have nbs : gs ≠ gb := fun e => F4.out.ne_ us' ub (by omega) e
                    have nab : gb ≠ ga := fun e => F4.out.ne_ ub ua (by omega) e
                    have nas : gs ≠ ga := fun e => F4.out.ne_ us' ua (by omega) e
                    have nra : br ≠ ga := own_nn KR oa ne_sl_u8
                    have AC1 : Hid (Calls Try.prog 55 #[.slice (some ⟨ga, 0, none⟩) k ca, .slice (some ⟨gp, 0, none⟩) k cp, .int .u8 (g0 : Int)] wr.drew fun e w' => e = .returned (.tuple #[]) ∧ w'.ownsRow B 5 1 (.slice (some ⟨ga, 0, none⟩) k ca) k (bv (addR a (scaleR f x) g0)) ∧ wr.drew.grownBy w' (some ga)) := Lib.hid (by
                      have := add_calls ga ca B a (some ⟨gp, 0, none⟩) cp B (scaleR f x) g0 wr.drew gl ba (by rw [scaleR_len, HXL.out, l1]; exact Nat.le_refl _) (by rw [l1]; exact oa.drew) (by rw [scaleR_len, HXL.out]; exact cp1) cp2 ((rba_own op bp).next (Below.refl _ _).drew) (fun b off hb _ => by cases hb; exact nap)
                      rw [scaleR_len, HXL.out, l1] at this
                      exact this)
                    have AC2 : Hid (∀ W : World, W.ownsRow B 5 1 (.slice (some ⟨gb, 0, none⟩) t cb) t (bv b) → W.ownsRow B 5 1 (.slice (some ⟨gs, 0, none⟩) t cs) t (bv (scaleR f y)) → Calls Try.prog 55 #[.slice (some ⟨gb, 0, none⟩) t cb, .slice (some ⟨gs, 0, none⟩) t cs, .int .u8 (g0 : Int)] W fun e w' => e = .returned (.tuple #[]) ∧ w'.ownsRow B 5 1 (.slice (some ⟨gb, 0, none⟩) t cb) t (bv (addR b (scaleR f y) g0)) ∧ W.grownBy w' (some gb)) := Lib.hid (fun W k1 k2 => by
                      have := add_calls gb cb B b (some ⟨gs, 0, none⟩) cs B (scaleR f y) g0 W gl bb (by rw [scaleR_len, HYL.out, l3]; exact Nat.le_refl _) (by rw [l3]; exact k1) (by rw [scaleR_len, HYL.out]; exact cs1) cs2 (rba_own k2 bs) (fun b off hb _ => by cases hb; exact nbs)
                      rw [scaleR_len, HYL.out, l3] at this
                      exact this)
                    have UA := Lib.hid ua
                    have UB := Lib.hid ub
                    have OA := Lib.hid oa
                    have OB' := Lib.hid ob
                    have OS := Lib.hid os
                    have BA := Lib.hid ba
                    have BB := Lib.hid bb
                    have L1 := Lib.hid l1
                    have L3 := Lib.hid l3
                    have N1 := Lib.hid nab
                    have N2 := Lib.hid nas
                    have N3 := Lib.hid nra
                    have K4B : Hid (B ≤ wr.heap.size) := Lib.hid (Nat.le_trans hwB K4.out.bel.size)
                    clear e1 e2 e3 e4 l1 l3 EL ua up ub us' oa op ob os ba bp bb bs KM KR hg0 hrp nap nbs nab nas nra
                    go_wp2_with fail
                    refine wp_region_still_tail 9 (by kernel_rfl) (by kernel_rfl) ?_
                    simp only [List.take_succ_cons, List.take_zero, List.drop_succ_cons, List.drop_zero]
                    repeat still_step
                    refine wpStill_nil ?_
                    go_wp2_with fail
                    refine AC1.out.mono ?_
                    rintro e w4 ⟨rfl, ho4, hg4⟩
                    have G4 : Hid (wr.grownBy w4 (some ga)) := Lib.hid (gundrew hg4)
                    have O4 := Lib.hid ho4
                    have j3 : w4.cell? ⟨br, r, none⟩ = some (.slice (some ⟨gb, 0, none⟩) t cb) := by rw [← h3]; exact G4.out.cell_far _ brw (by simpa using N3.out)
                    have j4 : w4.cell? ⟨br, p, none⟩ = some (.slice (some ⟨gs, 0, none⟩) t cs) := by rw [← h4]; exact G4.out.cell_far _ brw (by simpa using N3.out)
                    have OB4 : Hid (w4.ownsRow B 5 1 (.slice (some ⟨gb, 0, none⟩) t cb) t (bv b)) := Lib.hid (OB'.out.kept G4.out (.inr (by simp [Value.ownBlock]; exact N1.out)))
                    have OS4 : Hid (w4.ownsRow B 5 1 (.slice (some ⟨gs, 0, none⟩) t cs) t (bv (scaleR f y))) := Lib.hid (OS.out.kept G4.out (.inr (by simp [Value.ownBlock]; exact N2.out)))
                    have br4 : br < w4.heap.size := Nat.lt_of_lt_of_le brw G4.out.size
                    clear ho4 hg4 h1 h2 h3 h4 gc
                    go_wp2_with fail
                    refine wp_region_still_tail 9 (by kernel_rfl) (by kernel_rfl) ?_
                    simp only [List.take_succ_cons, List.take_zero, List.drop_succ_cons, List.drop_zero]
                    repeat still_step
                    refine wpStill_nil ?_
                    go_wp2_with fail
                    refine (AC2.out _ OB4.out.drew OS4.out.drew).mono ?_
                    rintro e w5 ⟨rfl, ho5, hg5⟩
                    have G5 : Hid (w4.grownBy w5 (some gb)) := Lib.hid (gundrew hg5)
                    have O5 := Lib.hid ho5
                    clear ho5 hg5 j3 j4
                    go_wp2_with fail
                    refine ⟨⟨r + 1, by omega, by go_num, Lib.hid ?_, Lib.hid ?_⟩, by simp [intOf]; omega⟩
                    · have c1 := KU.grown G4.out OA.out K4B.out
                      exact (K4.out.trans c1).trans (KU.grown G5.out OB4.out (Nat.le_trans K4B.out c1.bel.size))
                    · rw [ST.out, GD.out]
                      have f1 := F4.out.write UA.out G4.out O4.out (by rw [addR_len, L1.out]) (addR_byt BA.out gl)
                      exact f1.write UB.out G5.out O5.out (by rw [addR_len, L3.out]) (addR_byt BB.out gl)
                · obtain rfl : r = k := by omega
                  go_wp2_with fail
                  refine ⟨⟨p + 1, by omega, by go_num, Lib.hid (K.out.trans K4.out), Lib.hid ?_⟩, by simp [intOf]; omega⟩
                  rw [S1.out]; exact F4.out
    · obtain rfl : p = n := by omega
      go_wp2_with fail
      go_end0
      exact ⟨rfl, F.out, K.out⟩
end Go.Proofs.Ytmpmeeacdllomaa
