/- Contracts of layer 45: elimination of the reference, where no pivot is 0. -/
import Derived.Test.YtmpmeeacdllomaaPcg
import Derived.Test.YtmpmeeacdllomaaPca
import Derived.StillTailTactics
namespace Go.Proofs.Ytmpmeeacdllomaa
open Go.ChangeShapes Go.WideShapes Go.ChangeAt Go.RowKit Gf
set_option linter.unusedVariables false
attribute [local go_sem ↓] Go.wp_at_zero Go.wp_at_succ

/- one byte of a row stored -/
theorem Fam.put {B : Nat} {w : World} {us : List Value} {L : List (List Nat)} (h : Fam B w us L) {r g cap k x : Nat} {l : List Nat} (hl : L[r]? = some l) (hu : us[r]? = some (.slice (some ⟨g, 0, none⟩) l.length cap)) (hx : x < 256) (hB : B ≤ w.heap.size) :
    Fam B (w.setCell ⟨g, k, none⟩ (.int .u8 (x : Int))) us (L.set r (l.set k x)) ∧ KU B w (w.setCell ⟨g, k, none⟩ (.int .u8 (x : Int))) := by
  have ho := h.row r _ l hu hl
  have st := World.ownsRow.stored ho k (.int .u8 (x : Int))
  rw [bv_set] at st
  exact ⟨h.write hu st.2 st.1 (by simp) ((h.byt l (List.mem_of_getElem? hl)).set_ k hx), KU.grown st.2 ho hB⟩
theorem Fam.drew_ {B : Nat} {w : World} {us : List Value} {L : List (List Nat)} (h : Fam B w us L) : Fam B w.drew us L := h.next (Below.refl _ _).drew
theorem Fam.ext_ {B : Nat} {w : World} {us : List Value} {L L' : List (List Nat)} (h : Fam B w us L) (e : L = L') : Fam B w us L' := e ▸ h
/- a cell stored as it was -/
theorem set_as_was {w : World} {b i : Nat} {u : Value} (h : w.cell? ⟨b, i, none⟩ = some u) (g : Nat) : (w.setCell ⟨b, i, none⟩ u).heap[g]? = w.heap[g]? := by
  by_cases e : b = g
  · subst e
    cases hb : w.heap[b]? with
    | none => simp [World.cell?, hb] at h
    | some o =>
      cases o with
      | cells cs t fz =>
        rw [blk_set hb i u]
        have hc : cs[i]? = some u := by simpa [World.cell?, hb] using h
        congr 2
        apply Array.ext_getElem?
        intro j
        by_cases c : i = j
        · subst c
          obtain ⟨h1, h2⟩ := Array.getElem?_eq_some_iff.1 hc
          simp [h1, h2]
        · rw [Array.getElem?_setIfInBounds_ne c]
      | _ => simp [World.cell?, hb] at h
  · exact Below.heap_setCell w ⟨b, i, none⟩ u g (fun e' => e e'.symm)
theorem fam_as_was {B : Nat} {w w' : World} {us : List Value} {L : List (List Nat)} (h : Fam B w us L) (hh : ∀ g : Nat, w'.heap[g]? = w.heap[g]?) : Fam B w' us L :=
  ⟨h.len, fun i u l hu hl => own_same (h.row i u l hu hl) (fun g cs _ _ => hh g), h.byt, h.apart⟩
/- the last numbers of the rows -/
def lastC (L : List (List Nat)) (n k : Nat) : List Nat := (List.range k).map fun i => (L.getD i []).getD n 0
theorem lastC_snoc (L : List (List Nat)) (n k : Nat) : lastC L n (k + 1) = lastC L n k ++ [(L.getD k []).getD n 0] := by unfold lastC; rw [List.range_succ, List.map_append]; rfl
theorem lastC_len (L : List (List Nat)) (n k : Nat) : (lastC L n k).length = k := by simp [lastC]
theorem mixK_scale' {f : Nat} {l : List Nat} (hl : Byt l) (hf : f < 256) : mixK (fun _ x => gm x f) l l.length = scaleR f l := by
  apply List.ext_getElem?
  intro i
  simp only [mixK, scaleR, List.getElem?_map]
  by_cases hi : i < l.length
  · rw [List.getElem?_range hi, List.getElem?_eq_getElem hi]
    simp only [Option.map_some, if_pos hi, List.getD_eq_getElem?_getD, List.getElem?_eq_getElem hi, Option.getD_some]
    rw [gm_comm (hl _ (List.getElem_mem hi)) hf]
  · rw [List.getElem?_eq_none (by simpa using hi), List.getElem?_eq_none (by simpa using hi)]; rfl
theorem set_same_get {α : Type} {L : List α} {r : Nat} {l : α} (h : L[r]? = some l) : L.set r l = L := by
  apply List.ext_getElem?
  intro i
  rw [List.getElem?_set]
  by_cases e : r = i
  · subst e; rw [if_pos rfl, if_pos (get_lt h), h]
  · rw [if_neg e]
theorem set_get_self {α : Type} {L : List α} {r : Nat} (l : α) (h : r < L.length) : (L.set r l)[r]? = some l := by rw [List.getElem?_set, if_pos rfl, if_pos h]
theorem ku_as_was {B : Nat} {w a b : World} (K : KU B w a) (hb : Below B a b) (hh : ∀ g : Nat, b.heap[g]? = a.heap[g]?) : KU B w b := ⟨K.bel.trans hb, fun g cs t fz h ht => (hh g).trans (K.oth g cs t fz h ht)⟩
theorem fam_at {B n cm bm r g q cap : Nat} {W : World} {us : List Value} {L : List (List Nat)} {l : List Nat} (ht : W.ownsRow B 57 1 (.slice (some ⟨bm, 0, none⟩) n cm) n us) (F : Fam B W us L) (hl : L[r]? = some l) (hu : us[r]? = some (.slice (some ⟨g, 0, none⟩) q cap)) (hq : l.length = q) :
    W.cell? ⟨bm, r, none⟩ = some (.slice (some ⟨g, 0, none⟩) q cap) ∧ ∀ (k x : Nat), l[k]? = some x → W.cell? ⟨g, k, none⟩ = some (.int .u8 (x : Int)) ∧ W.frozen? ⟨g, k, none⟩ = false ∧ x < 256 := by
  subst hq
  have ho := F.row r _ l hu hl
  exact ⟨own_at ht hu, fun k x hx => ⟨ob_cell ho hx, ho.frozenAt k, (F.byt l (List.mem_of_getElem? hl)).at_ hx⟩⟩
set_option maxRecDepth 100000 in
set_option maxHeartbeats 8000000 in
theorem refSolve_calls (Am : Option Addr) (cm B n : Nat) (us : List Value) (A : List (List Nat)) (w : World) (hA : A.length = n) (hn : n ≤ 100) (hAr : ∀ l ∈ A, l.length = n + 1)
    (hm : w.ownsRow B 57 1 (.slice Am n cm) n us) (hf : Fam B w us A) (hB : B ≤ w.heap.size) (hp : ∀ p, p < n → ((gjTo A [] p).1.getD p []).getD p 0 ≠ 0) :
    Calls Try.prog 40 #[.slice Am n cm] w fun e w' => ∃ v, e = .returned v ∧ OB w.heap.size w' v (lastC (gjTo A [] n).1 n n) ∧ Below B w w' := by
  have HM := Lib.hid hm
  have HF := Lib.hid hf
  have HAL := Lib.hid hA
  have HP := Lib.hid hp
  have hul : us.length = n := by have := hm.1; omega
  have HUL := Lib.hid hul
  have GR : Hid (∀ p, p ≤ n → (∀ l ∈ (gjTo A [] p).1, l.length = n + 1)) := Lib.hid (fun p hp => by
    induction p with
    | zero => exact hAr
    | succ p ih => exact elim_rows (ih (by omega)) (by rw [(gjTo_len A [] p).1]; omega))
  have GL : Hid (∀ p, (gjTo A [] p).1.length = n) := Lib.hid (fun p => by have := gjTo_len A [] p; rw [hA] at this; exact this.1)
  obtain ⟨hmc, hmc2⟩ : n ≤ cm ∧ cm ≤ 9223372036854775807 := by
    obtain ⟨A', c', e, h1, h2, _⟩ := own_form hm
    simp only [Value.slice.injEq, true_and] at e; rw [e.2]; exact ⟨h1, h2⟩
  obtain ⟨i0, hi0, hz0, hz1, hz2⟩ := info_parts u8_info
  have HI := Lib.hid (And.intro hi0 (And.intro hz0 (And.intro hz1 hz2)))
  clear hm hf hul hA hAr hp hi0 hz0 hz1 hz2
  go_enter Try.func40, Try.ntmps40
  go_wp2_with fail
  go_loopw [4] (fun i wr => ∃ p : Nat, p ≤ n ∧ i = .int .i64 p ∧ Hid (KU B w wr) ∧ Hid (Fam B wr us (gjTo A [] p).1)) (fun i _ => n - (intOf i).toNat)
  case atStart => exact ⟨0, by omega, rfl, Lib.hid (KU.refl _ _), HF⟩
  case round =>
    clear HF
    obtain ⟨p, hp, rfl, K, F⟩ := hrel
    by_cases hlt : p < n
    · have S1 : Hid ((gjTo A [] (p + 1)).1 = elim (gjTo A [] p).1 (gjTo A [] p).1 p n) := Lib.hid (by simp only [gjTo]; rw [HAL.out])
      have ML := GL.out p
      have MR := GR.out p hp
      have PV := HP.out p hlt
      generalize (gjTo A [] p).1 = X at *
      obtain ⟨wo, rfl⟩ : ∃ wo : World, wo = wr := ⟨_, rfl⟩
      obtain ⟨x, hx⟩ := get_some (show p < X.length by omega)
      have hxl : x.length = n + 1 := MR x (List.mem_of_getElem? hx)
      obtain ⟨gx, cx, ux, hgx, hgx2, hcx, hcx2, hox, hbx⟩ := F.out.form (i := p) (l := x) hx (by omega)
      obtain ⟨bm, rfl, cm1, bm1, bm2⟩ := own_cell (K.out.own HM.out ne_sl_u8) ux
      obtain ⟨piv, hpiv⟩ := get_some (show p < x.length by omega)
      have pc := ob_cell hox hpiv
      have pl : piv < 256 := hbx.at_ hpiv
      have p0 : piv ≠ 0 := by rw [getD_of hx, List.getD_eq_getElem?_getD, hpiv] at PV; exact PV
      have PF : Hid (pivF X p = gi piv) := Lib.hid (by unfold pivF; rw [getD_of hx, List.getD_eq_getElem?_getD, hpiv]; rfl)
      rw [hxl] at cm1 ux hcx hox
      have e0 : ((piv : Int) == 0) = false := by rw [beq_eq_false_iff_ne]; omega
      have p1 : (0 : Int) ≤ (p : Int) := by omega
      have p2 : (p : Int) < (n : Int) := by omega
      have p3 : (p : Int) < (n : Int) + 1 := by omega
      have p4 : (p : Int) < ((n + 1 : Nat) : Int) := by omega
      have MLH := Lib.hid ML
      have MRH := Lib.hid MR
      have HX := Lib.hid hx
      have HXL := Lib.hid hxl
      have UX := Lib.hid ux
      have BX := Lib.hid hbx
      have hwB : B ≤ wo.heap.size := Nat.le_trans hB K.out.bel.size
      have fz : wo.frozen? ⟨bm, p, none⟩ = false := (K.out.own HM.out ne_sl_u8).frozenAt p
      have HCM := Lib.hid cm1
      have HOX := Lib.hid hox
      have HPV := Lib.hid hpiv
      clear ML MR PV hx hxl ux hox hbx hpiv
      go_wp2_with fail
      go_loopw [5] (fun q W => q = .int .i64 p ∧ W = wo) (fun _ _ => 0)
      case atStart => exact ⟨rfl, rfl⟩
      case round =>
        obtain ⟨rfl, rfl⟩ := hrel
        go_wp2_with fail
        go_region
        have hh : Hid (∀ g : Nat, (((wr.setCell ⟨bm, p, none⟩ (.slice (some ⟨gx, 0, none⟩) (n + 1) cx)).setCell ⟨bm, p, none⟩ (.slice (some ⟨gx, 0, none⟩) (n + 1) cx)).drew).heap[g]? = wr.heap[g]?) := Lib.hid (fun g => (set_as_was ((World.cell?_of_block (set_as_was HCM.out bm)).trans HCM.out) g).trans (set_as_was HCM.out g))
        have hbb : Hid (Below B wr (((wr.setCell ⟨bm, p, none⟩ (.slice (some ⟨gx, 0, none⟩) (n + 1) cx)).setCell ⟨bm, p, none⟩ (.slice (some ⟨gx, 0, none⟩) (n + 1) cx)).drew)) := Lib.hid (((Below.refl B wr).setCell bm2 _).setCell bm2 _).drew
        have K2 := Lib.hid (ku_as_was K.out hbb.out hh.out)
        have F2 := Lib.hid (fam_as_was F.out hh.out)
        clear hh hbb K F HCM HOX fz cm1 pc bm1 hwB hgx2
        generalize ((wr.setCell ⟨bm, p, none⟩ (.slice (some ⟨gx, 0, none⟩) (n + 1) cx)).setCell ⟨bm, p, none⟩ (.slice (some ⟨gx, 0, none⟩) (n + 1) cx)).drew = W2 at *
        obtain ⟨c1, c2⟩ := fam_at (K2.out.own HM.out ne_sl_u8) F2.out HX.out UX.out HXL.out
        obtain ⟨c3, _, _⟩ := c2 p piv HPV.out
        clear c2
        go_wp2_with fail
        refine (refInverse_calls piv p0 pl _).mono ?_
        rintro e w' ⟨rfl, rfl⟩
        have fl : gi piv < 256 := gi_lt pl
        generalize gi piv = f at *
        clear c1 c3
        go_wp2_with fail
        go_loopw [7] (fun i W => ∃ k : Nat, k ≤ n + 1 ∧ i = .int .i64 k ∧ Hid (KU B w W) ∧ Hid (Fam B W us (X.set p (mixK (fun _ z => gm z f) x k)))) (fun i _ => n + 1 - (intOf i).toNat)
        case atStart => exact ⟨0, by omega, rfl, K2, Lib.hid (F2.out.ext_ (by rw [mixK_zero, set_same_get HX.out]))⟩
        case round =>
          clear K2 F2
          obtain ⟨k, hk, rfl, K, F⟩ := hrel
          by_cases hlt2 : k < n + 1
          · obtain ⟨z, hz⟩ := get_some (show k < x.length by rw [HXL.out]; exact hlt2)
            have hl2 : Hid ((X.set p (mixK (fun _ z => gm z f) x k))[p]? = some (mixK (fun _ z => gm z f) x k)) := Lib.hid (set_get_self _ (by rw [MLH.out]; exact hlt))
            obtain ⟨c1, c2⟩ := fam_at (K.out.own HM.out ne_sl_u8) F.out hl2.out UX.out (by rw [mixK_len, HXL.out])
            obtain ⟨c3, c4, zl⟩ := c2 k z (mixK_at hz)
            have PT := Lib.hid (F.out.put (k := k) (x := gm z f) hl2.out (by rw [mixK_len, HXL.out]; exact UX.out) (gm_lt zl) (Nat.le_trans hB K.out.bel.size))
            have HZ := Lib.hid hz
            have k1 : (0 : Int) ≤ (k : Int) := by omega
            have k2 : (k : Int) < (n : Int) + 1 := by omega
            have k3 : (k : Int) ≤ (n : Int) := by omega
            clear hz c2 hl2
            go_wp2_with fail
            refine wp_region_still_tail 15 (by kernel_rfl) (by kernel_rfl) ?_
            simp only [List.take_succ_cons, List.take_zero, List.drop_succ_cons, List.drop_zero]
            repeat still_step
            still_call (refMul_still z f zl fl _)
            repeat still_step
            refine wpStill_nil ?_
            go_wp2_with fail
            refine ⟨⟨k + 1, by omega, by go_num, Lib.hid (K.out.trans PT.out.2).drew, Lib.hid (PT.out.1.drew_.ext_ ?_)⟩, by simp [intOf]; omega⟩
            rw [List.set_set, mixK_succ HZ.out]
          · have hkn : k = n + 1 := by omega
            have F3 : Hid (Fam B wr us (elim X X p 0)) := Lib.hid (F.out.ext_ (by
              rw [elim_zero (by rw [MLH.out]; exact hlt), PF.out, getD_of HX.out, ← mixK_scale' BX.out fl, HXL.out, hkn]))
            clear F
            subst hkn
            have k4 : ¬ ((n + 1 : Nat) : Int) ≤ (n : Int) := by omega
            have k5 : ¬ n + 1 ≤ n := by omega
            go_wp2_with fail
            clear k4 k5 hk hlt2
            obtain ⟨w3, rfl⟩ : ∃ w3 : World, w3 = wr := ⟨_, rfl⟩
            go_loopw [8] (fun i W => ∃ r : Nat, r ≤ n ∧ i = .int .i64 r ∧ Hid (KU B w W) ∧ Hid (Fam B W us (elim X X p r))) (fun i _ => n - (intOf i).toNat)
            case atStart => exact ⟨0, by omega, rfl, K, F3⟩
            case round =>
              clear K F3
              obtain ⟨r, hr, rfl, K, F⟩ := hrel
              by_cases hlt3 : r < n
              · obtain ⟨l, hl⟩ := get_some (show r < X.length by rw [MLH.out]; exact hlt3)
                have r1 : (0 : Int) ≤ (r : Int) := by omega
                have r2 : (r : Int) < (n : Int) := by omega
                obtain ⟨wq, rfl⟩ : ∃ wq : World, wq = wr := ⟨_, rfl⟩
                by_cases erp : r = p
                · subst erp
                  have el : Hid ((elim X X r r)[r]? = some (scaleR f x)) := Lib.hid (by rw [elim_at (by rw [MLH.out]; exact hlt), if_pos rfl, PF.out, getD_of HX.out])
                  obtain ⟨c1, c2⟩ := fam_at (K.out.own HM.out ne_sl_u8) F.out el.out UX.out (by rw [scaleR_len, HXL.out])
                  obtain ⟨z, hz⟩ := get_some (show r < (scaleR f x).length by rw [scaleR_len, HXL.out]; omega)
                  obtain ⟨c3, c4, zl⟩ := c2 r z hz
                  clear c2 hz hl el
                  go_wp2_with fail
                  go_loopw [10] (fun i W => i = .int .i64 0 ∧ W = wq) (fun _ _ => 0)
                  case atStart => exact ⟨rfl, rfl⟩
                  case round =>
                    obtain ⟨rfl, rfl⟩ := hrel
                    go_wp2_with fail
                    go_roundw
                    case rel => exact ⟨r + 1, by omega, by go_num, K, Lib.hid (F.out.ext_ elim_skip.symm)⟩
                    case measure => simp [intOf]; omega
                · have hll : l.length = n + 1 := MRH.out l (List.mem_of_getElem? hl)
                  have el : Hid ((elim X X p r)[r]? = some l) := Lib.hid (by rw [elim_at (by rw [MLH.out]; exact hlt3), if_neg erp, if_neg (by omega), getD_of hl])
                  have ep : Hid ((elim X X p r)[p]? = some (scaleR f x)) := Lib.hid (by rw [elim_at (by rw [MLH.out]; exact hlt), if_pos rfl, PF.out, getD_of HX.out])
                  obtain ⟨gl, cl, ul, hgl, hgl2, hcl, hcl2, _, hbl⟩ := F.out.form (i := r) (l := l) el.out (by omega)
                  rw [hll] at ul hcl
                  obtain ⟨c1, c2⟩ := fam_at (K.out.own HM.out ne_sl_u8) F.out el.out ul hll
                  obtain ⟨g, hg⟩ := get_some (show p < l.length by omega)
                  obtain ⟨c3, c4, gl'⟩ := c2 p g hg
                  have ne' : ((r : Int) != (p : Int)) = true := by rw [bne_iff_ne]; omega
                  have SS : Hid (elim X X p (r + 1) = (elim X X p r).set r (addR l (scaleR f x) g)) := Lib.hid (by
                    rw [elim_step (by rw [MLH.out]; exact hlt3) erp, PF.out, getD_of HX.out, getD_of hl, List.getD_eq_getElem?_getD (l := l), hg]; rfl)
                  have UL := Lib.hid ul
                  have HLL := Lib.hid hll
                  clear c2 hg hl ul hll hgl hgl2
                  go_wp2_with fail
                  go_loopw [10] (fun i W => ∃ k : Nat, k ≤ n + 1 ∧ i = .int .i64 k ∧ Hid (KU B w W) ∧ Hid (Fam B W us ((elim X X p r).set r (addK l (scaleR f x) g k)))) (fun i _ => n + 1 - (intOf i).toNat)
                  case atStart => exact ⟨0, by omega, rfl, K, Lib.hid (F.out.ext_ (by rw [addK_zero, set_same_get el.out]))⟩
                  case round =>
                    clear K F c1 c3 c4
                    obtain ⟨k, hk, rfl, K, F⟩ := hrel
                    by_cases hlt4 : k < n + 1
                    · obtain ⟨z, hz⟩ := get_some (show k < l.length by rw [HLL.out]; exact hlt4)
                      obtain ⟨y, hy⟩ := get_some (show k < (scaleR f x).length by rw [scaleR_len, HXL.out]; exact hlt4)
                      have hl2 : Hid (((elim X X p r).set r (addK l (scaleR f x) g k))[r]? = some (addK l (scaleR f x) g k)) := Lib.hid (set_get_self _ (by rw [elim_len, MLH.out]; exact hlt3))
                      have hl3 : Hid (((elim X X p r).set r (addK l (scaleR f x) g k))[p]? = some (scaleR f x)) := Lib.hid (by rw [List.getElem?_set, if_neg erp]; exact ep.out)
                      obtain ⟨d1, d2⟩ := fam_at (K.out.own HM.out ne_sl_u8) F.out hl2.out UL.out (by rw [addK_len, HLL.out])
                      obtain ⟨d3, d4, zl⟩ := d2 k z (addK_at hz)
                      obtain ⟨e1, e2⟩ := fam_at (K.out.own HM.out ne_sl_u8) F.out hl3.out UX.out (by rw [scaleR_len, HXL.out])
                      obtain ⟨e3, _, yl⟩ := e2 k y hy
                      have X3 : Hid (bits BinOp.xor IntKind.u8 (z : Int) (gm g y : Nat) = ((z ^^^ gm g y : Nat) : Int)) := Lib.hid (u8_xor_nat z (gm g y) zl (gm_lt gl'))
                      have PT := Lib.hid (F.out.put (k := k) (x := z ^^^ gm g y) hl2.out (by rw [addK_len, HLL.out]; exact UL.out) (xor_lt zl (gm_lt gl')) (Nat.le_trans hB K.out.bel.size))
                      have HZ := Lib.hid (And.intro hz hy)
                      have k1 : (0 : Int) ≤ (k : Int) := by omega
                      have k2 : (k : Int) < (n : Int) + 1 := by omega
                      have k3 : (k : Int) ≤ (n : Int) := by omega
                      clear hz hy d2 e2 hl2 hl3
                      go_wp2_with fail
                      refine wp_region_still_tail 18 (by kernel_rfl) (by kernel_rfl) ?_
                      simp only [List.take_succ_cons, List.take_zero, List.drop_succ_cons, List.drop_zero]
                      repeat still_step
                      still_call (refMul_still g y gl' yl _)
                      repeat still_step
                      refine wpStill_nil ?_
                      go_wp2_with fail
                      rw [X3.out]
                      refine ⟨⟨k + 1, by omega, by go_num, Lib.hid (K.out.trans PT.out.2).drew, Lib.hid (PT.out.1.drew_.ext_ ?_)⟩, by simp [intOf]; omega⟩
                      rw [List.set_set, addK_succ HZ.out.1 HZ.out.2]
                    · have hkn : k = n + 1 := by omega
                      have F4 : Hid (Fam B wr us (elim X X p (r + 1))) := Lib.hid (F.out.ext_ (by rw [SS.out, addK_full g (by rw [scaleR_len, HXL.out, hkn]; exact Nat.le_refl _)]))
                      clear F
                      subst hkn
                      have k4 : ¬ ((n + 1 : Nat) : Int) ≤ (n : Int) := by omega
                      have k5 : ¬ n + 1 ≤ n := by omega
                      go_wp2_with fail
                      go_roundw
                      case rel => first | exact ⟨r + 1, by omega, by go_num, K, F4⟩ | exact ⟨r + 1, by omega, by go_num, F4⟩
                      case measure => simp [intOf]; omega
              · have hrn : r = n := by omega
                subst hrn
                go_wp2_with fail
                go_roundw
                case rel => exact ⟨p + 1, by omega, by go_num, K, Lib.hid (F.out.ext_ S1.out.symm)⟩
                case measure => simp [intOf]; omega
    · have hpn : p = n := by omega
      subst hpn
      have MR := Lib.hid (GR.out p (Nat.le_refl _))
      have ML := Lib.hid (GL.out p)
      clear GR GL HP
      obtain ⟨X, hX⟩ : ∃ X, X = (gjTo A [] p).1 := ⟨_, rfl⟩
      rw [← hX] at F MR ML
      have HXX := Lib.hid hX
      clear hX
      obtain ⟨wo, rfl⟩ : ∃ wo : World, wo = wr := ⟨_, rfl⟩
      go_wp2_with fail
      go_loopw [11, 12] (fun v i W => ∃ k : Nat, k ≤ p ∧ i = .int .i64 k ∧ Hid (W.ownsRow wo.heap.size 5 1 v k (bv (lastC X p k))) ∧ Hid (Below wo.heap.size wo W)) (fun _ i _ => p - (intOf i).toNat)
      case atStart => exact ⟨0, by omega, rfl, Lib.hid (World.ownsRow_nil _ _ _ _), Lib.hid (Below.refl _ _)⟩
      case round =>
        obtain ⟨k, hk, rfl, O, N⟩ := hrel
        by_cases hlt2 : k < p
        · obtain ⟨l, hl⟩ := get_some (show k < X.length by rw [ML.out]; exact hlt2)
          have hll : l.length = p + 1 := MR.out l (List.mem_of_getElem? hl)
          obtain ⟨gl, cl, ul, hgl, hgl2, hcl, hcl2, _, hbl⟩ := F.out.form (i := k) (l := l) hl (by omega)
          rw [hll] at ul hcl
          obtain ⟨bm, rfl, _, _, _⟩ := own_cell (K.out.own HM.out ne_sl_u8) ul
          obtain ⟨c1, c2⟩ := fam_at (own_next N.out (K.out.own HM.out ne_sl_u8)) (F.out.next N.out) hl ul hll
          obtain ⟨y, hy⟩ := get_some (show p < l.length by omega)
          obtain ⟨c3, _, yl⟩ := c2 p y hy
          have EY : Hid (lastC X p (k + 1) = lastC X p k ++ [y]) := Lib.hid (by rw [lastC_snoc, getD_of hl, List.getD_eq_getElem?_getD, hy]; rfl)
          have k1 : (0 : Int) ≤ (k : Int) := by omega
          have k2 : (k : Int) < (p : Int) := by omega
          have k3 : (0 : Int) ≤ (p : Int) := by omega
          have k4 : (p : Int) < (p : Int) + 1 := by omega
          clear hl hll ul c2 hy hgl hgl2 hbl
          go_wp2_with (at_builtin; refine wpList_append_rd _ rfl (.tmp 118) (.tmp 126) _ rfl wo.heap.size 5 i0 _ 1 1 Try.underlying57 HI.out.1 HI.out.2.1 HI.out.2.2.1 HI.out.2.2.2 rfl (by omega) _ k _ rfl (O.out.alloc _) (some ⟨wr.heap.size, 0, none⟩) 1 1 [.int .u8 (y : Int)] rfl (rd_one (t := 5) (blk_new _ _)) (int_one _ _) (by simp only [maxLen]; omega) (by omega) (by have q := N.out.size; simp; omega) ?_; intro v1 w1 hown1 hg1 hat1; have O1 := Lib.hid hown1; have N1 : Hid (Below wo.heap.size wo w1) := Lib.hid (gbel hg1 (Bal N.out _) (fun g hg => (O.out.lt g hg).1)); clear hown1 hg1 hat1)
          refine ⟨⟨k + 1, by omega, by go_num, ?_, N1⟩, by simp [intOf]; omega⟩
          rw [EY.out, bv_append]
          exact O1
        · have hkp : k = p := by omega
          subst hkp
          go_wp2_with fail
          go_ret
          have h9 : wr.ownsRow wo.heap.size 5 1 u11 (lastC X k k).length (bv (lastC X k k)) := by rw [lastC_len]; exact O.out
          exact ⟨_, rfl, by rw [← HXX.out]; exact own_mono h9 K.out.bel.size, K.out.bel.trans (N.out.mono (Nat.le_trans hB K.out.bel.size))⟩
end Go.Proofs.Ytmpmeeacdllomaa
