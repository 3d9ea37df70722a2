/- Several texts in one. -/
import Derived.Test.YtfangplfbbgphaaGreatDoorRows
import Derived.Deep.DeepHandedRow
import Derived.ProofKit
import Derived.SizedLaws
import Derived.Stop.LaidErr
import Derived.Lib.LaidTab
import Derived.Test.YtfangplfbbgphaaGreatDoorMC17
import Derived.Test.YtfangplfbbgphaaGreatDoorMC20
import Derived.Test.YtfangplfbbgphaaGreatDoorMC21
namespace Go.Proofs.YtfangplfbbgphaaGreatDoor
open Go.ChangeShapes Go.WideShapes Go.ChangeAt Go.RowKit
set_option linter.unusedVariables false
set_option maxRecDepth 100000
set_option linter.unusedSimpArgs false
attribute [local go_sem ↓] Go.wp_at_zero Go.wp_at_succ
attribute [local go_sem ↓] eqVe
theorem eqPr (p q : Nat × Nat) (w : World) : (Op.equalIn 10000 43 (.agg #[.int .i64 (p.1 : Int), .int .i64 (p.2 : Int)]) (.agg #[.int .i64 (q.1 : Int), .int .i64 (q.2 : Int)])).run Tryz.prog w = .ok (decide (p = q)) w := by
 obtain ⟨a1, a2⟩ := p
 obtain ⟨b1, b2⟩ := q
 have uu := Tryz.underlying3
 have ua := Tryz.isAgg3
 have uz := Tryz.sizeOf3
 rw [show (10000 : Nat) = 9999 + 1 from rfl, Op.equalIn]
 simp only [Sem.run_bind, run_underlying Tryz.underlying43, Result.andThen_ok]
 go_simp
 by_cases h1 : (a1 : Int) = (b1 : Int) <;> by_cases h2 : (a2 : Int) = (b2 : Int) <;> simp [h1, h2] <;> omega
attribute [local go_sem ↓] eqPr
theorem li_pr {A B : Int} {l : List St} (h : plE A B l = 0) {p : Nat × Nat} (hp : p ∈ prs l.length) : liE A B l p.1 p.2 = 0 ∧ liV A B l p.1 p.2 = lnOf (lnS A B) l p := by
 obtain ⟨s, t, hs, ht, _, _, e⟩ := lnOf_at (ln := lnS A B) (plE_len h) hp
 have hi := get_lt hs
 have hj := get_lt ht
 have h0 : liE A B l p.1 p.2 = 0 := by
  unfold liE
  rw [if_neg (by rw [h]; simp), show (inB (p.1 : Int) l.length && inB (p.2 : Int) l.length) = true by unfold inB; rw [decide_eq_true (by omega : 0 ≤ (p.1 : Int)), decide_eq_true (by omega : (p.1 : Int) < (l.length : Int)), decide_eq_true (by omega : 0 ≤ (p.2 : Int)), decide_eq_true (by omega : (p.2 : Int) < (l.length : Int))]; rfl]
  rfl
 refine ⟨h0, ?_⟩
 unfold liV
 rw [if_pos h0, Int.toNat_natCast, Int.toNat_natCast, hs, ht, e]; rfl
theorem info_int : (Tryz.prog.info? 3).map (fun i => (i.zero, i.size, i.bytes)) = some (some (.int .i64 0), 1, 8) := by kernel_rfl
theorem make_ints (n : Nat) (h : n ≤ 1000) (W : World) : (Instr.makeSlice 34 (.int .i64 (n : Int)) (.int .i64 (n : Int))).run Tryz.prog W = .ok (.slice (some ⟨W.heap.size, 0, none⟩) n n) (W.alloc (.cells (lv (List.replicate n 0)).toArray 3)) := by
 obtain ⟨i, hi, hz, hs, hb⟩ := info_parts info_int
 have h1 := run_make (P := Tryz.prog) W 34 3 i _ Tryz.underlying34 hi hz .i64 .i64 (n : Int) (n : Int) (by omega) (by omega) (by rw [hb]; omega) (by omega)
 rw [hs, Int.toNat_natCast, Nat.mul_one] at h1
 rw [show (lv (List.replicate n 0)).toArray = madeCells #[.int .i64 0] n by
  unfold lv
  rw [List.map_replicate]
  apply Array.ext
  ·simp [madeCells]
  ·intro i h1 h2; simp [madeCells, Nat.mod_one]]
 exact h1
theorem aclasses_ok {A B : Int} {a : Option Addr} {c : Nat} {l : List St} {w : World} (h : plE A B l = 0) (hl : RSt w a l) (hc : l.length ≤ c) (hc' : c ≤ 9223372036854775807) (hn : ∀ x ∈ l, x.nm.size ≤ 9223372036854775807) : Calls Tryz.prog 10 #[Gv A B, .slice a l.length c] w fun e w' =>
  ∃ Ak ck hs, e = .returned (.tuple #[.slice Ak (clsL A B l).length ck, .int .i64 0]) ∧ Below w.heap.size w w' ∧ (clsL A B l).length ≤ ck ∧ ck ≤ 9223372036854775807 ∧ OC w.heap.size w' (.slice Ak (clsL A B l).length ck) (clsL A B l) hs := by
 refine (aclasses_calls (A := A) (B := B) hl hc hc' hn).mono ?_
 rintro e w' ⟨v, rfl, hb, -, h2⟩
 rw [h] at h2 ⊢
 obtain ⟨hs, h4⟩ := h2 rfl
 obtain ⟨A0, c0, hv, h5, h6, -⟩ := Rd.of_own h4.row
 subst hv
 exact ⟨A0, c0, hs, rfl, hb, h5, h6, h4⟩
theorem apairs_ok {n : Nat} (h : n < 9) (w : World) : Calls Tryz.prog 11 #[.int .i64 (n : Int)] w fun e w' =>
  ∃ Ax cx, e = .returned (.tuple #[.slice Ax (prs n).length cx, .int .i64 0]) ∧ Below w.heap.size w w' ∧ (prs n).length ≤ cx ∧ cx ≤ 9223372036854775807 ∧ RPr w' Ax (prs n) := by
 have e0 : prE (n : Int) = 0 := by unfold prE; rw [if_neg (by omega)]
 refine (apairs_calls n w).mono ?_
 rintro e w' ⟨v, rfl, hb, h0, h1⟩
 rw [e0] at *
 have h2 := h1 rfl
 rw [Int.toNat_natCast] at h2
 obtain ⟨A1, c1, rfl, h2, h3, h4⟩ := Rd.of_own h2
 exact ⟨A1, c1, rfl, hb, h2, h3, h4⟩
def seenD (cs : List Cl) (k : Nat) (l : List (Nat × Nat)) : List (Nat × Nat) := (cs.take k).flatMap (·.2) ++ l
theorem seenD_zero (cs : List Cl) : seenD cs 0 [] = [] := by simp [seenD]
theorem seenD_next {cs : List Cl} {k : Nat} {c : Cl} (h : cs[k]? = some c) : seenD cs k c.2 = seenD cs (k + 1) [] := by
 unfold seenD
 obtain ⟨h1, h2⟩ := List.getElem?_eq_some_iff.1 h
 rw [← List.take_append_getElem h1, List.flatMap_append, h2]; simp
theorem seenD_snoc (cs : List Cl) (k : Nat) {l : List (Nat × Nat)} {j : Nat} {p : Nat × Nat} (h : l[j]? = some p) : seenD cs k (l.take j) ++ [p] = seenD cs k (l.take (j + 1)) := by
 unfold seenD
 obtain ⟨h1, h2⟩ := List.getElem?_eq_some_iff.1 h
 rw [← List.take_append_getElem h1, h2, List.append_assoc]
theorem seenD_count {cs : List Cl} {k : Nat} {c : Cl} (h : cs[k]? = some c) (j : Nat) (q : Nat × Nat) : (seenD cs k (c.2.take j)).count q ≤ (cs.flatMap (·.2)).count q := by
 have e := congrArg (fun l : List Cl => (l.flatMap (·.2)).count q) (split_at h)
 simp only [List.flatMap_append, List.flatMap_cons, List.count_append] at e
 unfold seenD
 rw [List.count_append, e]
 have := (List.take_sublist j c.2).count_le q
 omega
theorem ClInv.small {L : Nat × Nat → V6} {cs : List Cl} {n : Nat} (h : ClInv L cs (prs n)) (h8 : n < 9) {k : Nat} {c : Cl} (hk : cs[k]? = some c) (j : Nat) (q : Nat × Nat) : (seenD cs k (c.2.take j)).count q ≤ 28 :=
 Nat.le_trans (seenD_count hk j q) (by rw [h.cnt]; exact Nat.le_trans List.count_le_length (prs_len8 h8))
theorem ClInv.all {L : Nat × Nat → V6} {cs : List Cl} {n : Nat} (h : ClInv L cs (prs n)) (h8 : n < 9) {k : Nat} (hk : cs.length ≤ k) {q : Nat × Nat} (hq : q ∈ prs n) : (seenD cs k []).count q = 1 := by
 unfold seenD
 rw [List.append_nil, List.take_of_length_le hk, h.cnt]
 exact (prs_one h8).2 q hq
theorem ClInv.mem {L : Nat × Nat → V6} {cs : List Cl} {D : List (Nat × Nat)} (h : ClInv L cs D) {c : Cl} (hc : c ∈ cs) {p : Nat × Nat} (hp : p ∈ c.2) : p ∈ D := by
 have : 0 < (cs.flatMap (·.2)).count p := List.count_pos_iff.2 (List.mem_flatMap.2 ⟨c, hc, hp⟩)
 rw [h.cnt] at this
 exact List.count_pos_iff.1 this
theorem ClInv.okv {A B : Int} {l : List St} {cs : List Cl} (hp : plE A B l = 0) (h : ClInv (lnOf (lnS A B) l) cs (prs l.length)) {c : Cl} (hc : c ∈ cs) : okV c.1 = true := by
 obtain ⟨p, hpm, e⟩ := h.src c hc
 obtain ⟨s, t, _, _, ms, mt, e2⟩ := lnOf_at (ln := lnS A B) (plE_len hp) hpm
 rw [e, e2]
 exact subV_ok (line_ok hp ms mt)
set_option maxRecDepth 100000 in
set_option maxHeartbeats 16000000 in
theorem lclasses_calls {A B : Int} {a : Option Addr} {c : Nat} {l : List St} {w : World} (g : GT w) (hl : RSt w a l) (hc : l.length ≤ c) (hc' : c ≤ 9223372036854775807) : Calls Tryz.prog 3 #[Gv A B, .slice a l.length c] w fun e w' => e = .returned (.bool true) ∧ Below w.heap.size w w' := by
 have NN := Lib.hid (Below.refl w.heap.size w)
 have GG := Lib.hid g
 have HL := Lib.hid hl
 have FC := Lib.hid (fun (W : World) (hb : Below w.heap.size w W) => fit_calls (A := A) (B := B) (hl.next hb) hc hc')
 clear g hl
 cases hf : fitB A B l
 ·rw [hf] at FC
  clear hf
  go_enter Tryz.func3, Tryz.ntmps3
  go_wp2_with fail
  have G : Hid ((w.alloc (.cells #[.int .i64 A, .int .i64 B] 23)).heap[w.heap.size]? = some (.cells #[.int .i64 A, .int .i64 B] 23)) := Lib.hid (blk_new w _)
  replace NN : Hid (Below w.heap.size w (w.alloc (.cells #[.int .i64 A, .int .i64 B] 23))) := Lib.hid (Bal NN.out _)
  generalize (w.alloc (.cells #[.int .i64 A, .int .i64 B] 23)) = W1 at *
  refine (FC.out _ NN.out).mono ?_
  rintro e w2 ⟨rfl, hb⟩
  replace NN := Lib.hid (Bgo NN.out hb)
  replace G := Lib.hid (blk_next hb G.out)
  clear hb
  go_wp2_with fail
  refine (alive_calls _ (GG.out.next NN.out)).mono ?_
  rintro e w3 ⟨rfl, hb⟩
  replace NN := Lib.hid (Bgo NN.out hb)
  replace G := Lib.hid (blk_next hb G.out)
  clear hb
  go_wp2_with fail
  go_ret
  exact ⟨rfl, NN.out⟩
 rw [hf] at FC
 have hp := fit_ok hf
 have HN := Lib.hid (fit_nm hf)
 clear hf
 have IV := Lib.hid (clsL_inv hp)
 have OKV := Lib.hid (fun c (hc : c ∈ clsL A B l) => IV.out.okv hp hc)
 have LI := Lib.hid (fun p (hm : p ∈ prs l.length) => li_pr hp hm)
 have N9 := Lib.hid (plE_len hp)
 have CC := Lib.hid (fun (W : World) (hb : Below w.heap.size w W) => aclasses_ok hp (HL.out.next hb) hc hc' HN.out)
 have PC := Lib.hid (fun W => apairs_ok N9.out W)
 have LC := Lib.hid (fun (p : Nat × Nat) (hm : p ∈ prs l.length) (W : World) (hb : Below w.heap.size w W) => by have h := aline_calls p.1 p.2 (A := A) (B := B) (HL.out.next hb) hc hc' HN.out; rw [(LI.out p hm).1, (LI.out p hm).2] at h; exact h)
 have P8 := Lib.hid (prs_len8 N9.out)
 have MK := Lib.hid (fun W => make_ints (prs l.length).length (Nat.le_trans P8.out (by decide)) W)
 have TD : Hid (((l.length : Int) * ((l.length : Int) - 1)).tdiv 2 = ((prs l.length).length : Int)) := Lib.hid (by
  have h9 := N9.out
  rw [(prs_one h9).1]
  have h : l.length = 0 ∨ l.length = 1 ∨ l.length = 2 ∨ l.length = 3 ∨ l.length = 4 ∨ l.length = 5 ∨ l.length = 6 ∨ l.length = 7 ∨ l.length = 8 := by omega
  rcases h with h | h | h | h | h | h | h | h | h <;> (rw [h]; rfl))
 have INP := Lib.hid (fun (p : Nat × Nat) c (hc : c ∈ clsL A B l) (hp : p ∈ c.2) => IV.out.mem hc hp)
 clear LI hp
 generalize clsL A B l = cs at *
 generalize hL : lnOf (lnS A B) l = L at *
 clear hL
 obtain ⟨P, hP⟩ : ∃ P, prs l.length = P := ⟨_, rfl⟩
 have SMA := Lib.hid (fun k c (hk : cs[k]? = some c) j q => IV.out.small N9.out hk j q)
 have ALL := Lib.hid (fun k (hk : cs.length ≤ k) q hq => IV.out.all N9.out hk (q := q) hq)
 simp only [hP] at INP P8 MK TD LC PC SMA ALL
 clear hP
 go_enter Tryz.func3, Tryz.ntmps3
 go_wp2_with fail
 have G : Hid ((w.alloc (.cells #[.int .i64 A, .int .i64 B] 23)).heap[w.heap.size]? = some (.cells #[.int .i64 A, .int .i64 B] 23)) := Lib.hid (blk_new w _)
 replace NN : Hid (Below w.heap.size w (w.alloc (.cells #[.int .i64 A, .int .i64 B] 23))) := Lib.hid (Bal NN.out _)
 generalize (w.alloc (.cells #[.int .i64 A, .int .i64 B] 23)) = W4 at *
 refine (FC.out _ NN.out).mono ?_
 rintro e w5 ⟨rfl, hb⟩
 replace NN := Lib.hid (Bgo NN.out hb)
 replace G := Lib.hid (blk_next hb G.out)
 clear hb
 have c_G_0 := blk_cell G.out 0 _ rfl
 have f_G_0 := blk_frozen G.out 0
 have c_G_1 := blk_cell G.out 1 _ rfl
 have f_G_1 := blk_frozen G.out 1
 have l_G := blk_lt G.out
 go_wp2_with fail
 clear c_G_0 f_G_0 c_G_1 f_G_1 l_G
 refine (CC.out _ NN.out).mono ?_
 rintro e w6 ⟨Ak, ck, hs, rfl, hb, k1, k2, ho⟩
 replace NN := Lib.hid (Bgo NN.out hb)
 replace G := Lib.hid (blk_next hb G.out)
 clear hb
 have OX := Lib.hid ho
 have K1 := Lib.hid k1
 have K2 := Lib.hid k2
 clear ho k1 k2
 go_wp2_with fail
 refine (PC.out _).mono ?_
 rintro e w7 ⟨Ap, cp, rfl, hb, k1, k2, hr⟩
 replace NN := Lib.hid (Bgo NN.out hb)
 replace OX := Lib.hid (OC.next OX.out hb)
 replace G := Lib.hid (blk_next hb G.out)
 clear hb
 have RP := Lib.hid hr
 have J1 := Lib.hid k1
 have J2 := Lib.hid k2
 clear hr k1 k2
 have td := TD.out
 have hpl : P.length ≤ 28 := P8.out
 have hnl : l.length < 9 := N9.out
 have mk := MK.out
 have hmm : (l.length : Int) * ((l.length : Int) - 1) ≤ 72 ∧ -72 ≤ (l.length : Int) * ((l.length : Int) - 1) := by
  have h : l.length = 0 ∨ l.length = 1 ∨ l.length = 2 ∨ l.length = 3 ∨ l.length = 4 ∨ l.length = 5 ∨ l.length = 6 ∨ l.length = 7 ∨ l.length = 8 := by omega
  rcases h with h | h | h | h | h | h | h | h | h <;> (rw [h]; decide)
 skip
 go_wp2_with fail
 clear td hmm mk
 have NNc := NN
 have SZW : Hid (w.heap.size ≤ w7.heap.size) := Lib.hid NN.out.size
 have G0 := G
 have RP0 := RP
 have OX0 := OX
 clear NN G RP OX
 have NN : Hid (Below w7.heap.size w7 (w7.alloc (.cells (lv (List.replicate P.length 0)).toArray 3))) := Lib.hid (Bal (Below.refl _ _) _)
 have H : Hid ((w7.alloc (.cells (lv (List.replicate P.length 0)).toArray 3)).heap[w7.heap.size]? = some (.cells (lv (hadD P (seenD cs 0 []))).toArray 3)) := Lib.hid (by rw [seenD_zero, hadD_nil]; exact blk_new w7 _)
 go_loopw [10] (fun i wr => ∃ k : Nat, k ≤ cs.length ∧ i = .int .i64 k ∧ Hid (Below w7.heap.size w7 wr) ∧ Hid (wr.heap[w7.heap.size]? = some (.cells (lv (hadD P (seenD cs k []))).toArray 3))) (fun i _ => cs.length - (intOf i).toNat)
 case atStart => exact ⟨0, by omega, rfl, NN, H⟩
 case round =>
  clear NN H
  obtain ⟨k, hk, rfl, NN, H⟩ := hrel
  have cb : cs.length ≤ 9223372036854775807 := Nat.le_trans K1.out K2.out
  by_cases hlt : k < cs.length
  ·obtain ⟨c, hcv⟩ := get_some hlt
   obtain ⟨u, hu⟩ := get_some (show k < hs.length by rw [OX0.out.len]; exact hlt)
   obtain ⟨gc, cur, hA, -, hcu, hcl⟩ := OX0.out.cells (by omega)
   subst hA
   obtain ⟨Au, cu, hu0, hun, huc, hru⟩ := Rd.of_own (OX0.out.inn k c u hcv hu)
   subst hu0
   have HCV := Lib.hid hcv
   have HCM := Lib.hid (List.mem_of_getElem? hcv)
   have CU0 := Lib.hid hcu
   have RU0 := Lib.hid hru
   have HUN := Lib.hid hun
   have HUC := Lib.hid huc
   have CLA := Lib.hid (fun X (hX : X.heap[gc]? = some (.cells cur 40)) k' c' u' (h1 : cs[k']? = some c') (h2 : hs[k']? = some u') j y hy => hcl X hX k' c' u' h1 h2 j y hy)
   have CLs := Lib.hid (fun X hX j y hy => CLA.out X hX k c _ hcv hu j y hy)
   have kk : k + 1 ≤ cs.length := hlt
   have k1 : (k : Int) < (cs.length : Int) := by omega
   have ne0 : ((c.2.length : Int) == 0) = false := by
    rw [beq_eq_false_iff_ne]
    have := List.length_pos_iff.2 (IV.out.ne c HCM.out)
    omega
   have OKC := Lib.hid (OKV.out c HCM.out)
   have pb : c.2.length ≤ 9223372036854775807 := Nat.le_trans HUN.out HUC.out
   clear hcv hu hcu hcl hru hun huc
   have CU := Lib.hid (blk_next NN.out CU0.out)
   have cc6 := CLs.out _ CU.out 6 _ rfl
   have lc := blk_lt CU.out
   go_wp2_with fail
   clear cc6 lc
   go_loopw [11] (fun i wr => ∃ j : Nat, j ≤ k ∧ i = .int .i64 j ∧ Hid (Below w7.heap.size w7 wr) ∧ Hid (wr.heap[w7.heap.size]? = some (.cells (lv (hadD P (seenD cs k []))).toArray 3))) (fun i _ => k - (intOf i).toNat)
   case atStart => exact ⟨0, by omega, rfl, NN, H⟩
   case round =>
    clear NN H CU
    obtain ⟨j, hj, rfl, NN, H⟩ := hrel
    by_cases hjk : j < k
    ·obtain ⟨d, hd⟩ := get_some (show j < cs.length by omega)
     obtain ⟨u2, hu2⟩ := get_some (show j < hs.length by rw [OX0.out.len]; omega)
     have j1 : (j : Int) < (cs.length : Int) := by omega
     have jk1 : j + 1 ≤ k := hjk
     obtain ⟨hn1, hn2⟩ := IV.out.apart j k d c hjk hd HCV.out
     have dn1 : decide (d.1 = c.1) = false := decide_eq_false hn1
     have dn2 : decide (d.1 = negV c.1) = false := decide_eq_false hn2
     have CLd := Lib.hid (fun X hX i y hy => CLA.out X hX j d u2 hd hu2 i y hy)
     clear hd hu2 hn1 hn2
     have CU := Lib.hid (blk_next NN.out CU0.out)
     go_upto_region 16 with fail
     have HDRW := Lib.hid (Below.drew (Below.refl wr.heap.size wr))
     replace NN := Lib.hid (Bgo NN.out HDRW.out)
     replace H := Lib.hid (blk_next HDRW.out H.out)
     replace CU := Lib.hid (blk_next HDRW.out CU.out)
     clear HDRW
     have HAL : Hid (∀ kx9 : Nat, GK [(4, gc, .cells cur 40), (9, gc, .cells cur 40), (16, gc, .cells cur 40), (21, gc, .cells cur 40)] kx9 wr.drew) := Lib.hid (fun kx9 => fun px9 hp e => by
      simp only [List.mem_cons, List.not_mem_nil, or_false] at hp
      rcases hp with rfl | rfl | rfl | rfl
      ·exact CU.out
      ·exact CU.out
      ·exact CU.out
      ·exact CU.out
     )
     refine region_G (S := GK [(4, gc, .cells cur 40), (9, gc, .cells cur 40), (16, gc, .cells cur 40), (21, gc, .cells cur 40)]) (by kernel_rfl) ?_
     refine tG 0 (.slice (some ⟨gc, 0, none⟩) cs.length ck) (some 74) (GK.grow _) rfl (YieldsIf.toG (Or.inl ⟨by rfl, ?_⟩)) (GK.drop (by simp)) ?_
     ·intro X hX
      clear hX
      go_simp
     try simp only [Act.put, zA, zB, zC]
     refine tG 1 (.int .i64 (j : Int)) (some 75) (GK.grow _) rfl (YieldsIf.toG (Or.inl ⟨by rfl, ?_⟩)) (GK.drop (by simp)) ?_
     ·intro X hX
      clear hX
      go_simp
     try simp only [Act.put, zA, zB, zC]
     refine tG 2 (.pointer (some ⟨gc, j * 7, none⟩)) (some 76) (GK.grow _) rfl (YieldsIf.toG (Or.inl ⟨by rfl, ?_⟩)) (GK.drop (by simp)) ?_
     ·intro X hX
      clear hX
      go_simp
     try simp only [Act.put, zA, zB, zC]
     refine tG 3 (.pointer (some ⟨gc, j * 7, none⟩)) (some 77) (GK.grow _) rfl (YieldsIf.toG (Or.inl ⟨by rfl, ?_⟩)) (GK.drop (by simp)) ?_
     ·intro X hX
      clear hX
      go_simp
     try simp only [Act.put, zA, zB, zC]
     refine tG 4 (.agg #[.int .i64 d.1.x1, .int .i64 d.1.x2, .int .i64 d.1.y1, .int .i64 d.1.y2, .int .i64 d.1.z1, .int .i64 d.1.z2]) (some 78) (GK.grow _) rfl (YieldsIf.toG (Or.inl ⟨by rfl, ?_⟩)) (HAL.out 4) ?_
     ·intro X hX
      have hh := hX (4, gc, .cells cur 40) (List.Mem.head _) rfl
      have hh0 := CLd.out _ hh 0 _ rfl
      simp only [Nat.add_zero] at hh0
      have hh1 := CLd.out _ hh 1 _ rfl
      have hh2 := CLd.out _ hh 2 _ rfl
      have hh3 := CLd.out _ hh 3 _ rfl
      have hh4 := CLd.out _ hh 4 _ rfl
      have hh5 := CLd.out _ hh 5 _ rfl
      have hhl := blk_lt hh
      clear hh
      clear hX
      go_simp
     try simp only [Act.put, zA, zB, zC]
     refine tG 5 (.slice (some ⟨gc, 0, none⟩) cs.length ck) (some 79) (GK.grow _) rfl (YieldsIf.toG (Or.inl ⟨by rfl, ?_⟩)) (GK.drop (by simp)) ?_
     ·intro X hX
      clear hX
      go_simp
     try simp only [Act.put, zA, zB, zC]
     refine tG 6 (.int .i64 (k : Int)) (some 80) (GK.grow _) rfl (YieldsIf.toG (Or.inl ⟨by rfl, ?_⟩)) (GK.drop (by simp)) ?_
     ·intro X hX
      clear hX
      go_simp
     try simp only [Act.put, zA, zB, zC]
     refine tG 7 (.pointer (some ⟨gc, k * 7, none⟩)) (some 81) (GK.grow _) rfl (YieldsIf.toG (Or.inl ⟨by rfl, ?_⟩)) (GK.drop (by simp)) ?_
     ·intro X hX
      clear hX
      go_simp
     try simp only [Act.put, zA, zB, zC]
     refine tG 8 (.pointer (some ⟨gc, k * 7, none⟩)) (some 82) (GK.grow _) rfl (YieldsIf.toG (Or.inl ⟨by rfl, ?_⟩)) (GK.drop (by simp)) ?_
     ·intro X hX
      clear hX
      go_simp
     try simp only [Act.put, zA, zB, zC]
     refine tG 9 (.agg #[.int .i64 c.1.x1, .int .i64 c.1.x2, .int .i64 c.1.y1, .int .i64 c.1.y2, .int .i64 c.1.z1, .int .i64 c.1.z2]) (some 83) (GK.grow _) rfl (YieldsIf.toG (Or.inl ⟨by rfl, ?_⟩)) (HAL.out 9) ?_
     ·intro X hX
      have hh := hX (9, gc, .cells cur 40) (List.Mem.tail _ (List.Mem.head _)) rfl
      have hh0 := CLs.out _ hh 0 _ rfl
      simp only [Nat.add_zero] at hh0
      have hh1 := CLs.out _ hh 1 _ rfl
      have hh2 := CLs.out _ hh 2 _ rfl
      have hh3 := CLs.out _ hh 3 _ rfl
      have hh4 := CLs.out _ hh 4 _ rfl
      have hh5 := CLs.out _ hh 5 _ rfl
      have hhl := blk_lt hh
      clear hh
      clear hX
      go_simp
     try simp only [Act.put, zA, zB, zC]
     refine tG 10 (.bool false) (some 84) (GK.grow _) rfl (YieldsIf.toG (Or.inl ⟨by rfl, ?_⟩)) (GK.drop (by simp)) ?_
     ·intro X hX
      clear hX
      go_simp
     try simp only [Act.put, zA, zB, zC]
     refine tG 11 (.bool false) (some 85) (GK.grow _) rfl (YieldsIf.toG (Or.inl ⟨by rfl, ?_⟩)) (GK.drop (by simp)) ?_
     ·intro X hX
      clear hX
      go_simp
     try simp only [Act.put, zA, zB, zC]
     refine tG 12 (.slice (some ⟨gc, 0, none⟩) cs.length ck) (some 86) (GK.grow _) rfl (YieldsIf.toG (Or.inl ⟨by rfl, ?_⟩)) (GK.drop (by simp)) ?_
     ·intro X hX
      clear hX
      go_simp
     try simp only [Act.put, zA, zB, zC]
     refine tG 13 (.int .i64 (j : Int)) (some 87) (GK.grow _) rfl (YieldsIf.toG (Or.inl ⟨by rfl, ?_⟩)) (GK.drop (by simp)) ?_
     ·intro X hX
      clear hX
      go_simp
     try simp only [Act.put, zA, zB, zC]
     refine tG 14 (.pointer (some ⟨gc, j * 7, none⟩)) (some 88) (GK.grow _) rfl (YieldsIf.toG (Or.inl ⟨by rfl, ?_⟩)) (GK.drop (by simp)) ?_
     ·intro X hX
      clear hX
      go_simp
     try simp only [Act.put, zA, zB, zC]
     refine tG 15 (.pointer (some ⟨gc, j * 7, none⟩)) (some 89) (GK.grow _) rfl (YieldsIf.toG (Or.inl ⟨by rfl, ?_⟩)) (GK.drop (by simp)) ?_
     ·intro X hX
      clear hX
      go_simp
     try simp only [Act.put, zA, zB, zC]
     refine tG 16 (.agg #[.int .i64 d.1.x1, .int .i64 d.1.x2, .int .i64 d.1.y1, .int .i64 d.1.y2, .int .i64 d.1.z1, .int .i64 d.1.z2]) (some 90) (GK.grow _) rfl (YieldsIf.toG (Or.inl ⟨by rfl, ?_⟩)) (HAL.out 16) ?_
     ·intro X hX
      have hh := hX (16, gc, .cells cur 40) (List.Mem.tail _ (List.Mem.tail _ (List.Mem.head _))) rfl
      have hh0 := CLd.out _ hh 0 _ rfl
      simp only [Nat.add_zero] at hh0
      have hh1 := CLd.out _ hh 1 _ rfl
      have hh2 := CLd.out _ hh 2 _ rfl
      have hh3 := CLd.out _ hh 3 _ rfl
      have hh4 := CLd.out _ hh 4 _ rfl
      have hh5 := CLd.out _ hh 5 _ rfl
      have hhl := blk_lt hh
      clear hh
      clear hX
      go_simp
     try simp only [Act.put, zA, zB, zC]
     refine tG 17 (.slice (some ⟨gc, 0, none⟩) cs.length ck) (some 91) (GK.grow _) rfl (YieldsIf.toG (Or.inl ⟨by rfl, ?_⟩)) (GK.drop (by simp)) ?_
     ·intro X hX
      clear hX
      go_simp
     try simp only [Act.put, zA, zB, zC]
     refine tG 18 (.int .i64 (k : Int)) (some 92) (GK.grow _) rfl (YieldsIf.toG (Or.inl ⟨by rfl, ?_⟩)) (GK.drop (by simp)) ?_
     ·intro X hX
      clear hX
      go_simp
     try simp only [Act.put, zA, zB, zC]
     refine tG 19 (.pointer (some ⟨gc, k * 7, none⟩)) (some 93) (GK.grow _) rfl (YieldsIf.toG (Or.inl ⟨by rfl, ?_⟩)) (GK.drop (by simp)) ?_
     ·intro X hX
      clear hX
      go_simp
     try simp only [Act.put, zA, zB, zC]
     refine tG 20 (.pointer (some ⟨gc, k * 7, none⟩)) (some 94) (GK.grow _) rfl (YieldsIf.toG (Or.inl ⟨by rfl, ?_⟩)) (GK.drop (by simp)) ?_
     ·intro X hX
      clear hX
      go_simp
     try simp only [Act.put, zA, zB, zC]
     refine tG 21 (.agg #[.int .i64 c.1.x1, .int .i64 c.1.x2, .int .i64 c.1.y1, .int .i64 c.1.y2, .int .i64 c.1.z1, .int .i64 c.1.z2]) (some 95) (GK.grow _) rfl (YieldsIf.toG (Or.inl ⟨by rfl, ?_⟩)) (HAL.out 21) ?_
     ·intro X hX
      have hh := hX (21, gc, .cells cur 40) (List.Mem.tail _ (List.Mem.tail _ (List.Mem.tail _ (List.Mem.head _)))) rfl
      have hh0 := CLs.out _ hh 0 _ rfl
      simp only [Nat.add_zero] at hh0
      have hh1 := CLs.out _ hh 1 _ rfl
      have hh2 := CLs.out _ hh 2 _ rfl
      have hh3 := CLs.out _ hh 3 _ rfl
      have hh4 := CLs.out _ hh 4 _ rfl
      have hh5 := CLs.out _ hh 5 _ rfl
      have hhl := blk_lt hh
      clear hh
      clear hX
      go_simp
     try simp only [Act.put, zA, zB, zC]
     have CFn : ∀ (args : Array Value) (W : World), Sem.run Tryz.prog (callFunc 12 args) W = .ok (.enter 12 args) W := fun _ _ => by kernel_rfl
     refine tG 22 (.agg #[.int .i64 (negV c.1).x1, .int .i64 (negV c.1).x2, .int .i64 (negV c.1).y1, .int .i64 (negV c.1).y2, .int .i64 (negV c.1).z1, .int .i64 (negV c.1).z2]) (some 96) (GK.grow _) rfl (yieldsG_call 12 #[.agg #[.int .i64 c.1.x1, .int .i64 c.1.x2, .int .i64 c.1.y1, .int .i64 c.1.y2, .int .i64 c.1.z1, .int .i64 c.1.z2]] (by rfl) ?_ (fun X hS => rvneg_calls c.1 OKC.out X)) (GK.drop (by simp)) ?_
     ·intro X hX
      clear hX
      go_simp
     clear CFn
     try simp only [Act.put, zA, zB, zC]
     refine tG 23 (.bool false) (some 97) (GK.grow _) rfl (YieldsIf.toG (Or.inl ⟨by rfl, ?_⟩)) (GK.drop (by simp)) ?_
     ·intro X hX
      clear hX
      go_simp
     try simp only [Act.put, zA, zB, zC]
     refine tG 24 (.bool false) (some 98) (GK.grow _) rfl (YieldsIf.toG (Or.inl ⟨by rfl, ?_⟩)) (GK.drop (by simp)) ?_
     ·intro X hX
      clear hX
      go_simp
     try simp only [Act.put, zA, zB, zC]
     clear HAL
     refine done_G (by kernel_rfl) (fun X8 hX => ?_) _
     replace NN := Lib.hid (Bgo NN.out hX)
     replace H := Lib.hid (blk_next hX H.out)
     replace CU := Lib.hid (blk_next hX CU.out)
     clear hX
     go_wp2_with fail
     go_roundw
     case rel => exact ⟨j + 1, jk1, by go_num, NN, H⟩
     case measure => simp [intOf]; omega
    ·obtain rfl : k = j := by omega
     clear hjk hj
     go_wp2_with fail
     have H2 : Hid (wr.heap[w7.heap.size]? = some (.cells (lv (hadD P (seenD cs k (c.2.take 0)))).toArray 3)) := H
     clear H
     go_loopw [12] (fun i wr => ∃ j : Nat, j ≤ c.2.length ∧ i = .int .i64 j ∧ Hid (Below w7.heap.size w7 wr) ∧ Hid (wr.heap[w7.heap.size]? = some (.cells (lv (hadD P (seenD cs k (c.2.take j)))).toArray 3))) (fun i _ => c.2.length - (intOf i).toNat)
     case atStart => exact ⟨0, by omega, rfl, NN, H2⟩
     case round =>
      clear NN H2
      obtain ⟨j, hj, rfl, NN, H⟩ := hrel
      have CU := Lib.hid (blk_next NN.out CU0.out)
      have cc6 := CLs.out _ CU.out 6 _ rfl
      have lc := blk_lt CU.out
      by_cases hjl : j < c.2.length
      ·obtain ⟨p, hp⟩ := get_some hjl
       have HPJ := Lib.hid hp
       have HPM := Lib.hid (INP.out p c HCM.out (List.mem_of_getElem? hp))
       obtain ⟨b, off, e, hb, hc0⟩ := Rd.rec_ RU0.out (Nat.le_refl _) pr2_len hp
       subst e
       have c0 := (NN.out.cell (p := ⟨b, off + j * 2, none⟩) hb).trans (hc0 0 _ rfl)
       have c1 := (NN.out.cell (p := ⟨b, off + j * 2 + 1, none⟩) hb).trans (hc0 1 _ rfl)
       have hbr : b < wr.heap.size := Nat.lt_of_lt_of_le hb NN.out.size
       have jj : j + 1 ≤ c.2.length := hjl
       have j1 : (j : Int) < (c.2.length : Int) := by omega
       have HLN := Lib.hid (IV.out.line c HCM.out j p hp)
       clear hp hc0 hb
       have LP := Lib.hid (LC.out p HPM.out)
       have G := Lib.hid (blk_next NN.out G0.out)
       have SZL : Hid (w.heap.size < w7.heap.size) := Lib.hid (blk_lt G0.out)
       have c_G_0 := blk_cell G.out 0 _ rfl
       have f_G_0 := blk_frozen G.out 0
       have c_G_1 := blk_cell G.out 1 _ rfl
       have f_G_1 := blk_frozen G.out 1
       have l_G := blk_lt G.out
       go_wp2_with fail
       clear c_G_0 f_G_0 c_G_1 f_G_1 l_G
       clear cc6 lc c0 c1 hbr
       have VP : Hid ((wr.alloc (.cells #[.int .i64 (p.1 : Int), .int .i64 (p.2 : Int)] 43)).heap[wr.heap.size]? = some (.cells #[.int .i64 (p.1 : Int), .int .i64 (p.2 : Int)] 43)) := Lib.hid (blk_new wr _)
       have LVP : Hid (w7.heap.size < wr.heap.size) := Lib.hid (blk_lt H.out)
       have HB := Lib.hid (Bal (Below.refl wr.heap.size wr) (.cells #[.int .i64 (p.1 : Int), .int .i64 (p.2 : Int)] 43))
       replace NN := Lib.hid (Bgo NN.out HB.out)
       replace H := Lib.hid (blk_next HB.out H.out)
       replace CU := Lib.hid (blk_next HB.out CU.out)
       replace G := Lib.hid (blk_next HB.out G.out)
       clear HB
       generalize wr.alloc (.cells #[.int .i64 (p.1 : Int), .int .i64 (p.2 : Int)] 43) = W9 at *
       generalize wr.heap.size = gp at *
       refine (LP.out _ (NNc.out.trans (NN.out.mono SZW.out))).mono ?_
       rintro e w9 ⟨rfl, hb⟩
       replace NN := Lib.hid (Bgo NN.out hb)
       replace H := Lib.hid (blk_next hb H.out)
       replace CU := Lib.hid (blk_next hb CU.out)
       replace G := Lib.hid (blk_next hb G.out)
       replace VP := Lib.hid (blk_next hb VP.out)
       clear hb
       clear LP
       obtain ⟨v, hv⟩ : ∃ v, v = L p := ⟨_, rfl⟩
       rw [← hv] at HLN ⊢
       clear hv
       have HB := Lib.hid (show Below w9.heap.size w9 (w9.alloc (.cells #[.int .i64 v.x1, .int .i64 v.x2, .int .i64 v.y1, .int .i64 v.y2, .int .i64 v.z1, .int .i64 v.z2] 38)) from (Bal (Below.refl _ _) _))
       have VV : Hid ((w9.alloc (.cells #[.int .i64 v.x1, .int .i64 v.x2, .int .i64 v.y1, .int .i64 v.y2, .int .i64 v.z1, .int .i64 v.z2] 38)).heap[w9.heap.size]? = some (.cells #[.int .i64 v.x1, .int .i64 v.x2, .int .i64 v.y1, .int .i64 v.y2, .int .i64 v.z1, .int .i64 v.z2] 38)) := Lib.hid (blk_new w9 _)
       have LT_VV : Hid (w.heap.size < w9.heap.size ∧ gp < w9.heap.size ∧ w7.heap.size ≤ w9.heap.size) := Lib.hid ⟨blk_lt G.out, blk_lt VP.out, NN.out.size⟩
       replace NN := Lib.hid (Bgo NN.out HB.out)
       replace H := Lib.hid (blk_next HB.out H.out)
       replace CU := Lib.hid (blk_next HB.out CU.out)
       replace G := Lib.hid (blk_next HB.out G.out)
       replace VP := Lib.hid (blk_next HB.out VP.out)
       clear HB
       go_upto_region 23 with fail
       generalize (w9.alloc (.cells #[.int .i64 v.x1, .int .i64 v.x2, .int .i64 v.y1, .int .i64 v.y2, .int .i64 v.z1, .int .i64 v.z2] 38)) = W10 at *
       generalize w9.heap.size = gv at *
       by_cases ev : v = c.1
       ·have dv : decide (v = c.1) = true := decide_eq_true ev
        clear ev
        have HDRW := Lib.hid (Below.drew (Below.refl W10.heap.size W10))
        replace NN := Lib.hid (Bgo NN.out HDRW.out)
        replace H := Lib.hid (blk_next HDRW.out H.out)
        replace CU := Lib.hid (blk_next HDRW.out CU.out)
        replace G := Lib.hid (blk_next HDRW.out G.out)
        replace VP := Lib.hid (blk_next HDRW.out VP.out)
        replace VV := Lib.hid (blk_next HDRW.out VV.out)
        clear HDRW
        have HAL : Hid (∀ kx9 : Nat, GK [(3, gv, .cells #[.int .i64 v.x1, .int .i64 v.x2, .int .i64 v.y1, .int .i64 v.y2, .int .i64 v.z1, .int .i64 v.z2] 38), (8, gc, .cells cur 40)] kx9 W10.drew) := Lib.hid (fun kx9 => fun px9 hp e => by
         simp only [List.mem_cons, List.not_mem_nil, or_false] at hp
         rcases hp with rfl | rfl
         ·exact VV.out
         ·exact CU.out
        )
        refine region_G (S := GK [(3, gv, .cells #[.int .i64 v.x1, .int .i64 v.x2, .int .i64 v.y1, .int .i64 v.y2, .int .i64 v.z1, .int .i64 v.z2] 38), (8, gc, .cells cur 40)]) (by kernel_rfl) ?_
        refine tG 0 (.int .i64 0) (some 127) (GK.grow _) rfl (YieldsIf.toG (Or.inl ⟨by rfl, ?_⟩)) (GK.drop (by simp)) ?_
        ·intro X hX
         clear hX
         go_simp
        try simp only [Act.put, zA, zB, zC]
        refine tG 1 (.bool false) (some 128) (GK.grow _) rfl (YieldsIf.toG (Or.inl ⟨by rfl, ?_⟩)) (GK.drop (by simp)) ?_
        ·intro X hX
         clear hX
         go_simp
        try simp only [Act.put, zA, zB, zC]
        refine tG 2 (.bool false) (some 129) (GK.grow _) rfl (YieldsIf.toG (Or.inl ⟨by rfl, ?_⟩)) (GK.drop (by simp)) ?_
        ·intro X hX
         clear hX
         go_simp
        try simp only [Act.put, zA, zB, zC]
        refine tG 3 (.agg #[.int .i64 v.x1, .int .i64 v.x2, .int .i64 v.y1, .int .i64 v.y2, .int .i64 v.z1, .int .i64 v.z2]) (some 130) (GK.grow _) rfl (YieldsIf.toG (Or.inl ⟨by rfl, ?_⟩)) (HAL.out 3) ?_
        ·intro X hX
         have hh := hX (3, gv, .cells #[.int .i64 v.x1, .int .i64 v.x2, .int .i64 v.y1, .int .i64 v.y2, .int .i64 v.z1, .int .i64 v.z2] 38) (List.Mem.head _) rfl
         have hh0 := blk_cell hh 0 _ rfl
         have hh1 := blk_cell hh 1 _ rfl
         have hh2 := blk_cell hh 2 _ rfl
         have hh3 := blk_cell hh 3 _ rfl
         have hh4 := blk_cell hh 4 _ rfl
         have hh5 := blk_cell hh 5 _ rfl
         have hhl := blk_lt hh
         clear hh
         clear hX
         go_simp
        try simp only [Act.put, zA, zB, zC]
        refine tG 4 (.slice (some ⟨gc, 0, none⟩) cs.length ck) (some 131) (GK.grow _) rfl (YieldsIf.toG (Or.inl ⟨by rfl, ?_⟩)) (GK.drop (by simp)) ?_
        ·intro X hX
         clear hX
         go_simp
        try simp only [Act.put, zA, zB, zC]
        refine tG 5 (.int .i64 (k : Int)) (some 132) (GK.grow _) rfl (YieldsIf.toG (Or.inl ⟨by rfl, ?_⟩)) (GK.drop (by simp)) ?_
        ·intro X hX
         clear hX
         go_simp
        try simp only [Act.put, zA, zB, zC]
        refine tG 6 (.pointer (some ⟨gc, k * 7, none⟩)) (some 133) (GK.grow _) rfl (YieldsIf.toG (Or.inl ⟨by rfl, ?_⟩)) (GK.drop (by simp)) ?_
        ·intro X hX
         clear hX
         go_simp
        try simp only [Act.put, zA, zB, zC]
        refine tG 7 (.pointer (some ⟨gc, k * 7, none⟩)) (some 134) (GK.grow _) rfl (YieldsIf.toG (Or.inl ⟨by rfl, ?_⟩)) (GK.drop (by simp)) ?_
        ·intro X hX
         clear hX
         go_simp
        try simp only [Act.put, zA, zB, zC]
        refine tG 8 (.agg #[.int .i64 c.1.x1, .int .i64 c.1.x2, .int .i64 c.1.y1, .int .i64 c.1.y2, .int .i64 c.1.z1, .int .i64 c.1.z2]) (some 135) (GK.grow _) rfl (YieldsIf.toG (Or.inl ⟨by rfl, ?_⟩)) (HAL.out 8) ?_
        ·intro X hX
         have hh := hX (8, gc, .cells cur 40) (List.Mem.tail _ (List.Mem.head _)) rfl
         have hh0 := CLs.out _ hh 0 _ rfl
         simp only [Nat.add_zero] at hh0
         have hh1 := CLs.out _ hh 1 _ rfl
         have hh2 := CLs.out _ hh 2 _ rfl
         have hh3 := CLs.out _ hh 3 _ rfl
         have hh4 := CLs.out _ hh 4 _ rfl
         have hh5 := CLs.out _ hh 5 _ rfl
         have hhl := blk_lt hh
         clear hh
         clear hX
         go_simp
        try simp only [Act.put, zA, zB, zC]
        refine tG 9 (.bool false) (some 136) (GK.grow _) rfl (YieldsIf.toG (Or.inl ⟨by rfl, ?_⟩)) (GK.drop (by simp)) ?_
        ·intro X hX
         clear hX
         go_simp
        try simp only [Act.put, zA, zB, zC]
        refine tG 10 (.bool false) (some 137) (GK.grow _) rfl (YieldsIf.toG (Or.inl ⟨by rfl, ?_⟩)) (GK.drop (by simp)) ?_
        ·intro X hX
         clear hX
         go_simp
        try simp only [Act.put, zA, zB, zC]
        refine tG 11 (undef) (some 138) (GK.grow _) rfl (YieldsIf.toG (Or.inr ⟨by rfl, rfl⟩)) (GK.drop (by simp)) ?_
        try simp only [Act.put, zA, zB, zC]
        refine tG 12 (undef) (some 139) (GK.grow _) rfl (YieldsIf.toG (Or.inr ⟨by rfl, rfl⟩)) (GK.drop (by simp)) ?_
        try simp only [Act.put, zA, zB, zC]
        refine tG 13 (undef) (some 140) (GK.grow _) rfl (YieldsIf.toG (Or.inr ⟨by rfl, rfl⟩)) (GK.drop (by simp)) ?_
        try simp only [Act.put, zA, zB, zC]
        refine tG 14 (undef) (some 141) (GK.grow _) rfl (YieldsIf.toG (Or.inr ⟨by rfl, rfl⟩)) (GK.drop (by simp)) ?_
        try simp only [Act.put, zA, zB, zC]
        refine tG 15 (undef) (some 142) (GK.grow _) rfl (YieldsIf.toG (Or.inr ⟨by rfl, rfl⟩)) (GK.drop (by simp)) ?_
        try simp only [Act.put, zA, zB, zC]
        refine tG 16 (undef) (some 143) (GK.grow _) rfl (YieldsIf.toG (Or.inr ⟨by rfl, rfl⟩)) (GK.drop (by simp)) ?_
        try simp only [Act.put, zA, zB, zC]
        refine tG 17 (undef) (some 144) (GK.grow _) rfl (YieldsIf.toG (Or.inr ⟨by rfl, rfl⟩)) (GK.drop (by simp)) ?_
        try simp only [Act.put, zA, zB, zC]
        refine tG 18 (undef) (some 145) (GK.grow _) rfl (YieldsIf.toG (Or.inr ⟨by rfl, rfl⟩)) (GK.drop (by simp)) ?_
        try simp only [Act.put, zA, zB, zC]
        refine tG 19 (undef) (some 146) (GK.grow _) rfl (YieldsIf.toG (Or.inr ⟨by rfl, rfl⟩)) (GK.drop (by simp)) ?_
        try simp only [Act.put, zA, zB, zC]
        refine tG 20 (undef) (some 147) (GK.grow _) rfl (YieldsIf.toG (Or.inr ⟨by rfl, rfl⟩)) (GK.drop (by simp)) ?_
        try simp only [Act.put, zA, zB, zC]
        refine tG 21 (undef) (some 148) (GK.grow _) rfl (YieldsIf.toG (Or.inr ⟨by rfl, rfl⟩)) (GK.drop (by simp)) ?_
        try simp only [Act.put, zA, zB, zC]
        refine tG 22 (undef) (some 149) (GK.grow _) rfl (YieldsIf.toG (Or.inr ⟨by rfl, rfl⟩)) (GK.drop (by simp)) ?_
        try simp only [Act.put, zA, zB, zC]
        refine tG 23 (.bool false) (some 150) (GK.grow _) rfl (YieldsIf.toG (Or.inl ⟨by rfl, ?_⟩)) (GK.drop (by simp)) ?_
        ·intro X hX
         clear hX
         go_simp
        try simp only [Act.put, zA, zB, zC]
        refine tG 24 (.bool false) (some 151) (GK.grow _) rfl (YieldsIf.toG (Or.inl ⟨by rfl, ?_⟩)) (GK.drop (by simp)) ?_
        ·intro X hX
         clear hX
         go_simp
        try simp only [Act.put, zA, zB, zC]
        clear HAL
        refine done_G (by kernel_rfl) (fun X11 hX => ?_) _
        replace NN := Lib.hid (Bgo NN.out hX)
        replace H := Lib.hid (blk_next hX H.out)
        replace CU := Lib.hid (blk_next hX CU.out)
        replace G := Lib.hid (blk_next hX G.out)
        replace VP := Lib.hid (blk_next hX VP.out)
        replace VV := Lib.hid (blk_next hX VV.out)
        clear hX
        clear VV G
        go_wp2_with fail
        have H2 : Hid (X11.heap[w7.heap.size]? = some (.cells (lv (hadT P (seenD cs k (c.2.take j)) p 0)).toArray 3)) := Lib.hid (by rw [hadT_zero]; exact H.out)
        clear H
        go_loopw [16] (fun i wr => ∃ t : Nat, t ≤ P.length ∧ i = .int .i64 t ∧ Hid (Below w7.heap.size w7 wr) ∧ Hid (wr.heap[w7.heap.size]? = some (.cells (lv (hadT P (seenD cs k (c.2.take j)) p t)).toArray 3)) ∧ Hid (wr.heap[gp]? = some (.cells #[.int .i64 (p.1 : Int), .int .i64 (p.2 : Int)] 43))) (fun i _ => P.length - (intOf i).toNat)
        case atStart => exact ⟨0, by omega, rfl, NN, H2, VP⟩
        case round =>
         clear NN H2 VP
         obtain ⟨t, ht, rfl, NN, H, VP⟩ := hrel
         by_cases htl : t < P.length
         ·obtain ⟨q, hq⟩ := get_some htl
          obtain ⟨b2, off2, e, hb, hc0⟩ := Rd.rec_ RP0.out (Nat.le_refl _) pr2_len hq
          subst e
          have HQ := Lib.hid hq
          have c0 := (NN.out.cell (p := ⟨b2, off2 + t * 2, none⟩) hb).trans (hc0 0 _ rfl)
          have c1 := (NN.out.cell (p := ⟨b2, off2 + t * 2 + 1, none⟩) hb).trans (hc0 1 _ rfl)
          have hbr : b2 < wr.heap.size := Nat.lt_of_lt_of_le hb NN.out.size
          have v0 := blk_cell VP.out 0 _ rfl
          have v1 := blk_cell VP.out 1 _ rfl
          have lvp := blk_lt VP.out
          have tt : t + 1 ≤ P.length := htl
          have t1 : (t : Int) < (P.length : Int) := by omega
          clear hq hc0 hb
          by_cases hqp : q = p
          ·subst hqp
           have dq : decide (q = q) = true := decide_eq_true rfl
           have CT := Lib.hid (SMA.out k c HCV.out j q)
           have ch := blk_cell H.out t (.int .i64 ((((seenD cs k (c.2.take j)).count q : Nat) : Int))) (by rw [List.getElem?_toArray]; exact lv_get (hadT_get HQ.out))
           have lh := blk_lt H.out
           have fh := blk_frozen H.out t
           have ct := CT.out
           have HS9 : Hid (lv (hadT P (seenD cs k (c.2.take j)) q (t + 1)) = (lv (hadT P (seenD cs k (c.2.take j)) q t)).set t (.int .i64 ((((seenD cs k (c.2.take j)).count q : Nat) : Int) + 1))) := Lib.hid (by rw [hadT_hit HQ.out]; unfold lv; rw [List.map_set])
           generalize (seenD cs k (c.2.take j)).count q = cn at *
           have cw : (cn : Int) + 1 ≤ 29 := by omega
           go_wp2_with fail
           go_quiet (fail)
           replace NN := Lib.hid (below_drewN NN.out nq)
           replace H := Lib.hid (blk_next (below_drewN (Below.refl _ wr) nq) H.out)
           replace VP := Lib.hid (blk_next (below_drewN (Below.refl _ wr) nq) VP.out)
           go_wp2_with fail
           go_roundw
           case rel =>
            refine ⟨t + 1, tt, ?_, ?_, ?_, ?_⟩
            ·go_num
            ·exact Lib.hid (Bset1 NN.out (Nat.le_refl _) t _)
            ·exact Lib.hid (by have h := blk_set H.out t (.int .i64 ((cn : Int) + 1)); rw [List.setIfInBounds_toArray] at h; rw [HS9.out]; exact h)
            ·exact Lib.hid (blk_set_other (b' := w7.heap.size) VP.out (by have := LVP.out; omega) t _)
           case measure => simp [intOf]; omega
          ·have dq : decide (q = p) = false := decide_eq_false hqp
           go_wp2_with fail
           go_quiet (fail)
           replace NN := Lib.hid (below_drewN NN.out nq)
           replace H := Lib.hid (blk_next (below_drewN (Below.refl _ wr) nq) H.out)
           replace VP := Lib.hid (blk_next (below_drewN (Below.refl _ wr) nq) VP.out)
           go_wp2_with fail
           go_roundw
           case rel => exact ⟨t + 1, tt, by go_num, NN, Lib.hid (by rw [hadT_same HQ.out hqp]; exact H.out), VP⟩
           case measure => simp [intOf]; omega
         ·obtain rfl : t = P.length := by omega
          rw [hadT_all, seenD_snoc _ _ HPJ.out] at H
          go_wp2_with fail
          go_roundw
          case rel => exact ⟨j + 1, jj, by go_num, NN, H⟩
          case measure => simp [intOf]; omega
       ·have dv : decide (v = c.1) = false := decide_eq_false ev
        obtain ⟨hj0, hv2⟩ := HLN.out.resolve_left ev
        have dn : decide (v = negV c.1) = true := decide_eq_true hv2
        have dj : ((j : Int) == 0) = false := by rw [beq_eq_false_iff_ne]; omega
        clear hv2 hj0 ev
        have HDRW := Lib.hid (Below.drew (Below.refl W10.heap.size W10))
        replace NN := Lib.hid (Bgo NN.out HDRW.out)
        replace H := Lib.hid (blk_next HDRW.out H.out)
        replace CU := Lib.hid (blk_next HDRW.out CU.out)
        replace G := Lib.hid (blk_next HDRW.out G.out)
        replace VP := Lib.hid (blk_next HDRW.out VP.out)
        replace VV := Lib.hid (blk_next HDRW.out VV.out)
        clear HDRW
        have HAL : Hid (∀ kx9 : Nat, GK [(3, gv, .cells #[.int .i64 v.x1, .int .i64 v.x2, .int .i64 v.y1, .int .i64 v.y2, .int .i64 v.z1, .int .i64 v.z2] 38), (8, gc, .cells cur 40), (14, gv, .cells #[.int .i64 v.x1, .int .i64 v.x2, .int .i64 v.y1, .int .i64 v.y2, .int .i64 v.z1, .int .i64 v.z2] 38), (19, gc, .cells cur 40)] kx9 W10.drew) := Lib.hid (fun kx9 => fun px9 hp e => by
         simp only [List.mem_cons, List.not_mem_nil, or_false] at hp
         rcases hp with rfl | rfl | rfl | rfl
         ·exact VV.out
         ·exact CU.out
         ·exact VV.out
         ·exact CU.out
        )
        refine region_G (S := GK [(3, gv, .cells #[.int .i64 v.x1, .int .i64 v.x2, .int .i64 v.y1, .int .i64 v.y2, .int .i64 v.z1, .int .i64 v.z2] 38), (8, gc, .cells cur 40), (14, gv, .cells #[.int .i64 v.x1, .int .i64 v.x2, .int .i64 v.y1, .int .i64 v.y2, .int .i64 v.z1, .int .i64 v.z2] 38), (19, gc, .cells cur 40)]) (by kernel_rfl) ?_
        refine tG 0 (.int .i64 0) (some 127) (GK.grow _) rfl (YieldsIf.toG (Or.inl ⟨by rfl, ?_⟩)) (GK.drop (by simp)) ?_
        ·intro X hX
         clear hX
         go_simp
        try simp only [Act.put, zA, zB, zC]
        refine tG 1 (.bool false) (some 128) (GK.grow _) rfl (YieldsIf.toG (Or.inl ⟨by rfl, ?_⟩)) (GK.drop (by simp)) ?_
        ·intro X hX
         clear hX
         go_simp
        try simp only [Act.put, zA, zB, zC]
        refine tG 2 (.bool false) (some 129) (GK.grow _) rfl (YieldsIf.toG (Or.inl ⟨by rfl, ?_⟩)) (GK.drop (by simp)) ?_
        ·intro X hX
         clear hX
         go_simp
        try simp only [Act.put, zA, zB, zC]
        refine tG 3 (.agg #[.int .i64 v.x1, .int .i64 v.x2, .int .i64 v.y1, .int .i64 v.y2, .int .i64 v.z1, .int .i64 v.z2]) (some 130) (GK.grow _) rfl (YieldsIf.toG (Or.inl ⟨by rfl, ?_⟩)) (HAL.out 3) ?_
        ·intro X hX
         have hh := hX (3, gv, .cells #[.int .i64 v.x1, .int .i64 v.x2, .int .i64 v.y1, .int .i64 v.y2, .int .i64 v.z1, .int .i64 v.z2] 38) (List.Mem.head _) rfl
         have hh0 := blk_cell hh 0 _ rfl
         have hh1 := blk_cell hh 1 _ rfl
         have hh2 := blk_cell hh 2 _ rfl
         have hh3 := blk_cell hh 3 _ rfl
         have hh4 := blk_cell hh 4 _ rfl
         have hh5 := blk_cell hh 5 _ rfl
         have hhl := blk_lt hh
         clear hh
         clear hX
         go_simp
        try simp only [Act.put, zA, zB, zC]
        refine tG 4 (.slice (some ⟨gc, 0, none⟩) cs.length ck) (some 131) (GK.grow _) rfl (YieldsIf.toG (Or.inl ⟨by rfl, ?_⟩)) (GK.drop (by simp)) ?_
        ·intro X hX
         clear hX
         go_simp
        try simp only [Act.put, zA, zB, zC]
        refine tG 5 (.int .i64 (k : Int)) (some 132) (GK.grow _) rfl (YieldsIf.toG (Or.inl ⟨by rfl, ?_⟩)) (GK.drop (by simp)) ?_
        ·intro X hX
         clear hX
         go_simp
        try simp only [Act.put, zA, zB, zC]
        refine tG 6 (.pointer (some ⟨gc, k * 7, none⟩)) (some 133) (GK.grow _) rfl (YieldsIf.toG (Or.inl ⟨by rfl, ?_⟩)) (GK.drop (by simp)) ?_
        ·intro X hX
         clear hX
         go_simp
        try simp only [Act.put, zA, zB, zC]
        refine tG 7 (.pointer (some ⟨gc, k * 7, none⟩)) (some 134) (GK.grow _) rfl (YieldsIf.toG (Or.inl ⟨by rfl, ?_⟩)) (GK.drop (by simp)) ?_
        ·intro X hX
         clear hX
         go_simp
        try simp only [Act.put, zA, zB, zC]
        refine tG 8 (.agg #[.int .i64 c.1.x1, .int .i64 c.1.x2, .int .i64 c.1.y1, .int .i64 c.1.y2, .int .i64 c.1.z1, .int .i64 c.1.z2]) (some 135) (GK.grow _) rfl (YieldsIf.toG (Or.inl ⟨by rfl, ?_⟩)) (HAL.out 8) ?_
        ·intro X hX
         have hh := hX (8, gc, .cells cur 40) (List.Mem.tail _ (List.Mem.head _)) rfl
         have hh0 := CLs.out _ hh 0 _ rfl
         simp only [Nat.add_zero] at hh0
         have hh1 := CLs.out _ hh 1 _ rfl
         have hh2 := CLs.out _ hh 2 _ rfl
         have hh3 := CLs.out _ hh 3 _ rfl
         have hh4 := CLs.out _ hh 4 _ rfl
         have hh5 := CLs.out _ hh 5 _ rfl
         have hhl := blk_lt hh
         clear hh
         clear hX
         go_simp
        try simp only [Act.put, zA, zB, zC]
        refine tG 9 (.bool true) (some 136) (GK.grow _) rfl (YieldsIf.toG (Or.inl ⟨by rfl, ?_⟩)) (GK.drop (by simp)) ?_
        ·intro X hX
         clear hX
         go_simp
        try simp only [Act.put, zA, zB, zC]
        refine tG 10 (.bool true) (some 137) (GK.grow _) rfl (YieldsIf.toG (Or.inl ⟨by rfl, ?_⟩)) (GK.drop (by simp)) ?_
        ·intro X hX
         clear hX
         go_simp
        try simp only [Act.put, zA, zB, zC]
        refine tG 11 (.int .i64 (j : Int)) (some 138) (GK.grow _) rfl (YieldsIf.toG (Or.inl ⟨by rfl, ?_⟩)) (GK.drop (by simp)) ?_
        ·intro X hX
         clear hX
         go_simp
        try simp only [Act.put, zA, zB, zC]
        refine tG 12 (.bool false) (some 139) (GK.grow _) rfl (YieldsIf.toG (Or.inl ⟨by rfl, ?_⟩)) (GK.drop (by simp)) ?_
        ·intro X hX
         clear hX
         go_simp
        try simp only [Act.put, zA, zB, zC]
        refine tG 13 (.bool false) (some 140) (GK.grow _) rfl (YieldsIf.toG (Or.inl ⟨by rfl, ?_⟩)) (GK.drop (by simp)) ?_
        ·intro X hX
         clear hX
         go_simp
        try simp only [Act.put, zA, zB, zC]
        refine tG 14 (.agg #[.int .i64 v.x1, .int .i64 v.x2, .int .i64 v.y1, .int .i64 v.y2, .int .i64 v.z1, .int .i64 v.z2]) (some 141) (GK.grow _) rfl (YieldsIf.toG (Or.inl ⟨by rfl, ?_⟩)) (HAL.out 14) ?_
        ·intro X hX
         have hh := hX (14, gv, .cells #[.int .i64 v.x1, .int .i64 v.x2, .int .i64 v.y1, .int .i64 v.y2, .int .i64 v.z1, .int .i64 v.z2] 38) (List.Mem.tail _ (List.Mem.tail _ (List.Mem.head _))) rfl
         have hh0 := blk_cell hh 0 _ rfl
         have hh1 := blk_cell hh 1 _ rfl
         have hh2 := blk_cell hh 2 _ rfl
         have hh3 := blk_cell hh 3 _ rfl
         have hh4 := blk_cell hh 4 _ rfl
         have hh5 := blk_cell hh 5 _ rfl
         have hhl := blk_lt hh
         clear hh
         clear hX
         go_simp
        try simp only [Act.put, zA, zB, zC]
        refine tG 15 (.slice (some ⟨gc, 0, none⟩) cs.length ck) (some 142) (GK.grow _) rfl (YieldsIf.toG (Or.inl ⟨by rfl, ?_⟩)) (GK.drop (by simp)) ?_
        ·intro X hX
         clear hX
         go_simp
        try simp only [Act.put, zA, zB, zC]
        refine tG 16 (.int .i64 (k : Int)) (some 143) (GK.grow _) rfl (YieldsIf.toG (Or.inl ⟨by rfl, ?_⟩)) (GK.drop (by simp)) ?_
        ·intro X hX
         clear hX
         go_simp
        try simp only [Act.put, zA, zB, zC]
        refine tG 17 (.pointer (some ⟨gc, k * 7, none⟩)) (some 144) (GK.grow _) rfl (YieldsIf.toG (Or.inl ⟨by rfl, ?_⟩)) (GK.drop (by simp)) ?_
        ·intro X hX
         clear hX
         go_simp
        try simp only [Act.put, zA, zB, zC]
        refine tG 18 (.pointer (some ⟨gc, k * 7, none⟩)) (some 145) (GK.grow _) rfl (YieldsIf.toG (Or.inl ⟨by rfl, ?_⟩)) (GK.drop (by simp)) ?_
        ·intro X hX
         clear hX
         go_simp
        try simp only [Act.put, zA, zB, zC]
        refine tG 19 (.agg #[.int .i64 c.1.x1, .int .i64 c.1.x2, .int .i64 c.1.y1, .int .i64 c.1.y2, .int .i64 c.1.z1, .int .i64 c.1.z2]) (some 146) (GK.grow _) rfl (YieldsIf.toG (Or.inl ⟨by rfl, ?_⟩)) (HAL.out 19) ?_
        ·intro X hX
         have hh := hX (19, gc, .cells cur 40) (List.Mem.tail _ (List.Mem.tail _ (List.Mem.tail _ (List.Mem.head _)))) rfl
         have hh0 := CLs.out _ hh 0 _ rfl
         simp only [Nat.add_zero] at hh0
         have hh1 := CLs.out _ hh 1 _ rfl
         have hh2 := CLs.out _ hh 2 _ rfl
         have hh3 := CLs.out _ hh 3 _ rfl
         have hh4 := CLs.out _ hh 4 _ rfl
         have hh5 := CLs.out _ hh 5 _ rfl
         have hhl := blk_lt hh
         clear hh
         clear hX
         go_simp
        try simp only [Act.put, zA, zB, zC]
        have CFn : ∀ (args : Array Value) (W : World), Sem.run Tryz.prog (callFunc 12 args) W = .ok (.enter 12 args) W := fun _ _ => by kernel_rfl
        refine tG 20 (.agg #[.int .i64 (negV c.1).x1, .int .i64 (negV c.1).x2, .int .i64 (negV c.1).y1, .int .i64 (negV c.1).y2, .int .i64 (negV c.1).z1, .int .i64 (negV c.1).z2]) (some 147) (GK.grow _) rfl (yieldsG_call 12 #[.agg #[.int .i64 c.1.x1, .int .i64 c.1.x2, .int .i64 c.1.y1, .int .i64 c.1.y2, .int .i64 c.1.z1, .int .i64 c.1.z2]] (by rfl) ?_ (fun X hS => rvneg_calls c.1 OKC.out X)) (GK.drop (by simp)) ?_
        ·intro X hX
         clear hX
         go_simp
        clear CFn
        try simp only [Act.put, zA, zB, zC]
        refine tG 21 (.bool false) (some 148) (GK.grow _) rfl (YieldsIf.toG (Or.inl ⟨by rfl, ?_⟩)) (GK.drop (by simp)) ?_
        ·intro X hX
         clear hX
         go_simp
        try simp only [Act.put, zA, zB, zC]
        refine tG 22 (.bool false) (some 149) (GK.grow _) rfl (YieldsIf.toG (Or.inl ⟨by rfl, ?_⟩)) (GK.drop (by simp)) ?_
        ·intro X hX
         clear hX
         go_simp
        try simp only [Act.put, zA, zB, zC]
        refine tG 23 (.bool false) (some 150) (GK.grow _) rfl (YieldsIf.toG (Or.inl ⟨by rfl, ?_⟩)) (GK.drop (by simp)) ?_
        ·intro X hX
         clear hX
         go_simp
        try simp only [Act.put, zA, zB, zC]
        refine tG 24 (.bool false) (some 151) (GK.grow _) rfl (YieldsIf.toG (Or.inl ⟨by rfl, ?_⟩)) (GK.drop (by simp)) ?_
        ·intro X hX
         clear hX
         go_simp
        try simp only [Act.put, zA, zB, zC]
        clear HAL
        refine done_G (by kernel_rfl) (fun X12 hX => ?_) _
        replace NN := Lib.hid (Bgo NN.out hX)
        replace H := Lib.hid (blk_next hX H.out)
        replace CU := Lib.hid (blk_next hX CU.out)
        replace G := Lib.hid (blk_next hX G.out)
        replace VP := Lib.hid (blk_next hX VP.out)
        replace VV := Lib.hid (blk_next hX VV.out)
        clear hX
        clear VV G
        go_wp2_with fail
        have H2 : Hid (X12.heap[w7.heap.size]? = some (.cells (lv (hadT P (seenD cs k (c.2.take j)) p 0)).toArray 3)) := Lib.hid (by rw [hadT_zero]; exact H.out)
        clear H
        go_loopw [16] (fun i wr => ∃ t : Nat, t ≤ P.length ∧ i = .int .i64 t ∧ Hid (Below w7.heap.size w7 wr) ∧ Hid (wr.heap[w7.heap.size]? = some (.cells (lv (hadT P (seenD cs k (c.2.take j)) p t)).toArray 3)) ∧ Hid (wr.heap[gp]? = some (.cells #[.int .i64 (p.1 : Int), .int .i64 (p.2 : Int)] 43))) (fun i _ => P.length - (intOf i).toNat)
        case atStart => exact ⟨0, by omega, rfl, NN, H2, VP⟩
        case round =>
         clear NN H2 VP
         obtain ⟨t, ht, rfl, NN, H, VP⟩ := hrel
         by_cases htl : t < P.length
         ·obtain ⟨q, hq⟩ := get_some htl
          obtain ⟨b2, off2, e, hb, hc0⟩ := Rd.rec_ RP0.out (Nat.le_refl _) pr2_len hq
          subst e
          have HQ := Lib.hid hq
          have c0 := (NN.out.cell (p := ⟨b2, off2 + t * 2, none⟩) hb).trans (hc0 0 _ rfl)
          have c1 := (NN.out.cell (p := ⟨b2, off2 + t * 2 + 1, none⟩) hb).trans (hc0 1 _ rfl)
          have hbr : b2 < wr.heap.size := Nat.lt_of_lt_of_le hb NN.out.size
          have v0 := blk_cell VP.out 0 _ rfl
          have v1 := blk_cell VP.out 1 _ rfl
          have lvp := blk_lt VP.out
          have tt : t + 1 ≤ P.length := htl
          have t1 : (t : Int) < (P.length : Int) := by omega
          clear hq hc0 hb
          by_cases hqp : q = p
          ·subst hqp
           have dq : decide (q = q) = true := decide_eq_true rfl
           have CT := Lib.hid (SMA.out k c HCV.out j q)
           have ch := blk_cell H.out t (.int .i64 ((((seenD cs k (c.2.take j)).count q : Nat) : Int))) (by rw [List.getElem?_toArray]; exact lv_get (hadT_get HQ.out))
           have lh := blk_lt H.out
           have fh := blk_frozen H.out t
           have ct := CT.out
           have HS9 : Hid (lv (hadT P (seenD cs k (c.2.take j)) q (t + 1)) = (lv (hadT P (seenD cs k (c.2.take j)) q t)).set t (.int .i64 ((((seenD cs k (c.2.take j)).count q : Nat) : Int) + 1))) := Lib.hid (by rw [hadT_hit HQ.out]; unfold lv; rw [List.map_set])
           generalize (seenD cs k (c.2.take j)).count q = cn at *
           have cw : (cn : Int) + 1 ≤ 29 := by omega
           go_wp2_with fail
           go_quiet (fail)
           replace NN := Lib.hid (below_drewN NN.out nq)
           replace H := Lib.hid (blk_next (below_drewN (Below.refl _ wr) nq) H.out)
           replace VP := Lib.hid (blk_next (below_drewN (Below.refl _ wr) nq) VP.out)
           go_wp2_with fail
           go_roundw
           case rel =>
            refine ⟨t + 1, tt, ?_, ?_, ?_, ?_⟩
            ·go_num
            ·exact Lib.hid (Bset1 NN.out (Nat.le_refl _) t _)
            ·exact Lib.hid (by have h := blk_set H.out t (.int .i64 ((cn : Int) + 1)); rw [List.setIfInBounds_toArray] at h; rw [HS9.out]; exact h)
            ·exact Lib.hid (blk_set_other (b' := w7.heap.size) VP.out (by have := LVP.out; omega) t _)
           case measure => simp [intOf]; omega
          ·have dq : decide (q = p) = false := decide_eq_false hqp
           go_wp2_with fail
           go_quiet (fail)
           replace NN := Lib.hid (below_drewN NN.out nq)
           replace H := Lib.hid (blk_next (below_drewN (Below.refl _ wr) nq) H.out)
           replace VP := Lib.hid (blk_next (below_drewN (Below.refl _ wr) nq) VP.out)
           go_wp2_with fail
           go_roundw
           case rel => exact ⟨t + 1, tt, by go_num, NN, Lib.hid (by rw [hadT_same HQ.out hqp]; exact H.out), VP⟩
           case measure => simp [intOf]; omega
         ·obtain rfl : t = P.length := by omega
          rw [hadT_all, seenD_snoc _ _ HPJ.out] at H
          go_wp2_with fail
          go_roundw
          case rel => exact ⟨j + 1, jj, by go_num, NN, H⟩
          case measure => simp [intOf]; omega
      ·obtain rfl : j = c.2.length := by omega
       rw [List.take_length, seenD_next HCV.out] at H
       go_wp2_with fail
       go_roundw
       case rel => exact ⟨k + 1, kk, by go_num, NN, H⟩
       case measure => simp [intOf]; omega
  ·obtain rfl : k = cs.length := by omega
   clear hlt hk
   go_wp2_with fail
   go_loopw [17] (fun i wr => ∃ t : Nat, t ≤ P.length ∧ i = .int .i64 t ∧ Hid (Below w7.heap.size w7 wr) ∧ Hid (wr.heap[w7.heap.size]? = some (.cells (lv (hadD P (seenD cs cs.length []))).toArray 3))) (fun i _ => P.length - (intOf i).toNat)
   case atStart => exact ⟨0, by omega, rfl, NN, H⟩
   case round =>
    clear NN H
    obtain ⟨t, ht, rfl, NN, H⟩ := hrel
    by_cases htl : t < P.length
    ·obtain ⟨q, hq⟩ := get_some htl
     have ch := blk_cell H.out t (.int .i64 1) (by rw [List.getElem?_toArray]; refine lv_get ?_; rw [hadD_get hq, ALL.out _ (Nat.le_refl _) q (List.mem_of_getElem? hq)]; rfl)
     have lh := blk_lt H.out
     have tt : t + 1 ≤ P.length := htl
     have t1 : (t : Int) < (P.length : Int) := by omega
     clear hq
     go_wp2_with fail
     go_roundw
     case rel => exact ⟨t + 1, tt, by go_num, NN, H⟩
     case measure => simp [intOf]; omega
    ·obtain rfl : t = P.length := by omega
     go_wp2_with fail
     refine (alive_calls _ (GG.out.next (NNc.out.trans (NN.out.mono SZW.out)))).mono ?_
     rintro e w99 ⟨rfl, hb⟩
     go_wp2_with fail
     go_ret
     exact ⟨rfl, Bgo (NNc.out.trans (NN.out.mono SZW.out)) hb⟩
end Go.Proofs.YtfangplfbbgphaaGreatDoor
namespace Go.Proofs.YtfangplfbbgphaaGreatDoor
open Go.ChangeShapes Go.WideShapes Go.ChangeAt Go.RowKit
set_option linter.unusedVariables false
theorem gt_of {W : World} (hL : laidMet Tryz.prog [("math/bits.deBruijn32tab", Rows.laid_math_bits_deBruijn32tab), ("math/bits.deBruijn64tab", Rows.laid_math_bits_deBruijn64tab), ("internal/strconv.uint64pow10", Rows.laid_internal_strconv_uint64pow10)] W) : GT W :=
 ⟨Lib.tabIs_of_head (g := 3) (by kernel_rfl) (t := 196) (by kernel_rfl) Tryz.underlying196 Tryz.underlying150 (by kernel_rfl) (by kernel_rfl) hL.tail.tail⟩
end Go.Proofs.YtfangplfbbgphaaGreatDoor
