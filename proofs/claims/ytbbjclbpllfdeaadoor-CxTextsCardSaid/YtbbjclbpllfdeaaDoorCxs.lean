/- Contracts, fifth part: quotients, of the program and of the reference. -/
import Derived.Test.YtbbjclbpllfdeaaDoorCxt
namespace Go.Proofs.YtbbjclbpllfdeaaDoor
open Go.ChangeShapes Go.WideShapes Go.ChangeAt Go.RowKit Cxm

def isZ (re im : Int) : Bool := re == 0 && im == 0
theorem isZero_calls (re im den : Int) (w : World) :
    Calls Tryd.prog 38 #[Cv re im den] w fun e w' => e = .returned (.bool (isZ re im)) ∧ Below w.heap.size w w' := by
  generalize hz : isZ re im = z
  have HZ := Lib.hid hz
  clear hz
  cases c1 : (re == 0)
  · have F : Hid (z = false) := Lib.hid (by rw [← HZ.out]; unfold isZ; rw [c1]; rfl)
    go_enter Tryd.func38, Tryd.ntmps38
    go_wp2
    go_ret
    exact ⟨by rw [F.out]; rfl, Bal (Below.refl _ _) _⟩
  · have F : Hid (z = (im == 0)) := Lib.hid (by rw [← HZ.out]; unfold isZ; rw [c1]; rfl)
    go_enter Tryd.func38, Tryd.ntmps38
    go_wp2
    go_ret
    exact ⟨by rw [F.out]; rfl, Bal (Below.refl _ _) _⟩

set_option maxHeartbeats 400000 in
theorem div_bad (ar ai ad br bi bd : Int) (h : ¬ (chkB ar ai ad = true ∧ chkB br bi bd = true)) (w : World) :
    Calls Tryd.prog 22 #[Cv ar ai ad, Cv br bi bd] w fun e w' => e = .returned (Rv 0 0 0 8) ∧ Below w.heap.size w w' := by
    have e1 := both_no h
    clear h
    go_enter Tryd.func22, Tryd.ntmps22
    go_wp2_with fail
    refine (checkBoth_calls ar ai ad br bi bd _).mono ?_
    rintro e w1 ⟨rfl, hb⟩
    obtain ⟨hc, hf⟩ := bcell hb
    go_wp2_with fail
    have hy : ∀ o, o < 3 → (w1.cell? ⟨w.heap.size + 2, o, none⟩).isSome = true := by
      intro o ho
      rw [hc _ _ (by simp)]
      rcases o with _ | _ | _ | o
      · simp [go_sem]
      · simp [go_sem]
      · simp [go_sem]
      · omega
    have hr := fun x y z => rd3 (W := w1) (B := w.heap.size + 2) x y z (hy 0 (by omega)) (hy 1 (by omega)) (hy 2 (by omega))
    exact bodyPost_ret (v := Rv 0 0 0 8) (by simp [results, Tryd.results22, go_sem, hr]) rfl ⟨rfl, Bset3 (Bgo (Bal (Bal (Bal (Below.refl _ _) _) _) _) hb) (by omega) _ _ _⟩

set_option maxHeartbeats 400000 in
theorem div_zero (ar ai ad br bi bd : Int) (h1 : chkB ar ai ad = true) (h2 : chkB br bi bd = true) (h3 : isZ br bi = true) (w : World) :
    Calls Tryd.prog 22 #[Cv ar ai ad, Cv br bi bd] w fun e w' => e = .returned (Rv 0 0 0 18) ∧ Below w.heap.size w w' := by
    have e1 := both_yes h1 h2
    clear h1 h2
    go_enter Tryd.func22, Tryd.ntmps22
    go_wp2_with fail
    refine (checkBoth_calls ar ai ad br bi bd _).mono ?_
    rintro e w1 ⟨rfl, hb⟩
    obtain ⟨hc, hf⟩ := bcell hb
    go_wp2_with fail
    refine (isZero_calls br bi bd _).mono ?_
    rintro e w2 ⟨rfl, hb2⟩
    obtain ⟨hc2, hf2⟩ := bcell hb2
    have hz := hb.size
    simp at hz
    have hz : w.heap.size + 2 < w1.heap.size := by omega
    go_wp2_with fail
    have hy : ∀ o, o < 3 → (w2.cell? ⟨w.heap.size + 2, o, none⟩).isSome = true := by
      intro o ho
      rw [hc2 _ _ (by omega), hc _ _ (by simp)]
      rcases o with _ | _ | _ | o
      · simp [go_sem]
      · simp [go_sem]
      · simp [go_sem]
      · omega
    have hr := fun x y z => rd3 (W := w2) (B := w.heap.size + 2) x y z (hy 0 (by omega)) (hy 1 (by omega)) (hy 2 (by omega))
    exact bodyPost_ret (v := Rv 0 0 0 18) (by simp [results, Tryd.results22, go_sem, hr]) rfl ⟨rfl, Bset3 (Bgo (Bgo (Bal (Bal (Bal (Below.refl _ _) _) _) _) hb) hb2) (by omega) _ _ _⟩

set_option maxHeartbeats 2000000 in
set_option maxRecDepth 100000 in
theorem div_ok (ar ai ad br bi bd p q n g p1 q1 n1 h d1 e1 k p2 q2 e2 l d2 n2 r i d er : Int) (h1 : chkB ar ai ad = true) (h2 : chkB br bi bd = true) (h3 : isZ br bi = false)
    (tp : ar * br + ai * bi = p) (tq : ai * br - ar * bi = q) (tn : br * br + bi * bi = n) (N : DivN p q n bd ad g p1 q1 n1 h d1 e1 k p2 q2 e2 l d2 n2) (hm : divR p2 q2 n2 d2 e2 = (r, i, d, er)) (w : World) :
    Calls Tryd.prog 22 #[Cv ar ai ad, Cv br bi bd] w fun e w' => e = .returned (Rv r i d er) ∧ Below w.heap.size w w' := by
    have HM := Lib.hid hm
    have e0 := both_yes h1 h2
    obtain ⟨B1, B2⟩ := prods h1 h2
    clear h1 h2 hm
    have m1 := mul_bd9 (a := ar) (b := br) (by omega) (by omega) (by omega) (by omega)
    have m2 := mul_bd9 (a := ai) (b := bi) (by omega) (by omega) (by omega) (by omega)
    have m3 := mul_bd9 (a := ai) (b := br) (by omega) (by omega) (by omega) (by omega)
    have m4 := mul_bd9 (a := ar) (b := bi) (by omega) (by omega) (by omega) (by omega)
    have m5 := mul_bd9 (a := br) (b := br) (by omega) (by omega) (by omega) (by omega)
    have m6 := mul_bd9 (a := bi) (b := bi) (by omega) (by omega) (by omega) (by omega)
    have bp : -2000000000000000000 ≤ p ∧ p ≤ 2000000000000000000 := by omega
    have bq : -2000000000000000000 ≤ q ∧ q ≤ 2000000000000000000 := by omega
    have bn : -2000000000000000000 ≤ n ∧ n ≤ 2000000000000000000 := by omega
    have u1 : IntKind.i64.wrap (ar * br) = ar * br := IntWalk.i64_in _ (by omega)
    have u2 : IntKind.i64.wrap (ai * bi) = ai * bi := IntWalk.i64_in _ (by omega)
    have u3 : IntKind.i64.wrap (ai * br) = ai * br := IntWalk.i64_in _ (by omega)
    have u4 : IntKind.i64.wrap (ar * bi) = ar * bi := IntWalk.i64_in _ (by omega)
    have u5 : IntKind.i64.wrap (br * br) = br * br := IntWalk.i64_in _ (by omega)
    have u6 : IntKind.i64.wrap (bi * bi) = bi * bi := IntWalk.i64_in _ (by omega)
    have v1 : IntKind.i64.wrap p = p := IntWalk.i64_in _ (by omega)
    have v2 : IntKind.i64.wrap q = q := IntWalk.i64_in _ (by omega)
    have v3 : IntKind.i64.wrap n = n := IntWalk.i64_in _ (by omega)
    have HN := Lib.hid N
    clear N
    go_enter Tryd.func22, Tryd.ntmps22
    go_wp2_with fail
    refine (checkBoth_calls ar ai ad br bi bd _).mono ?_
    rintro e w1 ⟨rfl, hb⟩
    obtain ⟨hc, hf⟩ := bcell hb
    go_wp2_with fail
    refine (isZero_calls br bi bd _).mono ?_
    rintro e w2 ⟨rfl, hb2⟩
    obtain ⟨hc2, hf2⟩ := bcell hb2
    have hz := hb.size
    simp at hz
    have hz : w.heap.size + 2 < w1.heap.size := by omega
    have A0 : w2.cell? ⟨w.heap.size, 0, none⟩ = some (.int .i64 ar) := by rw [hc2 _ _ (by omega), hc _ _ (by simp; omega)]; simp [go_sem]
    have A1 : w2.cell? ⟨w.heap.size, 1, none⟩ = some (.int .i64 ai) := by rw [hc2 _ _ (by omega), hc _ _ (by simp; omega)]; simp [go_sem]
    have A2 : w2.cell? ⟨w.heap.size, 2, none⟩ = some (.int .i64 ad) := by rw [hc2 _ _ (by omega), hc _ _ (by simp; omega)]; simp [go_sem]
    have A3 : w2.cell? ⟨w.heap.size + 1, 0, none⟩ = some (.int .i64 br) := by rw [hc2 _ _ (by omega), hc _ _ (by simp)]; simp [go_sem]
    have A4 : w2.cell? ⟨w.heap.size + 1, 1, none⟩ = some (.int .i64 bi) := by rw [hc2 _ _ (by omega), hc _ _ (by simp)]; simp [go_sem]
    have A5 : w2.cell? ⟨w.heap.size + 1, 2, none⟩ = some (.int .i64 bd) := by rw [hc2 _ _ (by omega), hc _ _ (by simp)]; simp [go_sem]
    have HC := Lib.hid hc
    have HC2 := Lib.hid hc2
    clear hc hc2
    go_wp2_with fail
    go_quiet (fail)
    have nn1 := g2_nonneg p q
    have nn2 := g2_bd p q 2000000000000000000 (by omega) (by omega)
    have nn3 := g2_nonneg p1 q1
    have nn4 := g2_bd p1 q1 2000000000000000000 (by have := HN.out.bp1; omega) (by have := HN.out.bq1; omega)
    obtain ⟨eg, ep1, eq1, en1, eh, ed1, ee1, ek, ep2, eq2, ee2, el, ed2, en2, bg, bh, bk, bl, bp1, bq1, bn1, bd1, be1, bp2, bq2, bn2, bd2, be2, red⟩ := HN.out
    have HR := Lib.hid red
    have bn0 : 0 ≤ n := by have := sq_nonneg br; have := sq_nonneg bi; omega
    have en1' : n / g = n1 := by rw [← en1, Int.tdiv_eq_ediv_of_nonneg (by omega)]
    have ed1' : bd / h = d1 := by rw [← ed1, Int.tdiv_eq_ediv_of_nonneg (by omega)]
    have ee1' : ad / h = e1 := by rw [← ee1, Int.tdiv_eq_ediv_of_nonneg (by omega)]
    have ee2' : e1 / k = e2 := by rw [← ee2, Int.tdiv_eq_ediv_of_nonneg (by omega)]
    have ed2' : d1 / l = d2 := by rw [← ed2, Int.tdiv_eq_ediv_of_nonneg (by omega)]
    have en2' : n1 / l = n2 := by rw [← en2, Int.tdiv_eq_ediv_of_nonneg (by omega)]
    have x1 : IntKind.i64.wrap p1 = p1 := IntWalk.i64_in _ (by omega)
    have x2 : IntKind.i64.wrap q1 = q1 := IntWalk.i64_in _ (by omega)
    have x3 : IntKind.i64.wrap n1 = n1 := IntWalk.i64_in _ (by omega)
    have x4 : IntKind.i64.wrap d1 = d1 := IntWalk.i64_in _ (by omega)
    have x5 : IntKind.i64.wrap e1 = e1 := IntWalk.i64_in _ (by omega)
    have x6 : IntKind.i64.wrap p2 = p2 := IntWalk.i64_in _ (by omega)
    have x7 : IntKind.i64.wrap q2 = q2 := IntWalk.i64_in _ (by omega)
    have x8 : IntKind.i64.wrap e2 = e2 := IntWalk.i64_in _ (by omega)
    have x9 : IntKind.i64.wrap d2 = d2 := IntWalk.i64_in _ (by omega)
    have x10 : IntKind.i64.wrap n2 = n2 := IntWalk.i64_in _ (by omega)
    clear red HN u1 u2 u3 u4 u5 u6
    go_wp2_with fail
    refine (gcd_calls p q (by omega) (by omega) (by omega) (by omega) _).mono ?_
    rintro e w' ⟨rfl, c1, rfl⟩
    go_wp2_with fail
    refine (gcd_calls (g2 p q) n (by omega) (by omega) (by omega) (by omega) _).mono ?_
    rintro e w' ⟨rfl, c2, rfl⟩
    go_wp2_with fail
    go_quiet (fail)
    go_wp2_with fail
    go_quiet (fail)
    go_wp2_with fail
    refine (gcd_calls bd ad (by omega) (by omega) (by omega) (by omega) _).mono ?_
    rintro e w' ⟨rfl, c3, rfl⟩
    go_wp2_with fail
    go_quiet (fail)
    go_wp2_with fail
    refine (gcd_calls p1 q1 (by omega) (by omega) (by omega) (by omega) _).mono ?_
    rintro e w' ⟨rfl, c4, rfl⟩
    go_wp2_with fail
    refine (gcd_calls (g2 p1 q1) e1 (by omega) (by omega) (by omega) (by omega) _).mono ?_
    rintro e w' ⟨rfl, c5, rfl⟩
    go_wp2_with fail
    go_quiet (fail)
    go_wp2_with fail
    refine (gcd_calls d1 n1 (by omega) (by omega) (by omega) (by omega) _).mono ?_
    rintro e w' ⟨rfl, c6, rfl⟩
    go_wp2_with fail
    go_quiet (fail)
    have hy : ∀ o, o < 3 → (w2.cell? ⟨w.heap.size + 1 + 1, o, none⟩).isSome = true := by
      intro o ho
      rw [HC2.out _ _ (by omega), HC.out _ _ (by simp)]
      rcases o with _ | _ | _ | o
      · simp [go_sem]
      · simp [go_sem]
      · simp [go_sem]
      · omega
    clear eg ep1 eq1 en1 eh ed1 ee1 ek ep2 eq2 ee2 el ed2 en2 en1' ed1' ee1' ee2' ed2' en2' x1 x2 x3 x4 x5 x6 x7 x8 x9 x10 v1 v2 v3 tp tq tn m1 m2 m3 m4 m5 m6 nn1 nn2 nn3 nn4 bg bh bk bl bp1 bq1 bn1 bd1 be1 A0 A1 A2 A3 A4 A5 e0 h3
    have hr := fun N x y z => rd3 (W := w2.drewN N) (B := w.heap.size + 1 + 1) x y z (hy 0 (by omega)) (hy 1 (by omega)) (hy 2 (by omega))
    have HRD := Lib.hid hr
    clear hr
    have HY := Lib.hid hy
    clear hy
    have hs2 := hb2.size
    obtain ⟨s0, z0⟩ := Option.isSome_iff_exists.1 (HY.out 0 (by omega))
    obtain ⟨s1, z1⟩ := Option.isSome_iff_exists.1 (HY.out 1 (by omega))
    obtain ⟨s2, z2⟩ := Option.isSome_iff_exists.1 (HY.out 2 (by omega))
    have fz0 : w2.frozen? ⟨w.heap.size + 1 + 1, 0, none⟩ = false := by rw [hf2 _ _ (by omega), hf _ _ (by simp)]; simp [go_sem]
    have fz1 : w2.frozen? ⟨w.heap.size + 1 + 1, 1, none⟩ = false := by rw [hf2 _ _ (by omega), hf _ _ (by simp)]; simp [go_sem]
    have fz2 : w2.frozen? ⟨w.heap.size + 1 + 1, 2, none⟩ = false := by rw [hf2 _ _ (by omega), hf _ _ (by simp)]; simp [go_sem]
    clear hf hf2
    have hz2 : w.heap.size + 2 < w2.heap.size := by omega
    have NB := Lib.hid (Bgo (Bgo (Bal (Bal (Bal (Below.refl w.heap.size w) _) _) _) hb) hb2)
    have hE : (fitsB p2 = true ∧ fitsB q2 = true ∧ fitsB n2 = true) ∨ (fitsB p2 = false ∧ Hid ((r, i, d, er) = (0, 0, 0, 16))) ∨ (fitsB p2 = true ∧ fitsB q2 = false ∧ Hid ((r, i, d, er) = (0, 0, 0, 16))) ∨ (fitsB p2 = true ∧ fitsB q2 = true ∧ fitsB n2 = false ∧ Hid ((r, i, d, er) = (0, 0, 0, 16))) := by
      have M1 := HM.out
      unfold divR at M1
      cases f1 : fitsB p2
      · rw [unfit_mul (by omega) f1] at M1; exact .inr (.inl ⟨rfl, Lib.hid M1.symm⟩)
      cases f2 : fitsB q2
      · rw [unfit_mul (d := d2) (by omega) f2, Bool.false_and, Bool.and_false] at M1; exact .inr (.inr (.inl ⟨rfl, rfl, Lib.hid M1.symm⟩))
      cases f3 : fitsB n2
      · rw [unfit_mul (by omega) f3, Bool.and_false, Bool.and_false] at M1; exact .inr (.inr (.inr ⟨rfl, rfl, rfl, Lib.hid M1.symm⟩))
      · exact .inl ⟨rfl, rfl, rfl⟩
    rcases hE with ⟨f1, f2, f3⟩ | ⟨f1, HD⟩ | ⟨f1, f2, HD⟩ | ⟨f1, f2, f3, HD⟩
    · have F1 := fits_bd f1
      have F2 := fits_bd f2
      have F3 := fits_bd f3
      have y1 := mul_bd9 (a := p2) (b := d2) (by omega) (by omega) (by omega) (by omega)
      have y2 := mul_bd9 (a := q2) (b := d2) (by omega) (by omega) (by omega) (by omega)
      have y3 := mul_bd9 (a := n2) (b := e2) (by omega) (by omega) (by omega) (by omega)
      go_wp2_with (go_at_call 39; refine (fits_calls _ _).mono ?_; rintro e w' ⟨rfl, cc, rfl⟩)
      refine (make_calls (p2 * d2) (q2 * d2) (n2 * e2) r i d er ((divR_made (by omega) (by omega) HR.out).trans HM.out) (by omega) (by omega) (by omega) (by omega) (by omega) (by omega) _).mono ?_
      rintro e w3 ⟨rfl, hb3⟩
      obtain ⟨hc3, hf3⟩ := bcell hb3
      have hy3 : ∀ o, o < 3 → (w3.cell? ⟨w.heap.size + 1 + 1, o, none⟩).isSome = true := by
        intro o ho
        rw [hc3 _ _ (by simp; omega)]
        exact HY.out o ho
      obtain ⟨t0, y4⟩ := Option.isSome_iff_exists.1 (hy3 0 (by omega))
      obtain ⟨t1, y5⟩ := Option.isSome_iff_exists.1 (hy3 1 (by omega))
      obtain ⟨t2, y6⟩ := Option.isSome_iff_exists.1 (hy3 2 (by omega))
      have g0 : w3.frozen? ⟨w.heap.size + 1 + 1, 0, none⟩ = false := by rw [hf3 _ _ (by simp; omega)]; exact fz0
      have g1 : w3.frozen? ⟨w.heap.size + 1 + 1, 1, none⟩ = false := by rw [hf3 _ _ (by simp; omega)]; exact fz1
      have g2 : w3.frozen? ⟨w.heap.size + 1 + 1, 2, none⟩ = false := by rw [hf3 _ _ (by simp; omega)]; exact fz2
      have HY3 := Lib.hid hy3
      clear hc3 hf3 hy3
      go_wp2_with fail
      have hr3 := fun x y z => rd3 (W := w3) (B := w.heap.size + 1 + 1) x y z (HY3.out 0 (by omega)) (HY3.out 1 (by omega)) (HY3.out 2 (by omega))
      exact bodyPost_ret (v := Rv r i d er) (by simp [results, Tryd.results22, go_sem, hr3]) rfl ⟨rfl, Bset3 (Bgo (below_drewN NB.out _) hb3) (by omega) _ _ _⟩
    all_goals
      go_wp2_with (go_at_call 39; refine (fits_calls _ _).mono ?_; rintro e w' ⟨rfl, cc, rfl⟩)
      have hR := HD.out
      simp only [Prod.mk.injEq] at hR
      obtain ⟨rfl, rfl, rfl, rfl⟩ := hR
      exact bodyPost_ret (v := Rv 0 0 0 16) (by simp [results, Tryd.results22, go_sem, HRD.out]) rfl ⟨rfl, Bset3 (below_drewN NB.out _) (by omega) _ _ _⟩

end Go.Proofs.YtbbjclbpllfdeaaDoor
