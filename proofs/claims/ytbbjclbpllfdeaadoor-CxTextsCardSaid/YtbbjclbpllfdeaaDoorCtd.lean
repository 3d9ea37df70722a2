/- Contracts of layer 25 in one form; the chapter's examples. -/
import Derived.Test.YtbbjclbpllfdeaaDoorCtc
import Derived.Test.YtbbjclbpllfdeaaDoorCxo
import Derived.Test.YtbbjclbpllfdeaaDoorCxk
namespace Go.Proofs.YtbbjclbpllfdeaaDoor
open Go.ChangeShapes Go.WideShapes Go.ChangeAt Go.RowKit Cxm
set_option linter.unusedVariables false
attribute [local go_sem ↓] Go.wp_at_zero Go.wp_at_succ

theorem isZ_iff {re im : Int} : isZ re im = true ↔ (re = 0 ∧ im = 0) := by simp [isZ]
theorem isZ_no {re im : Int} : isZ re im = false ↔ ¬ (re = 0 ∧ im = 0) := by rw [← isZ_iff]; simp
theorem div_calls {ar ai ad br bi bd r i d er : Int} (hm : divS ar ai ad br bi bd = (r, i, d, er)) (w : World) :
    Calls Tryd.prog 22 #[Cv ar ai ad, Cv br bi bd] w fun e w' => e = .returned (Rv r i d er) ∧ Below w.heap.size w w' := by
  by_cases h : chkB ar ai ad = true ∧ chkB br bi bd = true
  · cases hz : isZ br bi
    · obtain ⟨B1, B2⟩ := prods h.1 h.2
      have m1 := mul_bd9 (a := ar) (b := br) (by omega) (by omega) (by omega) (by omega)
      have m2 := mul_bd9 (a := ai) (b := bi) (by omega) (by omega) (by omega) (by omega)
      have m3 := mul_bd9 (a := ai) (b := br) (by omega) (by omega) (by omega) (by omega)
      have m4 := mul_bd9 (a := ar) (b := bi) (by omega) (by omega) (by omega) (by omega)
      have m5 := mul_bd9 (a := br) (b := br) (by omega) (by omega) (by omega) (by omega)
      have m6 := mul_bd9 (a := bi) (b := bi) (by omega) (by omega) (by omega) (by omega)
      have s1 := sq_nonneg br
      have s2 := sq_nonneg bi
      have hn := sq_pos (isZ_no.1 hz)
      obtain ⟨g, p1, q1, n1, hh, d1, e1, k, p2, q2, e2, l, d2, n2, N⟩ := divN (p := ar * br + ai * bi) (q := ai * br - ar * bi) (n := br * br + bi * bi) (d := bd) (e := ad) (by omega) (by omega) (by omega) (by omega) (by omega)
      have D := div_parts h.1 h.2 (isZ_no.1 hz) rfl rfl rfl N
      rw [hm] at D
      exact div_ok ar ai ad br bi bd _ _ _ g p1 q1 n1 hh d1 e1 k p2 q2 e2 l d2 n2 r i d er h.1 h.2 hz rfl rfl rfl N D.symm w
    · have e : divS ar ai ad br bi bd = (0, 0, 0, 18) := by unfold divS; rw [h.1, h.2, if_pos (isZ_iff.1 hz)]; rfl
      rw [hm] at e; cases e
      exact div_zero ar ai ad br bi bd h.1 h.2 hz w
  · have e : divS ar ai ad br bi bd = (0, 0, 0, 8) := by unfold divS; rw [if_neg (by rw [Bool.and_eq_true]; exact h)]
    rw [hm] at e; cases e
    exact div_bad ar ai ad br bi bd h w
def conjS (re im den : Int) : Int × Int × Int × Int := if chkB re im den then (re, -im, den, 0) else (0, 0, 0, 8)
theorem conj_calls {re im den r i d er : Int} (hm : conjS re im den = (r, i, d, er)) (w : World) :
    Calls Tryd.prog 18 #[Cv re im den] w fun e w' => e = .returned (Rv r i d er) ∧ Below w.heap.size w w' := by
  unfold conjS at hm
  cases h : chkB re im den
  · rw [h] at hm; cases hm; exact conj_bad re im den h w
  · rw [h] at hm; cases hm; exact conj_ok re im den h w
theorem turn_calls {re im den q r i d er : Int} (hm : turnS re im den q = (r, i, d, er)) (w : World) :
    Calls Tryd.prog 24 #[Cv re im den, .int .i64 q] w fun e w' => e = .returned (Rv r i d er) ∧ Below w.heap.size w w' := by
  unfold turnS at hm
  cases h : chkB re im den
  · rw [h] at hm; cases hm; exact turn_bad re im den q h w
  · rw [h] at hm; cases hm; exact turn_ok re im den q h w
theorem norm_calls {re im den x y er : Int} (hm : normS re im den = (x, y, er)) (w : World) :
    Calls Tryd.prog 19 #[Cv re im den] w fun e w' => e = .returned (Fv x y er) ∧ Below w.heap.size w w' := by
  unfold normS at hm
  cases h : chkB re im den
  · rw [h] at hm; cases hm; exact norm_bad re im den h w
  · rw [h] at hm
    simp only [if_true] at hm
    by_cases hb : (re * re + im * im).tdiv (g2 (re * re + im * im) (den * den)) ≤ 1000000000000000000
    · rw [if_pos hb] at hm; cases hm
      exact norm_ok re im den _ _ _ _ _ h rfl rfl rfl rfl rfl hb w
    · rw [if_neg hb] at hm; cases hm
      exact norm_big re im den _ _ _ _ _ h rfl rfl rfl rfl rfl (by omega) w
theorem ray_calls {re im den r i d er : Int} (hm : rayS re im den = (r, i, d, er)) (w : World) :
    Calls Tryd.prog 25 #[Cv re im den] w fun e w' => e = .returned (Rv r i d er) ∧ Below w.heap.size w w' := by
  unfold rayS at hm
  cases h : chkB re im den
  · rw [h] at hm; cases hm; exact ray_bad re im den h w
  · rw [h] at hm
    simp only [if_true] at hm
    cases hz : isZ re im
    · rw [if_neg (isZ_no.1 hz)] at hm; cases hm; exact ray_ok re im den _ _ _ h hz rfl rfl rfl w
    · rw [if_pos (isZ_iff.1 hz)] at hm; cases hm; exact ray_zero re im den h hz w
def ordS (ar ai ad br bi bd : Int) : Int × Int :=
  if chkB ar ai ad && chkB br bi bd then (if isZ ar ai || isZ br bi then (0, 18) else (ordP ar ai br bi, 0)) else (0, 8)
theorem order_calls {ar ai ad br bi bd v er : Int} (hm : ordS ar ai ad br bi bd = (v, er)) (w : World) :
    Calls Tryd.prog 27 #[Cv ar ai ad, Cv br bi bd] w fun e w' => e = .returned (.tuple #[.int .i64 v, .int .i64 er]) ∧ Below w.heap.size w w' := by
  unfold ordS at hm
  by_cases h : chkB ar ai ad = true ∧ chkB br bi bd = true
  · rw [h.1, h.2] at hm
    simp only [Bool.and_self, if_true] at hm
    by_cases hz : isZ ar ai = true ∨ (isZ ar ai = false ∧ isZ br bi = true)
    · rw [if_pos (by rcases hz with k | ⟨k1, k2⟩ <;> simp [*])] at hm
      cases hm
      exact order_zero ar ai ad br bi bd h.1 h.2 hz w
    · have h1 : isZ ar ai = false := by cases c : isZ ar ai <;> simp_all
      have h2 : isZ br bi = false := by cases c : isZ br bi <;> simp_all
      rw [h1, h2] at hm
      simp only [Bool.or_self, Bool.false_eq_true, if_false] at hm
      cases hm
      exact order_ok ar ai ad br bi bd h.1 h.2 h1 h2 w
  · rw [if_neg (by rw [Bool.and_eq_true]; exact h)] at hm; cases hm
    exact order_bad ar ai ad br bi bd h w
theorem of_calls (re im den : Int) (w : World) :
    Calls Tryd.prog 20 #[.int .i64 re, .int .i64 im, .int .i64 den] w fun e w' => e = .returned (Cv re im den) ∧ Below w.heap.size w w' := by
  go_enter Tryd.func20, Tryd.ntmps20
  go_wp2_with fail
  exact bodyPost_ret (v := Cv re im den) (by simp [results, Tryd.results20, go_sem]) rfl ⟨rfl, Bal (Below.refl _ _) _⟩
/- a string with no number -/
def lastX (l : List UInt8) : List UInt8 := if (Lib.cut l [47]).2.2 then (Lib.cut l [47]).2.1 else [49]
def okX (l : List UInt8) : Bool :=
  match Lib.parseIntB 64 (Lib.cut (Lib.cut l [47]).1 [44]).1, Lib.parseIntB 64 (Lib.cut (Lib.cut l [47]).1 [44]).2.1, Lib.parseIntB 64 (lastX l) with
  | .ok n, .ok i, .ok d => (Lib.cut (Lib.cut l [47]).1 [44]).2.2 && (chkB n i d && decide (textX n i d = l))
  | _, _, _ => false
theorem no_text {l : List UInt8} (h : okX l = false) : ∀ n i d, chkB n i d = true → textX n i d ≠ l := by
  intro n i d v e
  obtain ⟨g, p, q, r⟩ := text_parts (lp := (Lib.cut l [47]).1) (ld := (Lib.cut l [47]).2.1) (f := (Lib.cut l [47]).2.2) rfl (la := (Lib.cut (Lib.cut l [47]).1 [44]).1) (lb := (Lib.cut (Lib.cut l [47]).1 [44]).2.1) (g := (Lib.cut (Lib.cut l [47]).1 [44]).2.2) rfl e
  obtain ⟨a, b, c⟩ := val_itoa v
  have r' : Lib.itoa d = lastX l := r
  unfold okX at h
  rw [← p, ← q, ← r', a, b, c, g] at h
  simp [v, e] at h
theorem tA : txR 1 2 2 = [49, 44, 50, 47, 50] := by decide +kernel
theorem mA : mulS 1 2 2 0 2 1 = (-2, 1, 1, 0) := by decide +kernel
theorem dA : divS 3 4 1 1 2 1 = (11, -2, 5, 0) := by decide +kernel
theorem nA : normS 3 4 5 = (1, 1, 0) := by decide +kernel
theorem rA : rayS 3 4 5 = (3, 4, 1, 0) := by decide +kernel
theorem kA : chkE 1 2 2 = 0 := by decide +kernel
theorem pA : PX (⟨#[50, 44, 52, 47, 50]⟩ : ByteArray).data.toList (0, 0, 0, 12) := PX.none (no_text (by decide +kernel))
theorem pB : PX (⟨#[49, 44, 50, 47, 49]⟩ : ByteArray).data.toList (0, 0, 0, 12) := PX.none (no_text (by decide +kernel))
theorem pC : PX (⟨#[49]⟩ : ByteArray).data.toList (0, 0, 0, 12) := PX.none (no_text (by decide +kernel))
theorem parse_at {s : ByteArray} (h : PX s.data.toList (0, 0, 0, 12)) (w : World) (g : GL w) : Calls Tryd.prog 12 #[.string s] w fun e w' => e = .returned (Rv 0 0 0 12) ∧ Below w.heap.size w w' :=
  (parseX_calls s w g).mono fun e w' ⟨r, i, d, er, h1, h2, h3⟩ => by
    have := h.unique h2
    cases this
    exact ⟨h1, h3⟩
theorem text_at {n i d : Int} {l : List UInt8} (h : txR n i d = l) (hk : chkE n i d = 0) (w : World) (g : GL w) : Calls Tryd.prog 10 #[Cv n i d] w fun e w' => e = .returned (.tuple #[Str l, .int .i64 0]) ∧ Below w.heap.size w w' := by
  have := text_calls n i d w g
  rw [h, hk] at this
  exact this

set_option maxRecDepth 100000 in
set_option maxHeartbeats 8000000 in
theorem alive_calls (w : World) (g : GL w) : Calls Tryd.prog 9 #[] w fun e w' => e = .returned (.bool true) ∧ Below w.heap.size w w' := by
  have GG := Lib.hid g
  have NN := Lib.hid (Below.refl w.heap.size w)
  clear g
  go_enter Tryd.func9, Tryd.ntmps9
  go_wp2_with fail
  refine (of_calls 1 2 2 _).mono ?_
  rintro e w1 ⟨rfl, hb⟩
  replace NN := Lib.hid (Bgo NN.out hb)
  clear hb
  go_wp2_with fail
  refine (of_calls 0 2 1 _).mono ?_
  rintro e w2 ⟨rfl, hb⟩
  replace NN := Lib.hid (Bgo NN.out hb)
  clear hb
  go_wp2_with fail
  refine (mul_calls _ _ _ _ _ _ _ _ _ _ mA _).mono ?_
  rintro e w3 ⟨rfl, hb⟩
  replace NN := Lib.hid (Bgo NN.out hb)
  clear hb
  have HB : Hid (Below w3.heap.size w3 (w3.alloc (.cells #[.int .i64 (-2), .int .i64 1, .int .i64 1] 23))) := Lib.hid (Bal (Below.refl _ _) _)
  have B1 := Lib.hid (blk_new w3 (.cells #[.int .i64 (-2), .int .i64 1, .int .i64 1] 23))
  have LT_B1 : Hid (w.heap.size ≤ w3.heap.size) := Lib.hid NN.out.size
  replace NN := Lib.hid (Bgo NN.out HB.out)
  clear HB
  go_wp2_with fail
  generalize w3.alloc (.cells #[.int .i64 (-2), .int .i64 1, .int .i64 1] 23) = W4 at *
  generalize w3.heap.size = g4 at *
  refine (of_calls 1 2 2 _).mono ?_
  rintro e w5 ⟨rfl, hb⟩
  replace NN := Lib.hid (Bgo NN.out hb)
  replace B1 := Lib.hid (blk_next hb B1.out)
  clear hb
  go_wp2_with fail
  refine (text_at tA kA _ (GG.out.next NN.out)).mono ?_
  rintro e w6 ⟨rfl, hb⟩
  replace NN := Lib.hid (Bgo NN.out hb)
  replace B1 := Lib.hid (blk_next hb B1.out)
  clear hb
  go_wp2_with fail
  refine (of_calls 3 4 1 _).mono ?_
  rintro e w7 ⟨rfl, hb⟩
  replace NN := Lib.hid (Bgo NN.out hb)
  replace B1 := Lib.hid (blk_next hb B1.out)
  clear hb
  go_wp2_with fail
  refine (of_calls 1 2 1 _).mono ?_
  rintro e w8 ⟨rfl, hb⟩
  replace NN := Lib.hid (Bgo NN.out hb)
  replace B1 := Lib.hid (blk_next hb B1.out)
  clear hb
  go_wp2_with fail
  refine (div_calls dA _).mono ?_
  rintro e w9 ⟨rfl, hb⟩
  replace NN := Lib.hid (Bgo NN.out hb)
  replace B1 := Lib.hid (blk_next hb B1.out)
  clear hb
  have HB : Hid (Below w9.heap.size w9 (w9.alloc (.cells #[.int .i64 11, .int .i64 (-2), .int .i64 5] 23))) := Lib.hid (Bal (Below.refl _ _) _)
  have B2 := Lib.hid (blk_new w9 (.cells #[.int .i64 11, .int .i64 (-2), .int .i64 5] 23))
  have LT_B2 : Hid (g4 < w9.heap.size ∧ w.heap.size ≤ w9.heap.size) := Lib.hid ⟨blk_lt B1.out, NN.out.size⟩
  replace NN := Lib.hid (Bgo NN.out HB.out)
  replace B1 := Lib.hid (blk_next HB.out B1.out)
  clear HB
  go_wp2_with fail
  generalize w9.alloc (.cells #[.int .i64 11, .int .i64 (-2), .int .i64 5] 23) = W10 at *
  generalize w9.heap.size = g10 at *
  refine (of_calls 3 4 5 _).mono ?_
  rintro e w11 ⟨rfl, hb⟩
  replace NN := Lib.hid (Bgo NN.out hb)
  replace B1 := Lib.hid (blk_next hb B1.out)
  replace B2 := Lib.hid (blk_next hb B2.out)
  clear hb
  go_wp2_with fail
  refine (norm_calls nA _).mono ?_
  rintro e w12 ⟨rfl, hb⟩
  replace NN := Lib.hid (Bgo NN.out hb)
  replace B1 := Lib.hid (blk_next hb B1.out)
  replace B2 := Lib.hid (blk_next hb B2.out)
  clear hb
  have HB : Hid (Below w12.heap.size w12 (w12.alloc (.cells #[.int .i64 1, .int .i64 1] 41))) := Lib.hid (Bal (Below.refl _ _) _)
  have B3 := Lib.hid (blk_new w12 (.cells #[.int .i64 1, .int .i64 1] 41))
  have LT_B3 : Hid (g4 < w12.heap.size ∧ g10 < w12.heap.size ∧ w.heap.size ≤ w12.heap.size) := Lib.hid ⟨blk_lt B1.out, blk_lt B2.out, NN.out.size⟩
  replace NN := Lib.hid (Bgo NN.out HB.out)
  replace B1 := Lib.hid (blk_next HB.out B1.out)
  replace B2 := Lib.hid (blk_next HB.out B2.out)
  clear HB
  go_wp2_with fail
  generalize w12.alloc (.cells #[.int .i64 1, .int .i64 1] 41) = W13 at *
  generalize w12.heap.size = g13 at *
  refine (of_calls 3 4 5 _).mono ?_
  rintro e w14 ⟨rfl, hb⟩
  replace NN := Lib.hid (Bgo NN.out hb)
  replace B1 := Lib.hid (blk_next hb B1.out)
  replace B2 := Lib.hid (blk_next hb B2.out)
  replace B3 := Lib.hid (blk_next hb B3.out)
  clear hb
  go_wp2_with fail
  refine (ray_calls rA _).mono ?_
  rintro e w15 ⟨rfl, hb⟩
  replace NN := Lib.hid (Bgo NN.out hb)
  replace B1 := Lib.hid (blk_next hb B1.out)
  replace B2 := Lib.hid (blk_next hb B2.out)
  replace B3 := Lib.hid (blk_next hb B3.out)
  clear hb
  have HB : Hid (Below w15.heap.size w15 (w15.alloc (.cells #[.int .i64 3, .int .i64 4, .int .i64 1] 23))) := Lib.hid (Bal (Below.refl _ _) _)
  have B4 := Lib.hid (blk_new w15 (.cells #[.int .i64 3, .int .i64 4, .int .i64 1] 23))
  have LT_B4 : Hid (g4 < w15.heap.size ∧ g10 < w15.heap.size ∧ g13 < w15.heap.size ∧ w.heap.size ≤ w15.heap.size) := Lib.hid ⟨blk_lt B1.out, blk_lt B2.out, blk_lt B3.out, NN.out.size⟩
  replace NN := Lib.hid (Bgo NN.out HB.out)
  replace B1 := Lib.hid (blk_next HB.out B1.out)
  replace B2 := Lib.hid (blk_next HB.out B2.out)
  replace B3 := Lib.hid (blk_next HB.out B3.out)
  clear HB
  go_wp2_with fail
  generalize w15.alloc (.cells #[.int .i64 3, .int .i64 4, .int .i64 1] 23) = W16 at *
  generalize w15.heap.size = g16 at *
  refine (parse_at pA _ (GG.out.next NN.out)).mono ?_
  rintro e w17 ⟨rfl, hb⟩
  replace NN := Lib.hid (Bgo NN.out hb)
  replace B1 := Lib.hid (blk_next hb B1.out)
  replace B2 := Lib.hid (blk_next hb B2.out)
  replace B3 := Lib.hid (blk_next hb B3.out)
  replace B4 := Lib.hid (blk_next hb B4.out)
  clear hb
  have HB : Hid (Below w17.heap.size w17 (w17.alloc (.cells #[.int .i64 0, .int .i64 0, .int .i64 0] 23))) := Lib.hid (Bal (Below.refl _ _) _)
  have B5 := Lib.hid (blk_new w17 (.cells #[.int .i64 0, .int .i64 0, .int .i64 0] 23))
  have LT_B5 : Hid (g4 < w17.heap.size ∧ g10 < w17.heap.size ∧ g13 < w17.heap.size ∧ g16 < w17.heap.size ∧ w.heap.size ≤ w17.heap.size) := Lib.hid ⟨blk_lt B1.out, blk_lt B2.out, blk_lt B3.out, blk_lt B4.out, NN.out.size⟩
  replace NN := Lib.hid (Bgo NN.out HB.out)
  replace B1 := Lib.hid (blk_next HB.out B1.out)
  replace B2 := Lib.hid (blk_next HB.out B2.out)
  replace B3 := Lib.hid (blk_next HB.out B3.out)
  replace B4 := Lib.hid (blk_next HB.out B4.out)
  clear HB
  go_wp2_with fail
  generalize w17.alloc (.cells #[.int .i64 0, .int .i64 0, .int .i64 0] 23) = W18 at *
  generalize w17.heap.size = g18 at *
  refine (parse_at pB _ (GG.out.next NN.out)).mono ?_
  rintro e w19 ⟨rfl, hb⟩
  replace NN := Lib.hid (Bgo NN.out hb)
  replace B1 := Lib.hid (blk_next hb B1.out)
  replace B2 := Lib.hid (blk_next hb B2.out)
  replace B3 := Lib.hid (blk_next hb B3.out)
  replace B4 := Lib.hid (blk_next hb B4.out)
  replace B5 := Lib.hid (blk_next hb B5.out)
  clear hb
  have HB : Hid (Below w19.heap.size w19 (w19.alloc (.cells #[.int .i64 0, .int .i64 0, .int .i64 0] 23))) := Lib.hid (Bal (Below.refl _ _) _)
  have B6 := Lib.hid (blk_new w19 (.cells #[.int .i64 0, .int .i64 0, .int .i64 0] 23))
  have LT_B6 : Hid (g4 < w19.heap.size ∧ g10 < w19.heap.size ∧ g13 < w19.heap.size ∧ g16 < w19.heap.size ∧ g18 < w19.heap.size ∧ w.heap.size ≤ w19.heap.size) := Lib.hid ⟨blk_lt B1.out, blk_lt B2.out, blk_lt B3.out, blk_lt B4.out, blk_lt B5.out, NN.out.size⟩
  replace NN := Lib.hid (Bgo NN.out HB.out)
  replace B1 := Lib.hid (blk_next HB.out B1.out)
  replace B2 := Lib.hid (blk_next HB.out B2.out)
  replace B3 := Lib.hid (blk_next HB.out B3.out)
  replace B4 := Lib.hid (blk_next HB.out B4.out)
  replace B5 := Lib.hid (blk_next HB.out B5.out)
  clear HB
  go_wp2_with fail
  generalize w19.alloc (.cells #[.int .i64 0, .int .i64 0, .int .i64 0] 23) = W20 at *
  generalize w19.heap.size = g20 at *
  refine (parse_at pC _ (GG.out.next NN.out)).mono ?_
  rintro e w21 ⟨rfl, hb⟩
  replace NN := Lib.hid (Bgo NN.out hb)
  replace B1 := Lib.hid (blk_next hb B1.out)
  replace B2 := Lib.hid (blk_next hb B2.out)
  replace B3 := Lib.hid (blk_next hb B3.out)
  replace B4 := Lib.hid (blk_next hb B4.out)
  replace B5 := Lib.hid (blk_next hb B5.out)
  replace B6 := Lib.hid (blk_next hb B6.out)
  clear hb
  have HB : Hid (Below w21.heap.size w21 (w21.alloc (.cells #[.int .i64 0, .int .i64 0, .int .i64 0] 23))) := Lib.hid (Bal (Below.refl _ _) _)
  have B7 := Lib.hid (blk_new w21 (.cells #[.int .i64 0, .int .i64 0, .int .i64 0] 23))
  have LT_B7 : Hid (g4 < w21.heap.size ∧ g10 < w21.heap.size ∧ g13 < w21.heap.size ∧ g16 < w21.heap.size ∧ g18 < w21.heap.size ∧ g20 < w21.heap.size ∧ w.heap.size ≤ w21.heap.size) := Lib.hid ⟨blk_lt B1.out, blk_lt B2.out, blk_lt B3.out, blk_lt B4.out, blk_lt B5.out, blk_lt B6.out, NN.out.size⟩
  replace NN := Lib.hid (Bgo NN.out HB.out)
  replace B1 := Lib.hid (blk_next HB.out B1.out)
  replace B2 := Lib.hid (blk_next HB.out B2.out)
  replace B3 := Lib.hid (blk_next HB.out B3.out)
  replace B4 := Lib.hid (blk_next HB.out B4.out)
  replace B5 := Lib.hid (blk_next HB.out B5.out)
  replace B6 := Lib.hid (blk_next HB.out B6.out)
  clear HB
  go_wp2_with fail
  generalize w21.alloc (.cells #[.int .i64 0, .int .i64 0, .int .i64 0] 23) = WL at *
  refine region_I (S := SK [(3, g4, .cells #[.int .i64 (-2), .int .i64 1, .int .i64 1] 23), (20, g10, .cells #[.int .i64 11, .int .i64 (-2), .int .i64 5] 23), (29, g13, .cells #[.int .i64 1, .int .i64 1] 41), (38, g16, .cells #[.int .i64 3, .int .i64 4, .int .i64 1] 23)]) (by kernel_rfl) ?_
  have HAL := Lib.hid (fun (k : Nat) => (show SK [(3, g4, .cells #[.int .i64 (-2), .int .i64 1, .int .i64 1] 23), (20, g10, .cells #[.int .i64 11, .int .i64 (-2), .int .i64 5] 23), (29, g13, .cells #[.int .i64 1, .int .i64 1] 41), (38, g16, .cells #[.int .i64 3, .int .i64 4, .int .i64 1] 23)] k WL.drew from fun p hp e => by
    simp only [List.mem_cons, List.not_mem_nil, or_false] at hp
    rcases hp with rfl | rfl | rfl | rfl
    · exact B1.out
    · exact B2.out
    · exact B3.out
    · exact B4.out))
  replace NN := Lib.hid (Bgo NN.out (Below.drew (Below.refl WL.heap.size WL)))
  clear B1 B2 B3 B4 B5 B6 B7
  refine only_I 0 (by kernel_rfl) rfl (fun K' hK' => ?_)
  go_simp
  refine hK'.out _ _ (fun k _ h => h) ?_
  clear hK' K'
  try simp only [Act.put, List.setIfInBounds_toArray, List.set_cons_zero, List.set_cons_succ]
  refine only_I 1 (by kernel_rfl) rfl (fun K' hK' => ?_)
  go_simp
  refine hK'.out _ _ (fun k _ h => h) ?_
  clear hK' K'
  try simp only [Act.put, List.setIfInBounds_toArray, List.set_cons_zero, List.set_cons_succ]
  refine only_I 2 (by kernel_rfl) rfl (fun K' hK' => ?_)
  go_simp
  refine hK'.out _ _ (fun k _ h => h) ?_
  clear hK' K'
  try simp only [Act.put, List.setIfInBounds_toArray, List.set_cons_zero, List.set_cons_succ]
  refine take_I 3 (Cv (-2) 1 1) (some 59) rfl (by kernel_rfl) (by kernel_rfl) (by kernel_rfl) rfl (fun _ _ _ h => h) (Or.inl ⟨by rfl, ?_⟩) (HAL.out 3) ?_
  · intro X hX
    have hh := hX (3, g4, .cells #[.int .i64 (-2), .int .i64 1, .int .i64 1] 23) (List.Mem.head _) rfl
    have hh0 := blk_cell hh 0 _ rfl
    have hh1 := blk_cell hh 1 _ rfl
    have hh2 := blk_cell hh 2 _ rfl
    have hhl := blk_lt hh
    clear hh
    clear hX
    go_simp
  try simp only [Act.put, List.setIfInBounds_toArray, List.set_cons_zero, List.set_cons_succ]
  refine only_I 4 (by kernel_rfl) rfl (fun K' hK' => ?_)
  go_simp
  go_at_call 20
  refine (of_calls (-2) 1 1 _).mono ?_
  rintro e x3 ⟨rfl, hb⟩
  replace NN := Lib.hid (Bgo NN.out hb)
  go_simp
  refine hK'.out _ _ (fun k _ hS => hS.next hb) ?_
  clear hK' K'
  try simp only [Act.put, List.setIfInBounds_toArray, List.set_cons_zero, List.set_cons_succ]
  replace HAL := Lib.hid (fun k => (HAL.out k).next hb)
  refine only_I 5 (by kernel_rfl) rfl (fun K' hK' => ?_)
  go_simp
  refine hK'.out _ _ (fun k _ h => h) ?_
  clear hK' K'
  try simp only [Act.put, List.setIfInBounds_toArray, List.set_cons_zero, List.set_cons_succ]
  refine only_I 6 (by kernel_rfl) rfl (fun K' hK' => ?_)
  go_simp
  refine hK'.out _ _ (fun k _ h => h) ?_
  clear hK' K'
  try simp only [Act.put, List.setIfInBounds_toArray, List.set_cons_zero, List.set_cons_succ]
  refine only_I 7 (by kernel_rfl) rfl (fun K' hK' => ?_)
  go_simp
  refine hK'.out _ _ (fun k _ h => h) ?_
  clear hK' K'
  try simp only [Act.put, List.setIfInBounds_toArray, List.set_cons_zero, List.set_cons_succ]
  refine only_I 8 (by kernel_rfl) rfl (fun K' hK' => ?_)
  go_simp
  refine hK'.out _ _ (fun k _ h => h) ?_
  clear hK' K'
  try simp only [Act.put, List.setIfInBounds_toArray, List.set_cons_zero, List.set_cons_succ]
  refine only_I 9 (by kernel_rfl) rfl (fun K' hK' => ?_)
  go_simp
  refine hK'.out _ _ (fun k _ h => h) ?_
  clear hK' K'
  try simp only [Act.put, List.setIfInBounds_toArray, List.set_cons_zero, List.set_cons_succ]
  refine only_I 10 (by kernel_rfl) rfl (fun K' hK' => ?_)
  go_simp
  refine hK'.out _ _ (fun k _ h => h) ?_
  clear hK' K'
  try simp only [Act.put, List.setIfInBounds_toArray, List.set_cons_zero, List.set_cons_succ]
  refine only_I 11 (by kernel_rfl) rfl (fun K' hK' => ?_)
  go_simp
  refine hK'.out _ _ (fun k _ h => h) ?_
  clear hK' K'
  try simp only [Act.put, List.setIfInBounds_toArray, List.set_cons_zero, List.set_cons_succ]
  refine only_I 12 (by kernel_rfl) rfl (fun K' hK' => ?_)
  go_simp
  refine hK'.out _ _ (fun k _ h => h) ?_
  clear hK' K'
  try simp only [Act.put, List.setIfInBounds_toArray, List.set_cons_zero, List.set_cons_succ]
  refine only_I 13 (by kernel_rfl) rfl (fun K' hK' => ?_)
  go_simp
  refine hK'.out _ _ (fun k _ h => h) ?_
  clear hK' K'
  try simp only [Act.put, List.setIfInBounds_toArray, List.set_cons_zero, List.set_cons_succ]
  refine only_I 14 (by kernel_rfl) rfl (fun K' hK' => ?_)
  go_simp
  refine hK'.out _ _ (fun k _ h => h) ?_
  clear hK' K'
  try simp only [Act.put, List.setIfInBounds_toArray, List.set_cons_zero, List.set_cons_succ]
  refine only_I 15 (by kernel_rfl) rfl (fun K' hK' => ?_)
  go_simp
  refine hK'.out _ _ (fun k _ h => h) ?_
  clear hK' K'
  try simp only [Act.put, List.setIfInBounds_toArray, List.set_cons_zero, List.set_cons_succ]
  refine only_I 16 (by kernel_rfl) rfl (fun K' hK' => ?_)
  go_simp
  refine hK'.out _ _ (fun k _ h => h) ?_
  clear hK' K'
  try simp only [Act.put, List.setIfInBounds_toArray, List.set_cons_zero, List.set_cons_succ]
  refine only_I 17 (by kernel_rfl) rfl (fun K' hK' => ?_)
  go_simp
  refine hK'.out _ _ (fun k _ h => h) ?_
  clear hK' K'
  try simp only [Act.put, List.setIfInBounds_toArray, List.set_cons_zero, List.set_cons_succ]
  refine only_I 18 (by kernel_rfl) rfl (fun K' hK' => ?_)
  go_simp
  refine hK'.out _ _ (fun k _ h => h) ?_
  clear hK' K'
  try simp only [Act.put, List.setIfInBounds_toArray, List.set_cons_zero, List.set_cons_succ]
  refine only_I 19 (by kernel_rfl) rfl (fun K' hK' => ?_)
  go_simp
  refine hK'.out _ _ (fun k _ h => h) ?_
  clear hK' K'
  try simp only [Act.put, List.setIfInBounds_toArray, List.set_cons_zero, List.set_cons_succ]
  refine take_I 20 (Cv 11 (-2) 5) (some 76) rfl (by kernel_rfl) (by kernel_rfl) (by kernel_rfl) rfl (fun _ _ _ h => h) (Or.inl ⟨by rfl, ?_⟩) (HAL.out 20) ?_
  · intro X hX
    have hh := hX (20, g10, .cells #[.int .i64 11, .int .i64 (-2), .int .i64 5] 23) (List.Mem.tail _ (List.Mem.head _)) rfl
    have hh0 := blk_cell hh 0 _ rfl
    have hh1 := blk_cell hh 1 _ rfl
    have hh2 := blk_cell hh 2 _ rfl
    have hhl := blk_lt hh
    clear hh
    clear hX
    go_simp
  try simp only [Act.put, List.setIfInBounds_toArray, List.set_cons_zero, List.set_cons_succ]
  refine only_I 21 (by kernel_rfl) rfl (fun K' hK' => ?_)
  go_simp
  go_at_call 20
  refine (of_calls 11 (-2) 5 _).mono ?_
  rintro e x20 ⟨rfl, hb⟩
  replace NN := Lib.hid (Bgo NN.out hb)
  go_simp
  refine hK'.out _ _ (fun k _ hS => hS.next hb) ?_
  clear hK' K'
  try simp only [Act.put, List.setIfInBounds_toArray, List.set_cons_zero, List.set_cons_succ]
  replace HAL := Lib.hid (fun k => (HAL.out k).next hb)
  refine only_I 22 (by kernel_rfl) rfl (fun K' hK' => ?_)
  go_simp
  refine hK'.out _ _ (fun k _ h => h) ?_
  clear hK' K'
  try simp only [Act.put, List.setIfInBounds_toArray, List.set_cons_zero, List.set_cons_succ]
  refine only_I 23 (by kernel_rfl) rfl (fun K' hK' => ?_)
  go_simp
  refine hK'.out _ _ (fun k _ h => h) ?_
  clear hK' K'
  try simp only [Act.put, List.setIfInBounds_toArray, List.set_cons_zero, List.set_cons_succ]
  refine only_I 24 (by kernel_rfl) rfl (fun K' hK' => ?_)
  go_simp
  refine hK'.out _ _ (fun k _ h => h) ?_
  clear hK' K'
  try simp only [Act.put, List.setIfInBounds_toArray, List.set_cons_zero, List.set_cons_succ]
  refine only_I 25 (by kernel_rfl) rfl (fun K' hK' => ?_)
  go_simp
  refine hK'.out _ _ (fun k _ h => h) ?_
  clear hK' K'
  try simp only [Act.put, List.setIfInBounds_toArray, List.set_cons_zero, List.set_cons_succ]
  refine only_I 26 (by kernel_rfl) rfl (fun K' hK' => ?_)
  go_simp
  refine hK'.out _ _ (fun k _ h => h) ?_
  clear hK' K'
  try simp only [Act.put, List.setIfInBounds_toArray, List.set_cons_zero, List.set_cons_succ]
  refine only_I 27 (by kernel_rfl) rfl (fun K' hK' => ?_)
  go_simp
  refine hK'.out _ _ (fun k _ h => h) ?_
  clear hK' K'
  try simp only [Act.put, List.setIfInBounds_toArray, List.set_cons_zero, List.set_cons_succ]
  refine only_I 28 (by kernel_rfl) rfl (fun K' hK' => ?_)
  go_simp
  refine hK'.out _ _ (fun k _ h => h) ?_
  clear hK' K'
  try simp only [Act.put, List.setIfInBounds_toArray, List.set_cons_zero, List.set_cons_succ]
  refine take_I 29 (.agg #[.int .i64 1, .int .i64 1]) (some 85) rfl (by kernel_rfl) (by kernel_rfl) (by kernel_rfl) rfl (fun _ _ _ h => h) (Or.inl ⟨by rfl, ?_⟩) (HAL.out 29) ?_
  · intro X hX
    have hh := hX (29, g13, .cells #[.int .i64 1, .int .i64 1] 41) (List.Mem.tail _ (List.Mem.tail _ (List.Mem.head _))) rfl
    have hh0 := blk_cell hh 0 _ rfl
    have hh1 := blk_cell hh 1 _ rfl
    have hhl := blk_lt hh
    clear hh
    clear hX
    go_simp
  try simp only [Act.put, List.setIfInBounds_toArray, List.set_cons_zero, List.set_cons_succ]
  refine only_I 30 (by kernel_rfl) rfl (fun K' hK' => ?_)
  go_simp
  refine hK'.out _ _ (fun k _ h => h) ?_
  clear hK' K'
  try simp only [Act.put, List.setIfInBounds_toArray, List.set_cons_zero, List.set_cons_succ]
  refine only_I 31 (by kernel_rfl) rfl (fun K' hK' => ?_)
  go_simp
  refine hK'.out _ _ (fun k _ h => h) ?_
  clear hK' K'
  try simp only [Act.put, List.setIfInBounds_toArray, List.set_cons_zero, List.set_cons_succ]
  refine only_I 32 (by kernel_rfl) rfl (fun K' hK' => ?_)
  go_simp
  refine hK'.out _ _ (fun k _ h => h) ?_
  clear hK' K'
  try simp only [Act.put, List.setIfInBounds_toArray, List.set_cons_zero, List.set_cons_succ]
  refine only_I 33 (by kernel_rfl) rfl (fun K' hK' => ?_)
  go_simp
  refine hK'.out _ _ (fun k _ h => h) ?_
  clear hK' K'
  try simp only [Act.put, List.setIfInBounds_toArray, List.set_cons_zero, List.set_cons_succ]
  refine only_I 34 (by kernel_rfl) rfl (fun K' hK' => ?_)
  go_simp
  refine hK'.out _ _ (fun k _ h => h) ?_
  clear hK' K'
  try simp only [Act.put, List.setIfInBounds_toArray, List.set_cons_zero, List.set_cons_succ]
  refine only_I 35 (by kernel_rfl) rfl (fun K' hK' => ?_)
  go_simp
  refine hK'.out _ _ (fun k _ h => h) ?_
  clear hK' K'
  try simp only [Act.put, List.setIfInBounds_toArray, List.set_cons_zero, List.set_cons_succ]
  refine only_I 36 (by kernel_rfl) rfl (fun K' hK' => ?_)
  go_simp
  refine hK'.out _ _ (fun k _ h => h) ?_
  clear hK' K'
  try simp only [Act.put, List.setIfInBounds_toArray, List.set_cons_zero, List.set_cons_succ]
  refine only_I 37 (by kernel_rfl) rfl (fun K' hK' => ?_)
  go_simp
  refine hK'.out _ _ (fun k _ h => h) ?_
  clear hK' K'
  try simp only [Act.put, List.setIfInBounds_toArray, List.set_cons_zero, List.set_cons_succ]
  refine take_I 38 (Cv 3 4 1) (some 94) rfl (by kernel_rfl) (by kernel_rfl) (by kernel_rfl) rfl (fun _ _ _ h => h) (Or.inl ⟨by rfl, ?_⟩) (HAL.out 38) ?_
  · intro X hX
    have hh := hX (38, g16, .cells #[.int .i64 3, .int .i64 4, .int .i64 1] 23) (List.Mem.tail _ (List.Mem.tail _ (List.Mem.tail _ (List.Mem.head _)))) rfl
    have hh0 := blk_cell hh 0 _ rfl
    have hh1 := blk_cell hh 1 _ rfl
    have hh2 := blk_cell hh 2 _ rfl
    have hhl := blk_lt hh
    clear hh
    clear hX
    go_simp
  try simp only [Act.put, List.setIfInBounds_toArray, List.set_cons_zero, List.set_cons_succ]
  refine only_I 39 (by kernel_rfl) rfl (fun K' hK' => ?_)
  go_simp
  go_at_call 20
  refine (of_calls 3 4 1 _).mono ?_
  rintro e x38 ⟨rfl, hb⟩
  replace NN := Lib.hid (Bgo NN.out hb)
  go_simp
  refine hK'.out _ _ (fun k _ hS => hS.next hb) ?_
  clear hK' K'
  try simp only [Act.put, List.setIfInBounds_toArray, List.set_cons_zero, List.set_cons_succ]
  replace HAL := Lib.hid (fun k => (HAL.out k).next hb)
  refine only_I 40 (by kernel_rfl) rfl (fun K' hK' => ?_)
  go_simp
  refine hK'.out _ _ (fun k _ h => h) ?_
  clear hK' K'
  try simp only [Act.put, List.setIfInBounds_toArray, List.set_cons_zero, List.set_cons_succ]
  refine only_I 41 (by kernel_rfl) rfl (fun K' hK' => ?_)
  go_simp
  refine hK'.out _ _ (fun k _ h => h) ?_
  clear hK' K'
  try simp only [Act.put, List.setIfInBounds_toArray, List.set_cons_zero, List.set_cons_succ]
  refine only_I 42 (by kernel_rfl) rfl (fun K' hK' => ?_)
  go_simp
  refine hK'.out _ _ (fun k _ h => h) ?_
  clear hK' K'
  try simp only [Act.put, List.setIfInBounds_toArray, List.set_cons_zero, List.set_cons_succ]
  refine only_I 43 (by kernel_rfl) rfl (fun K' hK' => ?_)
  go_simp
  refine hK'.out _ _ (fun k _ h => h) ?_
  clear hK' K'
  try simp only [Act.put, List.setIfInBounds_toArray, List.set_cons_zero, List.set_cons_succ]
  refine only_I 44 (by kernel_rfl) rfl (fun K' hK' => ?_)
  go_simp
  refine hK'.out _ _ (fun k _ h => h) ?_
  clear hK' K'
  try simp only [Act.put, List.setIfInBounds_toArray, List.set_cons_zero, List.set_cons_succ]
  refine only_I 45 (by kernel_rfl) rfl (fun K' hK' => ?_)
  go_simp
  refine hK'.out _ _ (fun k _ h => h) ?_
  clear hK' K'
  try simp only [Act.put, List.setIfInBounds_toArray, List.set_cons_zero, List.set_cons_succ]
  refine only_I 46 (by kernel_rfl) rfl (fun K' hK' => ?_)
  go_simp
  refine hK'.out _ _ (fun k _ h => h) ?_
  clear hK' K'
  try simp only [Act.put, List.setIfInBounds_toArray, List.set_cons_zero, List.set_cons_succ]
  refine only_I 47 (by kernel_rfl) rfl (fun K' hK' => ?_)
  go_simp
  refine hK'.out _ _ (fun k _ h => h) ?_
  clear hK' K'
  try simp only [Act.put, List.setIfInBounds_toArray, List.set_cons_zero, List.set_cons_succ]
  refine only_I 48 (by kernel_rfl) rfl (fun K' hK' => ?_)
  go_simp
  refine hK'.out _ _ (fun k _ h => h) ?_
  clear hK' K'
  try simp only [Act.put, List.setIfInBounds_toArray, List.set_cons_zero, List.set_cons_succ]
  refine only_I 49 (by kernel_rfl) rfl (fun K' hK' => ?_)
  go_simp
  refine hK'.out _ _ (fun k _ h => h) ?_
  clear hK' K'
  try simp only [Act.put, List.setIfInBounds_toArray, List.set_cons_zero, List.set_cons_succ]
  refine only_I 50 (by kernel_rfl) rfl (fun K' hK' => ?_)
  go_simp
  refine hK'.out _ _ (fun k _ h => h) ?_
  clear hK' K'
  try simp only [Act.put, List.setIfInBounds_toArray, List.set_cons_zero, List.set_cons_succ]
  refine only_I 51 (by kernel_rfl) rfl (fun K' hK' => ?_)
  go_simp
  refine hK'.out _ _ (fun k _ h => h) ?_
  clear hK' K'
  try simp only [Act.put, List.setIfInBounds_toArray, List.set_cons_zero, List.set_cons_succ]
  refine only_I 52 (by kernel_rfl) rfl (fun K' hK' => ?_)
  go_simp
  refine hK'.out _ _ (fun k _ h => h) ?_
  clear hK' K'
  try simp only [Act.put, List.setIfInBounds_toArray, List.set_cons_zero, List.set_cons_succ]
  refine only_I 53 (by kernel_rfl) rfl (fun K' hK' => ?_)
  go_simp
  refine hK'.out _ _ (fun k _ h => h) ?_
  clear hK' K'
  try simp only [Act.put, List.setIfInBounds_toArray, List.set_cons_zero, List.set_cons_succ]
  refine only_I 54 (by kernel_rfl) rfl (fun K' hK' => ?_)
  go_simp
  refine hK'.out _ _ (fun k _ h => h) ?_
  clear hK' K'
  try simp only [Act.put, List.setIfInBounds_toArray, List.set_cons_zero, List.set_cons_succ]
  clear HAL
  refine done_I (by kernel_rfl) ?_ _
  go_wp2_with fail
  go_ret
  exact ⟨rfl, NN.out⟩
end Go.Proofs.YtbbjclbpllfdeaaDoor
