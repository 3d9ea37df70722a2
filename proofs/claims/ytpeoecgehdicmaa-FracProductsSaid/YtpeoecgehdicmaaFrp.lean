/- Contracts of layer 1: Near of the reference. -/
import Derived.Test.YtpeoecgehdicmaaFro
import Derived.Test.YtpeoecgehdicmaaFrL
namespace Go.Proofs.Ytpeoecgehdicmaa
open Go.ChangeShapes Go.WideShapes Go.ChangeAt Go.RowKit
set_option linter.unusedVariables false
attribute [local go_sem ↓] Go.wp_at_zero Go.wp_at_succ

theorem num_bd {N D p q z M s : Int} (hN : -M ≤ N ∧ N ≤ M) (hM : 0 ≤ M) (hD : 1 ≤ D) (hq : 0 ≤ q ∧ q ≤ D) (hz : 0 ≤ z ∧ z ≤ D) (hs : s = 1 ∨ s = -1) (e : p * D - q * N = s * z) : -(M + 1) ≤ p ∧ p ≤ M + 1 := by
  have a1 : q * N ≤ D * M := by
    have h1 : q * N ≤ q * M := Int.mul_le_mul_of_nonneg_left hN.2 hq.1
    have h2 : q * M ≤ D * M := Int.mul_le_mul_of_nonneg_right hq.2 hM
    omega
  have a2 : -(D * M) ≤ q * N := by
    have h1 : q * (-M) ≤ q * N := Int.mul_le_mul_of_nonneg_left hN.1 hq.1
    have h2 : q * M ≤ D * M := Int.mul_le_mul_of_nonneg_right hq.2 hM
    rw [Int.mul_neg] at h1
    omega
  have a3 : -D ≤ s * z ∧ s * z ≤ D := by
    rcases hs with rfl | rfl
    · omega
    · omega
  refine ⟨?_, ?_⟩
  · by_cases h : p ≤ -(M + 2)
    · have h1 : p * D ≤ -(M + 2) * D := Int.mul_le_mul_of_nonneg_right h (by omega)
      have h2 : -(M + 2) * D = -(D * M) - 2 * D := by grind
      omega
    · omega
  · by_cases h : M + 2 ≤ p
    · have h1 : (M + 2) * D ≤ p * D := Int.mul_le_mul_of_nonneg_right h (by omega)
      have h2 : (M + 2) * D = D * M + 2 * D := by grind
      omega
    · omega
theorem wsub (a b z : Int) (h : a - b = z) (h1 : -9223372036854775808 ≤ z) (h2 : z ≤ 9223372036854775807) : IntKind.i64.wrap (IntKind.i64.wrap a - IntKind.i64.wrap b) = z := by
  rw [IntKind.wrap_i64, IntKind.wrap_i64, IntKind.wrap_i64]
  omega
theorem wsub64 (a b z : Int) (h : a - b = z) (h1 : -9223372036854775808 ≤ z) (h2 : z ≤ 9223372036854775807) : wrap64 (wrap64 a - wrap64 b) = z := by
  unfold wrap64
  omega
theorem LI.sgn {X D n p0 q0 p1 q1 x y s : Int} (h : Farey.LI X D n p0 q0 p1 q1 x y s) : s = 1 ∨ s = -1 := by
  have := h.sq
  have h1 : (s - 1) * (s + 1) = 0 := by grind
  rcases Int.mul_eq_zero.1 h1 with h2 | h2
  · exact .inl (by omega)
  · exact .inr (by omega)
theorem ref_start {N D n : Int} (hc : Int.gcd N D = 1) (hn : 1 ≤ n) (hD : n < D) : Farey.LI N D n 1 0 (N / D) 1 D (N % D) (-1) := by
  have e := Int.mul_ediv_add_emod N D
  have r0 := Int.emod_nonneg N (show D ≠ 0 by omega)
  refine ⟨by omega, ?_, by omega, by omega, by omega, ?_, by omega, by omega, by omega, hn⟩
  · rw [Int.mul_comm] at e; omega
  · by_cases h : N % D = 0
    · exfalso
      have hd : D ∣ N := Int.dvd_of_emod_eq_zero h
      have h2 : Nat.gcd N.natAbs D.natAbs = D.natAbs := Nat.gcd_eq_right (Int.natAbs_dvd_natAbs.2 hd)
      have h3 : Nat.gcd N.natAbs D.natAbs = 1 := hc
      omega
    · omega
def SR (gp gq be ofs : Nat) (p0 q0 p1 q1 c : Int) (k : Nat) (X : World) : Prop := (k = 2 → X.cell? ⟨gp, 0, none⟩ = some (.int .i64 p0)) ∧ (k = 12 → X.cell? ⟨gp, 1, none⟩ = some (.int .i64 q0)) ∧ (k = 0 ∨ k = 8 ∨ k = 18 → X.cell? ⟨gq, 0, none⟩ = some (.int .i64 p1) ∧ X.cell? ⟨gq, 1, none⟩ = some (.int .i64 q1)) ∧ (k = 6 ∨ k = 16 → X.cell? ⟨be, ofs, none⟩ = some (.int .i64 c))
theorem SR.all {gp gq be ofs : Nat} {p0 q0 p1 q1 c : Int} {X : World} (h1 : X.cell? ⟨gp, 0, none⟩ = some (.int .i64 p0)) (h2 : X.cell? ⟨gp, 1, none⟩ = some (.int .i64 q0)) (h3 : X.cell? ⟨gq, 0, none⟩ = some (.int .i64 p1)) (h4 : X.cell? ⟨gq, 1, none⟩ = some (.int .i64 q1)) (h5 : X.cell? ⟨be, ofs, none⟩ = some (.int .i64 c)) (k : Nat) : SR gp gq be ofs p0 q0 p1 q1 c k X := ⟨fun _ => h1, fun _ => h2, fun _ => ⟨h3, h4⟩, fun _ => h5⟩
theorem bf {b : Bool} (h : b = true) (k : b = false) : False := by rw [h] at k; cases k
theorem cell_other {w : World} {b g o o' : Nat} {v x : Value} (h : w.cell? ⟨b, o', none⟩ = some x) (hne : b ≠ g) : (w.setCell ⟨g, o, none⟩ v).cell? ⟨b, o', none⟩ = some x := (World.cell?_of_block (Below.heap_setCell _ _ _ _ hne)).trans h
theorem SR.put {gp gq be ofs : Nat} {p0 q0 p1 q1 c : Int} {k : Nat} {W : World} (h : SR gp gq be ofs p0 q0 p1 q1 c k W.drew) (n1 : be ≠ gp) (n2 : gq ≠ gp) (h2 : k ≠ 2) (h12 : k ≠ 12) (a b : Value) : SR gp gq be ofs p0 q0 p1 q1 c k ((W.setCell ⟨gp, 0, none⟩ a).setCell ⟨gp, 1, none⟩ b).drew :=
  ⟨fun e => absurd e h2, fun e => absurd e h12, fun e => ⟨cell_other (cell_other (h.2.2.1 e).1 n2) n2, cell_other (cell_other (h.2.2.1 e).2 n2) n2⟩, fun e => cell_other (cell_other (h.2.2.2 e) n1) n1⟩
set_option maxRecDepth 100000 in
set_option maxHeartbeats 4000000 in
theorem refNear_easy (N D n : Int) (w : World) (h : errF N D ≠ 0 ∨ n < 1 ∨ 1000000000000000000 < n ∨ D ≤ n) :
    Calls Try.prog 14 #[Fv N D, .int .i64 n] w (NPost w N D n) := by
  have C1 := Lib.hid (fun W => refCheck_calls N D W)
  by_cases ck : errF N D = 0
  · rw [ck] at C1
    have hd := errF_ok ck
    have d1 := hd.d1
    have d2 := hd.d2
    clear hd
    by_cases c1 : n < 1
    · have AR : Hid (NearR N D n (0, 0, 2)) := Lib.hid (.inr (.inl ⟨ck, .inl c1, rfl⟩))
      clear ck h
      go_enter Try.func14, Try.ntmps14
      go_wp2_with fail
      refine (C1.out _).mono ?_
      rintro e w1 ⟨rfl, hb⟩
      have K := Lib.hid ((P1.init w N D).next hb)
      clear hb
      have z0 := blk_cell K.out.z 0 _ rfl
      have z1 := blk_cell K.out.z 1 _ rfl
      have f0 := blk_frozen K.out.z 0
      have f1 := blk_frozen K.out.z 1
      have a0 := blk_cell K.out.a 0 _ rfl
      have a1 := blk_cell K.out.a 1 _ rfl
      have zl := blk_lt K.out.z
      go_wp2_with fail
      have e1 := blk_cell (blk_set (blk_set K.out.z 0 (.int .i64 0)) 1 (.int .i64 0)) 0 _ rfl
      have e2 := blk_cell (blk_set (blk_set K.out.z 0 (.int .i64 0)) 1 (.int .i64 0)) 1 _ rfl
      refine bodyPost_ret (v := .tuple #[Fv 0 0, .int .i64 2]) (by simp [results, Try.results14, go_sem, e1, e2]) rfl ⟨(0, 0, 2), rfl, AR.out, Bset1 (Bset1 K.out.n (by omega) _ _) (by omega) _ _⟩
    by_cases c2 : 1000000000000000000 < n
    · have AR : Hid (NearR N D n (0, 0, 2)) := Lib.hid (.inr (.inl ⟨ck, .inr c2, rfl⟩))
      clear ck h
      go_enter Try.func14, Try.ntmps14
      go_wp2_with fail
      refine (C1.out _).mono ?_
      rintro e w1 ⟨rfl, hb⟩
      have K := Lib.hid ((P1.init w N D).next hb)
      clear hb
      have z0 := blk_cell K.out.z 0 _ rfl
      have z1 := blk_cell K.out.z 1 _ rfl
      have f0 := blk_frozen K.out.z 0
      have f1 := blk_frozen K.out.z 1
      have a0 := blk_cell K.out.a 0 _ rfl
      have a1 := blk_cell K.out.a 1 _ rfl
      have zl := blk_lt K.out.z
      go_wp2_with fail
      have e1 := blk_cell (blk_set (blk_set K.out.z 0 (.int .i64 0)) 1 (.int .i64 0)) 0 _ rfl
      have e2 := blk_cell (blk_set (blk_set K.out.z 0 (.int .i64 0)) 1 (.int .i64 0)) 1 _ rfl
      refine bodyPost_ret (v := .tuple #[Fv 0 0, .int .i64 2]) (by simp [results, Try.results14, go_sem, e1, e2]) rfl ⟨(0, 0, 2), rfl, AR.out, Bset1 (Bset1 K.out.n (by omega) _ _) (by omega) _ _⟩
    have c3 : D ≤ n := by omega
    have AR : Hid (NearR N D n (N, D, 0)) := Lib.hid (.inr (.inr (.inl ⟨ck, by omega, by omega, c3, rfl⟩)))
    clear ck h
    go_enter Try.func14, Try.ntmps14
    go_wp2_with fail
    refine (C1.out _).mono ?_
    rintro e w1 ⟨rfl, hb⟩
    have K := Lib.hid ((P1.init w N D).next hb)
    clear hb
    have z0 := blk_cell K.out.z 0 _ rfl
    have z1 := blk_cell K.out.z 1 _ rfl
    have f0 := blk_frozen K.out.z 0
    have f1 := blk_frozen K.out.z 1
    have a0 := blk_cell K.out.a 0 _ rfl
    have a1 := blk_cell K.out.a 1 _ rfl
    have zl := blk_lt K.out.z
    go_wp2_with fail
    have e1 := blk_cell (blk_set (blk_set K.out.z 0 (.int .i64 N)) 1 (.int .i64 D)) 0 _ rfl
    have e2 := blk_cell (blk_set (blk_set K.out.z 0 (.int .i64 N)) 1 (.int .i64 D)) 1 _ rfl
    refine bodyPost_ret (v := .tuple #[Fv N D, .int .i64 0]) (by simp [results, Try.results14, go_sem, e1, e2]) rfl ⟨(N, D, 0), rfl, AR.out, Bset1 (Bset1 K.out.n (by omega) _ _) (by omega) _ _⟩
  · have AR : Hid (NearR N D n (0, 0, errF N D)) := Lib.hid (.inl ⟨ck, rfl⟩)
    have ck' : (errF N D != 0) = true := by rw [bne_iff_ne]; exact ck
    generalize errF N D = er at *
    clear ck h
    go_enter Try.func14, Try.ntmps14
    go_wp2_with fail
    refine (C1.out _).mono ?_
    rintro e w1 ⟨rfl, hb⟩
    have K := Lib.hid ((P1.init w N D).next hb)
    clear hb
    have z0 := blk_cell K.out.z 0 _ rfl
    have z1 := blk_cell K.out.z 1 _ rfl
    have f0 := blk_frozen K.out.z 0
    have f1 := blk_frozen K.out.z 1
    have a0 := blk_cell K.out.a 0 _ rfl
    have a1 := blk_cell K.out.a 1 _ rfl
    have zl := blk_lt K.out.z
    go_wp2_with fail
    refine (C1.out _).mono ?_
    rintro e w2 ⟨rfl, hb⟩
    replace K := Lib.hid (K.out.next hb)
    clear hb z0 z1 f0 f1 a0 a1 zl
    have z0 := blk_cell K.out.z 0 _ rfl
    have z1 := blk_cell K.out.z 1 _ rfl
    have f0 := blk_frozen K.out.z 0
    have f1 := blk_frozen K.out.z 1
    have a0 := blk_cell K.out.a 0 _ rfl
    have a1 := blk_cell K.out.a 1 _ rfl
    have zl := blk_lt K.out.z
    go_wp2_with fail
    have e1 := blk_cell (blk_set (blk_set K.out.z 0 (.int .i64 0)) 1 (.int .i64 0)) 0 _ rfl
    have e2 := blk_cell (blk_set (blk_set K.out.z 0 (.int .i64 0)) 1 (.int .i64 0)) 1 _ rfl
    refine bodyPost_ret (v := .tuple #[Fv 0 0, .int .i64 er]) (by simp [results, Try.results14, go_sem, e1, e2]) rfl ⟨(0, 0, er), rfl, AR.out, Bset1 (Bset1 K.out.n (by omega) _ _) (by omega) _ _⟩
set_option maxRecDepth 100000 in
set_option maxHeartbeats 16000000 in
theorem refNear_deep (N D n : Int) (w : World) (ck : errF N D = 0) (n1 : 1 ≤ n) (n2 : n ≤ 1000000000000000000) (nd : n < D) :
    Calls Try.prog 14 #[Fv N D, .int .i64 n] w (NPost w N D n) := by
  have C1 := Lib.hid (fun W => refCheck_calls N D W)
  have E1 := Lib.hid (fun W => refExpand_calls N D W)
  rw [ck] at C1 E1
  have hd := errF_ok ck
  have d1 := hd.d1
  have d2 := hd.d2
  have d3 := hd.n1
  have d4 := hd.n2
  have ARM : Hid (∀ x y, Farey.Near N D n x y → NearR N D n (x, y, 0)) := Lib.hid (fun x y hxy => .inr (.inr (.inr ⟨ck, n1, n2, nd, x, y, hxy, rfl⟩)))
  have COP : Hid (Int.gcd N D = 1) := Lib.hid hd.g
  have ER : exR N D = Farey.ex N D := by unfold exR; rw [if_pos ck]
  rw [ER] at E1
  have EL := Farey.ex_len (x := N) (y := D) (by omega) d2
  have EP : Farey.ex N D = (N / D) :: Farey.ex D (N % D) := Farey.ex_pos (by omega)
  obtain ⟨E, hE⟩ : ∃ E, E = Farey.ex N D := ⟨_, rfl⟩
  rw [← hE] at E1 EL EP
  have ED : Hid (E.drop 1 = Farey.ex D (N % D)) := Lib.hid (by rw [EP]; rfl)
  have E0 : Hid (E[0]? = some (N / D)) := Lib.hid (by rw [EP]; rfl)
  have E9 : 0 < E.length := by rw [EP]; simp
  have L0 := Lib.hid (ref_start hd.g n1 nd)
  have rb := Int.emod_lt_of_pos N (show 0 < D by omega)
  obtain ⟨c0, hc0⟩ : ∃ c, c = N / D := ⟨_, rfl⟩
  obtain ⟨y0, hy0⟩ : ∃ c, c = N % D := ⟨_, rfl⟩
  rw [← hc0] at E0 L0
  rw [← hy0] at ED L0 rb
  clear hE EP ER hc0 hy0 ck hd
  have c1 : ¬ n < 1 := by omega
  have c2 : ¬ 1000000000000000000 < n := by omega
  have c3 : ¬ D ≤ n := by omega
  go_enter Try.func14, Try.ntmps14
  go_wp2_with fail
  refine (C1.out _).mono ?_
  rintro e w1 ⟨rfl, hb⟩
  have K := Lib.hid ((P1.init w N D).next hb)
  clear hb
  have z0 := blk_cell K.out.z 0 _ rfl
  have z1 := blk_cell K.out.z 1 _ rfl
  have f0 := blk_frozen K.out.z 0
  have f1 := blk_frozen K.out.z 1
  have a0 := blk_cell K.out.a 0 _ rfl
  have a1 := blk_cell K.out.a 1 _ rfl
  have zl := blk_lt K.out.z
  go_wp2_with fail
  refine (E1.out _).mono ?_
  rintro e w2 ⟨ve, rfl, oe, hb⟩
  obtain ⟨Ae, ce, rfl, he1, he2, _⟩ := own_form oe
  replace K := Lib.hid (K.out.next hb)
  have OE := Lib.hid oe
  clear oe hb z0 z1 f0 f1 a0 a1 zl
  obtain ⟨be, oe, rfl, _, hbl, hcell⟩ := Hd.of_own OE.out 0 _ (lv_get E0.out)
  go_upto_region 8 with fail
  go_cut [8, 9] (fun s8 s9 wx => ∃ (gp gq : Nat), s8 = .pointer (some ⟨gp, 0, none⟩) ∧ s9 = .pointer (some ⟨gq, 0, none⟩) ∧ gp ≠ gq ∧ w2.heap.size ≤ gp ∧ w2.heap.size ≤ gq ∧ Hid (Below w2.heap.size w2 wx) ∧ Hid (wx.heap[gp]? = some (.cells #[.int .i64 1, .int .i64 0] 23)) ∧ Hid (wx.heap[gq]? = some (.cells #[.int .i64 c0, .int .i64 1] 23)))
  case first =>
    have i1 : (0 : Int) < (E.length : Int) := by omega
    have hcell' : w2.cell? ⟨be, oe, none⟩ = some (.int .i64 c0) := by simpa using hcell
    go_region
    all_goals go_wp2_with fail
    all_goals go_meet
    · exact ⟨w2.heap.size, w2.heap.size + 1, rfl, rfl, by omega, by omega, by omega, Lib.hid (Bal (Bal (Below.refl _ _) _) _).drew, Lib.hid (blk1 w2 _ _), Lib.hid (blk2 w2 _ _)⟩
    · exact ⟨w2.heap.size + 1, w2.heap.size, rfl, rfl, by omega, by omega, by omega, Lib.hid (Bal (Bal (Below.refl _ _) _) _).drew, Lib.hid (blk2 w2 _ _), Lib.hid (blk1 w2 _ _)⟩
  case rest =>
    obtain ⟨gp, gq, rfl, rfl, ne, gp1, gq1, NC, GP, GQ⟩ := hcut
    have hbe : be < w2.heap.size := hbl
    have K9 : Hid (w.heap.size + 1 < w2.heap.size) := Lib.hid (blk_lt K.out.z)
    clear hcell hbl
    go_wp2_with fail
    go_loopw [10] (fun si wr => ∃ (i : Nat) (p0 q0 p1 q1 x y s : Int), si = .int .i64 i ∧ i ≤ E.length ∧ x ≤ D ∧ y < x ∧ 1 ≤ q1 ∧ Hid (E.drop i = Farey.ex x y) ∧ Hid (Farey.LI N D n p0 q0 p1 q1 x y s) ∧ Hid (Below w2.heap.size w2 wr) ∧ Hid (wr.heap[gp]? = some (.cells #[.int .i64 p0, .int .i64 q0] 23)) ∧ Hid (wr.heap[gq]? = some (.cells #[.int .i64 p1, .int .i64 q1] 23))) (fun si _ => E.length - (intOf si).toNat)
    case atStart => exact ⟨1, 1, 0, c0, 1, D, y0, -1, rfl, by omega, by omega, by omega, by omega, ED, L0, NC, GP, GQ⟩
    case round =>
      clear NC GP GQ ED L0 E0
      obtain ⟨i, p0, q0, p1, q1, x, y, s, rfl, hi, xD, yx, q1p, HE, L, NB, GP, GQ⟩ := hrel
      have yD : y ≤ D := by omega
      have x0 := L.out.x0
      have y1 := L.out.y1
      have q00 := L.out.q00
      have q0n := L.out.q0n
      have q1n := L.out.q1n
      have sg := LI.sgn L.out
      obtain ⟨p0a, p0b⟩ := num_bd (p := p0) (q := q0) (z := x) (s := -s) (M := 1000000000000000000) ⟨d3, d4⟩ (by omega) (by omega) ⟨q00, by omega⟩ ⟨x0, xD⟩ (by omega) (by have := L.out.a; grind)
      obtain ⟨p1a, p1b⟩ := num_bd (p := p1) (q := q1) (z := y) (s := s) (M := 1000000000000000000) ⟨d3, d4⟩ (by omega) (by omega) ⟨by omega, by omega⟩ ⟨by omega, yD⟩ sg L.out.b
      have EX := Farey.ex_pos (x := x) (y := y) (by omega)
      have cy : x / y * y ≤ x := Int.ediv_mul_le x (by omega)
      have cxy : x - x / y * y = x % y := by have := Int.mul_ediv_add_emod x y; rw [Int.mul_comm] at this; omega
      have c0' : 0 ≤ x / y := Int.ediv_nonneg x0 (by omega)
      have cx : x / y ≤ x := Int.ediv_le_self y x0
      have rm0 := Int.emod_nonneg x (show y ≠ 0 by omega)
      have rm1 := Int.emod_lt_of_pos x (show 0 < y by omega)
      have HEi : E[i]? = some (x / y) := by
        have h := HE.out; rw [EX] at h
        have h2 : (E.drop i)[0]? = some (x / y) := by rw [h]; rfl
        rw [List.getElem?_drop] at h2; exact h2
      have HEn : Hid (E.drop (i + 1) = Farey.ex y (x % y)) := Lib.hid (by
        have h := HE.out; rw [EX] at h
        rw [← List.drop_drop, h]; rfl)
      have hil := get_lt HEi
      obtain ⟨c, hc⟩ : ∃ c, x / y = c := ⟨_, rfl⟩
      obtain ⟨r, hr⟩ : ∃ r, x % y = r := ⟨_, rfl⟩
      rw [hc] at cy cxy c0' cx HEi
      rw [hr] at cxy rm0 rm1 HEn
      clear hc hr EX
      obtain ⟨be', oe', ee, _, hbl, hcell⟩ := Hd.of_own (own_next NB.out OE.out) i _ (lv_get HEi)
      injection ee with ee
      injection ee with ee1 ee2
      subst ee1 ee2
      obtain ⟨m, hm⟩ : ∃ m, (n - q0).tdiv q1 = m := ⟨_, rfl⟩
      have hm' : m = (n - q0) / q1 := by rw [← hm, Int.tdiv_eq_ediv_of_nonneg (by omega)]
      have m1 : m * q1 ≤ n - q0 := by rw [hm']; exact Int.ediv_mul_le _ (by omega)
      have m2 : n - q0 < m * q1 + q1 := by have := Int.lt_ediv_add_one_mul_self (n - q0) (show 0 < q1 by omega); rw [← hm', Int.add_mul, Int.one_mul] at this; exact this
      have m0 : 0 ≤ m := by rw [hm']; exact Int.ediv_nonneg (by omega) (by omega)
      have mn : m ≤ n := by have := Farey.le_mul_one m0 q1p; omega
      have nq1 : ¬ q1 = 0 := by omega
      have wm : IntKind.i64.wrap m = m := IntWalk.i64_in _ (by omega)
      have wn : IntKind.i64.wrap (n - q0) = n - q0 := IntWalk.i64_in _ (by omega)
      have i1 : (0 : Int) ≤ (i : Int) := by omega
      have i2 : (i : Int) < (E.length : Int) := by omega
      have gp0 := blk_cell GP.out 0 _ rfl
      have gp_ := blk_cell GP.out 1 _ rfl
      have gq0 := blk_cell GQ.out 0 _ rfl
      have gq_ := blk_cell GQ.out 1 _ rfl
      have gpl := blk_lt GP.out
      have gql := blk_lt GQ.out
      have HEI := Lib.hid HEi
      clear HEi hm' HE
      by_cases hcm : c ≤ m
      · have cm' : decide (c ≤ m) = true := decide_eq_true hcm
        have cq1 : c * q1 + q0 ≤ n := by have h9 : c * q1 ≤ m * q1 := Int.mul_le_mul_of_nonneg_right hcm (show 0 ≤ q1 by omega); omega
        have LN := L.out.step COP.out nd n1 cy cq1 c0'
        rw [cxy] at LN
        have cq0 := Int.mul_nonneg c0' (show 0 ≤ q1 by omega)
        obtain ⟨g1, g2⟩ := num_bd (p := c * p1 + p0) (q := c * q1 + q0) (z := r) (s := -s) (M := 1000000000000000000) ⟨d3, d4⟩ (by omega) (by omega) ⟨by omega, by omega⟩ ⟨rm0, by omega⟩ (by omega) LN.b
        obtain ⟨cq, hcq⟩ : ∃ z, c * q1 = z := ⟨_, rfl⟩
        obtain ⟨cp, hcp⟩ : ∃ z, c * p1 = z := ⟨_, rfl⟩
        rw [hcq] at cq1 LN cq0
        rw [hcp] at LN g1 g2
        have LQ : Hid (Farey.LI N D n p1 q1 (p0 + cp) (q0 + cq) y r (-s)) := Lib.hid (by rw [Int.add_comm p0, Int.add_comm q0]; exact LN)
        have q2p : 1 ≤ q0 + cq := by
          have c1p : 1 ≤ c := by
            by_cases e : c = 0
            · exfalso; rw [e, Int.zero_mul] at cxy; omega
            · omega
          have := Farey.le_mul_one (a := q1) (b := c) (by omega) c1p
          rw [Int.mul_comm, hcq] at this; omega
        have wcp : IntKind.i64.wrap cp = cp := IntWalk.i64_in _ (by omega)
        have wcq : IntKind.i64.wrap cq = cq := IntWalk.i64_in _ (by omega)
        have ws1 : IntKind.i64.wrap (p0 + cp) = p0 + cp := IntWalk.i64_in _ (by omega)
        have ws2 : IntKind.i64.wrap (q0 + cq) = q0 + cq := IntWalk.i64_in _ (by omega)
        clear LN
        go_wp2_with fail
        go_quiet (fail)
        replace NB := Lib.hid (below_drewN NB.out nq)
        replace GP : Hid ((wr.drewN nq).heap[gp]? = some (.cells #[.int .i64 p0, .int .i64 q0] 23)) := Lib.hid GP.out
        replace GQ : Hid ((wr.drewN nq).heap[gq]? = some (.cells #[.int .i64 p1, .int .i64 q1] 23)) := Lib.hid GQ.out
        replace hcell : (wr.drewN nq).cell? ⟨be, oe + i, none⟩ = some (.int .i64 c) := hcell
        replace hbl : be < (wr.drewN nq).heap.size := hbl
        clear gp0 gp_ gq0 gq_ gpl gql wm wn
        generalize wr.drewN nq = W3 at *
        have gp0 := blk_cell GP.out 0 _ rfl
        have gp_ := blk_cell GP.out 1 _ rfl
        have gq0 := blk_cell GQ.out 0 _ rfl
        have gq_ := blk_cell GQ.out 1 _ rfl
        have gpl := blk_lt GP.out
        have gql := blk_lt GQ.out
        have gpf0 := blk_frozen GP.out 0
        have gpf1 := blk_frozen GP.out 1
        have gqf0 := blk_frozen GQ.out 0
        have gqf1 := blk_frozen GQ.out 1
        have ne' : ¬ gq = gp := fun h => ne h.symm
        have ne1 : ¬ gp = gq := ne
        have ne2 : ¬ be = gp := by omega
        have ne3 : ¬ gp = be := by omega
        have ne4 : ¬ be = gq := by omega
        have ne5 : ¬ gq = be := by omega
        go_wp2_with fail
        refine region_I (S := SR gp gq be (oe + i) p0 q0 p1 q1 c) (by kernel_rfl) ?_
        have AL : ∀ k, SR gp gq be (oe + i) p0 q0 p1 q1 c k W3.drew := fun k => SR.all gp0 gp_ gq0 gq_ hcell k
        have HAL := Lib.hid AL
        clear AL
        refine take_I 0 (Fv p1 q1) (some 54) rfl (by kernel_rfl) (by kernel_rfl) (by kernel_rfl) rfl (fun _ _ _ h => h) (Or.inl ⟨by rfl, ?_⟩) (HAL.out 0) ?_
        · intro X hX
          obtain ⟨h1, h2⟩ := hX.2.2.1 (Or.inl rfl)
          clear hX gp0 gp_ gq0 gq_ hcell
          go_simp
        try simp only [Act.put, List.setIfInBounds_toArray, List.set_cons_zero, List.set_cons_succ]
        refine take_I 1 (.pointer (some ⟨gp, 0, none⟩)) (some 55) rfl (by kernel_rfl) (by kernel_rfl) (by kernel_rfl) rfl (fun _ _ _ h => h) (Or.inl ⟨by rfl, ?_⟩) (HAL.out 1) ?_
        · intro X hX
          clear hX gp0 gp_ gq0 gq_ hcell
          go_simp
        try simp only [Act.put, List.setIfInBounds_toArray, List.set_cons_zero, List.set_cons_succ]
        refine take_I 2 (.int .i64 p0) (some 56) rfl (by kernel_rfl) (by kernel_rfl) (by kernel_rfl) rfl (fun _ _ _ h => h) (Or.inl ⟨by rfl, ?_⟩) (HAL.out 2) ?_
        · intro X hX
          have h1 := hX.1 rfl
          clear hX gp0 gp_ gq0 gq_ hcell
          go_simp
        try simp only [Act.put, List.setIfInBounds_toArray, List.set_cons_zero, List.set_cons_succ]
        refine take_I 3 (.slice (some ⟨be, oe, none⟩) E.length ce) (some 57) rfl (by kernel_rfl) (by kernel_rfl) (by kernel_rfl) rfl (fun _ _ _ h => h) (Or.inl ⟨by rfl, ?_⟩) (HAL.out 3) ?_
        · intro X hX
          clear hX gp0 gp_ gq0 gq_ hcell
          go_simp
        try simp only [Act.put, List.setIfInBounds_toArray, List.set_cons_zero, List.set_cons_succ]
        refine take_I 4 (.int .i64 i) (some 58) rfl (by kernel_rfl) (by kernel_rfl) (by kernel_rfl) rfl (fun _ _ _ h => h) (Or.inl ⟨by rfl, ?_⟩) (HAL.out 4) ?_
        · intro X hX
          clear hX gp0 gp_ gq0 gq_ hcell
          go_simp
        try simp only [Act.put, List.setIfInBounds_toArray, List.set_cons_zero, List.set_cons_succ]
        refine take_I 5 (.pointer (some ⟨be, oe + i, none⟩)) (some 59) rfl (by kernel_rfl) (by kernel_rfl) (by kernel_rfl) rfl (fun _ _ _ h => h) (Or.inl ⟨by rfl, ?_⟩) (HAL.out 5) ?_
        · intro X hX
          clear hX gp0 gp_ gq0 gq_ hcell
          go_simp
        try simp only [Act.put, List.setIfInBounds_toArray, List.set_cons_zero, List.set_cons_succ]
        refine take_I 6 (.int .i64 c) (some 60) rfl (by kernel_rfl) (by kernel_rfl) (by kernel_rfl) rfl (fun _ _ _ h => h) (Or.inl ⟨by rfl, ?_⟩) (HAL.out 6) ?_
        · intro X hX
          have h1 := hX.2.2.2 (Or.inl rfl)
          clear hX gp0 gp_ gq0 gq_ hcell
          go_simp
        try simp only [Act.put, List.setIfInBounds_toArray, List.set_cons_zero, List.set_cons_succ]
        refine take_I 7 (.pointer (some ⟨gq, 0, none⟩)) (some 61) rfl (by kernel_rfl) (by kernel_rfl) (by kernel_rfl) rfl (fun _ _ _ h => h) (Or.inl ⟨by rfl, ?_⟩) (HAL.out 7) ?_
        · intro X hX
          clear hX gp0 gp_ gq0 gq_ hcell
          go_simp
        try simp only [Act.put, List.setIfInBounds_toArray, List.set_cons_zero, List.set_cons_succ]
        refine take_I 8 (.int .i64 p1) (some 62) rfl (by kernel_rfl) (by kernel_rfl) (by kernel_rfl) rfl (fun _ _ _ h => h) (Or.inl ⟨by rfl, ?_⟩) (HAL.out 8) ?_
        · intro X hX
          obtain ⟨h1, h2⟩ := hX.2.2.1 (Or.inr (Or.inl rfl))
          clear hX gp0 gp_ gq0 gq_ hcell
          go_simp
        try simp only [Act.put, List.setIfInBounds_toArray, List.set_cons_zero, List.set_cons_succ]
        refine take_I 9 (.int .i64 cp) (some 63) rfl (by kernel_rfl) (by kernel_rfl) (by kernel_rfl) rfl (fun _ _ _ h => h) (Or.inl ⟨by rfl, ?_⟩) (HAL.out 9) ?_
        · intro X hX
          clear hX gp0 gp_ gq0 gq_ hcell
          go_simp
        try simp only [Act.put, List.setIfInBounds_toArray, List.set_cons_zero, List.set_cons_succ]
        refine take_I 10 (.int .i64 (p0 + cp)) (some 64) rfl (by kernel_rfl) (by kernel_rfl) (by kernel_rfl) rfl (fun _ _ _ h => h) (Or.inl ⟨by rfl, ?_⟩) (HAL.out 10) ?_
        · intro X hX
          clear hX gp0 gp_ gq0 gq_ hcell
          go_simp
        try simp only [Act.put, List.setIfInBounds_toArray, List.set_cons_zero, List.set_cons_succ]
        refine take_I 11 (.pointer (some ⟨gp, 1, none⟩)) (some 65) rfl (by kernel_rfl) (by kernel_rfl) (by kernel_rfl) rfl (fun _ _ _ h => h) (Or.inl ⟨by rfl, ?_⟩) (HAL.out 11) ?_
        · intro X hX
          clear hX gp0 gp_ gq0 gq_ hcell
          go_simp
        try simp only [Act.put, List.setIfInBounds_toArray, List.set_cons_zero, List.set_cons_succ]
        refine take_I 12 (.int .i64 q0) (some 66) rfl (by kernel_rfl) (by kernel_rfl) (by kernel_rfl) rfl (fun _ _ _ h => h) (Or.inl ⟨by rfl, ?_⟩) (HAL.out 12) ?_
        · intro X hX
          have h1 := hX.2.1 rfl
          clear hX gp0 gp_ gq0 gq_ hcell
          go_simp
        try simp only [Act.put, List.setIfInBounds_toArray, List.set_cons_zero, List.set_cons_succ]
        refine take_I 13 (.slice (some ⟨be, oe, none⟩) E.length ce) (some 67) rfl (by kernel_rfl) (by kernel_rfl) (by kernel_rfl) rfl (fun _ _ _ h => h) (Or.inl ⟨by rfl, ?_⟩) (HAL.out 13) ?_
        · intro X hX
          clear hX gp0 gp_ gq0 gq_ hcell
          go_simp
        try simp only [Act.put, List.setIfInBounds_toArray, List.set_cons_zero, List.set_cons_succ]
        refine take_I 14 (.int .i64 i) (some 68) rfl (by kernel_rfl) (by kernel_rfl) (by kernel_rfl) rfl (fun _ _ _ h => h) (Or.inl ⟨by rfl, ?_⟩) (HAL.out 14) ?_
        · intro X hX
          clear hX gp0 gp_ gq0 gq_ hcell
          go_simp
        try simp only [Act.put, List.setIfInBounds_toArray, List.set_cons_zero, List.set_cons_succ]
        refine take_I 15 (.pointer (some ⟨be, oe + i, none⟩)) (some 69) rfl (by kernel_rfl) (by kernel_rfl) (by kernel_rfl) rfl (fun _ _ _ h => h) (Or.inl ⟨by rfl, ?_⟩) (HAL.out 15) ?_
        · intro X hX
          clear hX gp0 gp_ gq0 gq_ hcell
          go_simp
        try simp only [Act.put, List.setIfInBounds_toArray, List.set_cons_zero, List.set_cons_succ]
        refine take_I 16 (.int .i64 c) (some 70) rfl (by kernel_rfl) (by kernel_rfl) (by kernel_rfl) rfl (fun _ _ _ h => h) (Or.inl ⟨by rfl, ?_⟩) (HAL.out 16) ?_
        · intro X hX
          have h1 := hX.2.2.2 (Or.inr rfl)
          clear hX gp0 gp_ gq0 gq_ hcell
          go_simp
        try simp only [Act.put, List.setIfInBounds_toArray, List.set_cons_zero, List.set_cons_succ]
        refine take_I 17 (.pointer (some ⟨gq, 1, none⟩)) (some 71) rfl (by kernel_rfl) (by kernel_rfl) (by kernel_rfl) rfl (fun _ _ _ h => h) (Or.inl ⟨by rfl, ?_⟩) (HAL.out 17) ?_
        · intro X hX
          clear hX gp0 gp_ gq0 gq_ hcell
          go_simp
        try simp only [Act.put, List.setIfInBounds_toArray, List.set_cons_zero, List.set_cons_succ]
        refine take_I 18 (.int .i64 q1) (some 72) rfl (by kernel_rfl) (by kernel_rfl) (by kernel_rfl) rfl (fun _ _ _ h => h) (Or.inl ⟨by rfl, ?_⟩) (HAL.out 18) ?_
        · intro X hX
          obtain ⟨h1, h2⟩ := hX.2.2.1 (Or.inr (Or.inr rfl))
          clear hX gp0 gp_ gq0 gq_ hcell
          go_simp
        try simp only [Act.put, List.setIfInBounds_toArray, List.set_cons_zero, List.set_cons_succ]
        refine take_I 19 (.int .i64 cq) (some 73) rfl (by kernel_rfl) (by kernel_rfl) (by kernel_rfl) rfl (fun _ _ _ h => h) (Or.inl ⟨by rfl, ?_⟩) (HAL.out 19) ?_
        · intro X hX
          clear hX gp0 gp_ gq0 gq_ hcell
          go_simp
        try simp only [Act.put, List.setIfInBounds_toArray, List.set_cons_zero, List.set_cons_succ]
        refine take_I 20 (.int .i64 (q0 + cq)) (some 74) rfl (by kernel_rfl) (by kernel_rfl) (by kernel_rfl) rfl (fun _ _ _ h => h) (Or.inl ⟨by rfl, ?_⟩) (HAL.out 20) ?_
        · intro X hX
          clear hX gp0 gp_ gq0 gq_ hcell
          go_simp
        try simp only [Act.put, List.setIfInBounds_toArray, List.set_cons_zero, List.set_cons_succ]
        refine take_I 21 (Fv (p0 + cp) (q0 + cq)) (some 75) rfl (by kernel_rfl) (by kernel_rfl) (by kernel_rfl) rfl (fun _ _ _ h => h) (Or.inl ⟨by rfl, ?_⟩) (HAL.out 21) ?_
        · intro X hX
          clear hX gp0 gp_ gq0 gq_ hcell
          go_simp
        try simp only [Act.put, List.setIfInBounds_toArray, List.set_cons_zero, List.set_cons_succ]
        refine only_I 22 (by kernel_rfl) rfl (fun K hK => ?_)
        go_simp
        refine hK.out _ _ ?_ ?_
        · intro k hk hS
          exact SR.put hS (by omega) (fun e => ne e.symm) (fun e => by subst e; exact bf (by kernel_rfl) hk) (fun e => by subst e; exact bf (by kernel_rfl) hk) _ _
        clear hK K
        try simp only [Act.put, List.setIfInBounds_toArray, List.set_cons_zero, List.set_cons_succ]
        refine only_I 23 (by kernel_rfl) rfl (fun K hK => ?_)
        go_simp
        refine hK.out _ _ ?_ ?_
        · intro k hk hS
          exact ⟨fun e => by subst e; exact (bf (by kernel_rfl) hk).elim, fun e => by subst e; exact (bf (by kernel_rfl) hk).elim, fun e => by rcases e with rfl | rfl | rfl <;> exact (bf (by kernel_rfl) hk).elim, fun e => by rcases e with rfl | rfl <;> exact (bf (by kernel_rfl) hk).elim⟩
        clear hK K
        try simp only [Act.put, List.setIfInBounds_toArray, List.set_cons_zero, List.set_cons_succ]
        refine done_I (by kernel_rfl) ?_ _
        go_wp2_with fail
        refine ⟨⟨i + 1, p1, q1, p0 + cp, q0 + cq, y, r, -s, by go_num, by omega, by omega, rm1, q2p, HEn, LQ, Lib.hid (Bset1 (Bset1 (Bset1 (Bset1 NB.out gp1 0 _) gp1 1 _) gq1 0 _) gq1 1 _).drew, Lib.hid (blk_set_other (blk_set_other (blk_set (blk_set GP.out 0 _) 1 _) ne' 0 _) ne' 1 _), Lib.hid (blk_set (blk_set (blk_set_other (blk_set_other GQ.out ne 0 _) ne 1 _) 0 _) 1 _)⟩, by simp only [intOf]; omega⟩
      · have cm' : decide (c ≤ m) = false := decide_eq_false hcm
        have cq1 : n < c * q1 + q0 := by have h9 : (m + 1) * q1 ≤ c * q1 := Int.mul_le_mul_of_nonneg_right (by omega) (show 0 ≤ q1 by omega); rw [Int.add_mul, Int.one_mul] at h9; omega
        obtain ⟨_, _, _, off1, fp1, fp2⟩ := L.out.fp cy cq1 m1 m2
        have my0 := Int.mul_nonneg m0 (show 0 ≤ y by omega)
        have mq0 := Int.mul_nonneg m0 (show 0 ≤ q1 by omega)
        have LA := L.out.a
        have LB := L.out.b
        have LD := L.out.det
        have LS := L.out.sum
        have FAC : Hid (p1 * D - N * q1 = s * y ∧ N * (q0 + m * q1) - (p0 + m * p1) * D = s * (x - m * y) ∧ p1 * (q0 + m * q1) - (p0 + m * p1) * q1 = s ∧ y * (q0 + m * q1) + (x - m * y) * q1 = D ∧ (s = 1 → Farey.FP N D n (p0 + m * p1) (q0 + m * q1) p1 q1) ∧ (s = -1 → Farey.FP N D n p1 q1 (p0 + m * p1) (q0 + m * q1))) := Lib.hid ⟨by grind, by grind, by grind, by grind, fp1, fp2⟩
        obtain ⟨mq, hmq⟩ : ∃ z, m * q1 = z := ⟨_, rfl⟩
        obtain ⟨mp, hmp⟩ : ∃ z, m * p1 = z := ⟨_, rfl⟩
        obtain ⟨my, hmy⟩ : ∃ z, m * y = z := ⟨_, rfl⟩
        rw [hmq] at m1 m2 mq0
        rw [hmy] at off1 my0
        rw [hmq, hmp, hmy] at FAC
        obtain ⟨p2, hp2⟩ : ∃ z, p0 + mp = z := ⟨_, rfl⟩
        obtain ⟨q2, hq2⟩ : ∃ z, q0 + mq = z := ⟨_, rfl⟩
        obtain ⟨off, hoff⟩ : ∃ z, x - my = z := ⟨_, rfl⟩
        rw [hp2, hq2, hoff] at FAC
        have g81 : 1 ≤ q2 := by omega
        have g82 : q2 ≤ n := by omega
        have g91 : 1 ≤ off := by omega
        have g92 : off ≤ D := by omega
        obtain ⟨g71, g72⟩ := num_bd (p := p2) (q := q2) (z := off) (s := -s) (M := 1000000000000000000) ⟨d3, d4⟩ (by omega) (by omega) ⟨by omega, by omega⟩ ⟨by omega, g92⟩ (by omega) (by have := FAC.out.2.1; grind)
        have mpb : -2000000000000000002 ≤ mp ∧ mp ≤ 2000000000000000002 := by omega
        obtain ⟨mpb1, mpb2⟩ := mpb
        have ya := Int.mul_nonneg (show 0 ≤ y by omega) (show 0 ≤ q2 by omega)
        have yb := Int.mul_nonneg (show 0 ≤ off by omega) (show 0 ≤ q1 by omega)
        clear fp1 fp2 LA LB LD LS L
        go_wp2_with fail
        go_quiet (fail)
        replace NB := Lib.hid (below_drewN NB.out nq)
        replace GP : Hid ((wr.drewN nq).heap[gp]? = some (.cells #[.int .i64 p0, .int .i64 q0] 23)) := Lib.hid GP.out
        replace GQ : Hid ((wr.drewN nq).heap[gq]? = some (.cells #[.int .i64 p1, .int .i64 q1] 23)) := Lib.hid GQ.out
        clear gp0 gp_ gq0 gq_ gpl gql wm wn hcell hbl
        generalize wr.drewN nq = W3 at *
        have gp0 := blk_cell GP.out 0 _ rfl
        have gp_ := blk_cell GP.out 1 _ rfl
        have gq0 := blk_cell GQ.out 0 _ rfl
        have gq_ := blk_cell GQ.out 1 _ rfl
        have gpl := blk_lt GP.out
        have gql := blk_lt GQ.out
        have gpf0 := blk_frozen GP.out 0
        have gpf1 := blk_frozen GP.out 1
        have ne' : ¬ gq = gp := fun h => ne h.symm
        have ne1 : ¬ gp = gq := ne
        go_wp2_with fail
        replace NB := Lib.hid (Bset1 (Bset1 NB.out gp1 0 (.int .i64 p2)) gp1 1 (.int .i64 q2))
        replace GP := Lib.hid (blk_set (blk_set GP.out 0 (.int .i64 p2)) 1 (.int .i64 q2))
        replace GQ := Lib.hid (blk_set_other (blk_set_other GQ.out ne 0 (.int .i64 p2)) ne 1 (.int .i64 q2))
        clear gp0 gp_ gq0 gq_ gpl gql gpf0 gpf1
        generalize (W3.setCell ⟨gp, 0, none⟩ (.int .i64 p2)).setCell ⟨gp, 1, none⟩ (.int .i64 q2) = W4 at *
        replace GP : Hid (W4.heap[gp]? = some (.cells #[.int .i64 p2, .int .i64 q2] 23)) := Lib.hid GP.out
        replace GQ : Hid (W4.heap[gq]? = some (.cells #[.int .i64 p1, .int .i64 q1] 23)) := Lib.hid GQ.out
        refine (refLess_calls p1 q1 p2 q2 _ (by omega) (by omega) (by omega) (by omega) (by omega) (by omega) (by omega) (by omega)).mono ?_
        rintro e w5 ⟨rfl, hb⟩
        replace K := Lib.hid ((K.out.next NB.out).next hb)
        replace GP := Lib.hid (blk_next hb GP.out)
        replace GQ := Lib.hid (blk_next hb GQ.out)
        clear hb
        have gp0 := blk_cell GP.out 0 _ rfl
        have gp_ := blk_cell GP.out 1 _ rfl
        have gq0 := blk_cell GQ.out 0 _ rfl
        have gq_ := blk_cell GQ.out 1 _ rfl
        have gpl := blk_lt GP.out
        have gql := blk_lt GQ.out
        have gpf0 := blk_frozen GP.out 0
        have gpf1 := blk_frozen GP.out 1
        have gqf0 := blk_frozen GQ.out 0
        have gqf1 := blk_frozen GQ.out 1
        have zz := blk_lt K.out.z
        obtain ⟨f1, f2, f3, f4, f5, f6⟩ := FAC.out
        clear FAC
        rcases sg with s1 | s1
        · subst s1
          have LQ : decide (p1 * q2 < p2 * q1) = false := decide_eq_false (by omega)
          rw [LQ]
          have FPP := Lib.hid (f5 rfl)
          clear LQ f5 f6
          obtain ⟨va, hva⟩ : ∃ z, off * q1 = z := ⟨_, rfl⟩
          obtain ⟨ub, hub⟩ : ∃ z, y * q2 = z := ⟨_, rfl⟩
          have vb1 : 0 ≤ va ∧ va ≤ D ∧ 0 ≤ ub ∧ ub ≤ D := by rw [← hva, ← hub]; omega
          obtain ⟨vb1, vb2, vb3, vb4⟩ := vb1
          have e1' : p1 * D - N * q1 = y := by omega
          have e2' : N * q2 - p2 * D = off := by omega
          have NE : Hid ((va ≤ ub → Farey.Near N D n p2 q2) ∧ (ub < va → Farey.Near N D n p1 q1)) := Lib.hid ⟨fun h => ⟨_, _, _, _, FPP.out, .inl ⟨by rw [e1', e2', hva, hub]; exact h, rfl, rfl⟩⟩, fun h => ⟨_, _, _, _, FPP.out, .inr ⟨by rw [e1', e2', hva, hub]; omega, rfl, rfl⟩⟩⟩
          have wu0 := wsub64 _ _ _ e1' (by omega) (by omega)
          have wv0 := wsub64 _ _ _ e2' (by omega) (by omega)
          have wu : IntKind.i64.wrap (IntKind.i64.wrap (p1 * D) - IntKind.i64.wrap (N * q1)) = y := wsub _ _ _ e1' (by clear wu0 wv0; omega) (by clear wu0 wv0; omega)
          have wv : IntKind.i64.wrap (IntKind.i64.wrap (N * q2) - IntKind.i64.wrap (p2 * D)) = off := wsub _ _ _ e2' (by clear wu0 wv0; omega) (by clear wu0 wv0; omega)
          clear f1 f2 f3 f4 ya yb FPP e1' e2'
          have a0 := blk_cell K.out.a 0 _ rfl
          have a1 := blk_cell K.out.a 1 _ rfl
          go_upto_region 17 with fail
          replace GP : Hid (w5.heap[gp]? = some (.cells #[.int .i64 p2, .int .i64 q2] 23)) := Lib.hid GP.out
          replace GQ : Hid (w5.heap[gq]? = some (.cells #[.int .i64 p1, .int .i64 q1] 23)) := Lib.hid GQ.out
          go_quiet (fail)
          first | simp only [wu, wv] | simp only [wu0, wv0]
          clear gp0 gp_ gq0 gq_ gpl gql a0 a1 wu wv wu0 wv0 gpf0 gpf1 gqf0 gqf1 zz
          replace K := Lib.hid (K.out.drewN nq)
          replace GP : Hid ((w5.drewN nq).heap[gp]? = some (.cells #[.int .i64 p2, .int .i64 q2] 23)) := Lib.hid GP.out
          replace GQ : Hid ((w5.drewN nq).heap[gq]? = some (.cells #[.int .i64 p1, .int .i64 q1] 23)) := Lib.hid GQ.out
          generalize w5.drewN nq = W7 at *
          have gp0 := blk_cell GP.out 0 _ rfl
          have gp_ := blk_cell GP.out 1 _ rfl
          have gq0 := blk_cell GQ.out 0 _ rfl
          have gq_ := blk_cell GQ.out 1 _ rfl
          have gpl := blk_lt GP.out
          have gql := blk_lt GQ.out
          have z0 := blk_cell K.out.z 0 _ rfl
          have z1 := blk_cell K.out.z 1 _ rfl
          have f0 := blk_frozen K.out.z 0
          have f1 := blk_frozen K.out.z 1
          have zl := blk_lt K.out.z
          by_cases ht : va ≤ ub
          · have AN := Lib.hid (NE.out.1 ht)
            go_wp2_with fail
            have e1 := blk_cell (blk_set (blk_set K.out.z 0 (.int .i64 p2)) 1 (.int .i64 q2)) 0 _ rfl
            have e2 := blk_cell (blk_set (blk_set K.out.z 0 (.int .i64 p2)) 1 (.int .i64 q2)) 1 _ rfl
            refine bodyPost_ret (v := .tuple #[Fv p2 q2, .int .i64 0]) (by simp [results, Try.results14, go_sem, e1, e2]) rfl ⟨(p2, q2, 0), rfl, ARM.out _ _ AN.out, Bset1 (Bset1 K.out.n (by omega) _ _) (by omega) _ _⟩
          · have AN := Lib.hid (NE.out.2 (by omega))
            go_wp2_with fail
            have e1 := blk_cell (blk_set (blk_set K.out.z 0 (.int .i64 p1)) 1 (.int .i64 q1)) 0 _ rfl
            have e2 := blk_cell (blk_set (blk_set K.out.z 0 (.int .i64 p1)) 1 (.int .i64 q1)) 1 _ rfl
            refine bodyPost_ret (v := .tuple #[Fv p1 q1, .int .i64 0]) (by simp [results, Try.results14, go_sem, e1, e2]) rfl ⟨(p1, q1, 0), rfl, ARM.out _ _ AN.out, Bset1 (Bset1 K.out.n (by omega) _ _) (by omega) _ _⟩
        · subst s1
          have LQ : decide (p1 * q2 < p2 * q1) = true := decide_eq_true (by omega)
          rw [LQ]
          have FPP := Lib.hid (f6 rfl)
          clear LQ f5 f6
          obtain ⟨va, hva⟩ : ∃ z, y * q2 = z := ⟨_, rfl⟩
          obtain ⟨ub, hub⟩ : ∃ z, off * q1 = z := ⟨_, rfl⟩
          have vb1 : 0 ≤ va ∧ va ≤ D ∧ 0 ≤ ub ∧ ub ≤ D := by rw [← hva, ← hub]; omega
          obtain ⟨vb1, vb2, vb3, vb4⟩ := vb1
          have e1' : p2 * D - N * q2 = off := by omega
          have e2' : N * q1 - p1 * D = y := by omega
          have NE : Hid ((va ≤ ub → Farey.Near N D n p1 q1) ∧ (ub < va → Farey.Near N D n p2 q2)) := Lib.hid ⟨fun h => ⟨_, _, _, _, FPP.out, .inl ⟨by rw [e1', e2', hva, hub]; exact h, rfl, rfl⟩⟩, fun h => ⟨_, _, _, _, FPP.out, .inr ⟨by rw [e1', e2', hva, hub]; omega, rfl, rfl⟩⟩⟩
          have wu0 := wsub64 _ _ _ e1' (by omega) (by omega)
          have wv0 := wsub64 _ _ _ e2' (by omega) (by omega)
          have wu : IntKind.i64.wrap (IntKind.i64.wrap (p2 * D) - IntKind.i64.wrap (N * q2)) = off := wsub _ _ _ e1' (by clear wu0 wv0; omega) (by clear wu0 wv0; omega)
          have wv : IntKind.i64.wrap (IntKind.i64.wrap (N * q1) - IntKind.i64.wrap (p1 * D)) = y := wsub _ _ _ e2' (by clear wu0 wv0; omega) (by clear wu0 wv0; omega)
          clear f1 f2 f3 f4 ya yb FPP e1' e2'
          have a0 := blk_cell K.out.a 0 _ rfl
          have a1 := blk_cell K.out.a 1 _ rfl
          have na1 : ¬ w.heap.size = gp := by have h9 := K9.out; omega
          have na2 : ¬ w.heap.size = gq := by have h9 := K9.out; omega
          have na3 : ¬ w.heap.size + 1 = gp := by have h9 := K9.out; omega
          have na4 : ¬ w.heap.size + 1 = gq := by have h9 := K9.out; omega
          go_upto_region 17 with fail
          replace K : Hid (P1 w ((((w5.setCell ⟨gp, 0, none⟩ (.int .i64 p1)).setCell ⟨gp, 1, none⟩ (.int .i64 q1)).setCell ⟨gq, 0, none⟩ (.int .i64 p2)).setCell ⟨gq, 1, none⟩ (.int .i64 q2)) N D) := Lib.hid ⟨blk_set_other (blk_set_other (blk_set_other (blk_set_other K.out.a (fun h => na1 h.symm) 0 _) (fun h => na1 h.symm) 1 _) (fun h => na2 h.symm) 0 _) (fun h => na2 h.symm) 1 _, blk_set_other (blk_set_other (blk_set_other (blk_set_other K.out.z (fun h => na3 h.symm) 0 _) (fun h => na3 h.symm) 1 _) (fun h => na4 h.symm) 0 _) (fun h => na4 h.symm) 1 _, Bset1 (Bset1 (Bset1 (Bset1 K.out.n (by have h9 := K9.out; omega) 0 _) (by have h9 := K9.out; omega) 1 _) (by have h9 := K9.out; omega) 0 _) (by have h9 := K9.out; omega) 1 _⟩
          replace GP := Lib.hid (blk_set_other (blk_set_other (blk_set (blk_set GP.out 0 (.int .i64 p1)) 1 (.int .i64 q1)) ne' 0 (.int .i64 p2)) ne' 1 (.int .i64 q2))
          replace GQ := Lib.hid (blk_set (blk_set (blk_set_other (blk_set_other GQ.out ne 0 (.int .i64 p1)) ne 1 (.int .i64 q1)) 0 (.int .i64 p2)) 1 (.int .i64 q2))
          clear gp0 gp_ gq0 gq_ gpl gql gpf0 gpf1 gqf0 gqf1 zz a0 a1
          generalize (((w5.setCell ⟨gp, 0, none⟩ (.int .i64 p1)).setCell ⟨gp, 1, none⟩ (.int .i64 q1)).setCell ⟨gq, 0, none⟩ (.int .i64 p2)).setCell ⟨gq, 1, none⟩ (.int .i64 q2) = W6 at *
          have a0 := blk_cell K.out.a 0 _ rfl
          have a1 := blk_cell K.out.a 1 _ rfl
          replace GP : Hid (W6.heap[gp]? = some (.cells #[.int .i64 p1, .int .i64 q1] 23)) := Lib.hid GP.out
          replace GQ : Hid (W6.heap[gq]? = some (.cells #[.int .i64 p2, .int .i64 q2] 23)) := Lib.hid GQ.out
          have gp0 := blk_cell GP.out 0 _ rfl
          have gp_ := blk_cell GP.out 1 _ rfl
          have gq0 := blk_cell GQ.out 0 _ rfl
          have gq_ := blk_cell GQ.out 1 _ rfl
          have gpl := blk_lt GP.out
          have gql := blk_lt GQ.out
          go_quiet (fail)
          first | simp only [wu, wv] | simp only [wu0, wv0]
          clear gp0 gp_ gq0 gq_ gpl gql a0 a1 wu wv wu0 wv0
          replace K := Lib.hid (K.out.drewN nq)
          replace GP : Hid ((W6.drewN nq).heap[gp]? = some (.cells #[.int .i64 p1, .int .i64 q1] 23)) := Lib.hid GP.out
          replace GQ : Hid ((W6.drewN nq).heap[gq]? = some (.cells #[.int .i64 p2, .int .i64 q2] 23)) := Lib.hid GQ.out
          generalize W6.drewN nq = W7 at *
          have gp0 := blk_cell GP.out 0 _ rfl
          have gp_ := blk_cell GP.out 1 _ rfl
          have gq0 := blk_cell GQ.out 0 _ rfl
          have gq_ := blk_cell GQ.out 1 _ rfl
          have gpl := blk_lt GP.out
          have gql := blk_lt GQ.out
          have z0 := blk_cell K.out.z 0 _ rfl
          have z1 := blk_cell K.out.z 1 _ rfl
          have f0 := blk_frozen K.out.z 0
          have f1 := blk_frozen K.out.z 1
          have zl := blk_lt K.out.z
          by_cases ht : va ≤ ub
          · have AN := Lib.hid (NE.out.1 ht)
            go_wp2_with fail
            have e1 := blk_cell (blk_set (blk_set K.out.z 0 (.int .i64 p1)) 1 (.int .i64 q1)) 0 _ rfl
            have e2 := blk_cell (blk_set (blk_set K.out.z 0 (.int .i64 p1)) 1 (.int .i64 q1)) 1 _ rfl
            refine bodyPost_ret (v := .tuple #[Fv p1 q1, .int .i64 0]) (by simp [results, Try.results14, go_sem, e1, e2]) rfl ⟨(p1, q1, 0), rfl, ARM.out _ _ AN.out, Bset1 (Bset1 K.out.n (by omega) _ _) (by omega) _ _⟩
          · have AN := Lib.hid (NE.out.2 (by omega))
            go_wp2_with fail
            have e1 := blk_cell (blk_set (blk_set K.out.z 0 (.int .i64 p2)) 1 (.int .i64 q2)) 0 _ rfl
            have e2 := blk_cell (blk_set (blk_set K.out.z 0 (.int .i64 p2)) 1 (.int .i64 q2)) 1 _ rfl
            refine bodyPost_ret (v := .tuple #[Fv p2 q2, .int .i64 0]) (by simp [results, Try.results14, go_sem, e1, e2]) rfl ⟨(p2, q2, 0), rfl, ARM.out _ _ AN.out, Bset1 (Bset1 K.out.n (by omega) _ _) (by omega) _ _⟩
theorem refNear_calls (N D n : Int) (w : World) :
    Calls Try.prog 14 #[Fv N D, .int .i64 n] w (NPost w N D n) := by
  by_cases h : errF N D ≠ 0 ∨ n < 1 ∨ 1000000000000000000 < n ∨ D ≤ n
  · exact refNear_easy N D n w h
  · exact refNear_deep N D n w (by omega) (by omega) (by omega) (by omega)
end Go.Proofs.Ytpeoecgehdicmaa
