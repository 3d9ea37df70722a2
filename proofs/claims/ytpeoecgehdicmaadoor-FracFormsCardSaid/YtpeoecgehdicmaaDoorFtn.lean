/- Contract of layer 1: Fold of the reference. -/
import Derived.Test.YtpeoecgehdicmaaDoorFte
import Derived.Test.YtpeoecgehdicmaaDoorFrs
namespace Go.Proofs.YtpeoecgehdicmaaDoor
open Go.ChangeShapes Go.WideShapes Go.ChangeAt Go.RowKit
set_option linter.unusedVariables false
attribute [local go_sem ↓] Go.wp_at_zero Go.wp_at_succ

theorem refOf_calls (n : Int) (w : World) : Calls Tryd.prog 31 #[.int .i64 n] w fun e w' => e = .returned (Fv n 1) ∧ Below w.heap.size w w' := by
  go_enter Tryd.func31, Tryd.ntmps31
  go_wp2_with fail
  exact bodyPost_ret (v := Fv n 1) (by simp [results, Tryd.results31, go_sem]) rfl ⟨rfl, Bal (Below.refl _ _) _⟩
theorem VF.int {c : Int} (h : inr c) : VF c 1 := ⟨by omega, by omega, h.1, h.2, by simp⟩
theorem errB_vf {an ad bn bd : Int} (a : VF an ad) (b : VF bn bd) : errB an ad bn bd = 0 := by unfold errB; rw [a.err, b.err]; rfl
theorem div_turn {n d : Int} (v : VF n d) (h : 1 ≤ n) : divR 1 1 n d = (d, n, 0) := by
  have v1 : VF 1 1 := VF.int ⟨by decide, by decide⟩
  have d1 := v.d1
  have d2 := v.d2
  have n2 := v.n2
  unfold divR
  rw [if_pos (errB_vf v1 v), if_neg (by omega), if_neg (by omega)]
  unfold mulF lowF
  have g1 : Nat.gcd (1 : Int).natAbs n.natAbs = 1 := by simp
  have g2 : Nat.gcd d.natAbs (1 : Int).natAbs = 1 := by simp
  rw [g1, g2, Nat.div_one, Nat.div_one, Nat.div_one, show (1 : Int).natAbs = 1 from rfl, Nat.one_mul, Nat.one_mul, if_neg (by omega), decide_eq_false (show ¬ (1 : Int) < 0 by decide), decide_eq_false (show ¬ d < 0 by omega)]
  simp
  omega
theorem add_of {c n d : Int} (hc : inr c) (v : VF d n) : addR c 1 d n = if inr (c * n + d) then (c * n + d, n, 0) else (0, 0, 16) := by
  unfold addR; rw [if_pos (errB_vf (VF.int hc) v), add_turn hc v]
/- an element with which folding stops -/
def badE (L : List Int) (j : Nat) (x : Int) : Prop := (0 < j ∧ x < 1) ∨ x < -1000000000000000000 ∨ (j = 0 ∧ 1000000000000000000 < x)
theorem bad_fold {L : List Int} {j : Nat} {x : Int} (hl : ¬ (L.length = 0 ∨ 100 < L.length)) (hj : L[j]? = some x) (h : badE L j x) : foldR L = (0, 0, 2) := by
  unfold foldR
  rw [if_neg hl]
  by_cases z : inr (L.headD 0)
  · rw [if_neg (fun k => k z), if_pos]
    cases j with
    | zero =>
      have : L.headD 0 = x := by cases L with | nil => simp at hj | cons y r => simp at hj; exact hj
      rw [this] at z
      unfold inr at z
      rcases h with ⟨h, _⟩ | h | ⟨_, h⟩ <;> omega
    | succ j =>
      refine ⟨x, List.mem_iff_getElem?.2 ⟨j, by rw [List.getElem?_tail]; exact hj⟩, ?_⟩
      rcases h with ⟨_, h⟩ | h | ⟨h, _⟩ <;> omega
  · rw [if_pos z]
theorem good_fold {L : List Int} (hl : ¬ (L.length = 0 ∨ 100 < L.length)) (h : ∀ (j : Nat) (x : Int), L[j]? = some x → ¬ badE L j x) : foldR L = foldF L ∧ ∀ x ∈ L.tail, 1 ≤ x := by
  have T : ∀ x ∈ L.tail, 1 ≤ x := fun x hx => by
    obtain ⟨j, hj⟩ := List.mem_iff_getElem?.1 hx
    rw [List.getElem?_tail] at hj
    have := h (j + 1) x hj
    unfold badE at this
    omega
  refine ⟨?_, T⟩
  unfold foldR
  rw [if_neg hl, if_neg, if_neg]
  · rintro ⟨x, hx, h1⟩
    have := T x hx
    omega
  · intro hz
    apply hz
    cases L with
    | nil => simp at hl
    | cons y r =>
      have := h 0 y rfl
      unfold badE at this
      unfold inr
      simp
      omega
set_option maxRecDepth 100000 in
set_option maxHeartbeats 8000000 in
theorem refFold_calls (a : Option Addr) (c : Nat) (L : List Int) (w : World) (hL : ∀ x ∈ L, -9223372036854775808 ≤ x ∧ x ≤ 9223372036854775807) (h1 : L.length ≤ c) (h2 : c ≤ 9223372036854775807) (ha : Rd w 1 a L.length (lv L)) :
    Calls Tryd.prog 9 #[.slice a L.length c] w fun e w' => e = .returned (Rv (foldR L)) ∧ Below w.heap.size w w' := by
  have HLB := Lib.hid hL
  clear hL
  by_cases many : L.length = 0 ∨ 100 < L.length
  · have F : Hid (foldR L = (0, 0, 4)) := Lib.hid (by unfold foldR; rw [if_pos many])
    have NN := Lib.hid (Bal (Below.refl w.heap.size w) (.cells #[.int .i64 0, .int .i64 0] 23))
    generalize foldR L = res at *
    clear ha
    by_cases z : L.length = 0
    · have k0 : (((L.length : Nat) : Int) == 0) = true := by rw [z]; rfl
      generalize L.length = ll at *
      clear many z
      go_enter Tryd.func9, Tryd.ntmps9
      go_wp2_with fail
      refine bodyPost_ret (v := Rv (0, 0, 4)) (by simp [results, Tryd.results9, go_sem]) rfl ⟨by rw [F.out], by first | exact NN.out | exact Bset1 (Bset1 NN.out (Nat.le_refl _) _ _) (Nat.le_refl _) _ _⟩
    · have k0 : (((L.length : Nat) : Int) == 0) = false := by rw [beq_eq_false_iff_ne]; omega
      have k1 : decide ((100 : Int) < ((L.length : Nat) : Int)) = true := decide_eq_true (by omega)
      generalize L.length = ll at *
      clear many z
      go_enter Tryd.func9, Tryd.ntmps9
      go_wp2_with fail
      refine bodyPost_ret (v := Rv (0, 0, 4)) (by simp [results, Tryd.results9, go_sem]) rfl ⟨by rw [F.out], by first | exact NN.out | exact Bset1 (Bset1 NN.out (Nat.le_refl _) _ _) (Nat.le_refl _) _ _⟩
  have l0 : 0 < L.length := by omega
  have l1 : L.length ≤ 100 := by omega
  have k0 : (((L.length : Nat) : Int) == 0) = false := by rw [beq_eq_false_iff_ne]; omega
  have k1 : decide ((100 : Int) < ((L.length : Nat) : Int)) = false := decide_eq_false (by omega)
  have MB := Lib.hid (fun j x => bad_fold (L := L) (j := j) (x := x) many)
  have MG := Lib.hid (good_fold (L := L) many)
  clear many
  obtain ⟨b, off, rfl, hbl, hc0⟩ := ha.num l0
  have CELL : Hid (∀ W, Below w.heap.size w W → b < W.heap.size ∧ ∀ (i : Nat) (x : Int), L[i]? = some x → W.cell? ⟨b, off + i, none⟩ = some (.int .i64 x)) := Lib.hid (fun W hb => ⟨Nat.lt_of_lt_of_le hbl hb.size, fun i x hx => by
    obtain ⟨hi, rfl⟩ := List.getElem?_eq_some_iff.1 hx
    obtain ⟨b', off', e, _, hcell⟩ := ha.num hi
    simp only [Option.some.injEq, Addr.mk.injEq] at e
    obtain ⟨rfl, rfl, _⟩ := e
    exact (hb.cell hbl).trans hcell⟩)
  clear ha hc0 hbl
  generalize foldR L = res at *
  have NN := Lib.hid (Below.refl w.heap.size w)
  go_enter Tryd.func9, Tryd.ntmps9
  have HB : Hid (Below w.heap.size w (w.alloc (.cells #[.int .i64 0, .int .i64 0] 23))) := Lib.hid (Bal (Below.refl _ _) _)
  have K := Lib.hid (blk_new w (.cells #[.int .i64 0, .int .i64 0] 23))
  have LT_K : Hid (w.heap.size ≤ w.heap.size) := Lib.hid NN.out.size
  replace NN := Lib.hid (Bgo NN.out HB.out)
  clear HB
  go_wp2_with fail
  generalize w.alloc (.cells #[.int .i64 0, .int .i64 0] 23) = W1 at *
  go_loop [4] (fun i => ∃ k : Nat, k ≤ L.length ∧ i = .int .i64 k ∧ Hid (∀ (j : Nat) (x : Int), j < k → L[j]? = some x → ¬ badE L j x)) (fun i => L.length - (intOf i).toNat)
  case atStart => exact ⟨0, by omega, rfl, Lib.hid (fun j x h => by omega)⟩
  case round =>
    obtain ⟨k, hk, rfl, GD⟩ := hrel
    by_cases hlt : k < L.length
    · have ex : L[k]? = some L[k] := List.getElem?_eq_getElem hlt
      have XB := HLB.out L[k] (List.mem_of_getElem? ex)
      generalize L[k] = xk at *
      have bl := (CELL.out _ NN.out).1
      have ck := (CELL.out _ NN.out).2 k _ ex
      have km1 : (k : Int) < ((L.length : Nat) : Int) := by omega
      have km0 : (0 : Int) ≤ (k : Int) := by omega
      have HX := Lib.hid ex
      clear ex
      obtain ⟨xb1, xb2⟩ := XB
      by_cases kz : k = 0
      · have e0 : decide (0 < k) = false := decide_eq_false (by omega)
        have e1 : ((k : Int) == 0) = true := by rw [kz]; rfl
        have kz' := Lib.hid kz
        clear kz
        by_cases lo : xk < -1000000000000000000
        · have d1 : decide (xk < (-1000000000000000000 : Int)) = true := decide_eq_true lo
          have R2 : Hid (res = (0, 0, 2)) := Lib.hid (MB.out k xk HX.out (.inr (.inl lo)))
          have c_K_0 := blk_cell K.out 0 _ rfl
          have f_K_0 := blk_frozen K.out 0
          have c_K_1 := blk_cell K.out 1 _ rfl
          have f_K_1 := blk_frozen K.out 1
          have l_K := blk_lt K.out
          go_wp2_with fail
          clear c_K_0 f_K_0 c_K_1 f_K_1 l_K
          have e0 := blk_cell (blk_set (blk_set (K.out) 0 (.int .i64 0)) 1 (.int .i64 0)) 0 _ rfl
          have e1 := blk_cell (blk_set (blk_set (K.out) 0 (.int .i64 0)) 1 (.int .i64 0)) 1 _ rfl
          exact bodyPost_ret (v := Rv (0, 0, 2)) (by simp [results, Tryd.results9, go_sem, e0, e1]) rfl ⟨by rw [R2.out], Bset1 (Bset1 (NN.out) (by have := LT_K.out; omega) _ _) (by have := LT_K.out; omega) _ _⟩
        · have d1 : decide (xk < (-1000000000000000000 : Int)) = false := decide_eq_false lo
          by_cases hi : 1000000000000000000 < xk
          · have d2 : decide ((1000000000000000000 : Int) < xk) = true := decide_eq_true hi
            have R2 : Hid (res = (0, 0, 2)) := Lib.hid (MB.out k xk HX.out (.inr (.inr ⟨kz'.out, hi⟩)))
            have c_K_0 := blk_cell K.out 0 _ rfl
            have f_K_0 := blk_frozen K.out 0
            have c_K_1 := blk_cell K.out 1 _ rfl
            have f_K_1 := blk_frozen K.out 1
            have l_K := blk_lt K.out
            go_wp2_with fail
            clear c_K_0 f_K_0 c_K_1 f_K_1 l_K
            have e0 := blk_cell (blk_set (blk_set (K.out) 0 (.int .i64 0)) 1 (.int .i64 0)) 0 _ rfl
            have e1 := blk_cell (blk_set (blk_set (K.out) 0 (.int .i64 0)) 1 (.int .i64 0)) 1 _ rfl
            exact bodyPost_ret (v := Rv (0, 0, 2)) (by simp [results, Tryd.results9, go_sem, e0, e1]) rfl ⟨by rw [R2.out], Bset1 (Bset1 (NN.out) (by have := LT_K.out; omega) _ _) (by have := LT_K.out; omega) _ _⟩
          · have d2 : decide ((1000000000000000000 : Int) < xk) = false := decide_eq_false hi
            have G2 : Hid (∀ (j : Nat) (x : Int), j < k + 1 → L[j]? = some x → ¬ badE L j x) := Lib.hid (fun j x hj hx => by
              by_cases e : j = k
              · subst e
                rw [HX.out] at hx
                cases hx
                unfold badE
                have kz9 := kz'.out
                omega
              · exact GD.out j x (by omega) hx)
            have kk : k + 1 ≤ L.length := hlt
            clear GD HX
            go_wp2_with fail
            go_round
            case rel => exact ⟨k + 1, kk, by go_num, G2⟩
            case measure => simp [intOf]; omega
      · have e0 : decide (0 < k) = true := decide_eq_true (by omega)
        have e1 : ((k : Int) == 0) = false := by rw [beq_eq_false_iff_ne]; omega
        by_cases lo : xk < 1
        · have d1 : decide (xk < (1 : Int)) = true := decide_eq_true lo
          have R2 : Hid (res = (0, 0, 2)) := Lib.hid (MB.out k xk HX.out (.inl ⟨by omega, lo⟩))
          have c_K_0 := blk_cell K.out 0 _ rfl
          have f_K_0 := blk_frozen K.out 0
          have c_K_1 := blk_cell K.out 1 _ rfl
          have f_K_1 := blk_frozen K.out 1
          have l_K := blk_lt K.out
          go_wp2_with fail
          clear c_K_0 f_K_0 c_K_1 f_K_1 l_K
          have e0 := blk_cell (blk_set (blk_set (K.out) 0 (.int .i64 0)) 1 (.int .i64 0)) 0 _ rfl
          have e1 := blk_cell (blk_set (blk_set (K.out) 0 (.int .i64 0)) 1 (.int .i64 0)) 1 _ rfl
          exact bodyPost_ret (v := Rv (0, 0, 2)) (by simp [results, Tryd.results9, go_sem, e0, e1]) rfl ⟨by rw [R2.out], Bset1 (Bset1 (NN.out) (by have := LT_K.out; omega) _ _) (by have := LT_K.out; omega) _ _⟩
        · have d1 : decide (xk < (1 : Int)) = false := decide_eq_false lo
          have d0 : decide (xk < (-1000000000000000000 : Int)) = false := decide_eq_false (by omega)
          by_cases hi : 1000000000000000000 < xk
          · have d2 : decide ((1000000000000000000 : Int) < xk) = true := decide_eq_true hi
            have G2 : Hid (∀ (j : Nat) (x : Int), j < k + 1 → L[j]? = some x → ¬ badE L j x) := Lib.hid (fun j x hj hx => by
              by_cases e : j = k
              · subst e
                rw [HX.out] at hx
                cases hx
                unfold badE
                omega
              · exact GD.out j x (by omega) hx)
            have kk : k + 1 ≤ L.length := hlt
            clear GD HX
            go_wp2_with fail
            go_round
            case rel => exact ⟨k + 1, kk, by go_num, G2⟩
            case measure => simp [intOf]; omega
          · have d2 : decide ((1000000000000000000 : Int) < xk) = false := decide_eq_false hi
            have G2 : Hid (∀ (j : Nat) (x : Int), j < k + 1 → L[j]? = some x → ¬ badE L j x) := Lib.hid (fun j x hj hx => by
              by_cases e : j = k
              · subst e
                rw [HX.out] at hx
                cases hx
                unfold badE
                omega
              · exact GD.out j x (by omega) hx)
            have kk : k + 1 ≤ L.length := hlt
            clear GD HX
            go_wp2_with fail
            go_round
            case rel => exact ⟨k + 1, kk, by go_num, G2⟩
            case measure => simp [intOf]; omega
    · have hlt' : ¬ (k : Int) < ((L.length : Nat) : Int) := by omega
      have GG := MG.out (fun j x hx => GD.out j x (by have := (List.getElem?_eq_some_iff.1 hx).1; omega) hx)
      have FF := Lib.hid GG.1
      have POS := Lib.hid GG.2
      clear GG GD MB MG
      have XL : L[L.length - 1]? = some L[L.length - 1] := List.getElem?_eq_getElem (by omega)
      generalize L[L.length - 1] = xl at *
      have bl := (CELL.out _ NN.out).1
      have cl := (CELL.out _ NN.out).2 (L.length - 1) _ XL
      have LB := HLB.out xl (List.mem_of_getElem? XL)
      have M1 := Lib.hid (fun W => refMake_calls xl 1 W (by omega) (by omega) (by omega) (by omega))
      have FL : Hid (makeF xl 1 = foldF (L.drop (L.length - 1))) := Lib.hid (by
        have e : L.drop (L.length - 1) = [xl] := by
          have := List.drop_eq_getElem_cons (show L.length - 1 < L.length by omega)
          rw [this, List.drop_eq_nil_of_le (by omega)]
          rw [List.getElem?_eq_getElem (by omega)] at XL
          injection XL with h
          rw [h]
        rw [e, make_one]
        rfl)
      obtain ⟨⟨r1, r2, r3⟩, hr⟩ : ∃ r, makeF xl 1 = r := ⟨_, rfl⟩
      rw [hr] at M1 FL
      have RC : Hid (r3 = 0 ∨ r3 = 16) := Lib.hid (by
        rw [make_one] at hr
        split at hr <;> cases hr <;> simp)
      clear hr LB XL
      go_wp2_with fail
      refine (M1.out _).mono ?_
      rintro e w2 ⟨rfl, hb⟩
      replace NN := Lib.hid (Bgo NN.out hb)
      replace K := Lib.hid (blk_next hb K.out)
      clear hb
      clear cl bl
      have HB : Hid (Below w2.heap.size w2 (w2.alloc (.cells #[.int .i64 r1, .int .i64 r2] 23))) := Lib.hid (Bal (Below.refl _ _) _)
      have V := Lib.hid (blk_new w2 (.cells #[.int .i64 r1, .int .i64 r2] 23))
      have LT_V : Hid (w.heap.size < w2.heap.size ∧ w.heap.size ≤ w2.heap.size) := Lib.hid ⟨blk_lt K.out, NN.out.size⟩
      replace NN := Lib.hid (Bgo NN.out HB.out)
      replace K := Lib.hid (blk_next HB.out K.out)
      clear HB
      go_wp2_with fail
      generalize w2.alloc (.cells #[.int .i64 r1, .int .i64 r2] 23) = W3 at *
      generalize w2.heap.size = gv at *
      go_loopw [6, 7] (fun e i wr => ∃ (k : Nat) (er n d : Int), k < L.length ∧ e = .int .i64 er ∧ i = .int .i64 ((k : Int) - 1) ∧ Hid ((er = 0 ∧ foldF (L.drop k) = (n, d, 0)) ∨ (er = 16 ∧ (foldF (L.drop k)).2.2 ≠ 0)) ∧ Hid (Below w.heap.size w wr) ∧ Hid (wr.heap[gv]? = some (.cells #[.int .i64 n, .int .i64 d] 23)) ∧ Hid (wr.heap[w.heap.size]? = some (.cells #[.int .i64 0, .int .i64 0] 23))) (fun _ i _ => ((intOf i) + 1).toNat)
      case atStart =>
        refine ⟨L.length - 1, r3, r1, r2, by omega, rfl, by congr 1; omega, Lib.hid ?_, NN, V, K⟩
        rcases RC.out with rfl | rfl
        · exact .inl ⟨rfl, FL.out.symm⟩
        · exact .inr ⟨rfl, by rw [← FL.out]; simp⟩
      case round =>
        clear NN V K FL RC M1 hlt' hlt
        obtain ⟨k, er, n, d, hk, rfl, rfl, ST, NN, V, K⟩ := hrel
        rcases ST.out with ⟨rfl, st⟩ | ⟨rfl, st⟩
        rotate_left
        · have F2 := Lib.hid (foldF_bad k hk st)
          clear ST st
          by_cases kz : k = 0
          · subst kz
            have c_K_0 := blk_cell K.out 0 _ rfl
            have f_K_0 := blk_frozen K.out 0
            have c_K_1 := blk_cell K.out 1 _ rfl
            have f_K_1 := blk_frozen K.out 1
            have l_K := blk_lt K.out
            have c_V_0 := blk_cell V.out 0 _ rfl
            have f_V_0 := blk_frozen V.out 0
            have c_V_1 := blk_cell V.out 1 _ rfl
            have f_V_1 := blk_frozen V.out 1
            have l_V := blk_lt V.out
            go_wp2_with fail
            clear c_K_0 f_K_0 c_K_1 f_K_1 l_K c_V_0 f_V_0 c_V_1 f_V_1 l_V
            have e0 := blk_cell (blk_set (blk_set (K.out) 0 (.int .i64 0)) 1 (.int .i64 0)) 0 _ rfl
            have e1 := blk_cell (blk_set (blk_set (K.out) 0 (.int .i64 0)) 1 (.int .i64 0)) 1 _ rfl
            exact bodyPost_ret (v := Rv (0, 0, 16)) (by simp [results, Tryd.results9, go_sem, e0, e1]) rfl ⟨by rw [FF.out, F2.out], Bset1 (Bset1 (NN.out) (by have := LT_K.out; omega) _ _) (by have := LT_K.out; omega) _ _⟩
          · have kk : ¬ (k : Int) < 1 := by omega
            have kk2 : (1 : Int) ≤ (k : Int) := by omega
            clear kz
            have c_K_0 := blk_cell K.out 0 _ rfl
            have f_K_0 := blk_frozen K.out 0
            have c_K_1 := blk_cell K.out 1 _ rfl
            have f_K_1 := blk_frozen K.out 1
            have l_K := blk_lt K.out
            have c_V_0 := blk_cell V.out 0 _ rfl
            have f_V_0 := blk_frozen V.out 0
            have c_V_1 := blk_cell V.out 1 _ rfl
            have f_V_1 := blk_frozen V.out 1
            have l_V := blk_lt V.out
            go_wp2_with fail
            clear c_K_0 f_K_0 c_K_1 f_K_1 l_K c_V_0 f_V_0 c_V_1 f_V_1 l_V
            have e0 := blk_cell (blk_set (blk_set (K.out) 0 (.int .i64 0)) 1 (.int .i64 0)) 0 _ rfl
            have e1 := blk_cell (blk_set (blk_set (K.out) 0 (.int .i64 0)) 1 (.int .i64 0)) 1 _ rfl
            exact bodyPost_ret (v := Rv (0, 0, 16)) (by simp [results, Tryd.results9, go_sem, e0, e1]) rfl ⟨by rw [FF.out, F2.out], Bset1 (Bset1 (NN.out) (by have := LT_K.out; omega) _ _) (by have := LT_K.out; omega) _ _⟩
        by_cases kz : k = 0
        · subst kz
          rw [List.drop_zero] at st
          have F2 := Lib.hid st
          clear ST st
          have c_K_0 := blk_cell K.out 0 _ rfl
          have f_K_0 := blk_frozen K.out 0
          have c_K_1 := blk_cell K.out 1 _ rfl
          have f_K_1 := blk_frozen K.out 1
          have l_K := blk_lt K.out
          have c_V_0 := blk_cell V.out 0 _ rfl
          have f_V_0 := blk_frozen V.out 0
          have c_V_1 := blk_cell V.out 1 _ rfl
          have f_V_1 := blk_frozen V.out 1
          have l_V := blk_lt V.out
          go_wp2_with fail
          clear c_K_0 f_K_0 c_K_1 f_K_1 l_K c_V_0 f_V_0 c_V_1 f_V_1 l_V
          have e0 := blk_cell (blk_set (blk_set (K.out) 0 (.int .i64 n)) 1 (.int .i64 d)) 0 _ rfl
          have e1 := blk_cell (blk_set (blk_set (K.out) 0 (.int .i64 n)) 1 (.int .i64 d)) 1 _ rfl
          exact bodyPost_ret (v := Rv (n, d, 0)) (by simp [results, Tryd.results9, go_sem, e0, e1]) rfl ⟨by rw [FF.out, F2.out], Bset1 (Bset1 (NN.out) (by have := LT_K.out; omega) _ _) (by have := LT_K.out; omega) _ _⟩
        clear ST
        obtain ⟨q, rfl⟩ : ∃ q, k = q + 1 := ⟨k - 1, by omega⟩
        obtain ⟨vn, dn⟩ := foldF_pos _ (fun x hx => POS.out x (mem_tail_drop (by omega) hx)) n d st
        have nd1 := vn.d1
        have vt := vn.turn (by omega)
        have XQ : L[q]? = some L[q] := List.getElem?_eq_getElem (by omega)
        have DQ : L.drop q = L[q] :: L.drop (q + 1) := List.drop_eq_getElem_cons (by omega)
        have FQ := foldF_cons (c := L[q]) (drop_ne hk)
        rw [← DQ, st] at FQ
        have LB := HLB.out L[q] (List.mem_of_getElem? XQ)
        generalize L[q] = xq at *
        have M2 := Lib.hid (fun W => refMake_calls xq 1 W (by omega) (by omega) (by omega) (by omega))
        have bl := (CELL.out _ NN.out).1
        have cq := (CELL.out _ NN.out).2 q _ XQ
        have i0 : ((q + 1 : Nat) : Int) - 1 = (q : Int) := by omega
        have q0 : (0 : Int) ≤ (q : Int) := by omega
        have q1 : (q : Int) < (L.length : Int) := by omega
        have q2 : q < L.length := by omega
        have ms : (((q : Int) - 1) + 1).toNat < (((q : Int)) + 1).toNat := by omega
        rw [i0]
        simp only at FQ
        clear DQ XQ kz hk i0
        by_cases iq : inr xq
        rotate_left
        · rw [make_one, if_neg iq] at M2
          have SQ : Hid ((foldF (L.drop q)).2.2 ≠ 0) := Lib.hid (by rw [FQ, if_neg (fun h => iq h.2.1)]; decide)
          clear FQ iq vn vt dn st
          have n1 : (((q : Nat) : Int) - 1 + 1) = (q : Int) := by omega
          have HB : Hid (Below wr.heap.size wr (wr.alloc (.cells #[.int .i64 0, .int .i64 0] 23))) := Lib.hid (Bal (Below.refl _ _) _)
          have C := Lib.hid (blk_new wr (.cells #[.int .i64 0, .int .i64 0] 23))
          have LT_C : Hid (w.heap.size < wr.heap.size ∧ gv < wr.heap.size ∧ w.heap.size ≤ wr.heap.size) := Lib.hid ⟨blk_lt K.out, blk_lt V.out, NN.out.size⟩
          replace NN := Lib.hid (Bgo NN.out HB.out)
          replace K := Lib.hid (blk_next HB.out K.out)
          replace V := Lib.hid (blk_next HB.out V.out)
          clear HB
          go_wp2_with fail
          generalize wr.alloc (.cells #[.int .i64 0, .int .i64 0] 23) = W4 at *
          generalize wr.heap.size = gc at *
          clear bl cq
          refine (M2.out _).mono ?_
          rintro e w5 ⟨rfl, hb⟩
          replace NN := Lib.hid (Bgo NN.out hb)
          replace K := Lib.hid (blk_next hb K.out)
          replace V := Lib.hid (blk_next hb V.out)
          replace C := Lib.hid (blk_next hb C.out)
          clear hb
          have F2 := Lib.hid (foldF_bad q q2 SQ.out)
          have c_C_0 := blk_cell C.out 0 _ rfl
          have f_C_0 := blk_frozen C.out 0
          have c_C_1 := blk_cell C.out 1 _ rfl
          have f_C_1 := blk_frozen C.out 1
          have l_C := blk_lt C.out
          have c_K_0 := blk_cell K.out 0 _ rfl
          have f_K_0 := blk_frozen K.out 0
          have c_K_1 := blk_cell K.out 1 _ rfl
          have f_K_1 := blk_frozen K.out 1
          have l_K := blk_lt K.out
          obtain ⟨hC1, hC2, hC3⟩ := LT_C.out
          go_wp2_with fail
          clear c_C_0 f_C_0 c_C_1 f_C_1 l_C c_K_0 f_K_0 c_K_1 f_K_1 l_K
          replace K : Hid (((w5.setCell ⟨gc, 0, none⟩ (.int .i64 0)).setCell ⟨gc, 1, none⟩ (.int .i64 0)).heap[w.heap.size]? = some (.cells #[.int .i64 0, .int .i64 0] 23)) := Lib.hid (blk_set_other (b' := gc) (blk_set_other (b' := gc) (K.out) (by have := LT_C.out; omega) 0 (.int .i64 0)) (by have := LT_C.out; omega) 1 (.int .i64 0))
          replace V : Hid (((w5.setCell ⟨gc, 0, none⟩ (.int .i64 0)).setCell ⟨gc, 1, none⟩ (.int .i64 0)).heap[gv]? = some (.cells #[.int .i64 n, .int .i64 d] 23)) := Lib.hid (blk_set_other (b' := gc) (blk_set_other (b' := gc) (V.out) (by have := LT_C.out; omega) 0 (.int .i64 0)) (by have := LT_C.out; omega) 1 (.int .i64 0))
          replace C : Hid (((w5.setCell ⟨gc, 0, none⟩ (.int .i64 0)).setCell ⟨gc, 1, none⟩ (.int .i64 0)).heap[gc]? = some (.cells #[.int .i64 0, .int .i64 0] 23)) := Lib.hid (blk_set (blk_set (C.out) 0 (.int .i64 0)) 1 (.int .i64 0))
          replace NN := Lib.hid (Bset1 (Bset1 (NN.out) (show w.heap.size ≤ gc by have := LT_C.out; omega) 0 (.int .i64 0)) (show w.heap.size ≤ gc by have := LT_C.out; omega) 1 (.int .i64 0))
          have e0 := blk_cell (blk_set (blk_set (K.out) 0 (.int .i64 0)) 1 (.int .i64 0)) 0 _ rfl
          have e1 := blk_cell (blk_set (blk_set (K.out) 0 (.int .i64 0)) 1 (.int .i64 0)) 1 _ rfl
          exact bodyPost_ret (v := Rv (0, 0, 16)) (by simp [results, Tryd.results9, go_sem, e0, e1]) rfl ⟨by rw [FF.out, F2.out], Bset1 (Bset1 (NN.out) (by have := LT_K.out; omega) _ _) (by have := LT_K.out; omega) _ _⟩
        rw [make_one, if_pos iq] at M2
        have DC := Lib.hid (fun W => refDiv_calls 1 1 n d W)
        rw [div_turn vn (show 1 ≤ n by omega)] at DC
        have SC := Lib.hid (fun W => refAdd_calls xq 1 d n W)
        obtain ⟨⟨r1, r2, r3⟩, hr⟩ : ∃ r, addR xq 1 d n = r := ⟨_, rfl⟩
        rw [hr] at SC
        rw [add_of iq vt] at hr
        have SQ : Hid ((r3 = 0 ∧ foldF (L.drop q) = (r1, r2, 0)) ∨ (r3 = 16 ∧ (foldF (L.drop q)).2.2 ≠ 0)) := Lib.hid (by
          by_cases io : inr (xq * n + d)
          · rw [if_pos io] at hr
            cases hr
            exact .inl ⟨rfl, by rw [FQ, if_pos ⟨trivial, iq, io⟩]⟩
          · rw [if_neg io] at hr
            cases hr
            exact .inr ⟨rfl, by rw [FQ, if_neg (fun h => io h.2.2)]; decide⟩)
        clear FQ iq vn vt dn nd1 st hr
        have n1 : (((q : Nat) : Int) - 1 + 1) = (q : Int) := by omega
        go_wp2_with fail
        have HB : Hid (Below wr.heap.size wr (wr.alloc (.cells #[.int .i64 0, .int .i64 0] 23))) := Lib.hid (Bal (Below.refl _ _) _)
        have C := Lib.hid (blk_new wr (.cells #[.int .i64 0, .int .i64 0] 23))
        have LT_C : Hid (w.heap.size < wr.heap.size ∧ gv < wr.heap.size ∧ w.heap.size ≤ wr.heap.size) := Lib.hid ⟨blk_lt K.out, blk_lt V.out, NN.out.size⟩
        replace NN := Lib.hid (Bgo NN.out HB.out)
        replace K := Lib.hid (blk_next HB.out K.out)
        replace V := Lib.hid (blk_next HB.out V.out)
        clear HB
        generalize wr.alloc (.cells #[.int .i64 0, .int .i64 0] 23) = W7 at *
        generalize wr.heap.size = gc at *
        clear bl cq
        refine (M2.out _).mono ?_
        rintro e w8 ⟨rfl, hb⟩
        replace NN := Lib.hid (Bgo NN.out hb)
        replace K := Lib.hid (blk_next hb K.out)
        replace V := Lib.hid (blk_next hb V.out)
        replace C := Lib.hid (blk_next hb C.out)
        clear hb
        have c_C_0 := blk_cell C.out 0 _ rfl
        have f_C_0 := blk_frozen C.out 0
        have c_C_1 := blk_cell C.out 1 _ rfl
        have f_C_1 := blk_frozen C.out 1
        have l_C := blk_lt C.out
        go_wp2_with fail
        clear c_C_0 f_C_0 c_C_1 f_C_1 l_C
        replace K : Hid (((w8.setCell ⟨gc, 0, none⟩ (.int .i64 xq)).setCell ⟨gc, 1, none⟩ (.int .i64 1)).heap[w.heap.size]? = some (.cells #[.int .i64 0, .int .i64 0] 23)) := Lib.hid (blk_set_other (b' := gc) (blk_set_other (b' := gc) (K.out) (by have := LT_C.out; omega) 0 (.int .i64 xq)) (by have := LT_C.out; omega) 1 (.int .i64 1))
        replace V : Hid (((w8.setCell ⟨gc, 0, none⟩ (.int .i64 xq)).setCell ⟨gc, 1, none⟩ (.int .i64 1)).heap[gv]? = some (.cells #[.int .i64 n, .int .i64 d] 23)) := Lib.hid (blk_set_other (b' := gc) (blk_set_other (b' := gc) (V.out) (by have := LT_C.out; omega) 0 (.int .i64 xq)) (by have := LT_C.out; omega) 1 (.int .i64 1))
        replace C : Hid (((w8.setCell ⟨gc, 0, none⟩ (.int .i64 xq)).setCell ⟨gc, 1, none⟩ (.int .i64 1)).heap[gc]? = some (.cells #[.int .i64 xq, .int .i64 1] 23)) := Lib.hid (blk_set (blk_set (C.out) 0 (.int .i64 xq)) 1 (.int .i64 1))
        replace NN := Lib.hid (Bset1 (Bset1 (NN.out) (show w.heap.size ≤ gc by have := LT_C.out; omega) 0 (.int .i64 xq)) (show w.heap.size ≤ gc by have := LT_C.out; omega) 1 (.int .i64 1))
        generalize ((w8.setCell ⟨gc, 0, none⟩ (.int .i64 xq)).setCell ⟨gc, 1, none⟩ (.int .i64 1)) = W9 at *
        refine region_I (S := SK [(1, gv, .cells #[.int .i64 n, .int .i64 d] 23)]) (by kernel_rfl) ?_
        have HAL := Lib.hid (fun (k : Nat) => (show SK [(1, gv, .cells #[.int .i64 n, .int .i64 d] 23)] k W9.drew from fun p hp e => by
          simp only [List.mem_cons, List.not_mem_nil, or_false] at hp
          rcases hp with rfl
          · exact V.out))
        replace NN := Lib.hid (Bgo NN.out (Below.drew (Below.refl W9.heap.size W9)))
        replace K : Hid (W9.drew.heap[w.heap.size]? = some (.cells #[.int .i64 0, .int .i64 0] 23)) := Lib.hid K.out
        replace V : Hid (W9.drew.heap[gv]? = some (.cells #[.int .i64 n, .int .i64 d] 23)) := Lib.hid V.out
        replace C : Hid (W9.drew.heap[gc]? = some (.cells #[.int .i64 xq, .int .i64 1] 23)) := Lib.hid C.out
        refine take_I 1 (Fv n d) (some 86) rfl (by kernel_rfl) (by kernel_rfl) (by kernel_rfl) rfl (fun _ _ _ h => h) (Or.inl ⟨by rfl, ?_⟩) (HAL.out 1) ?_
        · intro X hX
          have hh := hX (1, gv, .cells #[.int .i64 n, .int .i64 d] 23) (List.Mem.head _) rfl
          have hh0 := blk_cell hh 0 _ rfl
          have hh1 := blk_cell hh 1 _ rfl
          have hhl := blk_lt hh
          clear hh
          clear hX
          go_simp
        try simp only [Act.put, List.setIfInBounds_toArray, List.set_cons_zero, List.set_cons_succ]
        refine only_I 0 (by kernel_rfl) rfl (fun K' hK' => ?_)
        go_simp
        go_at_call 31
        refine (refOf_calls 1 _).mono ?_
        rintro e x1 ⟨rfl, hb⟩
        replace NN := Lib.hid (Bgo NN.out hb)
        replace K := Lib.hid (blk_next hb K.out)
        replace V := Lib.hid (blk_next hb V.out)
        replace C := Lib.hid (blk_next hb C.out)
        go_simp
        refine hK'.out _ _ (fun k _ hS => hS.next hb) ?_
        clear hK' K'
        try simp only [Act.put, List.setIfInBounds_toArray, List.set_cons_zero, List.set_cons_succ]
        replace HAL := Lib.hid (fun k => (HAL.out k).next hb)
        refine only_I 2 (by kernel_rfl) rfl (fun K' hK' => ?_)
        go_simp
        go_at_call 30
        refine (DC.out _).mono ?_
        rintro e x2 ⟨rfl, hb⟩
        replace NN := Lib.hid (Bgo NN.out hb)
        replace K := Lib.hid (blk_next hb K.out)
        replace V := Lib.hid (blk_next hb V.out)
        replace C := Lib.hid (blk_next hb C.out)
        go_simp
        refine hK'.out _ _ (fun k _ hS => hS.next hb) ?_
        clear hK' K'
        try simp only [Act.put, List.setIfInBounds_toArray, List.set_cons_zero, List.set_cons_succ]
        replace HAL := Lib.hid (fun k => (HAL.out k).next hb)
        refine only_I 3 (by kernel_rfl) rfl (fun K' hK' => ?_)
        go_simp
        refine hK'.out _ _ (fun k _ h => h) ?_
        clear hK' K'
        try simp only [Act.put, List.setIfInBounds_toArray, List.set_cons_zero, List.set_cons_succ]
        refine take_I 5 (.int .i64 0) (some 89) rfl (by kernel_rfl) (by kernel_rfl) (by kernel_rfl) rfl (fun _ _ _ h => h) (Or.inl ⟨by rfl, ?_⟩) (SK.drop (by simp)) ?_
        · intro X hX
          clear hX
          go_simp
        try simp only [Act.put, List.setIfInBounds_toArray, List.set_cons_zero, List.set_cons_succ]
        refine only_I 4 (by kernel_rfl) rfl (fun K' hK' => ?_)
        go_simp
        refine hK'.out _ _ (fun k _ h => h) ?_
        clear hK' K'
        try simp only [Act.put, List.setIfInBounds_toArray, List.set_cons_zero, List.set_cons_succ]
        clear HAL
        have c_V_0 := blk_cell V.out 0 _ rfl
        have f_V_0 := blk_frozen V.out 0
        have c_V_1 := blk_cell V.out 1 _ rfl
        have f_V_1 := blk_frozen V.out 1
        have l_V := blk_lt V.out
        refine only_I 6 (by kernel_rfl) rfl (fun K' hK' => ?_)
        go_simp
        refine hK'.out _ _ (fun k hk hS p hp e => by
          have hq := hS p hp e
          simp only [List.mem_cons, List.not_mem_nil, or_false] at hp
          rcases hp with rfl
          subst e; exact bfl (by kernel_rfl) hk) ?_
        clear hK' K'
        try simp only [Act.put, List.setIfInBounds_toArray, List.set_cons_zero, List.set_cons_succ]
        clear c_V_0 f_V_0 c_V_1 f_V_1 l_V
        refine done_I (by kernel_rfl) ?_ _
        clear hb
        replace K : Hid (((x2.setCell ⟨gv, 0, none⟩ (.int .i64 d)).setCell ⟨gv, 1, none⟩ (.int .i64 n)).heap[w.heap.size]? = some (.cells #[.int .i64 0, .int .i64 0] 23)) := Lib.hid (blk_set_other (b' := gv) (blk_set_other (b' := gv) (K.out) (by have := LT_V.out; omega) 0 (.int .i64 d)) (by have := LT_V.out; omega) 1 (.int .i64 n))
        replace V : Hid (((x2.setCell ⟨gv, 0, none⟩ (.int .i64 d)).setCell ⟨gv, 1, none⟩ (.int .i64 n)).heap[gv]? = some (.cells #[.int .i64 d, .int .i64 n] 23)) := Lib.hid (blk_set (blk_set (V.out) 0 (.int .i64 d)) 1 (.int .i64 n))
        replace C : Hid (((x2.setCell ⟨gv, 0, none⟩ (.int .i64 d)).setCell ⟨gv, 1, none⟩ (.int .i64 n)).heap[gc]? = some (.cells #[.int .i64 xq, .int .i64 1] 23)) := Lib.hid (blk_set_other (b' := gv) (blk_set_other (b' := gv) (C.out) (by have := LT_C.out; omega) 0 (.int .i64 d)) (by have := LT_C.out; omega) 1 (.int .i64 n))
        replace NN := Lib.hid (Bset1 (Bset1 (NN.out) (show w.heap.size ≤ gv by have := LT_V.out; omega) 0 (.int .i64 d)) (show w.heap.size ≤ gv by have := LT_V.out; omega) 1 (.int .i64 n))
        generalize ((x2.setCell ⟨gv, 0, none⟩ (.int .i64 d)).setCell ⟨gv, 1, none⟩ (.int .i64 n)) = W10 at *
        have c_V_0 := blk_cell V.out 0 _ rfl
        have f_V_0 := blk_frozen V.out 0
        have c_V_1 := blk_cell V.out 1 _ rfl
        have f_V_1 := blk_frozen V.out 1
        have l_V := blk_lt V.out
        have c_C_0 := blk_cell C.out 0 _ rfl
        have f_C_0 := blk_frozen C.out 0
        have c_C_1 := blk_cell C.out 1 _ rfl
        have f_C_1 := blk_frozen C.out 1
        have l_C := blk_lt C.out
        go_wp2_with fail
        clear c_V_0 f_V_0 c_V_1 f_V_1 l_V c_C_0 f_C_0 c_C_1 f_C_1 l_C
        refine (SC.out _).mono ?_
        rintro e w11 ⟨rfl, hb⟩
        replace NN := Lib.hid (Bgo NN.out hb)
        replace K := Lib.hid (blk_next hb K.out)
        replace V := Lib.hid (blk_next hb V.out)
        replace C := Lib.hid (blk_next hb C.out)
        clear hb
        have c_V_0 := blk_cell V.out 0 _ rfl
        have f_V_0 := blk_frozen V.out 0
        have c_V_1 := blk_cell V.out 1 _ rfl
        have f_V_1 := blk_frozen V.out 1
        have l_V := blk_lt V.out
        go_wp2_with fail
        clear c_V_0 f_V_0 c_V_1 f_V_1 l_V
        replace K : Hid (((w11.setCell ⟨gv, 0, none⟩ (.int .i64 r1)).setCell ⟨gv, 1, none⟩ (.int .i64 r2)).heap[w.heap.size]? = some (.cells #[.int .i64 0, .int .i64 0] 23)) := Lib.hid (blk_set_other (b' := gv) (blk_set_other (b' := gv) (K.out) (by have := LT_V.out; omega) 0 (.int .i64 r1)) (by have := LT_V.out; omega) 1 (.int .i64 r2))
        replace V : Hid (((w11.setCell ⟨gv, 0, none⟩ (.int .i64 r1)).setCell ⟨gv, 1, none⟩ (.int .i64 r2)).heap[gv]? = some (.cells #[.int .i64 r1, .int .i64 r2] 23)) := Lib.hid (blk_set (blk_set (V.out) 0 (.int .i64 r1)) 1 (.int .i64 r2))
        replace C : Hid (((w11.setCell ⟨gv, 0, none⟩ (.int .i64 r1)).setCell ⟨gv, 1, none⟩ (.int .i64 r2)).heap[gc]? = some (.cells #[.int .i64 xq, .int .i64 1] 23)) := Lib.hid (blk_set_other (b' := gv) (blk_set_other (b' := gv) (C.out) (by have := LT_C.out; omega) 0 (.int .i64 r1)) (by have := LT_C.out; omega) 1 (.int .i64 r2))
        replace NN := Lib.hid (Bset1 (Bset1 (NN.out) (show w.heap.size ≤ gv by have := LT_V.out; omega) 0 (.int .i64 r1)) (show w.heap.size ≤ gv by have := LT_V.out; omega) 1 (.int .i64 r2))
        exact ⟨⟨q, r3, r1, r2, q2, rfl, rfl, SQ, NN, V, K⟩, by first | (simp [intOf]; done) | (simp [intOf]; omega)⟩
end Go.Proofs.YtpeoecgehdicmaaDoor
