/- Contract of layer 1: Fold of the program. -/
import Derived.Test.YtpeoecgehdicmaaDoorFtd
import Derived.Test.YtpeoecgehdicmaaDoorFrv
import Derived.Deep.DeepCutAuto
import Derived.Deep.CutBlock
namespace Go.Proofs.YtpeoecgehdicmaaDoor
open Go.ChangeShapes Go.WideShapes Go.ChangeAt Go.RowKit
set_option linter.unusedVariables false
attribute [local go_sem ↓] Go.wp_at_zero Go.wp_at_succ

theorem drop_ne {L : List Int} {k : Nat} (h : k < L.length) : L.drop k ≠ [] := by
  intro e
  have := congrArg List.length e
  simp at this; omega
theorem mem_tail_drop {L : List Int} {k : Nat} (hk : 1 ≤ k) {x : Int} (h : x ∈ L.drop k) : x ∈ L.tail := by
  rw [← List.drop_one]
  have : L.drop k = (L.drop 1).drop (k - 1) := by rw [List.drop_drop]; congr 1; omega
  rw [this] at h
  exact List.mem_of_mem_drop h
set_option maxRecDepth 100000 in
set_option maxHeartbeats 8000000 in
theorem fold_calls (a : Option Addr) (c : Nat) (L : List Int) (w : World) (hL : ∀ x ∈ L, -9223372036854775808 ≤ x ∧ x ≤ 9223372036854775807) (h1 : L.length ≤ c) (h2 : c ≤ 9223372036854775807) (ha : Rd w 1 a L.length (lv L)) :
    Calls Tryd.prog 8 #[.slice a L.length c] w fun e w' => e = .returned (Rv (foldR L)) ∧ Below w.heap.size w w' := by
  have HLB := Lib.hid hL
  clear hL
  by_cases many : L.length = 0 ∨ 100 < L.length
  · have F : Hid (foldR L = (0, 0, 4)) := Lib.hid (by unfold foldR; rw [if_pos many])
    have NN := Lib.hid (Bal (Below.refl w.heap.size w) (.cells #[.int .i64 0, .int .i64 0] 23))
    generalize foldR L = res at *
    clear ha
    by_cases z : L.length = 0
    · have k0 : (((L.length : Nat) : Int) == 0) = true := by rw [z]; rfl
      generalize L.length = ll at *
      clear many z
      go_enter Tryd.func8, Tryd.ntmps8
      go_wp2_with fail
      refine bodyPost_ret (v := Rv (0, 0, 4)) (by simp [results, Tryd.results8, go_sem]) rfl ⟨by rw [F.out], by first | exact NN.out | exact Bset1 (Bset1 NN.out (Nat.le_refl _) _ _) (Nat.le_refl _) _ _⟩
    · have k0 : (((L.length : Nat) : Int) == 0) = false := by rw [beq_eq_false_iff_ne]; omega
      have k1 : decide ((100 : Int) < ((L.length : Nat) : Int)) = true := decide_eq_true (by omega)
      generalize L.length = ll at *
      clear many z
      go_enter Tryd.func8, Tryd.ntmps8
      go_wp2_with fail
      refine bodyPost_ret (v := Rv (0, 0, 4)) (by simp [results, Tryd.results8, go_sem]) rfl ⟨by rw [F.out], by first | exact NN.out | exact Bset1 (Bset1 NN.out (Nat.le_refl _) _ _) (Nat.le_refl _) _ _⟩
  have l0 : 0 < L.length := by omega
  have l1 : L.length ≤ 100 := by omega
  have k0 : (((L.length : Nat) : Int) == 0) = false := by rw [beq_eq_false_iff_ne]; omega
  have k1 : decide ((100 : Int) < ((L.length : Nat) : Int)) = false := decide_eq_false (by omega)
  have F0 : Hid (foldR L = if ¬ inr (L.headD 0) then (0, 0, 2) else if ∃ x ∈ L.tail, x < 1 then (0, 0, 2) else foldF L) := Lib.hid (by unfold foldR; rw [if_neg many])
  clear many
  obtain ⟨b, off, rfl, hbl, hc0⟩ := ha.num l0
  have CELL : Hid (∀ W, Below w.heap.size w W → b < W.heap.size ∧ ∀ (i : Nat) (x : Int), L[i]? = some x → W.cell? ⟨b, off + i, none⟩ = some (.int .i64 x)) := Lib.hid (fun W hb => ⟨Nat.lt_of_lt_of_le hbl hb.size, fun i x hx => by
    obtain ⟨hi, rfl⟩ := List.getElem?_eq_some_iff.1 hx
    obtain ⟨b', off', e, _, hcell⟩ := ha.num hi
    simp only [Option.some.injEq, Addr.mk.injEq] at e
    obtain ⟨rfl, rfl, _⟩ := e
    exact (hb.cell hbl).trans hcell⟩)
  clear ha
  have X0 : L[0]? = some L[0] := List.getElem?_eq_getElem l0
  have HD : L.headD 0 = L[0] := by cases L with | nil => simp at l0 | cons x r => rfl
  rw [HD] at F0
  clear HD hbl
  generalize L[0] = x0 at *
  have HX0 := Lib.hid X0
  clear X0
  have NN := Lib.hid (Bal (Below.refl w.heap.size w) (.cells #[.int .i64 0, .int .i64 0] 23))
  have K := Lib.hid (blk_new w (.cells #[.int .i64 0, .int .i64 0] 23))
  generalize foldR L = res at *
  by_cases ir : inr x0
  rotate_left
  · have F := Lib.hid (F0.out.trans (if_pos ir))
    clear F0
    unfold inr at ir
    have bl := (CELL.out _ NN.out).1
    have c0 := (CELL.out _ NN.out).2 0 _ HX0.out
    rw [Nat.add_zero] at c0
    clear hc0
    by_cases lo : x0 < -1000000000000000000
    · clear ir
      go_enter Tryd.func8, Tryd.ntmps8
      go_wp2_with fail
      refine bodyPost_ret (v := Rv (0, 0, 2)) (by simp [results, Tryd.results8, go_sem]) rfl ⟨by rw [F.out], by first | exact NN.out | exact Bset1 (Bset1 NN.out (Nat.le_refl _) _ _) (Nat.le_refl _) _ _⟩
    · have hi : 1000000000000000000 < x0 := by omega
      clear ir
      go_enter Tryd.func8, Tryd.ntmps8
      go_wp2_with fail
      refine bodyPost_ret (v := Rv (0, 0, 2)) (by simp [results, Tryd.results8, go_sem]) rfl ⟨by rw [F.out], by first | exact NN.out | exact Bset1 (Bset1 NN.out (Nat.le_refl _) _ _) (Nat.le_refl _) _ _⟩
  have F1 := Lib.hid (F0.out.trans (if_neg (fun h => h ir)))
  clear F0
  have lo : ¬ x0 < -1000000000000000000 := by unfold inr at ir; omega
  have hi : ¬ 1000000000000000000 < x0 := by unfold inr at ir; omega
  clear ir
  have bl := (CELL.out _ NN.out).1
  have c0 := (CELL.out _ NN.out).2 0 _ HX0.out
  rw [Nat.add_zero] at c0
  clear hc0
  by_cases bad : ∃ x ∈ L.tail, x < 1
  · have F := Lib.hid (F1.out.trans (if_pos bad))
    clear F1
    obtain ⟨xb, hm, hxb⟩ := bad
    obtain ⟨m, hm', rfl⟩ := List.mem_iff_getElem.1 hm
    have c1 : ¬ c = 1 := by have := List.length_tail (l := L); omega
    have hb1 : L[m + 1]? = some L.tail[m] := by
      rw [← List.getElem?_tail]; exact List.getElem?_eq_getElem hm'
    generalize L.tail[m] = xb at *
    have mlt : m + 1 < L.length := (List.getElem?_eq_some_iff.1 hb1).1
    have HB := Lib.hid hb1
    clear hm hm' hb1
    go_enter Tryd.func8, Tryd.ntmps8
    go_wp2_with fail
    generalize w.alloc (.cells #[.int .i64 0, .int .i64 0] 23) = W0 at *
    have z0 := blk_cell K.out 0 _ rfl
    have z1 := blk_cell K.out 1 _ rfl
    have f0 := blk_frozen K.out 0
    have f1 := blk_frozen K.out 1
    have zl := blk_lt K.out
    have e1 := blk_cell (blk_set (blk_set K.out 0 (.int .i64 0)) 1 (.int .i64 0)) 0 _ rfl
    have e2 := blk_cell (blk_set (blk_set K.out 0 (.int .i64 0)) 1 (.int .i64 0)) 1 _ rfl
    go_loopw [33] (fun i wr => ∃ k : Nat, k ≤ m ∧ i = .int .i64 k ∧ wr = W0) (fun i _ => L.length - (intOf i).toNat)
    case atStart => exact ⟨0, by omega, rfl, rfl⟩
    case round =>
      obtain ⟨k, hk, rfl, rfl⟩ := hrel
      have km0 : (0 : Int) ≤ (k : Int) := by omega
      have km1 : (k : Int) < ((L.length - 1 : Nat) : Int) := by omega
      have km2 : k < L.length - 1 := by omega
      have ex : L[k + 1]? = some L[k + 1] := List.getElem?_eq_getElem (by omega)
      generalize L[k + 1] = xk at *
      have ck := (CELL.out _ NN.out).2 (k + 1) _ ex
      rw [show off + (k + 1) = off + 1 + k by omega] at ck
      by_cases small : xk < 1
      · clear ex HB
        go_wp2_with fail
        refine bodyPost_ret (v := Rv (0, 0, 2)) (by simp [results, Tryd.results8, go_sem, e1, e2]) rfl ⟨by rw [F.out], by first | exact NN.out | exact Bset1 (Bset1 NN.out (Nat.le_refl _) _ _) (Nat.le_refl _) _ _⟩
      · have ne : k ≠ m := fun e => by
          subst e
          have h := HB.out
          rw [ex] at h
          injection h with h
          omega
        have k2 : k + 1 ≤ m := by omega
        have k3 : L.length - (k + 1) < L.length - k := by omega
        clear ex HB
        go_wp2_with fail
        exact ⟨⟨k + 1, k2, by go_num, by first | rfl | trivial⟩, by simp [intOf]; omega⟩
  have F := Lib.hid (F1.out.trans (if_neg bad))
  have POS : Hid (∀ x ∈ L.tail, 1 ≤ x) := Lib.hid (fun x hx => by
    by_cases h : x < 1
    · exact absurd ⟨x, hx, h⟩ bad
    · omega)
  clear F1 bad
  by_cases c1 : c = 1
  · have c1' : (c = 1) = True := eq_true c1
    have ll : L.length = 1 := by omega
    have FF : Hid (foldF L = (x0, 1, 0)) := Lib.hid (by
      cases L with
      | nil => simp at l0
      | cons y r =>
        have : r = [] := List.eq_nil_of_length_eq_zero (by simpa using ll)
        subst this
        have := HX0.out
        simp at this
        subst this
        unfold foldF
        rw [if_pos ⟨by omega, by omega⟩])
    have M1 := Lib.hid (fun W => make_calls x0 1 W (by omega) (by omega) (by omega) (by omega))
    rw [make_one, if_pos ⟨by omega, by omega⟩] at M1
    have ll' : ((L.length : Nat) : Int) = 1 := by omega
    generalize L.length = len at *
    subst ll
    clear ll' k0 k1 l0 l1
    go_enter Tryd.func8, Tryd.ntmps8
    go_wp2_with fail
    generalize w.alloc (.cells #[.int .i64 0, .int .i64 0] 23) = W0 at *
    go_loopw [33] (fun i wr => i = .int .i64 0 ∧ wr = W0) (fun i _ => 0)
    case atStart => exact ⟨rfl, rfl⟩
    case round =>
      obtain ⟨rfl, rfl⟩ := hrel
      go_wp2_with fail
      refine (M1.out _).mono ?_
      rintro e w1 ⟨rfl, hb⟩
      replace NN := Lib.hid (Bgo NN.out hb)
      replace K := Lib.hid (blk_next hb K.out)
      have V := Lib.hid (blk_new w1 (.cells #[.int .i64 x0, .int .i64 1] 23))
      have HB : Hid (Below w1.heap.size w1 (w1.alloc (.cells #[.int .i64 x0, .int .i64 1] 23))) := Lib.hid (Bal (Below.refl _ _) _)
      replace NN := Lib.hid (Bgo NN.out HB.out)
      replace K := Lib.hid (blk_next HB.out K.out)
      clear hb HB
      go_wp2_with fail
      generalize w1.alloc (.cells #[.int .i64 x0, .int .i64 1] 23) = W1 at *
      generalize w1.heap.size = gv at *
      go_loopw [7, 8] (fun e i wr => e = .int .i64 0 ∧ i = .int .i64 (-1) ∧ wr = W1) (fun _ _ _ => 0)
      case atStart => exact ⟨rfl, rfl, rfl⟩
      case round =>
        obtain ⟨rfl, rfl, rfl⟩ := hrel
        have z0 := blk_cell K.out 0 _ rfl
        have z1 := blk_cell K.out 1 _ rfl
        have f0 := blk_frozen K.out 0
        have f1 := blk_frozen K.out 1
        have zl := blk_lt K.out
        have v0 := blk_cell V.out 0 _ rfl
        have v1 := blk_cell V.out 1 _ rfl
        have vl := blk_lt V.out
        have e1 := blk_cell (blk_set (blk_set K.out 0 (.int .i64 x0)) 1 (.int .i64 1)) 0 _ rfl
        have e2 := blk_cell (blk_set (blk_set K.out 0 (.int .i64 x0)) 1 (.int .i64 1)) 1 _ rfl
        go_wp2_with fail
        refine bodyPost_ret (v := Rv (x0, 1, 0)) (by simp [results, Tryd.results8, go_sem, e1, e2]) rfl ⟨by rw [F.out, FF.out], Bset1 (Bset1 NN.out (Nat.le_refl _) _ _) (Nat.le_refl _) _ _⟩
  have l2 : 2 ≤ L.length ∨ L.length = 1 := by omega
  go_enter Tryd.func8, Tryd.ntmps8
  go_wp2_with fail
  generalize w.alloc (.cells #[.int .i64 0, .int .i64 0] 23) = W0 at *
  go_loopw [33] (fun i wr => ∃ k : Nat, k ≤ L.length - 1 ∧ i = .int .i64 k ∧ wr = W0) (fun i _ => L.length - (intOf i).toNat)
  case atStart => exact ⟨0, by omega, rfl, rfl⟩
  case round =>
    obtain ⟨k, hk, rfl, rfl⟩ := hrel
    by_cases hlt : k < L.length - 1
    · have km0 : (0 : Int) ≤ (k : Int) := by omega
      have km1 : (k : Int) < ((L.length - 1 : Nat) : Int) := by omega
      have ex : L[k + 1]? = some L[k + 1] := List.getElem?_eq_getElem (by omega)
      have big : ¬ L[k + 1] < 1 := by
        have : L[k + 1] ∈ L.tail := List.mem_iff_getElem?.2 ⟨k, by rw [List.getElem?_tail]; exact ex⟩
        have := POS.out _ this
        omega
      generalize L[k + 1] = xk at *
      have ck := (CELL.out _ NN.out).2 (k + 1) _ ex
      rw [show off + (k + 1) = off + 1 + k by omega] at ck
      have k2 : k + 1 ≤ L.length - 1 := by omega
      have k3 : L.length - (k + 1) < L.length - k := by omega
      clear ex
      go_wp2_with fail
      exact ⟨⟨k + 1, k2, by go_num, by first | rfl | trivial⟩, by simp [intOf]; omega⟩
    · have km1 : ¬ (k : Int) < ((L.length - 1 : Nat) : Int) := by omega
      have km2 : ¬ k < L.length - 1 := hlt
      have XL : L[L.length - 1]? = some L[L.length - 1] := List.getElem?_eq_getElem (by omega)
      generalize L[L.length - 1] = xl at *
      have cl := (CELL.out _ NN.out).2 (L.length - 1) _ XL
      have HXL := Lib.hid XL
      clear XL
      go_wp2_with fail
      have LB := HLB.out xl (List.mem_of_getElem? HXL.out)
      have M1 := Lib.hid (fun W => make_calls xl 1 W (by omega) (by omega) (by omega) (by omega))
      have FL : Hid (makeF xl 1 = foldF (L.drop (L.length - 1))) := Lib.hid (by
        have e : L.drop (L.length - 1) = [xl] := by
          have := List.drop_eq_getElem_cons (show L.length - 1 < L.length by omega)
          rw [this, List.drop_eq_nil_of_le (by omega)]
          have h := HXL.out
          rw [List.getElem?_eq_getElem (by omega)] at h
          injection h with h
          rw [h]
        rw [e, make_one]
        rfl)
      obtain ⟨⟨r1, r2, r3⟩, hr⟩ : ∃ r, makeF xl 1 = r := ⟨_, rfl⟩
      rw [hr] at M1 FL
      have RC : Hid (r3 = 0 ∨ r3 = 16) := Lib.hid (by
        rw [make_one] at hr
        split at hr <;> cases hr <;> simp)
      clear hr LB
      refine (M1.out _).mono ?_
      rintro e w1 ⟨rfl, hb⟩
      replace NN := Lib.hid (Bgo NN.out hb)
      replace K := Lib.hid (blk_next hb K.out)
      have V := Lib.hid (blk_new w1 (.cells #[.int .i64 r1, .int .i64 r2] 23))
      have HB : Hid (Below w1.heap.size w1 (w1.alloc (.cells #[.int .i64 r1, .int .i64 r2] 23))) := Lib.hid (Bal (Below.refl _ _) _)
      have GV : Hid (w.heap.size < w1.heap.size) := Lib.hid (blk_lt K.out)
      replace NN := Lib.hid (Bgo NN.out HB.out)
      replace K := Lib.hid (blk_next HB.out K.out)
      clear hb HB cl
      clear c0 bl
      go_wp2_with fail
      generalize w1.alloc (.cells #[.int .i64 r1, .int .i64 r2] 23) = W1 at *
      generalize w1.heap.size = gv at *
      go_loopw [7, 8] (fun e i wr => ∃ (k : Nat) (er n d : Int), k < L.length ∧ e = .int .i64 er ∧ i = .int .i64 ((k : Int) - 1) ∧ Hid ((er = 0 ∧ foldF (L.drop k) = (n, d, 0)) ∨ (er = 16 ∧ (foldF (L.drop k)).2.2 ≠ 0)) ∧ Hid (Below w.heap.size w wr) ∧ Hid (wr.heap[gv]? = some (.cells #[.int .i64 n, .int .i64 d] 23)) ∧ Hid (wr.heap[w.heap.size]? = some (.cells #[.int .i64 0, .int .i64 0] 23))) (fun _ i _ => (intOf i + 1).toNat)
      case atStart =>
        refine ⟨L.length - 1, r3, r1, r2, by omega, rfl, by congr 1; omega, Lib.hid ?_, NN, V, K⟩
        rcases RC.out with rfl | rfl
        · exact .inl ⟨rfl, FL.out.symm⟩
        · exact .inr ⟨rfl, by rw [← FL.out]; simp⟩
      case round =>
        clear NN V K FL RC M1
        obtain ⟨k, er, n, d, hk, rfl, rfl, ST, NN, V, K⟩ := hrel
        rcases ST.out with ⟨rfl, st⟩ | ⟨rfl, st⟩
        rotate_left
        · have FF := Lib.hid (foldF_bad k hk st)
          clear ST st
          by_cases kz : k = 0
          · subst kz
            have z0 := blk_cell K.out 0 _ rfl
            have z1 := blk_cell K.out 1 _ rfl
            have f0 := blk_frozen K.out 0
            have f1 := blk_frozen K.out 1
            have zl := blk_lt K.out
            have v0 := blk_cell V.out 0 _ rfl
            have v1 := blk_cell V.out 1 _ rfl
            have vl := blk_lt V.out
            have e1 := blk_cell (blk_set (blk_set K.out 0 (.int .i64 0)) 1 (.int .i64 0)) 0 _ rfl
            have e2 := blk_cell (blk_set (blk_set K.out 0 (.int .i64 0)) 1 (.int .i64 0)) 1 _ rfl
            go_wp2_with fail
            refine bodyPost_ret (v := Rv (0, 0, 16)) (by simp [results, Tryd.results8, go_sem, e1, e2]) rfl ⟨by rw [F.out, FF.out], Bset1 (Bset1 NN.out (Nat.le_refl _) _ _) (Nat.le_refl _) _ _⟩
          · have kk : ¬ (k : Int) < 1 := by omega
            have kk2 : (1 : Int) ≤ (k : Int) := by omega
            clear kz
            have z0 := blk_cell K.out 0 _ rfl
            have z1 := blk_cell K.out 1 _ rfl
            have f0 := blk_frozen K.out 0
            have f1 := blk_frozen K.out 1
            have zl := blk_lt K.out
            have v0 := blk_cell V.out 0 _ rfl
            have v1 := blk_cell V.out 1 _ rfl
            have vl := blk_lt V.out
            have e1 := blk_cell (blk_set (blk_set K.out 0 (.int .i64 0)) 1 (.int .i64 0)) 0 _ rfl
            have e2 := blk_cell (blk_set (blk_set K.out 0 (.int .i64 0)) 1 (.int .i64 0)) 1 _ rfl
            go_wp2_with fail
            refine bodyPost_ret (v := Rv (0, 0, 16)) (by simp [results, Tryd.results8, go_sem, e1, e2]) rfl ⟨by rw [F.out, FF.out], Bset1 (Bset1 NN.out (Nat.le_refl _) _ _) (Nat.le_refl _) _ _⟩
        by_cases kz : k = 0
        · subst kz
          rw [List.drop_zero] at st
          have FF := Lib.hid st
          clear ST st
          have z0 := blk_cell K.out 0 _ rfl
          have z1 := blk_cell K.out 1 _ rfl
          have f0 := blk_frozen K.out 0
          have f1 := blk_frozen K.out 1
          have zl := blk_lt K.out
          have v0 := blk_cell V.out 0 _ rfl
          have v1 := blk_cell V.out 1 _ rfl
          have vl := blk_lt V.out
          have e1 := blk_cell (blk_set (blk_set K.out 0 (.int .i64 n)) 1 (.int .i64 d)) 0 _ rfl
          have e2 := blk_cell (blk_set (blk_set K.out 0 (.int .i64 n)) 1 (.int .i64 d)) 1 _ rfl
          go_wp2_with fail
          refine bodyPost_ret (v := Rv (n, d, 0)) (by simp [results, Tryd.results8, go_sem, e1, e2]) rfl ⟨by rw [F.out, FF.out], Bset1 (Bset1 NN.out (Nat.le_refl _) _ _) (Nat.le_refl _) _ _⟩
        clear ST
        obtain ⟨q, rfl⟩ : ∃ q, k = q + 1 := ⟨k - 1, by omega⟩
        obtain ⟨vn, dn⟩ := foldF_pos _ (fun x hx => POS.out x (mem_tail_drop (by omega) hx)) n d st
        have vt := vn.turn (by have := vn.d1; omega)
        have XQ : L[q]? = some L[q] := List.getElem?_eq_getElem (by omega)
        have DQ : L.drop q = L[q] :: L.drop (q + 1) := List.drop_eq_getElem_cons (by omega)
        have FQ := foldF_cons (c := L[q]) (drop_ne hk)
        rw [← DQ, st] at FQ
        have LB := HLB.out L[q] (List.mem_of_getElem? XQ)
        generalize L[q] = xq at *
        have M2 := Lib.hid (fun W => make_calls xq 1 W (by omega) (by omega) (by omega) (by omega))
        have bl := (CELL.out _ NN.out).1
        have cq := (CELL.out _ NN.out).2 q _ XQ
        have i0 : ((q + 1 : Nat) : Int) - 1 = (q : Int) := by omega
        have q0 : (0 : Int) ≤ (q : Int) := by omega
        have q1 : (q : Int) < (L.length : Int) := by omega
        have q2 : q < L.length := by omega
        have ms : (((q : Int) - 1) + 1).toNat < (((q : Int)) + 1).toNat := by omega
        rw [i0]
        simp only at FQ
        clear DQ XQ kz hk i0
        by_cases iq : inr xq
        rotate_left
        · rw [make_one, if_neg iq] at M2
          have SQ : Hid ((foldF (L.drop q)).2.2 ≠ 0) := Lib.hid (by rw [FQ, if_neg (fun h => iq h.2.1)]; decide)
          clear FQ iq vn vt dn st
          have n1 : (((q : Nat) : Int) - 1 + 1) = (q : Int) := by omega
          go_wp2_with fail
          have HB : Hid (Below wr.heap.size wr (wr.alloc (.cells #[.int .i64 0, .int .i64 0] 23))) := Lib.hid (Bal (Below.refl _ _) _)
          have C := Lib.hid (blk_new wr (.cells #[.int .i64 0, .int .i64 0] 23))
          have GC : Hid (w.heap.size < wr.heap.size ∧ gv < wr.heap.size) := Lib.hid ⟨blk_lt K.out, blk_lt V.out⟩
          replace NN := Lib.hid (Bgo NN.out HB.out)
          replace K := Lib.hid (blk_next HB.out K.out)
          replace V := Lib.hid (blk_next HB.out V.out)
          clear HB bl cq
          generalize wr.alloc (.cells #[.int .i64 0, .int .i64 0] 23) = W2 at *
          generalize wr.heap.size = gc at *
          refine (M2.out _).mono ?_
          rintro e w3 ⟨rfl, hb⟩
          replace NN := Lib.hid (Bgo NN.out hb)
          replace K := Lib.hid (blk_next hb K.out)
          replace V := Lib.hid (blk_next hb V.out)
          replace C := Lib.hid (blk_next hb C.out)
          clear hb
          have c0 := blk_cell C.out 0 _ rfl
          have c1' := blk_cell C.out 1 _ rfl
          have f0 := blk_frozen C.out 0
          have f1 := blk_frozen C.out 1
          have cl := blk_lt C.out
          have K2 := Lib.hid (blk_set_other (b' := gc) (blk_set_other (b' := gc) K.out (by have := GC.out; omega) 0 (.int .i64 0)) (by have := GC.out; omega) 1 (.int .i64 0))
          have V2 := Lib.hid (blk_set_other (b' := gc) (blk_set_other (b' := gc) V.out (by have := GC.out; omega) 0 (.int .i64 0)) (by have := GC.out; omega) 1 (.int .i64 0))
          have N2 := Lib.hid (Bset1 (Bset1 NN.out (show w.heap.size ≤ gc by have := GC.out; omega) 0 (.int .i64 0)) (show w.heap.size ≤ gc by have := GC.out; omega) 1 (.int .i64 0))
          go_wp2_with fail
          exact ⟨⟨q, 16, n, d, q2, rfl, rfl, Lib.hid (.inr ⟨rfl, SQ.out⟩), N2, V2, K2⟩, by first | (simp [intOf]; done) | (simp [intOf]; omega)⟩
        rw [make_one, if_pos iq] at M2
        have SC := Lib.hid (fun W => sum_calls xq 1 d n W ⟨by omega, by omega, iq.1, iq.2, by simp⟩ vt)
        obtain ⟨⟨r1, r2, r3⟩, hr⟩ : ∃ r, addF xq 1 d n = r := ⟨_, rfl⟩
        rw [hr] at SC
        rw [add_turn iq vt] at hr
        have SQ : Hid ((r3 = 0 ∧ foldF (L.drop q) = (r1, r2, 0)) ∨ (r3 = 16 ∧ (foldF (L.drop q)).2.2 ≠ 0)) := Lib.hid (by
          by_cases io : inr (xq * n + d)
          · rw [if_pos io] at hr
            cases hr
            exact .inl ⟨rfl, by rw [FQ, if_pos ⟨trivial, iq, io⟩]⟩
          · rw [if_neg io] at hr
            cases hr
            exact .inr ⟨rfl, by rw [FQ, if_neg (fun h => io h.2.2)]; decide⟩)
        clear FQ iq vn vt dn st hr
        go_wp2_with fail
        have HB : Hid (Below wr.heap.size wr (wr.alloc (.cells #[.int .i64 0, .int .i64 0] 23))) := Lib.hid (Bal (Below.refl _ _) _)
        have C := Lib.hid (blk_new wr (.cells #[.int .i64 0, .int .i64 0] 23))
        have GC : Hid (w.heap.size < wr.heap.size ∧ gv < wr.heap.size) := Lib.hid ⟨blk_lt K.out, blk_lt V.out⟩
        replace NN := Lib.hid (Bgo NN.out HB.out)
        replace K := Lib.hid (blk_next HB.out K.out)
        replace V := Lib.hid (blk_next HB.out V.out)
        clear HB bl cq
        generalize wr.alloc (.cells #[.int .i64 0, .int .i64 0] 23) = W2 at *
        generalize wr.heap.size = gc at *
        refine (M2.out _).mono ?_
        rintro e w3 ⟨rfl, hb⟩
        replace NN := Lib.hid (Bgo NN.out hb)
        replace K := Lib.hid (blk_next hb K.out)
        replace V := Lib.hid (blk_next hb V.out)
        replace C := Lib.hid (blk_next hb C.out)
        clear hb
        have c0 := blk_cell C.out 0 _ rfl
        have c1' := blk_cell C.out 1 _ rfl
        have f0 := blk_frozen C.out 0
        have f1 := blk_frozen C.out 1
        have cl := blk_lt C.out
        have K2 := Lib.hid (blk_set_other (b' := gc) (blk_set_other (b' := gc) K.out (by have := GC.out; omega) 0 (.int .i64 xq)) (by have := GC.out; omega) 1 (.int .i64 1))
        have V2 := Lib.hid (blk_set_other (b' := gc) (blk_set_other (b' := gc) V.out (by have := GC.out; omega) 0 (.int .i64 xq)) (by have := GC.out; omega) 1 (.int .i64 1))
        have N2 := Lib.hid (Bset1 (Bset1 NN.out (show w.heap.size ≤ gc by have := GC.out; omega) 0 (.int .i64 xq)) (show w.heap.size ≤ gc by have := GC.out; omega) 1 (.int .i64 1))
        have C2 := Lib.hid (blk_set (blk_set C.out 0 (.int .i64 xq)) 1 (.int .i64 1))
        have d0 := blk_cell C2.out 0 _ rfl
        have d1 := blk_cell C2.out 1 _ rfl
        have dl := blk_lt C2.out
        have v0 := blk_cell V2.out 0 _ rfl
        have v1 := blk_cell V2.out 1 _ rfl
        have vl := blk_lt V2.out
        go_wp2_with fail
        clear c0 c1' f0 f1 cl d0 d1 dl v0 v1 vl K V NN C C2
        generalize (w3.setCell ⟨gc, 0, none⟩ (.int .i64 xq)).setCell ⟨gc, 1, none⟩ (.int .i64 1) = W3 at *
        refine (SC.out _).mono ?_
        rintro e w4 ⟨rfl, hb⟩
        replace N2 := Lib.hid (Bgo N2.out hb)
        replace K2 := Lib.hid (blk_next hb K2.out)
        replace V2 := Lib.hid (blk_next hb V2.out)
        clear hb
        have v0 := blk_cell V2.out 0 _ rfl
        have v1 := blk_cell V2.out 1 _ rfl
        have f0 := blk_frozen V2.out 0
        have f1 := blk_frozen V2.out 1
        have vl := blk_lt V2.out
        have K3 := Lib.hid (blk_set_other (b' := gv) (blk_set_other (b' := gv) K2.out (by have := GV.out; omega) 0 (.int .i64 r1)) (by have := GV.out; omega) 1 (.int .i64 r2))
        have V3 := Lib.hid (blk_set (blk_set V2.out 0 (.int .i64 r1)) 1 (.int .i64 r2))
        have N3 := Lib.hid (Bset1 (Bset1 N2.out (show w.heap.size ≤ gv by have := GV.out; omega) 0 (.int .i64 r1)) (show w.heap.size ≤ gv by have := GV.out; omega) 1 (.int .i64 r2))
        go_wp2_with fail
        exact ⟨⟨q, r3, r1, r2, q2, rfl, rfl, SQ, N3, V3, K3⟩, by first | (simp [intOf]; done) | (simp [intOf]; omega)⟩
end Go.Proofs.YtpeoecgehdicmaaDoor
