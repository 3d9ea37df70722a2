/- Contract of layer 24: the reference's averages. -/
import Derived.Test.YtbbnkclajpaghaaMA20
import Derived.Test.YtbbnkclajpaghaaMA21
namespace Go.Proofs.Ytbbnkclajpaghaa
open Go.ChangeShapes Go.WideShapes Go.ChangeAt Go.RowKit
set_option linter.unusedVariables false
set_option linter.unusedSimpArgs false
attribute [local go_sem ↓] Go.wp_at_zero Go.wp_at_succ
theorem rowAt_map {l : List Vr} {f : Vr → Vr} {k : Nat} (h : k < l.length) : rowAt (l.map f) k = f (rowAt l k) := by
  rw [rowAt_lt h, rowAt_lt (by simpa using h), List.getElem_map]
theorem mul_bd {x a n m : Int} (h0 : 0 ≤ x) (h : x ≤ n) (ha : 0 ≤ a) (h' : a ≤ m) : 0 ≤ x * a ∧ x * a ≤ n * m := ⟨Int.mul_nonneg h0 ha, Int.mul_le_mul h h' ha (by omega)⟩
theorem own_len {xs : List Vr} {k p : Nat} {f : Vr → Bool} (h : xs.length ≤ p) : ((xs.take k).filter f).length ≤ p := Nat.le_trans (List.length_filter_le _ _) (by rw [List.length_take]; omega)

set_option maxRecDepth 100000 in
set_option maxHeartbeats 16000000 in
theorem raverage_calls {A : Option Addr} {c : Nat} {l : List Vr} {w : World} (a b : Int) (hl : RT w A l) (hc : l.length ≤ c) (hc' : c ≤ 9223372036854775807) : Calls Try.prog 17 #[.slice A l.length c, .int .i64 a, .int .i64 b] w fun e w' =>
    ∃ v, e = .returned (.tuple #[v, .int .i64 (avgE l a b)]) ∧ OV w.heap.size w' v (avgL l a b) ∧ Below w.heap.size w w' := by
  have CK : Hid (∀ W : World, Below w.heap.size w W → Calls Try.prog 14 #[.slice A l.length c] W fun e w' => e = .returned (.int .i64 (chkE l)) ∧ Below W.heap.size W w') := Lib.hid (fun W hb => refchk_calls (w := W) (hl.next hb) hc hc')
  have HL := Lib.hid hl
  have NN := Lib.hid (Below.refl w.heap.size w)
  clear hl
  obtain ⟨pe, hpe⟩ : ∃ pe, avgE l a b = pe := ⟨_, rfl⟩
  obtain ⟨pl, hpl⟩ : ∃ pl, avgL l a b = pl := ⟨_, rfl⟩
  obtain ⟨E, hE⟩ : ∃ E, chkE l = E := ⟨_, rfl⟩
  have HPE := Lib.hid hpe
  have HPL := Lib.hid hpl
  have HEE := Lib.hid hE
  rw [hpe, hpl]
  rw [hE] at CK
  clear hpe hpl hE
  go_enter Try.func17, Try.ntmps17
  go_wp2_with fail
  refine (CK.out _ NN.out).mono ?_
  rintro e w1 ⟨rfl, hb⟩
  replace NN := Lib.hid (Bgo NN.out hb)
  clear hb
  by_cases h0 : E ≠ 0
  · have q1 : (E != 0) = true := by simpa using h0
    have HE0 := Lib.hid h0
    clear h0
    go_wp2_with fail
    refine (CK.out _ NN.out).mono ?_
    rintro e w2 ⟨rfl, hb⟩
    replace NN := Lib.hid (Bgo NN.out hb)
    clear hb
    go_wp2_with fail
    go_ret2
    have h1 : avgE l a b = E := by unfold avgE; rw [HEE.out, if_pos HE0.out]
    have h2 : avgL l a b = [] := by unfold avgL; rw [h1]; exact if_neg HE0.out
    exact ⟨.slice none 0 0, by rw [← HPE.out, h1]; rfl, by rw [← HPL.out, h2]; exact OG.nil _ _ _ _ _, NN.out⟩
  have h0' : E = 0 := by omega
  subst h0'
  clear h0
  obtain ⟨hg, hn⟩ := chkE_good HEE.out
  have HG := Lib.hid hg
  clear hg
  have hc5 : a < 1 ∨ (1 ≤ a ∧ 64 < a) ∨ (1 ≤ a ∧ a ≤ 64 ∧ b < 1) ∨ (1 ≤ a ∧ a ≤ 64 ∧ 1 ≤ b ∧ 16 < b) ∨ (1 ≤ a ∧ a ≤ 64 ∧ 1 ≤ b ∧ b ≤ 16) := by omega
  rcases hc5 with h | ⟨h, h1⟩ | ⟨h, h1, h2⟩ | ⟨h, h1, h2, h3⟩ | ⟨h, h1, h2, h3⟩
  · have d1 : decide (a < 1) = true := by simp; omega
    go_wp2_with fail
    go_ret2
    have h1 : avgE l a b = 2 := by unfold avgE; rw [HEE.out, if_neg (by omega), if_pos (by omega)]
    have h2 : avgL l a b = [] := by unfold avgL; rw [h1]; exact if_neg (by omega)
    exact ⟨.slice none 0 0, by rw [← HPE.out, h1]; rfl, by rw [← HPL.out, h2]; exact OG.nil _ _ _ _ _, NN.out⟩
  · have d1 : decide (a < 1) = false := by simp; omega
    have d2 : decide (64 < a) = true := by simp; omega
    go_wp2_with fail
    go_ret2
    have h1 : avgE l a b = 2 := by unfold avgE; rw [HEE.out, if_neg (by omega), if_pos (by omega)]
    have h2 : avgL l a b = [] := by unfold avgL; rw [h1]; exact if_neg (by omega)
    exact ⟨.slice none 0 0, by rw [← HPE.out, h1]; rfl, by rw [← HPL.out, h2]; exact OG.nil _ _ _ _ _, NN.out⟩
  · have d1 : decide (a < 1) = false := by simp; omega
    have d2 : decide (64 < a) = false := by simp; omega
    have d3 : decide (b < 1) = true := by simp; omega
    go_wp2_with fail
    go_ret2
    have h1 : avgE l a b = 2 := by unfold avgE; rw [HEE.out, if_neg (by omega), if_pos (by omega)]
    have h2 : avgL l a b = [] := by unfold avgL; rw [h1]; exact if_neg (by omega)
    exact ⟨.slice none 0 0, by rw [← HPE.out, h1]; rfl, by rw [← HPL.out, h2]; exact OG.nil _ _ _ _ _, NN.out⟩
  · have d1 : decide (a < 1) = false := by simp; omega
    have d2 : decide (64 < a) = false := by simp; omega
    have d3 : decide (b < 1) = false := by simp; omega
    have d4 : decide (16 < b) = true := by simp; omega
    go_wp2_with fail
    go_ret2
    have h1 : avgE l a b = 2 := by unfold avgE; rw [HEE.out, if_neg (by omega), if_pos (by omega)]
    have h2 : avgL l a b = [] := by unfold avgL; rw [h1]; exact if_neg (by omega)
    exact ⟨.slice none 0 0, by rw [← HPE.out, h1]; rfl, by rw [← HPL.out, h2]; exact OG.nil _ _ _ _ _, NN.out⟩
  obtain ⟨AV, hav⟩ : ∃ AV, avR a b l = AV := ⟨_, rfl⟩
  have HRE : Hid (pe = AV.1) := Lib.hid (by rw [← HPE.out, ← hav]; unfold avgE; rw [HEE.out, if_neg (by omega), if_neg (by omega)])
  have HRL : Hid (pl = if pe = 0 then AV.2 else []) := Lib.hid (by rw [← HPL.out, ← hav]; unfold avgL; rw [HPE.out])
  have HX := Lib.hid (av_facts h h2 (goodF_row HG.out))
  have HXR : Hid (∀ r ∈ l.map (avT a b), rowB r = true) := Lib.hid (fun r hr => (HX.out r hr).1)
  have HAT : Hid (∀ k, k < l.length → rowAt (l.map (avT a b)) k = avT a b (rowAt l k)) := Lib.hid (fun k hk => rowAt_map hk)
  have HLR : Hid (∀ k, k < l.length → rowB (rowAt l k) = true) := Lib.hid (fun k hk => by rw [rowAt_lt hk]; exact goodF_row HG.out _ (List.getElem_mem hk))
  have hxl : (l.map (avT a b)).length = l.length := List.length_map _
  have HE : Hid (AV = andF [] (upK (l.map (avT a b)) (0 * 1024))) := Lib.hid (by rw [Nat.zero_mul, upK_zero, ← hav]; exact (andF_nil _).symm)
  clear hav HPE HPL HEE CK HG
  generalize l.map (avT a b) = xs at *
  have d1 : decide (a < 1) = false := by simp; omega
  have d2 : decide (64 < a) = false := by simp; omega
  have d3 : decide (b < 1) = false := by simp; omega
  have d4 : decide (16 < b) = false := by simp; omega
  go_wp2_with fail
  clear d1 d2 d3 d4
  skip
  go_loopw [8, 9] (fun v p wr => ∃ t : Nat, t ≤ 64 ∧ p = .int .i64 (t : Int) ∧ ∃ (Ao : Option Addr) (O : List Vr) (co : Nat), v = .slice Ao O.length co ∧ Hid (OV w.heap.size wr (.slice Ao O.length co) O) ∧ Hid (Below w.heap.size w wr) ∧ Hid (AV = andF O (upK xs (t * 1024))) ∧ Hid (O.length ≤ t * 1024)) (fun _ p _ => 64 - (intOf p).toNat)
  case atStart => exact ⟨0, by omega, rfl, none, [], 0, rfl, Lib.hid (OG.nil _ _ _ _ _), NN, HE, Lib.hid (Nat.zero_le _)⟩
  case round =>
    clear NN HE
    obtain ⟨t, ht, rfl, Ao, O, co, rfl, OO, NN, HE, HOL⟩ := hrel
    have mt := mul_bd (x := (t : Int)) (n := 64) (m := 64) (a := a) (by omega) (by omega) (by omega) (by omega)
    have wt : IntKind.i64.wrap ((t : Int) * a) = (t : Int) * a := IntWalk.i64_in _ (by omega)
    by_cases hta : (t : Int) * a < 64
    rotate_left
    · have q1 : decide ((t : Int) * a < 64) = false := decide_eq_false hta
      have HV0 : Hid (AV = (0, O)) := Lib.hid (by rw [HE.out]; exact end_time h HX.out ht (by omega))
      clear HE mt hta
      go_wp2_with fail
      go_ret2
      have hpe0 : pe = 0 := by rw [HRE.out, HV0.out]
      exact ⟨.slice Ao O.length co, by rw [hpe0]; rfl, by rw [HRL.out, if_pos hpe0, HV0.out]; exact OO.out, NN.out⟩
    have q1 : decide ((t : Int) * a < 64) = true := decide_eq_true hta
    have ht6 : t < 64 := by have := Int.mul_le_mul_of_nonneg_left h (show (0 : Int) ≤ (t : Int) by omega); omega
    clear mt
    go_wp2_with fail
    clear q1 wt
    go_loopw [8, 10] (fun v p wr => ∃ q : Nat, q ≤ 16 ∧ p = .int .i64 (q : Int) ∧ ∃ (Ao : Option Addr) (O : List Vr) (co : Nat), v = .slice Ao O.length co ∧ Hid (OV w.heap.size wr (.slice Ao O.length co) O) ∧ Hid (Below w.heap.size w wr) ∧ Hid (AV = andF O (upK xs (t * 1024 + q * 64))) ∧ Hid (O.length ≤ t * 1024 + q * 64)) (fun _ p _ => 16 - (intOf p).toNat)
    case atStart => exact ⟨0, by omega, rfl, Ao, O, co, rfl, OO, NN, Lib.hid (by simpa using HE.out), Lib.hid (by simpa using HOL.out)⟩
    case round =>
      clear NN HE OO HOL
      obtain ⟨q, hq, rfl, Ao, O, co, rfl, OO, NN, HE, HOL⟩ := hrel
      have mq := mul_bd (x := (q : Int)) (n := 16) (m := 16) (a := b) (by omega) (by omega) (by omega) (by omega)
      have wq : IntKind.i64.wrap ((q : Int) * b) = (q : Int) * b := IntWalk.i64_in _ (by omega)
      by_cases hqb : (q : Int) * b < 16
      rotate_left
      · have q1 : decide ((q : Int) * b < 16) = false := decide_eq_false hqb
        have HE1 : Hid (AV = andF O (upK xs ((t + 1) * 1024))) := Lib.hid (by rw [HE.out]; exact end_chan h2 HX.out ht6 hq (by omega))
        clear HE mq hqb
        go_wp2_with fail
        go_roundw
        case rel => exact ⟨t + 1, by omega, by go_num, Ao, O, co, rfl, OO, NN, HE1, Lib.hid (by have := HOL.out; omega)⟩
        case measure => simp [intOf]; omega
      have q1 : decide ((q : Int) * b < 16) = true := decide_eq_true hqb
      have hq6 : q < 16 := by have := Int.mul_le_mul_of_nonneg_left h2 (show (0 : Int) ≤ (q : Int) by omega); omega
      clear mq
      go_wp2_with fail
      clear q1 wq
      go_loopw [11, 12] (fun v p wr => ∃ (k : Nat) (Aw : Option Addr) (L : List Vr) (cw : Nat), k ≤ l.length ∧ p = .int .i64 (k : Int) ∧ v = .slice Aw L.length cw ∧ Hid (OS6 w.heap.size wr (.slice Aw L.length cw) L) ∧ Hid (L = (xs.take k).filter (tcB t q)) ∧ Hid (OV w.heap.size wr (.slice Ao O.length co) O) ∧ Hid (Below w.heap.size w wr)) (fun _ p _ => l.length - (intOf p).toNat)
      case atStart => exact ⟨0, none, [], 0, Nat.zero_le _, rfl, rfl, Lib.hid (OG.nil _ _ _ _ _), Lib.hid rfl, OO, NN⟩
      case round =>
        clear NN OO
        obtain ⟨k, Aw, L, cw, hk, rfl, rfl, OW, HLF, OO, NN⟩ := hrel
        by_cases hlt : l.length ≤ k
        rotate_left
        · replace hlt : k < l.length := by omega
          have HT := Lib.hid (filter_take' (l := xs) (p := tcB t q) (show k < xs.length by omega))
          rw [← HLF.out, HAT.out k hlt] at HT
          have hlen : L.length ≤ 200 := by rw [HLF.out]; exact own_len (by omega)
          have hrb := rowB_facts (HLR.out k hlt)
          obtain ⟨b8, off, eA, bl, a0, a1, a2, a3, a4, a5, a6, a7⟩ := RT.at_ HL.out hlt
          rw [← rowAt_lt hlt] at a0 a1 a2 a3 a4 a5 a6 a7
          generalize rowAt l k = r at *
          subst eA
          have lb := Nat.lt_of_lt_of_le bl NN.out.size
          replace a0 := (NN.out.cell (p := ⟨b8, off + k * 8, none⟩) bl).trans a0
          replace a1 := (NN.out.cell (p := ⟨b8, off + k * 8 + 1, none⟩) bl).trans a1
          replace a2 := (NN.out.cell (p := ⟨b8, off + k * 8 + 2, none⟩) bl).trans a2
          replace a3 := (NN.out.cell (p := ⟨b8, off + k * 8 + 3, none⟩) bl).trans a3
          replace a4 := (NN.out.cell (p := ⟨b8, off + k * 8 + 4, none⟩) bl).trans a4
          replace a5 := (NN.out.cell (p := ⟨b8, off + k * 8 + 5, none⟩) bl).trans a5
          replace a6 := (NN.out.cell (p := ⟨b8, off + k * 8 + 6, none⟩) bl).trans a6
          replace a7 := (NN.out.cell (p := ⟨b8, off + k * 8 + 7, none⟩) bl).trans a7
          have hkc : k < c := by omega
          have SW : Hid (w.heap.size ≤ wr.heap.size) := Lib.hid NN.out.size
          have t1 := quo_bd hrb.1 hrb.2.1 (show 1 ≤ a by omega)
          have t2 := quo_bd hrb.2.2.1 hrb.2.2.2.1 (show 1 ≤ b by omega)
          rw [← Int.tdiv_eq_ediv_of_nonneg hrb.1] at t1
          rw [← Int.tdiv_eq_ediv_of_nonneg hrb.2.2.1] at t2
          obtain ⟨x1, hx1⟩ : ∃ x, r.t.tdiv a = x := ⟨_, rfl⟩
          obtain ⟨x2, hx2⟩ : ∃ x, r.c.tdiv b = x := ⟨_, rfl⟩
          have HTC : Hid (tcB t q (avT a b r) = (decide (x1 = (t : Int)) && decide (x2 = (q : Int)))) := Lib.hid (by rw [← hx1, ← hx2]; rfl)
          rw [hx1] at t1
          rw [hx2] at t2
          have w1 : IntKind.i64.wrap x1 = x1 := IntWalk.i64_in _ (by omega)
          have w2 : IntKind.i64.wrap x2 = x2 := IntWalk.i64_in _ (by omega)
          have na : a ≠ 0 := by omega
          have nb : b ≠ 0 := by omega
          by_cases hh : x1 = (t : Int) ∧ x2 = (q : Int)
          · obtain ⟨e1, e2⟩ := hh
            have hs : tcB t q (avT a b r) = true := by rw [HTC.out]; simp [e1, e2]
            rw [if_pos hs] at HT
            have q1 : (x1 == (t : Int)) = true := by simpa using e1
            have q2 : (x2 == (q : Int)) = true := by simpa using e2
            clear hs e1 e2 HTC
            go_wp2_with (at_builtin; refine wpList_gapp tyS rfl _ _ rfl w.heap.size _ L rfl (some ⟨wr.heap.size, 0, none⟩) 1 1 [avT a b r] rfl (OW.out.next (Bal (Below.refl _ _) _)) rfl (RV6.one (r := avT a b r) (blk_new wr _)) (show L.length + 1 ≤ 100000 by omega) (by rw [World.size_alloc]; have := SW.out; omega) ?_; intro v1 w1 o1 q1 t1; obtain ⟨A1, c1, hv1, -⟩ := OG.form o1; rw [show (L ++ [avT a b r]).length = L.length + 1 by simp] at hv1; subst hv1; have B1 := Lib.hid ((NN.out.alloc SW.out _).trans q1); have O1 := Lib.hid o1; have T1 := Lib.hid ((OO.out.next (Bal (Below.refl wr.heap.size wr) _)).oth t1 (by decide)); clear o1 q1 t1)
            exact ⟨⟨k + 1, A1, L ++ [avT a b r], c1, by omega, by go_num, by simp, Lib.hid (by simpa using O1.out), Lib.hid HT.out.symm, T1, B1⟩, by simp [intOf]; omega⟩
          · have hs : ¬ tcB t q (avT a b r) = true := by rw [HTC.out, Bool.and_eq_true, decide_eq_true_eq, decide_eq_true_eq]; exact hh
            rw [if_neg hs, List.append_nil] at HT
            clear hs HTC
            by_cases e1 : x1 = (t : Int)
            · have q1 : (x1 == (t : Int)) = true := by simpa using e1
              have q2 : (x2 == (q : Int)) = false := by rw [beq_eq_false_iff_ne]; omega
              clear hh e1
              go_wp2_with fail
              exact ⟨⟨k + 1, Aw, L, cw, by omega, by go_num, rfl, OW, Lib.hid HT.out.symm, OO, NN⟩, by simp [intOf]; omega⟩
            · have q1 : (x1 == (t : Int)) = false := by rw [beq_eq_false_iff_ne]; omega
              clear hh e1
              go_wp2_with fail
              exact ⟨⟨k + 1, Aw, L, cw, by omega, by go_num, rfl, OW, Lib.hid HT.out.symm, OO, NN⟩, by simp [intOf]; omega⟩
        have e : k = l.length := by omega
        subst e
        replace HLF : Hid (L = xs.filter (tcB t q)) := Lib.hid (by rw [HLF.out, ← hxl, List.take_length])
        clear hk hlt HAT HLR
        have hLn : L.length ≤ 200 := by rw [HLF.out]; exact Nat.le_trans (List.length_filter_le _ _) (by omega)
        have HLV : Hid (∀ r ∈ L, rowB r = true) := Lib.hid (fun r hr => HXR.out r (by rw [HLF.out] at hr; exact (List.mem_filter.1 hr).1))
        go_wp2_with fail
        go_loopw [8, 13] (fun v p wr => ∃ i : Nat, i ≤ 8 ∧ p = .int .i64 (i : Int) ∧ ∃ (Ao : Option Addr) (O : List Vr) (co : Nat), v = .slice Ao O.length co ∧ Hid (OV w.heap.size wr (.slice Ao O.length co) O) ∧ Hid (Below w.heap.size w wr) ∧ Hid (AV = andF O (upK xs (t * 1024 + q * 64 + i * 8))) ∧ Hid (O.length ≤ t * 1024 + q * 64 + i * 8) ∧ Hid (OS6 w.heap.size wr (.slice Aw L.length cw) L) ∧ Hid (0 < i → 0 < L.length)) (fun _ p _ => 8 - (intOf p).toNat)
        case atStart => exact ⟨0, by omega, rfl, Ao, O, co, rfl, OO, NN, Lib.hid (by simpa using HE.out), Lib.hid (by simpa using HOL.out), OW, Lib.hid (fun h => absurd h (by omega))⟩
        case round =>
          clear NN HE OO HOL OW
          obtain ⟨i, hi, rfl, Ao, O, co, rfl, OO, NN, HE, HOL, OW, HIL⟩ := hrel
          have hil := HIL.out
          have hex : 8 ≤ i ∨ (i = 0 ∧ L.length = 0) ∨ (i < 8 ∧ 0 < L.length) := by omega
          clear hil
          rcases hex with h8 | ⟨h7, h8⟩ | ⟨h8, h9⟩
          · have e : i = 8 := by omega
            subst e
            have HE1 : Hid (AV = andF O (upK xs (t * 1024 + (q + 1) * 64))) := Lib.hid (by rw [HE.out, show t * 1024 + q * 64 + 8 * 8 = t * 1024 + (q + 1) * 64 by omega])
            clear HE HIL
            go_wp2_with fail
            go_roundw
            case rel => exact ⟨q + 1, by omega, by go_num, Ao, O, co, rfl, OO, NN, HE1, Lib.hid (by have := HOL.out; omega)⟩
            case measure => simp [intOf]; omega
          · subst h7
            have HE1 : Hid (AV = andF O (upK xs (t * 1024 + (q + 1) * 64))) := Lib.hid (by rw [HE.out, Nat.zero_mul, Nat.add_zero]; exact end_none HXR.out ht6 hq6 (by rw [← HLF.out]; exact List.eq_nil_of_length_eq_zero h8))
            clear HE HIL
            have qL : decide (0 < (L.length : Int)) = false := decide_eq_false (by omega)
            go_wp2_with fail
            go_roundw
            case rel => exact ⟨q + 1, by omega, by go_num, Ao, O, co, rfl, OO, NN, HE1, Lib.hid (by have := HOL.out; omega)⟩
            case measure => simp [intOf]; omega
          have qL : decide (0 < (L.length : Int)) = true := decide_eq_true (by omega)
          have qi : decide ((i : Int) < 8) = true := by simp; omega
          replace HE : Hid (AV = andF O (upK xs (t * 1024 + q * 64 + i * 8 + (i + 1)))) := Lib.hid (by rw [HE.out]; exact end_low HXR.out (by omega) h8 (by omega))
          clear HIL
          go_wp2_with fail
          clear qL qi
          go_loopw [8, 14] (fun v p wr => ∃ j : Nat, i + 1 ≤ j ∧ j ≤ 8 ∧ p = .int .i64 (j : Int) ∧ ∃ (Ao : Option Addr) (O : List Vr) (co : Nat), v = .slice Ao O.length co ∧ Hid (OV w.heap.size wr (.slice Ao O.length co) O) ∧ Hid (Below w.heap.size w wr) ∧ Hid (AV = andF O (upK xs (t * 1024 + q * 64 + i * 8 + j))) ∧ Hid (O.length ≤ t * 1024 + q * 64 + i * 8 + j) ∧ Hid (OS6 w.heap.size wr (.slice Aw L.length cw) L)) (fun _ p _ => 8 - (intOf p).toNat)
          case atStart => exact ⟨i + 1, Nat.le_refl _, by omega, by go_num, Ao, O, co, rfl, OO, NN, HE, Lib.hid (by have := HOL.out; omega), OW⟩
          case round =>
            clear NN HE OO HOL OW
            obtain ⟨j, hj0, hj, rfl, Ao, O, co, rfl, OO, NN, HE, HOL, OW⟩ := hrel
            by_cases hj8 : 8 ≤ j
            · have e : j = 8 := by omega
              subst e
              have HE1 : Hid (AV = andF O (upK xs (t * 1024 + q * 64 + (i + 1) * 8))) := Lib.hid (by rw [HE.out, show t * 1024 + q * 64 + i * 8 + 8 = t * 1024 + q * 64 + (i + 1) * 8 by omega])
              clear HE
              go_wp2_with fail
              go_roundw
              case rel => exact ⟨i + 1, by omega, by go_num, Ao, O, co, rfl, OO, NN, HE1, Lib.hid (by have := HOL.out; omega), OW, Lib.hid (fun _ => h9)⟩
              case measure => simp [intOf]; omega
            have qj : decide ((j : Int) < 8) = true := by simp; omega
            obtain ⟨hcw, hcw', -⟩ := OW.out.all
            have HGF : Hid (∀ r ∈ L.filter (selB i j), r ∈ L ∧ r.t = (t : Int) ∧ r.c = (q : Int) ∧ r.i = (i : Int) ∧ r.j = (j : Int)) := Lib.hid (fun r hr => ⟨(List.mem_filter.1 hr).1, by rw [HLF.out] at hr; exact (grp_facts hr).2⟩)
            have HGK : Hid (L.filter (selB i j) = byK xs ((t * 1024 + q * 64 + i * 8 + j : Nat) : Int)) := Lib.hid (by rw [HLF.out, own_key HXR.out _ _ _ _ (by omega)]; congr 1; omega)
            have HGN : Hid ((L.filter (selB i j)).length ≤ 200) := Lib.hid (Nat.le_trans (List.length_filter_le _ _) hLn)
            have COF := Lib.hid (fun W (hr : RV6 W Aw L) => rof_calls (i : Int) (j : Int) hr hcw hcw' hLn (fun r hr => row_vis (HLV.out r hr)))
            generalize L.filter (selB i j) = G at *
            have HGV : Hid (∀ r ∈ G, rowB r = true) := Lib.hid (fun r hr => HLV.out r (HGF.out r hr).1)
            have n6 : t * 1024 + q * 64 + i * 8 + j < 65536 := by omega
            have HSK := Lib.hid (fun h => up_skip (xs := xs) n6 h O)
            have HBD := Lib.hid (fun h h' => up_bad (xs := xs) n6 h h' O)
            have HGO := Lib.hid (fun h => up_good (xs := xs) n6 h O)
            rw [← HGK.out] at HSK HBD HGO
            go_wp2_with fail
            clear qj
            refine (COF.out _ OW.out.all.2.2).mono ?_
            rintro e w9 ⟨vG, rfl, og, hb⟩
            have OGG := Lib.hid og
            clear og
            replace NN := Lib.hid (Bgo NN.out hb)
            replace OO := Lib.hid (OG.next OO.out hb)
            replace OW := Lib.hid (OG.next OW.out hb)
            clear hb COF
            obtain ⟨Ag, cg, rfl, hcg, hcg', -, -⟩ := OGG.out.form
            go_wp2_with fail
            have HME := meanF_err (fun r hr => row_vis (HGV.out r hr)) (show G.length ≤ 1000 by have := HGN.out; omega)
            have CWG := Lib.hid (fun W (hr : RV6 W Ag G) => rweight_calls hr hcg hcg' HGN.out (fun r hr => row_vis (HGV.out r hr)))
            have CMG := Lib.hid (fun W (hr : OS6 0 W (.slice Ag G.length cg) G) (hw : wgt G ≠ 0) => rmean_calls hr HGN.out HGV.out (fun r hr => ⟨(HGF.out r hr).2.2.2.1.trans (HGF.out _ (hdV_mem (wgt_ne hw))).2.2.2.1.symm, (HGF.out r hr).2.2.2.2.trans (HGF.out _ (hdV_mem (wgt_ne hw))).2.2.2.2.symm⟩) hw)
            have HHD : Hid (wgt G ≠ 0 → (hdV G).t = (t : Int) ∧ (hdV G).c = (q : Int)) := Lib.hid (fun hw => ⟨(HGF.out _ (hdV_mem (wgt_ne hw))).2.1, (HGF.out _ (hdV_mem (wgt_ne hw))).2.2.1⟩)
            have HM0 : Hid (wgt G = 0 → (meanF G).1 = 18) := Lib.hid (fun h => by unfold meanF; rw [if_pos h])
            refine (CWG.out _ OGG.out.all.2.2).mono ?_
            rintro e w3 ⟨rfl, hb⟩
            replace NN := Lib.hid (Bgo NN.out hb)
            replace OO := Lib.hid (OG.next OO.out hb)
            replace OW := Lib.hid (OG.next OW.out hb)
            replace OGG := Lib.hid (OG.next OGG.out hb)
            clear hb
            by_cases hw : wgt G = 0
            · have HE1 := Lib.hid (HE.out.trans (HSK.out (HM0.out hw)))
              have qw : (wgt G == 0) = true := by simpa using hw
              clear HSK HBD HGO HE CWG CMG HME HHD HM0 OGG
              go_wp2_with fail
              go_roundw
              case rel => exact ⟨j + 1, by omega, by omega, by go_num, Ao, O, co, rfl, OO, NN, HE1, Lib.hid (by have := HOL.out; omega), OW⟩
              case measure => simp [intOf]; omega
            have qw : (wgt G == 0) = false := by simpa using hw
            have HH := Lib.hid (HHD.out hw)
            have CM := Lib.hid (fun W hr => CMG.out W hr hw)
            have HMC : Hid (((meanF G).1 = 16) ∨ ((meanF G).1 = 0 ∧ MeanOk G (meanF G).2)) := Lib.hid (by rcases HME with h | h | h; exact absurd h.2 hw; exact .inl h.1; exact .inr h)
            clear HHD CMG HME HM0 CWG
            generalize meanF G = MG at *
            obtain ⟨me, mv⟩ := MG
            simp only at HSK HBD HGO HMC
            go_wp2_with fail
            refine (CM.out _ (OGG.out.mono (Nat.zero_le _))).mono ?_
            rintro e w4 ⟨rfl, hb⟩
            replace NN := Lib.hid (Bgo NN.out hb)
            replace OO := Lib.hid (OG.next OO.out hb)
            replace OW := Lib.hid (OG.next OW.out hb)
            replace OGG := Lib.hid (OG.next OGG.out hb)
            clear hb
            clear OGG CM qw
            go_upto_region 27 with fail
            have HB := Lib.hid (show Below w4.heap.size w4 (w4.alloc (.cells #[.int .i64 mv.i, .int .i64 mv.j, .int .i64 mv.re, .int .i64 mv.im, .int .i64 mv.dn, .int .i64 mv.n] 26)) from (Bal (Below.refl _ _) _))
            have MX : Hid ((w4.alloc (.cells #[.int .i64 mv.i, .int .i64 mv.j, .int .i64 mv.re, .int .i64 mv.im, .int .i64 mv.dn, .int .i64 mv.n] 26)).heap[w4.heap.size]? = some (.cells #[.int .i64 mv.i, .int .i64 mv.j, .int .i64 mv.re, .int .i64 mv.im, .int .i64 mv.dn, .int .i64 mv.n] 26)) := Lib.hid (blk_new w4 _)
            have LT_MX : Hid (w.heap.size ≤ w4.heap.size) := Lib.hid NN.out.size
            replace NN := Lib.hid (Bgo NN.out HB.out)
            replace OO := Lib.hid (OG.next OO.out HB.out)
            replace OW := Lib.hid (OG.next OW.out HB.out)
            clear HB
            generalize (w4.alloc (.cells #[.int .i64 mv.i, .int .i64 mv.j, .int .i64 mv.re, .int .i64 mv.im, .int .i64 mv.dn, .int .i64 mv.n] 26)) = W5 at *
            generalize w4.heap.size = gM at *
            rcases HMC.out with h16 | ⟨h0, hok⟩
            · subst h16
              have HE1 := Lib.hid (HE.out.trans (HBD.out (by decide) (by decide)))
              have hpe : pe = 16 := by rw [HRE.out, HE1.out]
              have hpl : pl = [] := by rw [HRL.out, if_neg (by rw [hpe]; decide)]
              clear HSK HBD HGO HE HMC
              go_wp2_with fail
              go_ret2
              exact ⟨.slice none 0 0, by rw [hpe]; rfl, by rw [hpl]; exact OG.nil _ _ _ _ _, NN.out⟩
            subst h0
            have hS9 : mv = ({ mv with t := (t : Int), c := (q : Int) } : Vr) := by have h1 := hok.t; have h2 := hok.c; rw [HH.out.1] at h1; rw [HH.out.2] at h2; obtain ⟨tt, cc, i, j, re, im, dn, n⟩ := mv; simp only at h1 h2; subst h1 h2; rfl
            have HE1 : Hid (AV = andF (O ++ [({ mv with t := (t : Int), c := (q : Int) } : Vr)]) (upK xs (t * 1024 + q * 64 + i * 8 + j + 1))) := Lib.hid (by rw [← hS9]; exact HE.out.trans (HGO.out rfl))
            clear HSK HBD HGO hS9 hok HE HMC HH
            have c_MX_0 := blk_cell MX.out 0 _ rfl
            have f_MX_0 := blk_frozen MX.out 0
            have c_MX_1 := blk_cell MX.out 1 _ rfl
            have f_MX_1 := blk_frozen MX.out 1
            have c_MX_2 := blk_cell MX.out 2 _ rfl
            have f_MX_2 := blk_frozen MX.out 2
            have c_MX_3 := blk_cell MX.out 3 _ rfl
            have f_MX_3 := blk_frozen MX.out 3
            have c_MX_4 := blk_cell MX.out 4 _ rfl
            have f_MX_4 := blk_frozen MX.out 4
            have c_MX_5 := blk_cell MX.out 5 _ rfl
            have f_MX_5 := blk_frozen MX.out 5
            have l_MX := blk_lt MX.out
            have WS : Hid (w.heap.size ≤ W5.heap.size) := Lib.hid NN.out.size
            have HO2 : O.length + 1 ≤ 100000 := by have := HOL.out; omega
            go_wp2_with (at_builtin; refine wpList_gapp tyV rfl _ _ rfl w.heap.size _ O rfl (some ⟨W5.heap.size, 0, none⟩) 1 1 [({ mv with t := (t : Int), c := (q : Int) } : Vr)] rfl (OO.out.next (Bal (Below.refl _ _) _)) rfl (RT.one (blk_new W5 _)) HO2 ?_ ?_; (rw [World.size_alloc]; have := WS.out; omega); intro v1 w8 o1 q1 t1; obtain ⟨A1, c1, hv1, -⟩ := OG.form o1; rw [show (O ++ [({ mv with t := (t : Int), c := (q : Int) } : Vr)]).length = O.length + 1 by simp] at hv1; subst hv1; have OO1 := Lib.hid o1; have TT := Lib.hid t1; have QQ := Lib.hid q1; clear o1 q1 t1)
            clear c_MX_0 f_MX_0 c_MX_1 f_MX_1 c_MX_2 f_MX_2 c_MX_3 f_MX_3 c_MX_4 f_MX_4 c_MX_5 f_MX_5 l_MX
            have OW1 := Lib.hid ((OW.out.next (Bal (Below.refl W5.heap.size W5) (.cells #[.int .i64 (t : Int), .int .i64 (q : Int), .int .i64 mv.i, .int .i64 mv.j, .int .i64 mv.re, .int .i64 mv.im, .int .i64 mv.dn, .int .i64 mv.n] 28))).oth TT.out (by decide))
            have NN1 := Lib.hid ((Bgo NN.out (Bal (Below.refl W5.heap.size W5) (.cells #[.int .i64 (t : Int), .int .i64 (q : Int), .int .i64 mv.i, .int .i64 mv.j, .int .i64 mv.re, .int .i64 mv.im, .int .i64 mv.dn, .int .i64 mv.n] 28))).trans QQ.out)
            exact ⟨⟨j + 1, by omega, by omega, by go_num, A1, O ++ [({ mv with t := (t : Int), c := (q : Int) } : Vr)], c1, by simp, Lib.hid (by simpa using OO1.out), NN1, HE1, Lib.hid (by have := HOL.out; simp; omega), OW1⟩, by simp [intOf]; omega⟩
end Go.Proofs.Ytbbnkclajpaghaa
