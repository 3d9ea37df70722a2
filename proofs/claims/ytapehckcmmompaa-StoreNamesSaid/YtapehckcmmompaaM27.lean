/- Several texts in one. -/
import Derived.Test.YtapehckcmmompaaM04
namespace Go.Proofs.Ytapehckcmmompaa
open Go.ChangeShapes Go.WideShapes Go.ChangeAt Go.RowKit Gf
set_option linter.unusedVariables false
set_option maxRecDepth 100000
attribute [local go_sem ↓] Go.wp_at_zero Go.wp_at_succ
theorem fndTo_le (D M : Nat) (m : List (List Nat)) (k : Nat) : (fndTo D M m k).1 ≤ k ∧ (fndTo D M m k).2 ≤ k := by
 induction k with
 | zero => exact ⟨Nat.le_refl _, Nat.le_refl _⟩
 | succ k ih =>
  simp only [fndTo]
  split
  ·exact ⟨by simp, by simp; omega⟩
  ·omega
set_option maxHeartbeats 2000000 in
theorem find_calls (D M : Int) (A : Option Addr) (c B : Nat) (m : List (List Nat)) (w : World) (hn : m.length ≤ c) (hc : c ≤ 9223372036854775807) (hs : RMA B w A m) :
  Calls Try.prog 59 #[Sv D M (.slice A m.length c)] w fun e w' => e = .returned (.tuple #[.int .i64 (fndV D M m).1, .int .i64 (fndV D M m).2]) ∧ Below w.heap.size w w' := by
 have HS := Lib.hid hs
 clear hs
 have CC := Lib.hid (fun W (h : RMA B W A m) => check_calls D M A c B m W hn hc h)
 have LC := Lib.hid (fun W (h : RMA B W A m) => lost_calls D M A c B m W hn hc h)
 by_cases ck : chkE D M m = 0
 ·obtain ⟨OKS, hD, hM⟩ := chkE_ok ck
  have F0 : Hid (fndV D M m = if 0 < lostN m then ((0 : Int), (2 : Int)) else if sndB D.toNat M.toNat m then ((-1 : Int), (0 : Int)) else if (fndTo D.toNat M.toNat m m.length).2 ≠ 1 then ((0 : Int), (6 : Int)) else (((fndTo D.toNat M.toNat m m.length).1 : Int), (0 : Int))) := Lib.hid (by unfold fndV; rw [if_neg (by rw [ck]; decide)])
  generalize fndV D M m = fv at *
  generalize D.toNat = D' at *
  generalize M.toNat = M' at *
  subst hD hM
  have SC := Lib.hid (fun W (h : RMA B W A m) => sound_calls A c B D' M' (szL m) m W hn hc h OKS.q)
  have RC := Lib.hid (fun k W A' c' (k1 : (keepL m (oneB k)).length ≤ c') (k2 : c' ≤ 9223372036854775807) (h : RMA w.heap.size W A' (keepL m (oneB k))) => restored_calls A' c' w.heap.size D' M' (szL m) (keepL m (oneB k)) W k1 k2 h (OKS.keep _))
  have hm12 : m.length ≤ 12 := by have := OKS.len; have := OKS.d8; have := OKS.m4; omega
  have LE : Hid (∀ l ∈ m, l.length ≤ 100) := Lib.hid (fun l hl => by have h := OKS.each l hl; have := OKS.s64; omega)
  simp only [keepL_len] at RC
  rw [ck] at CC
  have FT : Hid (∀ k, fndTo D' M' m (k + 1) = if rstE D' M' (keepL m (oneB k)) = 0 then (k, (fndTo D' M' m k).2 + 1) else fndTo D' M' m k) := Lib.hid (fun k => rfl)
  have FL := Lib.hid (fun k => fndTo_le D' M' m k)
  generalize lostN m = z at *
  generalize sndB D' M' m = sb at *
  clear ck OKS
  go_enter Try.func59, Try.ntmps59
  go_wp2_with fail
  refine (CC.out _ (HS.out.next (Bal (Below.refl _ _) _))).mono ?_
  rintro e w1 ⟨rfl, hb1⟩
  have N1 : Hid (Below w.heap.size w w1) := Lib.hid (Bgo (Bal (Below.refl _ _) _) hb1)
  have SB1 : Hid (w1.heap[w.heap.size]? = some (.cells #[.int .i64 D', .int .i64 M', .slice A m.length c] 54)) := Lib.hid (blk_next hb1 (blk_new w _))
  have s0 : w1.cell? ⟨w.heap.size, 0, none⟩ = some (.int .i64 D') := blk_cell SB1.out 0 _ rfl
  have s1 : w1.cell? ⟨w.heap.size, 1, none⟩ = some (.int .i64 M') := blk_cell SB1.out 1 _ rfl
  have s2 : w1.cell? ⟨w.heap.size, 2, none⟩ = some (.slice A m.length c) := blk_cell SB1.out 2 _ rfl
  clear hb1
  go_wp2_with fail
  refine (LC.out _ (HS.out.next N1.out)).mono ?_
  rintro e w2 ⟨rfl, hb2⟩
  have N2 : Hid (Below w.heap.size w w2) := Lib.hid (Bgo N1.out hb2)
  have SB2 := Lib.hid (blk_next hb2 SB1.out)
  clear hb2 s0 s1 s2 N1 SB1
  by_cases hz : 0 < z
  ·have FF : Hid (fv = (0, 2)) := Lib.hid (by rw [F0.out, if_pos hz])
   go_wp2_with fail
   go_ret2
   exact ⟨by rw [FF.out]; rfl, N2.out⟩
  ·have F1 : Hid (fv = if sb then ((-1 : Int), (0 : Int)) else if (fndTo D' M' m m.length).2 ≠ 1 then ((0 : Int), (6 : Int)) else (((fndTo D' M' m m.length).1 : Int), (0 : Int))) := Lib.hid (by rw [F0.out, if_neg hz])
   have s0 : w2.cell? ⟨w.heap.size, 0, none⟩ = some (.int .i64 D') := blk_cell SB2.out 0 _ rfl
   have s1 : w2.cell? ⟨w.heap.size, 1, none⟩ = some (.int .i64 M') := blk_cell SB2.out 1 _ rfl
   have s2 : w2.cell? ⟨w.heap.size, 2, none⟩ = some (.slice A m.length c) := blk_cell SB2.out 2 _ rfl
   go_wp2_with fail
   refine (SC.out _ (HS.out.next N2.out)).mono ?_
   rintro e w3 ⟨rfl, hb3⟩
   have N3 : Hid (Below w.heap.size w w3) := Lib.hid (Bgo N2.out hb3)
   have SB3 := Lib.hid (blk_next hb3 SB2.out)
   clear hb3 s0 s1 s2 N2 SB2 F0
   cases sb
   ·have F2 : Hid (fv = if (fndTo D' M' m m.length).2 ≠ 1 then ((0 : Int), (6 : Int)) else (((fndTo D' M' m m.length).1 : Int), (0 : Int))) := Lib.hid F1.out
    clear F1
    have s2 : w3.cell? ⟨w.heap.size, 2, none⟩ = some (.slice A m.length c) := blk_cell SB3.out 2 _ rfl
    go_wp2_with fail
    clear s2
    go_loopw [5, 6, 24] (fun s5 s6 i wr => ∃ k : Nat, k ≤ m.length ∧ i = .int .i64 k ∧ s5 = .int .i64 ((fndTo D' M' m k).1 : Nat) ∧ s6 = .int .i64 ((fndTo D' M' m k).2 : Nat) ∧ Hid (Below w.heap.size w wr) ∧ Hid (wr.heap[w.heap.size]? = some (.cells #[.int .i64 D', .int .i64 M', .slice A m.length c] 54))) (fun _ _ i _ => m.length - (intOf i).toNat)
    case atStart => exact ⟨0, by omega, rfl, rfl, rfl, N3, SB3⟩
    case round =>
     clear N3 SB3
     obtain ⟨k, hk, rfl, rfl, rfl, N, SB⟩ := hrel
     have fl := FL.out k
     by_cases hlt : k < m.length
     ·have FK := Lib.hid (FT.out k)
      have KL : Hid ((keepL m (oneB k)).length = m.length) := Lib.hid (keepL_len _ _)
      have RK := Lib.hid (RC.out k)
      have WC : Hid (∀ W : World, Below w.heap.size w W → W.heap[wr.heap.size]? = some (.cells #[.int .i64 (k : Int)] 3) → Calls Try.prog 76 #[Sv D' M' (.slice A m.length c), .func (.func 77) #[] #[.pointer (some ⟨wr.heap.size, 0, none⟩)]] W (SPost W ((D' : Int), (M' : Int), keepL m (oneB k)))) := Lib.hid (fun W hW hk' => without_calls D' M' A c B 77 (.pointer (some ⟨wr.heap.size, 0, none⟩)) (oneB k) m W hn hc (by omega) (HS.out.next hW) LE.out call_find1 (fun W' hW' x hx => find1_calls x k wr.heap.size W' (blk_cell (blk_next hW' hk') 0 _ rfl)))
      have s0 : wr.cell? ⟨w.heap.size, 0, none⟩ = some (.int .i64 D') := blk_cell SB.out 0 _ rfl
      have s1 : wr.cell? ⟨w.heap.size, 1, none⟩ = some (.int .i64 M') := blk_cell SB.out 1 _ rfl
      have s2 : wr.cell? ⟨w.heap.size, 2, none⟩ = some (.slice A m.length c) := blk_cell SB.out 2 _ rfl
      have hz0 : w.heap.size < wr.heap.size := blk_lt SB.out
      generalize keepL m (oneB k) = kl at *
      generalize hft : fndTo D' M' m k = ft at *
      obtain ⟨fa, fb⟩ := ft
      have HFT := Lib.hid hft
      clear hft
      go_wp2_with fail
      refine (WC.out _ (Bal N.out _) (blk_new _ _)).mono ?_
      rintro e w4 ⟨v, rfl, ⟨us, ho⟩, hb4⟩
      obtain ⟨Av, cv, rfl, hv1, hv2, _⟩ := own_form ho.top
      have N4 := Lib.hid (Bgo (Bal N.out _) hb4)
      have SB4 := Lib.hid (blk_next hb4 (blk_alloc SB.out _))
      have KB4 : Hid (w4.heap[wr.heap.size]? = some (.cells #[.int .i64 (k : Int)] 3)) := Lib.hid (blk_next hb4 (blk_new wr _))
      have RO : Hid (RMA w.heap.size w4 Av kl) := Lib.hid ((ho.mono (B' := w.heap.size) (Nat.le_trans N.out.size (by simp))).rma)
      rw [show ((D' : Int), (M' : Int), kl).2.2.length = m.length from KL.out] at hv1
      simp only [KL.out]
      clear ho hb4 s0 s1 s2
      go_wp2_with fail
      refine (RK.out _ Av cv hv1 hv2 (RO.out.next (Bal (Below.refl _ _) _))).mono ?_
      generalize rstE D' M' kl = er at *
      generalize rstS D' M' kl = rs at *
      obtain ⟨r1, r2, r3⟩ := rs
      rintro e w5 ⟨v5, rfl, ⟨us5, ho5⟩, hb5⟩
      obtain ⟨A5, c5, rfl, _, _, _⟩ := own_form ho5.top
      have N5 := Lib.hid (Bgo (Bal N4.out _) hb5)
      have SB5 := Lib.hid (blk_next hb5 (blk_alloc SB4.out _))
      have KB5 : Hid (w5.heap[wr.heap.size]? = some (.cells #[.int .i64 (k : Int)] 3)) := Lib.hid (blk_next hb5 (blk_alloc KB4.out _))
      have kc : w5.cell? ⟨wr.heap.size, 0, none⟩ = some (.int .i64 (k : Int)) := blk_cell KB5.out 0 _ rfl
      have hz5 : wr.heap.size < w5.heap.size := blk_lt KB5.out
      clear ho5 hb5
      by_cases he : er = 0
      ·have q : (er == 0) = true := by rw [he]; rfl
       have FK2 : Hid (fndTo D' M' m (k + 1) = (k, fb + 1)) := Lib.hid (by rw [FK.out, if_pos he])
       clear he
       go_wp2_with fail
       refine ⟨⟨k + 1, by omega, by go_num, ?_, ?_, Lib.hid (Bal N5.out _), Lib.hid (blk_alloc SB5.out _)⟩, by simp [intOf]; omega⟩
       ·rw [FK2.out]
       ·rw [FK2.out]; go_num
      ·have q : (er == 0) = false := by rw [beq_eq_false_iff_ne]; exact he
       have FK2 : Hid (fndTo D' M' m (k + 1) = (fa, fb)) := Lib.hid (by rw [FK.out, if_neg he])
       clear he
       go_wp2_with fail
       refine ⟨⟨k + 1, by omega, by go_num, ?_, ?_, Lib.hid (Bal N5.out _), Lib.hid (blk_alloc SB5.out _)⟩, by simp [intOf]; omega⟩
       ·rw [FK2.out]
       ·rw [FK2.out]
     ·obtain rfl : k = m.length := by omega
      generalize (fndTo D' M' m m.length).1 = fa at *
      generalize (fndTo D' M' m m.length).2 = fb at *
      by_cases h1 : fb = 1
      ·have q : ((fb : Int) != 1) = false := by rw [h1]; rfl
       have FF : Hid (fv = ((fa : Int), (0 : Int))) := Lib.hid (by rw [F2.out, if_neg (by omega)])
       clear h1
       go_wp2_with fail
       go_ret2
       exact ⟨by rw [FF.out]; rfl, N.out⟩
      ·have q : ((fb : Int) != 1) = true := by rw [bne_iff_ne]; omega
       have FF : Hid (fv = ((0 : Int), (6 : Int))) := Lib.hid (by rw [F2.out, if_pos h1])
       clear h1
       go_wp2_with fail
       go_ret2
       exact ⟨by rw [FF.out]; rfl, N.out⟩
   ·have FF : Hid (fv = (-1, 0)) := Lib.hid F1.out
    go_wp2_with fail
    go_ret2
    exact ⟨by rw [FF.out]; rfl, N3.out⟩
 ·have FF : Hid (fndV D M m = ((0 : Int), chkE D M m)) := Lib.hid (by unfold fndV; rw [if_pos ck])
  have q : (chkE D M m != 0) = true := by rw [bne_iff_ne]; exact ck
  rw [FF.out]
  generalize chkE D M m = er at *
  clear ck FF
  go_enter Try.func59, Try.ntmps59
  go_wp2_with fail
  refine (CC.out _ (HS.out.next (Bal (Below.refl _ _) _))).mono ?_
  rintro e w1 ⟨rfl, hb1⟩
  go_wp2_with fail
  go_ret2
  exact ⟨rfl, Bgo (Bal (Below.refl _ _) _) hb1⟩
end Go.Proofs.Ytapehckcmmompaa
