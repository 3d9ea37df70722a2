/- Contracts of layer 45: the reference's sound and Sound. -/
import Derived.Test.YtmpmeeacdllomaaPbe
namespace Go.Proofs.Ytmpmeeacdllomaa
open Go.ChangeShapes Go.WideShapes Go.ChangeAt Go.RowKit Gf
set_option linter.unusedVariables false
set_option linter.unusedSimpArgs false
attribute [local go_sem ↓] Go.wp_at_zero Go.wp_at_succ

def rsB (D M : Nat) (m : List (List Nat)) : Bool := decide (lostN m = 0) && decide (enc (m.take D) M = m)
theorem lost_none {m : List (List Nat)} (h : lostN m = 0) : ∀ l ∈ m, l.length ≠ 0 := by
  induction m with
  | nil => intro l hl; cases hl
  | cons x m ih =>
    simp only [lostN] at h
    intro l hl
    rcases List.mem_cons.1 hl with rfl | hl
    · intro e; rw [if_pos e] at h; omega
    · exact ih (by omega) l hl
theorem dataL_whole {D M : Nat} {m : List (List Nat)} (h : lostN m = 0) (hD : D ≤ m.length) : dataL D M m = m.take D := by
  apply List.ext_getElem?
  intro i
  by_cases hi : i < D
  · obtain ⟨l, hl⟩ := get_some (show i < m.length by omega)
    rw [dataL_at hi, getD_of hl, if_neg (lost_none h l (List.mem_of_getElem? hl)), List.getElem?_take, if_pos hi, hl]
  · rw [List.getElem?_eq_none (by rw [dataL_len]; omega), List.getElem?_eq_none (by rw [List.length_take]; omega)]
theorem fitB_whole {m r : List (List Nat)} (h : lostN m = 0) (hl : m.length = r.length) : fitB m r = decide (r = m) := by
  by_cases e : r = m
  · rw [decide_eq_true e, fitB_true hl (fun j l l' h1 h2 => .inr (by rw [e, h1] at h2; injection h2))]
  · rw [decide_eq_false e]
    cases hf : fitB m r with
    | false => rfl
    | true =>
      refine absurd (List.ext_getElem? fun i => ?_) e
      by_cases hi : i < m.length
      · obtain ⟨l, h1⟩ := get_some hi
        obtain ⟨l', h2⟩ := get_some (show i < r.length by omega)
        rcases fitB_out hf h1 h2 with h3 | h3
        · exact absurd h3 (lost_none h l (List.mem_of_getElem? h1))
        · rw [h1, h2, h3]
      · rw [List.getElem?_eq_none (by omega), List.getElem?_eq_none (by omega)]
theorem sndB_eq {D M : Nat} {m : List (List Nat)} (h : Ok D M m) : sndB D M m = rsB D M m := by
  unfold sndB rsB
  by_cases hz : lostN m = 0
  · have hl := h.len
    rw [decide_eq_true hz, Bool.true_and, Bool.true_and]
    unfold rstE
    rw [if_neg (by omega), dataL_whole hz (by omega), fitB_whole hz (by rw [enc_len, List.length_take]; omega)]
    by_cases e : enc (m.take D) M = m
    · rw [decide_eq_true e, if_pos rfl]; rfl
    · rw [decide_eq_false e, if_neg (by decide)]; rfl
  · rw [decide_eq_false hz, Bool.false_and, Bool.false_and]
theorem RMA.take_ {B : Nat} {w : World} {A : Option Addr} {m : List (List Nat)} (h : RMA B w A m) (k : Nat) : RMA B w A (m.take k) := by
  obtain ⟨us, h1, h2, h3⟩ := h
  refine ⟨us.take k, by rw [List.length_take, List.length_take, h1], h2.take_ k, fun i u l hu hl => ?_⟩
  rw [List.getElem?_take] at hu hl
  split at hu
  · rename_i hi
    rw [if_pos hi] at hl
    exact h3 i u l hu hl
  · cases hu
/- an operation that is not wanted may be taken first, and changes nothing -/
theorem skip_op {P : Program} {ops : Array Oper} {Q : Exit → Act → World → Prop} {md : Region.Mode} {S : World → Prop} {oi : Oper} {fuel : Nat} {listed : Array Bool} {a : Act} {w : World} (i : Nat) (hi : ops[i]? = some oi)
    (hs : Region.noSelect ops = true) (hf : Region.free md ops listed i = true) (hr : (Region.ready md ops listed).contains i = true) (hw : Region.wanted oi (yielded ops a.tmps) = false) (ha : a.put oi.dst undef = a)
    (hQ : ∀ c a w, Q (.panic c) (a.put oi.dst undef) w → Q (.panic c) a w) (hS : S w) (h : wpAnyH P md ops Q S fuel (listed.setIfInBounds i true) a w) : wpAnyH P md ops Q S (fuel + 1) listed a w :=
  wpAnyH_take hi hs hf hr hQ (Or.inr ⟨hw, rfl⟩) hS (by rw [ha]; exact h)
/- one that yields a value, with its slot named -/
theorem take_op {P : Program} {ops : Array Oper} {Q : Exit → Act → World → Prop} {md : Region.Mode} {S : World → Prop} {oi : Oper} {fuel : Nat} {listed : Array Bool} {a : Act} {w : World} (i : Nat) (v : Value) (d : Option Nat) (hi : ops[i]? = some oi)
    (hs : Region.noSelect ops = true) (hf : Region.free md ops listed i = true) (hr : (Region.ready md ops listed).contains i = true) (hd : oi.dst = d)
    (hQ : ∀ c a w, Q (.panic c) (a.put oi.dst v) w → Q (.panic c) a w) (hy : YieldsIf P ops S oi v a) (hS : S w) (h : wpAnyH P md ops Q S fuel (listed.setIfInBounds i true) (a.put d v) w) : wpAnyH P md ops Q S (fuel + 1) listed a w :=
  wpAnyH_take hi hs hf hr hQ hy hS (by rw [hd]; exact h)
set_option maxHeartbeats 2000000 in
theorem refSnd_calls (A : Option Addr) (c B D M : Nat) (m : List (List Nat)) (w : World) (hn : m.length ≤ c) (hc : c ≤ 9223372036854775807) (hs : RMA B w A m) (hok : Ok D M m) :
    Calls Try.prog 47 #[Sv D M (.slice A m.length c)] w fun e w' => e = .returned (.bool (rsB D M m)) ∧ Below w.heap.size w w' := by
  have HS := Lib.hid hs
  have hl := hok.len
  have h12 : m.length ≤ 12 := by have := hok.d8; have := hok.m4; omega
  have WC := Lib.hid (fun W (h : RMA B W A m) => refWhole_calls D M A c B m W hn hc (by omega) h)
  have F : Hid (rsB D M m = (decide (lostN m = 0) && decide (enc (m.take D) M = m))) := Lib.hid rfl
  have D1 := hok.d1
  by_cases hz : lostN m = 0
  · have LT : Hid (∀ l ∈ m.take D, l.length = szL m) := Lib.hid (fun l hl' => by
      have hm := List.mem_of_mem_take hl'
      rcases hok.each l hm with h | h
      · exact absurd h (lost_none hz l hm)
      · exact h)
    have LD : (m.take D).length = D := by rw [List.length_take]; omega
    have MC : Hid (∀ W : World, RMA B W A m → Calls Try.prog 41 #[.slice A D c, .int .i64 M] W (fun e w' => ∃ v, e = .returned (Sv D M v) ∧ OM W.heap.size w' v (enc (m.take D) M) ∧ Below W.heap.size W w')) := Lib.hid (fun W h => by
      have := refMade_calls A c B (m.take D) M (szL m) W (by omega) hc (h.take_ D) (by omega) (by have := hok.d8; omega) hok.m4 hok.s64 LT.out
      unfold EncPost at this
      rw [LD] at this
      exact this)
    have EL : Hid ((enc (m.take D) M).length = m.length) := Lib.hid (by rw [enc_len, LD]; omega)
    have SC : Hid (∀ (W : World) (A' : Option Addr) (c' : Nat), m.length ≤ c' → c' ≤ 9223372036854775807 → RMA 0 W A' (enc (m.take D) M) → RMA B W A m → Calls Try.prog 20 #[Sv D M (.slice A' m.length c'), Sv D M (.slice A m.length c)] W fun e w' => e = .returned (.bool (rsB D M m)) ∧ Below W.heap.size W w') := Lib.hid (fun W A' c' h1 h2 h3 h4 => by
      have := refSame_calls D M A' c' 0 (enc (m.take D) M) D M A c B m W (by rw [EL.out]; exact h1) h2 h3 hn hc h4
      rw [EL.out] at this
      have e : decide (((D : Int), (M : Int), enc (m.take D) M) = ((D : Int), (M : Int), m)) = rsB D M m := by
        rw [F.out, decide_eq_true hz, Bool.true_and, Bool.eq_iff_iff]
        simp only [decide_eq_true_eq, Prod.mk.injEq, true_and]
      rw [e] at this
      exact this)
    rw [decide_eq_true hz] at WC
    obtain ⟨l0, hl0⟩ := get_some (show 0 < m.length by omega)
    obtain ⟨bb, off, _, _, rfl, _, _, _, _, _⟩ := hs.at_ hl0
    generalize rsB D M m = sb at *
    generalize enc (m.take D) M = en at *
    have hDc : D ≤ c := by omega
    clear hz hs hok LT F LD hl0 hl
    go_enter Try.func47, Try.ntmps47
    go_upto_region 1 with fail
    have KEEP : Hid (∀ X : World, Below (w.alloc (.cells #[.int .i64 D, .int .i64 M, .slice (some ⟨bb, off, none⟩) m.length c] 31)).heap.size (w.alloc (.cells #[.int .i64 D, .int .i64 M, .slice (some ⟨bb, off, none⟩) m.length c] 31)) X → X.cell? ⟨w.heap.size, 0, none⟩ = some (.int .i64 D) ∧ X.cell? ⟨w.heap.size, 1, none⟩ = some (.int .i64 M) ∧ X.cell? ⟨w.heap.size, 2, none⟩ = some (.slice (some ⟨bb, off, none⟩) m.length c)) := Lib.hid (fun X hX => box3 (blk_next hX (blk_new w _)))
    have RSX : Hid (∀ X : World, Below (w.alloc (.cells #[.int .i64 D, .int .i64 M, .slice (some ⟨bb, off, none⟩) m.length c] 31)).heap.size (w.alloc (.cells #[.int .i64 D, .int .i64 M, .slice (some ⟨bb, off, none⟩) m.length c] 31)) X → RMA B X (some ⟨bb, off, none⟩) m ∧ Below w.heap.size w X) := Lib.hid (fun X hX => ⟨HS.out.next (Bgo (Bal (Below.refl _ _) _) hX), Bgo (Bal (Below.refl _ _) _) hX⟩)
    generalize w.alloc (.cells #[.int .i64 D, .int .i64 M, .slice (some ⟨bb, off, none⟩) m.length c] 31) = W0 at *
    obtain ⟨k1, k2, k3⟩ := KEEP.out W0 (Below.refl _ _)
    go_region_held3 (fun X => X.cell? ⟨w.heap.size, 0, none⟩ = some (.int .i64 D) ∧ X.cell? ⟨w.heap.size, 1, none⟩ = some (.int .i64 M) ∧ X.cell? ⟨w.heap.size, 2, none⟩ = some (.slice (some ⟨bb, off, none⟩) m.length c))
      (first | (with_reducible exact KEEP.out _ BS.out) | (with_reducible exact KEEP.out _ BM.out) | (with_reducible exact KEEP.out _ BW.out) | (with_reducible exact KEEP.out _ (Below.refl _ _)) | (with_reducible exact KEEP.out _ BS.out.drew) | (with_reducible exact KEEP.out _ BM.out.drew) | (with_reducible exact KEEP.out _ BW.out.drew) | (with_reducible exact KEEP.out _ (Below.refl _ _).drew))
      (first
        | (go_at_call 32; refine (WC.out _ ?_).mono ?_; (first | (with_reducible exact (RSX.out _ (Below.refl _ _)).1) | (with_reducible exact (RSX.out _ (Below.refl _ _).drew).1)); rintro e ww ⟨rfl, bw⟩; have BW : Hid (Below W0.heap.size W0 ww) := Lib.hid (by first | (with_reducible exact bw) | (with_reducible exact undrewB bw)); clear bw)
        | (go_at_call 41; refine (MC.out _ ?_).mono ?_; (first | (with_reducible exact (RSX.out _ BW.out).1) | (with_reducible exact (RSX.out _ BW.out.drew).1)); rintro e wm ⟨vm, rfl, ⟨um, om⟩, bm⟩; obtain ⟨Am, cm, rfl, hm1, hm2, _⟩ := own_form om.top; rw [EL.out] at hm1; rw [EL.out]; have BM : Hid (Below W0.heap.size W0 wm) := Lib.hid (by first | (with_reducible exact Bgo BW.out bm) | (with_reducible exact Bgo BW.out (undrewB bm))); have OM_ := Lib.hid (om.rma.mono (B' := 0) (by omega)); clear bm om)
        | (go_at_call 20; refine (SC.out _ Am cm hm1 hm2 ?_ ?_).mono ?_; (first | (with_reducible exact OM_.out) | (with_reducible exact OM_.out.next (Below.refl _ _).drew)); (first | (with_reducible exact (RSX.out _ BM.out).1) | (with_reducible exact (RSX.out _ BM.out.drew).1)); rintro e ws ⟨rfl, bs⟩; have BS : Hid (Below W0.heap.size W0 ws) := Lib.hid (by first | (with_reducible exact Bgo BM.out bs) | (with_reducible exact Bgo BM.out (undrewB bs))); clear bs))
    go_wp2_with fail
    go_ret
    exact ⟨rfl, (RSX.out _ BS.out).2⟩
  · rw [decide_eq_false hz] at WC
    rw [F.out, decide_eq_false hz, Bool.false_and]
    clear hz F hok hl h12 D1
    go_enter Try.func47, Try.ntmps47
    go_upto_region 1 with fail
    have KEEP : Hid (∀ X : World, Below (w.alloc (.cells #[.int .i64 D, .int .i64 M, .slice A m.length c] 31)).heap.size (w.alloc (.cells #[.int .i64 D, .int .i64 M, .slice A m.length c] 31)) X → X.cell? ⟨w.heap.size, 0, none⟩ = some (.int .i64 D) ∧ X.cell? ⟨w.heap.size, 1, none⟩ = some (.int .i64 M) ∧ X.cell? ⟨w.heap.size, 2, none⟩ = some (.slice A m.length c)) := Lib.hid (fun X hX => box3 (blk_next hX (blk_new w _)))
    have RSX : Hid (∀ X : World, Below (w.alloc (.cells #[.int .i64 D, .int .i64 M, .slice A m.length c] 31)).heap.size (w.alloc (.cells #[.int .i64 D, .int .i64 M, .slice A m.length c] 31)) X → RMA B X A m ∧ Below w.heap.size w X) := Lib.hid (fun X hX => ⟨HS.out.next (Bgo (Bal (Below.refl _ _) _) hX), Bgo (Bal (Below.refl _ _) _) hX⟩)
    generalize w.alloc (.cells #[.int .i64 D, .int .i64 M, .slice A m.length c] 31) = W0 at *
    obtain ⟨k1, k2, k3⟩ := KEEP.out W0 (Below.refl _ _)
    refine wp_region_held_drew (S := (fun X => X.cell? ⟨w.heap.size, 0, none⟩ = some (.int .i64 D) ∧ X.cell? ⟨w.heap.size, 1, none⟩ = some (.int .i64 M) ∧ X.cell? ⟨w.heap.size, 2, none⟩ = some (.slice A m.length c))) (by kernel_rfl) (KEEP.out _ (Below.refl _ _).drew) (fun hHeld => ?_)
    refine take_op 0 (Sv D M (.slice A m.length c)) (some 3) rfl (by kernel_rfl) (by kernel_rfl) (by kernel_rfl) rfl (fun _ _ _ h => h) (Or.inl ⟨by rfl, ?_⟩) hHeld ?_
    · intro X hX
      obtain ⟨x1, x2, x3⟩ := hX
      go_simp
    try simp only [Act.put, List.setIfInBounds_toArray, List.set_cons_zero, List.set_cons_succ]
    refine wpAnyH_ready (rs := [1]) (by kernel_rfl) (by simp) (AllReadyH.cons rfl (fun K hK => ?_) AllReadyH.nil)
    go_simp
    refine (WC.out _ ?_).mono ?_
    · with_reducible exact (RSX.out _ (Below.refl _ _).drew).1
    rintro e ww ⟨rfl, bw⟩
    have BW : Hid (Below W0.heap.size W0 ww) := Lib.hid (undrewB bw)
    clear bw
    refine hK.out _ _ ?_ (fun hH => ?_)
    · with_reducible exact KEEP.out _ BW.out
    clear hK K hHeld
    try simp only [Act.put, List.setIfInBounds_toArray, List.set_cons_zero, List.set_cons_succ]
    refine take_op 2 (.bool false) (some 5) rfl (by kernel_rfl) (by kernel_rfl) (by kernel_rfl) rfl (fun _ _ _ h => h) (Or.inl ⟨by rfl, ?_⟩) hH ?_
    · intro X hX
      go_simp
    try simp only [Act.put, List.setIfInBounds_toArray, List.set_cons_zero, List.set_cons_succ]
    refine skip_op 3 rfl (by kernel_rfl) (by kernel_rfl) (by kernel_rfl) (by rfl) (by rfl) (fun _ _ _ h => h) hH ?_
    refine skip_op 4 rfl (by kernel_rfl) (by kernel_rfl) (by kernel_rfl) (by rfl) (by rfl) (fun _ _ _ h => h) hH ?_
    refine skip_op 5 rfl (by kernel_rfl) (by kernel_rfl) (by kernel_rfl) (by rfl) (by rfl) (fun _ _ _ h => h) hH ?_
    refine skip_op 6 rfl (by kernel_rfl) (by kernel_rfl) (by kernel_rfl) (by rfl) (by rfl) (fun _ _ _ h => h) hH ?_
    refine skip_op 7 rfl (by kernel_rfl) (by kernel_rfl) (by kernel_rfl) (by rfl) (by rfl) (fun _ _ _ h => h) hH ?_
    refine skip_op 8 rfl (by kernel_rfl) (by kernel_rfl) (by kernel_rfl) (by rfl) (by rfl) (fun _ _ _ h => h) hH ?_
    refine skip_op 9 rfl (by kernel_rfl) (by kernel_rfl) (by kernel_rfl) (by rfl) (by rfl) (fun _ _ _ h => h) hH ?_
    refine skip_op 10 rfl (by kernel_rfl) (by kernel_rfl) (by kernel_rfl) (by rfl) (by rfl) (fun _ _ _ h => h) hH ?_
    refine skip_op 11 rfl (by kernel_rfl) (by kernel_rfl) (by kernel_rfl) (by rfl) (by rfl) (fun _ _ _ h => h) hH ?_
    refine skip_op 12 rfl (by kernel_rfl) (by kernel_rfl) (by kernel_rfl) (by rfl) (by rfl) (fun _ _ _ h => h) hH ?_
    refine take_op 13 (.bool false) (some 16) rfl (by kernel_rfl) (by kernel_rfl) (by kernel_rfl) rfl (fun _ _ _ h => h) (Or.inl ⟨by rfl, ?_⟩) hH ?_
    · intro X hX
      go_simp
    try simp only [Act.put, List.setIfInBounds_toArray, List.set_cons_zero, List.set_cons_succ]
    refine take_op 14 (.bool false) (some 2) rfl (by kernel_rfl) (by kernel_rfl) (by kernel_rfl) rfl (fun _ _ _ h => h) (Or.inl ⟨by rfl, ?_⟩) hH ?_
    · intro X hX
      go_simp
    try simp only [Act.put, List.setIfInBounds_toArray, List.set_cons_zero, List.set_cons_succ]
    refine wpAnyH_done (by kernel_rfl) ?_ _
    go_wp2_with fail
    go_ret
    exact ⟨rfl, (RSX.out _ BW.out).2⟩
set_option maxHeartbeats 1000000 in
theorem refSoundX_calls (D M : Int) (A : Option Addr) (c B : Nat) (m : List (List Nat)) (w : World) (hn : m.length ≤ c) (hc : c ≤ 9223372036854775807) (hs : RMA B w A m) :
    Calls Try.prog 29 #[Sv D M (.slice A m.length c)] w fun e w' => e = .returned (.tuple #[.bool (sdB D M m), .int .i64 (chkE D M m)]) ∧ Below w.heap.size w w' := by
  have HS := Lib.hid hs
  clear hs
  have CC := Lib.hid (fun W (h : RMA B W A m) => refCheck_calls D M A c B m W hn hc h)
  by_cases ck : chkE D M m = 0
  · obtain ⟨OKS, hD, hM⟩ := chkE_ok ck
    have F : Hid (sdB D M m = rsB D.toNat M.toNat m) := Lib.hid (by unfold sdB; rw [decide_eq_true ck, Bool.true_and, sndB_eq OKS])
    have SC : Hid (∀ W : World, RMA B W A m → Calls Try.prog 47 #[Sv D M (.slice A m.length c)] W fun e w' => e = .returned (.bool (rsB D.toNat M.toNat m)) ∧ Below W.heap.size W w') := Lib.hid (fun W h => by
      have := refSnd_calls A c B D.toNat M.toNat m W hn hc h OKS
      rw [← hD, ← hM] at this
      exact this)
    rw [F.out, ck]
    rw [ck] at CC
    generalize rsB D.toNat M.toNat m = sb at *
    clear ck OKS hD hM F
    go_enter Try.func29, Try.ntmps29
    go_wp2_with fail
    refine (CC.out _ (HS.out.next (Bal (Below.refl _ _) _))).mono ?_
    rintro e w1 ⟨rfl, hb1⟩
    have N1 : Hid (Below w.heap.size w w1) := Lib.hid (Bgo (Bal (Below.refl _ _) _) hb1)
    have SB1 : Hid (w1.heap[w.heap.size]? = some (.cells #[.int .i64 D, .int .i64 M, .slice A m.length c] 31)) := Lib.hid (blk_next hb1 (blk_new w _))
    have s0 : w1.cell? ⟨w.heap.size, 0, none⟩ = some (.int .i64 D) := blk_cell SB1.out 0 _ rfl
    have s1 : w1.cell? ⟨w.heap.size, 1, none⟩ = some (.int .i64 M) := blk_cell SB1.out 1 _ rfl
    have s2 : w1.cell? ⟨w.heap.size, 2, none⟩ = some (.slice A m.length c) := blk_cell SB1.out 2 _ rfl
    clear hb1
    go_wp2_with fail
    refine (SC.out _ (HS.out.next N1.out)).mono ?_
    rintro e w2 ⟨rfl, hb2⟩
    go_wp2_with fail
    go_ret2
    exact ⟨rfl, Bgo N1.out hb2⟩
  · have F : Hid (sdB D M m = false) := Lib.hid (by unfold sdB; rw [decide_eq_false ck]; rfl)
    have q : (chkE D M m != 0) = true := by rw [bne_iff_ne]; exact ck
    rw [F.out]
    generalize chkE D M m = er at *
    clear ck F
    go_enter Try.func29, Try.ntmps29
    go_wp2_with fail
    refine (CC.out _ (HS.out.next (Bal (Below.refl _ _) _))).mono ?_
    rintro e w1 ⟨rfl, hb1⟩
    go_wp2_with fail
    go_ret2
    exact ⟨rfl, Bgo (Bal (Below.refl _ _) _) hb1⟩
end Go.Proofs.Ytmpmeeacdllomaa
