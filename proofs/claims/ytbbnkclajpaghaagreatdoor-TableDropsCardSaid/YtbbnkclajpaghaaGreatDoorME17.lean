/- Several texts in one. -/
import Derived.Test.YtbbnkclajpaghaaGreatDoorME16
set_option maxHeartbeats 8000000
set_option maxRecDepth 100000
set_option linter.unusedVariables false
set_option linter.unusedSimpArgs false
namespace Go.Proofs.YtbbnkclajpaghaaGreatDoor
open Go.ChangeShapes Go.WideShapes Go.ChangeAt Go.RowKit
attribute [local go_sem ↓] Go.wp_at_zero Go.wp_at_succ
def jn (p q : List Bool) : List Bool := List.zipWith (fun x y => x || y) p q
theorem jn_len {p q : List Bool} (h : q.length = p.length) : (jn p q).length = p.length := by unfold jn; rw [List.length_zipWith]; omega
theorem jn_get {p q : List Bool} {k : Nat} {x y : Bool} (hp : p[k]? = some x) (hq : q[k]? = some y) : (jn p q)[k]? = some (x || y) := by
 unfold jn; rw [List.getElem?_zipWith, hp, hq]
theorem Rd.ob {w : World} {A : Option Addr} {n : Nat} {xs : List Value} (h : Rd w 1 A n xs) (hn : 0 < n) : ∃ b off ob, A = some ⟨b, off, none⟩ ∧ b < w.heap.size ∧ w.heap[b]? = some ob ∧ ∀ X : World, X.heap[b]? = some ob → ∀ j u, xs[j]? = some u → X.cell? ⟨b, off + j, none⟩ = some u := by
 obtain ⟨b, off, e, hl, hc⟩ := h.2 hn
 refine ⟨b, off, w.heap[b], e, hl, by simp [hl], fun X hX j u hu => ?_⟩
 rw [World.cell?_of_block (w := w) (w' := X) (a := ⟨b, off + j, none⟩) (by rw [hX]; simp [hl])]
 exact hc j u hu
def jrow (p q : List Bool) (n k : Nat) : List Value := ((jn p q).take k ++ List.replicate (n - k) false).map Value.bool
theorem jrow_len {p q : List Bool} {n k : Nat} (h : (jn p q).length = n) (hk : k ≤ n) : (jrow p q n k).length = n := by simp [jrow, h]; omega
theorem jrow_set {p q : List Bool} {n k : Nat} {z : Bool} (hn : (jn p q).length = n) (hk : k < n) (hz : (jn p q)[k]? = some z) : (jrow p q n k).set k (.bool z) = jrow p q n (k + 1) := by
 have e : n - k = (n - (k + 1)) + 1 := by omega
 have hlt : k < (jn p q).length := by omega
 rw [List.getElem?_eq_getElem hlt] at hz
 injection hz with hz
 unfold jrow
 rw [e, List.replicate_succ, List.take_succ_eq_append_getElem hlt, hz, List.map_append, List.map_append, List.map_append, List.set_append, if_neg (by simp; omega)]
 simp [show min k (jn p q).length = k by omega]
theorem jrow_end {p q : List Bool} {n : Nat} (hn : (jn p q).length = n) : jrow p q n n = (jn p q).map Value.bool := by
 unfold jrow; rw [← hn, List.take_length, Nat.sub_self]; simp
theorem msk_len {t c : Int} {b : List Bool} (h : mskE t c b = 0) : (b.length : Int) = t * c ∧ 1 ≤ t ∧ t ≤ 32 ∧ 1 ≤ c ∧ c ≤ 16 ∧ b.length ≤ 512 := by
 unfold mskE at h
 split at h
 ·cases h
 ·split at h
  ·cases h
  ·have e : (b.length : Int) = t * c := by omega
   have := Int.mul_le_mul (show t ≤ 32 by omega) (show c ≤ 16 by omega) (by omega) (by omega)
   omega
theorem rd_blk {w : World} {g n : Nat} {xs : List Value} {T : TypeId} (h : w.heap[g]? = some (.cells xs.toArray T)) (hn : xs.length = n * 1) : Rd w 1 (some ⟨g, 0, none⟩) n xs :=
 ⟨hn, fun _ => ⟨g, 0, rfl, blk_lt h, fun j u hu => blk_cell h (0 + j) u (by simpa using hu)⟩⟩
theorem ne_ty {W : World} {a b : Nat} {cs cs' : Array Value} {T T' : TypeId} (h : W.heap[a]? = some (.cells cs T)) (h' : W.heap[b]? = some (.cells cs' T')) (hn : T ≠ T') : a ≠ b := fun e => by
 subst e; rw [h] at h'; injection h' with h'; injection h' with _ h' _; exact hn h'
theorem made_bools (n : Nat) : (madeCells #[.bool false] n) = (List.replicate n (.bool false)).toArray := by
 apply Array.ext
 ·simp [madeCells]
 ·intro i h1 h2; simp [madeCells, Nat.mod_one]
theorem make_bools (n : Nat) (hn : n ≤ 1000) (W : World) : (Instr.makeSlice 50 (.int .i64 (n : Int)) (.int .i64 (n : Int))).run Tryz.prog W = .ok (.slice (some ⟨W.heap.size, 0, none⟩) n n) (W.alloc (.cells (List.replicate n (Value.bool false)).toArray 4)) := by
 have hz : (Tryz.prog.info? 4).map (fun i => (i.zero, i.size, i.bytes)) = some (some (.bool false), 1, 1) := by kernel_rfl
 obtain ⟨i, hi, hz, hs, hb⟩ := info_parts hz
 have h1 := run_make (P := Tryz.prog) W 50 4 i _ (by kernel_rfl) hi hz .i64 .i64 (n : Int) (n : Int) (by omega) (by omega) (by rw [hb]; omega) (by omega)
 rw [hs, Int.toNat_natCast, Nat.mul_one] at h1
 rw [← made_bools]
 exact h1
theorem Rd.set_far {W : World} {size n : Nat} {A : Option Addr} {xs : List Value} {g : Nat} (h : Rd W size A n xs) (hA : ∀ b off, A = some ⟨b, off, none⟩ → b ≠ g) (off : Nat) (v : Value) : Rd (W.setCell ⟨g, off, none⟩ v) size A n xs := by
 refine ⟨h.1, fun hn => ?_⟩
 obtain ⟨b, o, e, hl, hc⟩ := h.2 hn
 refine ⟨b, o, e, by simpa using hl, fun j u hu => ?_⟩
 have hg : (W.setCell ⟨g, off, none⟩ v).heap[b]? = W.heap[b]? := by
  have h1 : W.heap[b]? = some W.heap[b] := by simp [hl]
  rw [h1]
  exact blk_set_other h1 (fun e9 => hA b o e e9.symm) off v
 rw [World.cell?_of_block (w := W) (a := ⟨b, o + j, none⟩) hg]
 exact hc j u hu
theorem join1_calls (x y : Bool) (w : World) : Calls Tryz.prog 48 #[.bool x, .bool y] w fun e w' => e = .returned (.bool (x || y)) ∧ Below w.heap.size w w' := by
 go_enter Tryz.func48, Tryz.ntmps48
 cases x
 all_goals
  go_wp2_with fail
  go_ret
  exact ⟨rfl, Below.refl _ _⟩
theorem combine_calls {Ap Aq : Option Addr} {cp cq : Nat} {p q : List Bool} {t c : Int} {w : World} (hp : RB w Ap p) (hq : RB w Aq q) (hcp : p.length ≤ cp) (hcq : q.length ≤ cq) (hmp : mskE t c p = 0) (hmq : mskE t c q = 0) : Calls Tryz.prog 47 #[Mv t c Ap p.length cp, Mv t c Aq q.length cq, .func (.func 48) #[] #[]] w fun e w' => ∃ A, e = .returned (.tuple #[Mv t c A (jn p q).length (jn p q).length, .int .i64 0]) ∧ RB w' A (jn p q) ∧ (∀ b off, A = some ⟨b, off, none⟩ → w.heap.size + 3 ≤ b) ∧ Below w.heap.size w w' := by
 have NN := zh (Below.refl w.heap.size w)
 have hlp := msk_len hmp
 have hlq := msk_len hmq
 have CP := zh (fun W => flagcheck_calls t c Ap p cp (by omega) W)
 have CQ := zh (fun W => flagcheck_calls t c Aq q cq (by omega) W)
 rw [hmp] at CP
 rw [hmq] at CQ
 have hpq : q.length = p.length := by omega
 have HJ := zh (jn_len hpq)
 rw [HJ.out]
 have HP : Hid (Rd w 1 Ap p.length (p.map Value.bool)) := zh hp
 have HQ : Hid (Rd w 1 Aq p.length (q.map Value.bool)) := zh (by rw [← hpq]; exact hq)
 rw [hpq] at CQ hcq ⊢
 obtain ⟨n, hn⟩ : ∃ n, p.length = n := ⟨_, rfl⟩
 have HLP := zh hn
 have HLQ : Hid (q.length = n) := zh (by omega)
 have hn5 : n ≤ 512 := by omega
 rw [hn] at HP HQ CP CQ HJ hcp hcq ⊢
 clear hp hq hmp hmq hlp hlq hpq hn
 go_enter Tryz.func47, Tryz.ntmps47
 go_wp2_with fail
 have P : Hid ((((w.alloc (.cells #[.int .i64 t, .int .i64 c, .slice Ap n cp] 52)).alloc (.cells #[.int .i64 t, .int .i64 c, .slice Aq n cq] 52)).alloc (.cells #[.int .i64 0, .int .i64 0, .slice none 0 0] 52)).heap[w.heap.size]? = some (.cells #[.int .i64 t, .int .i64 c, .slice Ap n cp] 52)) := zh (blk_alloc (blk_alloc (blk_new w _) _) _)
 have Q : Hid ((((w.alloc (.cells #[.int .i64 t, .int .i64 c, .slice Ap n cp] 52)).alloc (.cells #[.int .i64 t, .int .i64 c, .slice Aq n cq] 52)).alloc (.cells #[.int .i64 0, .int .i64 0, .slice none 0 0] 52)).heap[w.heap.size + 1]? = some (.cells #[.int .i64 t, .int .i64 c, .slice Aq n cq] 52)) := zh (blk_alloc (blk_at _ (by simp)) _)
 have Z : Hid ((((w.alloc (.cells #[.int .i64 t, .int .i64 c, .slice Ap n cp] 52)).alloc (.cells #[.int .i64 t, .int .i64 c, .slice Aq n cq] 52)).alloc (.cells #[.int .i64 0, .int .i64 0, .slice none 0 0] 52)).heap[w.heap.size + 1 + 1]? = some (.cells #[.int .i64 0, .int .i64 0, .slice none 0 0] 52)) := zh (blk_at _ (by simp))
 replace NN : Hid (Below w.heap.size w (((w.alloc (.cells #[.int .i64 t, .int .i64 c, .slice Ap n cp] 52)).alloc (.cells #[.int .i64 t, .int .i64 c, .slice Aq n cq] 52)).alloc (.cells #[.int .i64 0, .int .i64 0, .slice none 0 0] 52))) := zh (Bal (Bal (Bal NN.out _) _) _)
 generalize (((w.alloc (.cells #[.int .i64 t, .int .i64 c, .slice Ap n cp] 52)).alloc (.cells #[.int .i64 t, .int .i64 c, .slice Aq n cq] 52)).alloc (.cells #[.int .i64 0, .int .i64 0, .slice none 0 0] 52)) = W1 at *
 refine (CP.out _).mono ?_
 rintro e w2 ⟨rfl, hb⟩
 replace NN := zh (Bgo NN.out hb)
 replace P := zn hb P
 replace Q := zn hb Q
 replace Z := zn hb Z
 clear hb
 obtain ⟨c_P_0, f_P_0, c_P_1, f_P_1, c_P_2, f_P_2, l_P⟩ := zfl3 P
 obtain ⟨c_Q_0, f_Q_0, c_Q_1, f_Q_1, c_Q_2, f_Q_2, l_Q⟩ := zfl3 Q
 go_wp2_with fail
 clear c_P_0 f_P_0 c_P_1 f_P_1 c_P_2 f_P_2 l_P c_Q_0 f_Q_0 c_Q_1 f_Q_1 c_Q_2 f_Q_2 l_Q
 refine (CQ.out _).mono ?_
 rintro e w3 ⟨rfl, hb⟩
 replace NN := zh (Bgo NN.out hb)
 replace P := zn hb P
 replace Q := zn hb Q
 replace Z := zn hb Z
 clear hb
 obtain ⟨c_P_0, f_P_0, c_P_1, f_P_1, c_P_2, f_P_2, l_P⟩ := zfl3 P
 obtain ⟨c_Q_0, f_Q_0, c_Q_1, f_Q_1, c_Q_2, f_Q_2, l_Q⟩ := zfl3 Q
 go_upto_region 9 with fail
 clear c_P_0 f_P_0 c_P_1 f_P_1 c_P_2 f_P_2 l_P c_Q_0 f_Q_0 c_Q_1 f_Q_1 c_Q_2 f_Q_2 l_Q
 go_cut [10] (fun s10 wx => ∃ gm gr : Nat, s10 = .pointer (some ⟨gm, 0, none⟩) ∧ Hid (w3.heap.size ≤ gm) ∧ Hid (w3.heap.size ≤ gr) ∧ Hid (gm ≠ gr) ∧ Hid (Below w3.heap.size w3 wx) ∧ Hid (wx.heap[gm]? = some (.cells #[.int .i64 t, .int .i64 c, .slice (some ⟨gr, 0, none⟩) n n] 52)) ∧ Hid (wx.heap[gr]? = some (.cells (jrow p q n 0).toArray 4)))
 case first =>
  have MK := zh (fun W => make_bools n (by omega) W)
  have J0 : Hid ((List.replicate n (Value.bool false)) = jrow p q n 0) := zh (by simp [jrow])
  rw [J0.out] at MK
  replace NN := zh (Below.refl w3.heap.size w3)
  have HDRW := zh (Below.drew (Below.refl w3.heap.size w3))
  replace NN := zh (Bgo NN.out HDRW.out)
  replace P := zn HDRW P
  replace Q := zn HDRW Q
  replace Z := zn HDRW Z
  clear HDRW
  have HAL : Hid (∀ kx9 : Nat, GK [(1, w.heap.size, .cells #[.int .i64 t, .int .i64 c, .slice Ap n cp] 52), (3, w.heap.size, .cells #[.int .i64 t, .int .i64 c, .slice Ap n cp] 52), (5, w.heap.size, .cells #[.int .i64 t, .int .i64 c, .slice Ap n cp] 52)] kx9 w3.drew) := zh (fun kx9 => fun px9 hp e => by
   simp only [List.mem_cons, List.not_mem_nil, or_false] at hp
   rcases hp with rfl | rfl | rfl
   ·exact P.out
   ·exact P.out
   ·exact P.out
  )
  refine region_G (S := GK [(1, w.heap.size, .cells #[.int .i64 t, .int .i64 c, .slice Ap n cp] 52), (3, w.heap.size, .cells #[.int .i64 t, .int .i64 c, .slice Ap n cp] 52), (5, w.heap.size, .cells #[.int .i64 t, .int .i64 c, .slice Ap n cp] 52)]) (by kernel_rfl) ?_
  refine tP 0 (.pointer (some ⟨w.heap.size, 0, none⟩)) (some 37) rfl ?_ ?_
  ·intro X hX
   clear hX
   go_simp
  try simp only [Act.put, zA, zB, zC]
  refine tG 1 (.int .i64 t) (some 38) (GK.grow _) rfl (YieldsIf.toG (Or.inl ⟨by rfl, ?_⟩)) (HAL.out 1) ?_
  ·intro X hX
   have hh := hX (1, w.heap.size, .cells #[.int .i64 t, .int .i64 c, .slice Ap n cp] 52) (List.Mem.head _) rfl
   have hh0 := blk_cell hh 0 _ rfl
   have hhl := blk_lt hh
   clear hh
   clear hX
   go_simp
  try simp only [Act.put, zA, zB, zC]
  refine tP 2 (.pointer (some ⟨w.heap.size, 1, none⟩)) (some 39) rfl ?_ ?_
  ·intro X hX
   clear hX
   go_simp
  try simp only [Act.put, zA, zB, zC]
  refine tG 3 (.int .i64 c) (some 40) (GK.grow _) rfl (YieldsIf.toG (Or.inl ⟨by rfl, ?_⟩)) (HAL.out 3) ?_
  ·intro X hX
   have hh := hX (3, w.heap.size, .cells #[.int .i64 t, .int .i64 c, .slice Ap n cp] 52) (List.Mem.tail _ (List.Mem.head _)) rfl
   have hh0 := blk_cell hh 1 _ rfl
   have hhl := blk_lt hh
   clear hh
   clear hX
   go_simp
  try simp only [Act.put, zA, zB, zC]
  refine tP 4 (.pointer (some ⟨w.heap.size, 2, none⟩)) (some 41) rfl ?_ ?_
  ·intro X hX
   clear hX
   go_simp
  try simp only [Act.put, zA, zB, zC]
  refine tG 5 (.slice Ap n cp) (some 42) (GK.grow _) rfl (YieldsIf.toG (Or.inl ⟨by rfl, ?_⟩)) (HAL.out 5) ?_
  ·intro X hX
   have hh := hX (5, w.heap.size, .cells #[.int .i64 t, .int .i64 c, .slice Ap n cp] 52) (List.Mem.tail _ (List.Mem.tail _ (List.Mem.head _))) rfl
   have hh0 := blk_cell hh 2 _ rfl
   have hhl := blk_lt hh
   clear hh
   clear hX
   go_simp
  try simp only [Act.put, zA, zB, zC]
  refine tP 6 (.int .i64 (n : Nat)) (some 43) rfl ?_ ?_
  ·intro X hX
   clear hX
   go_simp
  try simp only [Act.put, zA, zB, zC]
  refine two_G 7 9 (by kernel_rfl) rfl rfl ?_ ?_
  ·intro X4 hX K' hK'
   replace NN := zh (Bgo NN.out hX)
   replace P := zn hX P
   replace Q := zn hX Q
   replace Z := zn hX Z
   replace HAL := zh (fun kx9 => GK.grow _ _ _ _ (HAL.out kx9) hX)
   clear hX
   have mk9 := MK.out X4
   go_simp
   clear mk9
   refine hK'.out _ _ (fun _ _ h => h.alloc _) ?_
   clear hK' K'
   try simp only [Act.put, zA, zB, zC]
   have HB := zh (Bal (Below.refl X4.heap.size X4) (.cells (jrow p q n 0).toArray 4))
   have R : Hid ((X4.alloc (.cells (jrow p q n 0).toArray 4)).heap[X4.heap.size]? = some (.cells (jrow p q n 0).toArray 4)) := zh (blk_new X4 (.cells (jrow p q n 0).toArray 4))
   have LR : Hid (X4.heap.size = X4.heap.size) := zh rfl
   have GR : Hid (w3.heap.size ≤ X4.heap.size) := zh NN.out.size
   replace NN := zh (Bgo NN.out HB.out)
   replace P := zn HB P
   replace Q := zn HB Q
   replace Z := zn HB Z
   replace HAL := zh (fun kx9 => GK.grow _ _ _ _ (HAL.out kx9) HB.out)
   clear HB LR
   generalize X4.alloc (.cells (jrow p q n 0).toArray 4) = W5 at *
   generalize X4.heap.size = gR at *
   refine tP 8 (.agg #[.int .i64 t, .int .i64 c, .slice (some ⟨gR, 0, none⟩) n n]) (some 45) rfl ?_ ?_
   ·intro X hX
    clear hX
    go_simp
   try simp only [Act.put, zA, zB, zC]
   refine only_G 9 (by kernel_rfl) rfl (fun X6 hX K' hK' => ?_)
   replace NN := zh (Bgo NN.out hX)
   replace R := zn hX R
   replace P := zn hX P
   replace Q := zn hX Q
   replace Z := zn hX Z
   replace HAL := zh (fun kx9 => GK.grow _ _ _ _ (HAL.out kx9) hX)
   clear hX
   go_simp
   refine hK'.out _ _ (fun _ _ h => h.alloc _) ?_
   clear hK' K'
   try simp only [Act.put, zA, zB, zC]
   have HB := zh (Bal (Below.refl X6.heap.size X6) (.cells #[.int .i64 0, .int .i64 0, .slice none 0 0] 52))
   have M : Hid ((X6.alloc (.cells #[.int .i64 0, .int .i64 0, .slice none 0 0] 52)).heap[X6.heap.size]? = some (.cells #[.int .i64 0, .int .i64 0, .slice none 0 0] 52)) := zh (blk_new X6 (.cells #[.int .i64 0, .int .i64 0, .slice none 0 0] 52))
   have LT_M : Hid (w.heap.size < X6.heap.size ∧ w.heap.size + 1 < X6.heap.size ∧ w.heap.size + 1 + 1 < X6.heap.size ∧ w3.heap.size ≤ X6.heap.size) := zh ⟨blk_lt P.out, blk_lt Q.out, blk_lt Z.out, NN.out.size⟩
   replace NN := zh (Bgo NN.out HB.out)
   replace R := zn HB R
   replace P := zn HB P
   replace Q := zn HB Q
   replace Z := zn HB Z
   replace HAL := zh (fun kx9 => GK.grow _ _ _ _ (HAL.out kx9) HB.out)
   clear HB
   generalize X6.alloc (.cells #[.int .i64 0, .int .i64 0, .slice none 0 0] 52) = W7 at *
   generalize X6.heap.size = gM at *
   refine only_G 10 (by kernel_rfl) rfl (fun X8 hX K' hK' => ?_)
   replace NN := zh (Bgo NN.out hX)
   replace R := zn hX R
   replace P := zn hX P
   replace Q := zn hX Q
   replace Z := zn hX Z
   replace M := zn hX M
   replace HAL := zh (fun kx9 => GK.grow _ _ _ _ (HAL.out kx9) hX)
   clear hX
   obtain ⟨c_M_0, f_M_0, c_M_1, f_M_1, c_M_2, f_M_2, l_M⟩ := zfl3 M
   go_simp
   clear c_M_0 f_M_0 c_M_1 f_M_1 c_M_2 f_M_2 l_M
   refine hK'.out _ _ (fun kk hk hS => ?_) ?_
   ·have HN : ∀ px9 ∈ ([(1, w.heap.size, .cells #[.int .i64 t, .int .i64 c, .slice Ap n cp] 52), (3, w.heap.size, .cells #[.int .i64 t, .int .i64 c, .slice Ap n cp] 52), (5, w.heap.size, .cells #[.int .i64 t, .int .i64 c, .slice Ap n cp] 52)] : List (Nat × Nat × Obj)), px9.1 = kk → px9.2.1 ≠ gM := fun px9 hp e => by
     simp only [List.mem_cons, List.not_mem_nil, or_false] at hp
     rcases hp with rfl | rfl | rfl
     ·subst e
      exact bfl (by kernel_rfl) hk
     ·subst e
      exact bfl (by kernel_rfl) hk
     ·subst e
      exact bfl (by kernel_rfl) hk
    exact GK.set (GK.set (GK.set hS HN) HN) HN
   clear hK' K'
   try simp only [Act.put, zA, zB, zC]
   clear HAL
   replace R := zh (blk_set_other (b' := gM) (blk_set_other (b' := gM) (blk_set_other (b' := gM) (R.out) (by first | exact ne_ty (R.out) (M.out) (by decide) | exact ne_ty (M.out) (R.out) (by decide)) 0 (.int .i64 t)) (by first | exact ne_ty (blk_set_other (b' := gM) (R.out) (by first | exact ne_ty (R.out) (M.out) (by decide) | exact ne_ty (M.out) (R.out) (by decide)) 0 (.int .i64 t)) (blk_set (M.out) 0 (.int .i64 t)) (by decide) | exact ne_ty (blk_set (M.out) 0 (.int .i64 t)) (blk_set_other (b' := gM) (R.out) (by first | exact ne_ty (R.out) (M.out) (by decide) | exact ne_ty (M.out) (R.out) (by decide)) 0 (.int .i64 t)) (by decide)) 1 (.int .i64 c)) (by first | exact ne_ty (blk_set_other (b' := gM) (blk_set_other (b' := gM) (R.out) (by first | exact ne_ty (R.out) (M.out) (by decide) | exact ne_ty (M.out) (R.out) (by decide)) 0 (.int .i64 t)) (by first | exact ne_ty (blk_set_other (b' := gM) (R.out) (by first | exact ne_ty (R.out) (M.out) (by decide) | exact ne_ty (M.out) (R.out) (by decide)) 0 (.int .i64 t)) (blk_set (M.out) 0 (.int .i64 t)) (by decide) | exact ne_ty (blk_set (M.out) 0 (.int .i64 t)) (blk_set_other (b' := gM) (R.out) (by first | exact ne_ty (R.out) (M.out) (by decide) | exact ne_ty (M.out) (R.out) (by decide)) 0 (.int .i64 t)) (by decide)) 1 (.int .i64 c)) (blk_set (blk_set (M.out) 0 (.int .i64 t)) 1 (.int .i64 c)) (by decide) | exact ne_ty (blk_set (blk_set (M.out) 0 (.int .i64 t)) 1 (.int .i64 c)) (blk_set_other (b' := gM) (blk_set_other (b' := gM) (R.out) (by first | exact ne_ty (R.out) (M.out) (by decide) | exact ne_ty (M.out) (R.out) (by decide)) 0 (.int .i64 t)) (by first | exact ne_ty (blk_set_other (b' := gM) (R.out) (by first | exact ne_ty (R.out) (M.out) (by decide) | exact ne_ty (M.out) (R.out) (by decide)) 0 (.int .i64 t)) (blk_set (M.out) 0 (.int .i64 t)) (by decide) | exact ne_ty (blk_set (M.out) 0 (.int .i64 t)) (blk_set_other (b' := gM) (R.out) (by first | exact ne_ty (R.out) (M.out) (by decide) | exact ne_ty (M.out) (R.out) (by decide)) 0 (.int .i64 t)) (by decide)) 1 (.int .i64 c)) (by decide)) 2 (.slice (some ⟨gR, 0, none⟩) n n))
   generalize hW : (((X8.setCell ⟨gM, 0, none⟩ (.int .i64 t)).setCell ⟨gM, 1, none⟩ (.int .i64 c)).setCell ⟨gM, 2, none⟩ (.slice (some ⟨gR, 0, none⟩) n n)) = W9 at *
   replace P : Hid (W9.heap[w.heap.size]? = some (.cells #[.int .i64 t, .int .i64 c, .slice Ap n cp] 52)) := zs hW (blk_set_other (blk_set_other (blk_set_other (P.out) (by have := LT_M.out; omega) 0 (.int .i64 t)) (by have := LT_M.out; omega) 1 (.int .i64 c)) (by have := LT_M.out; omega) 2 (.slice (some ⟨gR, 0, none⟩) n n))
   replace Q : Hid (W9.heap[w.heap.size + 1]? = some (.cells #[.int .i64 t, .int .i64 c, .slice Aq n cq] 52)) := zs hW (blk_set_other (blk_set_other (blk_set_other (Q.out) (by have := LT_M.out; omega) 0 (.int .i64 t)) (by have := LT_M.out; omega) 1 (.int .i64 c)) (by have := LT_M.out; omega) 2 (.slice (some ⟨gR, 0, none⟩) n n))
   replace Z : Hid (W9.heap[w.heap.size + 1 + 1]? = some (.cells #[.int .i64 0, .int .i64 0, .slice none 0 0] 52)) := zs hW (blk_set_other (blk_set_other (blk_set_other (Z.out) (by have := LT_M.out; omega) 0 (.int .i64 t)) (by have := LT_M.out; omega) 1 (.int .i64 c)) (by have := LT_M.out; omega) 2 (.slice (some ⟨gR, 0, none⟩) n n))
   replace M : Hid (W9.heap[gM]? = some (.cells #[.int .i64 t, .int .i64 c, .slice (some ⟨gR, 0, none⟩) n n] 52)) := zs hW (blk_set (blk_set (blk_set (M.out) 0 (.int .i64 t)) 1 (.int .i64 c)) 2 (.slice (some ⟨gR, 0, none⟩) n n))
   replace NN := zt hW (p := Below _ _) (Bset1 (Bset1 (Bset1 (NN.out) (by have := LT_M.out; omega) 0 (.int .i64 t)) (by have := LT_M.out; omega) 1 (.int .i64 c)) (by have := LT_M.out; omega) 2 (.slice (some ⟨gR, 0, none⟩) n n))
   clear hW
   refine done_G (by kernel_rfl) (fun X10 hX => ?_) _
   replace NN := zh (Bgo NN.out hX)
   replace R := zn hX R
   replace P := zn hX P
   replace Q := zn hX Q
   replace Z := zn hX Z
   replace M := zn hX M
   clear hX
   go_wp2_with fail
   go_meet
   exact ⟨gM, gR, rfl, zh (by have := LT_M.out; omega), GR, zh (ne_ty M.out R.out (by decide)), NN, M, R⟩
  ·intro X11 hX K' hK'
   replace NN := zh (Bgo NN.out hX)
   replace P := zn hX P
   replace Q := zn hX Q
   replace Z := zn hX Z
   replace HAL := zh (fun kx9 => GK.grow _ _ _ _ (HAL.out kx9) hX)
   clear hX
   go_simp
   refine hK'.out _ _ (fun _ _ h => h.alloc _) ?_
   clear hK' K'
   try simp only [Act.put, zA, zB, zC]
   have HB := zh (Bal (Below.refl X11.heap.size X11) (.cells #[.int .i64 0, .int .i64 0, .slice none 0 0] 52))
   have M : Hid ((X11.alloc (.cells #[.int .i64 0, .int .i64 0, .slice none 0 0] 52)).heap[X11.heap.size]? = some (.cells #[.int .i64 0, .int .i64 0, .slice none 0 0] 52)) := zh (blk_new X11 (.cells #[.int .i64 0, .int .i64 0, .slice none 0 0] 52))
   have LT_M : Hid (w.heap.size < X11.heap.size ∧ w.heap.size + 1 < X11.heap.size ∧ w.heap.size + 1 + 1 < X11.heap.size ∧ w3.heap.size ≤ X11.heap.size) := zh ⟨blk_lt P.out, blk_lt Q.out, blk_lt Z.out, NN.out.size⟩
   replace NN := zh (Bgo NN.out HB.out)
   replace P := zn HB P
   replace Q := zn HB Q
   replace Z := zn HB Z
   replace HAL := zh (fun kx9 => GK.grow _ _ _ _ (HAL.out kx9) HB.out)
   clear HB
   generalize X11.alloc (.cells #[.int .i64 0, .int .i64 0, .slice none 0 0] 52) = W12 at *
   generalize X11.heap.size = gM at *
   refine only_G 7 (by kernel_rfl) rfl (fun X13 hX K' hK' => ?_)
   replace NN := zh (Bgo NN.out hX)
   replace P := zn hX P
   replace Q := zn hX Q
   replace Z := zn hX Z
   replace M := zn hX M
   replace HAL := zh (fun kx9 => GK.grow _ _ _ _ (HAL.out kx9) hX)
   clear hX
   have mk9 := MK.out X13
   go_simp
   clear mk9
   refine hK'.out _ _ (fun _ _ h => h.alloc _) ?_
   clear hK' K'
   try simp only [Act.put, zA, zB, zC]
   have HB := zh (Bal (Below.refl X13.heap.size X13) (.cells (jrow p q n 0).toArray 4))
   have R : Hid ((X13.alloc (.cells (jrow p q n 0).toArray 4)).heap[X13.heap.size]? = some (.cells (jrow p q n 0).toArray 4)) := zh (blk_new X13 (.cells (jrow p q n 0).toArray 4))
   have LR : Hid (X13.heap.size = X13.heap.size) := zh rfl
   have GR : Hid (w3.heap.size ≤ X13.heap.size) := zh NN.out.size
   replace NN := zh (Bgo NN.out HB.out)
   replace P := zn HB P
   replace Q := zn HB Q
   replace Z := zn HB Z
   replace M := zn HB M
   replace HAL := zh (fun kx9 => GK.grow _ _ _ _ (HAL.out kx9) HB.out)
   clear HB LR
   generalize X13.alloc (.cells (jrow p q n 0).toArray 4) = W14 at *
   generalize X13.heap.size = gR at *
   refine tP 8 (.agg #[.int .i64 t, .int .i64 c, .slice (some ⟨gR, 0, none⟩) n n]) (some 45) rfl ?_ ?_
   ·intro X hX
    clear hX
    go_simp
   try simp only [Act.put, zA, zB, zC]
   refine only_G 10 (by kernel_rfl) rfl (fun X15 hX K' hK' => ?_)
   replace NN := zh (Bgo NN.out hX)
   replace R := zn hX R
   replace P := zn hX P
   replace Q := zn hX Q
   replace Z := zn hX Z
   replace M := zn hX M
   replace HAL := zh (fun kx9 => GK.grow _ _ _ _ (HAL.out kx9) hX)
   clear hX
   obtain ⟨c_M_0, f_M_0, c_M_1, f_M_1, c_M_2, f_M_2, l_M⟩ := zfl3 M
   go_simp
   clear c_M_0 f_M_0 c_M_1 f_M_1 c_M_2 f_M_2 l_M
   refine hK'.out _ _ (fun kk hk hS => ?_) ?_
   ·have HN : ∀ px9 ∈ ([(1, w.heap.size, .cells #[.int .i64 t, .int .i64 c, .slice Ap n cp] 52), (3, w.heap.size, .cells #[.int .i64 t, .int .i64 c, .slice Ap n cp] 52), (5, w.heap.size, .cells #[.int .i64 t, .int .i64 c, .slice Ap n cp] 52)] : List (Nat × Nat × Obj)), px9.1 = kk → px9.2.1 ≠ gM := fun px9 hp e => by
     simp only [List.mem_cons, List.not_mem_nil, or_false] at hp
     rcases hp with rfl | rfl | rfl
     ·subst e
      exact bfl (by kernel_rfl) hk
     ·subst e
      exact bfl (by kernel_rfl) hk
     ·subst e
      exact bfl (by kernel_rfl) hk
    exact GK.set (GK.set (GK.set hS HN) HN) HN
   clear hK' K'
   try simp only [Act.put, zA, zB, zC]
   clear HAL
   replace R := zh (blk_set_other (b' := gM) (blk_set_other (b' := gM) (blk_set_other (b' := gM) (R.out) (by first | exact ne_ty (R.out) (M.out) (by decide) | exact ne_ty (M.out) (R.out) (by decide)) 0 (.int .i64 t)) (by first | exact ne_ty (blk_set_other (b' := gM) (R.out) (by first | exact ne_ty (R.out) (M.out) (by decide) | exact ne_ty (M.out) (R.out) (by decide)) 0 (.int .i64 t)) (blk_set (M.out) 0 (.int .i64 t)) (by decide) | exact ne_ty (blk_set (M.out) 0 (.int .i64 t)) (blk_set_other (b' := gM) (R.out) (by first | exact ne_ty (R.out) (M.out) (by decide) | exact ne_ty (M.out) (R.out) (by decide)) 0 (.int .i64 t)) (by decide)) 1 (.int .i64 c)) (by first | exact ne_ty (blk_set_other (b' := gM) (blk_set_other (b' := gM) (R.out) (by first | exact ne_ty (R.out) (M.out) (by decide) | exact ne_ty (M.out) (R.out) (by decide)) 0 (.int .i64 t)) (by first | exact ne_ty (blk_set_other (b' := gM) (R.out) (by first | exact ne_ty (R.out) (M.out) (by decide) | exact ne_ty (M.out) (R.out) (by decide)) 0 (.int .i64 t)) (blk_set (M.out) 0 (.int .i64 t)) (by decide) | exact ne_ty (blk_set (M.out) 0 (.int .i64 t)) (blk_set_other (b' := gM) (R.out) (by first | exact ne_ty (R.out) (M.out) (by decide) | exact ne_ty (M.out) (R.out) (by decide)) 0 (.int .i64 t)) (by decide)) 1 (.int .i64 c)) (blk_set (blk_set (M.out) 0 (.int .i64 t)) 1 (.int .i64 c)) (by decide) | exact ne_ty (blk_set (blk_set (M.out) 0 (.int .i64 t)) 1 (.int .i64 c)) (blk_set_other (b' := gM) (blk_set_other (b' := gM) (R.out) (by first | exact ne_ty (R.out) (M.out) (by decide) | exact ne_ty (M.out) (R.out) (by decide)) 0 (.int .i64 t)) (by first | exact ne_ty (blk_set_other (b' := gM) (R.out) (by first | exact ne_ty (R.out) (M.out) (by decide) | exact ne_ty (M.out) (R.out) (by decide)) 0 (.int .i64 t)) (blk_set (M.out) 0 (.int .i64 t)) (by decide) | exact ne_ty (blk_set (M.out) 0 (.int .i64 t)) (blk_set_other (b' := gM) (R.out) (by first | exact ne_ty (R.out) (M.out) (by decide) | exact ne_ty (M.out) (R.out) (by decide)) 0 (.int .i64 t)) (by decide)) 1 (.int .i64 c)) (by decide)) 2 (.slice (some ⟨gR, 0, none⟩) n n))
   generalize hW : (((X15.setCell ⟨gM, 0, none⟩ (.int .i64 t)).setCell ⟨gM, 1, none⟩ (.int .i64 c)).setCell ⟨gM, 2, none⟩ (.slice (some ⟨gR, 0, none⟩) n n)) = W16 at *
   replace P : Hid (W16.heap[w.heap.size]? = some (.cells #[.int .i64 t, .int .i64 c, .slice Ap n cp] 52)) := zs hW (blk_set_other (blk_set_other (blk_set_other (P.out) (by have := LT_M.out; omega) 0 (.int .i64 t)) (by have := LT_M.out; omega) 1 (.int .i64 c)) (by have := LT_M.out; omega) 2 (.slice (some ⟨gR, 0, none⟩) n n))
   replace Q : Hid (W16.heap[w.heap.size + 1]? = some (.cells #[.int .i64 t, .int .i64 c, .slice Aq n cq] 52)) := zs hW (blk_set_other (blk_set_other (blk_set_other (Q.out) (by have := LT_M.out; omega) 0 (.int .i64 t)) (by have := LT_M.out; omega) 1 (.int .i64 c)) (by have := LT_M.out; omega) 2 (.slice (some ⟨gR, 0, none⟩) n n))
   replace Z : Hid (W16.heap[w.heap.size + 1 + 1]? = some (.cells #[.int .i64 0, .int .i64 0, .slice none 0 0] 52)) := zs hW (blk_set_other (blk_set_other (blk_set_other (Z.out) (by have := LT_M.out; omega) 0 (.int .i64 t)) (by have := LT_M.out; omega) 1 (.int .i64 c)) (by have := LT_M.out; omega) 2 (.slice (some ⟨gR, 0, none⟩) n n))
   replace M : Hid (W16.heap[gM]? = some (.cells #[.int .i64 t, .int .i64 c, .slice (some ⟨gR, 0, none⟩) n n] 52)) := zs hW (blk_set (blk_set (blk_set (M.out) 0 (.int .i64 t)) 1 (.int .i64 c)) 2 (.slice (some ⟨gR, 0, none⟩) n n))
   replace NN := zt hW (p := Below _ _) (Bset1 (Bset1 (Bset1 (NN.out) (by have := LT_M.out; omega) 0 (.int .i64 t)) (by have := LT_M.out; omega) 1 (.int .i64 c)) (by have := LT_M.out; omega) 2 (.slice (some ⟨gR, 0, none⟩) n n))
   clear hW
   refine done_G (by kernel_rfl) (fun X17 hX => ?_) _
   replace NN := zh (Bgo NN.out hX)
   replace R := zn hX R
   replace P := zn hX P
   replace Q := zn hX Q
   replace Z := zn hX Z
   replace M := zn hX M
   clear hX
   go_wp2_with fail
   go_meet
   exact ⟨gM, gR, rfl, zh (by have := LT_M.out; omega), GR, zh (ne_ty M.out R.out (by decide)), NN, M, R⟩
 case rest =>
  obtain ⟨gM, gR, rfl, LM, LR, NE, HB9, M, R⟩ := hcut
  have SZ : Hid (w.heap.size + 1 + 1 < w3.heap.size) := zh (blk_lt Z.out)
  have L1 : Hid (w.heap.size + 1 + 1 < gM) := zh (by have := SZ.out; have := LM.out; omega)
  have L2 : Hid (w.heap.size + 1 + 1 < gR) := zh (by have := SZ.out; have := LR.out; omega)
  replace NN := zh (Bgo NN.out HB9.out)
  replace P := zn HB9 P
  replace Q := zn HB9 Q
  replace Z := zn HB9 Z
  clear HB9 LM LR SZ
  obtain ⟨c_M_0, f_M_0, c_M_1, f_M_1, c_M_2, f_M_2, l_M⟩ := zfl3 M
  go_wp2_with fail
  clear c_M_0 f_M_0 c_M_1 f_M_1 c_M_2 f_M_2 l_M
  go_loopw [49] (fun p9 wr => ∃ k : Nat, k ≤ n ∧ p9 = .int .i64 (k : Int) ∧ Hid (Below w.heap.size w wr) ∧ Hid (wr.heap[w.heap.size]? = some (.cells #[.int .i64 t, .int .i64 c, .slice Ap n cp] 52)) ∧ Hid (wr.heap[w.heap.size + 1]? = some (.cells #[.int .i64 t, .int .i64 c, .slice Aq n cq] 52)) ∧ Hid (wr.heap[w.heap.size + 1 + 1]? = some (.cells #[.int .i64 0, .int .i64 0, .slice none 0 0] 52)) ∧ Hid (wr.heap[gM]? = some (.cells #[.int .i64 t, .int .i64 c, .slice (some ⟨gR, 0, none⟩) n n] 52)) ∧ Hid (wr.heap[gR]? = some (.cells (jrow p q n k).toArray 4))) (fun p9 _ => n - (intOf p9).toNat)
  case atStart => exact ⟨0, Nat.zero_le _, rfl, NN, P, Q, Z, M, R⟩
  case round =>
   clear NN P Q Z M R
   obtain ⟨k, hk, rfl, NN, P, Q, Z, M, R⟩ := hrel
   by_cases hlt : n ≤ k
   ·have e : n = k := by omega
    subst e
    clear hk hlt
    rw [jrow_end HJ.out] at R
    obtain ⟨c_M_0, f_M_0, c_M_1, f_M_1, c_M_2, f_M_2, l_M⟩ := zfl3 M
    obtain ⟨c_Z_0, f_Z_0, c_Z_1, f_Z_1, c_Z_2, f_Z_2, l_Z⟩ := zfl3 Z
    go_wp2_with fail
    clear c_M_0 f_M_0 c_M_1 f_M_1 c_M_2 f_M_2 l_M c_Z_0 f_Z_0 c_Z_1 f_Z_1 c_Z_2 f_Z_2 l_Z
    replace R := zh (blk_set_other (b' := w.heap.size + 1 + 1) (blk_set_other (b' := w.heap.size + 1 + 1) (blk_set_other (b' := w.heap.size + 1 + 1) (R.out) (by first | exact ne_ty (R.out) (Z.out) (by decide) | exact ne_ty (Z.out) (R.out) (by decide)) 0 (.int .i64 t)) (by first | exact ne_ty (blk_set_other (b' := w.heap.size + 1 + 1) (R.out) (by first | exact ne_ty (R.out) (Z.out) (by decide) | exact ne_ty (Z.out) (R.out) (by decide)) 0 (.int .i64 t)) (blk_set (Z.out) 0 (.int .i64 t)) (by decide) | exact ne_ty (blk_set (Z.out) 0 (.int .i64 t)) (blk_set_other (b' := w.heap.size + 1 + 1) (R.out) (by first | exact ne_ty (R.out) (Z.out) (by decide) | exact ne_ty (Z.out) (R.out) (by decide)) 0 (.int .i64 t)) (by decide)) 1 (.int .i64 c)) (by first | exact ne_ty (blk_set_other (b' := w.heap.size + 1 + 1) (blk_set_other (b' := w.heap.size + 1 + 1) (R.out) (by first | exact ne_ty (R.out) (Z.out) (by decide) | exact ne_ty (Z.out) (R.out) (by decide)) 0 (.int .i64 t)) (by first | exact ne_ty (blk_set_other (b' := w.heap.size + 1 + 1) (R.out) (by first | exact ne_ty (R.out) (Z.out) (by decide) | exact ne_ty (Z.out) (R.out) (by decide)) 0 (.int .i64 t)) (blk_set (Z.out) 0 (.int .i64 t)) (by decide) | exact ne_ty (blk_set (Z.out) 0 (.int .i64 t)) (blk_set_other (b' := w.heap.size + 1 + 1) (R.out) (by first | exact ne_ty (R.out) (Z.out) (by decide) | exact ne_ty (Z.out) (R.out) (by decide)) 0 (.int .i64 t)) (by decide)) 1 (.int .i64 c)) (blk_set (blk_set (Z.out) 0 (.int .i64 t)) 1 (.int .i64 c)) (by decide) | exact ne_ty (blk_set (blk_set (Z.out) 0 (.int .i64 t)) 1 (.int .i64 c)) (blk_set_other (b' := w.heap.size + 1 + 1) (blk_set_other (b' := w.heap.size + 1 + 1) (R.out) (by first | exact ne_ty (R.out) (Z.out) (by decide) | exact ne_ty (Z.out) (R.out) (by decide)) 0 (.int .i64 t)) (by first | exact ne_ty (blk_set_other (b' := w.heap.size + 1 + 1) (R.out) (by first | exact ne_ty (R.out) (Z.out) (by decide) | exact ne_ty (Z.out) (R.out) (by decide)) 0 (.int .i64 t)) (blk_set (Z.out) 0 (.int .i64 t)) (by decide) | exact ne_ty (blk_set (Z.out) 0 (.int .i64 t)) (blk_set_other (b' := w.heap.size + 1 + 1) (R.out) (by first | exact ne_ty (R.out) (Z.out) (by decide) | exact ne_ty (Z.out) (R.out) (by decide)) 0 (.int .i64 t)) (by decide)) 1 (.int .i64 c)) (by decide)) 2 (.slice (some ⟨gR, 0, none⟩) n n))
    generalize hW : (((wr.setCell ⟨w.heap.size + 1 + 1, 0, none⟩ (.int .i64 t)).setCell ⟨w.heap.size + 1 + 1, 1, none⟩ (.int .i64 c)).setCell ⟨w.heap.size + 1 + 1, 2, none⟩ (.slice (some ⟨gR, 0, none⟩) n n)) = W18 at *
    replace P : Hid (W18.heap[w.heap.size]? = some (.cells #[.int .i64 t, .int .i64 c, .slice Ap n cp] 52)) := zs hW (blk_set_other (blk_set_other (blk_set_other (P.out) (by omega) 0 (.int .i64 t)) (by omega) 1 (.int .i64 c)) (by omega) 2 (.slice (some ⟨gR, 0, none⟩) n n))
    replace Q : Hid (W18.heap[w.heap.size + 1]? = some (.cells #[.int .i64 t, .int .i64 c, .slice Aq n cq] 52)) := zs hW (blk_set_other (blk_set_other (blk_set_other (Q.out) (by omega) 0 (.int .i64 t)) (by omega) 1 (.int .i64 c)) (by omega) 2 (.slice (some ⟨gR, 0, none⟩) n n))
    replace Z : Hid (W18.heap[w.heap.size + 1 + 1]? = some (.cells #[.int .i64 t, .int .i64 c, .slice (some ⟨gR, 0, none⟩) n n] 52)) := zs hW (blk_set (blk_set (blk_set (Z.out) 0 (.int .i64 t)) 1 (.int .i64 c)) 2 (.slice (some ⟨gR, 0, none⟩) n n))
    replace M : Hid (W18.heap[gM]? = some (.cells #[.int .i64 t, .int .i64 c, .slice (some ⟨gR, 0, none⟩) n n] 52)) := zs hW (blk_set_other (blk_set_other (blk_set_other (M.out) (by have := L1.out; omega) 0 (.int .i64 t)) (by have := L1.out; omega) 1 (.int .i64 c)) (by have := L1.out; omega) 2 (.slice (some ⟨gR, 0, none⟩) n n))
    replace NN := zt hW (p := Below _ _) (Bset1 (Bset1 (Bset1 (NN.out) (by omega) 0 (.int .i64 t)) (by omega) 1 (.int .i64 c)) (by omega) 2 (.slice (some ⟨gR, 0, none⟩) n n))
    clear hW
    obtain ⟨c_Z_0, c_Z_1, c_Z_2, l_Z⟩ := zcl3 Z
    exact bodyPost_ret (v := .tuple #[.agg #[.int .i64 t, .int .i64 c, .slice (some ⟨gR, 0, none⟩) n n], .int .i64 0]) (by simp [results, Tryz.results47, go_sem, c_Z_0, c_Z_1, c_Z_2]) rfl ⟨_, rfl, rd_blk R.out (by simp [HJ.out]), fun b off e => (by injection e with e; injection e with e _; have := L2.out; omega), NN.out⟩
   replace hlt : k < n := by omega
   obtain ⟨xk, hxk⟩ : ∃ xk, p[k]? = some xk := ⟨_, List.getElem?_eq_getElem (by rw [HLP.out]; exact hlt)⟩
   obtain ⟨yk, hyk⟩ : ∃ yk, q[k]? = some yk := ⟨_, List.getElem?_eq_getElem (by rw [HLQ.out]; exact hlt)⟩
   have hz := jn_get hxk hyk
   obtain ⟨bp, op, obp, eA, -, hbp, hcp9⟩ := Rd.ob (Rd.next NN.out HP.out) (by omega)
   obtain ⟨bq, oq, obq, eA2, -, hbq, hcq9⟩ := Rd.ob (Rd.next NN.out HQ.out) (by omega)
   subst eA eA2
   have lbp : bp < w.heap.size := by obtain ⟨b9, o9, e9, h9, -⟩ := HP.out.2 (by omega); injection e9 with e9; injection e9 with e9 _; rw [e9]; exact h9
   have lbq : bq < w.heap.size := by obtain ⟨b9, o9, e9, h9, -⟩ := HQ.out.2 (by omega); injection e9 with e9; injection e9 with e9 _; rw [e9]; exact h9
   have XP := zh hbp
   have XQ := zh hbq
   have CKP : Hid (∀ X : World, X.heap[bp]? = some obp → ∀ j u, [Value.bool xk][j]? = some u → X.cell? ⟨bp, op + k + j, none⟩ = some u) := zh (fun X hX j u hu => by match j with | 0 => exact (by have := hcp9 X hX k (.bool xk) (by rw [List.getElem?_map, hxk]; rfl); injection hu with hu; rw [← hu]; exact this) | (m + 1) => cases hu)
   have CKQ : Hid (∀ X : World, X.heap[bq]? = some obq → ∀ j u, [Value.bool yk][j]? = some u → X.cell? ⟨bq, oq + k + j, none⟩ = some u) := zh (fun X hX j u hu => by match j with | 0 => exact (by have := hcq9 X hX k (.bool yk) (by rw [List.getElem?_map, hyk]; rfl); injection hu with hu; rw [← hu]; exact this) | (m + 1) => cases hu)
   have HST : Hid ((jrow p q n k).set k (.bool (xk || yk)) = jrow p q n (k + 1)) := zh (jrow_set HJ.out hlt hz)
   have hJL := jrow_len HJ.out hk
   have hk1 : k < cp := by omega
   have hk2 : k < cq := by omega
   clear hxk hyk hz hbp hbq hcp9 hcq9
   obtain ⟨c_M_0, f_M_0, c_M_1, f_M_1, c_M_2, f_M_2, l_M⟩ := zfl3 M
   go_upto_region 13 with fail
   clear c_M_0 f_M_0 c_M_1 f_M_1 c_M_2 f_M_2 l_M
   have HDRW := zh (Below.drew (Below.refl wr.heap.size wr))
   replace NN := zh (Bgo NN.out HDRW.out)
   replace XP := zn HDRW XP
   replace XQ := zn HDRW XQ
   replace R := zn HDRW R
   replace P := zn HDRW P
   replace Q := zn HDRW Q
   replace Z := zn HDRW Z
   replace M := zn HDRW M
   clear HDRW
   have HAL : Hid (∀ kx9 : Nat, GK [(1, gM, .cells #[.int .i64 t, .int .i64 c, .slice (some ⟨gR, 0, none⟩) n n] 52), (5, w.heap.size, .cells #[.int .i64 t, .int .i64 c, .slice (some ⟨bp, op, none⟩) n cp] 52), (8, bp, obp), (10, w.heap.size + 1, .cells #[.int .i64 t, .int .i64 c, .slice (some ⟨bq, oq, none⟩) n cq] 52), (13, bq, obq)] kx9 wr.drew) := zh (fun kx9 => fun px9 hp e => by
    simp only [List.mem_cons, List.not_mem_nil, or_false] at hp
    rcases hp with rfl | rfl | rfl | rfl | rfl
    ·exact M.out
    ·exact P.out
    ·exact XP.out
    ·exact Q.out
    ·exact XQ.out
   )
   refine region_G (S := GK [(1, gM, .cells #[.int .i64 t, .int .i64 c, .slice (some ⟨gR, 0, none⟩) n n] 52), (5, w.heap.size, .cells #[.int .i64 t, .int .i64 c, .slice (some ⟨bp, op, none⟩) n cp] 52), (8, bp, obp), (10, w.heap.size + 1, .cells #[.int .i64 t, .int .i64 c, .slice (some ⟨bq, oq, none⟩) n cq] 52), (13, bq, obq)]) (by kernel_rfl) ?_
   refine tP 0 (.pointer (some ⟨gM, 2, none⟩)) (some 52) rfl ?_ ?_
   ·intro X hX
    clear hX
    go_simp
   try simp only [Act.put, zA, zB, zC]
   refine tG 1 (.slice (some ⟨gR, 0, none⟩) n n) (some 53) (GK.grow _) rfl (YieldsIf.toG (Or.inl ⟨by rfl, ?_⟩)) (HAL.out 1) ?_
   ·intro X hX
    have hh := hX (1, gM, .cells #[.int .i64 t, .int .i64 c, .slice (some ⟨gR, 0, none⟩) n n] 52) (List.Mem.head _) rfl
    have hh0 := blk_cell hh 2 _ rfl
    have hhl := blk_lt hh
    clear hh
    clear hX
    go_simp
   try simp only [Act.put, zA, zB, zC]
   refine tP 2 (.int .i64 (k : Int)) (some 54) rfl ?_ ?_
   ·intro X hX
    clear hX
    go_simp
   try simp only [Act.put, zA, zB, zC]
   refine tP 3 (.func (.func 48) #[] #[]) (some 55) rfl ?_ ?_
   ·intro X hX
    clear hX
    go_simp
   try simp only [Act.put, zA, zB, zC]
   refine tP 4 (.pointer (some ⟨w.heap.size, 2, none⟩)) (some 56) rfl ?_ ?_
   ·intro X hX
    clear hX
    go_simp
   try simp only [Act.put, zA, zB, zC]
   refine tG 5 (.slice (some ⟨bp, op, none⟩) n cp) (some 57) (GK.grow _) rfl (YieldsIf.toG (Or.inl ⟨by rfl, ?_⟩)) (HAL.out 5) ?_
   ·intro X hX
    have hh := hX (5, w.heap.size, .cells #[.int .i64 t, .int .i64 c, .slice (some ⟨bp, op, none⟩) n cp] 52) (List.Mem.tail _ (List.Mem.head _)) rfl
    have hh0 := blk_cell hh 2 _ rfl
    have hhl := blk_lt hh
    clear hh
    clear hX
    go_simp
   try simp only [Act.put, zA, zB, zC]
   refine tP 6 (.int .i64 (k : Int)) (some 58) rfl ?_ ?_
   ·intro X hX
    clear hX
    go_simp
   try simp only [Act.put, zA, zB, zC]
   refine tP 7 (.pointer (some ⟨bp, op + k, none⟩)) (some 59) rfl ?_ ?_
   ·intro X hX
    clear hX
    go_simp
   try simp only [Act.put, zA, zB, zC]
   refine tG 8 (.bool xk) (some 60) (GK.grow _) rfl (YieldsIf.toG (Or.inl ⟨by rfl, ?_⟩)) (HAL.out 8) ?_
   ·intro X hX
    have hh := hX (8, bp, obp) (List.Mem.tail _ (List.Mem.tail _ (List.Mem.head _))) rfl
    have hh0 := (CKP.out _ hh 0 _ rfl)
    simp only [Nat.add_zero] at hh0
    have hhl := blk_lt hh
    clear hh
    clear hX
    go_simp
   try simp only [Act.put, zA, zB, zC]
   refine tP 9 (.pointer (some ⟨w.heap.size + 1, 2, none⟩)) (some 61) rfl ?_ ?_
   ·intro X hX
    clear hX
    go_simp
   try simp only [Act.put, zA, zB, zC]
   refine tG 10 (.slice (some ⟨bq, oq, none⟩) n cq) (some 62) (GK.grow _) rfl (YieldsIf.toG (Or.inl ⟨by rfl, ?_⟩)) (HAL.out 10) ?_
   ·intro X hX
    have hh := hX (10, w.heap.size + 1, .cells #[.int .i64 t, .int .i64 c, .slice (some ⟨bq, oq, none⟩) n cq] 52) (List.Mem.tail _ (List.Mem.tail _ (List.Mem.tail _ (List.Mem.head _)))) rfl
    have hh0 := blk_cell hh 2 _ rfl
    have hhl := blk_lt hh
    clear hh
    clear hX
    go_simp
   try simp only [Act.put, zA, zB, zC]
   refine tP 11 (.int .i64 (k : Int)) (some 63) rfl ?_ ?_
   ·intro X hX
    clear hX
    go_simp
   try simp only [Act.put, zA, zB, zC]
   refine tP 12 (.pointer (some ⟨bq, oq + k, none⟩)) (some 64) rfl ?_ ?_
   ·intro X hX
    clear hX
    go_simp
   try simp only [Act.put, zA, zB, zC]
   refine tG 13 (.bool yk) (some 65) (GK.grow _) rfl (YieldsIf.toG (Or.inl ⟨by rfl, ?_⟩)) (HAL.out 13) ?_
   ·intro X hX
    have hh := hX (13, bq, obq) (List.Mem.tail _ (List.Mem.tail _ (List.Mem.tail _ (List.Mem.tail _ (List.Mem.head _))))) rfl
    have hh0 := (CKQ.out _ hh 0 _ rfl)
    simp only [Nat.add_zero] at hh0
    have hhl := blk_lt hh
    clear hh
    clear hX
    go_simp
   try simp only [Act.put, zA, zB, zC]
   refine only_G 14 (by kernel_rfl) rfl (fun X19 hX K' hK' => ?_)
   replace NN := zh (Bgo NN.out hX)
   replace XP := zn hX XP
   replace XQ := zn hX XQ
   replace R := zn hX R
   replace P := zn hX P
   replace Q := zn hX Q
   replace Z := zn hX Z
   replace M := zn hX M
   replace HAL := zh (fun kx9 => GK.grow _ _ _ _ (HAL.out kx9) hX)
   clear hX
   go_simp
   refine (join1_calls xk yk X19).mono ?_
   rintro e w20 ⟨rfl, hb9⟩
   have HB9 := zh hb9
   clear hb9
   refine hK'.out _ _ (fun kk hk hS => GK.grow _ _ _ _ hS HB9.out) ?_
   clear hK' K'
   try simp only [Act.put, zA, zB, zC]
   replace NN := zh (Bgo NN.out HB9.out)
   replace XP := zn HB9 XP
   replace XQ := zn HB9 XQ
   replace R := zn HB9 R
   replace P := zn HB9 P
   replace Q := zn HB9 Q
   replace Z := zn HB9 Z
   replace M := zn HB9 M
   replace HAL := zh (fun kx9 => GK.grow _ _ _ _ (HAL.out kx9) HB9.out)
   clear HB9
   refine tP 15 (.pointer (some ⟨gR, k, none⟩)) (some 67) rfl ?_ ?_
   ·intro X hX
    clear hX
    go_simp
   try simp only [Act.put, zA, zB, zC]
   refine only_G 16 (by kernel_rfl) rfl (fun X21 hX K' hK' => ?_)
   replace NN := zh (Bgo NN.out hX)
   replace XP := zn hX XP
   replace XQ := zn hX XQ
   replace R := zn hX R
   replace P := zn hX P
   replace Q := zn hX Q
   replace Z := zn hX Z
   replace M := zn hX M
   replace HAL := zh (fun kx9 => GK.grow _ _ _ _ (HAL.out kx9) hX)
   clear hX
   have c9 := blk_cell R.out k ((jrow p q n k)[k]'(by rw [hJL]; exact hlt)) (by simp)
   have f9 := blk_frozen R.out k
   have l9 := blk_lt R.out
   go_simp
   clear c9 f9 l9
   refine hK'.out _ _ (fun kk hk hS => GK.set hS (fun p9 hp e => by simp only [List.mem_cons, List.not_mem_nil, or_false] at hp; rcases hp with rfl | rfl | rfl | rfl | rfl <;> (subst e; exact bfl (by kernel_rfl) hk))) ?_
   clear hK' K'
   try simp only [Act.put, zA, zB, zC]
   clear HAL
   replace P : Hid ((X21.setCell ⟨gR, k, none⟩ (.bool (xk || yk))).heap[w.heap.size]? = some (.cells #[.int .i64 t, .int .i64 c, .slice (some ⟨bp, op, none⟩) n cp] 52)) := zh (blk_set_other (b' := gR) (P.out) (fun e9 => by have := L1.out; have := L2.out; have := NE.out; omega) k (.bool (xk || yk)))
   replace Q : Hid ((X21.setCell ⟨gR, k, none⟩ (.bool (xk || yk))).heap[w.heap.size + 1]? = some (.cells #[.int .i64 t, .int .i64 c, .slice (some ⟨bq, oq, none⟩) n cq] 52)) := zh (blk_set_other (b' := gR) (Q.out) (fun e9 => by have := L1.out; have := L2.out; have := NE.out; omega) k (.bool (xk || yk)))
   replace Z : Hid ((X21.setCell ⟨gR, k, none⟩ (.bool (xk || yk))).heap[w.heap.size + 1 + 1]? = some (.cells #[.int .i64 0, .int .i64 0, .slice none 0 0] 52)) := zh (blk_set_other (b' := gR) (Z.out) (fun e9 => by have := L1.out; have := L2.out; have := NE.out; omega) k (.bool (xk || yk)))
   replace M : Hid ((X21.setCell ⟨gR, k, none⟩ (.bool (xk || yk))).heap[gM]? = some (.cells #[.int .i64 t, .int .i64 c, .slice (some ⟨gR, 0, none⟩) n n] 52)) := zh (blk_set_other (b' := gR) (M.out) (fun e9 => by have := L1.out; have := L2.out; have := NE.out; omega) k (.bool (xk || yk)))
   replace R : Hid ((X21.setCell ⟨gR, k, none⟩ (.bool (xk || yk))).heap[gR]? = some (.cells (jrow p q n (k + 1)).toArray 4)) := zh (by rw [← HST.out, ← List.setIfInBounds_toArray]; exact blk_set R.out k (.bool (xk || yk)))
   replace NN := zh (Bset1 NN.out (show w.heap.size ≤ gR by have := L2.out; omega) k (.bool (xk || yk)))
   clear XP XQ CKP CKQ
   generalize (X21.setCell ⟨gR, k, none⟩ (.bool (xk || yk))) = w8 at *
   refine done_G (by kernel_rfl) (fun X22 hX => ?_) _
   replace NN := zh (Bgo NN.out hX)
   replace R := zn hX R
   replace P := zn hX P
   replace Q := zn hX Q
   replace Z := zn hX Z
   replace M := zn hX M
   clear hX
   go_wp2_with fail
   exact ⟨⟨k + 1, by omega, by go_num, NN, P, Q, Z, M, R⟩, by simp [intOf]; omega⟩
theorem fjoin_calls {Ap Aq : Option Addr} {cp cq : Nat} {p q : List Bool} {t c : Int} {w : World} (hp : RB w Ap p) (hq : RB w Aq q) (hcp : p.length ≤ cp) (hcq : q.length ≤ cq) (hmp : mskE t c p = 0) (hmq : mskE t c q = 0) : Calls Tryz.prog 25 #[Mv t c Ap p.length cp, Mv t c Aq q.length cq] w fun e w' => ∃ A, e = .returned (.tuple #[Mv t c A (jn p q).length (jn p q).length, .int .i64 0]) ∧ RB w' A (jn p q) ∧ (∀ b off, A = some ⟨b, off, none⟩ → w.heap.size + 3 ≤ b) ∧ Below w.heap.size w w' := by
 have NN := zh (Below.refl w.heap.size w)
 have CC := zh (fun W (hb : Below w.heap.size w W) => combine_calls (w := W) (Rd.next hb hp) (Rd.next hb hq) hcp hcq hmp hmq)
 clear hp hq hmp hmq
 generalize p.length = np at *
 generalize q.length = nq at *
 go_enter Tryz.func25, Tryz.ntmps25
 go_wp2_with fail
 have P : Hid ((((w.alloc (.cells #[.int .i64 t, .int .i64 c, .slice Ap np cp] 52)).alloc (.cells #[.int .i64 t, .int .i64 c, .slice Aq nq cq] 52)).alloc (.cells #[.int .i64 0, .int .i64 0, .slice none 0 0] 52)).heap[w.heap.size]? = some (.cells #[.int .i64 t, .int .i64 c, .slice Ap np cp] 52)) := zh (blk_alloc (blk_alloc (blk_new w _) _) _)
 have Q : Hid ((((w.alloc (.cells #[.int .i64 t, .int .i64 c, .slice Ap np cp] 52)).alloc (.cells #[.int .i64 t, .int .i64 c, .slice Aq nq cq] 52)).alloc (.cells #[.int .i64 0, .int .i64 0, .slice none 0 0] 52)).heap[w.heap.size + 1]? = some (.cells #[.int .i64 t, .int .i64 c, .slice Aq nq cq] 52)) := zh (blk_alloc (blk_at _ (by simp)) _)
 have Z : Hid ((((w.alloc (.cells #[.int .i64 t, .int .i64 c, .slice Ap np cp] 52)).alloc (.cells #[.int .i64 t, .int .i64 c, .slice Aq nq cq] 52)).alloc (.cells #[.int .i64 0, .int .i64 0, .slice none 0 0] 52)).heap[w.heap.size + 1 + 1]? = some (.cells #[.int .i64 0, .int .i64 0, .slice none 0 0] 52)) := zh (blk_at _ (by simp))
 replace NN : Hid (Below w.heap.size w (((w.alloc (.cells #[.int .i64 t, .int .i64 c, .slice Ap np cp] 52)).alloc (.cells #[.int .i64 t, .int .i64 c, .slice Aq nq cq] 52)).alloc (.cells #[.int .i64 0, .int .i64 0, .slice none 0 0] 52))) := zh (Bal (Bal (Bal NN.out _) _) _)
 generalize (((w.alloc (.cells #[.int .i64 t, .int .i64 c, .slice Ap np cp] 52)).alloc (.cells #[.int .i64 t, .int .i64 c, .slice Aq nq cq] 52)).alloc (.cells #[.int .i64 0, .int .i64 0, .slice none 0 0] 52)) = W1 at *
 refine (CC.out _ NN.out).mono ?_
 rintro e w9 ⟨A9, rfl, hr9, hA9, hb⟩
 have R := zh hr9
 have HA9 := zh hA9
 have BW := zh NN.out.size
 clear hr9 hA9
 replace NN := zh (Bgo NN.out hb)
 replace P := zn hb P
 replace Q := zn hb Q
 replace Z := zn hb Z
 clear hb
 obtain ⟨c_Z_0, f_Z_0, c_Z_1, f_Z_1, c_Z_2, f_Z_2, l_Z⟩ := zfl3 Z
 go_wp2_with fail
 clear c_Z_0 f_Z_0 c_Z_1 f_Z_1 c_Z_2 f_Z_2 l_Z
 obtain ⟨m9, hm9⟩ : ∃ m9, (jn p q).length = m9 := ⟨_, rfl⟩
 rw [hm9]
 replace R := zh (Rd.set_far (g := w.heap.size + 1 + 1) (Rd.set_far (g := w.heap.size + 1 + 1) (Rd.set_far (g := w.heap.size + 1 + 1) (R.out) (fun b9 o9 e9 => by have := HA9.out b9 o9 e9; have := BW.out; omega) 0 (.int .i64 t)) (fun b9 o9 e9 => by have := HA9.out b9 o9 e9; have := BW.out; omega) 1 (.int .i64 c)) (fun b9 o9 e9 => by have := HA9.out b9 o9 e9; have := BW.out; omega) 2 (.slice A9 m9 m9))
 generalize hW : (((w9.setCell ⟨w.heap.size + 1 + 1, 0, none⟩ (.int .i64 t)).setCell ⟨w.heap.size + 1 + 1, 1, none⟩ (.int .i64 c)).setCell ⟨w.heap.size + 1 + 1, 2, none⟩ (.slice A9 m9 m9)) = W2 at *
 replace P : Hid (W2.heap[w.heap.size]? = some (.cells #[.int .i64 t, .int .i64 c, .slice Ap np cp] 52)) := zs hW (blk_set_other (blk_set_other (blk_set_other (P.out) (by omega) 0 (.int .i64 t)) (by omega) 1 (.int .i64 c)) (by omega) 2 (.slice A9 m9 m9))
 replace Q : Hid (W2.heap[w.heap.size + 1]? = some (.cells #[.int .i64 t, .int .i64 c, .slice Aq nq cq] 52)) := zs hW (blk_set_other (blk_set_other (blk_set_other (Q.out) (by omega) 0 (.int .i64 t)) (by omega) 1 (.int .i64 c)) (by omega) 2 (.slice A9 m9 m9))
 replace Z : Hid (W2.heap[w.heap.size + 1 + 1]? = some (.cells #[.int .i64 t, .int .i64 c, .slice A9 m9 m9] 52)) := zs hW (blk_set (blk_set (blk_set (Z.out) 0 (.int .i64 t)) 1 (.int .i64 c)) 2 (.slice A9 m9 m9))
 replace NN := zt hW (p := Below _ _) (Bset1 (Bset1 (Bset1 (NN.out) (by omega) 0 (.int .i64 t)) (by omega) 1 (.int .i64 c)) (by omega) 2 (.slice A9 m9 m9))
 clear hW
 obtain ⟨c_Z_0, c_Z_1, c_Z_2, l_Z⟩ := zcl3 Z
 exact bodyPost_ret (v := .tuple #[.agg #[.int .i64 t, .int .i64 c, .slice A9 m9 m9], .int .i64 0]) (by simp [results, Tryz.results25, go_sem, c_Z_0, c_Z_1, c_Z_2]) rfl ⟨_, rfl, by have h := R.out; exact h, fun b9 o9 e9 => by have := HA9.out b9 o9 e9; have := BW.out; omega, NN.out⟩
end Go.Proofs.YtbbnkclajpaghaaGreatDoor
