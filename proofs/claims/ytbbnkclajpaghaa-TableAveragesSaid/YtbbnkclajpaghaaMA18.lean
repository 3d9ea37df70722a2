/- Several texts in one. -/
import Derived.Deep.RegionLaw
import Derived.Laws.IdiomStrings
import Derived.Test.YtbbnkclajpaghaaMA01
import Derived.Test.YtbbnkclajpaghaaMA02
import Derived.Test.YtbbnkclajpaghaaMA03
import Derived.Test.YtbbnkclajpaghaaMA05
import Derived.Test.YtbbnkclajpaghaaMA17
namespace Go.Proofs.Ytbbnkclajpaghaa
open Go.ChangeShapes Go.WideShapes Go.ChangeAt Go.RowKit
set_option linter.unusedVariables false
set_option linter.unusedSimpArgs false
attribute [local go_sem ↓] Go.wp_at_zero Go.wp_at_succ
theorem OG.rec_ {α : Type} {T : TypeId} {sz : Nat} {f : α → List Value} {B : Nat} {w : World} {v : Value} {l : List α} (h : OG T sz f B w v l) (hs : ∀ x, (f x).length = sz) {k : Nat} (hk : k < l.length) :
  ∃ g cap cur, v = .slice (some ⟨g, 0, none⟩) l.length cap ∧ B ≤ g ∧ l.length ≤ cap ∧ w.heap[g]? = some (.cells cur T) ∧ ∀ j u, (f l[k])[j]? = some u → cur[k * sz + j]? = some u := by
 rcases h.2 with ⟨-, h0⟩ | ⟨g, cap, cur, h1, h2, h3, h4, -, -, h7⟩
 ·omega
 ·refine ⟨g, cap, cur, h1, h2, h4, h3, fun j u hu => ?_⟩
  have hj : j < sz := by
   have := (List.getElem?_eq_some_iff.1 hu).1
   rw [hs] at this; exact this
  have e := fm_get f sz hs l k j hk hj
  rw [← h7, List.getElem?_take, hu] at e
  split at e
  ·simpa using e
  ·cases e
theorem filter_take' {p : Vr → Bool} {l : List Vr} {k : Nat} (h : k < l.length) : (l.take (k + 1)).filter p = (l.take k).filter p ++ (if p (rowAt l k) = true then [rowAt l k] else []) := by
 rw [List.take_succ_eq_append_getElem h, List.filter_append, rowAt_lt h]
 by_cases c : p l[k] = true
 ·rw [if_pos c, List.filter_cons_of_pos c]; rfl
 ·rw [if_neg c, List.filter_cons_of_neg c]; rfl
set_option maxRecDepth 100000 in
set_option maxHeartbeats 8000000 in
theorem rlisted_calls {A : Option Addr} {c : Nat} {l : List Vr} {w : World} (hl : RV6 w A l) (hc : l.length ≤ c) (hc' : c ≤ 9223372036854775807) (hn : l.length ≤ 200) (hv : ∀ r ∈ l, visB r = true) : Calls Try.prog 40 #[.slice A l.length c] w fun e w' => e = .returned (.int .i64 0) ∧ Below w.heap.size w w' := by
 have NN := Lib.hid (Below.refl w.heap.size w)
 have HL := Lib.hid hl
 have HV := Lib.hid hv
 clear hl hv
 go_enter Try.func40, Try.ntmps40
 have d1 : decide ((200 : Int) < (l.length : Int)) = false := by simp; omega
 go_wp2_with fail
 go_loopw [3] (fun p wr => ∃ k : Nat, k ≤ l.length ∧ p = .int .i64 k ∧ Hid (Below w.heap.size w wr)) (fun p _ => l.length - (intOf p).toNat)
 case atStart => exact ⟨0, Nat.zero_le _, rfl, NN⟩
 case round =>
  clear NN
  obtain ⟨k, hk, rfl, NN⟩ := hrel
  by_cases hlt : l.length ≤ k
  ·have e : k = l.length := by omega
   subst e
   clear hk hlt
   go_wp2_with fail
   go_ret
   exact ⟨rfl, NN.out⟩
  replace hlt : k < l.length := by omega
  obtain ⟨b, off, eA, bl, a0, a1, a2, a3, a4, a5⟩ := RV6.at_ HL.out hlt
  have HR : Hid (visB (rowAt l k) = true) := Lib.hid (by rw [rowAt_lt hlt]; exact HV.out _ (List.getElem_mem hlt))
  generalize rowAt l k = r at *
  subst eA
  replace a0 := (NN.out.cell (p := ⟨b, off + k * 6, none⟩) bl).trans a0
  replace a1 := (NN.out.cell (p := ⟨b, off + k * 6 + 1, none⟩) bl).trans a1
  replace a2 := (NN.out.cell (p := ⟨b, off + k * 6 + 2, none⟩) bl).trans a2
  replace a3 := (NN.out.cell (p := ⟨b, off + k * 6 + 3, none⟩) bl).trans a3
  replace a4 := (NN.out.cell (p := ⟨b, off + k * 6 + 4, none⟩) bl).trans a4
  replace a5 := (NN.out.cell (p := ⟨b, off + k * 6 + 5, none⟩) bl).trans a5
  have lb := Nat.lt_of_lt_of_le bl NN.out.size
  have hkc : k < c := by omega
  have HC := Lib.hid (rcheck_calls r)
  rw [visE_ok HR.out] at HC
  go_wp2_with fail
  clear a0 a1 a2 a3 a4 a5 lb
  refine (HC.out _).mono ?_
  rintro e w9 ⟨rfl, hb⟩
  replace NN := Lib.hid (Bgo NN.out hb)
  go_wp2_with fail
  exact ⟨⟨k + 1, by omega, by go_num, NN⟩, by simp [intOf]; omega⟩
set_option maxRecDepth 100000 in
set_option maxHeartbeats 8000000 in
theorem rweight_calls {A : Option Addr} {c : Nat} {l : List Vr} {w : World} (hl : RV6 w A l) (hc : l.length ≤ c) (hc' : c ≤ 9223372036854775807) (hn : l.length ≤ 200) (hv : ∀ r ∈ l, visB r = true) : Calls Try.prog 29 #[.slice A l.length c] w fun e w' => e = .returned (.int .i64 (wgt l)) ∧ Below w.heap.size w w' := by
 have NN := Lib.hid (Below.refl w.heap.size w)
 have HL := Lib.hid hl
 have HV := Lib.hid hv
 clear hl hv
 obtain ⟨N, hN⟩ : ∃ N, wgt l = N := ⟨_, rfl⟩
 rw [hN]
 have HN := Lib.hid hN
 clear hN
 go_enter Try.func29, Try.ntmps29
 go_wp2_with fail
 go_loopw [3, 4] (fun q p wr => ∃ k : Nat, k ≤ l.length ∧ p = .int .i64 k ∧ q = .int .i64 (wgt (l.take k)) ∧ Hid (Below w.heap.size w wr)) (fun _ p _ => l.length - (intOf p).toNat)
 case atStart => exact ⟨0, Nat.zero_le _, rfl, rfl, NN⟩
 case round =>
  clear NN
  obtain ⟨k, hk, rfl, rfl, NN⟩ := hrel
  by_cases hlt : l.length ≤ k
  ·have e : k = l.length := by omega
   subst e
   clear hk hlt
   rw [List.take_length, HN.out]
   go_wp2_with fail
   go_ret
   exact ⟨rfl, NN.out⟩
  replace hlt : k < l.length := by omega
  obtain ⟨b, off, eA, bl, a0, a1, a2, a3, a4, a5⟩ := RV6.at_ HL.out hlt
  have HR : Hid (visB (rowAt l k) = true) := Lib.hid (by rw [rowAt_lt hlt]; exact HV.out _ (List.getElem_mem hlt))
  have HG := Lib.hid (wgt_take hlt)
  have hb1 := wgt_bd (l := l.take k) (fun x hx => HV.out x (List.mem_of_mem_take hx))
  have hb2 := vis_val HR.out
  rw [List.length_take] at hb1
  have hb3 : wgt (l.take k) + (rowAt l k).n ≤ 1000000000 := by omega
  have hb4 : 0 ≤ wgt (l.take k) + (rowAt l k).n := by omega
  clear hb1 hb2
  generalize wgt (l.take k) = N0 at *
  generalize rowAt l k = r at *
  subst eA
  replace a0 := (NN.out.cell (p := ⟨b, off + k * 6, none⟩) bl).trans a0
  replace a1 := (NN.out.cell (p := ⟨b, off + k * 6 + 1, none⟩) bl).trans a1
  replace a2 := (NN.out.cell (p := ⟨b, off + k * 6 + 2, none⟩) bl).trans a2
  replace a3 := (NN.out.cell (p := ⟨b, off + k * 6 + 3, none⟩) bl).trans a3
  replace a4 := (NN.out.cell (p := ⟨b, off + k * 6 + 4, none⟩) bl).trans a4
  replace a5 := (NN.out.cell (p := ⟨b, off + k * 6 + 5, none⟩) bl).trans a5
  have lb := Nat.lt_of_lt_of_le bl NN.out.size
  have hkc : k < c := by omega
  have wN : IntKind.i64.wrap (N0 + r.n) = N0 + r.n := IntWalk.i64_in _ (by omega)
  go_wp2_with fail
  exact ⟨⟨k + 1, by omega, by go_num, by rw [HG.out], NN⟩, by simp [intOf]; omega⟩
set_option maxRecDepth 100000 in
set_option maxHeartbeats 8000000 in
theorem rof_calls {A : Option Addr} {c : Nat} {l : List Vr} {w : World} (i j : Int) (hl : RV6 w A l) (hc : l.length ≤ c) (hc' : c ≤ 9223372036854775807) (hn : l.length ≤ 200) (hv : ∀ r ∈ l, visB r = true) : Calls Try.prog 28 #[.slice A l.length c, .int .i64 i, .int .i64 j] w fun e w' => ∃ v, e = .returned v ∧ OS6 w.heap.size w' v (l.filter (selB i j)) ∧ Below w.heap.size w w' := by
 have NN := Lib.hid (Below.refl w.heap.size w)
 have HL := Lib.hid hl
 have HV := Lib.hid hv
 clear hl hv
 go_enter Try.func28, Try.ntmps28
 go_wp2_with fail
 go_loopw [7, 8] (fun q p wr => ∃ (k : Nat) (L9 : List Vr) (A9 : Option Addr) (c9 : Nat), k ≤ l.length ∧ p = .int .i64 k ∧ q = .slice A9 L9.length c9 ∧ Hid (L9 = (l.take k).filter (selB i j)) ∧ Hid (OS6 w.heap.size wr (.slice A9 L9.length c9) L9) ∧ Hid (Below w.heap.size w wr)) (fun _ p _ => l.length - (intOf p).toNat)
 case atStart => exact ⟨0, [], none, 0, Nat.zero_le _, rfl, rfl, Lib.hid rfl, Lib.hid (OG.nil _ _ _ _ _), NN⟩
 case round =>
  clear NN
  obtain ⟨k, L9, A9, c9, hk, rfl, rfl, HF, OO, NN⟩ := hrel
  by_cases hlt : l.length ≤ k
  ·have e : k = l.length := by omega
   subst e
   rw [List.take_length] at HF
   clear hk hlt
   go_wp2_with fail
   go_ret
   exact ⟨_, rfl, by rw [← HF.out]; exact OO.out, NN.out⟩
  replace hlt : k < l.length := by omega
  obtain ⟨b, off, eA, bl, a0, a1, a2, a3, a4, a5⟩ := RV6.at_ HL.out hlt
  have HR : Hid (visB (rowAt l k) = true) := Lib.hid (by rw [rowAt_lt hlt]; exact HV.out _ (List.getElem_mem hlt))
  have hlen : L9.length ≤ 200 := by rw [HF.out]; exact Nat.le_trans (List.length_filter_le _ _) (by rw [List.length_take]; omega)
  have HT := Lib.hid (filter_take' (p := selB i j) hlt)
  rw [← HF.out] at HT
  generalize rowAt l k = r at *
  subst eA
  replace a0 := (NN.out.cell (p := ⟨b, off + k * 6, none⟩) bl).trans a0
  replace a1 := (NN.out.cell (p := ⟨b, off + k * 6 + 1, none⟩) bl).trans a1
  replace a2 := (NN.out.cell (p := ⟨b, off + k * 6 + 2, none⟩) bl).trans a2
  replace a3 := (NN.out.cell (p := ⟨b, off + k * 6 + 3, none⟩) bl).trans a3
  replace a4 := (NN.out.cell (p := ⟨b, off + k * 6 + 4, none⟩) bl).trans a4
  replace a5 := (NN.out.cell (p := ⟨b, off + k * 6 + 5, none⟩) bl).trans a5
  have lb := Nat.lt_of_lt_of_le bl NN.out.size
  have hkc : k < c := by omega
  have SW : Hid (w.heap.size ≤ wr.heap.size) := Lib.hid NN.out.size
  by_cases h : r.i = i ∧ r.j = j
  ·obtain ⟨h1, h2⟩ := h
   have hs : selB i j r = true := by simp [selB, h1, h2]
   rw [if_pos hs] at HT
   have q1 : (r.i == i) = true := by simp [h1]
   have q2 : (r.j == j) = true := by simp [h2]
   clear hs h1 h2
   go_wp2_with (at_builtin; refine wpList_gapp tyS rfl _ _ rfl w.heap.size _ L9 rfl (some ⟨wr.heap.size, 0, none⟩) 1 1 [r] rfl (OO.out.next (Bal (Below.refl _ _) _)) rfl (RV6.one (blk_new wr _)) (show L9.length + 1 ≤ 100000 by omega) (by rw [World.size_alloc]; have := SW.out; omega) ?_; intro v1 w1 o1 q1 _; obtain ⟨A1, c1, hv1, -⟩ := OG.form o1; rw [show (L9 ++ [r]).length = L9.length + 1 by simp] at hv1; subst hv1; have B1 := Lib.hid ((NN.out.alloc SW.out _).trans q1); have O1 := Lib.hid o1; clear o1 q1)
   refine ⟨⟨k + 1, L9 ++ [r], A1, c1, by omega, by go_num, by simp, Lib.hid HT.out.symm , Lib.hid (by simpa using O1.out), B1⟩, by simp [intOf]; omega⟩
  ·have hs : ¬ selB i j r = true := by simp only [selB, Bool.and_eq_true, decide_eq_true_eq]; exact h
   rw [if_neg hs, List.append_nil] at HT
   clear hs
   by_cases h1 : r.i = i
   ·have q1 : (r.i == i) = true := by simp [h1]
    have q2 : (r.j == j) = false := by rw [beq_eq_false_iff_ne]; omega
    clear h h1
    go_wp2_with fail
    exact ⟨⟨k + 1, L9, A9, c9, by omega, by go_num, rfl, Lib.hid HT.out.symm, OO, NN⟩, by simp [intOf]; omega⟩
   ·have q1 : (r.i == i) = false := by rw [beq_eq_false_iff_ne]; omega
    clear h h1
    go_wp2_with fail
    exact ⟨⟨k + 1, L9, A9, c9, by omega, by go_num, rfl, Lib.hid HT.out.symm, OO, NN⟩, by simp [intOf]; omega⟩
end Go.Proofs.Ytbbnkclajpaghaa
namespace Go.Proofs.Ytbbnkclajpaghaa
open Go.ChangeShapes Go.WideShapes Go.ChangeAt Go.RowKit
set_option linter.unusedVariables false
set_option linter.unusedSimpArgs false
attribute [local go_sem ↓] Go.wp_at_zero Go.wp_at_succ
def frp (b : Bool) (r : Vr) : List Value := [.int .i64 (makeF (ptN b r) r.dn).1, .int .i64 (makeF (ptN b r) r.dn).2.1]
def nrp (r : Vr) : List Value := [.int .i64 r.n]
theorem frp_len (b : Bool) (r : Vr) : (frp b r).length = 2 := rfl
theorem nrp_len (r : Vr) : (nrp r).length = 1 := rfl
theorem frp_one (b : Bool) (l : List Vr) : ∀ u ∈ l.flatMap (frp b), u.oneCell' = true := by
 intro u hu
 obtain ⟨s, _, hs⟩ := List.mem_flatMap.1 hu
 simp [frp] at hs
 rcases hs with rfl | rfl <;> rfl
theorem nrp_one (l : List Vr) : ∀ u ∈ l.flatMap nrp, u.oneCell' = true := by
 intro u hu
 obtain ⟨s, _, hs⟩ := List.mem_flatMap.1 hu
 simp [nrp] at hs
 rw [hs]; rfl
theorem tyF (b : Bool) : Ty 80 77 2 (frp b) := ⟨⟨.agg #[.int .i64 0, .int .i64 0], 16, by kernel_rfl, rfl, by decide⟩, by kernel_rfl, by decide, frp_len b, frp_one b⟩
theorem tyN : Ty 3 78 1 nrp := ⟨⟨.int .i64 0, 8, by kernel_rfl, rfl, by decide⟩, by kernel_rfl, by decide, nrp_len, nrp_one⟩
abbrev OF (b : Bool) (B : Nat) (w : World) (v : Value) (l : List Vr) : Prop := OG 80 2 (frp b) B w v l
abbrev ON (B : Nat) (w : World) (v : Value) (l : List Vr) : Prop := OG 3 1 nrp B w v l
set_option maxRecDepth 100000 in
set_option maxHeartbeats 8000000 in
theorem ravg_calls (b : Bool) {A An : Option Addr} {c cn : Nat} {l : List Vr} {w : World} (hx : OF b 0 w (.slice A l.length c) l) (hy : ON 0 w (.slice An l.length cn) l) (hn : l.length ≤ 200) (hv : ∀ r ∈ l, visB r = true) :
  Calls Try.prog 43 #[.slice A l.length c, .slice An l.length cn] w fun e w' => e = .returned (Rv (avgR b l)) ∧ Below w.heap.size w w' := by
 have NN := Lib.hid (Below.refl w.heap.size w)
 have HX := Lib.hid hx
 have HY := Lib.hid hy
 have HV := Lib.hid hv
 have RR : Hid (avgR b l = if (sumS b 0 1 l).2.2 ≠ 0 then (0, 0, (sumS b 0 1 l).2.2) else divR (sumS b 0 1 l).1 (sumS b 0 1 l).2.1 (wgt l) 1) := Lib.hid rfl
 generalize avgR b l = R at *
 clear hx hy hv
 go_enter Try.func43, Try.ntmps43
 go_upto_region 2 with fail
 have Z : Hid (((w.alloc (.cells #[.int .i64 0, .int .i64 0] 80)).alloc (.cells #[.int .i64 0, .int .i64 1] 80)).heap[w.heap.size]? = some (.cells #[.int .i64 0, .int .i64 0] 80)) := Lib.hid (blk_alloc (blk_new w _) _)
 have S : Hid (((w.alloc (.cells #[.int .i64 0, .int .i64 0] 80)).alloc (.cells #[.int .i64 0, .int .i64 1] 80)).heap[w.heap.size + 1]? = some (.cells #[.int .i64 0, .int .i64 1] 80)) := Lib.hid (blk_at _ (by simp))
 replace NN : Hid (Below w.heap.size w ((w.alloc (.cells #[.int .i64 0, .int .i64 0] 80)).alloc (.cells #[.int .i64 0, .int .i64 1] 80))) := Lib.hid (Bal (Bal NN.out _) _)
 generalize ((w.alloc (.cells #[.int .i64 0, .int .i64 0] 80)).alloc (.cells #[.int .i64 0, .int .i64 1] 80)) = W1 at *
 go_wp2_with fail
 go_loopw [7, 8] (fun q p wr => ∃ (k : Nat) (n d : Int), k ≤ l.length ∧ p = .int .i64 k ∧ q = .int .i64 (wgt (l.take k)) ∧ VF n d ∧ Hid (sumS b 0 1 l = sumS b n d (l.drop k)) ∧ Hid (Below w.heap.size w wr) ∧ Hid (wr.heap[w.heap.size]? = some (.cells #[.int .i64 0, .int .i64 0] 80)) ∧ Hid (wr.heap[w.heap.size + 1]? = some (.cells #[.int .i64 n, .int .i64 d] 80))) (fun _ p _ => l.length - (intOf p).toNat)
 case atStart => exact ⟨0, 0, 1, Nat.zero_le _, rfl, rfl, VF.int (by decide) (by decide), Lib.hid rfl, NN, Z, S⟩
 case round =>
  clear NN Z S
  obtain ⟨k, n, d, hk, rfl, rfl, vf, HS, NN, Z, S⟩ := hrel
  have VD := Lib.hid vf
  clear vf
  by_cases hlt : l.length ≤ k
  ·have e : k = l.length := by omega
   subst e
   rw [List.take_length]
   have HE : Hid (sumS b 0 1 l = (n, d, 0)) := Lib.hid (by rw [HS.out, List.drop_length]; rfl)
   rw [HE.out] at RR
   simp only [ne_eq, not_true_eq_false, if_false] at RR
   clear hk hlt HS
   generalize wgt l = N at *
   have c_S_0 := blk_cell S.out 0 _ rfl
   have f_S_0 := blk_frozen S.out 0
   have c_S_1 := blk_cell S.out 1 _ rfl
   have f_S_1 := blk_frozen S.out 1
   have l_S := blk_lt S.out
   go_wp2_with fail
   clear c_S_0 f_S_0 c_S_1 f_S_1 l_S
   refine (refDiv_calls n d N 1 _).mono ?_
   rintro e w2 ⟨rfl, hb⟩
   replace NN := Lib.hid (Bgo NN.out hb)
   replace Z := Lib.hid (blk_next hb Z.out)
   replace S := Lib.hid (blk_next hb S.out)
   clear hb
   rw [← RR.out]
   obtain ⟨r1, r2, r3⟩ := R
   have c_Z_0 := blk_cell Z.out 0 _ rfl
   have f_Z_0 := blk_frozen Z.out 0
   have c_Z_1 := blk_cell Z.out 1 _ rfl
   have f_Z_1 := blk_frozen Z.out 1
   have l_Z := blk_lt Z.out
   go_wp2_with fail
   clear c_Z_0 f_Z_0 c_Z_1 f_Z_1 l_Z
   replace Z : Hid (((w2.setCell ⟨w.heap.size, 0, none⟩ (.int .i64 r1)).setCell ⟨w.heap.size, 1, none⟩ (.int .i64 r2)).heap[w.heap.size]? = some (.cells #[.int .i64 r1, .int .i64 r2] 80)) := Lib.hid (blk_set (blk_set (Z.out) 0 (.int .i64 r1)) 1 (.int .i64 r2))
   replace S : Hid (((w2.setCell ⟨w.heap.size, 0, none⟩ (.int .i64 r1)).setCell ⟨w.heap.size, 1, none⟩ (.int .i64 r2)).heap[w.heap.size + 1]? = some (.cells #[.int .i64 n, .int .i64 d] 80)) := Lib.hid (blk_set_other (b' := w.heap.size) (blk_set_other (b' := w.heap.size) (S.out) (by omega) 0 (.int .i64 r1)) (by omega) 1 (.int .i64 r2))
   replace NN := Lib.hid (Bset1 (Bset1 (NN.out) (show w.heap.size ≤ w.heap.size by omega) 0 (.int .i64 r1)) (show w.heap.size ≤ w.heap.size by omega) 1 (.int .i64 r2))
   generalize ((w2.setCell ⟨w.heap.size, 0, none⟩ (.int .i64 r1)).setCell ⟨w.heap.size, 1, none⟩ (.int .i64 r2)) = W3 at *
   have c_Z_0 := blk_cell Z.out 0 _ rfl
   have c_Z_1 := blk_cell Z.out 1 _ rfl
   have l_Z := blk_lt Z.out
   exact bodyPost_ret (v := .tuple #[.agg #[.int .i64 r1, .int .i64 r2], .int .i64 r3]) (by simp [results, Try.results43, go_sem, c_Z_0, c_Z_1]) rfl ⟨rfl, NN.out⟩
  replace hlt : k < l.length := by omega
  obtain ⟨g1, c1, cur1, e1, -, hc1, hb1, hr1⟩ := OG.rec_ (HX.out.next NN.out) (frp_len b) hlt
  obtain ⟨g2, c2, cur2, e2, -, hc2, hb2, hr2⟩ := OG.rec_ (HY.out.next NN.out) nrp_len hlt
  injection e1 with eA eL eC
  subst eA eC
  injection e2 with eA eL2 eC
  subst eA eC
  clear eL eL2
  have l1 : g1 < w.heap.size := by obtain ⟨g3, c3, cur3, e3, -, -, hb, -⟩ := OG.rec_ HX.out (frp_len b) hlt; injection e3 with e3 _ _; injection e3 with e3; injection e3 with e3 _; rw [e3]; exact blk_lt hb
  have l2 : g2 < w.heap.size := by obtain ⟨g3, c3, cur3, e3, -, -, hb, -⟩ := OG.rec_ HY.out nrp_len hlt; injection e3 with e3 _ _; injection e3 with e3; injection e3 with e3 _; rw [e3]; exact blk_lt hb
  have hk1 : k < c := by omega
  have hk2 : k < cn := by omega
  have HR : Hid (visB (rowAt l k) = true) := Lib.hid (by rw [rowAt_lt hlt]; exact HV.out _ (List.getElem_mem hlt))
  have HD : Hid (sumS b n d (l.drop k) = if (rnd b n d (rowAt l k)).2.2 ≠ 0 then (0, 0, (rnd b n d (rowAt l k)).2.2) else sumS b (rnd b n d (rowAt l k)).1 (rnd b n d (rowAt l k)).2.1 (l.drop (k + 1))) := Lib.hid (by rw [List.drop_eq_getElem_cons hlt, rowAt_lt hlt]; rfl)
  have HG := Lib.hid (wgt_take hlt)
  have w1 := wgt_bd (l := l.take k) (fun x hx => HV.out x (List.mem_of_mem_take hx))
  have w2 := vis_val HR.out
  rw [List.length_take] at w1
  have w3 : 0 ≤ wgt (l.take k) + (rowAt l k).n ∧ wgt (l.take k) + (rowAt l k).n ≤ 1000000000 := by omega
  clear w1 w2
  rw [← rowAt_lt hlt] at hr1 hr2
  generalize wgt (l.take k) = N0 at *
  generalize rowAt l k = r at *
  have wN : IntKind.i64.wrap (N0 + r.n) = N0 + r.n := IntWalk.i64_in _ (by omega)
  obtain ⟨fn, fd, fe, hf⟩ : ∃ fn fd fe, makeF (ptN b r) r.dn = (fn, fd, fe) := ⟨_, _, _, rfl⟩
  obtain ⟨rn, rd, re, hrn⟩ : ∃ rn rd re, rnd b n d r = (rn, rd, re) := ⟨_, _, _, rfl⟩
  have HW := Lib.hid (rnd_val b VD.out HR.out hrn)
  rw [hrn] at HD
  have hrn' := hrn
  unfold rnd at hrn'
  rw [hf] at hrn'
  simp only at hrn'
  have CM := Lib.hid (fun W => refMul_calls r.n 1 fn fd W)
  obtain ⟨m1, m2, me, hm⟩ : ∃ p q k, mulR r.n 1 fn fd = (p, q, k) := ⟨_, _, _, rfl⟩
  rw [hm] at CM hrn'
  simp only at hrn'
  have HRN := Lib.hid hrn'
  clear hrn hrn' hm
  have HC1 : Hid (∀ j u, [(.int .i64 fn : Value), .int .i64 fd][j]? = some u → cur1[k * 2 + j]? = some u) := Lib.hid (fun j u h => hr1 j u (by unfold frp; rw [hf]; exact h))
  have HC2 : Hid (∀ j u, [(.int .i64 r.n : Value)][j]? = some u → cur2[k + j]? = some u) := Lib.hid (fun j u h => by have := hr2 j u h; rwa [Nat.mul_one] at this)
  have X1 := Lib.hid hb1
  have X2 := Lib.hid hb2
  clear hr1 hr2 hf hb1 hb2
  go_upto_region 5 with fail
  have HDRW := Lib.hid (Below.drew (Below.refl wr.heap.size wr))
  replace NN := Lib.hid (Bgo NN.out HDRW.out)
  replace X1 := Lib.hid (blk_next HDRW.out X1.out)
  replace X2 := Lib.hid (blk_next HDRW.out X2.out)
  replace Z := Lib.hid (blk_next HDRW.out Z.out)
  replace S := Lib.hid (blk_next HDRW.out S.out)
  clear HDRW
  have HAL : Hid (∀ kx9 : Nat, GK [(3, g2, .cells cur2 3), (8, g1, .cells cur1 80)] kx9 wr.drew) := Lib.hid (fun kx9 => fun px9 hp e => by
   simp only [List.mem_cons, List.not_mem_nil, or_false] at hp
   rcases hp with rfl | rfl
   ·exact X2.out
   ·exact X1.out
  )
  refine region_G (S := GK [(3, g2, .cells cur2 3), (8, g1, .cells cur1 80)]) (by kernel_rfl) ?_
  refine tG 0 (.slice (some ⟨g2, 0, none⟩) l.length cn) (some 19) (GK.grow _) rfl (YieldsIf.toG (Or.inl ⟨by rfl, ?_⟩)) (GK.drop (by simp)) ?_
  ·intro X hX
   clear hX
   go_simp
   skip
  try simp only [Act.put, zA, zB, zC]
  refine tG 1 (.int .i64 k) (some 20) (GK.grow _) rfl (YieldsIf.toG (Or.inl ⟨by rfl, ?_⟩)) (GK.drop (by simp)) ?_
  ·intro X hX
   clear hX
   go_simp
   skip
  try simp only [Act.put, zA, zB, zC]
  refine tG 2 (.pointer (some ⟨g2, k, none⟩)) (some 21) (GK.grow _) rfl (YieldsIf.toG (Or.inl ⟨by rfl, ?_⟩)) (GK.drop (by simp)) ?_
  ·intro X hX
   clear hX
   go_simp
   skip
  try simp only [Act.put, zA, zB, zC]
  refine tG 3 (.int .i64 r.n) (some 22) (GK.grow _) rfl (YieldsIf.toG (Or.inl ⟨by rfl, ?_⟩)) (HAL.out 3) ?_
  ·intro X hX
   have hh := hX (3, g2, .cells cur2 3) (List.Mem.head _) rfl
   have hh0 := (blk_cell hh (k + 0) _ (HC2.out 0 _ rfl))
   simp only [Nat.add_zero] at hh0
   have hhl := blk_lt hh
   clear hh
   clear hX
   go_simp
   skip
  try simp only [Act.put, zA, zB, zC]
  refine tG 4 (.agg #[.int .i64 r.n, .int .i64 1]) (some 23) (GK.grow _) rfl (YieldsIf.toG (Or.inl ⟨by rfl, ?_⟩)) (GK.drop (by simp)) ?_
  ·intro X hX
   clear hX
   go_simp
   skip
  try simp only [Act.put, zA, zB, zC]
  refine tG 5 (.slice (some ⟨g1, 0, none⟩) l.length c) (some 24) (GK.grow _) rfl (YieldsIf.toG (Or.inl ⟨by rfl, ?_⟩)) (GK.drop (by simp)) ?_
  ·intro X hX
   clear hX
   go_simp
   skip
  try simp only [Act.put, zA, zB, zC]
  refine tG 6 (.int .i64 k) (some 25) (GK.grow _) rfl (YieldsIf.toG (Or.inl ⟨by rfl, ?_⟩)) (GK.drop (by simp)) ?_
  ·intro X hX
   clear hX
   go_simp
   skip
  try simp only [Act.put, zA, zB, zC]
  refine tG 7 (.pointer (some ⟨g1, k * 2, none⟩)) (some 26) (GK.grow _) rfl (YieldsIf.toG (Or.inl ⟨by rfl, ?_⟩)) (GK.drop (by simp)) ?_
  ·intro X hX
   clear hX
   go_simp
   skip
  try simp only [Act.put, zA, zB, zC]
  refine tG 8 (.agg #[.int .i64 fn, .int .i64 fd]) (some 27) (GK.grow _) rfl (YieldsIf.toG (Or.inl ⟨by rfl, ?_⟩)) (HAL.out 8) ?_
  ·intro X hX
   have hh := hX (8, g1, .cells cur1 80) (List.Mem.tail _ (List.Mem.head _)) rfl
   have hh0 := (blk_cell hh (k * 2 + 0) _ (HC1.out 0 _ rfl))
   simp only [Nat.add_zero] at hh0
   have hh1 := (blk_cell hh (k * 2 + 1) _ (HC1.out 1 _ rfl))
   have hhl := blk_lt hh
   clear hh
   clear hX
   go_simp
   skip
  try simp only [Act.put, zA, zB, zC]
  have CFn : ∀ (args : Array Value) (W : World), Sem.run Try.prog (callFunc 56 args) W = .ok (.enter 56 args) W := fun _ _ => by kernel_rfl
  refine tG 9 (.tuple #[.agg #[.int .i64 m1, .int .i64 m2], .int .i64 me]) (some 28) (GK.grow _) rfl (yieldsG_call 56 #[.agg #[.int .i64 r.n, .int .i64 1], .agg #[.int .i64 fn, .int .i64 fd]] (by rfl) ?_ (fun X hS => CM.out X)) (GK.drop (by simp)) ?_
  ·intro X hX
   clear hX
   go_simp
  clear CFn
  try simp only [Act.put, zA, zB, zC]
  refine tG 10 (.tuple #[.agg #[.int .i64 m1, .int .i64 m2], .int .i64 me]) (some 18) (GK.grow _) rfl (YieldsIf.toG (Or.inl ⟨by rfl, ?_⟩)) (GK.drop (by simp)) ?_
  ·intro X hX
   clear hX
   go_simp
   skip
  try simp only [Act.put, zA, zB, zC]
  refine tG 11 (.agg #[.int .i64 m1, .int .i64 m2]) (some 29) (GK.grow _) rfl (YieldsIf.toG (Or.inl ⟨by rfl, ?_⟩)) (GK.drop (by simp)) ?_
  ·intro X hX
   clear hX
   go_simp
   skip
  try simp only [Act.put, zA, zB, zC]
  refine tG 12 (.int .i64 me) (some 30) (GK.grow _) rfl (YieldsIf.toG (Or.inl ⟨by rfl, ?_⟩)) (GK.drop (by simp)) ?_
  ·intro X hX
   clear hX
   go_simp
   skip
  try simp only [Act.put, zA, zB, zC]
  refine only_G 13 (by kernel_rfl) rfl (fun X4 hX K' hK' => ?_)
  replace NN := Lib.hid (Bgo NN.out hX)
  replace X1 := Lib.hid (blk_next hX X1.out)
  replace X2 := Lib.hid (blk_next hX X2.out)
  replace Z := Lib.hid (blk_next hX Z.out)
  replace S := Lib.hid (blk_next hX S.out)
  replace HAL := Lib.hid (fun kx9 => GK.grow _ _ _ _ (HAL.out kx9) hX)
  clear hX
  go_simp
  refine hK'.out _ _ (fun _ _ h => h.alloc _) ?_
  clear hK' K'
  try simp only [Act.put, zA, zB, zC]
  have HB := Lib.hid (Bal (Below.refl X4.heap.size X4) (.cells #[.int .i64 0, .int .i64 0] 80))
  have VX : Hid ((X4.alloc (.cells #[.int .i64 0, .int .i64 0] 80)).heap[X4.heap.size]? = some (.cells #[.int .i64 0, .int .i64 0] 80)) := Lib.hid (blk_new X4 (.cells #[.int .i64 0, .int .i64 0] 80))
  have LT_VX : Hid (w.heap.size < X4.heap.size ∧ w.heap.size + 1 < X4.heap.size ∧ w.heap.size ≤ X4.heap.size) := Lib.hid ⟨blk_lt Z.out, blk_lt S.out, NN.out.size⟩
  replace NN := Lib.hid (Bgo NN.out HB.out)
  replace X1 := Lib.hid (blk_next HB.out X1.out)
  replace X2 := Lib.hid (blk_next HB.out X2.out)
  replace Z := Lib.hid (blk_next HB.out Z.out)
  replace S := Lib.hid (blk_next HB.out S.out)
  replace HAL := Lib.hid (fun kx9 => GK.grow _ _ _ _ (HAL.out kx9) HB.out)
  clear HB
  generalize X4.alloc (.cells #[.int .i64 0, .int .i64 0] 80) = W5 at *
  generalize X4.heap.size = gVX at *
  refine only_G 14 (by kernel_rfl) rfl (fun X6 hX K' hK' => ?_)
  replace NN := Lib.hid (Bgo NN.out hX)
  replace X1 := Lib.hid (blk_next hX X1.out)
  replace X2 := Lib.hid (blk_next hX X2.out)
  replace Z := Lib.hid (blk_next hX Z.out)
  replace S := Lib.hid (blk_next hX S.out)
  replace VX := Lib.hid (blk_next hX VX.out)
  replace HAL := Lib.hid (fun kx9 => GK.grow _ _ _ _ (HAL.out kx9) hX)
  clear hX
  have c_VX_0 := blk_cell VX.out 0 _ rfl
  have f_VX_0 := blk_frozen VX.out 0
  have c_VX_1 := blk_cell VX.out 1 _ rfl
  have f_VX_1 := blk_frozen VX.out 1
  have l_VX := blk_lt VX.out
  go_simp
  clear c_VX_0 f_VX_0 c_VX_1 f_VX_1 l_VX
  refine hK'.out _ _ (fun kk hk hS => ?_) ?_
  ·have HN : ∀ px9 ∈ ([(3, g2, .cells cur2 3), (8, g1, .cells cur1 80)] : List (Nat × Nat × Obj)), px9.1 = kk → px9.2.1 ≠ gVX := fun px9 hp e => by
    simp only [List.mem_cons, List.not_mem_nil, or_false] at hp
    rcases hp with rfl | rfl
    ·subst e
     exact bfl (by kernel_rfl) hk
    ·subst e
     exact bfl (by kernel_rfl) hk
   exact GK.set (GK.set hS HN) HN
  clear hK' K'
  try simp only [Act.put, zA, zB, zC]
  clear HAL
  replace X1 := Lib.hid (blk_set_other (b' := gVX) (blk_set_other (b' := gVX) (X1.out) (fun e => by first | omega | (have := LT_VX.out; omega)) 0 (.int .i64 m1)) (fun e => by first | omega | (have := LT_VX.out; omega)) 1 (.int .i64 m2))
  replace X2 := Lib.hid (blk_set_other (b' := gVX) (blk_set_other (b' := gVX) (X2.out) (fun e => by first | omega | (have := LT_VX.out; omega)) 0 (.int .i64 m1)) (fun e => by first | omega | (have := LT_VX.out; omega)) 1 (.int .i64 m2))
  replace Z : Hid (((X6.setCell ⟨gVX, 0, none⟩ (.int .i64 m1)).setCell ⟨gVX, 1, none⟩ (.int .i64 m2)).heap[w.heap.size]? = some (.cells #[.int .i64 0, .int .i64 0] 80)) := Lib.hid (blk_set_other (b' := gVX) (blk_set_other (b' := gVX) (Z.out) (by have := LT_VX.out; omega) 0 (.int .i64 m1)) (by have := LT_VX.out; omega) 1 (.int .i64 m2))
  replace S : Hid (((X6.setCell ⟨gVX, 0, none⟩ (.int .i64 m1)).setCell ⟨gVX, 1, none⟩ (.int .i64 m2)).heap[w.heap.size + 1]? = some (.cells #[.int .i64 n, .int .i64 d] 80)) := Lib.hid (blk_set_other (b' := gVX) (blk_set_other (b' := gVX) (S.out) (by have := LT_VX.out; omega) 0 (.int .i64 m1)) (by have := LT_VX.out; omega) 1 (.int .i64 m2))
  replace VX : Hid (((X6.setCell ⟨gVX, 0, none⟩ (.int .i64 m1)).setCell ⟨gVX, 1, none⟩ (.int .i64 m2)).heap[gVX]? = some (.cells #[.int .i64 m1, .int .i64 m2] 80)) := Lib.hid (blk_set (blk_set (VX.out) 0 (.int .i64 m1)) 1 (.int .i64 m2))
  replace NN := Lib.hid (Bset1 (Bset1 (NN.out) (show w.heap.size ≤ gVX by have := LT_VX.out; omega) 0 (.int .i64 m1)) (show w.heap.size ≤ gVX by have := LT_VX.out; omega) 1 (.int .i64 m2))
  generalize ((X6.setCell ⟨gVX, 0, none⟩ (.int .i64 m1)).setCell ⟨gVX, 1, none⟩ (.int .i64 m2)) = W7 at *
  refine tG 15 (.int .i64 me) (some 10) (GK.grow _) rfl (YieldsIf.toG (Or.inl ⟨by rfl, ?_⟩)) (GK.drop (by simp)) ?_
  ·intro X hX
   clear hX
   go_simp
   skip
  try simp only [Act.put, zA, zB, zC]
  refine done_G (by kernel_rfl) (fun X8 hX => ?_) _
  replace NN := Lib.hid (Bgo NN.out hX)
  replace X1 := Lib.hid (blk_next hX X1.out)
  replace X2 := Lib.hid (blk_next hX X2.out)
  replace Z := Lib.hid (blk_next hX Z.out)
  replace S := Lib.hid (blk_next hX S.out)
  replace VX := Lib.hid (blk_next hX VX.out)
  clear hX
  clear X1
  clear HC1 l1
  by_cases h9 : me = 0
  rotate_left
  ·have q9 : (me != 0) = true := by simpa using h9
   have HRE : Hid ((rn, rd, re) = (0, 0, me)) := Lib.hid (by rw [← HRN.out, if_pos h9])
   have HE : Hid (R = (0, 0, me)) := Lib.hid (by have h := HRE.out; injection h with _ h; injection h with _ h; subst h; rw [RR.out, HS.out, HD.out, if_pos h9]; simp only; rw [if_pos h9])
   clear RR HS HD HRN HRE HW CM
   clear X2 HC2
   have c_Z_0 := blk_cell Z.out 0 _ rfl
   have f_Z_0 := blk_frozen Z.out 0
   have c_Z_1 := blk_cell Z.out 1 _ rfl
   have f_Z_1 := blk_frozen Z.out 1
   have l_Z := blk_lt Z.out
   go_wp2_with fail
   clear c_Z_0 f_Z_0 c_Z_1 f_Z_1 l_Z
   replace Z : Hid (((X8.setCell ⟨w.heap.size, 0, none⟩ (.int .i64 0)).setCell ⟨w.heap.size, 1, none⟩ (.int .i64 0)).heap[w.heap.size]? = some (.cells #[.int .i64 0, .int .i64 0] 80)) := Lib.hid (blk_set (blk_set (Z.out) 0 (.int .i64 0)) 1 (.int .i64 0))
   replace S : Hid (((X8.setCell ⟨w.heap.size, 0, none⟩ (.int .i64 0)).setCell ⟨w.heap.size, 1, none⟩ (.int .i64 0)).heap[w.heap.size + 1]? = some (.cells #[.int .i64 n, .int .i64 d] 80)) := Lib.hid (blk_set_other (b' := w.heap.size) (blk_set_other (b' := w.heap.size) (S.out) (by omega) 0 (.int .i64 0)) (by omega) 1 (.int .i64 0))
   replace VX : Hid (((X8.setCell ⟨w.heap.size, 0, none⟩ (.int .i64 0)).setCell ⟨w.heap.size, 1, none⟩ (.int .i64 0)).heap[gVX]? = some (.cells #[.int .i64 m1, .int .i64 m2] 80)) := Lib.hid (blk_set_other (b' := w.heap.size) (blk_set_other (b' := w.heap.size) (VX.out) (by have := LT_VX.out; omega) 0 (.int .i64 0)) (by have := LT_VX.out; omega) 1 (.int .i64 0))
   replace NN := Lib.hid (Bset1 (Bset1 (NN.out) (show w.heap.size ≤ w.heap.size by omega) 0 (.int .i64 0)) (show w.heap.size ≤ w.heap.size by omega) 1 (.int .i64 0))
   generalize ((X8.setCell ⟨w.heap.size, 0, none⟩ (.int .i64 0)).setCell ⟨w.heap.size, 1, none⟩ (.int .i64 0)) = W9 at *
   have c_Z_0 := blk_cell Z.out 0 _ rfl
   have c_Z_1 := blk_cell Z.out 1 _ rfl
   have l_Z := blk_lt Z.out
   exact bodyPost_ret (v := .tuple #[.agg #[.int .i64 0, .int .i64 0], .int .i64 me]) (by simp [results, Try.results43, go_sem, c_Z_0, c_Z_1]) rfl ⟨by rw [HE.out], NN.out⟩
  subst h9
  have HRA : Hid (addR n d m1 m2 = (rn, rd, re)) := Lib.hid (by rw [← HRN.out, if_neg (by simp)])
  clear HRN CM
  have c_S_0 := blk_cell S.out 0 _ rfl
  have f_S_0 := blk_frozen S.out 0
  have c_S_1 := blk_cell S.out 1 _ rfl
  have f_S_1 := blk_frozen S.out 1
  have l_S := blk_lt S.out
  have c_VX_0 := blk_cell VX.out 0 _ rfl
  have f_VX_0 := blk_frozen VX.out 0
  have c_VX_1 := blk_cell VX.out 1 _ rfl
  have f_VX_1 := blk_frozen VX.out 1
  have l_VX := blk_lt VX.out
  go_wp2_with fail
  clear c_S_0 f_S_0 c_S_1 f_S_1 l_S c_VX_0 f_VX_0 c_VX_1 f_VX_1 l_VX
  refine (refAdd_calls n d m1 m2 _).mono ?_
  rintro e w10 ⟨rfl, hb⟩
  replace NN := Lib.hid (Bgo NN.out hb)
  replace X2 := Lib.hid (blk_next hb X2.out)
  replace Z := Lib.hid (blk_next hb Z.out)
  replace S := Lib.hid (blk_next hb S.out)
  replace VX := Lib.hid (blk_next hb VX.out)
  clear hb
  rw [HRA.out]
  clear VX
  have c_S_0 := blk_cell S.out 0 _ rfl
  have f_S_0 := blk_frozen S.out 0
  have c_S_1 := blk_cell S.out 1 _ rfl
  have f_S_1 := blk_frozen S.out 1
  have l_S := blk_lt S.out
  go_upto_region 9 with fail
  clear c_S_0 f_S_0 c_S_1 f_S_1 l_S
  replace X2 := Lib.hid (blk_set_other (b' := w.heap.size + 1) (blk_set_other (b' := w.heap.size + 1) (X2.out) (fun e => by first | omega | (have := LT_VX.out; omega)) 0 (.int .i64 rn)) (fun e => by first | omega | (have := LT_VX.out; omega)) 1 (.int .i64 rd))
  replace Z : Hid (((w10.setCell ⟨w.heap.size + 1, 0, none⟩ (.int .i64 rn)).setCell ⟨w.heap.size + 1, 1, none⟩ (.int .i64 rd)).heap[w.heap.size]? = some (.cells #[.int .i64 0, .int .i64 0] 80)) := Lib.hid (blk_set_other (b' := w.heap.size + 1) (blk_set_other (b' := w.heap.size + 1) (Z.out) (by omega) 0 (.int .i64 rn)) (by omega) 1 (.int .i64 rd))
  replace S : Hid (((w10.setCell ⟨w.heap.size + 1, 0, none⟩ (.int .i64 rn)).setCell ⟨w.heap.size + 1, 1, none⟩ (.int .i64 rd)).heap[w.heap.size + 1]? = some (.cells #[.int .i64 rn, .int .i64 rd] 80)) := Lib.hid (blk_set (blk_set (S.out) 0 (.int .i64 rn)) 1 (.int .i64 rd))
  replace NN := Lib.hid (Bset1 (Bset1 (NN.out) (show w.heap.size ≤ w.heap.size + 1 by omega) 0 (.int .i64 rn)) (show w.heap.size ≤ w.heap.size + 1 by omega) 1 (.int .i64 rd))
  generalize ((w10.setCell ⟨w.heap.size + 1, 0, none⟩ (.int .i64 rn)).setCell ⟨w.heap.size + 1, 1, none⟩ (.int .i64 rd)) = W11 at *
  by_cases h8 : re = 0
  rotate_left
  ·have q8 : (re != 0) = true := by simpa using h8
   have HE : Hid (R = (0, 0, re)) := Lib.hid (by rw [RR.out, HS.out, HD.out, if_pos h8]; simp only; rw [if_pos h8])
   clear RR HS HD HRA HW X2 HC2
   have c_Z_0 := blk_cell Z.out 0 _ rfl
   have f_Z_0 := blk_frozen Z.out 0
   have c_Z_1 := blk_cell Z.out 1 _ rfl
   have f_Z_1 := blk_frozen Z.out 1
   have l_Z := blk_lt Z.out
   go_wp2_with fail
   clear c_Z_0 f_Z_0 c_Z_1 f_Z_1 l_Z
   replace Z : Hid (((W11.setCell ⟨w.heap.size, 0, none⟩ (.int .i64 0)).setCell ⟨w.heap.size, 1, none⟩ (.int .i64 0)).heap[w.heap.size]? = some (.cells #[.int .i64 0, .int .i64 0] 80)) := Lib.hid (blk_set (blk_set (Z.out) 0 (.int .i64 0)) 1 (.int .i64 0))
   replace S : Hid (((W11.setCell ⟨w.heap.size, 0, none⟩ (.int .i64 0)).setCell ⟨w.heap.size, 1, none⟩ (.int .i64 0)).heap[w.heap.size + 1]? = some (.cells #[.int .i64 rn, .int .i64 rd] 80)) := Lib.hid (blk_set_other (b' := w.heap.size) (blk_set_other (b' := w.heap.size) (S.out) (by omega) 0 (.int .i64 0)) (by omega) 1 (.int .i64 0))
   replace NN := Lib.hid (Bset1 (Bset1 (NN.out) (show w.heap.size ≤ w.heap.size by omega) 0 (.int .i64 0)) (show w.heap.size ≤ w.heap.size by omega) 1 (.int .i64 0))
   generalize ((W11.setCell ⟨w.heap.size, 0, none⟩ (.int .i64 0)).setCell ⟨w.heap.size, 1, none⟩ (.int .i64 0)) = W12 at *
   have c_Z_0 := blk_cell Z.out 0 _ rfl
   have c_Z_1 := blk_cell Z.out 1 _ rfl
   have l_Z := blk_lt Z.out
   exact bodyPost_ret (v := .tuple #[.agg #[.int .i64 0, .int .i64 0], .int .i64 re]) (by simp [results, Try.results43, go_sem, c_Z_0, c_Z_1]) rfl ⟨by rw [HE.out], NN.out⟩
  subst h8
  rw [if_neg (by simp)] at HD
  have c20 := blk_cell X2.out (k + 0) _ (HC2.out 0 _ rfl)
  have l20 := blk_lt X2.out
  rw [Nat.add_zero] at c20
  go_wp2_with fail
  exact ⟨⟨k + 1, rn, rd, by omega, by go_num, by rw [HG.out], by rcases HW.out with h | h; exact absurd h (by decide); exact h.2.1, Lib.hid (HS.out.trans HD.out), NN, Z, S⟩, by simp [intOf]; omega⟩
end Go.Proofs.Ytbbnkclajpaghaa
namespace Go.Proofs.Ytbbnkclajpaghaa
open Go.ChangeShapes Go.WideShapes Go.ChangeAt Go.RowKit
set_option linter.unusedVariables false
set_option maxRecDepth 100000
set_option linter.unusedSimpArgs false
attribute [local go_sem ↓] Go.wp_at_zero Go.wp_at_succ
def GB (L : List (Nat × Nat × Obj)) (w0 : World) (k : Nat) (X : World) : Prop := GK L k X ∧ Below w0.heap.size w0 X
theorem GB.grow {L : List (Nat × Nat × Obj)} {w0 : World} : ∀ k (w X : World), GB L w0 k w → Below w.heap.size w X → GB L w0 k X := fun k w X h hb => ⟨GK.grow L k w X h.1 hb, below_go h.2 hb⟩
theorem GB.alloc {L : List (Nat × Nat × Obj)} {w0 : World} {k : Nat} {X : World} (h : GB L w0 k X) (o : Obj) : GB L w0 k (X.alloc o) := ⟨h.1.alloc o, Bal h.2 _⟩
theorem VF.len {n d : Int} (v : VF n d) : (textL n d).length ≤ 43 := by
 have h1 := Lib.itoa_length_le n (by have := v.n1; omega) (by have := v.n2; omega)
 have h2 := Lib.itoa_length_le d (by have := v.d1; omega) (by have := v.d2; omega)
 unfold textL
 split
 ·omega
 ·rw [List.length_append, List.length_cons]; omega
end Go.Proofs.Ytbbnkclajpaghaa
namespace Go.Proofs.Ytbbnkclajpaghaa
open Go.ChangeShapes Go.WideShapes Go.ChangeAt Go.RowKit
set_option linter.unusedVariables false
set_option maxRecDepth 100000
set_option linter.unusedSimpArgs false
attribute [local go_sem ↓] Go.wp_at_zero Go.wp_at_succ
set_option maxRecDepth 100000 in
set_option maxHeartbeats 8000000 in
theorem real_calls {r : Vr} (h : rowB r = true) (w : World) : Calls Try.prog 41 #[Cv r] w fun e w' => e = .returned (Fv (makeF r.re r.dn).1 (makeF r.re r.dn).2.1) ∧ Below w.heap.size w w' := by
 have NN := Lib.hid (Below.refl w.heap.size w)
 obtain ⟨-, -, hc, ⟨n1, d1, e1, -, -⟩, ⟨n2, d2, e2, -, -⟩, -⟩ := rowB_val h
 have hl := val_lim hc
 have C1 := Lib.hid (fun W => refMake_calls r.re r.dn W (by omega) (by omega) (by omega) (by omega))
 rw [e1] at C1 ⊢
 simp only
 clear h hc hl e1 e2
 go_enter Try.func41, Try.ntmps41
 go_wp2_with fail
 have V : Hid (((w.alloc (.cells #[.int .i64 r.re, .int .i64 r.im, .int .i64 r.dn] 24)).alloc (.cells #[.int .i64 0, .int .i64 0] 80)).heap[w.heap.size]? = some (.cells #[.int .i64 r.re, .int .i64 r.im, .int .i64 r.dn] 24)) := Lib.hid (blk_alloc (blk_new w _) _)
 have RE : Hid (((w.alloc (.cells #[.int .i64 r.re, .int .i64 r.im, .int .i64 r.dn] 24)).alloc (.cells #[.int .i64 0, .int .i64 0] 80)).heap[w.heap.size + 1]? = some (.cells #[.int .i64 0, .int .i64 0] 80)) := Lib.hid (blk_at _ (by simp))
 replace NN : Hid (Below w.heap.size w ((w.alloc (.cells #[.int .i64 r.re, .int .i64 r.im, .int .i64 r.dn] 24)).alloc (.cells #[.int .i64 0, .int .i64 0] 80))) := Lib.hid (Bal (Bal NN.out _) _)
 generalize ((w.alloc (.cells #[.int .i64 r.re, .int .i64 r.im, .int .i64 r.dn] 24)).alloc (.cells #[.int .i64 0, .int .i64 0] 80)) = W1 at *
 have c_V_0 := blk_cell V.out 0 _ rfl
 have f_V_0 := blk_frozen V.out 0
 have c_V_1 := blk_cell V.out 1 _ rfl
 have f_V_1 := blk_frozen V.out 1
 have c_V_2 := blk_cell V.out 2 _ rfl
 have f_V_2 := blk_frozen V.out 2
 have l_V := blk_lt V.out
 go_wp2_with fail
 clear c_V_0 f_V_0 c_V_1 f_V_1 c_V_2 f_V_2 l_V
 refine (C1.out _).mono ?_
 rintro e w2 ⟨rfl, hb⟩
 replace NN := Lib.hid (Bgo NN.out hb)
 replace V := Lib.hid (blk_next hb V.out)
 replace RE := Lib.hid (blk_next hb RE.out)
 clear hb
 have c_RE_0 := blk_cell RE.out 0 _ rfl
 have f_RE_0 := blk_frozen RE.out 0
 have c_RE_1 := blk_cell RE.out 1 _ rfl
 have f_RE_1 := blk_frozen RE.out 1
 have l_RE := blk_lt RE.out
 go_wp2_with fail
 clear c_RE_0 f_RE_0 c_RE_1 f_RE_1 l_RE
 have q0 := blk_cell (blk_alloc (blk_set (blk_set RE.out 0 (.int .i64 n1)) 1 (.int .i64 d1)) (.cells #[.int .i64 n1, .int .i64 d1] 80)) 0 _ rfl
 have q1 := blk_cell (blk_alloc (blk_set (blk_set RE.out 0 (.int .i64 n1)) 1 (.int .i64 d1)) (.cells #[.int .i64 n1, .int .i64 d1] 80)) 1 _ rfl
 exact bodyPost_ret (v := Fv n1 d1) (by simp [results, Try.results41, go_sem, q0, q1]) rfl ⟨rfl, Bal (Bset1 (Bset1 NN.out (Nat.le_succ _) 0 _) (Nat.le_succ _) 1 _) _⟩
set_option maxRecDepth 100000 in
set_option maxHeartbeats 8000000 in
theorem imag_calls {r : Vr} (h : rowB r = true) (w : World) : Calls Try.prog 42 #[Cv r] w fun e w' => e = .returned (Fv (makeF r.im r.dn).1 (makeF r.im r.dn).2.1) ∧ Below w.heap.size w w' := by
 have NN := Lib.hid (Below.refl w.heap.size w)
 obtain ⟨-, -, hc, ⟨n1, d1, e1, -, -⟩, ⟨n2, d2, e2, -, -⟩, -⟩ := rowB_val h
 have hl := val_lim hc
 have C1 := Lib.hid (fun W => refMake_calls r.im r.dn W (by omega) (by omega) (by omega) (by omega))
 rw [e2] at C1 ⊢
 simp only
 clear h hc hl e1 e2
 go_enter Try.func42, Try.ntmps42
 go_wp2_with fail
 have V : Hid (((w.alloc (.cells #[.int .i64 r.re, .int .i64 r.im, .int .i64 r.dn] 24)).alloc (.cells #[.int .i64 0, .int .i64 0] 80)).heap[w.heap.size]? = some (.cells #[.int .i64 r.re, .int .i64 r.im, .int .i64 r.dn] 24)) := Lib.hid (blk_alloc (blk_new w _) _)
 have RE : Hid (((w.alloc (.cells #[.int .i64 r.re, .int .i64 r.im, .int .i64 r.dn] 24)).alloc (.cells #[.int .i64 0, .int .i64 0] 80)).heap[w.heap.size + 1]? = some (.cells #[.int .i64 0, .int .i64 0] 80)) := Lib.hid (blk_at _ (by simp))
 replace NN : Hid (Below w.heap.size w ((w.alloc (.cells #[.int .i64 r.re, .int .i64 r.im, .int .i64 r.dn] 24)).alloc (.cells #[.int .i64 0, .int .i64 0] 80))) := Lib.hid (Bal (Bal NN.out _) _)
 generalize ((w.alloc (.cells #[.int .i64 r.re, .int .i64 r.im, .int .i64 r.dn] 24)).alloc (.cells #[.int .i64 0, .int .i64 0] 80)) = W1 at *
 have c_V_0 := blk_cell V.out 0 _ rfl
 have f_V_0 := blk_frozen V.out 0
 have c_V_1 := blk_cell V.out 1 _ rfl
 have f_V_1 := blk_frozen V.out 1
 have c_V_2 := blk_cell V.out 2 _ rfl
 have f_V_2 := blk_frozen V.out 2
 have l_V := blk_lt V.out
 go_wp2_with fail
 clear c_V_0 f_V_0 c_V_1 f_V_1 c_V_2 f_V_2 l_V
 refine (C1.out _).mono ?_
 rintro e w2 ⟨rfl, hb⟩
 replace NN := Lib.hid (Bgo NN.out hb)
 replace V := Lib.hid (blk_next hb V.out)
 replace RE := Lib.hid (blk_next hb RE.out)
 clear hb
 have c_RE_0 := blk_cell RE.out 0 _ rfl
 have f_RE_0 := blk_frozen RE.out 0
 have c_RE_1 := blk_cell RE.out 1 _ rfl
 have f_RE_1 := blk_frozen RE.out 1
 have l_RE := blk_lt RE.out
 go_wp2_with fail
 clear c_RE_0 f_RE_0 c_RE_1 f_RE_1 l_RE
 have q0 := blk_cell (blk_alloc (blk_set (blk_set RE.out 0 (.int .i64 n2)) 1 (.int .i64 d2)) (.cells #[.int .i64 n2, .int .i64 d2] 80)) 0 _ rfl
 have q1 := blk_cell (blk_alloc (blk_set (blk_set RE.out 0 (.int .i64 n2)) 1 (.int .i64 d2)) (.cells #[.int .i64 n2, .int .i64 d2] 80)) 1 _ rfl
 exact bodyPost_ret (v := Fv n2 d2) (by simp [results, Try.results42, go_sem, q0, q1]) rfl ⟨rfl, Bal (Bset1 (Bset1 NN.out (Nat.le_succ _) 0 _) (Nat.le_succ _) 1 _) _⟩
end Go.Proofs.Ytbbnkclajpaghaa
