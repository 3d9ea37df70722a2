/- Several texts in one. -/
import Derived.Test.YtbbnkclajpaghaaMA04
import Derived.Test.YtbbnkclajpaghaaMA05
import Derived.Test.YtbbnkclajpaghaaMA18
namespace Go.Proofs.Ytbbnkclajpaghaa
open Go.ChangeShapes Go.WideShapes Go.ChangeAt Go.RowKit
set_option linter.unusedVariables false
set_option maxRecDepth 100000
set_option linter.unusedSimpArgs false
attribute [local go_sem ↓] Go.wp_at_zero Go.wp_at_succ
theorem divides_one (w : World) : Calls Try.prog 60 #[.int .i64 1, .int .i64 1] w fun e w' => e = .returned (.bool true) ∧ Below w.heap.size w w' := by
 go_enter Try.func60, Try.ntmps60
 go_wp2_with fail
 go_ret
 exact ⟨rfl, Below.refl _ _⟩
theorem g3_val (d1 d2 : Int) : Cxm.g3 d1 d2 d2 = (Nat.gcd d1.natAbs d2.natAbs : Nat) := by
 simp only [Cxm.g3, Cxm.g2, Int.gcd, Int.natAbs_natCast]
 rw [Nat.gcd_assoc, Nat.gcd_self]
theorem quo_val {d1 d2 : Int} (h1 : 1 ≤ d1) (h2 : 1 ≤ d2) : (d1 * d2).tdiv (Cxm.g3 d1 d2 d2) = valD d1 d2 := by
 have h3 := Nat.gcd_pos_of_pos_left d2.natAbs (show 0 < d1.natAbs by omega)
 rw [g3_val, valD_mul h1 h2]
 exact Int.mul_tdiv_cancel_left _ (by omega)
def Rc (r : Int × Int × Int × Int) : Value := .tuple #[.agg #[.int .i64 r.1, .int .i64 r.2.1, .int .i64 r.2.2.1], .int .i64 r.2.2.2]
set_option maxRecDepth 100000 in
set_option maxHeartbeats 8000000 in
theorem rvalue_calls {n1 d1 n2 d2 : Int} (v1 : VF n1 d1) (v2 : VF n2 d2) (w : World) : Calls Try.prog 44 #[Fv n1 d1, Fv n2 d2] w fun e w' => e = .returned (Rc (valR n1 d1 n2 d2)) ∧ Below w.heap.size w w' := by
 have NN := Lib.hid (Below.refl w.heap.size w)
 have p1 := v1.d1
 have p2 := v2.d1
 have HG := valD_ge p1 p2
 have RN : Hid (valO n1 d1 n2 d2 = none → valR n1 d1 n2 d2 = (0, 0, 0, 16)) := Lib.hid valR_none
 by_cases h1 : 1000000000 < d1
 ·have R0 := Lib.hid (RN.out (valO_far (by omega)))
  generalize valR n1 d1 n2 d2 = R at *
  clear RN HG v1 v2
  have q1 : decide (1000000000 < d1) = true := decide_eq_true h1
  clear h1
  go_enter Try.func44, Try.ntmps44
  go_wp2_with fail
  have RE : Hid ((((w.alloc (.cells #[.int .i64 n1, .int .i64 d1] 80)).alloc (.cells #[.int .i64 n2, .int .i64 d2] 80)).alloc (.cells #[.int .i64 0, .int .i64 0, .int .i64 0] 24)).heap[w.heap.size]? = some (.cells #[.int .i64 n1, .int .i64 d1] 80)) := Lib.hid (blk_alloc (blk_alloc (blk_new w _) _) _)
  have IM : Hid ((((w.alloc (.cells #[.int .i64 n1, .int .i64 d1] 80)).alloc (.cells #[.int .i64 n2, .int .i64 d2] 80)).alloc (.cells #[.int .i64 0, .int .i64 0, .int .i64 0] 24)).heap[w.heap.size + 1]? = some (.cells #[.int .i64 n2, .int .i64 d2] 80)) := Lib.hid (blk_alloc (blk_at _ (by simp)) _)
  have Z : Hid ((((w.alloc (.cells #[.int .i64 n1, .int .i64 d1] 80)).alloc (.cells #[.int .i64 n2, .int .i64 d2] 80)).alloc (.cells #[.int .i64 0, .int .i64 0, .int .i64 0] 24)).heap[w.heap.size + 1 + 1]? = some (.cells #[.int .i64 0, .int .i64 0, .int .i64 0] 24)) := Lib.hid (blk_at _ (by simp))
  replace NN : Hid (Below w.heap.size w (((w.alloc (.cells #[.int .i64 n1, .int .i64 d1] 80)).alloc (.cells #[.int .i64 n2, .int .i64 d2] 80)).alloc (.cells #[.int .i64 0, .int .i64 0, .int .i64 0] 24))) := Lib.hid (Bal (Bal (Bal NN.out _) _) _)
  generalize (((w.alloc (.cells #[.int .i64 n1, .int .i64 d1] 80)).alloc (.cells #[.int .i64 n2, .int .i64 d2] 80)).alloc (.cells #[.int .i64 0, .int .i64 0, .int .i64 0] 24)) = W1 at *
  have c_RE_0 := blk_cell RE.out 0 _ rfl
  have f_RE_0 := blk_frozen RE.out 0
  have c_RE_1 := blk_cell RE.out 1 _ rfl
  have f_RE_1 := blk_frozen RE.out 1
  have l_RE := blk_lt RE.out
  have c_IM_0 := blk_cell IM.out 0 _ rfl
  have f_IM_0 := blk_frozen IM.out 0
  have c_IM_1 := blk_cell IM.out 1 _ rfl
  have f_IM_1 := blk_frozen IM.out 1
  have l_IM := blk_lt IM.out
  have c_Z_0 := blk_cell Z.out 0 _ rfl
  have f_Z_0 := blk_frozen Z.out 0
  have c_Z_1 := blk_cell Z.out 1 _ rfl
  have f_Z_1 := blk_frozen Z.out 1
  have c_Z_2 := blk_cell Z.out 2 _ rfl
  have f_Z_2 := blk_frozen Z.out 2
  have l_Z := blk_lt Z.out
  go_wp2_with fail
  clear c_RE_0 f_RE_0 c_RE_1 f_RE_1 l_RE c_IM_0 f_IM_0 c_IM_1 f_IM_1 l_IM c_Z_0 f_Z_0 c_Z_1 f_Z_1 c_Z_2 f_Z_2 l_Z
  skip
  have c_Z_0 := blk_cell Z.out 0 _ rfl
  have c_Z_1 := blk_cell Z.out 1 _ rfl
  have c_Z_2 := blk_cell Z.out 2 _ rfl
  have l_Z := blk_lt Z.out
  exact bodyPost_ret (v := .tuple #[.agg #[.int .i64 0, .int .i64 0, .int .i64 0], .int .i64 16]) (by simp [results, Try.results44, go_sem, c_Z_0, c_Z_1, c_Z_2]) rfl ⟨by rw [R0.out]; rfl, NN.out⟩
 have q1 : decide (1000000000 < d1) = false := decide_eq_false h1
 by_cases h2 : 1000000000 < d2
 ·have R0 := Lib.hid (RN.out (valO_far (by omega)))
  generalize valR n1 d1 n2 d2 = R at *
  clear RN HG v1 v2
  have q2 : decide (1000000000 < d2) = true := decide_eq_true h2
  clear h1 h2
  go_enter Try.func44, Try.ntmps44
  go_wp2_with fail
  have RE : Hid ((((w.alloc (.cells #[.int .i64 n1, .int .i64 d1] 80)).alloc (.cells #[.int .i64 n2, .int .i64 d2] 80)).alloc (.cells #[.int .i64 0, .int .i64 0, .int .i64 0] 24)).heap[w.heap.size]? = some (.cells #[.int .i64 n1, .int .i64 d1] 80)) := Lib.hid (blk_alloc (blk_alloc (blk_new w _) _) _)
  have IM : Hid ((((w.alloc (.cells #[.int .i64 n1, .int .i64 d1] 80)).alloc (.cells #[.int .i64 n2, .int .i64 d2] 80)).alloc (.cells #[.int .i64 0, .int .i64 0, .int .i64 0] 24)).heap[w.heap.size + 1]? = some (.cells #[.int .i64 n2, .int .i64 d2] 80)) := Lib.hid (blk_alloc (blk_at _ (by simp)) _)
  have Z : Hid ((((w.alloc (.cells #[.int .i64 n1, .int .i64 d1] 80)).alloc (.cells #[.int .i64 n2, .int .i64 d2] 80)).alloc (.cells #[.int .i64 0, .int .i64 0, .int .i64 0] 24)).heap[w.heap.size + 1 + 1]? = some (.cells #[.int .i64 0, .int .i64 0, .int .i64 0] 24)) := Lib.hid (blk_at _ (by simp))
  replace NN : Hid (Below w.heap.size w (((w.alloc (.cells #[.int .i64 n1, .int .i64 d1] 80)).alloc (.cells #[.int .i64 n2, .int .i64 d2] 80)).alloc (.cells #[.int .i64 0, .int .i64 0, .int .i64 0] 24))) := Lib.hid (Bal (Bal (Bal NN.out _) _) _)
  generalize (((w.alloc (.cells #[.int .i64 n1, .int .i64 d1] 80)).alloc (.cells #[.int .i64 n2, .int .i64 d2] 80)).alloc (.cells #[.int .i64 0, .int .i64 0, .int .i64 0] 24)) = W2 at *
  have c_RE_0 := blk_cell RE.out 0 _ rfl
  have f_RE_0 := blk_frozen RE.out 0
  have c_RE_1 := blk_cell RE.out 1 _ rfl
  have f_RE_1 := blk_frozen RE.out 1
  have l_RE := blk_lt RE.out
  have c_IM_0 := blk_cell IM.out 0 _ rfl
  have f_IM_0 := blk_frozen IM.out 0
  have c_IM_1 := blk_cell IM.out 1 _ rfl
  have f_IM_1 := blk_frozen IM.out 1
  have l_IM := blk_lt IM.out
  have c_Z_0 := blk_cell Z.out 0 _ rfl
  have f_Z_0 := blk_frozen Z.out 0
  have c_Z_1 := blk_cell Z.out 1 _ rfl
  have f_Z_1 := blk_frozen Z.out 1
  have c_Z_2 := blk_cell Z.out 2 _ rfl
  have f_Z_2 := blk_frozen Z.out 2
  have l_Z := blk_lt Z.out
  go_wp2_with fail
  clear c_RE_0 f_RE_0 c_RE_1 f_RE_1 l_RE c_IM_0 f_IM_0 c_IM_1 f_IM_1 l_IM c_Z_0 f_Z_0 c_Z_1 f_Z_1 c_Z_2 f_Z_2 l_Z
  skip
  have c_Z_0 := blk_cell Z.out 0 _ rfl
  have c_Z_1 := blk_cell Z.out 1 _ rfl
  have c_Z_2 := blk_cell Z.out 2 _ rfl
  have l_Z := blk_lt Z.out
  exact bodyPost_ret (v := .tuple #[.agg #[.int .i64 0, .int .i64 0, .int .i64 0], .int .i64 16]) (by simp [results, Try.results44, go_sem, c_Z_0, c_Z_1, c_Z_2]) rfl ⟨by rw [R0.out]; rfl, NN.out⟩
 have q2 : decide (1000000000 < d2) = false := decide_eq_false h2
 have CC := Lib.hid (fun W => common_calls d1 d2 d2 (by omega) (by omega) (by omega) (by omega) (by omega) (by omega) W)
 have QV := quo_val p1 p2
 have DP := valD_pos p1 p2
 have GV := g3_val d1 d2
 have G0 : ¬ Cxm.g3 d1 d2 d2 = 0 := by rw [GV]; have := Nat.gcd_pos_of_pos_left d2.natAbs (show 0 < d1.natAbs by omega); omega
 clear GV
 have PB : 0 ≤ d1 * d2 ∧ d1 * d2 ≤ 1000000000000000000 := ⟨Int.mul_nonneg (by omega) (by omega), by have := Int.mul_le_mul (show d1 ≤ 1000000000 by omega) (show d2 ≤ 1000000000 by omega) (by omega) (by omega); omega⟩
 have DB : valD d1 d2 ≤ 1000000000000000000 := by rw [← QV]; rw [Int.tdiv_eq_ediv_of_nonneg PB.1]; exact Int.le_trans (Int.ediv_le_self _ PB.1) PB.2
 have M1 := Lib.hid (fun (h : valD d1 d2 ≤ 1000000000) => mul_part v1 DP h (valD_dvd d1 d2).1)
 have M2 := Lib.hid (fun (h : valD d1 d2 ≤ 1000000000) => mul_part v2 DP h (valD_dvd d1 d2).2)
 have C1 := Lib.hid (fun D W => refMul_calls n1 d1 D 1 W)
 have C2 := Lib.hid (fun D W => refMul_calls n2 d2 D 1 W)
 have VF0 := Lib.hid (fun (h : 1000000000 < valD d1 d2) => RN.out (valO_far h))
 have VO := Lib.hid (fun h => RN.out (valO_out (n1 := n1) (d1 := d1) (n2 := n2) (d2 := d2) h))
 have VN := Lib.hid (fun h => RN.out (valO_no (n1 := n1) (d1 := d1) (n2 := n2) (d2 := d2) h))
 have VY := Lib.hid (fun h => valR_some (valO_yes (n1 := n1) (d1 := d1) (n2 := n2) (d2 := d2) h))
 clear RN HG h1 h2 v1 v2
 generalize valR n1 d1 n2 d2 = R at *
 generalize Cxm.g3 d1 d2 d2 = G at *
 obtain ⟨P, hP⟩ : ∃ P, d1 * d2 = P := ⟨_, rfl⟩
 rw [hP] at QV PB
 generalize n1 * (valD d1 d2 / d1) = A at *
 generalize n2 * (valD d1 d2 / d2) = B at *
 generalize valD d1 d2 = D at *
 have wP : IntKind.i64.wrap P = P := IntWalk.i64_in _ (by omega)
 have wD : IntKind.i64.wrap D = D := IntWalk.i64_in _ (by omega)
 go_enter Try.func44, Try.ntmps44
 go_wp2_with fail
 have RE : Hid ((((w.alloc (.cells #[.int .i64 n1, .int .i64 d1] 80)).alloc (.cells #[.int .i64 n2, .int .i64 d2] 80)).alloc (.cells #[.int .i64 0, .int .i64 0, .int .i64 0] 24)).heap[w.heap.size]? = some (.cells #[.int .i64 n1, .int .i64 d1] 80)) := Lib.hid (blk_alloc (blk_alloc (blk_new w _) _) _)
 have IM : Hid ((((w.alloc (.cells #[.int .i64 n1, .int .i64 d1] 80)).alloc (.cells #[.int .i64 n2, .int .i64 d2] 80)).alloc (.cells #[.int .i64 0, .int .i64 0, .int .i64 0] 24)).heap[w.heap.size + 1]? = some (.cells #[.int .i64 n2, .int .i64 d2] 80)) := Lib.hid (blk_alloc (blk_at _ (by simp)) _)
 have Z : Hid ((((w.alloc (.cells #[.int .i64 n1, .int .i64 d1] 80)).alloc (.cells #[.int .i64 n2, .int .i64 d2] 80)).alloc (.cells #[.int .i64 0, .int .i64 0, .int .i64 0] 24)).heap[w.heap.size + 1 + 1]? = some (.cells #[.int .i64 0, .int .i64 0, .int .i64 0] 24)) := Lib.hid (blk_at _ (by simp))
 replace NN : Hid (Below w.heap.size w (((w.alloc (.cells #[.int .i64 n1, .int .i64 d1] 80)).alloc (.cells #[.int .i64 n2, .int .i64 d2] 80)).alloc (.cells #[.int .i64 0, .int .i64 0, .int .i64 0] 24))) := Lib.hid (Bal (Bal (Bal NN.out _) _) _)
 generalize (((w.alloc (.cells #[.int .i64 n1, .int .i64 d1] 80)).alloc (.cells #[.int .i64 n2, .int .i64 d2] 80)).alloc (.cells #[.int .i64 0, .int .i64 0, .int .i64 0] 24)) = W3 at *
 have c_RE_0 := blk_cell RE.out 0 _ rfl
 have f_RE_0 := blk_frozen RE.out 0
 have c_RE_1 := blk_cell RE.out 1 _ rfl
 have f_RE_1 := blk_frozen RE.out 1
 have l_RE := blk_lt RE.out
 have c_IM_0 := blk_cell IM.out 0 _ rfl
 have f_IM_0 := blk_frozen IM.out 0
 have c_IM_1 := blk_cell IM.out 1 _ rfl
 have f_IM_1 := blk_frozen IM.out 1
 have l_IM := blk_lt IM.out
 go_upto_region 3 with fail
 clear c_RE_0 f_RE_0 c_RE_1 f_RE_1 l_RE c_IM_0 f_IM_0 c_IM_1 f_IM_1 l_IM
 have HDRW := Lib.hid (Below.drew (Below.refl W3.heap.size W3))
 replace NN := Lib.hid (Bgo NN.out HDRW.out)
 replace RE := Lib.hid (blk_next HDRW.out RE.out)
 replace IM := Lib.hid (blk_next HDRW.out IM.out)
 replace Z := Lib.hid (blk_next HDRW.out Z.out)
 clear HDRW
 have HAL : Hid (∀ kx9 : Nat, GK [(1, w.heap.size, .cells #[.int .i64 n1, .int .i64 d1] 80), (3, w.heap.size + 1, .cells #[.int .i64 n2, .int .i64 d2] 80), (6, w.heap.size, .cells #[.int .i64 n1, .int .i64 d1] 80), (8, w.heap.size + 1, .cells #[.int .i64 n2, .int .i64 d2] 80), (10, w.heap.size + 1, .cells #[.int .i64 n2, .int .i64 d2] 80)] kx9 W3.drew) := Lib.hid (fun kx9 => fun px9 hp e => by
  simp only [List.mem_cons, List.not_mem_nil, or_false] at hp
  rcases hp with rfl | rfl | rfl | rfl | rfl
  ·exact RE.out
  ·exact IM.out
  ·exact RE.out
  ·exact IM.out
  ·exact IM.out
 )
 refine region_G (S := GK [(1, w.heap.size, .cells #[.int .i64 n1, .int .i64 d1] 80), (3, w.heap.size + 1, .cells #[.int .i64 n2, .int .i64 d2] 80), (6, w.heap.size, .cells #[.int .i64 n1, .int .i64 d1] 80), (8, w.heap.size + 1, .cells #[.int .i64 n2, .int .i64 d2] 80), (10, w.heap.size + 1, .cells #[.int .i64 n2, .int .i64 d2] 80)]) (by kernel_rfl) ?_
 refine tG 0 (.pointer (some ⟨w.heap.size, 1, none⟩)) (some 21) (GK.grow _) rfl (YieldsIf.toG (Or.inl ⟨by rfl, ?_⟩)) (GK.drop (by simp)) ?_
 ·intro X hX
  clear hX
  go_simp
 try simp only [Act.put, zA, zB, zC]
 refine tG 1 (.int .i64 d1) (some 22) (GK.grow _) rfl (YieldsIf.toG (Or.inl ⟨by rfl, ?_⟩)) (HAL.out 1) ?_
 ·intro X hX
  have hh := hX (1, w.heap.size, .cells #[.int .i64 n1, .int .i64 d1] 80) (List.Mem.head _) rfl
  have hh0 := blk_cell hh 1 _ rfl
  have hhl := blk_lt hh
  clear hh
  clear hX
  go_simp
 try simp only [Act.put, zA, zB, zC]
 refine tG 2 (.pointer (some ⟨w.heap.size + 1, 1, none⟩)) (some 23) (GK.grow _) rfl (YieldsIf.toG (Or.inl ⟨by rfl, ?_⟩)) (GK.drop (by simp)) ?_
 ·intro X hX
  clear hX
  go_simp
 try simp only [Act.put, zA, zB, zC]
 refine tG 3 (.int .i64 d2) (some 24) (GK.grow _) rfl (YieldsIf.toG (Or.inl ⟨by rfl, ?_⟩)) (HAL.out 3) ?_
 ·intro X hX
  have hh := hX (3, w.heap.size + 1, .cells #[.int .i64 n2, .int .i64 d2] 80) (List.Mem.tail _ (List.Mem.head _)) rfl
  have hh0 := blk_cell hh 1 _ rfl
  have hhl := blk_lt hh
  clear hh
  clear hX
  go_simp
 try simp only [Act.put, zA, zB, zC]
 refine tG 4 (.int .i64 P) (some 25) (GK.grow _) rfl (YieldsIf.toG (Or.inl ⟨by rfl, ?_⟩)) (GK.drop (by simp)) ?_
 ·intro X hX
  clear hX
  go_simp
 try simp only [Act.put, zA, zB, zC]
 refine tG 5 (.pointer (some ⟨w.heap.size, 1, none⟩)) (some 26) (GK.grow _) rfl (YieldsIf.toG (Or.inl ⟨by rfl, ?_⟩)) (GK.drop (by simp)) ?_
 ·intro X hX
  clear hX
  go_simp
 try simp only [Act.put, zA, zB, zC]
 refine tG 6 (.int .i64 d1) (some 27) (GK.grow _) rfl (YieldsIf.toG (Or.inl ⟨by rfl, ?_⟩)) (HAL.out 6) ?_
 ·intro X hX
  have hh := hX (6, w.heap.size, .cells #[.int .i64 n1, .int .i64 d1] 80) (List.Mem.tail _ (List.Mem.tail _ (List.Mem.head _))) rfl
  have hh0 := blk_cell hh 1 _ rfl
  have hhl := blk_lt hh
  clear hh
  clear hX
  go_simp
 try simp only [Act.put, zA, zB, zC]
 refine tG 7 (.pointer (some ⟨w.heap.size + 1, 1, none⟩)) (some 28) (GK.grow _) rfl (YieldsIf.toG (Or.inl ⟨by rfl, ?_⟩)) (GK.drop (by simp)) ?_
 ·intro X hX
  clear hX
  go_simp
 try simp only [Act.put, zA, zB, zC]
 refine tG 8 (.int .i64 d2) (some 29) (GK.grow _) rfl (YieldsIf.toG (Or.inl ⟨by rfl, ?_⟩)) (HAL.out 8) ?_
 ·intro X hX
  have hh := hX (8, w.heap.size + 1, .cells #[.int .i64 n2, .int .i64 d2] 80) (List.Mem.tail _ (List.Mem.tail _ (List.Mem.tail _ (List.Mem.head _)))) rfl
  have hh0 := blk_cell hh 1 _ rfl
  have hhl := blk_lt hh
  clear hh
  clear hX
  go_simp
 try simp only [Act.put, zA, zB, zC]
 refine tG 9 (.pointer (some ⟨w.heap.size + 1, 1, none⟩)) (some 30) (GK.grow _) rfl (YieldsIf.toG (Or.inl ⟨by rfl, ?_⟩)) (GK.drop (by simp)) ?_
 ·intro X hX
  clear hX
  go_simp
 try simp only [Act.put, zA, zB, zC]
 refine tG 10 (.int .i64 d2) (some 31) (GK.grow _) rfl (YieldsIf.toG (Or.inl ⟨by rfl, ?_⟩)) (HAL.out 10) ?_
 ·intro X hX
  have hh := hX (10, w.heap.size + 1, .cells #[.int .i64 n2, .int .i64 d2] 80) (List.Mem.tail _ (List.Mem.tail _ (List.Mem.tail _ (List.Mem.tail _ (List.Mem.head _))))) rfl
  have hh0 := blk_cell hh 1 _ rfl
  have hhl := blk_lt hh
  clear hh
  clear hX
  go_simp
 try simp only [Act.put, zA, zB, zC]
 have CFn : ∀ (args : Array Value) (W : World), Sem.run Try.prog (callFunc 59 args) W = .ok (.enter 59 args) W := fun _ _ => by kernel_rfl
 refine tG 11 (.int .i64 G) (some 32) (GK.grow _) rfl (yieldsG_call 59 #[.int .i64 d1, .int .i64 d2, .int .i64 d2] (by rfl) ?_ (fun X hS => CC.out X)) (GK.drop (by simp)) ?_
 ·intro X hX
  clear hX
  go_simp
 clear CFn
 try simp only [Act.put, zA, zB, zC]
 refine tG 12 (.int .i64 D) (some 33) (GK.grow _) rfl (YieldsIf.toG (Or.inl ⟨by rfl, ?_⟩)) (GK.drop (by simp)) ?_
 ·intro X hX
  clear hX
  go_simp
 try simp only [Act.put, zA, zB, zC]
 refine tG 13 (.int .i64 D) (some 6) (GK.grow _) rfl (YieldsIf.toG (Or.inl ⟨by rfl, ?_⟩)) (GK.drop (by simp)) ?_
 ·intro X hX
  clear hX
  go_simp
 try simp only [Act.put, zA, zB, zC]
 clear HAL
 refine done_G (by kernel_rfl) (fun X4 hX => ?_) _
 replace NN := Lib.hid (Bgo NN.out hX)
 replace RE := Lib.hid (blk_next hX RE.out)
 replace IM := Lib.hid (blk_next hX IM.out)
 replace Z := Lib.hid (blk_next hX Z.out)
 clear hX
 by_cases h3 : 1000000000 < D
 ·have q3 : decide (1000000000 < D) = true := decide_eq_true h3
  have R0 := Lib.hid (VF0.out h3)
  clear VF0 VO VN VY M1 M2 C1 C2 CC h3
  have c_Z_0 := blk_cell Z.out 0 _ rfl
  have f_Z_0 := blk_frozen Z.out 0
  have c_Z_1 := blk_cell Z.out 1 _ rfl
  have f_Z_1 := blk_frozen Z.out 1
  have c_Z_2 := blk_cell Z.out 2 _ rfl
  have f_Z_2 := blk_frozen Z.out 2
  have l_Z := blk_lt Z.out
  go_wp2_with fail
  clear c_Z_0 f_Z_0 c_Z_1 f_Z_1 c_Z_2 f_Z_2 l_Z
  replace RE : Hid ((((X4.setCell ⟨w.heap.size + 1 + 1, 0, none⟩ (.int .i64 0)).setCell ⟨w.heap.size + 1 + 1, 1, none⟩ (.int .i64 0)).setCell ⟨w.heap.size + 1 + 1, 2, none⟩ (.int .i64 0)).heap[w.heap.size]? = some (.cells #[.int .i64 n1, .int .i64 d1] 80)) := Lib.hid (blk_set_other (b' := w.heap.size + 1 + 1) (blk_set_other (b' := w.heap.size + 1 + 1) (blk_set_other (b' := w.heap.size + 1 + 1) (RE.out) (by omega) 0 (.int .i64 0)) (by omega) 1 (.int .i64 0)) (by omega) 2 (.int .i64 0))
  replace IM : Hid ((((X4.setCell ⟨w.heap.size + 1 + 1, 0, none⟩ (.int .i64 0)).setCell ⟨w.heap.size + 1 + 1, 1, none⟩ (.int .i64 0)).setCell ⟨w.heap.size + 1 + 1, 2, none⟩ (.int .i64 0)).heap[w.heap.size + 1]? = some (.cells #[.int .i64 n2, .int .i64 d2] 80)) := Lib.hid (blk_set_other (b' := w.heap.size + 1 + 1) (blk_set_other (b' := w.heap.size + 1 + 1) (blk_set_other (b' := w.heap.size + 1 + 1) (IM.out) (by omega) 0 (.int .i64 0)) (by omega) 1 (.int .i64 0)) (by omega) 2 (.int .i64 0))
  replace Z : Hid ((((X4.setCell ⟨w.heap.size + 1 + 1, 0, none⟩ (.int .i64 0)).setCell ⟨w.heap.size + 1 + 1, 1, none⟩ (.int .i64 0)).setCell ⟨w.heap.size + 1 + 1, 2, none⟩ (.int .i64 0)).heap[w.heap.size + 1 + 1]? = some (.cells #[.int .i64 0, .int .i64 0, .int .i64 0] 24)) := Lib.hid (blk_set (blk_set (blk_set (Z.out) 0 (.int .i64 0)) 1 (.int .i64 0)) 2 (.int .i64 0))
  replace NN := Lib.hid (Bset1 (Bset1 (Bset1 (NN.out) (show w.heap.size ≤ w.heap.size + 1 + 1 by omega) 0 (.int .i64 0)) (show w.heap.size ≤ w.heap.size + 1 + 1 by omega) 1 (.int .i64 0)) (show w.heap.size ≤ w.heap.size + 1 + 1 by omega) 2 (.int .i64 0))
  generalize (((X4.setCell ⟨w.heap.size + 1 + 1, 0, none⟩ (.int .i64 0)).setCell ⟨w.heap.size + 1 + 1, 1, none⟩ (.int .i64 0)).setCell ⟨w.heap.size + 1 + 1, 2, none⟩ (.int .i64 0)) = W5 at *
  have c_Z_0 := blk_cell Z.out 0 _ rfl
  have c_Z_1 := blk_cell Z.out 1 _ rfl
  have c_Z_2 := blk_cell Z.out 2 _ rfl
  have l_Z := blk_lt Z.out
  exact bodyPost_ret (v := .tuple #[.agg #[.int .i64 0, .int .i64 0, .int .i64 0], .int .i64 16]) (by simp [results, Try.results44, go_sem, c_Z_0, c_Z_1, c_Z_2]) rfl ⟨by rw [R0.out]; rfl, NN.out⟩
 have q3 : decide (1000000000 < D) = false := decide_eq_false h3
 replace M1 := Lib.hid (M1.out (by omega))
 replace M2 := Lib.hid (M2.out (by omega))
 clear VF0 CC QV
 replace C1 := Lib.hid (C1.out D)
 replace C2 := Lib.hid (C2.out D)
 rw [M1.out] at C1
 rw [M2.out] at C2
 clear M1 M2
 have c_RE_0 := blk_cell RE.out 0 _ rfl
 have f_RE_0 := blk_frozen RE.out 0
 have c_RE_1 := blk_cell RE.out 1 _ rfl
 have f_RE_1 := blk_frozen RE.out 1
 have l_RE := blk_lt RE.out
 go_wp2_with fail
 clear c_RE_0 f_RE_0 c_RE_1 f_RE_1 l_RE
 by_cases e1 : 1000000000000000000 < A.natAbs
 ·rw [if_pos e1] at C1
  have R0 := Lib.hid (VO.out (.inl (by omega)))
  obtain ⟨r, hr⟩ : ∃ r, (if 1000000000000000000 < B.natAbs then ((0, 0, 16) : Int × Int × Int) else (B, 1, 0)) = r := ⟨_, rfl⟩
  rw [hr] at C2
  obtain ⟨b1, b2, b3⟩ := r
  clear hr VO VN VY e1
  refine (C1.out _).mono ?_
  rintro e w6 ⟨rfl, hb⟩
  replace NN := Lib.hid (Bgo NN.out hb)
  replace RE := Lib.hid (blk_next hb RE.out)
  replace IM := Lib.hid (blk_next hb IM.out)
  replace Z := Lib.hid (blk_next hb Z.out)
  clear hb
  go_upto_region 7 with fail
  have HB := Lib.hid (show Below w6.heap.size w6 (w6.alloc (.cells #[.int .i64 0, .int .i64 0] 80)) from (Bal (Below.refl _ _) _))
  have VA : Hid ((w6.alloc (.cells #[.int .i64 0, .int .i64 0] 80)).heap[w6.heap.size]? = some (.cells #[.int .i64 0, .int .i64 0] 80)) := Lib.hid (blk_new w6 _)
  have LT_VA : Hid (w.heap.size < w6.heap.size ∧ w.heap.size + 1 < w6.heap.size ∧ w.heap.size + 1 + 1 < w6.heap.size ∧ w.heap.size ≤ w6.heap.size) := Lib.hid ⟨blk_lt RE.out, blk_lt IM.out, blk_lt Z.out, NN.out.size⟩
  replace NN := Lib.hid (Bgo NN.out HB.out)
  replace RE := Lib.hid (blk_next HB.out RE.out)
  replace IM := Lib.hid (blk_next HB.out IM.out)
  replace Z := Lib.hid (blk_next HB.out Z.out)
  clear HB
  have c_IM_0 := blk_cell IM.out 0 _ rfl
  have f_IM_0 := blk_frozen IM.out 0
  have c_IM_1 := blk_cell IM.out 1 _ rfl
  have f_IM_1 := blk_frozen IM.out 1
  have l_IM := blk_lt IM.out
  go_wp2_with fail
  clear c_IM_0 f_IM_0 c_IM_1 f_IM_1 l_IM
  generalize (w6.alloc (.cells #[.int .i64 0, .int .i64 0] 80)) = W7 at *
  generalize w6.heap.size = gA at *
  refine (C2.out _).mono ?_
  rintro e w8 ⟨rfl, hb⟩
  replace NN := Lib.hid (Bgo NN.out hb)
  replace RE := Lib.hid (blk_next hb RE.out)
  replace IM := Lib.hid (blk_next hb IM.out)
  replace Z := Lib.hid (blk_next hb Z.out)
  replace VA := Lib.hid (blk_next hb VA.out)
  clear hb
  go_upto_region 8 with fail
  have HB := Lib.hid (show Below w8.heap.size w8 (w8.alloc (.cells #[.int .i64 b1, .int .i64 b2] 80)) from (Bal (Below.refl _ _) _))
  have VB : Hid ((w8.alloc (.cells #[.int .i64 b1, .int .i64 b2] 80)).heap[w8.heap.size]? = some (.cells #[.int .i64 b1, .int .i64 b2] 80)) := Lib.hid (blk_new w8 _)
  have LT_VB : Hid (w.heap.size < w8.heap.size ∧ w.heap.size + 1 < w8.heap.size ∧ w.heap.size + 1 + 1 < w8.heap.size ∧ gA < w8.heap.size ∧ w.heap.size ≤ w8.heap.size) := Lib.hid ⟨blk_lt RE.out, blk_lt IM.out, blk_lt Z.out, blk_lt VA.out, NN.out.size⟩
  replace NN := Lib.hid (Bgo NN.out HB.out)
  replace RE := Lib.hid (blk_next HB.out RE.out)
  replace IM := Lib.hid (blk_next HB.out IM.out)
  replace Z := Lib.hid (blk_next HB.out Z.out)
  replace VA := Lib.hid (blk_next HB.out VA.out)
  clear HB
  have c_VA_0 := blk_cell VA.out 0 _ rfl
  have f_VA_0 := blk_frozen VA.out 0
  have c_VA_1 := blk_cell VA.out 1 _ rfl
  have f_VA_1 := blk_frozen VA.out 1
  have l_VA := blk_lt VA.out
  have c_Z_0 := blk_cell Z.out 0 _ rfl
  have f_Z_0 := blk_frozen Z.out 0
  have c_Z_1 := blk_cell Z.out 1 _ rfl
  have f_Z_1 := blk_frozen Z.out 1
  have c_Z_2 := blk_cell Z.out 2 _ rfl
  have f_Z_2 := blk_frozen Z.out 2
  have l_Z := blk_lt Z.out
  go_wp2_with fail
  clear c_VA_0 f_VA_0 c_VA_1 f_VA_1 l_VA c_Z_0 f_Z_0 c_Z_1 f_Z_1 c_Z_2 f_Z_2 l_Z
  generalize (w8.alloc (.cells #[.int .i64 b1, .int .i64 b2] 80)) = W9 at *
  generalize w8.heap.size = gB at *
  replace RE : Hid ((((W9.setCell ⟨w.heap.size + 1 + 1, 0, none⟩ (.int .i64 0)).setCell ⟨w.heap.size + 1 + 1, 1, none⟩ (.int .i64 0)).setCell ⟨w.heap.size + 1 + 1, 2, none⟩ (.int .i64 0)).heap[w.heap.size]? = some (.cells #[.int .i64 n1, .int .i64 d1] 80)) := Lib.hid (blk_set_other (b' := w.heap.size + 1 + 1) (blk_set_other (b' := w.heap.size + 1 + 1) (blk_set_other (b' := w.heap.size + 1 + 1) (RE.out) (by omega) 0 (.int .i64 0)) (by omega) 1 (.int .i64 0)) (by omega) 2 (.int .i64 0))
  replace IM : Hid ((((W9.setCell ⟨w.heap.size + 1 + 1, 0, none⟩ (.int .i64 0)).setCell ⟨w.heap.size + 1 + 1, 1, none⟩ (.int .i64 0)).setCell ⟨w.heap.size + 1 + 1, 2, none⟩ (.int .i64 0)).heap[w.heap.size + 1]? = some (.cells #[.int .i64 n2, .int .i64 d2] 80)) := Lib.hid (blk_set_other (b' := w.heap.size + 1 + 1) (blk_set_other (b' := w.heap.size + 1 + 1) (blk_set_other (b' := w.heap.size + 1 + 1) (IM.out) (by omega) 0 (.int .i64 0)) (by omega) 1 (.int .i64 0)) (by omega) 2 (.int .i64 0))
  replace Z : Hid ((((W9.setCell ⟨w.heap.size + 1 + 1, 0, none⟩ (.int .i64 0)).setCell ⟨w.heap.size + 1 + 1, 1, none⟩ (.int .i64 0)).setCell ⟨w.heap.size + 1 + 1, 2, none⟩ (.int .i64 0)).heap[w.heap.size + 1 + 1]? = some (.cells #[.int .i64 0, .int .i64 0, .int .i64 0] 24)) := Lib.hid (blk_set (blk_set (blk_set (Z.out) 0 (.int .i64 0)) 1 (.int .i64 0)) 2 (.int .i64 0))
  replace VA : Hid ((((W9.setCell ⟨w.heap.size + 1 + 1, 0, none⟩ (.int .i64 0)).setCell ⟨w.heap.size + 1 + 1, 1, none⟩ (.int .i64 0)).setCell ⟨w.heap.size + 1 + 1, 2, none⟩ (.int .i64 0)).heap[gA]? = some (.cells #[.int .i64 0, .int .i64 0] 80)) := Lib.hid (blk_set_other (b' := w.heap.size + 1 + 1) (blk_set_other (b' := w.heap.size + 1 + 1) (blk_set_other (b' := w.heap.size + 1 + 1) (VA.out) (by have := LT_VA.out; omega) 0 (.int .i64 0)) (by have := LT_VA.out; omega) 1 (.int .i64 0)) (by have := LT_VA.out; omega) 2 (.int .i64 0))
  replace VB : Hid ((((W9.setCell ⟨w.heap.size + 1 + 1, 0, none⟩ (.int .i64 0)).setCell ⟨w.heap.size + 1 + 1, 1, none⟩ (.int .i64 0)).setCell ⟨w.heap.size + 1 + 1, 2, none⟩ (.int .i64 0)).heap[gB]? = some (.cells #[.int .i64 b1, .int .i64 b2] 80)) := Lib.hid (blk_set_other (b' := w.heap.size + 1 + 1) (blk_set_other (b' := w.heap.size + 1 + 1) (blk_set_other (b' := w.heap.size + 1 + 1) (VB.out) (by have := LT_VB.out; omega) 0 (.int .i64 0)) (by have := LT_VB.out; omega) 1 (.int .i64 0)) (by have := LT_VB.out; omega) 2 (.int .i64 0))
  replace NN := Lib.hid (Bset1 (Bset1 (Bset1 (NN.out) (show w.heap.size ≤ w.heap.size + 1 + 1 by omega) 0 (.int .i64 0)) (show w.heap.size ≤ w.heap.size + 1 + 1 by omega) 1 (.int .i64 0)) (show w.heap.size ≤ w.heap.size + 1 + 1 by omega) 2 (.int .i64 0))
  generalize (((W9.setCell ⟨w.heap.size + 1 + 1, 0, none⟩ (.int .i64 0)).setCell ⟨w.heap.size + 1 + 1, 1, none⟩ (.int .i64 0)).setCell ⟨w.heap.size + 1 + 1, 2, none⟩ (.int .i64 0)) = W10 at *
  have c_Z_0 := blk_cell Z.out 0 _ rfl
  have c_Z_1 := blk_cell Z.out 1 _ rfl
  have c_Z_2 := blk_cell Z.out 2 _ rfl
  have l_Z := blk_lt Z.out
  exact bodyPost_ret (v := .tuple #[.agg #[.int .i64 0, .int .i64 0, .int .i64 0], .int .i64 16]) (by simp [results, Try.results44, go_sem, c_Z_0, c_Z_1, c_Z_2]) rfl ⟨by rw [R0.out]; rfl, NN.out⟩
 rw [if_neg e1] at C1
 by_cases e2 : 1000000000000000000 < B.natAbs
 ·rw [if_pos e2] at C2
  have R0 := Lib.hid (VO.out (.inr (by omega)))
  clear VO VN VY e1 e2
  refine (C1.out _).mono ?_
  rintro e w11 ⟨rfl, hb⟩
  replace NN := Lib.hid (Bgo NN.out hb)
  replace RE := Lib.hid (blk_next hb RE.out)
  replace IM := Lib.hid (blk_next hb IM.out)
  replace Z := Lib.hid (blk_next hb Z.out)
  clear hb
  go_upto_region 7 with fail
  have HB := Lib.hid (show Below w11.heap.size w11 (w11.alloc (.cells #[.int .i64 A, .int .i64 1] 80)) from (Bal (Below.refl _ _) _))
  have VA : Hid ((w11.alloc (.cells #[.int .i64 A, .int .i64 1] 80)).heap[w11.heap.size]? = some (.cells #[.int .i64 A, .int .i64 1] 80)) := Lib.hid (blk_new w11 _)
  have LT_VA : Hid (w.heap.size < w11.heap.size ∧ w.heap.size + 1 < w11.heap.size ∧ w.heap.size + 1 + 1 < w11.heap.size ∧ w.heap.size ≤ w11.heap.size) := Lib.hid ⟨blk_lt RE.out, blk_lt IM.out, blk_lt Z.out, NN.out.size⟩
  replace NN := Lib.hid (Bgo NN.out HB.out)
  replace RE := Lib.hid (blk_next HB.out RE.out)
  replace IM := Lib.hid (blk_next HB.out IM.out)
  replace Z := Lib.hid (blk_next HB.out Z.out)
  clear HB
  have c_IM_0 := blk_cell IM.out 0 _ rfl
  have f_IM_0 := blk_frozen IM.out 0
  have c_IM_1 := blk_cell IM.out 1 _ rfl
  have f_IM_1 := blk_frozen IM.out 1
  have l_IM := blk_lt IM.out
  go_wp2_with fail
  clear c_IM_0 f_IM_0 c_IM_1 f_IM_1 l_IM
  generalize (w11.alloc (.cells #[.int .i64 A, .int .i64 1] 80)) = W12 at *
  generalize w11.heap.size = gA at *
  refine (C2.out _).mono ?_
  rintro e w13 ⟨rfl, hb⟩
  replace NN := Lib.hid (Bgo NN.out hb)
  replace RE := Lib.hid (blk_next hb RE.out)
  replace IM := Lib.hid (blk_next hb IM.out)
  replace Z := Lib.hid (blk_next hb Z.out)
  replace VA := Lib.hid (blk_next hb VA.out)
  clear hb
  go_upto_region 8 with fail
  have HB := Lib.hid (show Below w13.heap.size w13 (w13.alloc (.cells #[.int .i64 0, .int .i64 0] 80)) from (Bal (Below.refl _ _) _))
  have VB : Hid ((w13.alloc (.cells #[.int .i64 0, .int .i64 0] 80)).heap[w13.heap.size]? = some (.cells #[.int .i64 0, .int .i64 0] 80)) := Lib.hid (blk_new w13 _)
  have LT_VB : Hid (w.heap.size < w13.heap.size ∧ w.heap.size + 1 < w13.heap.size ∧ w.heap.size + 1 + 1 < w13.heap.size ∧ gA < w13.heap.size ∧ w.heap.size ≤ w13.heap.size) := Lib.hid ⟨blk_lt RE.out, blk_lt IM.out, blk_lt Z.out, blk_lt VA.out, NN.out.size⟩
  replace NN := Lib.hid (Bgo NN.out HB.out)
  replace RE := Lib.hid (blk_next HB.out RE.out)
  replace IM := Lib.hid (blk_next HB.out IM.out)
  replace Z := Lib.hid (blk_next HB.out Z.out)
  replace VA := Lib.hid (blk_next HB.out VA.out)
  clear HB
  have c_VA_0 := blk_cell VA.out 0 _ rfl
  have f_VA_0 := blk_frozen VA.out 0
  have c_VA_1 := blk_cell VA.out 1 _ rfl
  have f_VA_1 := blk_frozen VA.out 1
  have l_VA := blk_lt VA.out
  have c_Z_0 := blk_cell Z.out 0 _ rfl
  have f_Z_0 := blk_frozen Z.out 0
  have c_Z_1 := blk_cell Z.out 1 _ rfl
  have f_Z_1 := blk_frozen Z.out 1
  have c_Z_2 := blk_cell Z.out 2 _ rfl
  have f_Z_2 := blk_frozen Z.out 2
  have l_Z := blk_lt Z.out
  go_wp2_with fail
  clear c_VA_0 f_VA_0 c_VA_1 f_VA_1 l_VA c_Z_0 f_Z_0 c_Z_1 f_Z_1 c_Z_2 f_Z_2 l_Z
  generalize (w13.alloc (.cells #[.int .i64 0, .int .i64 0] 80)) = W14 at *
  generalize w13.heap.size = gB at *
  replace RE : Hid ((((W14.setCell ⟨w.heap.size + 1 + 1, 0, none⟩ (.int .i64 0)).setCell ⟨w.heap.size + 1 + 1, 1, none⟩ (.int .i64 0)).setCell ⟨w.heap.size + 1 + 1, 2, none⟩ (.int .i64 0)).heap[w.heap.size]? = some (.cells #[.int .i64 n1, .int .i64 d1] 80)) := Lib.hid (blk_set_other (b' := w.heap.size + 1 + 1) (blk_set_other (b' := w.heap.size + 1 + 1) (blk_set_other (b' := w.heap.size + 1 + 1) (RE.out) (by omega) 0 (.int .i64 0)) (by omega) 1 (.int .i64 0)) (by omega) 2 (.int .i64 0))
  replace IM : Hid ((((W14.setCell ⟨w.heap.size + 1 + 1, 0, none⟩ (.int .i64 0)).setCell ⟨w.heap.size + 1 + 1, 1, none⟩ (.int .i64 0)).setCell ⟨w.heap.size + 1 + 1, 2, none⟩ (.int .i64 0)).heap[w.heap.size + 1]? = some (.cells #[.int .i64 n2, .int .i64 d2] 80)) := Lib.hid (blk_set_other (b' := w.heap.size + 1 + 1) (blk_set_other (b' := w.heap.size + 1 + 1) (blk_set_other (b' := w.heap.size + 1 + 1) (IM.out) (by omega) 0 (.int .i64 0)) (by omega) 1 (.int .i64 0)) (by omega) 2 (.int .i64 0))
  replace Z : Hid ((((W14.setCell ⟨w.heap.size + 1 + 1, 0, none⟩ (.int .i64 0)).setCell ⟨w.heap.size + 1 + 1, 1, none⟩ (.int .i64 0)).setCell ⟨w.heap.size + 1 + 1, 2, none⟩ (.int .i64 0)).heap[w.heap.size + 1 + 1]? = some (.cells #[.int .i64 0, .int .i64 0, .int .i64 0] 24)) := Lib.hid (blk_set (blk_set (blk_set (Z.out) 0 (.int .i64 0)) 1 (.int .i64 0)) 2 (.int .i64 0))
  replace VA : Hid ((((W14.setCell ⟨w.heap.size + 1 + 1, 0, none⟩ (.int .i64 0)).setCell ⟨w.heap.size + 1 + 1, 1, none⟩ (.int .i64 0)).setCell ⟨w.heap.size + 1 + 1, 2, none⟩ (.int .i64 0)).heap[gA]? = some (.cells #[.int .i64 A, .int .i64 1] 80)) := Lib.hid (blk_set_other (b' := w.heap.size + 1 + 1) (blk_set_other (b' := w.heap.size + 1 + 1) (blk_set_other (b' := w.heap.size + 1 + 1) (VA.out) (by have := LT_VA.out; omega) 0 (.int .i64 0)) (by have := LT_VA.out; omega) 1 (.int .i64 0)) (by have := LT_VA.out; omega) 2 (.int .i64 0))
  replace VB : Hid ((((W14.setCell ⟨w.heap.size + 1 + 1, 0, none⟩ (.int .i64 0)).setCell ⟨w.heap.size + 1 + 1, 1, none⟩ (.int .i64 0)).setCell ⟨w.heap.size + 1 + 1, 2, none⟩ (.int .i64 0)).heap[gB]? = some (.cells #[.int .i64 0, .int .i64 0] 80)) := Lib.hid (blk_set_other (b' := w.heap.size + 1 + 1) (blk_set_other (b' := w.heap.size + 1 + 1) (blk_set_other (b' := w.heap.size + 1 + 1) (VB.out) (by have := LT_VB.out; omega) 0 (.int .i64 0)) (by have := LT_VB.out; omega) 1 (.int .i64 0)) (by have := LT_VB.out; omega) 2 (.int .i64 0))
  replace NN := Lib.hid (Bset1 (Bset1 (Bset1 (NN.out) (show w.heap.size ≤ w.heap.size + 1 + 1 by omega) 0 (.int .i64 0)) (show w.heap.size ≤ w.heap.size + 1 + 1 by omega) 1 (.int .i64 0)) (show w.heap.size ≤ w.heap.size + 1 + 1 by omega) 2 (.int .i64 0))
  generalize (((W14.setCell ⟨w.heap.size + 1 + 1, 0, none⟩ (.int .i64 0)).setCell ⟨w.heap.size + 1 + 1, 1, none⟩ (.int .i64 0)).setCell ⟨w.heap.size + 1 + 1, 2, none⟩ (.int .i64 0)) = W15 at *
  have c_Z_0 := blk_cell Z.out 0 _ rfl
  have c_Z_1 := blk_cell Z.out 1 _ rfl
  have c_Z_2 := blk_cell Z.out 2 _ rfl
  have l_Z := blk_lt Z.out
  exact bodyPost_ret (v := .tuple #[.agg #[.int .i64 0, .int .i64 0, .int .i64 0], .int .i64 16]) (by simp [results, Try.results44, go_sem, c_Z_0, c_Z_1, c_Z_2]) rfl ⟨by rw [R0.out]; rfl, NN.out⟩
 rw [if_neg e2] at C2
 have CV := Lib.hid (fun W => refValid_calls A B D W)
 clear VO e1 e2
 refine (C1.out _).mono ?_
 rintro e w16 ⟨rfl, hb⟩
 replace NN := Lib.hid (Bgo NN.out hb)
 replace RE := Lib.hid (blk_next hb RE.out)
 replace IM := Lib.hid (blk_next hb IM.out)
 replace Z := Lib.hid (blk_next hb Z.out)
 clear hb
 go_upto_region 7 with fail
 have HB := Lib.hid (show Below w16.heap.size w16 (w16.alloc (.cells #[.int .i64 A, .int .i64 1] 80)) from (Bal (Below.refl _ _) _))
 have VA : Hid ((w16.alloc (.cells #[.int .i64 A, .int .i64 1] 80)).heap[w16.heap.size]? = some (.cells #[.int .i64 A, .int .i64 1] 80)) := Lib.hid (blk_new w16 _)
 have LT_VA : Hid (w.heap.size < w16.heap.size ∧ w.heap.size + 1 < w16.heap.size ∧ w.heap.size + 1 + 1 < w16.heap.size ∧ w.heap.size ≤ w16.heap.size) := Lib.hid ⟨blk_lt RE.out, blk_lt IM.out, blk_lt Z.out, NN.out.size⟩
 replace NN := Lib.hid (Bgo NN.out HB.out)
 replace RE := Lib.hid (blk_next HB.out RE.out)
 replace IM := Lib.hid (blk_next HB.out IM.out)
 replace Z := Lib.hid (blk_next HB.out Z.out)
 clear HB
 have c_IM_0 := blk_cell IM.out 0 _ rfl
 have f_IM_0 := blk_frozen IM.out 0
 have c_IM_1 := blk_cell IM.out 1 _ rfl
 have f_IM_1 := blk_frozen IM.out 1
 have l_IM := blk_lt IM.out
 go_wp2_with fail
 clear c_IM_0 f_IM_0 c_IM_1 f_IM_1 l_IM
 generalize (w16.alloc (.cells #[.int .i64 A, .int .i64 1] 80)) = W17 at *
 generalize w16.heap.size = gA at *
 refine (C2.out _).mono ?_
 rintro e w18 ⟨rfl, hb⟩
 replace NN := Lib.hid (Bgo NN.out hb)
 replace RE := Lib.hid (blk_next hb RE.out)
 replace IM := Lib.hid (blk_next hb IM.out)
 replace Z := Lib.hid (blk_next hb Z.out)
 replace VA := Lib.hid (blk_next hb VA.out)
 clear hb
 go_upto_region 8 with fail
 have HB := Lib.hid (show Below w18.heap.size w18 (w18.alloc (.cells #[.int .i64 B, .int .i64 1] 80)) from (Bal (Below.refl _ _) _))
 have VB : Hid ((w18.alloc (.cells #[.int .i64 B, .int .i64 1] 80)).heap[w18.heap.size]? = some (.cells #[.int .i64 B, .int .i64 1] 80)) := Lib.hid (blk_new w18 _)
 have LT_VB : Hid (w.heap.size < w18.heap.size ∧ w.heap.size + 1 < w18.heap.size ∧ w.heap.size + 1 + 1 < w18.heap.size ∧ gA < w18.heap.size ∧ w.heap.size ≤ w18.heap.size) := Lib.hid ⟨blk_lt RE.out, blk_lt IM.out, blk_lt Z.out, blk_lt VA.out, NN.out.size⟩
 replace NN := Lib.hid (Bgo NN.out HB.out)
 replace RE := Lib.hid (blk_next HB.out RE.out)
 replace IM := Lib.hid (blk_next HB.out IM.out)
 replace Z := Lib.hid (blk_next HB.out Z.out)
 replace VA := Lib.hid (blk_next HB.out VA.out)
 clear HB
 have c_VA_0 := blk_cell VA.out 0 _ rfl
 have f_VA_0 := blk_frozen VA.out 0
 have c_VA_1 := blk_cell VA.out 1 _ rfl
 have f_VA_1 := blk_frozen VA.out 1
 have l_VA := blk_lt VA.out
 go_wp2_with fail
 clear c_VA_0 f_VA_0 c_VA_1 f_VA_1 l_VA
 generalize (w18.alloc (.cells #[.int .i64 B, .int .i64 1] 80)) = W19 at *
 generalize w18.heap.size = gB at *
 refine (divides_one _).mono ?_
 rintro e w20 ⟨rfl, hb⟩
 replace NN := Lib.hid (Bgo NN.out hb)
 replace RE := Lib.hid (blk_next hb RE.out)
 replace IM := Lib.hid (blk_next hb IM.out)
 replace Z := Lib.hid (blk_next hb Z.out)
 replace VA := Lib.hid (blk_next hb VA.out)
 replace VB := Lib.hid (blk_next hb VB.out)
 clear hb
 have c_VB_0 := blk_cell VB.out 0 _ rfl
 have f_VB_0 := blk_frozen VB.out 0
 have c_VB_1 := blk_cell VB.out 1 _ rfl
 have f_VB_1 := blk_frozen VB.out 1
 have l_VB := blk_lt VB.out
 go_wp2_with fail
 clear c_VB_0 f_VB_0 c_VB_1 f_VB_1 l_VB
 refine (divides_one _).mono ?_
 rintro e w21 ⟨rfl, hb⟩
 replace NN := Lib.hid (Bgo NN.out hb)
 replace RE := Lib.hid (blk_next hb RE.out)
 replace IM := Lib.hid (blk_next hb IM.out)
 replace Z := Lib.hid (blk_next hb Z.out)
 replace VA := Lib.hid (blk_next hb VA.out)
 replace VB := Lib.hid (blk_next hb VB.out)
 clear hb
 have c_VA_0 := blk_cell VA.out 0 _ rfl
 have f_VA_0 := blk_frozen VA.out 0
 have c_VA_1 := blk_cell VA.out 1 _ rfl
 have f_VA_1 := blk_frozen VA.out 1
 have l_VA := blk_lt VA.out
 have c_VB_0 := blk_cell VB.out 0 _ rfl
 have f_VB_0 := blk_frozen VB.out 0
 have c_VB_1 := blk_cell VB.out 1 _ rfl
 have f_VB_1 := blk_frozen VB.out 1
 have l_VB := blk_lt VB.out
 go_upto_region 11 with fail
 clear c_VA_0 f_VA_0 c_VA_1 f_VA_1 l_VA c_VB_0 f_VB_0 c_VB_1 f_VB_1 l_VB
 have HB := Lib.hid (show Below w21.heap.size w21 (w21.alloc (.cells #[.int .i64 A, .int .i64 B, .int .i64 D] 24)) from (Bal (Below.refl _ _) _))
 have VC : Hid ((w21.alloc (.cells #[.int .i64 A, .int .i64 B, .int .i64 D] 24)).heap[w21.heap.size]? = some (.cells #[.int .i64 A, .int .i64 B, .int .i64 D] 24)) := Lib.hid (blk_new w21 _)
 have LT_VC : Hid (w.heap.size < w21.heap.size ∧ w.heap.size + 1 < w21.heap.size ∧ w.heap.size + 1 + 1 < w21.heap.size ∧ gA < w21.heap.size ∧ gB < w21.heap.size ∧ w.heap.size ≤ w21.heap.size) := Lib.hid ⟨blk_lt RE.out, blk_lt IM.out, blk_lt Z.out, blk_lt VA.out, blk_lt VB.out, NN.out.size⟩
 replace NN := Lib.hid (Bgo NN.out HB.out)
 replace RE := Lib.hid (blk_next HB.out RE.out)
 replace IM := Lib.hid (blk_next HB.out IM.out)
 replace Z := Lib.hid (blk_next HB.out Z.out)
 replace VA := Lib.hid (blk_next HB.out VA.out)
 replace VB := Lib.hid (blk_next HB.out VB.out)
 clear HB
 have c_VC_0 := blk_cell VC.out 0 _ rfl
 have f_VC_0 := blk_frozen VC.out 0
 have c_VC_1 := blk_cell VC.out 1 _ rfl
 have f_VC_1 := blk_frozen VC.out 1
 have c_VC_2 := blk_cell VC.out 2 _ rfl
 have f_VC_2 := blk_frozen VC.out 2
 have l_VC := blk_lt VC.out
 go_wp2_with fail
 clear c_VC_0 f_VC_0 c_VC_1 f_VC_1 c_VC_2 f_VC_2 l_VC
 generalize (w21.alloc (.cells #[.int .i64 A, .int .i64 B, .int .i64 D] 24)) = W22 at *
 generalize w21.heap.size = gC at *
 clear VA VB
 cases hk : Cxm.chkB A B D
 ·rw [hk] at CV
  have R0 := Lib.hid (VN.out hk)
  clear VN VY hk
  refine (CV.out _).mono ?_
  rintro e w23 ⟨rfl, hb⟩
  replace NN := Lib.hid (Bgo NN.out hb)
  replace RE := Lib.hid (blk_next hb RE.out)
  replace IM := Lib.hid (blk_next hb IM.out)
  replace Z := Lib.hid (blk_next hb Z.out)
  replace VC := Lib.hid (blk_next hb VC.out)
  clear hb
  have c_Z_0 := blk_cell Z.out 0 _ rfl
  have f_Z_0 := blk_frozen Z.out 0
  have c_Z_1 := blk_cell Z.out 1 _ rfl
  have f_Z_1 := blk_frozen Z.out 1
  have c_Z_2 := blk_cell Z.out 2 _ rfl
  have f_Z_2 := blk_frozen Z.out 2
  have l_Z := blk_lt Z.out
  go_wp2_with fail
  clear c_Z_0 f_Z_0 c_Z_1 f_Z_1 c_Z_2 f_Z_2 l_Z
  replace RE : Hid ((((w23.setCell ⟨w.heap.size + 1 + 1, 0, none⟩ (.int .i64 0)).setCell ⟨w.heap.size + 1 + 1, 1, none⟩ (.int .i64 0)).setCell ⟨w.heap.size + 1 + 1, 2, none⟩ (.int .i64 0)).heap[w.heap.size]? = some (.cells #[.int .i64 n1, .int .i64 d1] 80)) := Lib.hid (blk_set_other (b' := w.heap.size + 1 + 1) (blk_set_other (b' := w.heap.size + 1 + 1) (blk_set_other (b' := w.heap.size + 1 + 1) (RE.out) (by omega) 0 (.int .i64 0)) (by omega) 1 (.int .i64 0)) (by omega) 2 (.int .i64 0))
  replace IM : Hid ((((w23.setCell ⟨w.heap.size + 1 + 1, 0, none⟩ (.int .i64 0)).setCell ⟨w.heap.size + 1 + 1, 1, none⟩ (.int .i64 0)).setCell ⟨w.heap.size + 1 + 1, 2, none⟩ (.int .i64 0)).heap[w.heap.size + 1]? = some (.cells #[.int .i64 n2, .int .i64 d2] 80)) := Lib.hid (blk_set_other (b' := w.heap.size + 1 + 1) (blk_set_other (b' := w.heap.size + 1 + 1) (blk_set_other (b' := w.heap.size + 1 + 1) (IM.out) (by omega) 0 (.int .i64 0)) (by omega) 1 (.int .i64 0)) (by omega) 2 (.int .i64 0))
  replace Z : Hid ((((w23.setCell ⟨w.heap.size + 1 + 1, 0, none⟩ (.int .i64 0)).setCell ⟨w.heap.size + 1 + 1, 1, none⟩ (.int .i64 0)).setCell ⟨w.heap.size + 1 + 1, 2, none⟩ (.int .i64 0)).heap[w.heap.size + 1 + 1]? = some (.cells #[.int .i64 0, .int .i64 0, .int .i64 0] 24)) := Lib.hid (blk_set (blk_set (blk_set (Z.out) 0 (.int .i64 0)) 1 (.int .i64 0)) 2 (.int .i64 0))
  replace VC : Hid ((((w23.setCell ⟨w.heap.size + 1 + 1, 0, none⟩ (.int .i64 0)).setCell ⟨w.heap.size + 1 + 1, 1, none⟩ (.int .i64 0)).setCell ⟨w.heap.size + 1 + 1, 2, none⟩ (.int .i64 0)).heap[gC]? = some (.cells #[.int .i64 A, .int .i64 B, .int .i64 D] 24)) := Lib.hid (blk_set_other (b' := w.heap.size + 1 + 1) (blk_set_other (b' := w.heap.size + 1 + 1) (blk_set_other (b' := w.heap.size + 1 + 1) (VC.out) (by have := LT_VC.out; omega) 0 (.int .i64 0)) (by have := LT_VC.out; omega) 1 (.int .i64 0)) (by have := LT_VC.out; omega) 2 (.int .i64 0))
  replace NN := Lib.hid (Bset1 (Bset1 (Bset1 (NN.out) (show w.heap.size ≤ w.heap.size + 1 + 1 by omega) 0 (.int .i64 0)) (show w.heap.size ≤ w.heap.size + 1 + 1 by omega) 1 (.int .i64 0)) (show w.heap.size ≤ w.heap.size + 1 + 1 by omega) 2 (.int .i64 0))
  generalize (((w23.setCell ⟨w.heap.size + 1 + 1, 0, none⟩ (.int .i64 0)).setCell ⟨w.heap.size + 1 + 1, 1, none⟩ (.int .i64 0)).setCell ⟨w.heap.size + 1 + 1, 2, none⟩ (.int .i64 0)) = W24 at *
  have c_Z_0 := blk_cell Z.out 0 _ rfl
  have c_Z_1 := blk_cell Z.out 1 _ rfl
  have c_Z_2 := blk_cell Z.out 2 _ rfl
  have l_Z := blk_lt Z.out
  exact bodyPost_ret (v := .tuple #[.agg #[.int .i64 0, .int .i64 0, .int .i64 0], .int .i64 16]) (by simp [results, Try.results44, go_sem, c_Z_0, c_Z_1, c_Z_2]) rfl ⟨by rw [R0.out]; rfl, NN.out⟩
 ·rw [hk] at CV
  have R0 := Lib.hid (VY.out hk)
  clear VN VY hk
  refine (CV.out _).mono ?_
  rintro e w25 ⟨rfl, hb⟩
  replace NN := Lib.hid (Bgo NN.out hb)
  replace RE := Lib.hid (blk_next hb RE.out)
  replace IM := Lib.hid (blk_next hb IM.out)
  replace Z := Lib.hid (blk_next hb Z.out)
  replace VC := Lib.hid (blk_next hb VC.out)
  clear hb
  have c_Z_0 := blk_cell Z.out 0 _ rfl
  have f_Z_0 := blk_frozen Z.out 0
  have c_Z_1 := blk_cell Z.out 1 _ rfl
  have f_Z_1 := blk_frozen Z.out 1
  have c_Z_2 := blk_cell Z.out 2 _ rfl
  have f_Z_2 := blk_frozen Z.out 2
  have l_Z := blk_lt Z.out
  have c_VC_0 := blk_cell VC.out 0 _ rfl
  have f_VC_0 := blk_frozen VC.out 0
  have c_VC_1 := blk_cell VC.out 1 _ rfl
  have f_VC_1 := blk_frozen VC.out 1
  have c_VC_2 := blk_cell VC.out 2 _ rfl
  have f_VC_2 := blk_frozen VC.out 2
  have l_VC := blk_lt VC.out
  go_wp2_with fail
  clear c_Z_0 f_Z_0 c_Z_1 f_Z_1 c_Z_2 f_Z_2 l_Z c_VC_0 f_VC_0 c_VC_1 f_VC_1 c_VC_2 f_VC_2 l_VC
  replace RE : Hid ((((w25.setCell ⟨w.heap.size + 1 + 1, 0, none⟩ (.int .i64 A)).setCell ⟨w.heap.size + 1 + 1, 1, none⟩ (.int .i64 B)).setCell ⟨w.heap.size + 1 + 1, 2, none⟩ (.int .i64 D)).heap[w.heap.size]? = some (.cells #[.int .i64 n1, .int .i64 d1] 80)) := Lib.hid (blk_set_other (b' := w.heap.size + 1 + 1) (blk_set_other (b' := w.heap.size + 1 + 1) (blk_set_other (b' := w.heap.size + 1 + 1) (RE.out) (by omega) 0 (.int .i64 A)) (by omega) 1 (.int .i64 B)) (by omega) 2 (.int .i64 D))
  replace IM : Hid ((((w25.setCell ⟨w.heap.size + 1 + 1, 0, none⟩ (.int .i64 A)).setCell ⟨w.heap.size + 1 + 1, 1, none⟩ (.int .i64 B)).setCell ⟨w.heap.size + 1 + 1, 2, none⟩ (.int .i64 D)).heap[w.heap.size + 1]? = some (.cells #[.int .i64 n2, .int .i64 d2] 80)) := Lib.hid (blk_set_other (b' := w.heap.size + 1 + 1) (blk_set_other (b' := w.heap.size + 1 + 1) (blk_set_other (b' := w.heap.size + 1 + 1) (IM.out) (by omega) 0 (.int .i64 A)) (by omega) 1 (.int .i64 B)) (by omega) 2 (.int .i64 D))
  replace Z : Hid ((((w25.setCell ⟨w.heap.size + 1 + 1, 0, none⟩ (.int .i64 A)).setCell ⟨w.heap.size + 1 + 1, 1, none⟩ (.int .i64 B)).setCell ⟨w.heap.size + 1 + 1, 2, none⟩ (.int .i64 D)).heap[w.heap.size + 1 + 1]? = some (.cells #[.int .i64 A, .int .i64 B, .int .i64 D] 24)) := Lib.hid (blk_set (blk_set (blk_set (Z.out) 0 (.int .i64 A)) 1 (.int .i64 B)) 2 (.int .i64 D))
  replace VC : Hid ((((w25.setCell ⟨w.heap.size + 1 + 1, 0, none⟩ (.int .i64 A)).setCell ⟨w.heap.size + 1 + 1, 1, none⟩ (.int .i64 B)).setCell ⟨w.heap.size + 1 + 1, 2, none⟩ (.int .i64 D)).heap[gC]? = some (.cells #[.int .i64 A, .int .i64 B, .int .i64 D] 24)) := Lib.hid (blk_set_other (b' := w.heap.size + 1 + 1) (blk_set_other (b' := w.heap.size + 1 + 1) (blk_set_other (b' := w.heap.size + 1 + 1) (VC.out) (by have := LT_VC.out; omega) 0 (.int .i64 A)) (by have := LT_VC.out; omega) 1 (.int .i64 B)) (by have := LT_VC.out; omega) 2 (.int .i64 D))
  replace NN := Lib.hid (Bset1 (Bset1 (Bset1 (NN.out) (show w.heap.size ≤ w.heap.size + 1 + 1 by omega) 0 (.int .i64 A)) (show w.heap.size ≤ w.heap.size + 1 + 1 by omega) 1 (.int .i64 B)) (show w.heap.size ≤ w.heap.size + 1 + 1 by omega) 2 (.int .i64 D))
  generalize (((w25.setCell ⟨w.heap.size + 1 + 1, 0, none⟩ (.int .i64 A)).setCell ⟨w.heap.size + 1 + 1, 1, none⟩ (.int .i64 B)).setCell ⟨w.heap.size + 1 + 1, 2, none⟩ (.int .i64 D)) = W26 at *
  have c_Z_0 := blk_cell Z.out 0 _ rfl
  have c_Z_1 := blk_cell Z.out 1 _ rfl
  have c_Z_2 := blk_cell Z.out 2 _ rfl
  have l_Z := blk_lt Z.out
  exact bodyPost_ret (v := .tuple #[.agg #[.int .i64 A, .int .i64 B, .int .i64 D], .int .i64 0]) (by simp [results, Try.results44, go_sem, c_Z_0, c_Z_1, c_Z_2]) rfl ⟨by rw [R0.out]; rfl, NN.out⟩
end Go.Proofs.Ytbbnkclajpaghaa
