/- Several texts in one. -/
import Derived.Test.YtfangplfbbgphaaGreatDoorMF08
import Derived.Test.YtfangplfbbgphaaGreatDoorMF09
namespace Go.Proofs.YtfangplfbbgphaaGreatDoor
open Go.ChangeShapes Go.WideShapes Go.ChangeAt Go.RowKit
set_option linter.unusedVariables false
set_option maxRecDepth 100000
set_option linter.unusedSimpArgs false
attribute [local go_sem ↓] Go.wp_at_zero Go.wp_at_succ
theorem first_eq (w : World) : Calls Tryz.prog 88 #[.int .i64 0, .int .i64 0, .int .i64 0] w fun e w' => e = .returned (.int .i64 0) ∧ w' = w := by
 go_enter Tryz.func88, Tryz.ntmps88
 go_wp2_with fail
 go_ret
 exact ⟨rfl, rfl⟩
set_option maxRecDepth 100000 in
set_option maxHeartbeats 8000000 in
theorem pair_calls (n d : Int) (h : prmB n d = true) (w : World) : Calls Tryz.prog 60 #[Fv n d] w fun e w' => e = .returned (.tuple #[Fv (arC n d).1 (arC n d).2.1, Fv (arK n d).1 (arK n d).2.1, .int .i64 0]) ∧ Below w.heap.size w w' := by
 have NN := Lib.hid (Below.refl w.heap.size w)
 obtain ⟨e1, e2, e3, e4, e5, e6, u7, u8, u9, u10, u11, u12⟩ := pair_facts h
 clear u7 u8 u9 u10 u11 u12
 have C0 := Lib.hid (fun k W => refOf_calls k W)
 have C1 := Lib.hid (fun W => refMul_calls n d n d W)
 have C2 := Lib.hid (fun W => refSub_calls 1 1 (pQ n d).1 (pQ n d).2.1 W)
 have C3 := Lib.hid (fun W => refAdd_calls 1 1 (pQ n d).1 (pQ n d).2.1 W)
 have C4 := Lib.hid (fun W => refDiv_calls (pL n d).1 (pL n d).2.1 (pH n d).1 (pH n d).2.1 W)
 have C5 := Lib.hid (fun W => refMul_calls n d 2 1 W)
 have C6 := Lib.hid (fun W => refDiv_calls (pT n d).1 (pT n d).2.1 (pH n d).1 (pH n d).2.1 W)
 rw [show mulR n d n d = pQ n d from rfl] at C1
 rw [show subR 1 1 (pQ n d).1 (pQ n d).2.1 = pL n d from rfl] at C2
 rw [show addR 1 1 (pQ n d).1 (pQ n d).2.1 = pH n d from rfl] at C3
 rw [show divR (pL n d).1 (pL n d).2.1 (pH n d).1 (pH n d).2.1 = pC n d from rfl] at C4
 rw [show mulR n d 2 1 = pT n d from rfl] at C5
 rw [show divR (pT n d).1 (pT n d).2.1 (pH n d).1 (pH n d).2.1 = pS n d from rfl] at C6
 rw [e5] at C4
 rw [e6] at C6
 generalize pQ n d = q at *
 generalize pL n d = l at *
 generalize pH n d = p at *
 generalize pT n d = t at *
 generalize arC n d = c at *
 generalize arK n d = s at *
 obtain ⟨q1, q2, q3⟩ := q
 obtain ⟨l1, l2, l3⟩ := l
 obtain ⟨p1, p2, p3⟩ := p
 obtain ⟨t1, t2, t3⟩ := t
 obtain ⟨c1, c2, c3⟩ := c
 obtain ⟨s1, s2, s3⟩ := s
 simp only at e1 e2 e3 e4
 subst e1 e2 e3 e4
 clear e5 e6 h
 go_enter Tryz.func60, Tryz.ntmps60
 go_wp2_with fail
 have U : Hid ((((w.alloc (.cells #[.int .i64 n, .int .i64 d] 36)).alloc (.cells #[.int .i64 0, .int .i64 0] 36)).alloc (.cells #[.int .i64 0, .int .i64 0] 36)).heap[w.heap.size]? = some (.cells #[.int .i64 n, .int .i64 d] 36)) := Lib.hid (blk_alloc (blk_alloc (blk_new w _) _) _)
 have R2 : Hid ((((w.alloc (.cells #[.int .i64 n, .int .i64 d] 36)).alloc (.cells #[.int .i64 0, .int .i64 0] 36)).alloc (.cells #[.int .i64 0, .int .i64 0] 36)).heap[w.heap.size + 1]? = some (.cells #[.int .i64 0, .int .i64 0] 36)) := Lib.hid (blk_alloc (blk_at _ (by simp)) _)
 have R3 : Hid ((((w.alloc (.cells #[.int .i64 n, .int .i64 d] 36)).alloc (.cells #[.int .i64 0, .int .i64 0] 36)).alloc (.cells #[.int .i64 0, .int .i64 0] 36)).heap[w.heap.size + 1 + 1]? = some (.cells #[.int .i64 0, .int .i64 0] 36)) := Lib.hid (blk_at _ (by simp))
 replace NN : Hid (Below w.heap.size w (((w.alloc (.cells #[.int .i64 n, .int .i64 d] 36)).alloc (.cells #[.int .i64 0, .int .i64 0] 36)).alloc (.cells #[.int .i64 0, .int .i64 0] 36))) := Lib.hid (Bal (Bal (Bal NN.out _) _) _)
 generalize (((w.alloc (.cells #[.int .i64 n, .int .i64 d] 36)).alloc (.cells #[.int .i64 0, .int .i64 0] 36)).alloc (.cells #[.int .i64 0, .int .i64 0] 36)) = W1 at *
 go_wp2_with fail
 refine (C0.out _ _).mono ?_
 rintro e w2 ⟨rfl, hb⟩
 replace NN := Lib.hid (Bgo NN.out hb)
 replace U := Lib.hid (blk_next hb U.out)
 replace R2 := Lib.hid (blk_next hb R2.out)
 replace R3 := Lib.hid (blk_next hb R3.out)
 clear hb
 have HB := Lib.hid (show Below w2.heap.size w2 (w2.alloc (.cells #[.int .i64 1, .int .i64 1] 36)) from (Bal (Below.refl _ _) _))
 have O : Hid ((w2.alloc (.cells #[.int .i64 1, .int .i64 1] 36)).heap[w2.heap.size]? = some (.cells #[.int .i64 1, .int .i64 1] 36)) := Lib.hid (blk_new w2 _)
 have LT_O : Hid (w.heap.size < w2.heap.size ∧ w.heap.size + 1 < w2.heap.size ∧ w.heap.size + 1 + 1 < w2.heap.size ∧ w.heap.size ≤ w2.heap.size) := Lib.hid ⟨blk_lt U.out, blk_lt R2.out, blk_lt R3.out, NN.out.size⟩
 replace NN := Lib.hid (Bgo NN.out HB.out)
 replace U := Lib.hid (blk_next HB.out U.out)
 replace R2 := Lib.hid (blk_next HB.out R2.out)
 replace R3 := Lib.hid (blk_next HB.out R3.out)
 clear HB
 have c_U_0 := blk_cell U.out 0 _ rfl
 have f_U_0 := blk_frozen U.out 0
 have c_U_1 := blk_cell U.out 1 _ rfl
 have f_U_1 := blk_frozen U.out 1
 have l_U := blk_lt U.out
 go_wp2_with fail
 clear c_U_0 f_U_0 c_U_1 f_U_1 l_U
 generalize (w2.alloc (.cells #[.int .i64 1, .int .i64 1] 36)) = W3 at *
 generalize w2.heap.size = gO at *
 refine (C1.out _).mono ?_
 rintro e w4 ⟨rfl, hb⟩
 replace NN := Lib.hid (Bgo NN.out hb)
 replace U := Lib.hid (blk_next hb U.out)
 replace R2 := Lib.hid (blk_next hb R2.out)
 replace R3 := Lib.hid (blk_next hb R3.out)
 replace O := Lib.hid (blk_next hb O.out)
 clear hb
 have HB := Lib.hid (show Below w4.heap.size w4 (w4.alloc (.cells #[.int .i64 q1, .int .i64 q2] 36)) from (Bal (Below.refl _ _) _))
 have Q : Hid ((w4.alloc (.cells #[.int .i64 q1, .int .i64 q2] 36)).heap[w4.heap.size]? = some (.cells #[.int .i64 q1, .int .i64 q2] 36)) := Lib.hid (blk_new w4 _)
 have LT_Q : Hid (w.heap.size < w4.heap.size ∧ w.heap.size + 1 < w4.heap.size ∧ w.heap.size + 1 + 1 < w4.heap.size ∧ gO < w4.heap.size ∧ w.heap.size ≤ w4.heap.size) := Lib.hid ⟨blk_lt U.out, blk_lt R2.out, blk_lt R3.out, blk_lt O.out, NN.out.size⟩
 replace NN := Lib.hid (Bgo NN.out HB.out)
 replace U := Lib.hid (blk_next HB.out U.out)
 replace R2 := Lib.hid (blk_next HB.out R2.out)
 replace R3 := Lib.hid (blk_next HB.out R3.out)
 replace O := Lib.hid (blk_next HB.out O.out)
 clear HB
 have c_O_0 := blk_cell O.out 0 _ rfl
 have f_O_0 := blk_frozen O.out 0
 have c_O_1 := blk_cell O.out 1 _ rfl
 have f_O_1 := blk_frozen O.out 1
 have l_O := blk_lt O.out
 have c_Q_0 := blk_cell Q.out 0 _ rfl
 have f_Q_0 := blk_frozen Q.out 0
 have c_Q_1 := blk_cell Q.out 1 _ rfl
 have f_Q_1 := blk_frozen Q.out 1
 have l_Q := blk_lt Q.out
 go_wp2_with fail
 clear c_O_0 f_O_0 c_O_1 f_O_1 l_O c_Q_0 f_Q_0 c_Q_1 f_Q_1 l_Q
 generalize (w4.alloc (.cells #[.int .i64 q1, .int .i64 q2] 36)) = W5 at *
 generalize w4.heap.size = gQ at *
 refine (C2.out _).mono ?_
 rintro e w6 ⟨rfl, hb⟩
 replace NN := Lib.hid (Bgo NN.out hb)
 replace U := Lib.hid (blk_next hb U.out)
 replace R2 := Lib.hid (blk_next hb R2.out)
 replace R3 := Lib.hid (blk_next hb R3.out)
 replace O := Lib.hid (blk_next hb O.out)
 replace Q := Lib.hid (blk_next hb Q.out)
 clear hb
 have HB := Lib.hid (show Below w6.heap.size w6 (w6.alloc (.cells #[.int .i64 l1, .int .i64 l2] 36)) from (Bal (Below.refl _ _) _))
 have L : Hid ((w6.alloc (.cells #[.int .i64 l1, .int .i64 l2] 36)).heap[w6.heap.size]? = some (.cells #[.int .i64 l1, .int .i64 l2] 36)) := Lib.hid (blk_new w6 _)
 have LT_L : Hid (w.heap.size < w6.heap.size ∧ w.heap.size + 1 < w6.heap.size ∧ w.heap.size + 1 + 1 < w6.heap.size ∧ gO < w6.heap.size ∧ gQ < w6.heap.size ∧ w.heap.size ≤ w6.heap.size) := Lib.hid ⟨blk_lt U.out, blk_lt R2.out, blk_lt R3.out, blk_lt O.out, blk_lt Q.out, NN.out.size⟩
 replace NN := Lib.hid (Bgo NN.out HB.out)
 replace U := Lib.hid (blk_next HB.out U.out)
 replace R2 := Lib.hid (blk_next HB.out R2.out)
 replace R3 := Lib.hid (blk_next HB.out R3.out)
 replace O := Lib.hid (blk_next HB.out O.out)
 replace Q := Lib.hid (blk_next HB.out Q.out)
 clear HB
 have c_O_0 := blk_cell O.out 0 _ rfl
 have f_O_0 := blk_frozen O.out 0
 have c_O_1 := blk_cell O.out 1 _ rfl
 have f_O_1 := blk_frozen O.out 1
 have l_O := blk_lt O.out
 have c_Q_0 := blk_cell Q.out 0 _ rfl
 have f_Q_0 := blk_frozen Q.out 0
 have c_Q_1 := blk_cell Q.out 1 _ rfl
 have f_Q_1 := blk_frozen Q.out 1
 have l_Q := blk_lt Q.out
 go_wp2_with fail
 clear c_O_0 f_O_0 c_O_1 f_O_1 l_O c_Q_0 f_Q_0 c_Q_1 f_Q_1 l_Q
 generalize (w6.alloc (.cells #[.int .i64 l1, .int .i64 l2] 36)) = W7 at *
 generalize w6.heap.size = gL at *
 refine (C3.out _).mono ?_
 rintro e w8 ⟨rfl, hb⟩
 replace NN := Lib.hid (Bgo NN.out hb)
 replace U := Lib.hid (blk_next hb U.out)
 replace R2 := Lib.hid (blk_next hb R2.out)
 replace R3 := Lib.hid (blk_next hb R3.out)
 replace O := Lib.hid (blk_next hb O.out)
 replace Q := Lib.hid (blk_next hb Q.out)
 replace L := Lib.hid (blk_next hb L.out)
 clear hb
 have HB := Lib.hid (show Below w8.heap.size w8 (w8.alloc (.cells #[.int .i64 p1, .int .i64 p2] 36)) from (Bal (Below.refl _ _) _))
 have H : Hid ((w8.alloc (.cells #[.int .i64 p1, .int .i64 p2] 36)).heap[w8.heap.size]? = some (.cells #[.int .i64 p1, .int .i64 p2] 36)) := Lib.hid (blk_new w8 _)
 have LT_H : Hid (w.heap.size < w8.heap.size ∧ w.heap.size + 1 < w8.heap.size ∧ w.heap.size + 1 + 1 < w8.heap.size ∧ gO < w8.heap.size ∧ gQ < w8.heap.size ∧ gL < w8.heap.size ∧ w.heap.size ≤ w8.heap.size) := Lib.hid ⟨blk_lt U.out, blk_lt R2.out, blk_lt R3.out, blk_lt O.out, blk_lt Q.out, blk_lt L.out, NN.out.size⟩
 replace NN := Lib.hid (Bgo NN.out HB.out)
 replace U := Lib.hid (blk_next HB.out U.out)
 replace R2 := Lib.hid (blk_next HB.out R2.out)
 replace R3 := Lib.hid (blk_next HB.out R3.out)
 replace O := Lib.hid (blk_next HB.out O.out)
 replace Q := Lib.hid (blk_next HB.out Q.out)
 replace L := Lib.hid (blk_next HB.out L.out)
 clear HB
 go_wp2_with fail
 generalize (w8.alloc (.cells #[.int .i64 p1, .int .i64 p2] 36)) = W9 at *
 generalize w8.heap.size = gH at *
 refine (first_eq _).mono ?_
 rintro e w' ⟨rfl, rfl⟩
 have c_L_0 := blk_cell L.out 0 _ rfl
 have f_L_0 := blk_frozen L.out 0
 have c_L_1 := blk_cell L.out 1 _ rfl
 have f_L_1 := blk_frozen L.out 1
 have l_L := blk_lt L.out
 have c_H_0 := blk_cell H.out 0 _ rfl
 have f_H_0 := blk_frozen H.out 0
 have c_H_1 := blk_cell H.out 1 _ rfl
 have f_H_1 := blk_frozen H.out 1
 have l_H := blk_lt H.out
 go_wp2_with fail
 refine (C4.out _).mono ?_
 rintro e w10 ⟨rfl, hb⟩
 clear c_L_0 f_L_0 c_L_1 f_L_1 l_L c_H_0 f_H_0 c_H_1 f_H_1 l_H
 replace NN := Lib.hid (Bgo NN.out hb)
 replace U := Lib.hid (blk_next hb U.out)
 replace R2 := Lib.hid (blk_next hb R2.out)
 replace R3 := Lib.hid (blk_next hb R3.out)
 replace O := Lib.hid (blk_next hb O.out)
 replace Q := Lib.hid (blk_next hb Q.out)
 replace L := Lib.hid (blk_next hb L.out)
 replace H := Lib.hid (blk_next hb H.out)
 clear hb
 have HB := Lib.hid (show Below w10.heap.size w10 (w10.alloc (.cells #[.int .i64 c1, .int .i64 c2] 36)) from (Bal (Below.refl _ _) _))
 have C : Hid ((w10.alloc (.cells #[.int .i64 c1, .int .i64 c2] 36)).heap[w10.heap.size]? = some (.cells #[.int .i64 c1, .int .i64 c2] 36)) := Lib.hid (blk_new w10 _)
 have LT_C : Hid (w.heap.size < w10.heap.size ∧ w.heap.size + 1 < w10.heap.size ∧ w.heap.size + 1 + 1 < w10.heap.size ∧ gO < w10.heap.size ∧ gQ < w10.heap.size ∧ gL < w10.heap.size ∧ gH < w10.heap.size ∧ w.heap.size ≤ w10.heap.size) := Lib.hid ⟨blk_lt U.out, blk_lt R2.out, blk_lt R3.out, blk_lt O.out, blk_lt Q.out, blk_lt L.out, blk_lt H.out, NN.out.size⟩
 replace NN := Lib.hid (Bgo NN.out HB.out)
 replace U := Lib.hid (blk_next HB.out U.out)
 replace R2 := Lib.hid (blk_next HB.out R2.out)
 replace R3 := Lib.hid (blk_next HB.out R3.out)
 replace O := Lib.hid (blk_next HB.out O.out)
 replace Q := Lib.hid (blk_next HB.out Q.out)
 replace L := Lib.hid (blk_next HB.out L.out)
 replace H := Lib.hid (blk_next HB.out H.out)
 clear HB
 go_upto_region 8 with fail
 generalize (w10.alloc (.cells #[.int .i64 c1, .int .i64 c2] 36)) = W11 at *
 generalize w10.heap.size = gC at *
 have HDRW := Lib.hid (Below.drew (Below.refl W11.heap.size W11))
 replace NN := Lib.hid (Bgo NN.out HDRW.out)
 replace U := Lib.hid (blk_next HDRW.out U.out)
 replace R2 := Lib.hid (blk_next HDRW.out R2.out)
 replace R3 := Lib.hid (blk_next HDRW.out R3.out)
 replace O := Lib.hid (blk_next HDRW.out O.out)
 replace Q := Lib.hid (blk_next HDRW.out Q.out)
 replace L := Lib.hid (blk_next HDRW.out L.out)
 replace H := Lib.hid (blk_next HDRW.out H.out)
 replace C := Lib.hid (blk_next HDRW.out C.out)
 clear HDRW
 have HAL : Hid (∀ kx9 : Nat, GK [(0, w.heap.size, .cells #[.int .i64 n, .int .i64 d] 36)] kx9 W11.drew) := Lib.hid (fun kx9 p hp e => by
  simp only [List.mem_cons, List.not_mem_nil, or_false] at hp
  subst hp
  exact U.out)
 refine region_G (S := GK [(0, w.heap.size, .cells #[.int .i64 n, .int .i64 d] 36)]) (by kernel_rfl) ?_
 refine tG 0 (.agg #[.int .i64 n, .int .i64 d]) (some 55) (GK.grow _) rfl (YieldsIf.toG (Or.inl ⟨by rfl, ?_⟩)) (HAL.out 0) ?_
 ·intro X hX
  have hh := hX (0, w.heap.size, .cells #[.int .i64 n, .int .i64 d] 36) (List.Mem.head _) rfl
  have hh0 := blk_cell hh 0 _ rfl
  have hh1 := blk_cell hh 1 _ rfl
  have hhl := blk_lt hh
  clear hh
  clear hX
  go_simp
 try simp only [Act.put, zA, zB, zC]
 have CFn : ∀ (args : Array Value) (W : World), Sem.run Tryz.prog (callFunc 46 args) W = .ok (.enter 46 args) W := fun _ _ => by kernel_rfl
 refine tG 1 (.agg #[.int .i64 2, .int .i64 1]) (some 56) (GK.grow _) rfl (yieldsG_call 46 #[.int .i64 2] (by rfl) ?_ (fun X hS => C0.out _ X)) (GK.drop (by simp)) ?_
 ·intro X hX
  clear hX
  go_simp
 clear CFn
 try simp only [Act.put, zA, zB, zC]
 have CFn : ∀ (args : Array Value) (W : World), Sem.run Tryz.prog (callFunc 61 args) W = .ok (.enter 61 args) W := fun _ _ => by kernel_rfl
 refine tG 2 (.tuple #[.agg #[.int .i64 t1, .int .i64 t2], .int .i64 0]) (some 57) (GK.grow _) rfl (yieldsG_call 61 #[.agg #[.int .i64 n, .int .i64 d], .agg #[.int .i64 2, .int .i64 1]] (by rfl) ?_ (fun X hS => C5.out X)) (GK.drop (by simp)) ?_
 ·intro X hX
  clear hX
  go_simp
 clear CFn
 try simp only [Act.put, zA, zB, zC]
 refine tG 3 (.tuple #[.agg #[.int .i64 t1, .int .i64 t2], .int .i64 0]) (some 54) (GK.grow _) rfl (YieldsIf.toG (Or.inl ⟨by rfl, ?_⟩)) (GK.drop (by simp)) ?_
 ·intro X hX
  clear hX
  go_simp
 try simp only [Act.put, zA, zB, zC]
 refine tG 4 (.agg #[.int .i64 t1, .int .i64 t2]) (some 58) (GK.grow _) rfl (YieldsIf.toG (Or.inl ⟨by rfl, ?_⟩)) (GK.drop (by simp)) ?_
 ·intro X hX
  clear hX
  go_simp
 try simp only [Act.put, zA, zB, zC]
 refine tG 5 (.int .i64 0) (some 59) (GK.grow _) rfl (YieldsIf.toG (Or.inl ⟨by rfl, ?_⟩)) (GK.drop (by simp)) ?_
 ·intro X hX
  clear hX
  go_simp
 try simp only [Act.put, zA, zB, zC]
 refine only_G 6 (by kernel_rfl) rfl (fun X12 hX K' hK' => ?_)
 replace NN := Lib.hid (Bgo NN.out hX)
 replace U := Lib.hid (blk_next hX U.out)
 replace R2 := Lib.hid (blk_next hX R2.out)
 replace R3 := Lib.hid (blk_next hX R3.out)
 replace O := Lib.hid (blk_next hX O.out)
 replace Q := Lib.hid (blk_next hX Q.out)
 replace L := Lib.hid (blk_next hX L.out)
 replace H := Lib.hid (blk_next hX H.out)
 replace C := Lib.hid (blk_next hX C.out)
 replace HAL := Lib.hid (fun kx9 => GK.grow _ _ _ _ (HAL.out kx9) hX)
 clear hX
 go_simp
 refine hK'.out _ _ (fun _ _ h => h.alloc _) ?_
 clear hK' K'
 try simp only [Act.put, zA, zB, zC]
 have HB := Lib.hid (Bal (Below.refl X12.heap.size X12) (.cells #[.int .i64 0, .int .i64 0] 36))
 have T : Hid ((X12.alloc (.cells #[.int .i64 0, .int .i64 0] 36)).heap[X12.heap.size]? = some (.cells #[.int .i64 0, .int .i64 0] 36)) := Lib.hid (blk_new X12 (.cells #[.int .i64 0, .int .i64 0] 36))
 have LT_T : Hid (w.heap.size < X12.heap.size ∧ w.heap.size + 1 < X12.heap.size ∧ w.heap.size + 1 + 1 < X12.heap.size ∧ gO < X12.heap.size ∧ gQ < X12.heap.size ∧ gL < X12.heap.size ∧ gH < X12.heap.size ∧ gC < X12.heap.size ∧ w.heap.size ≤ X12.heap.size) := Lib.hid ⟨blk_lt U.out, blk_lt R2.out, blk_lt R3.out, blk_lt O.out, blk_lt Q.out, blk_lt L.out, blk_lt H.out, blk_lt C.out, NN.out.size⟩
 replace NN := Lib.hid (Bgo NN.out HB.out)
 replace U := Lib.hid (blk_next HB.out U.out)
 replace R2 := Lib.hid (blk_next HB.out R2.out)
 replace R3 := Lib.hid (blk_next HB.out R3.out)
 replace O := Lib.hid (blk_next HB.out O.out)
 replace Q := Lib.hid (blk_next HB.out Q.out)
 replace L := Lib.hid (blk_next HB.out L.out)
 replace H := Lib.hid (blk_next HB.out H.out)
 replace C := Lib.hid (blk_next HB.out C.out)
 replace HAL := Lib.hid (fun kx9 => GK.grow _ _ _ _ (HAL.out kx9) HB.out)
 clear HB
 generalize X12.alloc (.cells #[.int .i64 0, .int .i64 0] 36) = W13 at *
 generalize X12.heap.size = gT at *
 refine only_G 7 (by kernel_rfl) rfl (fun X14 hX K' hK' => ?_)
 replace NN := Lib.hid (Bgo NN.out hX)
 replace U := Lib.hid (blk_next hX U.out)
 replace R2 := Lib.hid (blk_next hX R2.out)
 replace R3 := Lib.hid (blk_next hX R3.out)
 replace O := Lib.hid (blk_next hX O.out)
 replace Q := Lib.hid (blk_next hX Q.out)
 replace L := Lib.hid (blk_next hX L.out)
 replace H := Lib.hid (blk_next hX H.out)
 replace C := Lib.hid (blk_next hX C.out)
 replace T := Lib.hid (blk_next hX T.out)
 replace HAL := Lib.hid (fun kx9 => GK.grow _ _ _ _ (HAL.out kx9) hX)
 clear hX
 have c_T_0 := blk_cell T.out 0 _ rfl
 have f_T_0 := blk_frozen T.out 0
 have c_T_1 := blk_cell T.out 1 _ rfl
 have f_T_1 := blk_frozen T.out 1
 have l_T := blk_lt T.out
 go_simp
 clear c_T_0 f_T_0 c_T_1 f_T_1 l_T
 refine hK'.out _ _ (fun kk hk hS => ?_) ?_
 ·have HN : ∀ p ∈ ([(0, w.heap.size, .cells #[.int .i64 n, .int .i64 d] 36)] : List (Nat × Nat × Obj)), p.1 = kk → p.2.1 ≠ gT := fun p hp e => by
   simp only [List.mem_cons, List.not_mem_nil, or_false] at hp
   subst hp
   subst e
   exact bfl (by kernel_rfl) hk
  exact GK.set (GK.set hS HN) HN
 clear hK' K'
 try simp only [Act.put, zA, zB, zC]
 clear HAL
 replace U : Hid (((X14.setCell ⟨gT, 0, none⟩ (.int .i64 t1)).setCell ⟨gT, 1, none⟩ (.int .i64 t2)).heap[w.heap.size]? = some (.cells #[.int .i64 n, .int .i64 d] 36)) := Lib.hid (blk_set_other (b' := gT) (blk_set_other (b' := gT) (U.out) (by have := LT_T.out; omega) 0 (.int .i64 t1)) (by have := LT_T.out; omega) 1 (.int .i64 t2))
 replace R2 : Hid (((X14.setCell ⟨gT, 0, none⟩ (.int .i64 t1)).setCell ⟨gT, 1, none⟩ (.int .i64 t2)).heap[w.heap.size + 1]? = some (.cells #[.int .i64 0, .int .i64 0] 36)) := Lib.hid (blk_set_other (b' := gT) (blk_set_other (b' := gT) (R2.out) (by have := LT_T.out; omega) 0 (.int .i64 t1)) (by have := LT_T.out; omega) 1 (.int .i64 t2))
 replace R3 : Hid (((X14.setCell ⟨gT, 0, none⟩ (.int .i64 t1)).setCell ⟨gT, 1, none⟩ (.int .i64 t2)).heap[w.heap.size + 1 + 1]? = some (.cells #[.int .i64 0, .int .i64 0] 36)) := Lib.hid (blk_set_other (b' := gT) (blk_set_other (b' := gT) (R3.out) (by have := LT_T.out; omega) 0 (.int .i64 t1)) (by have := LT_T.out; omega) 1 (.int .i64 t2))
 replace O : Hid (((X14.setCell ⟨gT, 0, none⟩ (.int .i64 t1)).setCell ⟨gT, 1, none⟩ (.int .i64 t2)).heap[gO]? = some (.cells #[.int .i64 1, .int .i64 1] 36)) := Lib.hid (blk_set_other (b' := gT) (blk_set_other (b' := gT) (O.out) (by have := LT_T.out; omega) 0 (.int .i64 t1)) (by have := LT_T.out; omega) 1 (.int .i64 t2))
 replace Q : Hid (((X14.setCell ⟨gT, 0, none⟩ (.int .i64 t1)).setCell ⟨gT, 1, none⟩ (.int .i64 t2)).heap[gQ]? = some (.cells #[.int .i64 q1, .int .i64 q2] 36)) := Lib.hid (blk_set_other (b' := gT) (blk_set_other (b' := gT) (Q.out) (by have := LT_T.out; omega) 0 (.int .i64 t1)) (by have := LT_T.out; omega) 1 (.int .i64 t2))
 replace L : Hid (((X14.setCell ⟨gT, 0, none⟩ (.int .i64 t1)).setCell ⟨gT, 1, none⟩ (.int .i64 t2)).heap[gL]? = some (.cells #[.int .i64 l1, .int .i64 l2] 36)) := Lib.hid (blk_set_other (b' := gT) (blk_set_other (b' := gT) (L.out) (by have := LT_T.out; omega) 0 (.int .i64 t1)) (by have := LT_T.out; omega) 1 (.int .i64 t2))
 replace H : Hid (((X14.setCell ⟨gT, 0, none⟩ (.int .i64 t1)).setCell ⟨gT, 1, none⟩ (.int .i64 t2)).heap[gH]? = some (.cells #[.int .i64 p1, .int .i64 p2] 36)) := Lib.hid (blk_set_other (b' := gT) (blk_set_other (b' := gT) (H.out) (by have := LT_T.out; omega) 0 (.int .i64 t1)) (by have := LT_T.out; omega) 1 (.int .i64 t2))
 replace C : Hid (((X14.setCell ⟨gT, 0, none⟩ (.int .i64 t1)).setCell ⟨gT, 1, none⟩ (.int .i64 t2)).heap[gC]? = some (.cells #[.int .i64 c1, .int .i64 c2] 36)) := Lib.hid (blk_set_other (b' := gT) (blk_set_other (b' := gT) (C.out) (by have := LT_T.out; omega) 0 (.int .i64 t1)) (by have := LT_T.out; omega) 1 (.int .i64 t2))
 replace T : Hid (((X14.setCell ⟨gT, 0, none⟩ (.int .i64 t1)).setCell ⟨gT, 1, none⟩ (.int .i64 t2)).heap[gT]? = some (.cells #[.int .i64 t1, .int .i64 t2] 36)) := Lib.hid (blk_set (blk_set (T.out) 0 (.int .i64 t1)) 1 (.int .i64 t2))
 replace NN := Lib.hid (Bset1 (Bset1 (NN.out) (show w.heap.size ≤ gT by have := LT_T.out; omega) 0 (.int .i64 t1)) (show w.heap.size ≤ gT by have := LT_T.out; omega) 1 (.int .i64 t2))
 generalize ((X14.setCell ⟨gT, 0, none⟩ (.int .i64 t1)).setCell ⟨gT, 1, none⟩ (.int .i64 t2)) = W15 at *
 refine tG 8 (.int .i64 0) (some 15) (GK.grow _) rfl (YieldsIf.toG (Or.inl ⟨by rfl, ?_⟩)) (GK.drop (by simp)) ?_
 ·intro X hX
  clear hX
  go_simp
 try simp only [Act.put, zA, zB, zC]
 refine done_G (by kernel_rfl) (fun X16 hX => ?_) _
 replace NN := Lib.hid (Bgo NN.out hX)
 replace U := Lib.hid (blk_next hX U.out)
 replace R2 := Lib.hid (blk_next hX R2.out)
 replace R3 := Lib.hid (blk_next hX R3.out)
 replace O := Lib.hid (blk_next hX O.out)
 replace Q := Lib.hid (blk_next hX Q.out)
 replace L := Lib.hid (blk_next hX L.out)
 replace H := Lib.hid (blk_next hX H.out)
 replace C := Lib.hid (blk_next hX C.out)
 replace T := Lib.hid (blk_next hX T.out)
 clear hX
 have c_T_0 := blk_cell T.out 0 _ rfl
 have f_T_0 := blk_frozen T.out 0
 have c_T_1 := blk_cell T.out 1 _ rfl
 have f_T_1 := blk_frozen T.out 1
 have l_T := blk_lt T.out
 have c_H_0 := blk_cell H.out 0 _ rfl
 have f_H_0 := blk_frozen H.out 0
 have c_H_1 := blk_cell H.out 1 _ rfl
 have f_H_1 := blk_frozen H.out 1
 have l_H := blk_lt H.out
 go_wp2_with fail
 clear c_T_0 f_T_0 c_T_1 f_T_1 l_T c_H_0 f_H_0 c_H_1 f_H_1 l_H
 refine (C6.out _).mono ?_
 rintro e w17 ⟨rfl, hb⟩
 replace NN := Lib.hid (Bgo NN.out hb)
 replace U := Lib.hid (blk_next hb U.out)
 replace R2 := Lib.hid (blk_next hb R2.out)
 replace R3 := Lib.hid (blk_next hb R3.out)
 replace O := Lib.hid (blk_next hb O.out)
 replace Q := Lib.hid (blk_next hb Q.out)
 replace L := Lib.hid (blk_next hb L.out)
 replace H := Lib.hid (blk_next hb H.out)
 replace C := Lib.hid (blk_next hb C.out)
 replace T := Lib.hid (blk_next hb T.out)
 clear hb
 have HB := Lib.hid (show Below w17.heap.size w17 (w17.alloc (.cells #[.int .i64 s1, .int .i64 s2] 36)) from (Bal (Below.refl _ _) _))
 have S : Hid ((w17.alloc (.cells #[.int .i64 s1, .int .i64 s2] 36)).heap[w17.heap.size]? = some (.cells #[.int .i64 s1, .int .i64 s2] 36)) := Lib.hid (blk_new w17 _)
 have LT_S : Hid (w.heap.size < w17.heap.size ∧ w.heap.size + 1 < w17.heap.size ∧ w.heap.size + 1 + 1 < w17.heap.size ∧ gO < w17.heap.size ∧ gQ < w17.heap.size ∧ gL < w17.heap.size ∧ gH < w17.heap.size ∧ gC < w17.heap.size ∧ gT < w17.heap.size ∧ w.heap.size ≤ w17.heap.size) := Lib.hid ⟨blk_lt U.out, blk_lt R2.out, blk_lt R3.out, blk_lt O.out, blk_lt Q.out, blk_lt L.out, blk_lt H.out, blk_lt C.out, blk_lt T.out, NN.out.size⟩
 replace NN := Lib.hid (Bgo NN.out HB.out)
 replace U := Lib.hid (blk_next HB.out U.out)
 replace R2 := Lib.hid (blk_next HB.out R2.out)
 replace R3 := Lib.hid (blk_next HB.out R3.out)
 replace O := Lib.hid (blk_next HB.out O.out)
 replace Q := Lib.hid (blk_next HB.out Q.out)
 replace L := Lib.hid (blk_next HB.out L.out)
 replace H := Lib.hid (blk_next HB.out H.out)
 replace C := Lib.hid (blk_next HB.out C.out)
 replace T := Lib.hid (blk_next HB.out T.out)
 clear HB
 go_upto_region 10 with fail
 generalize (w17.alloc (.cells #[.int .i64 s1, .int .i64 s2] 36)) = W18 at *
 generalize w17.heap.size = gS at *
 have HDRW := Lib.hid (Below.drew (Below.refl W18.heap.size W18))
 replace NN := Lib.hid (Bgo NN.out HDRW.out)
 replace U := Lib.hid (blk_next HDRW.out U.out)
 replace R2 := Lib.hid (blk_next HDRW.out R2.out)
 replace R3 := Lib.hid (blk_next HDRW.out R3.out)
 replace O := Lib.hid (blk_next HDRW.out O.out)
 replace Q := Lib.hid (blk_next HDRW.out Q.out)
 replace L := Lib.hid (blk_next HDRW.out L.out)
 replace H := Lib.hid (blk_next HDRW.out H.out)
 replace C := Lib.hid (blk_next HDRW.out C.out)
 replace T := Lib.hid (blk_next HDRW.out T.out)
 replace S := Lib.hid (blk_next HDRW.out S.out)
 clear HDRW
 have HAL : Hid (∀ kx9 : Nat, GK [(0, gC, .cells #[.int .i64 c1, .int .i64 c2] 36), (1, gS, .cells #[.int .i64 s1, .int .i64 s2] 36)] kx9 W18.drew) := Lib.hid (fun kx9 p hp e => by
  simp only [List.mem_cons, List.not_mem_nil, or_false] at hp
  rcases hp with rfl | rfl
  ·exact C.out
  ·exact S.out)
 refine region_G (S := GK [(0, gC, .cells #[.int .i64 c1, .int .i64 c2] 36), (1, gS, .cells #[.int .i64 s1, .int .i64 s2] 36)]) (by kernel_rfl) ?_
 refine tG 0 (.agg #[.int .i64 c1, .int .i64 c2]) (some 66) (GK.grow _) rfl (YieldsIf.toG (Or.inl ⟨by rfl, ?_⟩)) (HAL.out 0) ?_
 ·intro X hX
  have hh := hX (0, gC, .cells #[.int .i64 c1, .int .i64 c2] 36) (List.Mem.head _) rfl
  have hh0 := blk_cell hh 0 _ rfl
  have hh1 := blk_cell hh 1 _ rfl
  have hhl := blk_lt hh
  clear hh
  clear hX
  go_simp
 try simp only [Act.put, zA, zB, zC]
 refine tG 1 (.agg #[.int .i64 s1, .int .i64 s2]) (some 67) (GK.grow _) rfl (YieldsIf.toG (Or.inl ⟨by rfl, ?_⟩)) (HAL.out 1) ?_
 ·intro X hX
  have hh := hX (1, gS, .cells #[.int .i64 s1, .int .i64 s2] 36) (List.Mem.tail _ (List.Mem.head _)) rfl
  have hh0 := blk_cell hh 0 _ rfl
  have hh1 := blk_cell hh 1 _ rfl
  have hhl := blk_lt hh
  clear hh
  clear hX
  go_simp
 try simp only [Act.put, zA, zB, zC]
 refine tG 2 (.int .i64 0) (some 68) (GK.grow _) rfl (YieldsIf.toG (Or.inl ⟨by rfl, ?_⟩)) (GK.drop (by simp)) ?_
 ·intro X hX
  clear hX
  go_simp
 try simp only [Act.put, zA, zB, zC]
 refine tG 3 (.int .i64 0) (some 69) (GK.grow _) rfl (YieldsIf.toG (Or.inl ⟨by rfl, ?_⟩)) (GK.drop (by simp)) ?_
 ·intro X hX
  clear hX
  go_simp
 try simp only [Act.put, zA, zB, zC]
 refine tG 4 (.int .i64 0) (some 70) (GK.grow _) rfl (YieldsIf.toG (Or.inl ⟨by rfl, ?_⟩)) (GK.drop (by simp)) ?_
 ·intro X hX
  clear hX
  go_simp
 try simp only [Act.put, zA, zB, zC]
 have CFn : ∀ (args : Array Value) (W : World), Sem.run Tryz.prog (callFunc 88 args) W = .ok (.enter 88 args) W := fun _ _ => by kernel_rfl
 refine tG 5 (.int .i64 0) (some 71) (GK.grow _) rfl (yieldsG_call 88 #[.int .i64 0, .int .i64 0, .int .i64 0] (by rfl) ?_ (fun X hS => first_calls X)) (GK.drop (by simp)) ?_
 ·intro X hX
  clear hX
  go_simp
 clear CFn
 try simp only [Act.put, zA, zB, zC]
 refine only_G 6 (by kernel_rfl) rfl (fun X19 hX K' hK' => ?_)
 replace NN := Lib.hid (Bgo NN.out hX)
 replace U := Lib.hid (blk_next hX U.out)
 replace R2 := Lib.hid (blk_next hX R2.out)
 replace R3 := Lib.hid (blk_next hX R3.out)
 replace O := Lib.hid (blk_next hX O.out)
 replace Q := Lib.hid (blk_next hX Q.out)
 replace L := Lib.hid (blk_next hX L.out)
 replace H := Lib.hid (blk_next hX H.out)
 replace C := Lib.hid (blk_next hX C.out)
 replace T := Lib.hid (blk_next hX T.out)
 replace S := Lib.hid (blk_next hX S.out)
 replace HAL := Lib.hid (fun kx9 => GK.grow _ _ _ _ (HAL.out kx9) hX)
 clear hX
 have c_R2_0 := blk_cell R2.out 0 _ rfl
 have f_R2_0 := blk_frozen R2.out 0
 have c_R2_1 := blk_cell R2.out 1 _ rfl
 have f_R2_1 := blk_frozen R2.out 1
 have l_R2 := blk_lt R2.out
 go_simp
 clear c_R2_0 f_R2_0 c_R2_1 f_R2_1 l_R2
 refine hK'.out _ _ (fun kk hk hS => ?_) ?_
 ·have HN : ∀ p ∈ ([(0, gC, .cells #[.int .i64 c1, .int .i64 c2] 36), (1, gS, .cells #[.int .i64 s1, .int .i64 s2] 36)] : List (Nat × Nat × Obj)), p.1 = kk → p.2.1 ≠ w.heap.size + 1 := fun p hp e => by
   simp only [List.mem_cons, List.not_mem_nil, or_false] at hp
   rcases hp with rfl | rfl
   ·subst e
    exact bfl (by kernel_rfl) hk
   ·show gS ≠ w.heap.size + 1
    have := LT_O.out; have := LT_Q.out; have := LT_L.out; have := LT_H.out; have := LT_C.out; have := LT_T.out; have := LT_S.out; omega
  exact GK.set (GK.set hS HN) HN
 clear hK' K'
 try simp only [Act.put, zA, zB, zC]
 clear HAL
 replace U : Hid (((X19.setCell ⟨w.heap.size + 1, 0, none⟩ (.int .i64 c1)).setCell ⟨w.heap.size + 1, 1, none⟩ (.int .i64 c2)).heap[w.heap.size]? = some (.cells #[.int .i64 n, .int .i64 d] 36)) := Lib.hid (blk_set_other (b' := w.heap.size + 1) (blk_set_other (b' := w.heap.size + 1) (U.out) (by omega) 0 (.int .i64 c1)) (by omega) 1 (.int .i64 c2))
 replace R2 : Hid (((X19.setCell ⟨w.heap.size + 1, 0, none⟩ (.int .i64 c1)).setCell ⟨w.heap.size + 1, 1, none⟩ (.int .i64 c2)).heap[w.heap.size + 1]? = some (.cells #[.int .i64 c1, .int .i64 c2] 36)) := Lib.hid (blk_set (blk_set (R2.out) 0 (.int .i64 c1)) 1 (.int .i64 c2))
 replace R3 : Hid (((X19.setCell ⟨w.heap.size + 1, 0, none⟩ (.int .i64 c1)).setCell ⟨w.heap.size + 1, 1, none⟩ (.int .i64 c2)).heap[w.heap.size + 1 + 1]? = some (.cells #[.int .i64 0, .int .i64 0] 36)) := Lib.hid (blk_set_other (b' := w.heap.size + 1) (blk_set_other (b' := w.heap.size + 1) (R3.out) (by omega) 0 (.int .i64 c1)) (by omega) 1 (.int .i64 c2))
 replace O : Hid (((X19.setCell ⟨w.heap.size + 1, 0, none⟩ (.int .i64 c1)).setCell ⟨w.heap.size + 1, 1, none⟩ (.int .i64 c2)).heap[gO]? = some (.cells #[.int .i64 1, .int .i64 1] 36)) := Lib.hid (blk_set_other (b' := w.heap.size + 1) (blk_set_other (b' := w.heap.size + 1) (O.out) (by have := LT_O.out; omega) 0 (.int .i64 c1)) (by have := LT_O.out; omega) 1 (.int .i64 c2))
 replace Q : Hid (((X19.setCell ⟨w.heap.size + 1, 0, none⟩ (.int .i64 c1)).setCell ⟨w.heap.size + 1, 1, none⟩ (.int .i64 c2)).heap[gQ]? = some (.cells #[.int .i64 q1, .int .i64 q2] 36)) := Lib.hid (blk_set_other (b' := w.heap.size + 1) (blk_set_other (b' := w.heap.size + 1) (Q.out) (by have := LT_Q.out; omega) 0 (.int .i64 c1)) (by have := LT_Q.out; omega) 1 (.int .i64 c2))
 replace L : Hid (((X19.setCell ⟨w.heap.size + 1, 0, none⟩ (.int .i64 c1)).setCell ⟨w.heap.size + 1, 1, none⟩ (.int .i64 c2)).heap[gL]? = some (.cells #[.int .i64 l1, .int .i64 l2] 36)) := Lib.hid (blk_set_other (b' := w.heap.size + 1) (blk_set_other (b' := w.heap.size + 1) (L.out) (by have := LT_L.out; omega) 0 (.int .i64 c1)) (by have := LT_L.out; omega) 1 (.int .i64 c2))
 replace H : Hid (((X19.setCell ⟨w.heap.size + 1, 0, none⟩ (.int .i64 c1)).setCell ⟨w.heap.size + 1, 1, none⟩ (.int .i64 c2)).heap[gH]? = some (.cells #[.int .i64 p1, .int .i64 p2] 36)) := Lib.hid (blk_set_other (b' := w.heap.size + 1) (blk_set_other (b' := w.heap.size + 1) (H.out) (by have := LT_H.out; omega) 0 (.int .i64 c1)) (by have := LT_H.out; omega) 1 (.int .i64 c2))
 replace C : Hid (((X19.setCell ⟨w.heap.size + 1, 0, none⟩ (.int .i64 c1)).setCell ⟨w.heap.size + 1, 1, none⟩ (.int .i64 c2)).heap[gC]? = some (.cells #[.int .i64 c1, .int .i64 c2] 36)) := Lib.hid (blk_set_other (b' := w.heap.size + 1) (blk_set_other (b' := w.heap.size + 1) (C.out) (by have := LT_C.out; omega) 0 (.int .i64 c1)) (by have := LT_C.out; omega) 1 (.int .i64 c2))
 replace T : Hid (((X19.setCell ⟨w.heap.size + 1, 0, none⟩ (.int .i64 c1)).setCell ⟨w.heap.size + 1, 1, none⟩ (.int .i64 c2)).heap[gT]? = some (.cells #[.int .i64 t1, .int .i64 t2] 36)) := Lib.hid (blk_set_other (b' := w.heap.size + 1) (blk_set_other (b' := w.heap.size + 1) (T.out) (by have := LT_T.out; omega) 0 (.int .i64 c1)) (by have := LT_T.out; omega) 1 (.int .i64 c2))
 replace S : Hid (((X19.setCell ⟨w.heap.size + 1, 0, none⟩ (.int .i64 c1)).setCell ⟨w.heap.size + 1, 1, none⟩ (.int .i64 c2)).heap[gS]? = some (.cells #[.int .i64 s1, .int .i64 s2] 36)) := Lib.hid (blk_set_other (b' := w.heap.size + 1) (blk_set_other (b' := w.heap.size + 1) (S.out) (by have := LT_S.out; omega) 0 (.int .i64 c1)) (by have := LT_S.out; omega) 1 (.int .i64 c2))
 replace NN := Lib.hid (Bset1 (Bset1 (NN.out) (show w.heap.size ≤ w.heap.size + 1 by omega) 0 (.int .i64 c1)) (show w.heap.size ≤ w.heap.size + 1 by omega) 1 (.int .i64 c2))
 generalize ((X19.setCell ⟨w.heap.size + 1, 0, none⟩ (.int .i64 c1)).setCell ⟨w.heap.size + 1, 1, none⟩ (.int .i64 c2)) = W20 at *
 refine only_G 7 (by kernel_rfl) rfl (fun X21 hX K' hK' => ?_)
 replace NN := Lib.hid (Bgo NN.out hX)
 replace U := Lib.hid (blk_next hX U.out)
 replace R2 := Lib.hid (blk_next hX R2.out)
 replace R3 := Lib.hid (blk_next hX R3.out)
 replace O := Lib.hid (blk_next hX O.out)
 replace Q := Lib.hid (blk_next hX Q.out)
 replace L := Lib.hid (blk_next hX L.out)
 replace H := Lib.hid (blk_next hX H.out)
 replace C := Lib.hid (blk_next hX C.out)
 replace T := Lib.hid (blk_next hX T.out)
 replace S := Lib.hid (blk_next hX S.out)
 skip
 clear hX
 have c_R3_0 := blk_cell R3.out 0 _ rfl
 have f_R3_0 := blk_frozen R3.out 0
 have c_R3_1 := blk_cell R3.out 1 _ rfl
 have f_R3_1 := blk_frozen R3.out 1
 have l_R3 := blk_lt R3.out
 go_simp
 clear c_R3_0 f_R3_0 c_R3_1 f_R3_1 l_R3
 refine hK'.out _ _ (fun kk hk hS => ?_) ?_
 ·have HN : ∀ p ∈ ([(0, gC, .cells #[.int .i64 c1, .int .i64 c2] 36), (1, gS, .cells #[.int .i64 s1, .int .i64 s2] 36)] : List (Nat × Nat × Obj)), p.1 = kk → p.2.1 ≠ w.heap.size + 1 + 1 := fun p hp e => by
   simp only [List.mem_cons, List.not_mem_nil, or_false] at hp
   rcases hp with rfl | rfl
   ·subst e
    exact bfl (by kernel_rfl) hk
   ·subst e
    exact bfl (by kernel_rfl) hk
  exact GK.set (GK.set hS HN) HN
 clear hK' K'
 try simp only [Act.put, zA, zB, zC]
 replace U : Hid (((X21.setCell ⟨w.heap.size + 1 + 1, 0, none⟩ (.int .i64 s1)).setCell ⟨w.heap.size + 1 + 1, 1, none⟩ (.int .i64 s2)).heap[w.heap.size]? = some (.cells #[.int .i64 n, .int .i64 d] 36)) := Lib.hid (blk_set_other (b' := w.heap.size + 1 + 1) (blk_set_other (b' := w.heap.size + 1 + 1) (U.out) (by omega) 0 (.int .i64 s1)) (by omega) 1 (.int .i64 s2))
 replace R2 : Hid (((X21.setCell ⟨w.heap.size + 1 + 1, 0, none⟩ (.int .i64 s1)).setCell ⟨w.heap.size + 1 + 1, 1, none⟩ (.int .i64 s2)).heap[w.heap.size + 1]? = some (.cells #[.int .i64 c1, .int .i64 c2] 36)) := Lib.hid (blk_set_other (b' := w.heap.size + 1 + 1) (blk_set_other (b' := w.heap.size + 1 + 1) (R2.out) (by omega) 0 (.int .i64 s1)) (by omega) 1 (.int .i64 s2))
 replace R3 : Hid (((X21.setCell ⟨w.heap.size + 1 + 1, 0, none⟩ (.int .i64 s1)).setCell ⟨w.heap.size + 1 + 1, 1, none⟩ (.int .i64 s2)).heap[w.heap.size + 1 + 1]? = some (.cells #[.int .i64 s1, .int .i64 s2] 36)) := Lib.hid (blk_set (blk_set (R3.out) 0 (.int .i64 s1)) 1 (.int .i64 s2))
 replace O : Hid (((X21.setCell ⟨w.heap.size + 1 + 1, 0, none⟩ (.int .i64 s1)).setCell ⟨w.heap.size + 1 + 1, 1, none⟩ (.int .i64 s2)).heap[gO]? = some (.cells #[.int .i64 1, .int .i64 1] 36)) := Lib.hid (blk_set_other (b' := w.heap.size + 1 + 1) (blk_set_other (b' := w.heap.size + 1 + 1) (O.out) (by have := LT_O.out; omega) 0 (.int .i64 s1)) (by have := LT_O.out; omega) 1 (.int .i64 s2))
 replace Q : Hid (((X21.setCell ⟨w.heap.size + 1 + 1, 0, none⟩ (.int .i64 s1)).setCell ⟨w.heap.size + 1 + 1, 1, none⟩ (.int .i64 s2)).heap[gQ]? = some (.cells #[.int .i64 q1, .int .i64 q2] 36)) := Lib.hid (blk_set_other (b' := w.heap.size + 1 + 1) (blk_set_other (b' := w.heap.size + 1 + 1) (Q.out) (by have := LT_Q.out; omega) 0 (.int .i64 s1)) (by have := LT_Q.out; omega) 1 (.int .i64 s2))
 replace L : Hid (((X21.setCell ⟨w.heap.size + 1 + 1, 0, none⟩ (.int .i64 s1)).setCell ⟨w.heap.size + 1 + 1, 1, none⟩ (.int .i64 s2)).heap[gL]? = some (.cells #[.int .i64 l1, .int .i64 l2] 36)) := Lib.hid (blk_set_other (b' := w.heap.size + 1 + 1) (blk_set_other (b' := w.heap.size + 1 + 1) (L.out) (by have := LT_L.out; omega) 0 (.int .i64 s1)) (by have := LT_L.out; omega) 1 (.int .i64 s2))
 replace H : Hid (((X21.setCell ⟨w.heap.size + 1 + 1, 0, none⟩ (.int .i64 s1)).setCell ⟨w.heap.size + 1 + 1, 1, none⟩ (.int .i64 s2)).heap[gH]? = some (.cells #[.int .i64 p1, .int .i64 p2] 36)) := Lib.hid (blk_set_other (b' := w.heap.size + 1 + 1) (blk_set_other (b' := w.heap.size + 1 + 1) (H.out) (by have := LT_H.out; omega) 0 (.int .i64 s1)) (by have := LT_H.out; omega) 1 (.int .i64 s2))
 replace C : Hid (((X21.setCell ⟨w.heap.size + 1 + 1, 0, none⟩ (.int .i64 s1)).setCell ⟨w.heap.size + 1 + 1, 1, none⟩ (.int .i64 s2)).heap[gC]? = some (.cells #[.int .i64 c1, .int .i64 c2] 36)) := Lib.hid (blk_set_other (b' := w.heap.size + 1 + 1) (blk_set_other (b' := w.heap.size + 1 + 1) (C.out) (by have := LT_C.out; omega) 0 (.int .i64 s1)) (by have := LT_C.out; omega) 1 (.int .i64 s2))
 replace T : Hid (((X21.setCell ⟨w.heap.size + 1 + 1, 0, none⟩ (.int .i64 s1)).setCell ⟨w.heap.size + 1 + 1, 1, none⟩ (.int .i64 s2)).heap[gT]? = some (.cells #[.int .i64 t1, .int .i64 t2] 36)) := Lib.hid (blk_set_other (b' := w.heap.size + 1 + 1) (blk_set_other (b' := w.heap.size + 1 + 1) (T.out) (by have := LT_T.out; omega) 0 (.int .i64 s1)) (by have := LT_T.out; omega) 1 (.int .i64 s2))
 replace S : Hid (((X21.setCell ⟨w.heap.size + 1 + 1, 0, none⟩ (.int .i64 s1)).setCell ⟨w.heap.size + 1 + 1, 1, none⟩ (.int .i64 s2)).heap[gS]? = some (.cells #[.int .i64 s1, .int .i64 s2] 36)) := Lib.hid (blk_set_other (b' := w.heap.size + 1 + 1) (blk_set_other (b' := w.heap.size + 1 + 1) (S.out) (by have := LT_S.out; omega) 0 (.int .i64 s1)) (by have := LT_S.out; omega) 1 (.int .i64 s2))
 replace NN := Lib.hid (Bset1 (Bset1 (NN.out) (show w.heap.size ≤ w.heap.size + 1 + 1 by omega) 0 (.int .i64 s1)) (show w.heap.size ≤ w.heap.size + 1 + 1 by omega) 1 (.int .i64 s2))
 generalize ((X21.setCell ⟨w.heap.size + 1 + 1, 0, none⟩ (.int .i64 s1)).setCell ⟨w.heap.size + 1 + 1, 1, none⟩ (.int .i64 s2)) = W22 at *
 refine tG 8 (.int .i64 0) (some 4) (GK.grow _) rfl (YieldsIf.toG (Or.inl ⟨by rfl, ?_⟩)) (GK.drop (by simp)) ?_
 ·intro X hX
  clear hX
  go_simp
 try simp only [Act.put, zA, zB, zC]
 refine done_G (by kernel_rfl) (fun X23 hX => ?_) _
 replace NN := Lib.hid (Bgo NN.out hX)
 replace U := Lib.hid (blk_next hX U.out)
 replace R2 := Lib.hid (blk_next hX R2.out)
 replace R3 := Lib.hid (blk_next hX R3.out)
 replace O := Lib.hid (blk_next hX O.out)
 replace Q := Lib.hid (blk_next hX Q.out)
 replace L := Lib.hid (blk_next hX L.out)
 replace H := Lib.hid (blk_next hX H.out)
 replace C := Lib.hid (blk_next hX C.out)
 replace T := Lib.hid (blk_next hX T.out)
 replace S := Lib.hid (blk_next hX S.out)
 clear hX
 have c_R2_0 := blk_cell R2.out 0 _ rfl
 have f_R2_0 := blk_frozen R2.out 0
 have c_R2_1 := blk_cell R2.out 1 _ rfl
 have f_R2_1 := blk_frozen R2.out 1
 have l_R2 := blk_lt R2.out
 have c_R3_0 := blk_cell R3.out 0 _ rfl
 have f_R3_0 := blk_frozen R3.out 0
 have c_R3_1 := blk_cell R3.out 1 _ rfl
 have f_R3_1 := blk_frozen R3.out 1
 have l_R3 := blk_lt R3.out
 go_wp2_with fail
 exact bodyPost_ret (v := (.tuple #[Fv c1 c2, Fv s1 s2, .int .i64 0])) (by simp [results, Tryz.results60, go_sem, c_R2_0, c_R2_1, c_R3_0, c_R3_1]) rfl ⟨rfl, NN.out⟩
end Go.Proofs.YtfangplfbbgphaaGreatDoor
