/- Several texts in one. -/
import Derived.StillTailTactics
import Derived.Deep.DeepCutAuto
import Derived.Test.YtapehckcmmompaaM20
import Derived.Test.YtapehckcmmompaaM26
namespace Go.Proofs.Ytapehckcmmompaa
open Go.ChangeShapes Go.WideShapes Go.ChangeAt Go.RowKit
set_option linter.unusedVariables false
set_option linter.unusedSimpArgs false
set_option maxRecDepth 100000
attribute [local go_sem ↓] Go.wp_at_zero Go.wp_at_succ
def lenV : Value → Nat
 | .slice _ n _ => n
 | _ => 0
def hdq (gp k dn cp j : Nat) : List Value := (List.range j).map fun i => .slice (some ⟨gp, (k * dn + i) * 8, none⟩) 8 (cp - (k * dn + i) * 8)
theorem hdq_len (gp k dn cp j : Nat) : (hdq gp k dn cp j).length = j := by simp [hdq]
theorem hdq_succ (gp k dn cp j : Nat) : hdq gp k dn cp (j + 1) = hdq gp k dn cp j ++ [.slice (some ⟨gp, (k * dn + j) * 8, none⟩) 8 (cp - (k * dn + j) * 8)] := by simp [hdq, List.range_succ]
theorem rma_hdq {W : World} {B B' gp k dn mn cp n : Nat} {Ad : Option Addr} {cd : Nat} {q : List Nat} (h : W.ownsRow B 26 1 (.slice Ad dn cd) dn (hdq gp k dn cp dn)) (hp : W.ownsRow B' 5 1 (.slice (some ⟨gp, 0, none⟩) n cp) q.length (bv q)) (hq : q.length = mn * 8 * dn) (hb : Byt q) (hk : k < mn) (hc : q.length ≤ cp) (hm : cp ≤ 9223372036854775807) :
  RMA 0 W Ad (rowsL dn q k) := by
 refine ⟨hdq gp k dn cp dn, by rw [hdq_len, rowsL_len], (Hd.of_own h).mono (Nat.zero_le _), fun i u l hu hl => ?_⟩
 have hi : i < dn := by have := get_lt hl; rwa [rowsL_len] at this
 rw [rowsL_get hi] at hl
 injection hl with hl
 have hf := row_fit hk hi
 have h8 : l.length = 8 := by rw [← hl, List.length_take, List.length_drop]; omega
 simp only [hdq, List.getElem?_map, List.getElem?_range hi, Option.map_some, Option.some.injEq] at hu
 have hq1 : n = q.length := by
  obtain ⟨A', c', e, _⟩ := own_form2 hp
  simp only [Value.slice.injEq] at e; exact e.2.1
 subst hq1
 have hd := Hd.of_own hp
 refine ⟨some ⟨gp, (k * dn + i) * 8, none⟩, cp - (k * dn + i) * 8, by rw [h8]; exact hu.symm, by rw [h8]; omega, by omega, fun x hx => ?_, fun j v hv => ?_⟩
 ·rw [← hl] at hx
  exact hb x (List.mem_of_mem_drop (List.mem_of_mem_take hx))
 ·have hj : j < 8 := by have := get_lt hv; simp [bv, h8] at this; exact this
  have hv2 : (bv q)[(k * dn + i) * 8 + j]? = some v := by
   rw [← hl] at hv
   simp only [bv, List.getElem?_map, List.getElem?_take, if_pos hj, List.getElem?_drop] at hv
   simpa [bv] using hv
  obtain ⟨b, off, e, h1, h2, h3⟩ := hd _ v hv2
  injection e with e
  injection e with e1 e2 _
  subst e1 e2
  exact ⟨gp, (k * dn + i) * 8, rfl, Nat.zero_le _, h2, by simpa using h3⟩
theorem lay_own {B base size m' : Nat} {W w2 : World} {g n m cap i : Nat} {e : TypeId} {x x' v : Value} {hs u xs : List Value} {us : List (List Value)} {ds : List Dk} (h : W.ownsRow base e size v m' xs) (ho : OS B W (.slice (some ⟨g, 0, none⟩) n cap) hs us ds) (hx : W.ownsRow B 26 1 x m u) (hg : W.grownBy w2 x.ownBlock) (h1 : 46 ≠ e) (h2 : 26 ≠ e) : (w2.setCell ⟨g, i, none⟩ x').ownsRow base e size v m' xs :=
 own_same h fun g' cs _ hh => (lay_other hh ho hx hg h1 h2).trans hh.symm
set_option maxHeartbeats 16000000 in
theorem refPut_calls (d p : Int) (D A : Option Addr) (cd ca B : Nat) (ds : List Dk) (os : List Ob) (nm : ByteArray) (Ab : Option Addr) (cb Bb : Nat) (b : List Nat) (w : World) (hnd : ds.length ≤ cd) (hcd : cd ≤ 9223372036854775807) (hna : os.length ≤ ca) (hca : ca ≤ 9223372036854775807) (hd : RD B w D ds) (hs : RO B w A os) (hl : ∀ o ∈ os, Lh o.name) (hnm : nm.size ≤ 9223372036854775807) (hb1 : b.length ≤ cb) (hb2 : cb ≤ 9223372036854775807) (hb3 : RBA Bb w Ab b) :
  Calls Try.prog 15 #[Tv d p (.slice D ds.length cd) (.slice A os.length ca), .string nm, .slice Ab b.length cb] w (SOPost w (putS d p ds os nm b) (putE d p ds os nm b)) := by
 have HD := Lib.hid hd
 have HS := Lib.hid hs
 have HL := Lib.hid hl
 clear hd hs hl
 have HBB := Lib.hid hb3
 clear hb3
 by_cases ck : chS d p ds os = 0
 rotate_left
 ·skip
  have E := putE_bad (nm := nm) (b := b) ck
  have S := putS_bad E (by first | exact ck | decide)
  rw [E, S]
  clear E S
  go_enter Try.func15, Try.ntmps15
  go_upto_region 1 with fail
  have SB : Hid (((w.alloc (.cells #[.int .i64 d, .int .i64 p, .slice D ds.length cd, .slice A os.length ca] 25)).alloc (.cells #[.int .i64 0, .int .i64 0, .slice none 0 0, .slice none 0 0] 25)).heap[w.heap.size]? = some (.cells #[.int .i64 d, .int .i64 p, .slice D ds.length cd, .slice A os.length ca] 25)) := Lib.hid (blk_alloc (blk_new w _) _)
  have XB : Hid (((w.alloc (.cells #[.int .i64 d, .int .i64 p, .slice D ds.length cd, .slice A os.length ca] 25)).alloc (.cells #[.int .i64 0, .int .i64 0, .slice none 0 0, .slice none 0 0] 25)).heap[w.heap.size + 1]? = some (.cells #[.int .i64 0, .int .i64 0, .slice none 0 0, .slice none 0 0] 25)) := Lib.hid (blk_at _ (by simp))
  have NN : Hid (Below w.heap.size w ((w.alloc (.cells #[.int .i64 d, .int .i64 p, .slice D ds.length cd, .slice A os.length ca] 25)).alloc (.cells #[.int .i64 0, .int .i64 0, .slice none 0 0, .slice none 0 0] 25))) := Lib.hid (Bal (Bal (Below.refl _ _) _) _)
  generalize ((w.alloc (.cells #[.int .i64 d, .int .i64 p, .slice D ds.length cd, .slice A os.length ca] 25)).alloc (.cells #[.int .i64 0, .int .i64 0, .slice none 0 0, .slice none 0 0] 25)) = W0 at *
  have s0 := blk_cell SB.out 0 _ rfl
  have s1 := blk_cell SB.out 1 _ rfl
  have s2 := blk_cell SB.out 2 _ rfl
  have s3 := blk_cell SB.out 3 _ rfl
  have ls := blk_lt SB.out
  go_wp2_with fail
  clear s0 s1 s2 s3 ls
  refine (oRefCheck_calls d p D A cd ca B ds os _ hnd hcd hna hca (HD.out.next NN.out) (HS.out.next NN.out) HL.out).mono ?_
  rintro e w1 ⟨rfl, hb⟩
  replace SB := Lib.hid (blk_next hb SB.out)
  replace XB := Lib.hid (blk_next hb XB.out)
  replace NN := Lib.hid (Bgo NN.out hb)
  clear hb
  have LX := blk_lt XB.out
  have ck2 : (chS d p ds os != 0) = true := by rw [bne_iff_ne]; exact ck
  have x0 := blk_cell XB.out 0 _ rfl
  have fx0 := blk_frozen XB.out 0
  have x1 := blk_cell XB.out 1 _ rfl
  have fx1 := blk_frozen XB.out 1
  have x2 := blk_cell XB.out 2 _ rfl
  have fx2 := blk_frozen XB.out 2
  have x3 := blk_cell XB.out 3 _ rfl
  have fx3 := blk_frozen XB.out 3
  have lx := blk_lt XB.out
  go_wp2_with fail
  have Z := blk_set4 XB.out (.int .i64 0) (.int .i64 0) (.slice none 0 0) (.slice none 0 0)
  have e0 := blk_cell Z 0 _ rfl
  have e1 := blk_cell Z 1 _ rfl
  have e2 := blk_cell Z 2 _ rfl
  have e3 := blk_cell Z 3 _ rfl
  exact bodyPost_ret (v := .tuple #[Tv 0 0 (.slice none 0 0) (.slice none 0 0), .int .i64 (chS d p ds os)]) (by simp [results, Try.results15, go_sem, e0, e1, e2, e3]) rfl ⟨_, _, rfl, OT.nil _ _, OO.nil _ _, Bset4 NN.out (by omega) _ _ _ _⟩
 have OK := Lib.hid (chS_ok ck)
 have NC := Lib.hid (fun W => calls_below (refName_calls nm W hnm))
 by_cases n1 : namB nm.data.toList = true
 rotate_left
 ·have n1' : namB nm.data.toList = false := by simpa using n1
  rw [n1'] at NC
  have E := putE_name (b := b) ck n1'
  have S := putS_bad E (by first | exact ck | decide)
  rw [E, S]
  clear E S
  go_enter Try.func15, Try.ntmps15
  go_upto_region 1 with fail
  have SB : Hid (((w.alloc (.cells #[.int .i64 d, .int .i64 p, .slice D ds.length cd, .slice A os.length ca] 25)).alloc (.cells #[.int .i64 0, .int .i64 0, .slice none 0 0, .slice none 0 0] 25)).heap[w.heap.size]? = some (.cells #[.int .i64 d, .int .i64 p, .slice D ds.length cd, .slice A os.length ca] 25)) := Lib.hid (blk_alloc (blk_new w _) _)
  have XB : Hid (((w.alloc (.cells #[.int .i64 d, .int .i64 p, .slice D ds.length cd, .slice A os.length ca] 25)).alloc (.cells #[.int .i64 0, .int .i64 0, .slice none 0 0, .slice none 0 0] 25)).heap[w.heap.size + 1]? = some (.cells #[.int .i64 0, .int .i64 0, .slice none 0 0, .slice none 0 0] 25)) := Lib.hid (blk_at _ (by simp))
  have NN : Hid (Below w.heap.size w ((w.alloc (.cells #[.int .i64 d, .int .i64 p, .slice D ds.length cd, .slice A os.length ca] 25)).alloc (.cells #[.int .i64 0, .int .i64 0, .slice none 0 0, .slice none 0 0] 25))) := Lib.hid (Bal (Bal (Below.refl _ _) _) _)
  generalize ((w.alloc (.cells #[.int .i64 d, .int .i64 p, .slice D ds.length cd, .slice A os.length ca] 25)).alloc (.cells #[.int .i64 0, .int .i64 0, .slice none 0 0, .slice none 0 0] 25)) = W0 at *
  have s0 := blk_cell SB.out 0 _ rfl
  have s1 := blk_cell SB.out 1 _ rfl
  have s2 := blk_cell SB.out 2 _ rfl
  have s3 := blk_cell SB.out 3 _ rfl
  have ls := blk_lt SB.out
  go_wp2_with fail
  clear s0 s1 s2 s3 ls
  refine (oRefCheck_calls d p D A cd ca B ds os _ hnd hcd hna hca (HD.out.next NN.out) (HS.out.next NN.out) HL.out).mono ?_
  rintro e w1 ⟨rfl, hb⟩
  replace SB := Lib.hid (blk_next hb SB.out)
  replace XB := Lib.hid (blk_next hb XB.out)
  replace NN := Lib.hid (Bgo NN.out hb)
  clear hb
  have LX := blk_lt XB.out
  rw [ck]
  go_wp2_with fail
  refine (NC.out _).mono ?_
  rintro e w2 ⟨rfl, hb⟩
  replace SB := Lib.hid (blk_next hb SB.out)
  replace XB := Lib.hid (blk_next hb XB.out)
  replace NN := Lib.hid (Bgo NN.out hb)
  clear hb
  have x0 := blk_cell XB.out 0 _ rfl
  have fx0 := blk_frozen XB.out 0
  have x1 := blk_cell XB.out 1 _ rfl
  have fx1 := blk_frozen XB.out 1
  have x2 := blk_cell XB.out 2 _ rfl
  have fx2 := blk_frozen XB.out 2
  have x3 := blk_cell XB.out 3 _ rfl
  have fx3 := blk_frozen XB.out 3
  have lx := blk_lt XB.out
  go_wp2_with fail
  have Z := blk_set4 XB.out (.int .i64 0) (.int .i64 0) (.slice none 0 0) (.slice none 0 0)
  have e0 := blk_cell Z 0 _ rfl
  have e1 := blk_cell Z 1 _ rfl
  have e2 := blk_cell Z 2 _ rfl
  have e3 := blk_cell Z 3 _ rfl
  exact bodyPost_ret (v := .tuple #[Tv 0 0 (.slice none 0 0) (.slice none 0 0), .int .i64 (8)]) (by simp [results, Try.results15, go_sem, e0, e1, e2, e3]) rfl ⟨_, _, rfl, OT.nil _ _, OO.nil _ _, Bset4 NN.out (by omega) _ _ _ _⟩
 rw [n1] at NC
 by_cases f1 : 0 ≤ findL os nm.toList
 ·have t_f1 : decide (0 ≤ findL os nm.toList) = true := decide_eq_true f1
  have E := putE_twice (b := b) ck n1 f1
  have S := putS_bad E (by first | exact ck | decide)
  rw [E, S]
  clear E S
  go_enter Try.func15, Try.ntmps15
  go_upto_region 1 with fail
  have SB : Hid (((w.alloc (.cells #[.int .i64 d, .int .i64 p, .slice D ds.length cd, .slice A os.length ca] 25)).alloc (.cells #[.int .i64 0, .int .i64 0, .slice none 0 0, .slice none 0 0] 25)).heap[w.heap.size]? = some (.cells #[.int .i64 d, .int .i64 p, .slice D ds.length cd, .slice A os.length ca] 25)) := Lib.hid (blk_alloc (blk_new w _) _)
  have XB : Hid (((w.alloc (.cells #[.int .i64 d, .int .i64 p, .slice D ds.length cd, .slice A os.length ca] 25)).alloc (.cells #[.int .i64 0, .int .i64 0, .slice none 0 0, .slice none 0 0] 25)).heap[w.heap.size + 1]? = some (.cells #[.int .i64 0, .int .i64 0, .slice none 0 0, .slice none 0 0] 25)) := Lib.hid (blk_at _ (by simp))
  have NN : Hid (Below w.heap.size w ((w.alloc (.cells #[.int .i64 d, .int .i64 p, .slice D ds.length cd, .slice A os.length ca] 25)).alloc (.cells #[.int .i64 0, .int .i64 0, .slice none 0 0, .slice none 0 0] 25))) := Lib.hid (Bal (Bal (Below.refl _ _) _) _)
  generalize ((w.alloc (.cells #[.int .i64 d, .int .i64 p, .slice D ds.length cd, .slice A os.length ca] 25)).alloc (.cells #[.int .i64 0, .int .i64 0, .slice none 0 0, .slice none 0 0] 25)) = W0 at *
  have s0 := blk_cell SB.out 0 _ rfl
  have s1 := blk_cell SB.out 1 _ rfl
  have s2 := blk_cell SB.out 2 _ rfl
  have s3 := blk_cell SB.out 3 _ rfl
  have ls := blk_lt SB.out
  go_wp2_with fail
  clear s0 s1 s2 s3 ls
  refine (oRefCheck_calls d p D A cd ca B ds os _ hnd hcd hna hca (HD.out.next NN.out) (HS.out.next NN.out) HL.out).mono ?_
  rintro e w1 ⟨rfl, hb⟩
  replace SB := Lib.hid (blk_next hb SB.out)
  replace XB := Lib.hid (blk_next hb XB.out)
  replace NN := Lib.hid (Bgo NN.out hb)
  clear hb
  have LX := blk_lt XB.out
  rw [ck]
  go_wp2_with fail
  refine (NC.out _).mono ?_
  rintro e w2 ⟨rfl, hb⟩
  replace SB := Lib.hid (blk_next hb SB.out)
  replace XB := Lib.hid (blk_next hb XB.out)
  replace NN := Lib.hid (Bgo NN.out hb)
  clear hb
  have s0 := blk_cell SB.out 0 _ rfl
  have s1 := blk_cell SB.out 1 _ rfl
  have s2 := blk_cell SB.out 2 _ rfl
  have s3 := blk_cell SB.out 3 _ rfl
  have ls := blk_lt SB.out
  go_wp2_with fail
  clear s0 s1 s2 s3 ls
  refine (index_calls d p _ A ca B os nm _ hna hca (HS.out.next NN.out)).mono ?_
  rintro e w3 ⟨rfl, hb⟩
  replace SB := Lib.hid (blk_next hb SB.out)
  replace XB := Lib.hid (blk_next hb XB.out)
  replace NN := Lib.hid (Bgo NN.out hb)
  clear hb
  have x0 := blk_cell XB.out 0 _ rfl
  have fx0 := blk_frozen XB.out 0
  have x1 := blk_cell XB.out 1 _ rfl
  have fx1 := blk_frozen XB.out 1
  have x2 := blk_cell XB.out 2 _ rfl
  have fx2 := blk_frozen XB.out 2
  have x3 := blk_cell XB.out 3 _ rfl
  have fx3 := blk_frozen XB.out 3
  have lx := blk_lt XB.out
  go_wp2_with fail
  have Z := blk_set4 XB.out (.int .i64 0) (.int .i64 0) (.slice none 0 0) (.slice none 0 0)
  have e0 := blk_cell Z 0 _ rfl
  have e1 := blk_cell Z 1 _ rfl
  have e2 := blk_cell Z 2 _ rfl
  have e3 := blk_cell Z 3 _ rfl
  exact bodyPost_ret (v := .tuple #[Tv 0 0 (.slice none 0 0) (.slice none 0 0), .int .i64 (14)]) (by simp [results, Try.results15, go_sem, e0, e1, e2, e3]) rfl ⟨_, _, rfl, OT.nil _ _, OO.nil _ _, Bset4 NN.out (by omega) _ _ _ _⟩
 have t_f1 : decide (0 ≤ findL os nm.toList) = false := decide_eq_false f1
 have n16 := OK.out.n16
 by_cases m1 : 16 ≤ os.length
 ·have t_m1 : ((os.length : Int) == 16) = true := by rw [beq_iff_eq]; omega
  have E := putE_many (b := b) ck n1 f1 (.inl m1)
  have S := putS_bad E (by first | exact ck | decide)
  rw [E, S]
  clear E S
  go_enter Try.func15, Try.ntmps15
  go_upto_region 1 with fail
  have SB : Hid (((w.alloc (.cells #[.int .i64 d, .int .i64 p, .slice D ds.length cd, .slice A os.length ca] 25)).alloc (.cells #[.int .i64 0, .int .i64 0, .slice none 0 0, .slice none 0 0] 25)).heap[w.heap.size]? = some (.cells #[.int .i64 d, .int .i64 p, .slice D ds.length cd, .slice A os.length ca] 25)) := Lib.hid (blk_alloc (blk_new w _) _)
  have XB : Hid (((w.alloc (.cells #[.int .i64 d, .int .i64 p, .slice D ds.length cd, .slice A os.length ca] 25)).alloc (.cells #[.int .i64 0, .int .i64 0, .slice none 0 0, .slice none 0 0] 25)).heap[w.heap.size + 1]? = some (.cells #[.int .i64 0, .int .i64 0, .slice none 0 0, .slice none 0 0] 25)) := Lib.hid (blk_at _ (by simp))
  have NN : Hid (Below w.heap.size w ((w.alloc (.cells #[.int .i64 d, .int .i64 p, .slice D ds.length cd, .slice A os.length ca] 25)).alloc (.cells #[.int .i64 0, .int .i64 0, .slice none 0 0, .slice none 0 0] 25))) := Lib.hid (Bal (Bal (Below.refl _ _) _) _)
  generalize ((w.alloc (.cells #[.int .i64 d, .int .i64 p, .slice D ds.length cd, .slice A os.length ca] 25)).alloc (.cells #[.int .i64 0, .int .i64 0, .slice none 0 0, .slice none 0 0] 25)) = W0 at *
  have s0 := blk_cell SB.out 0 _ rfl
  have s1 := blk_cell SB.out 1 _ rfl
  have s2 := blk_cell SB.out 2 _ rfl
  have s3 := blk_cell SB.out 3 _ rfl
  have ls := blk_lt SB.out
  go_wp2_with fail
  clear s0 s1 s2 s3 ls
  refine (oRefCheck_calls d p D A cd ca B ds os _ hnd hcd hna hca (HD.out.next NN.out) (HS.out.next NN.out) HL.out).mono ?_
  rintro e w1 ⟨rfl, hb⟩
  replace SB := Lib.hid (blk_next hb SB.out)
  replace XB := Lib.hid (blk_next hb XB.out)
  replace NN := Lib.hid (Bgo NN.out hb)
  clear hb
  have LX := blk_lt XB.out
  rw [ck]
  go_wp2_with fail
  refine (NC.out _).mono ?_
  rintro e w2 ⟨rfl, hb⟩
  replace SB := Lib.hid (blk_next hb SB.out)
  replace XB := Lib.hid (blk_next hb XB.out)
  replace NN := Lib.hid (Bgo NN.out hb)
  clear hb
  have s0 := blk_cell SB.out 0 _ rfl
  have s1 := blk_cell SB.out 1 _ rfl
  have s2 := blk_cell SB.out 2 _ rfl
  have s3 := blk_cell SB.out 3 _ rfl
  have ls := blk_lt SB.out
  go_wp2_with fail
  clear s0 s1 s2 s3 ls
  refine (index_calls d p _ A ca B os nm _ hna hca (HS.out.next NN.out)).mono ?_
  rintro e w3 ⟨rfl, hb⟩
  replace SB := Lib.hid (blk_next hb SB.out)
  replace XB := Lib.hid (blk_next hb XB.out)
  replace NN := Lib.hid (Bgo NN.out hb)
  clear hb
  have s0 := blk_cell SB.out 0 _ rfl
  have s1 := blk_cell SB.out 1 _ rfl
  have s2 := blk_cell SB.out 2 _ rfl
  have s3 := blk_cell SB.out 3 _ rfl
  have ls := blk_lt SB.out
  have x0 := blk_cell XB.out 0 _ rfl
  have fx0 := blk_frozen XB.out 0
  have x1 := blk_cell XB.out 1 _ rfl
  have fx1 := blk_frozen XB.out 1
  have x2 := blk_cell XB.out 2 _ rfl
  have fx2 := blk_frozen XB.out 2
  have x3 := blk_cell XB.out 3 _ rfl
  have fx3 := blk_frozen XB.out 3
  have lx := blk_lt XB.out
  go_wp2_with fail
  have Z := blk_set4 XB.out (.int .i64 0) (.int .i64 0) (.slice none 0 0) (.slice none 0 0)
  have e0 := blk_cell Z 0 _ rfl
  have e1 := blk_cell Z 1 _ rfl
  have e2 := blk_cell Z 2 _ rfl
  have e3 := blk_cell Z 3 _ rfl
  exact bodyPost_ret (v := .tuple #[Tv 0 0 (.slice none 0 0) (.slice none 0 0), .int .i64 (4)]) (by simp [results, Try.results15, go_sem, e0, e1, e2, e3]) rfl ⟨_, _, rfl, OT.nil _ _, OO.nil _ _, Bset4 NN.out (by omega) _ _ _ _⟩
 have t_m1 : ((os.length : Int) == 16) = false := by rw [beq_eq_false_iff_ne]; omega
 by_cases m2 : 256 < b.length
 ·have t_m2 : decide ((256 : Int) < (b.length : Int)) = true := decide_eq_true (by omega)
  have E := putE_many ck n1 f1 (.inr m2)
  have S := putS_bad E (by first | exact ck | decide)
  rw [E, S]
  clear E S
  go_enter Try.func15, Try.ntmps15
  go_upto_region 1 with fail
  have SB : Hid (((w.alloc (.cells #[.int .i64 d, .int .i64 p, .slice D ds.length cd, .slice A os.length ca] 25)).alloc (.cells #[.int .i64 0, .int .i64 0, .slice none 0 0, .slice none 0 0] 25)).heap[w.heap.size]? = some (.cells #[.int .i64 d, .int .i64 p, .slice D ds.length cd, .slice A os.length ca] 25)) := Lib.hid (blk_alloc (blk_new w _) _)
  have XB : Hid (((w.alloc (.cells #[.int .i64 d, .int .i64 p, .slice D ds.length cd, .slice A os.length ca] 25)).alloc (.cells #[.int .i64 0, .int .i64 0, .slice none 0 0, .slice none 0 0] 25)).heap[w.heap.size + 1]? = some (.cells #[.int .i64 0, .int .i64 0, .slice none 0 0, .slice none 0 0] 25)) := Lib.hid (blk_at _ (by simp))
  have NN : Hid (Below w.heap.size w ((w.alloc (.cells #[.int .i64 d, .int .i64 p, .slice D ds.length cd, .slice A os.length ca] 25)).alloc (.cells #[.int .i64 0, .int .i64 0, .slice none 0 0, .slice none 0 0] 25))) := Lib.hid (Bal (Bal (Below.refl _ _) _) _)
  generalize ((w.alloc (.cells #[.int .i64 d, .int .i64 p, .slice D ds.length cd, .slice A os.length ca] 25)).alloc (.cells #[.int .i64 0, .int .i64 0, .slice none 0 0, .slice none 0 0] 25)) = W0 at *
  have s0 := blk_cell SB.out 0 _ rfl
  have s1 := blk_cell SB.out 1 _ rfl
  have s2 := blk_cell SB.out 2 _ rfl
  have s3 := blk_cell SB.out 3 _ rfl
  have ls := blk_lt SB.out
  go_wp2_with fail
  clear s0 s1 s2 s3 ls
  refine (oRefCheck_calls d p D A cd ca B ds os _ hnd hcd hna hca (HD.out.next NN.out) (HS.out.next NN.out) HL.out).mono ?_
  rintro e w1 ⟨rfl, hb⟩
  replace SB := Lib.hid (blk_next hb SB.out)
  replace XB := Lib.hid (blk_next hb XB.out)
  replace NN := Lib.hid (Bgo NN.out hb)
  clear hb
  have LX := blk_lt XB.out
  rw [ck]
  go_wp2_with fail
  refine (NC.out _).mono ?_
  rintro e w2 ⟨rfl, hb⟩
  replace SB := Lib.hid (blk_next hb SB.out)
  replace XB := Lib.hid (blk_next hb XB.out)
  replace NN := Lib.hid (Bgo NN.out hb)
  clear hb
  have s0 := blk_cell SB.out 0 _ rfl
  have s1 := blk_cell SB.out 1 _ rfl
  have s2 := blk_cell SB.out 2 _ rfl
  have s3 := blk_cell SB.out 3 _ rfl
  have ls := blk_lt SB.out
  go_wp2_with fail
  clear s0 s1 s2 s3 ls
  refine (index_calls d p _ A ca B os nm _ hna hca (HS.out.next NN.out)).mono ?_
  rintro e w3 ⟨rfl, hb⟩
  replace SB := Lib.hid (blk_next hb SB.out)
  replace XB := Lib.hid (blk_next hb XB.out)
  replace NN := Lib.hid (Bgo NN.out hb)
  clear hb
  have s0 := blk_cell SB.out 0 _ rfl
  have s1 := blk_cell SB.out 1 _ rfl
  have s2 := blk_cell SB.out 2 _ rfl
  have s3 := blk_cell SB.out 3 _ rfl
  have ls := blk_lt SB.out
  have x0 := blk_cell XB.out 0 _ rfl
  have fx0 := blk_frozen XB.out 0
  have x1 := blk_cell XB.out 1 _ rfl
  have fx1 := blk_frozen XB.out 1
  have x2 := blk_cell XB.out 2 _ rfl
  have fx2 := blk_frozen XB.out 2
  have x3 := blk_cell XB.out 3 _ rfl
  have fx3 := blk_frozen XB.out 3
  have lx := blk_lt XB.out
  go_wp2_with fail
  have Z := blk_set4 XB.out (.int .i64 0) (.int .i64 0) (.slice none 0 0) (.slice none 0 0)
  have e0 := blk_cell Z 0 _ rfl
  have e1 := blk_cell Z 1 _ rfl
  have e2 := blk_cell Z 2 _ rfl
  have e3 := blk_cell Z 3 _ rfl
  exact bodyPost_ret (v := .tuple #[Tv 0 0 (.slice none 0 0) (.slice none 0 0), .int .i64 (4)]) (by simp [results, Try.results15, go_sem, e0, e1, e2, e3]) rfl ⟨_, _, rfl, OT.nil _ _, OO.nil _ _, Bset4 NN.out (by omega) _ _ _ _⟩
 have t_m2 : decide ((256 : Int) < (b.length : Int)) = false := decide_eq_false (by omega)
 by_cases l1 : p < (faN ds : Int)
 ·have t_l1 : decide (p < (faN ds : Int)) = true := decide_eq_true l1
  have E := putE_lost (b := b) ck n1 f1 (by omega) l1
  have S := putS_bad E (by first | exact ck | decide)
  rw [E, S]
  clear E S
  go_enter Try.func15, Try.ntmps15
  go_upto_region 1 with fail
  have SB : Hid (((w.alloc (.cells #[.int .i64 d, .int .i64 p, .slice D ds.length cd, .slice A os.length ca] 25)).alloc (.cells #[.int .i64 0, .int .i64 0, .slice none 0 0, .slice none 0 0] 25)).heap[w.heap.size]? = some (.cells #[.int .i64 d, .int .i64 p, .slice D ds.length cd, .slice A os.length ca] 25)) := Lib.hid (blk_alloc (blk_new w _) _)
  have XB : Hid (((w.alloc (.cells #[.int .i64 d, .int .i64 p, .slice D ds.length cd, .slice A os.length ca] 25)).alloc (.cells #[.int .i64 0, .int .i64 0, .slice none 0 0, .slice none 0 0] 25)).heap[w.heap.size + 1]? = some (.cells #[.int .i64 0, .int .i64 0, .slice none 0 0, .slice none 0 0] 25)) := Lib.hid (blk_at _ (by simp))
  have NN : Hid (Below w.heap.size w ((w.alloc (.cells #[.int .i64 d, .int .i64 p, .slice D ds.length cd, .slice A os.length ca] 25)).alloc (.cells #[.int .i64 0, .int .i64 0, .slice none 0 0, .slice none 0 0] 25))) := Lib.hid (Bal (Bal (Below.refl _ _) _) _)
  generalize ((w.alloc (.cells #[.int .i64 d, .int .i64 p, .slice D ds.length cd, .slice A os.length ca] 25)).alloc (.cells #[.int .i64 0, .int .i64 0, .slice none 0 0, .slice none 0 0] 25)) = W0 at *
  have s0 := blk_cell SB.out 0 _ rfl
  have s1 := blk_cell SB.out 1 _ rfl
  have s2 := blk_cell SB.out 2 _ rfl
  have s3 := blk_cell SB.out 3 _ rfl
  have ls := blk_lt SB.out
  go_wp2_with fail
  clear s0 s1 s2 s3 ls
  refine (oRefCheck_calls d p D A cd ca B ds os _ hnd hcd hna hca (HD.out.next NN.out) (HS.out.next NN.out) HL.out).mono ?_
  rintro e w1 ⟨rfl, hb⟩
  replace SB := Lib.hid (blk_next hb SB.out)
  replace XB := Lib.hid (blk_next hb XB.out)
  replace NN := Lib.hid (Bgo NN.out hb)
  clear hb
  have LX := blk_lt XB.out
  rw [ck]
  go_wp2_with fail
  refine (NC.out _).mono ?_
  rintro e w2 ⟨rfl, hb⟩
  replace SB := Lib.hid (blk_next hb SB.out)
  replace XB := Lib.hid (blk_next hb XB.out)
  replace NN := Lib.hid (Bgo NN.out hb)
  clear hb
  have s0 := blk_cell SB.out 0 _ rfl
  have s1 := blk_cell SB.out 1 _ rfl
  have s2 := blk_cell SB.out 2 _ rfl
  have s3 := blk_cell SB.out 3 _ rfl
  have ls := blk_lt SB.out
  go_wp2_with fail
  clear s0 s1 s2 s3 ls
  refine (index_calls d p _ A ca B os nm _ hna hca (HS.out.next NN.out)).mono ?_
  rintro e w3 ⟨rfl, hb⟩
  replace SB := Lib.hid (blk_next hb SB.out)
  replace XB := Lib.hid (blk_next hb XB.out)
  replace NN := Lib.hid (Bgo NN.out hb)
  clear hb
  have s0 := blk_cell SB.out 0 _ rfl
  have s1 := blk_cell SB.out 1 _ rfl
  have s2 := blk_cell SB.out 2 _ rfl
  have s3 := blk_cell SB.out 3 _ rfl
  have ls := blk_lt SB.out
  go_wp2_with fail
  clear s0 s1 s2 s3 ls
  refine region_I (S := SK [(0, w.heap.size, .cells #[.int .i64 d, .int .i64 p, .slice D ds.length cd, .slice A os.length ca] 25), (3, w.heap.size, .cells #[.int .i64 d, .int .i64 p, .slice D ds.length cd, .slice A os.length ca] 25)]) (by kernel_rfl) ?_
  have HAL := Lib.hid (fun (k : Nat) => (show SK [(0, w.heap.size, .cells #[.int .i64 d, .int .i64 p, .slice D ds.length cd, .slice A os.length ca] 25), (3, w.heap.size, .cells #[.int .i64 d, .int .i64 p, .slice D ds.length cd, .slice A os.length ca] 25)] k w3.drew from fun p hp e => by
   simp only [List.mem_cons, List.not_mem_nil, or_false] at hp
   rcases hp with rfl | rfl
   ·exact SB.out
   ·exact SB.out))
  have HDRW := Lib.hid (Below.drew (Below.refl w3.heap.size w3))
  replace NN := Lib.hid (Bgo NN.out HDRW.out)
  replace SB := Lib.hid (blk_next HDRW.out SB.out)
  replace XB := Lib.hid (blk_next HDRW.out XB.out)
  clear HDRW
  refine take_I 0 (.agg #[.int .i64 d, .int .i64 p, .slice D ds.length cd, .slice A os.length ca]) (some 44) rfl (by kernel_rfl) (by kernel_rfl) (by kernel_rfl) rfl (fun _ _ _ h => h) (Or.inl ⟨by rfl, ?_⟩) (HAL.out 0) ?_
  ·intro X hX
   have hh := hX (0, w.heap.size, .cells #[.int .i64 d, .int .i64 p, .slice D ds.length cd, .slice A os.length ca] 25) (List.Mem.head _) rfl
   have hh0 := blk_cell hh 0 _ rfl
   have hh1 := blk_cell hh 1 _ rfl
   have hh2 := blk_cell hh 2 _ rfl
   have hh3 := blk_cell hh 3 _ rfl
   have hhl := blk_lt hh
   clear hh
   clear hX
   go_simp
  try simp only [Act.put, zA, zB, zC]
  refine take_I 2 (.pointer (some ⟨w.heap.size, 1, none⟩)) (some 46) rfl (by kernel_rfl) (by kernel_rfl) (by kernel_rfl) rfl (fun _ _ _ h => h) (Or.inl ⟨by rfl, ?_⟩) (SK.drop (by simp)) ?_
  ·intro X hX
   clear hX
   go_simp
  try simp only [Act.put, zA, zB, zC]
  refine take_I 3 (.int .i64 p) (some 47) rfl (by kernel_rfl) (by kernel_rfl) (by kernel_rfl) rfl (fun _ _ _ h => h) (Or.inl ⟨by rfl, ?_⟩) (HAL.out 3) ?_
  ·intro X hX
   have hh := hX (3, w.heap.size, .cells #[.int .i64 d, .int .i64 p, .slice D ds.length cd, .slice A os.length ca] 25) (List.Mem.tail _ (List.Mem.head _)) rfl
   have hh1 := blk_cell hh 1 _ rfl
   have hhl := blk_lt hh
   clear hh
   clear hX
   go_simp
  try simp only [Act.put, zA, zB, zC]
  refine only_I 1 (by kernel_rfl) rfl (fun K' hK' => ?_)
  go_simp
  go_at_call 24
  refine (failed_calls d p _ D cd B ds _ hnd hcd (HD.out.next NN.out)).mono ?_
  rintro e x1 ⟨rfl, hb⟩
  replace NN := Lib.hid (Bgo NN.out hb)
  replace SB := Lib.hid (blk_next hb SB.out)
  replace XB := Lib.hid (blk_next hb XB.out)
  go_simp
  refine hK'.out _ _ (fun k _ hS => hS.next hb) ?_
  clear hK' K'
  try simp only [Act.put, zA, zB, zC]
  replace HAL := Lib.hid (fun k => (HAL.out k).next hb)
  refine take_I 4 (.bool true) (some 48) rfl (by kernel_rfl) (by kernel_rfl) (by kernel_rfl) rfl (fun _ _ _ h => h) (Or.inl ⟨by rfl, ?_⟩) (SK.drop (by simp)) ?_
  ·intro X hX
   clear hX
   go_simp
  try simp only [Act.put, zA, zB, zC]
  clear HAL
  refine done_I (by kernel_rfl) ?_ _
  have x0 := blk_cell XB.out 0 _ rfl
  have fx0 := blk_frozen XB.out 0
  have x1 := blk_cell XB.out 1 _ rfl
  have fx1 := blk_frozen XB.out 1
  have x2 := blk_cell XB.out 2 _ rfl
  have fx2 := blk_frozen XB.out 2
  have x3 := blk_cell XB.out 3 _ rfl
  have fx3 := blk_frozen XB.out 3
  have lx := blk_lt XB.out
  go_wp2_with fail
  have Z := blk_set4 XB.out (.int .i64 0) (.int .i64 0) (.slice none 0 0) (.slice none 0 0)
  have e0 := blk_cell Z 0 _ rfl
  have e1 := blk_cell Z 1 _ rfl
  have e2 := blk_cell Z 2 _ rfl
  have e3 := blk_cell Z 3 _ rfl
  exact bodyPost_ret (v := .tuple #[Tv 0 0 (.slice none 0 0) (.slice none 0 0), .int .i64 (32)]) (by simp [results, Try.results15, go_sem, e0, e1, e2, e3]) rfl ⟨_, _, rfl, OT.nil _ _, OO.nil _ _, Bset4 NN.out (by omega) _ _ _ _⟩
 have t_l1 : decide (p < (faN ds : Int)) = false := decide_eq_false l1
 have E := putE_ok (b := b) ck n1 f1 (by omega) l1
 have S := putS_ok E
 rw [E, S]
 clear E S
 have bb := HBB.out.1
 have hd1 := OK.out.d1
 have hd8 := OK.out.d8
 have hp0 := OK.out.p0
 have hp4 := OK.out.p4
 obtain ⟨dn, hdn⟩ : ∃ n : Nat, d = (n : Int) := ⟨d.toNat, by omega⟩
 obtain ⟨pn, hpn⟩ : ∃ n : Nat, p = (n : Int) := ⟨p.toNat, by omega⟩
 obtain ⟨mn, hmn, mn38, hfit⟩ := ned_fit (n := b.length) (d := dn) (by omega) (by omega) (by omega)
 have EM : manyL d b = mn := by unfold manyL; rw [hdn, hmn, Int.toNat_natCast]
 have EQ : Hid (padB d b = padL b (mn * 8 * dn)) := Lib.hid (by unfold padB; rw [EM, hdn, Int.toNat_natCast])
 have dtn : d.toNat = dn := by omega
 have ptn : p.toNat = pn := by omega
 rw [EM, dtn, ptn]
 have EO : Hid (newO d os nm b = ⟨nm, b.length, strN os, (mn : Int), (digL b : Nat)⟩) := Lib.hid (by unfold newO; rw [hdn, hmn])
 have QL : Hid ((padB d b).length = mn * 8 * dn) := Lib.hid (by rw [EQ.out]; exact padL_len hfit)
 have QB : Hid (Byt (padB d b)) := Lib.hid (by rw [EQ.out]; exact padL_byt bb)
 generalize padB d b = q at *
 generalize newO d os nm b = nob at *
 have dn1 : 1 ≤ dn := by omega
 have dn8 : dn ≤ 8 := by omega
 have pn4 : pn ≤ 4 := by omega
 obtain ⟨tot, htot⟩ : ∃ tot : Nat, tot = mn * 8 * dn := ⟨_, rfl⟩
 have tot9 : tot ≤ 2500 := by rw [htot]; have := Nat.mul_le_mul (Nat.mul_le_mul_right 8 mn38) dn8; omega
 have ND := Lib.hid (fun W => refNeeded_calls (b.length : Int) d W (by omega) (by omega) hd1 hd8)
 rw [hdn, hmn, ← hdn] at ND
 have DN := Lib.hid hdn
 have PN := Lib.hid hpn
 have HTOT := Lib.hid htot
 have hbt : b.length ≤ tot := by rw [htot]; exact hfit
 have n20 : ds.length ≤ 12 := by have := OK.out.len; omega
 have hl0 : 0 < ds.length := by have := OK.out.len; omega
 clear hdn hpn htot hfit EM dtn ptn hmn n1 bb
 go_enter Try.func15, Try.ntmps15
 go_upto_region 1 with fail
 have SB : Hid (((w.alloc (.cells #[.int .i64 d, .int .i64 p, .slice D ds.length cd, .slice A os.length ca] 25)).alloc (.cells #[.int .i64 0, .int .i64 0, .slice none 0 0, .slice none 0 0] 25)).heap[w.heap.size]? = some (.cells #[.int .i64 d, .int .i64 p, .slice D ds.length cd, .slice A os.length ca] 25)) := Lib.hid (blk_alloc (blk_new w _) _)
 have XB : Hid (((w.alloc (.cells #[.int .i64 d, .int .i64 p, .slice D ds.length cd, .slice A os.length ca] 25)).alloc (.cells #[.int .i64 0, .int .i64 0, .slice none 0 0, .slice none 0 0] 25)).heap[w.heap.size + 1]? = some (.cells #[.int .i64 0, .int .i64 0, .slice none 0 0, .slice none 0 0] 25)) := Lib.hid (blk_at _ (by simp))
 have NN : Hid (Below w.heap.size w ((w.alloc (.cells #[.int .i64 d, .int .i64 p, .slice D ds.length cd, .slice A os.length ca] 25)).alloc (.cells #[.int .i64 0, .int .i64 0, .slice none 0 0, .slice none 0 0] 25))) := Lib.hid (Bal (Bal (Below.refl _ _) _) _)
 generalize ((w.alloc (.cells #[.int .i64 d, .int .i64 p, .slice D ds.length cd, .slice A os.length ca] 25)).alloc (.cells #[.int .i64 0, .int .i64 0, .slice none 0 0, .slice none 0 0] 25)) = W0 at *
 have s0 := blk_cell SB.out 0 _ rfl
 have s1 := blk_cell SB.out 1 _ rfl
 have s2 := blk_cell SB.out 2 _ rfl
 have s3 := blk_cell SB.out 3 _ rfl
 have ls := blk_lt SB.out
 go_wp2_with fail
 clear s0 s1 s2 s3 ls
 refine (oRefCheck_calls d p D A cd ca B ds os _ hnd hcd hna hca (HD.out.next NN.out) (HS.out.next NN.out) HL.out).mono ?_
 rintro e w1 ⟨rfl, hb⟩
 replace SB := Lib.hid (blk_next hb SB.out)
 replace XB := Lib.hid (blk_next hb XB.out)
 replace NN := Lib.hid (Bgo NN.out hb)
 clear hb
 have LX := blk_lt XB.out
 rw [ck]
 go_wp2_with fail
 refine (NC.out _).mono ?_
 rintro e w2 ⟨rfl, hb⟩
 replace SB := Lib.hid (blk_next hb SB.out)
 replace XB := Lib.hid (blk_next hb XB.out)
 replace NN := Lib.hid (Bgo NN.out hb)
 clear hb
 have s0 := blk_cell SB.out 0 _ rfl
 have s1 := blk_cell SB.out 1 _ rfl
 have s2 := blk_cell SB.out 2 _ rfl
 have s3 := blk_cell SB.out 3 _ rfl
 have ls := blk_lt SB.out
 go_wp2_with fail
 clear s0 s1 s2 s3 ls
 refine (index_calls d p _ A ca B os nm _ hna hca (HS.out.next NN.out)).mono ?_
 rintro e w3 ⟨rfl, hb⟩
 replace SB := Lib.hid (blk_next hb SB.out)
 replace XB := Lib.hid (blk_next hb XB.out)
 replace NN := Lib.hid (Bgo NN.out hb)
 clear hb
 have s0 := blk_cell SB.out 0 _ rfl
 have s1 := blk_cell SB.out 1 _ rfl
 have s2 := blk_cell SB.out 2 _ rfl
 have s3 := blk_cell SB.out 3 _ rfl
 have ls := blk_lt SB.out
 go_wp2_with fail
 clear s0 s1 s2 s3 ls
 refine region_I (S := SK [(0, w.heap.size, .cells #[.int .i64 d, .int .i64 p, .slice D ds.length cd, .slice A os.length ca] 25), (3, w.heap.size, .cells #[.int .i64 d, .int .i64 p, .slice D ds.length cd, .slice A os.length ca] 25)]) (by kernel_rfl) ?_
 have HAL := Lib.hid (fun (k : Nat) => (show SK [(0, w.heap.size, .cells #[.int .i64 d, .int .i64 p, .slice D ds.length cd, .slice A os.length ca] 25), (3, w.heap.size, .cells #[.int .i64 d, .int .i64 p, .slice D ds.length cd, .slice A os.length ca] 25)] k w3.drew from fun p hp e => by
  simp only [List.mem_cons, List.not_mem_nil, or_false] at hp
  rcases hp with rfl | rfl
  ·exact SB.out
  ·exact SB.out))
 have HDRW := Lib.hid (Below.drew (Below.refl w3.heap.size w3))
 replace NN := Lib.hid (Bgo NN.out HDRW.out)
 replace SB := Lib.hid (blk_next HDRW.out SB.out)
 replace XB := Lib.hid (blk_next HDRW.out XB.out)
 clear HDRW
 refine take_I 0 (.agg #[.int .i64 d, .int .i64 p, .slice D ds.length cd, .slice A os.length ca]) (some 44) rfl (by kernel_rfl) (by kernel_rfl) (by kernel_rfl) rfl (fun _ _ _ h => h) (Or.inl ⟨by rfl, ?_⟩) (HAL.out 0) ?_
 ·intro X hX
  have hh := hX (0, w.heap.size, .cells #[.int .i64 d, .int .i64 p, .slice D ds.length cd, .slice A os.length ca] 25) (List.Mem.head _) rfl
  have hh0 := blk_cell hh 0 _ rfl
  have hh1 := blk_cell hh 1 _ rfl
  have hh2 := blk_cell hh 2 _ rfl
  have hh3 := blk_cell hh 3 _ rfl
  have hhl := blk_lt hh
  clear hh
  clear hX
  go_simp
 try simp only [Act.put, zA, zB, zC]
 refine take_I 2 (.pointer (some ⟨w.heap.size, 1, none⟩)) (some 46) rfl (by kernel_rfl) (by kernel_rfl) (by kernel_rfl) rfl (fun _ _ _ h => h) (Or.inl ⟨by rfl, ?_⟩) (SK.drop (by simp)) ?_
 ·intro X hX
  clear hX
  go_simp
 try simp only [Act.put, zA, zB, zC]
 refine take_I 3 (.int .i64 p) (some 47) rfl (by kernel_rfl) (by kernel_rfl) (by kernel_rfl) rfl (fun _ _ _ h => h) (Or.inl ⟨by rfl, ?_⟩) (HAL.out 3) ?_
 ·intro X hX
  have hh := hX (3, w.heap.size, .cells #[.int .i64 d, .int .i64 p, .slice D ds.length cd, .slice A os.length ca] 25) (List.Mem.tail _ (List.Mem.head _)) rfl
  have hh1 := blk_cell hh 1 _ rfl
  have hhl := blk_lt hh
  clear hh
  clear hX
  go_simp
 try simp only [Act.put, zA, zB, zC]
 refine only_I 1 (by kernel_rfl) rfl (fun K' hK' => ?_)
 go_simp
 go_at_call 24
 refine (failed_calls d p _ D cd B ds _ hnd hcd (HD.out.next NN.out)).mono ?_
 rintro e x1 ⟨rfl, hb⟩
 replace NN := Lib.hid (Bgo NN.out hb)
 replace SB := Lib.hid (blk_next hb SB.out)
 replace XB := Lib.hid (blk_next hb XB.out)
 go_simp
 refine hK'.out _ _ (fun k _ hS => hS.next hb) ?_
 clear hK' K'
 try simp only [Act.put, zA, zB, zC]
 replace HAL := Lib.hid (fun k => (HAL.out k).next hb)
 refine take_I 4 (.bool false) (some 48) rfl (by kernel_rfl) (by kernel_rfl) (by kernel_rfl) rfl (fun _ _ _ h => h) (Or.inl ⟨by rfl, ?_⟩) (SK.drop (by simp)) ?_
 ·intro X hX
  clear hX
  go_simp
 try simp only [Act.put, zA, zB, zC]
 clear HAL
 refine done_I (by kernel_rfl) ?_ _
 have s0 := blk_cell SB.out 0 _ rfl
 have s1 := blk_cell SB.out 1 _ rfl
 have s2 := blk_cell SB.out 2 _ rfl
 have s3 := blk_cell SB.out 3 _ rfl
 have ls := blk_lt SB.out
 go_wp2_with fail
 clear s0 s1 s2 s3 ls
 refine (twin_calls d p _ A cd ca B ds os _ hnd hcd hna hca (HD.out.next NN.out) (HS.out.next NN.out) (by omega) (by have := OK.out.n16; omega) (fun k hk => ⟨by have := (OK.out.bd hk).1; omega, fun b hb => by have := (OK.out.bd hk).2 b hb; omega⟩)).mono ?_
 rintro e w9 ⟨v, u, rfl, ht, hu, hb⟩
 have T := Lib.hid (ht.mono NN.out.size)
 have U := Lib.hid (hu.mono NN.out.size)
 clear ht hu
 obtain ⟨Av, cv, rfl, hv1, hv2⟩ := T.out.form
 obtain ⟨Au, cu, rfl, hu1, hu2⟩ := U.out.form
 replace SB := Lib.hid (blk_next hb SB.out)
 replace XB := Lib.hid (blk_next hb XB.out)
 replace NN := Lib.hid (Bgo NN.out hb)
 clear hb
 go_upto_region 13 with fail
 have HB : Hid ((w9.alloc (.cells #[.int .i64 d, .int .i64 p, .slice Av ds.length cv, .slice Au os.length cu] 25)).heap[w9.heap.size]? = some (.cells #[.int .i64 d, .int .i64 p, .slice Av ds.length cv, .slice Au os.length cu] 25)) := Lib.hid (blk_new _ _)
 have B9 : Below w9.heap.size w9 (w9.alloc (.cells #[.int .i64 d, .int .i64 p, .slice Av ds.length cv, .slice Au os.length cu] 25)) := Bal (Below.refl _ _) _
 have LX : w.heap.size + 1 < w9.heap.size := blk_lt XB.out
 replace SB := Lib.hid (blk_next B9 SB.out)
 replace XB := Lib.hid (blk_next B9 XB.out)
 replace NN := Lib.hid (Bgo NN.out B9)
 replace T := Lib.hid (T.out.next B9)
 replace U := Lib.hid (U.out.next B9)
 clear B9
 generalize (w9.alloc (.cells #[.int .i64 d, .int .i64 p, .slice Av ds.length cv, .slice Au os.length cu] 25)) = W1 at *
 generalize w9.heap.size = gh at *
 have DC : Hid (∀ W, Below W1.heap.size W1 W → Calls Try.prog 19 #[.slice Ab b.length cb] W fun e w' => e = .returned (.int .i64 ((digL b : Nat) : Int)) ∧ W = w') := Lib.hid (fun W h => refDigest_calls Ab cb Bb b W hb1 hb2 (RBA.next (Bgo NN.out h) HBB.out))
 generalize digL b = dg at *
 have SC := Lib.hid (fun (W : World) (h : Below W1.heap.size W1 W) => stripes_calls d p (.slice D ds.length cd) A ca B os W hna hca (HS.out.next (Bgo NN.out h)) OK.out.sm (by omega))
 have KEEP : Hid (∀ X : World, Below W1.heap.size W1 X → X.cell? ⟨w.heap.size, 0, none⟩ = some (.int .i64 d) ∧ X.cell? ⟨w.heap.size, 1, none⟩ = some (.int .i64 p) ∧ X.cell? ⟨w.heap.size, 2, none⟩ = some (.slice D ds.length cd) ∧ X.cell? ⟨w.heap.size, 3, none⟩ = some (.slice A os.length ca)) := Lib.hid (fun X hX => ⟨blk_cell (blk_next hX SB.out) 0 _ rfl, blk_cell (blk_next hX SB.out) 1 _ rfl, blk_cell (blk_next hX SB.out) 2 _ rfl, blk_cell (blk_next hX SB.out) 3 _ rfl⟩)
 obtain ⟨k1, k2, k3, k4⟩ := KEEP.out W1 (Below.refl _ _)
 have LSB := blk_lt SB.out
 go_cut [10] (fun s10 wx => ∃ cq : Nat, s10 = .pointer (some ⟨cq, 0, none⟩) ∧ W1.heap.size ≤ cq ∧ Hid (Below W1.heap.size W1 wx) ∧ Hid (wx.heap[cq]? = some (.cells #[.string nm, .int .i64 ((b.length : Nat) : Int), .int .i64 (strN os), .int .i64 ((mn : Nat) : Int), .int .i64 ((dg : Nat) : Int)] 50)))
 case first =>
  go_region_held3 (fun X => X.cell? ⟨w.heap.size, 0, none⟩ = some (.int .i64 d) ∧ X.cell? ⟨w.heap.size, 1, none⟩ = some (.int .i64 p) ∧ X.cell? ⟨w.heap.size, 2, none⟩ = some (.slice D ds.length cd) ∧ X.cell? ⟨w.heap.size, 3, none⟩ = some (.slice A os.length ca)) ((refine KEEP.out _ ?_; (repeat (first | (with_reducible exact Below.refl _ _) | (with_reducible exact BQ.out) | (with_reducible refine Below.drew ?_) | (with_reducible refine Bal ?_ _) | (with_reducible refine Bset1 ?_ (by first | exact Nat.le_refl _ | exact BQ.out.size | (simp; omega)) _ _))))) (first | (go_at_call 49; (with_reducible refine (ND.out _).mono ?_); rintro e wq ⟨rfl, rfl⟩) | (go_at_call 19; (with_reducible refine (DC.out _ ?_).mono ?_); (repeat (first | (with_reducible exact Below.refl _ _) | (with_reducible exact BQ.out) | (with_reducible refine Below.drew ?_) | (with_reducible refine Bal ?_ _) | (with_reducible refine Bset1 ?_ (by first | exact Nat.le_refl _ | exact BQ.out.size | (simp; omega)) _ _))); rintro e wq ⟨rfl, rfl⟩) | (go_at_call 28; (with_reducible refine (SC.out _ ?_).mono ?_); (repeat (first | (with_reducible exact Below.refl _ _) | (with_reducible exact BQ.out) | (with_reducible refine Below.drew ?_) | (with_reducible refine Bal ?_ _) | (with_reducible refine Bset1 ?_ (by first | exact Nat.le_refl _ | exact BQ.out.size | (simp; omega)) _ _))); rintro e wq ⟨rfl, bq⟩; (first | (have RA := Lib.hid (blk_next bq RA.out); have ac0 := blk_cell RA.out 0 _ rfl; have af0 := blk_frozen RA.out 0; have ac1 := blk_cell RA.out 1 _ rfl; have af1 := blk_frozen RA.out 1; have ac2 := blk_cell RA.out 2 _ rfl; have af2 := blk_frozen RA.out 2; have ac3 := blk_cell RA.out 3 _ rfl; have af3 := blk_frozen RA.out 3; have ac4 := blk_cell RA.out 4 _ rfl; have af4 := blk_frozen RA.out 4; have al := blk_lt RA.out) | (have RA := Lib.hid (blk_next bq (blk_new _ _)); have ac0 := blk_cell RA.out 0 _ rfl; have af0 := blk_frozen RA.out 0; have ac1 := blk_cell RA.out 1 _ rfl; have af1 := blk_frozen RA.out 1; have ac2 := blk_cell RA.out 2 _ rfl; have af2 := blk_frozen RA.out 2; have ac3 := blk_cell RA.out 3 _ rfl; have af3 := blk_frozen RA.out 3; have ac4 := blk_cell RA.out 4 _ rfl; have af4 := blk_frozen RA.out 4; have al := blk_lt RA.out) | (have RA := Lib.hid (blk_next bq (blk_drew (blk_new _ _))); have ac0 := blk_cell RA.out 0 _ rfl; have af0 := blk_frozen RA.out 0; have ac1 := blk_cell RA.out 1 _ rfl; have af1 := blk_frozen RA.out 1; have ac2 := blk_cell RA.out 2 _ rfl; have af2 := blk_frozen RA.out 2; have ac3 := blk_cell RA.out 3 _ rfl; have af3 := blk_frozen RA.out 3; have ac4 := blk_cell RA.out 4 _ rfl; have af4 := blk_frozen RA.out 4; have al := blk_lt RA.out) | skip); have BQ : Hid (Below W1.heap.size W1 wq) := Lib.hid (by refine Bgo ?_ bq; (repeat (first | (with_reducible exact Below.refl _ _) | (with_reducible exact BQ.out) | (with_reducible refine Below.drew ?_) | (with_reducible refine Bal ?_ _) | (with_reducible refine Bset1 ?_ (by first | exact Nat.le_refl _ | exact BQ.out.size | (simp; omega)) _ _)))); clear bq))
  all_goals go_wp2_with fail
  all_goals go_meet
  all_goals (refine ⟨_, rfl, ?_, Lib.hid ?_, Lib.hid ?_⟩; (first | exact Nat.le_refl _ | exact BQ.out.size | (simp; done)); (repeat (first | (with_reducible exact Below.refl _ _) | (with_reducible exact BQ.out) | (with_reducible refine Below.drew ?_) | (with_reducible refine Bal ?_ _) | (with_reducible refine Bset1 ?_ (by first | exact Nat.le_refl _ | exact BQ.out.size | (simp; omega)) _ _))); (first | (with_reducible exact blk_new _ _) | (with_reducible exact blk_drew (blk_new _ _)) | exact blk_set (blk_set (blk_set (blk_set (blk_set RA.out 0 _) 1 _) 2 _) 3 _) 4 _ | exact blk_drew (blk_set (blk_set (blk_set (blk_set (blk_set RA.out 0 _) 1 _) 2 _) 3 _) 4 _)))
 case rest =>
  obtain ⟨cq, rfl, hcq, B7, QO⟩ := hcut
  clear k1 k2 k3 k4
  have U0 := U
  have LGH := blk_lt HB.out
  replace NN := Lib.hid (Bgo NN.out B7.out)
  replace T := Lib.hid (T.out.next B7.out)
  replace U := Lib.hid (U.out.next B7.out)
  replace HB := Lib.hid (blk_next B7.out HB.out)
  replace XB := Lib.hid (blk_next B7.out XB.out)
  replace SB := Lib.hid (blk_next B7.out SB.out)
  have hqU : Hid ((Value.slice Au os.length cu).ownBlock ≠ some cq) := Lib.hid (fun e => by have := (U0.out.lt cq e).2; omega)
  clear B7 KEEP DC SC ND U0
  have eo := EO.out
  subst eo
  clear EO
  obtain ⟨z0, hi0, hz0, hz1, hz2⟩ := info_parts infoOb
  have HK := Lib.hid (And.intro hi0 (And.intro hz0 (And.intro hz1 hz2)))
  clear hi0 hz0 hz1 hz2
  have LWC := NN.out.size
  have ngx : gh ≠ w.heap.size + 1 := by omega
  have ngs : gh ≠ w.heap.size := by omega
  have ngq : gh ≠ cq := by omega
  obtain ⟨g, hs0, us0, rfl, O, hg, hgB⟩ := T.out.some_ hl0
  have HO := Lib.hid O
  clear O T
  have h0 := blk_cell HB.out 0 _ rfl
  have fh0 := blk_frozen HB.out 0
  have h1 := blk_cell HB.out 1 _ rfl
  have fh1 := blk_frozen HB.out 1
  have h2 := blk_cell HB.out 2 _ rfl
  have fh2 := blk_frozen HB.out 2
  have h3 := blk_cell HB.out 3 _ rfl
  have fh3 := blk_frozen HB.out 3
  have lh := blk_lt HB.out
  have o0 := blk_cell QO.out 0 _ rfl
  have o1 := blk_cell QO.out 1 _ rfl
  have o2 := blk_cell QO.out 2 _ rfl
  have o3 := blk_cell QO.out 3 _ rfl
  have o4 := blk_cell QO.out 4 _ rfl
  have lo := blk_lt QO.out
  have UA : Hid ((wc.alloc (.cells #[.string nm, .int .i64 ((b.length : Nat) : Int), .int .i64 (strN os), .int .i64 ((mn : Nat) : Int), .int .i64 ((dg : Nat) : Int)] 50)).ownsRow w.heap.size 50 5 (.slice Au os.length cu) os.length (flatO os)) := Lib.hid (World.ownsRow.alloc U.out _)
  have KB : Hid (∀ w2 : World, (wc.alloc (.cells #[.string nm, .int .i64 ((b.length : Nat) : Int), .int .i64 (strN os), .int .i64 ((mn : Nat) : Int), .int .i64 ((dg : Nat) : Int)] 50)).grownBy w2 (Value.slice Au os.length cu).ownBlock → w2.heap[gh]? = some (.cells #[.int .i64 d, .int .i64 p, .slice (some ⟨g, 0, none⟩) ds.length cv, .slice Au os.length cu] 25) ∧ w2.heap[w.heap.size + 1]? = some (.cells #[.int .i64 0, .int .i64 0, .slice none 0 0, .slice none 0 0] 25) ∧ w2.heap[w.heap.size]? = some (.cells #[.int .i64 d, .int .i64 p, .slice D ds.length cd, .slice A os.length ca] 25) ∧ w2.heap[cq]? = some (.cells #[.string nm, .int .i64 ((b.length : Nat) : Int), .int .i64 (strN os), .int .i64 ((mn : Nat) : Int), .int .i64 ((dg : Nat) : Int)] 50)) := Lib.hid (fun w2 h => ⟨gblk_ty h UA.out (blk_alloc HB.out _) ne_ob_sto, gblk_ty h UA.out (blk_alloc XB.out _) ne_ob_sto, gblk_ty h UA.out (blk_alloc SB.out _) ne_ob_sto, gblk h (blk_alloc QO.out _) (fun e => hqU.out e.symm)⟩)
  go_upto_region 15 with (at_builtin; refine wpList_append_rd _ rfl _ _ 23 rfl w.heap.size 50 z0 zO 5 48 Try.underlying23 HK.out.1 HK.out.2.1 HK.out.2.2.1 HK.out.2.2.2 rfl (by decide) _ os.length (flatO os) rfl UA.out (some ⟨wc.heap.size, 0, none⟩) 1 1 (obL ⟨nm, ((b.length : Nat) : Int), strN os, ((mn : Nat) : Int), ((dg : Nat) : Int)⟩) rfl (rd_ob (blk_new _ _)) (obj_one _) (by simp only [maxLen]; omega) (by omega) (by first | exact LWC | (simp; omega)) ?_; intro v2 w2 hown2 hg2 hat2; obtain ⟨A3, c3, rfl, u1, u2⟩ := own_form2 hown2; have G2 := Lib.hid hg2; have O2 := Lib.hid hown2; have HB2 := Lib.hid (KB.out _ G2.out).1; have i0' := blk_cell HB2.out 0 _ rfl; have i1' := blk_cell HB2.out 1 _ rfl; have i2' := blk_cell HB2.out 2 _ rfl; have i3' := blk_cell HB2.out 3 _ rfl; have if3 := blk_frozen HB2.out 3; have il := blk_lt HB2.out; clear hown2 hg2 hat2)
  clear h0 fh0 h1 fh1 h2 fh2 h3 fh3 lh o0 o1 o2 o3 o4 lo
  clear i0' i1' i2' i3' if3 il
  have HO2 := (HO.out.next (Bal (Below.refl _ _) (.cells #[.string nm, .int .i64 ((b.length : Nat) : Int), .int .i64 (strN os), .int .i64 ((mn : Nat) : Int), .int .i64 ((dg : Nat) : Int)] 50))).kept UA.out ne_ob_u8 ne_ob_sl ne_ob_dk G2.out
  replace HO := Lib.hid (HO2.set_ (o := 3) HB2.out ne_sto_u8 ne_sto_sl ne_sto_dk (.slice A3 (os.length + 1) c3))
  have O3 : OO w.heap.size w2 (.slice A3 (os.length + 1) c3) (os ++ [⟨nm, ((b.length : Nat) : Int), strN os, ((mn : Nat) : Int), ((dg : Nat) : Int)⟩]) := by unfold OO; rw [flatO_push, List.length_append]; exact O2.out
  replace U := Lib.hid (O3.set_ (o := 3) HB2.out ne_sto_ob (.slice A3 (os.length + 1) c3))
  replace XB : Hid ((w2.setCell ⟨gh, 3, none⟩ (.slice A3 (os.length + 1) c3)).heap[w.heap.size + 1]? = some (.cells #[.int .i64 0, .int .i64 0, .slice none 0 0, .slice none 0 0] 25)) := Lib.hid (blk_set_other (KB.out _ G2.out).2.1 ngx 3 _)
  replace SB : Hid ((w2.setCell ⟨gh, 3, none⟩ (.slice A3 (os.length + 1) c3)).heap[w.heap.size]? = some (.cells #[.int .i64 d, .int .i64 p, .slice D ds.length cd, .slice A os.length ca] 25)) := Lib.hid (blk_set_other (KB.out _ G2.out).2.2.1 ngs 3 _)
  replace QO : Hid ((w2.setCell ⟨gh, 3, none⟩ (.slice A3 (os.length + 1) c3)).heap[cq]? = some (.cells #[.string nm, .int .i64 ((b.length : Nat) : Int), .int .i64 (strN os), .int .i64 ((mn : Nat) : Int), .int .i64 ((dg : Nat) : Int)] 50)) := Lib.hid (blk_set_other (KB.out _ G2.out).2.2.2 ngq 3 _)
  replace HB : Hid ((w2.setCell ⟨gh, 3, none⟩ (.slice A3 (os.length + 1) c3)).heap[gh]? = some (.cells #[.int .i64 d, .int .i64 p, .slice (some ⟨g, 0, none⟩) ds.length cv, .slice A3 (os.length + 1) c3] 25)) := Lib.hid (blk_set HB2.out 3 _)
  replace NN : Hid (Below w.heap.size w (w2.setCell ⟨gh, 3, none⟩ (.slice A3 (os.length + 1) c3))) := Lib.hid (Bset1 (gbel G2.out (Bal NN.out _) (fun g hg => (UA.out.lt g hg).1)) (show w.heap.size ≤ gh by omega) 3 _)
  clear HO2 O3 KB UA G2 O2 HB2 hqU HK
  generalize (w2.setCell ⟨gh, 3, none⟩ (.slice A3 (os.length + 1) c3)) = W3 at *
  obtain ⟨j0, hj0, hy0, hy1, hy2⟩ := info_parts u8_info
  have HJ := Lib.hid (And.intro hj0 (And.intro hy0 (And.intro hy1 hy2)))
  clear hj0 hy0 hy1 hy2
  have BB3 : Hid (RBA Bb W3 Ab b) := Lib.hid (RBA.next NN.out HBB.out)
  go_wp2_with (at_builtin; refine wpList_append_rd _ rfl _ _ 26 rfl W3.heap.size 5 j0 (.int .u8 0) 1 1 Try.underlying26 HJ.out.1 HJ.out.2.1 HJ.out.2.2.1 HJ.out.2.2.2 rfl (by decide) _ 0 [] rfl (own0 (blk_new _ _) (Nat.le_refl _)) Ab b.length cb (bv b) rfl ((RBA.next (Bal (Below.refl _ _) _) BB3.out).2.rd (bv_len b)) (bv_one b) (by simp only [maxLen]; omega) (by omega) (Bal (Below.refl W3.heap.size W3) _).size ?_; intro v4 w4 hown4 hg4 hat4; have O4 := Lib.hid hown4; have G4 : Hid ((W3.alloc (.cells #[] 5)).grownBy w4 (some W3.heap.size)) := Lib.hid hg4; clear hown4 hg4 hat4)
  have N4 := gbel G4.out (Bal (Below.refl W3.heap.size W3) _) (fun g hg => by cases hg; exact Nat.le_refl _)
  have O5 : Hid (OB W3.heap.size w4 v4 (b ++ List.replicate 0 0)) := Lib.hid (by have := O4.out; simp only [Nat.zero_add, List.nil_append] at this; simpa using this)
  have N4h := Lib.hid N4
  clear G4 O4 N4 BB3
  obtain ⟨md, hmd⟩ : ∃ md : Nat, md = mn * dn := ⟨_, rfl⟩
  have md9 : md ≤ 304 := by rw [hmd]; exact Nat.mul_le_mul mn38 dn8
  have mt : tot = md * 8 := by rw [HTOT.out, hmd, Nat.mul_assoc, Nat.mul_comm 8 dn, ← Nat.mul_assoc]
  have g1 : (mn : Int) * d = (md : Int) := by rw [DN.out, hmd]; push_cast; rfl
  have g2 : IntKind.i64.wrap (md : Int) = (md : Int) := IntWalk.i64_in _ (by omega)
  have g3 : (md : Int) * 8 = (tot : Int) := by rw [mt]; push_cast; rfl
  have g4 : IntKind.i64.wrap (tot : Int) = (tot : Int) := IntWalk.i64_in _ (by omega)
  clear hmd mt
  go_loopw [11] (fun v wr => ∃ j : Nat, b.length + j ≤ tot ∧ Hid (Below W3.heap.size W3 wr) ∧ Hid (OB W3.heap.size wr v (b ++ List.replicate j 0))) (fun v _ => tot - lenV v)
  case atStart => exact ⟨0, by omega, N4h, O5⟩
  case round =>
   clear N4h O5
   obtain ⟨j, hj, NI, OV⟩ := hrel
   obtain ⟨wp, rfl⟩ : ∃ wp : World, wp = wr := ⟨_, rfl⟩
   replace HO := Lib.hid (HO.out.next NI.out)
   replace U := Lib.hid (U.out.next NI.out)
   replace XB := Lib.hid (blk_next NI.out XB.out)
   replace SB := Lib.hid (blk_next NI.out SB.out)
   replace QO := Lib.hid (blk_next NI.out QO.out)
   replace HB := Lib.hid (blk_next NI.out HB.out)
   replace NN := Lib.hid (Bgo NN.out NI.out)
   obtain ⟨Ap, cp, hv, p1, p2, -⟩ := own_form OV.out
   have ql : (b ++ List.replicate j 0).length = b.length + j := by simp
   rw [ql] at hv p1
   obtain ⟨n, hn⟩ : ∃ n, n = b.length + j := ⟨_, rfl⟩
   rw [← hn] at hv p1 hj
   subst hv
   have HN := Lib.hid hn
   have OVn : Hid (wp.ownsRow W3.heap.size 5 1 (.slice Ap n cp) n (bv (b ++ List.replicate j 0))) := Lib.hid (by have := OV.out; unfold OB at this; rw [ql, ← hn] at this; exact this)
   clear hn ql OV
   have s0 := blk_cell SB.out 0 _ rfl
   have s1 := blk_cell SB.out 1 _ rfl
   have s2 := blk_cell SB.out 2 _ rfl
   have s3 := blk_cell SB.out 3 _ rfl
   have ls := blk_lt SB.out
   have o0 := blk_cell QO.out 0 _ rfl
   have o1 := blk_cell QO.out 1 _ rfl
   have o2 := blk_cell QO.out 2 _ rfl
   have o3 := blk_cell QO.out 3 _ rfl
   have o4 := blk_cell QO.out 4 _ rfl
   have lo := blk_lt QO.out
   by_cases hlt : n < tot
   ·have t7 : decide (n < tot) = true := decide_eq_true hlt
    have LPW := NI.out.size
    go_wp2_with (at_builtin; refine wpList_append_rd _ rfl _ _ 26 rfl W3.heap.size 5 j0 (.int .u8 0) 1 1 Try.underlying26 HJ.out.1 HJ.out.2.1 HJ.out.2.2.1 HJ.out.2.2.2 rfl (by decide) _ n (bv (b ++ List.replicate j 0)) rfl (OVn.out.alloc _) (some ⟨wp.heap.size, 0, none⟩) 1 1 [.int .u8 0] rfl (rd_one (t := 5) (blk_new _ _)) (fun u hu => by simp at hu; subst hu; rfl) (by simp only [maxLen]; omega) (by omega) (by first | exact LPW | (simp; omega)) ?_; intro v5 w5 hown5 hg5 hat5; obtain ⟨A5, c5, rfl, e51, e52⟩ := own_form2 hown5; have O5 := Lib.hid hown5; have G5 : Hid ((wp.alloc (.cells #[.int .u8 0] 5)).grownBy w5 (Value.slice Ap n cp).ownBlock) := Lib.hid hg5; clear hown5 hg5 hat5)
    have e5 : (b ++ List.replicate (j + 1) 0).length = n + 1 := by rw [List.length_append, List.length_replicate, HN.out]; omega
    have e6 : bv (b ++ List.replicate (j + 1) 0) = bv (b ++ List.replicate j 0) ++ [.int .u8 0] := by rw [List.replicate_succ', ← List.append_assoc, bv_append]; rfl
    refine ⟨⟨j + 1, by rw [HN.out] at hlt; omega, Lib.hid (gbel G5.out (Bal NI.out _) (fun g hg => (OVn.out.lt g hg).1)), Lib.hid (by unfold OB; rw [e5, e6]; exact O5.out)⟩, by simp [lenV]; omega⟩
   have t7 : decide (n < tot) = false := decide_eq_false hlt
   obtain rfl : tot = n := by omega
   have EQ2 : b ++ List.replicate j 0 = q := by rw [EQ.out, ← HTOT.out]; unfold padL; rw [show j = tot - b.length by have := HN.out; omega]
   rw [EQ2] at OVn
   have PQ := OVn
   clear OVn EQ2
   go_wp2_with fail
   clear s0 s1 s2 s3 ls o0 o1 o2 o3 o4 lo
   go_loopw [12] (fun i wr => ∃ (k : Nat) (hs : List Value) (us : List (List Value)), k ≤ mn ∧ i = .int .i64 k ∧ Hid (Below w.heap.size w wr) ∧ Hid (OS w.heap.size wr (.slice (some ⟨g, 0, none⟩) ds.length cv) hs us (putDs dn pn q k ds)) ∧ Hid (OO w.heap.size wr (.slice A3 (os.length + 1) c3) (os ++ [⟨nm, ((b.length : Nat) : Int), strN os, ((mn : Nat) : Int), ((dg : Nat) : Int)⟩])) ∧ Hid (wr.heap[gh]? = some (.cells #[.int .i64 d, .int .i64 p, .slice (some ⟨g, 0, none⟩) ds.length cv, .slice A3 (os.length + 1) c3] 25)) ∧ Hid (wr.heap[w.heap.size + 1]? = some (.cells #[.int .i64 0, .int .i64 0, .slice none 0 0, .slice none 0 0] 25)) ∧ Hid (wr.heap[w.heap.size]? = some (.cells #[.int .i64 d, .int .i64 p, .slice D ds.length cd, .slice A os.length ca] 25)) ∧ Hid (wr.heap[cq]? = some (.cells #[.string nm, .int .i64 ((b.length : Nat) : Int), .int .i64 (strN os), .int .i64 ((mn : Nat) : Int), .int .i64 ((dg : Nat) : Int)] 50)) ∧ Hid (wr.ownsRow W3.heap.size 5 1 (.slice Ap tot cp) tot (bv q))) (fun i _ => mn - (intOf i).toNat)
   case atStart => exact ⟨0, hs0, us0, by omega, rfl, NN, Lib.hid (by rw [putDs_zero]; exact HO.out), U, HB, XB, SB, QO, PQ⟩
   case round =>
    clear NN U HB XB SB QO PQ HO NI g1 g2 g3 g4 hj p1 HN
    obtain ⟨k, hs, us, hk, rfl, NN, HO, U, HB, XB, SB, QO, PQ⟩ := hrel
    obtain ⟨wo, rfl⟩ : ∃ wo : World, wo = wr := ⟨_, rfl⟩
    by_cases hlt : k < mn
    rotate_left
    ·obtain rfl : mn = k := by omega
     have o0 := blk_cell QO.out 0 _ rfl
     have o1 := blk_cell QO.out 1 _ rfl
     have o2 := blk_cell QO.out 2 _ rfl
     have o3 := blk_cell QO.out 3 _ rfl
     have o4 := blk_cell QO.out 4 _ rfl
     have lo := blk_lt QO.out
     have h0 := blk_cell HB.out 0 _ rfl
     have h1 := blk_cell HB.out 1 _ rfl
     have h2 := blk_cell HB.out 2 _ rfl
     have h3 := blk_cell HB.out 3 _ rfl
     have lh := blk_lt HB.out
     have x0 := blk_cell XB.out 0 _ rfl
     have fx0 := blk_frozen XB.out 0
     have x1 := blk_cell XB.out 1 _ rfl
     have fx1 := blk_frozen XB.out 1
     have x2 := blk_cell XB.out 2 _ rfl
     have fx2 := blk_frozen XB.out 2
     have x3 := blk_cell XB.out 3 _ rfl
     have fx3 := blk_frozen XB.out 3
     have lx := blk_lt XB.out
     have kx : decide (((mn : Nat) : Int) < (mn : Int)) = false := decide_eq_false (by omega)
     go_wp2_with fail
     have Z := blk_set4 XB.out (.int .i64 d) (.int .i64 p) (.slice (some ⟨g, 0, none⟩) ds.length cv) (.slice A3 (os.length + 1) c3)
     have e0 := blk_cell Z 0 _ rfl
     have e1 := blk_cell Z 1 _ rfl
     have e2 := blk_cell Z 2 _ rfl
     have e3 := blk_cell Z 3 _ rfl
     exact bodyPost_ret (v := .tuple #[Tv d p (.slice (some ⟨g, 0, none⟩) ds.length cv) (.slice A3 (os.length + 1) c3), .int .i64 0]) (by simp [results, Try.results15, go_sem, e0, e1, e2, e3]) rfl ⟨_, _, rfl, OT.set4_ ⟨_, _, HO.out⟩ XB.out _ _ _ _, OO.set4_ U.out XB.out _ _ _ _, Bset4 NN.out (by omega) _ _ _ _⟩
    have k1 : (0 : Int) ≤ (k : Int) := by omega
    have k2 : (k : Int) < (mn : Int) := by omega
    have HLT := Lib.hid hlt
    have EI := Lib.hid (fun i (h : i < dn) => row_fit (d := dn) hlt h)
    obtain ⟨gp, rfl⟩ : ∃ gp, Ap = some ⟨gp, 0, none⟩ := by
     have e := EI.out 0 (by omega)
     rw [← HTOT.out] at e
     obtain ⟨u, hu⟩ := get_some (show 0 < (bv q).length by rw [bv_len, QL.out, ← HTOT.out]; omega)
     obtain ⟨gp, e1, _⟩ := own_cell2 PQ.out hu
     exact ⟨gp, e1⟩
    have cpt : tot ≤ cp := by obtain ⟨A9, c9, e9, q9, _⟩ := own_form2 PQ.out; simp only [Value.slice.injEq] at e9; omega
    have LWO := NN.out.size
    obtain ⟨i0, hi0, hz0, hz1, hz2⟩ := info_parts sl_info
    have HI := Lib.hid (And.intro hi0 (And.intro hz0 (And.intro hz1 hz2)))
    clear hi0 hz0 hz1 hz2
    have o0 := blk_cell QO.out 0 _ rfl
    have o1 := blk_cell QO.out 1 _ rfl
    have o2 := blk_cell QO.out 2 _ rfl
    have o3 := blk_cell QO.out 3 _ rfl
    have o4 := blk_cell QO.out 4 _ rfl
    have lo := blk_lt QO.out
    go_wp2_with fail
    clear o0 o1 o2 o3 o4 lo
    go_loopw [13, 14] (fun v i wr => ∃ j : Nat, j ≤ dn ∧ i = .int .i64 j ∧ Hid (Below wo.heap.size wo wr) ∧ Hid (wr.ownsRow wo.heap.size 26 1 v j (hdq gp k dn cp j))) (fun _ i _ => dn - (intOf i).toNat)
    case atStart => exact ⟨0, by omega, rfl, Lib.hid (Below.refl _ _), Lib.hid (World.ownsRow_nil _ _ _ _)⟩
    case round =>
     obtain ⟨j, hj, rfl, NI, TJ⟩ := hrel
     have SBj := Lib.hid (blk_next NI.out SB.out)
     obtain ⟨Ad, cd', hv, v1, v2', -⟩ := own_form TJ.out
     subst hv
     by_cases hlj : j < dn
     ·have ef := EI.out j hlj
      rw [← HTOT.out] at ef
      have s0 := blk_cell SBj.out 0 _ rfl
      have s1 := blk_cell SBj.out 1 _ rfl
      have s2 := blk_cell SBj.out 2 _ rfl
      have s3 := blk_cell SBj.out 3 _ rfl
      have ls := blk_lt SBj.out
      have j1 : (0 : Int) ≤ (j : Int) := by omega
      have j2 : (j : Int) < d := by rw [DN.out]; omega
      obtain ⟨kd, hkd⟩ : ∃ a, a = k * dn := ⟨_, rfl⟩
      obtain ⟨kj, hkj⟩ : ∃ a, a = kd + j := ⟨_, rfl⟩
      obtain ⟨at', hat'⟩ : ∃ a, a = kj * 8 := ⟨_, rfl⟩
      have ea : at' = (k * dn + j) * 8 := by rw [hat', hkj, hkd]
      rw [← ea] at ef
      have b1 : (k : Int) * d = (kd : Int) := by rw [DN.out, hkd]; push_cast; rfl
      have b2 : IntKind.i64.wrap (kd : Int) = (kd : Int) := IntWalk.i64_in _ (by omega)
      have b3 : (kd : Int) + (j : Int) = (kj : Int) := by rw [hkj]; push_cast; rfl
      have b4 : IntKind.i64.wrap (kj : Int) = (kj : Int) := IntWalk.i64_in _ (by omega)
      have b5 : (kj : Int) * 8 = (at' : Int) := by rw [hat']; push_cast; rfl
      have b6 : IntKind.i64.wrap (at' : Int) = (at' : Int) := IntWalk.i64_in _ (by omega)
      have b7 : (at' : Int) + 8 = ((at' + 8 : Nat) : Int) := by omega
      obtain ⟨a8, ha8⟩ : ∃ a, a = at' + 8 := ⟨_, rfl⟩
      rw [← ha8] at b7 ef
      have b8 : IntKind.i64.wrap (a8 : Int) = (a8 : Int) := IntWalk.i64_in _ (by omega)
      have b9 : (0 : Int) ≤ (at' : Int) := by omega
      have b10 : (at' : Int) ≤ (a8 : Int) := by omega
      have b11 : (a8 : Int) ≤ (cp : Int) := by omega
      have EA := Lib.hid ea
      have EA8 := Lib.hid ha8
      have b12 : at' < cp := by omega
      have b13 : ¬ at' = cp := by omega
      have b14 : ¬ cp = at' := by omega
      have b15 : ¬ cp - at' = 0 := by omega
      clear hkd hkj hat' ea ha8
      have LIW := NI.out.size
      go_wp2_with (at_builtin; refine wpList_append_rd _ rfl _ _ 44 rfl wo.heap.size 26 i0 (.slice none 0 0) 1 24 Try.underlying44 HI.out.1 HI.out.2.1 HI.out.2.2.1 HI.out.2.2.2 rfl (by decide) _ j (hdq gp k dn cp j) rfl (TJ.out.alloc _) (some ⟨wr.heap.size, 0, none⟩) 1 1 [(.slice (some ⟨gp, at', none⟩) (a8 - at') (cp - at'))] rfl (rd_one (t := 26) (blk_new _ _)) (slice_one _ _ _) (by simp only [maxLen]; omega) (by omega) (by first | exact LIW | (simp; omega)) ?_; intro v5 w5 hown5 hg5 hat5; obtain ⟨A5, c5, rfl, e51, e52⟩ := own_form2 hown5; have O5 := Lib.hid hown5; have G5 : Hid ((wr.alloc (.cells #[(.slice (some ⟨gp, at', none⟩) (a8 - at') (cp - at'))] 26)).grownBy w5 (Value.slice Ad j cd').ownBlock) := Lib.hid hg5; clear hown5 hg5 hat5)
      have e8 : a8 - at' = 8 := by rw [EA8.out]; omega
      have O6 := O5.out
      rw [e8, EA.out, ← hdq_succ] at O6
      refine ⟨⟨j + 1, by omega, by go_num, Lib.hid (gbel G5.out (Bal NI.out _) (fun g hg => (TJ.out.lt g hg).1)), Lib.hid O6⟩, by simp [intOf]; omega⟩
     obtain ⟨we, rfl⟩ : ∃ we : World, we = wr := ⟨_, rfl⟩
     obtain rfl : dn = j := by omega
     have jx : decide (((dn : Nat) : Int) < d) = false := decide_eq_false (by rw [DN.out]; omega)
     replace PQ := Lib.hid (own_next NI.out PQ.out)
     have RM5 := Lib.hid (rma_hdq TJ.out (by have := PQ.out; rw [show tot = q.length by rw [QL.out, HTOT.out]] at this; exact this) QL.out QB.out HLT.out (by rw [QL.out, ← HTOT.out]; exact cpt) p2)
     replace HO := Lib.hid (HO.out.next NI.out)
     replace U := Lib.hid (U.out.next NI.out)
     replace XB := Lib.hid (blk_next NI.out XB.out)
     replace SB := Lib.hid (blk_next NI.out SB.out)
     replace QO := Lib.hid (blk_next NI.out QO.out)
     replace HB := Lib.hid (blk_next NI.out HB.out)
     replace NN := Lib.hid (Bgo NN.out NI.out)
     have hgW : g < we.heap.size := (HO.out.top.lt g rfl).2
     have EC := Lib.hid (fun (W : World) (h : RMA 0 W Ad (rowsL dn q k)) => (show Calls Try.prog 50 #[.slice Ad dn cd', .int .i64 p] W (SEPost W (d, p, enc (rowsL dn q k) pn) 0) from by
      have := refEncode_calls Ad cd' 0 (rowsL dn q k) p W (by rw [rowsL_len]; exact v1) (by omega) h
      obtain ⟨e1, e2⟩ := put_enc (pn := pn) dn1 dn8 QL.out HLT.out pn4
      rw [rowsL_len, PN.out, e1, e2, ← PN.out, ← DN.out] at this
      exact this))
     have ELEN : Hid ((enc (rowsL dn q k) pn).length = ds.length) := Lib.hid (by rw [enc_len, rowsL_len]; have := OK.out.len; have := DN.out; have := PN.out; omega)
     have PM := Lib.hid (fun n x l (a : ds[n]? = some x) (c : x.failed = false) (e : (enc (rowsL dn q k) pn)[n]? = some l) => putM_more (p := pn) a c e)
     generalize enc (rowsL dn q k) pn = rows at *
     clear NI TJ EI hlt t_f1 m1 m2 hd1 hd8 hp0 hp4 tot9 k1 k2 hb1 hb2 hnm cpt LWO HJ
     have s0 := blk_cell SB.out 0 _ rfl
     have s1 := blk_cell SB.out 1 _ rfl
     have s2 := blk_cell SB.out 2 _ rfl
     have s3 := blk_cell SB.out 3 _ rfl
     have ls := blk_lt SB.out
     go_wp2_with fail
     clear s0 s1 s2 s3 ls
     refine (EC.out _ RM5.out).mono ?_
     rintro e w6 ⟨v6, rfl, hm6, hb6⟩
     obtain ⟨us6, hm6⟩ := hm6
     obtain ⟨A6, c6, rfl, h61, h62, _⟩ := own_form hm6.top
     simp only at hm6 h61
     clear EC RM5 jx
     go_upto_region 28 with fail
     have B6 : Below we.heap.size we (w6.alloc (.cells #[.int .i64 d, .int .i64 p, .slice A6 rows.length c6] 54)) := Bal hb6 _
     have PB : Hid ((w6.alloc (.cells #[.int .i64 d, .int .i64 p, .slice A6 rows.length c6] 54)).heap[w6.heap.size]? = some (.cells #[.int .i64 d, .int .i64 p, .slice A6 rows.length c6] 54)) := Lib.hid (blk_new _ _)
     have TM := Lib.hid (hm6.next (Bal (Below.refl _ _) (.cells #[.int .i64 d, .int .i64 p, .slice A6 rows.length c6] 54)))
     have L6 : we.heap.size ≤ w6.heap.size := hb6.size
     have L7 : w6.heap.size < (w6.alloc (.cells #[.int .i64 d, .int .i64 p, .slice A6 rows.length c6] 54)).heap.size := blk_lt PB.out
     clear hm6 hb6
     generalize (w6.alloc (.cells #[.int .i64 d, .int .i64 p, .slice A6 rows.length c6] 54)) = W6 at *
     generalize w6.heap.size = gq at *
     have P0 := Lib.hid (PT.first (nb2 := W6.heap.size) (ru := us6) HO.out hgW B6)
     rw [← putM_zero] at P0
     have HT6 : Hid (∀ (j : Nat) (z : Value) (t : Nat), us6[j]? = some z → z.ownBlock = some t → t < W6.heap.size) := Lib.hid (fun j z t hz e => by obtain ⟨l, hl⟩ := get_some (show j < rows.length by rw [← TM.out.len]; exact get_lt hz); exact ((TM.out.row j z l hz hl).lt t e).2)
     replace PQ := Lib.hid (own_next B6 PQ.out)
     replace U := Lib.hid (U.out.next B6)
     replace XB := Lib.hid (blk_next B6 XB.out)
     replace SB := Lib.hid (blk_next B6 SB.out)
     replace QO := Lib.hid (blk_next B6 QO.out)
     replace HB := Lib.hid (blk_next B6 HB.out)
     replace NN := Lib.hid (Bgo NN.out B6)
     have LNB := NN.out.size
     have LBE : w.heap.size ≤ we.heap.size := Nat.le_trans hgB (Nat.le_of_lt hgW)
     clear HO B6
     go_wp2_with fail
     go_loopw [18] (fun i wr => ∃ (j : Nat) (hs : List Value) (us : List (List Value)), j ≤ ds.length ∧ i = .int .i64 j ∧ Hid (Below w.heap.size w wr) ∧ Hid (PT w.heap.size we.heap.size W6.heap.size wr g ds.length cv us6 hs us (putM dn pn q k j ds) j) ∧ Hid (OO w.heap.size wr (.slice A3 (os.length + 1) c3) (os ++ [⟨nm, ((b.length : Nat) : Int), strN os, ((mn : Nat) : Int), ((dg : Nat) : Int)⟩])) ∧ Hid (wr.heap[gh]? = some (.cells #[.int .i64 d, .int .i64 p, .slice (some ⟨g, 0, none⟩) ds.length cv, .slice A3 (os.length + 1) c3] 25)) ∧ Hid (wr.heap[w.heap.size + 1]? = some (.cells #[.int .i64 0, .int .i64 0, .slice none 0 0, .slice none 0 0] 25)) ∧ Hid (wr.heap[w.heap.size]? = some (.cells #[.int .i64 d, .int .i64 p, .slice D ds.length cd, .slice A os.length ca] 25)) ∧ Hid (wr.heap[cq]? = some (.cells #[.string nm, .int .i64 ((b.length : Nat) : Int), .int .i64 (strN os), .int .i64 ((mn : Nat) : Int), .int .i64 ((dg : Nat) : Int)] 50)) ∧ Hid (wr.ownsRow W3.heap.size 5 1 (.slice (some ⟨gp, 0, none⟩) tot cp) tot (bv q)) ∧ Hid (∀ b, we.heap.size ≤ b → b < W6.heap.size → wr.heap[b]? = W6.heap[b]?) ∧ Hid (W6.heap.size ≤ wr.heap.size)) (fun i _ => ds.length - (intOf i).toNat)
     case atStart => exact ⟨0, hs, us, by omega, rfl, NN, P0, U, HB, XB, SB, QO, PQ, Lib.hid (fun _ _ _ => rfl), Lib.hid (Nat.le_refl _)⟩
     case round =>
      clear NN P0 U HB XB SB QO PQ
      obtain ⟨j, hs, us, hj, rfl, NN, PJ, U, HB, XB, SB, QO, PQ, KJ, SZ⟩ := hrel
      by_cases hlj : j < ds.length
      rotate_left
      ·obtain rfl : j = ds.length := by omega
       have h0 := blk_cell HB.out 0 _ rfl
       have h1 := blk_cell HB.out 1 _ rfl
       have h2 := blk_cell HB.out 2 _ rfl
       have h3 := blk_cell HB.out 3 _ rfl
       have lh := blk_lt HB.out
       have j9 : decide (((ds.length : Nat) : Int) < (ds.length : Int)) = false := decide_eq_false (by omega)
       go_wp2_with fail
       refine ⟨⟨k + 1, hs, us, HLT.out, by go_num, NN, Lib.hid (by rw [← putM_all]; exact PJ.out.os), U, HB, XB, SB, QO, PQ⟩, by have := HLT.out; simp [intOf]; omega⟩
      obtain ⟨x, hx⟩ := get_some hlj
      have hM := putM_get (d := dn) (p := pn) (q := q) (k := k) (n := j) hx
      rw [if_neg (Nat.lt_irrefl _)] at hM
      obtain ⟨y, hy⟩ := get_some (show j < hs.length by rw [PJ.out.os.lenH, putM_len]; exact hlj)
      obtain ⟨u, hu⟩ := get_some (show j < us.length by rw [PJ.out.os.lenU, putM_len]; exact hlj)
      have TOPJ := Lib.hid PJ.out.os.top
      rw [putM_len] at TOPJ
      have FD := Lib.hid (flatD_get hM hy)
      have HDK : Hid (∃ cs, wr.heap[g]? = some (.cells cs 46)) := Lib.hid (own_blk2 TOPJ.out)
      have c0 := (TOPJ.out.cellAt (j * 2) (by omega)).trans FD.out.1
      rw [putDk_failed] at c0
      have hgw : g < wr.heap.size := (TOPJ.out.lt g rfl).2
      have i0' : (0 : Int) ≤ (j : Int) := by omega
      have i1 : (j : Int) < (ds.length : Int) := by omega
      have h0 := blk_cell HB.out 0 _ rfl
      have h1 := blk_cell HB.out 1 _ rfl
      have h2 := blk_cell HB.out 2 _ rfl
      have h3 := blk_cell HB.out 3 _ rfl
      have lh := blk_lt HB.out
      by_cases hf : x.failed = true
      ·rw [hf] at c0
       have PS := Lib.hid PJ.out.skip
       rw [← putM_skip hx hf] at PS
       clear hx hM hy hu FD
       go_wp2_with fail
       refine ⟨⟨j + 1, hs, us, by omega, by go_num, NN, PS, U, HB, XB, SB, QO, PQ, KJ, SZ⟩, by simp [intOf]; omega⟩
      have hf' : x.failed = false := by simpa using hf
      rw [hf'] at c0
      have RW := Lib.hid (PJ.out.os.row j _ y u hM hy hu)
      have xb := putDk_len (d := dn) (p := pn) (q := q) (k := k) (i := j) hf'
      have xb2 := ((OK.out.dkl (List.mem_of_getElem? hx)).2 hf').1
      have xb3 := OK.out.str
      have xb4 := HLT.out
      obtain ⟨bn, hbn⟩ : ∃ bn, bn = (putDk dn pn q k j x).blocks.length := ⟨_, rfl⟩
      have bn9 : bn ≤ 700 := by omega
      have HBN := Lib.hid hbn
      obtain ⟨Ay, cy, hye, hy1, hy2, -⟩ := own_form RW.out.top
      rw [← HBN.out] at hye hy1
      subst hye
      have TX : Hid (wr.ownsRow w.heap.size 26 1 (.slice Ay bn cy) bn u) := Lib.hid (by have := RW.out.top; rw [← HBN.out] at this; exact this)
      have c1 := (TOPJ.out.cellAt (j * 2 + 1) (by omega)).trans FD.out.2
      have PBj := Lib.hid ((KJ.out gq L6 L7).trans PB.out)
      have TMj : Hid (OMx we.heap.size wr (.slice A6 rows.length c6) us6 rows) := Lib.hid (TM.out.same (fun g cs t hg hh _ => KJ.out g hg (blk_lt hh)))
      obtain ⟨l, hl⟩ := get_some (show j < rows.length by rw [ELEN.out]; exact hlj)
      obtain ⟨ru, hru⟩ := get_some (show j < us6.length by rw [TM.out.len, ELEN.out]; exact hlj)
      obtain ⟨Ar, cr, hre, hr1, hr9, -⟩ := own_form (TMj.out.row j ru l hru hl)
      subst hre
      obtain ⟨b6, k61, k62, k63, k64⟩ := own_cell2 TMj.out.top hru
      subst k61
      have j4 : (j : Int) < (rows.length : Int) := by rw [ELEN.out]; exact i1
      have l8 : bn + 1 ≤ 701 := by omega
      obtain ⟨n0, hn0⟩ : ∃ n0, n0 = i0 := ⟨_, rfl⟩
      subst hn0
      have HX := Lib.hid (And.intro hx (And.intro hf' (And.intro hl hru)))
      have HM := Lib.hid (And.intro hM (And.intro hy hu))
      clear hx hM hy hu hl hru hbn xb xb2 xb3 xb4 hf
      have LWR := NN.out.size
      have DK : Hid (∀ w2 : World, (wr.alloc (.cells #[.slice Ar l.length cr] 26)).grownBy w2 (Value.slice Ay bn cy).ownBlock → w2.frozen? ⟨g, j * 2 + 1, none⟩ = false ∧ w2.cell? ⟨g, j * 2 + 1, none⟩ = some (.slice Ay bn cy) ∧ g < w2.heap.size) := Lib.hid (fun w2 h => by
       have D2 := (TOPJ.out.alloc (.cells #[.slice Ar l.length cr] 26)).kept h (own_own (TX.out.alloc (.cells #[.slice Ar l.length cr] 26)) (TOPJ.out.alloc (.cells #[.slice Ar l.length cr] 26)) ne_sl_dk)
       exact ⟨D2.frozenAt _, (D2.cellAt (j * 2 + 1) (by omega)).trans FD.out.2, (D2.lt g rfl).2⟩)
      go_wp2_with fail
      clear h0 h1 h2 h3 lh
      have HL0 : Hid (∀ k, SC [(1, ⟨gh, 2, none⟩, .slice (some ⟨g, 0, none⟩) ds.length cv), (4, ⟨gh, 2, none⟩, .slice (some ⟨g, 0, none⟩) ds.length cv), (8, ⟨g, j * 2 + 1, none⟩, .slice Ay bn cy), (10, ⟨gq, 2, none⟩, .slice (some ⟨b6, 0, none⟩) rows.length c6), (13, ⟨b6, j, none⟩, .slice Ar l.length cr)] k wr) := Lib.hid (fun k p hp e => by
       simp only [List.mem_cons, List.not_mem_nil, or_false] at hp
       rcases hp with rfl | rfl | rfl | rfl | rfl
       ·exact ⟨blk_lt HB.out, blk_cell HB.out 2 _ rfl⟩
       ·exact ⟨blk_lt HB.out, blk_cell HB.out 2 _ rfl⟩
       ·exact ⟨hgw, c1⟩
       ·exact ⟨blk_lt PBj.out, blk_cell PBj.out 2 _ rfl⟩
       ·exact ⟨k63, k62⟩)
      have hb6 : (Value.slice Ay bn cy).ownBlock ≠ some b6 := fun e => by rcases PJ.out.top j _ b6 HM.out.2.1 e with h | h; (· have := k64; omega); (· have := (TM.out.top.lt b6 rfl).2; omega)
      have HNE : Hid (∀ p ∈ ([(1, ⟨gh, 2, none⟩, .slice (some ⟨g, 0, none⟩) ds.length cv), (4, ⟨gh, 2, none⟩, .slice (some ⟨g, 0, none⟩) ds.length cv), (8, ⟨g, j * 2 + 1, none⟩, .slice Ay bn cy), (10, ⟨gq, 2, none⟩, .slice (some ⟨b6, 0, none⟩) rows.length c6), (13, ⟨b6, j, none⟩, .slice Ar l.length cr)] : List (Nat × Addr × Value)), some p.2.1.block ≠ (Value.slice Ay bn cy).ownBlock) := Lib.hid (fun p hp e => by
       simp only [List.mem_cons, List.not_mem_nil, or_false] at hp
       rcases hp with rfl | rfl | rfl | rfl | rfl
       ·exact own_ne TX.out HB.out ne_sl_sto e.symm
       ·exact own_ne TX.out HB.out ne_sl_sto e.symm
       ·exact own_ne TX.out HDK.out.choose_spec ne_sl_dk e.symm
       ·exact own_ne TX.out PBj.out ne_sl_st e.symm
       ·exact hb6 e.symm)
      clear hb6
      refine region_I (S := SC [(1, ⟨gh, 2, none⟩, .slice (some ⟨g, 0, none⟩) ds.length cv), (4, ⟨gh, 2, none⟩, .slice (some ⟨g, 0, none⟩) ds.length cv), (8, ⟨g, j * 2 + 1, none⟩, .slice Ay bn cy), (10, ⟨gq, 2, none⟩, .slice (some ⟨b6, 0, none⟩) rows.length c6), (13, ⟨b6, j, none⟩, .slice Ar l.length cr)]) (by kernel_rfl) ?_
      have HAL : Hid (∀ k, SC [(1, ⟨gh, 2, none⟩, .slice (some ⟨g, 0, none⟩) ds.length cv), (4, ⟨gh, 2, none⟩, .slice (some ⟨g, 0, none⟩) ds.length cv), (8, ⟨g, j * 2 + 1, none⟩, .slice Ay bn cy), (10, ⟨gq, 2, none⟩, .slice (some ⟨b6, 0, none⟩) rows.length c6), (13, ⟨b6, j, none⟩, .slice Ar l.length cr)] k wr.drew) := Lib.hid (fun k => (HL0.out k).next (Below.refl _ _).drew)
      clear HL0 c1
      refine take_I 0 (.pointer (some ⟨gh, 2, none⟩)) (some 134) rfl (by kernel_rfl) (by kernel_rfl) (by kernel_rfl) rfl (fun _ _ _ h => h) (Or.inl ⟨by rfl, ?_⟩) (HAL.out 0) ?_
      ·intro X hX
       clear hX
       go_simp
      try simp only [Act.put, zA, zB, zC]
      refine take_I 1 (.slice (some ⟨g, 0, none⟩) ds.length cv) (some 135) rfl (by kernel_rfl) (by kernel_rfl) (by kernel_rfl) rfl (fun _ _ _ h => h) (Or.inl ⟨by rfl, ?_⟩) (HAL.out 1) ?_
      ·intro X hX
       obtain ⟨hz, hc⟩ := hX (1, ⟨gh, 2, none⟩, .slice (some ⟨g, 0, none⟩) ds.length cv) (List.Mem.head _) rfl
       simp only at hz hc
       clear hX
       go_simp
      try simp only [Act.put, zA, zB, zC]
      refine take_I 2 (.int .i64 (j : Int)) (some 136) rfl (by kernel_rfl) (by kernel_rfl) (by kernel_rfl) rfl (fun _ _ _ h => h) (Or.inl ⟨by rfl, ?_⟩) (HAL.out 2) ?_
      ·intro X hX
       clear hX
       go_simp
      try simp only [Act.put, zA, zB, zC]
      refine take_I 3 (.pointer (some ⟨gh, 2, none⟩)) (some 137) rfl (by kernel_rfl) (by kernel_rfl) (by kernel_rfl) rfl (fun _ _ _ h => h) (Or.inl ⟨by rfl, ?_⟩) (HAL.out 3) ?_
      ·intro X hX
       clear hX
       go_simp
      try simp only [Act.put, zA, zB, zC]
      refine take_I 4 (.slice (some ⟨g, 0, none⟩) ds.length cv) (some 138) rfl (by kernel_rfl) (by kernel_rfl) (by kernel_rfl) rfl (fun _ _ _ h => h) (Or.inl ⟨by rfl, ?_⟩) (HAL.out 4) ?_
      ·intro X hX
       obtain ⟨hz, hc⟩ := hX (4, ⟨gh, 2, none⟩, .slice (some ⟨g, 0, none⟩) ds.length cv) (List.Mem.tail _ (List.Mem.head _)) rfl
       simp only at hz hc
       clear hX
       go_simp
      try simp only [Act.put, zA, zB, zC]
      refine take_I 5 (.int .i64 (j : Int)) (some 139) rfl (by kernel_rfl) (by kernel_rfl) (by kernel_rfl) rfl (fun _ _ _ h => h) (Or.inl ⟨by rfl, ?_⟩) (HAL.out 5) ?_
      ·intro X hX
       clear hX
       go_simp
      try simp only [Act.put, zA, zB, zC]
      refine take_I 6 (.pointer (some ⟨g, j * 2, none⟩)) (some 140) rfl (by kernel_rfl) (by kernel_rfl) (by kernel_rfl) rfl (fun _ _ _ h => h) (Or.inl ⟨by rfl, ?_⟩) (HAL.out 6) ?_
      ·intro X hX
       clear hX
       go_simp
      try simp only [Act.put, zA, zB, zC]
      refine take_I 7 (.pointer (some ⟨g, j * 2 + 1, none⟩)) (some 141) rfl (by kernel_rfl) (by kernel_rfl) (by kernel_rfl) rfl (fun _ _ _ h => h) (Or.inl ⟨by rfl, ?_⟩) (HAL.out 7) ?_
      ·intro X hX
       clear hX
       go_simp
      try simp only [Act.put, zA, zB, zC]
      refine take_I 8 (.slice Ay bn cy) (some 142) rfl (by kernel_rfl) (by kernel_rfl) (by kernel_rfl) rfl (fun _ _ _ h => h) (Or.inl ⟨by rfl, ?_⟩) (HAL.out 8) ?_
      ·intro X hX
       obtain ⟨hz, hc⟩ := hX (8, ⟨g, j * 2 + 1, none⟩, .slice Ay bn cy) (List.Mem.tail _ (List.Mem.tail _ (List.Mem.head _))) rfl
       simp only at hz hc
       clear hX
       go_simp
      try simp only [Act.put, zA, zB, zC]
      refine take_I 9 (.pointer (some ⟨gq, 2, none⟩)) (some 143) rfl (by kernel_rfl) (by kernel_rfl) (by kernel_rfl) rfl (fun _ _ _ h => h) (Or.inl ⟨by rfl, ?_⟩) (HAL.out 9) ?_
      ·intro X hX
       clear hX
       go_simp
      try simp only [Act.put, zA, zB, zC]
      refine take_I 10 (.slice (some ⟨b6, 0, none⟩) rows.length c6) (some 144) rfl (by kernel_rfl) (by kernel_rfl) (by kernel_rfl) rfl (fun _ _ _ h => h) (Or.inl ⟨by rfl, ?_⟩) (HAL.out 10) ?_
      ·intro X hX
       obtain ⟨hz, hc⟩ := hX (10, ⟨gq, 2, none⟩, .slice (some ⟨b6, 0, none⟩) rows.length c6) (List.Mem.tail _ (List.Mem.tail _ (List.Mem.tail _ (List.Mem.head _)))) rfl
       simp only at hz hc
       clear hX
       go_simp
      try simp only [Act.put, zA, zB, zC]
      refine take_I 11 (.int .i64 (j : Int)) (some 145) rfl (by kernel_rfl) (by kernel_rfl) (by kernel_rfl) rfl (fun _ _ _ h => h) (Or.inl ⟨by rfl, ?_⟩) (HAL.out 11) ?_
      ·intro X hX
       clear hX
       go_simp
      try simp only [Act.put, zA, zB, zC]
      refine take_I 12 (.pointer (some ⟨b6, j, none⟩)) (some 146) rfl (by kernel_rfl) (by kernel_rfl) (by kernel_rfl) rfl (fun _ _ _ h => h) (Or.inl ⟨by rfl, ?_⟩) (HAL.out 12) ?_
      ·intro X hX
       clear hX
       go_simp
      try simp only [Act.put, zA, zB, zC]
      refine take_I 13 (.slice Ar l.length cr) (some 147) rfl (by kernel_rfl) (by kernel_rfl) (by kernel_rfl) rfl (fun _ _ _ h => h) (Or.inl ⟨by rfl, ?_⟩) (HAL.out 13) ?_
      ·intro X hX
       obtain ⟨hz, hc⟩ := hX (13, ⟨b6, j, none⟩, .slice Ar l.length cr) (List.Mem.tail _ (List.Mem.tail _ (List.Mem.tail _ (List.Mem.tail _ (List.Mem.head _))))) rfl
       simp only at hz hc
       clear hX
       go_simp
      try simp only [Act.put, zA, zB, zC]
      refine only_I 14 (by kernel_rfl) rfl (fun K' hK' => ?_)
      go_simp
      refine hK'.out _ _ (fun k _ hS => hS.next (Bal (Below.refl _ _) _)) ?_
      clear hK' K'
      try simp only [Act.put, zA, zB, zC]
      refine only_I 15 (by kernel_rfl) rfl (fun K' hK' => ?_)
      refine step_append_rd _ (by rfl) _ _ 44 (by rfl) w.heap.size 26 n0 (.slice none 0 0) 1 24 Try.underlying44 HI.out.1 HI.out.2.1 HI.out.2.2.1 HI.out.2.2.2 rfl (by decide) _ bn u (by rfl) ?_ (some ⟨wr.heap.size, 0, none⟩) 1 1 [.slice Ar l.length cr] (by rfl) ?_ (slice_one _ _ _) (by simp only [maxLen]; omega) (by omega) ?_ ?_
      ·first | exact TX.out.drew.alloc _ | exact TX.out.alloc _ | exact (TX.out.alloc _).drew
      ·exact rd_one (t := 26) (blk_new _ _)
      ·first | exact LWR | (simp; omega)
      intro v2 w2 hown2 hg2 hat2
      obtain ⟨A2', c2, rfl, g1', g2', _⟩ := own_form hown2
      have G2 : Hid ((wr.alloc (.cells #[.slice Ar l.length cr] 26)).grownBy w2 (Value.slice Ay bn cy).ownBlock) := Lib.hid (by first | exact hg2 | exact gundrew hg2 | exact ⟨hg2.os, hg2.tape, hg2.output, hg2.size, hg2.block⟩)
      have O2 : Hid (w2.ownsRow w.heap.size 26 1 (.slice A2' (bn + 1) c2) (bn + 1) (u ++ [.slice Ar l.length cr])) := Lib.hid hown2
      have AT2 : Hid ((Value.slice A2' (bn + 1) c2).ownBlock = (Value.slice Ay bn cy).ownBlock ∨ (Value.slice A2' (bn + 1) c2).ownBlock = some (wr.alloc (.cells #[.slice Ar l.length cr] 26)).heap.size) := Lib.hid hat2
      refine hK'.out _ _ (fun k _ hS => hS.grown hg2 HNE.out) ?_
      clear hK' K' hown2 hg2 hat2
      try simp only [Act.put, zA, zB, zC]
      refine take_I 16 (.pointer (some ⟨g, j * 2, none⟩)) (some 150) rfl (by kernel_rfl) (by kernel_rfl) (by kernel_rfl) rfl (fun _ _ _ h => h) (Or.inl ⟨by rfl, ?_⟩) (SC.none (by simp)) ?_
      ·intro X hX
       clear hX
       go_simp
      try simp only [Act.put, zA, zB, zC]
      refine take_I 17 (.pointer (some ⟨g, j * 2 + 1, none⟩)) (some 151) rfl (by kernel_rfl) (by kernel_rfl) (by kernel_rfl) rfl (fun _ _ _ h => h) (Or.inl ⟨by rfl, ?_⟩) (SC.none (by simp)) ?_
      ·intro X hX
       clear hX
       go_simp
      try simp only [Act.put, zA, zB, zC]
      obtain ⟨f2, y3, hz2⟩ := DK.out _ G2.out
      refine only_I 18 (by kernel_rfl) rfl (fun K' hK' => ?_)
      go_simp
      refine hK'.out _ _ (fun k hk hS p hp e => ?_) ?_
      ·simp only [List.mem_cons, List.not_mem_nil, or_false] at hp
       rcases hp with rfl | rfl | rfl | rfl | rfl
       ·subst e; exact bfl (by kernel_rfl) hk
       ·subst e; exact bfl (by kernel_rfl) hk
       ·subst e; exact bfl (by kernel_rfl) hk
       ·subst e; exact bfl (by kernel_rfl) hk
       ·subst e; exact bfl (by kernel_rfl) hk
      clear hK' K' f2 y3
      try simp only [Act.put, zA, zB, zC]
      clear HAL
      refine done_I (by kernel_rfl) ?_ _
      go_wp2_with fail
      have PA := PJ.out.alloc (.cells #[.slice Ar l.length cr] 26)
      have P2 := PT.more PA HM.out.1 HM.out.2.1 HM.out.2.2 (TMj.out.next (Bal (Below.refl _ _) _)) HT6.out HX.out.2.2.2 HX.out.2.2.1 (Nat.le_trans SZ.out (Bal (Below.refl wr.heap.size wr) _).size) LBE (by rw [← HBN.out]; exact O2.out) G2.out AT2.out
      rw [PM.out j x l HX.out.1 HX.out.2.1 HX.out.2.2.1] at P2
      have KK := PT.keep (x' := (.slice A2' (bn + 1) c2)) PA HM.out.2.1 (Nat.le_trans SZ.out (Bal (Below.refl wr.heap.size wr) _).size) G2.out
      have TA := TX.out.alloc (.cells #[.slice Ar l.length cr] 26)
      have N2 := Bset1 (gbel G2.out (Bal NN.out (.cells #[.slice Ar l.length cr] 26)) (fun t ht => (TX.out.lt t ht).1)) hgB (j * 2 + 1) (.slice A2' (bn + 1) c2)
      have HB2 := lay_other (i := j * 2 + 1) (x' := (.slice A2' (bn + 1) c2)) (blk_alloc HB.out _) PA.os TA G2.out ne_dk_sto ne_sl_sto
      have XB2 := lay_other (i := j * 2 + 1) (x' := (.slice A2' (bn + 1) c2)) (blk_alloc XB.out _) PA.os TA G2.out ne_dk_sto ne_sl_sto
      have SB2 := lay_other (i := j * 2 + 1) (x' := (.slice A2' (bn + 1) c2)) (blk_alloc SB.out _) PA.os TA G2.out ne_dk_sto ne_sl_sto
      have QO2 := lay_other (i := j * 2 + 1) (x' := (.slice A2' (bn + 1) c2)) (blk_alloc QO.out _) PA.os TA G2.out ne_dk_ob ne_sl_ob
      have PQa : Hid ((wr.alloc (.cells #[.slice Ar l.length cr] 26)).ownsRow W3.heap.size 5 1 (.slice (some ⟨gp, 0, none⟩) tot cp) tot (bv q)) := Lib.hid (PQ.out.alloc _)
      have PQ2 : (w2.setCell ⟨g, j * 2 + 1, none⟩ (.slice A2' (bn + 1) c2)).ownsRow W3.heap.size 5 1 (.slice (some ⟨gp, 0, none⟩) tot cp) tot (bv q) := lay_own PQa.out PA.os TA G2.out ne_dk_u8 ne_sl_u8
      have U2 := lay_objs (i := j * 2 + 1) (x' := (.slice A2' (bn + 1) c2)) (U.out.next (Bal (Below.refl _ _) _)) PA.os TA G2.out
      refine ⟨⟨j + 1, _, _, by omega, by go_num, Lib.hid N2, Lib.hid P2, Lib.hid U2, Lib.hid HB2, Lib.hid XB2, Lib.hid SB2, Lib.hid QO2, Lib.hid PQ2, Lib.hid (fun b h1 h2 => (KK b h1 h2).trans (((Bal (Below.refl wr.heap.size wr) _).block b (by have := SZ.out; omega)).trans (KJ.out b h1 h2))), Lib.hid (Nat.le_trans SZ.out (Nat.le_trans (Bal (Below.refl wr.heap.size wr) _).size (Nat.le_trans G2.out.size (Nat.le_of_eq (Go.Deep.nblk_setCell _ _ _).symm))))⟩, by simp [intOf]; omega⟩
end Go.Proofs.Ytapehckcmmompaa
