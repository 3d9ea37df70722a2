/- Several texts in one. -/
import Derived.Test.YtapehckcmmompaaM12
namespace Go.Proofs.Ytapehckcmmompaa
open Go.ChangeShapes Go.WideShapes Go.ChangeAt Go.RowKit
set_option linter.unusedVariables false
set_option maxRecDepth 100000
attribute [local go_sem ↓] Go.wp_at_zero Go.wp_at_succ
def SOPost (w : World) (s : So) (er : Int) (e : Ending) (w' : World) : Prop := ∃ v u, e = .returned (.tuple #[Tv s.1 s.2.1 v u, .int .i64 er]) ∧ OT w.heap.size w' v s.2.2.1 ∧ OO w.heap.size w' u s.2.2.2 ∧ Below w.heap.size w w'
theorem flatD_made (n : Nat) : (madeCells #[.bool false, .slice none 0 0] (n * 2)).toList = flatD (List.replicate n ⟨false, []⟩) (List.replicate n (.slice none 0 0)) := by
 refine List.ext_getElem? fun j => ?_
 by_cases hj : j < n * 2
 ·have hi : j / 2 < n := by omega
  have h1 : (List.replicate n (⟨false, []⟩ : Dk))[j / 2]? = some ⟨false, []⟩ := by simp [hi]
  have h2 : (List.replicate n (Value.slice none 0 0))[j / 2]? = some (.slice none 0 0) := by simp [hi]
  obtain ⟨f1, f2⟩ := flatD_get h1 h2
  rcases Nat.mod_two_eq_zero_or_one j with e | e
  ·have ej : j = j / 2 * 2 := by omega
   rw [← ej] at f1
   rw [f1]
   simp [madeCells, hj, e]
  ·have ej : j = j / 2 * 2 + 1 := by omega
   rw [← ej] at f2
   rw [f2]
   simp [madeCells, hj, e]
 ·rw [List.getElem?_eq_none (by simp [size_madeCells]; omega), List.getElem?_eq_none (by rw [flatD_len (by simp)]; simp; omega)]
theorem make_disks (W : World) (n : Nat) (h : n ≤ 1000) : (Instr.makeSlice 22 (.int .i64 (n : Int)) (.int .i64 (n : Int))).run Try.prog W = .ok (.slice (some ⟨W.heap.size, 0, none⟩) n n) (W.alloc (.cells (madeCells #[.bool false, .slice none 0 0] (n * 2)) 46)) := by
 obtain ⟨i, hi, hz, hs, hb⟩ := info_parts infoDk
 have := run_make (P := Try.prog) W 22 46 i zD Try.underlying22 hi hz .i64 .i64 n n (by omega) (by omega) (by rw [hb]; omega) (by omega)
 rw [hs] at this
 have e : zD.cells = #[.bool false, .slice none 0 0] := rfl
 rw [e] at this
 simpa using this
theorem nil_disks {B hb : Nat} (W : World) (n : Nat) (h : n ≤ 1000) (hB : B ≤ W.heap.size) (he : hb = W.heap.size) : OT B (W.alloc (.cells (madeCells #[.bool false, .slice none 0 0] (n * 2)) 46)) (.slice (some ⟨hb, 0, none⟩) n n) (List.replicate n ⟨false, []⟩) := by
 subst he
 have := World.ownsRow_lit (base := B) (size := 2) (e := 46) W (madeCells #[.bool false, .slice none 0 0] (n * 2)) n hB (by simp [maxLen]; omega) (by rw [size_madeCells])
 rw [flatD_made] at this
 refine ⟨List.replicate n (.slice none 0 0), List.replicate n [], by simpa using this, by simp, by simp, fun i d x u hd hx hu => ?_, fun i j x x' _ hx _ => ?_, fun i j k l u u' x y _ hu _ hx _ => ?_⟩
 ·have e1 := List.eq_of_mem_replicate (List.mem_of_getElem? hd)
  have e2 := List.eq_of_mem_replicate (List.mem_of_getElem? hx)
  have e3 := List.eq_of_mem_replicate (List.mem_of_getElem? hu)
  subst e1 e2 e3
  exact OMx.nil _ _
 ·have e2 := List.eq_of_mem_replicate (List.mem_of_getElem? hx)
  subst e2; exact .inl rfl
 ·have e3 := List.eq_of_mem_replicate (List.mem_of_getElem? hu)
  subst e3; simp at hx
set_option maxHeartbeats 4000000 in
theorem new_calls (d p : Int) (w : World) : Calls Try.prog 12 #[.int .i64 d, .int .i64 p] w (SOPost w (newS d p) (newE d p)) := by
 by_cases hq : szB d p = true
 ·have q := szB_iff.1 hq
  have E : newE d p = 0 := if_pos hq
  have S : newS d p = (d, p, List.replicate (d + p).toNat ⟨false, []⟩, []) := if_pos hq
  rw [E, S]
  obtain ⟨n, hn⟩ : ∃ n : Nat, d + p = (n : Int) := ⟨(d + p).toNat, by omega⟩
  have mk := fun W => make_disks W n (by omega)
  have hn' : (d + p).toNat = n := by omega
  rw [hn']
  clear E S
  have ZC := Lib.hid (fun W => isSize_calls d p W)
  rw [hq] at ZC
  go_enter Try.func12, Try.ntmps12
  go_upto_region 1 with fail
  have XB : Hid ((w.alloc (.cells #[.int .i64 0, .int .i64 0, .slice none 0 0, .slice none 0 0] 25)).heap[w.heap.size]? = some (.cells #[.int .i64 0, .int .i64 0, .slice none 0 0, .slice none 0 0] 25)) := Lib.hid (blk_new _ _)
  have NN : Hid (Below w.heap.size w (w.alloc (.cells #[.int .i64 0, .int .i64 0, .slice none 0 0, .slice none 0 0] 25))) := Lib.hid (Bal (Below.refl _ _) _)
  generalize (w.alloc (.cells #[.int .i64 0, .int .i64 0, .slice none 0 0, .slice none 0 0] 25)) = W0 at *
  go_wp2_with fail
  refine (ZC.out _).mono ?_
  rintro e w1 ⟨rfl, hw⟩
  subst hw
  have x0 := blk_cell XB.out 0 _ rfl
  have fx0 := blk_frozen XB.out 0
  have x1 := blk_cell XB.out 1 _ rfl
  have fx1 := blk_frozen XB.out 1
  have x2 := blk_cell XB.out 2 _ rfl
  have fx2 := blk_frozen XB.out 2
  have x3 := blk_cell XB.out 3 _ rfl
  have fx3 := blk_frozen XB.out 3
  have lt := blk_lt XB.out
  go_wp2_with fail
  have Z := blk_alloc (blk_set4 XB.out (.int .i64 d) (.int .i64 p) (.slice (some ⟨W0.heap.size, 0, none⟩) n n) (.slice none 0 0)) (.cells (madeCells #[.bool false, .slice none 0 0] (n * 2)) 46)
  have e0 := blk_cell Z 0 _ rfl
  have e1 := blk_cell Z 1 _ rfl
  have e2 := blk_cell Z 2 _ rfl
  have e3 := blk_cell Z 3 _ rfl
  have sz : W0.heap.size = (set4 W0 w.heap.size (.int .i64 d) (.int .i64 p) (.slice (some ⟨W0.heap.size, 0, none⟩) n n) (.slice none 0 0)).heap.size := by simp
  exact bodyPost_ret (v := .tuple #[Tv d p (.slice (some ⟨W0.heap.size, 0, none⟩) n n) (.slice none 0 0), .int .i64 0]) (by simp [results, Try.results12, go_sem, e0, e1, e2, e3]) rfl ⟨_, _, rfl, nil_disks (set4 W0 w.heap.size (.int .i64 d) (.int .i64 p) (.slice (some ⟨W0.heap.size, 0, none⟩) n n) (.slice none 0 0)) n (by omega) (by rw [← sz]; exact NN.out.size) sz, OO.nil _ _, Bal (Bset4 NN.out (by omega) _ _ _ _) _⟩
 ·have E : newE d p = 2 := if_neg hq
  have S : newS d p = noS := if_neg hq
  rw [E, S]
  have hq' : szB d p = false := by simpa using hq
  clear E S
  have ZC := Lib.hid (fun W => isSize_calls d p W)
  rw [hq'] at ZC
  go_enter Try.func12, Try.ntmps12
  go_upto_region 1 with fail
  have XB : Hid ((w.alloc (.cells #[.int .i64 0, .int .i64 0, .slice none 0 0, .slice none 0 0] 25)).heap[w.heap.size]? = some (.cells #[.int .i64 0, .int .i64 0, .slice none 0 0, .slice none 0 0] 25)) := Lib.hid (blk_new _ _)
  have NN : Hid (Below w.heap.size w (w.alloc (.cells #[.int .i64 0, .int .i64 0, .slice none 0 0, .slice none 0 0] 25))) := Lib.hid (Bal (Below.refl _ _) _)
  generalize (w.alloc (.cells #[.int .i64 0, .int .i64 0, .slice none 0 0, .slice none 0 0] 25)) = W0 at *
  go_wp2_with fail
  refine (ZC.out _).mono ?_
  rintro e w1 ⟨rfl, hw⟩
  subst hw
  have x0 := blk_cell XB.out 0 _ rfl
  have fx0 := blk_frozen XB.out 0
  have x1 := blk_cell XB.out 1 _ rfl
  have fx1 := blk_frozen XB.out 1
  have x2 := blk_cell XB.out 2 _ rfl
  have fx2 := blk_frozen XB.out 2
  have x3 := blk_cell XB.out 3 _ rfl
  have fx3 := blk_frozen XB.out 3
  have lt := blk_lt XB.out
  go_wp2_with fail
  have Z := blk_set4 XB.out (.int .i64 0) (.int .i64 0) (.slice none 0 0) (.slice none 0 0)
  have e0 := blk_cell Z 0 _ rfl
  have e1 := blk_cell Z 1 _ rfl
  have e2 := blk_cell Z 2 _ rfl
  have e3 := blk_cell Z 3 _ rfl
  exact bodyPost_ret (v := .tuple #[Tv 0 0 (.slice none 0 0) (.slice none 0 0), .int .i64 2]) (by simp [results, Try.results12, go_sem, e0, e1, e2, e3]) rfl ⟨_, _, rfl, OT.nil _ _, OO.nil _ _, Bset4 NN.out (by omega) _ _ _ _⟩
end Go.Proofs.Ytapehckcmmompaa
namespace Go.Proofs.Ytapehckcmmompaa
open Go.ChangeShapes Go.WideShapes Go.ChangeAt Go.RowKit
set_option linter.unusedVariables false
set_option maxRecDepth 100000
attribute [local go_sem ↓] Go.wp_at_zero Go.wp_at_succ
theorem faiE_bad {d p : Int} {ds : List Dk} {os : List Ob} {x : Int} (h : chS d p ds os ≠ 0) : faiE d p ds os x = chS d p ds os := if_neg h
theorem faiE_arg {d p : Int} {ds : List Dk} {os : List Ob} {x : Int} (h : chS d p ds os = 0) (hx : x < 0 ∨ (ds.length : Int) ≤ x) : faiE d p ds os x = 2 := by
 unfold faiE
 rw [if_pos h]
 rcases hx with hx | hx
 ·rw [decide_eq_false (show ¬ 0 ≤ x by omega)]
  cases ds[x.toNat]? <;> rfl
 ·rw [List.getElem?_eq_none (show ds.length ≤ x.toNat by omega)]
theorem faiE_at {d p : Int} {ds : List Dk} {os : List Ob} {n : Nat} {k : Dk} (h : chS d p ds os = 0) (hk : ds[n]? = some k) : faiE d p ds os (n : Int) = if k.failed then 36 else if 0 < strN os ∧ faN ds + 1 = ds.length then 32 else 0 := by
 unfold faiE
 rw [if_pos h, Int.toNat_natCast, hk, decide_eq_true (show (0 : Int) ≤ (n : Int) by omega)]
theorem OT.some_ {B : Nat} {w : World} {A : Option Addr} {n cap : Nat} {ds : List Dk} (h : OT B w (.slice A n cap) ds) (hn : 0 < ds.length) : ∃ g hs us, A = some ⟨g, 0, none⟩ ∧ OS B w (.slice (some ⟨g, 0, none⟩) ds.length cap) hs us ds ∧ g < w.heap.size ∧ B ≤ g := by
 obtain ⟨hs, us, h⟩ := h
 rcases h.top.2 with ⟨_, h2⟩ | ⟨g, cap', cur, h', hb, hg, _⟩
 ·omega
 ·injection h' with e1 e2 e3
  subst e1 e2 e3
  exact ⟨g, hs, us, rfl, h, blk_lt hg, hb⟩
theorem dk_other {B : Nat} {W : World} {g b n cap i : Nat} {x y : Value} {cs : Array Value} {t : TypeId} {xs : List Value} (h : W.heap[b]? = some (.cells cs t)) (ht : W.ownsRow B 46 2 (.slice (some ⟨g, 0, none⟩) n cap) n xs) (hne : 46 ≠ t) : ((W.setCell ⟨g, i * 2, none⟩ x).setCell ⟨g, i * 2 + 1, none⟩ y).heap[b]? = some (.cells cs t) := by
 have ne : g ≠ b := fun e => own_ne ht h hne (by rw [e]; rfl)
 exact blk_set_other (blk_set_other h ne _ _) ne _ _
theorem OO.dk {B B' : Nat} {W : World} {g n cap i : Nat} {x y v : Value} {xs : List Value} {os : List Ob} (h : OO B' W v os) (ht : W.ownsRow B 46 2 (.slice (some ⟨g, 0, none⟩) n cap) n xs) : OO B' ((W.setCell ⟨g, i * 2, none⟩ x).setCell ⟨g, i * 2 + 1, none⟩ y) v os :=
 own_same h fun g' cs _ hh => (dk_other hh ht ne_dk_ob).trans hh.symm
set_option maxHeartbeats 16000000 in
theorem fail_calls (d p : Int) (D A : Option Addr) (cd ca B : Nat) (ds : List Dk) (os : List Ob) (x : Int) (w : World) (hnd : ds.length ≤ cd) (hcd : cd ≤ 9223372036854775807) (hna : os.length ≤ ca) (hca : ca ≤ 9223372036854775807) (hd : RD B w D ds) (hs : RO B w A os) (hl : ∀ o ∈ os, Lh o.name) :
  Calls Try.prog 27 #[Tv d p (.slice D ds.length cd) (.slice A os.length ca), .int .i64 x] w (SOPost w (faiS d p ds os x) (faiE d p ds os x)) := by
 have HD := Lib.hid hd
 have HS := Lib.hid hs
 have HL := Lib.hid hl
 clear hd hs hl
 by_cases ck : chS d p ds os = 0
 rotate_left
 ·skip
  have E := faiE_bad (x := x) ck
  have S : faiS d p ds os x = noS := by unfold faiS; rw [E]; exact if_neg (by first | exact ck | decide)
  rw [E, S]
  clear E S
  go_enter Try.func27, Try.ntmps27
  go_upto_region 1 with fail
  have SB : Hid (((w.alloc (.cells #[.int .i64 d, .int .i64 p, .slice D ds.length cd, .slice A os.length ca] 25)).alloc (.cells #[.int .i64 0, .int .i64 0, .slice none 0 0, .slice none 0 0] 25)).heap[w.heap.size]? = some (.cells #[.int .i64 d, .int .i64 p, .slice D ds.length cd, .slice A os.length ca] 25)) := Lib.hid (blk_alloc (blk_new w _) _)
  have XB : Hid (((w.alloc (.cells #[.int .i64 d, .int .i64 p, .slice D ds.length cd, .slice A os.length ca] 25)).alloc (.cells #[.int .i64 0, .int .i64 0, .slice none 0 0, .slice none 0 0] 25)).heap[w.heap.size + 1]? = some (.cells #[.int .i64 0, .int .i64 0, .slice none 0 0, .slice none 0 0] 25)) := Lib.hid (blk_at _ (by simp))
  have NN : Hid (Below w.heap.size w ((w.alloc (.cells #[.int .i64 d, .int .i64 p, .slice D ds.length cd, .slice A os.length ca] 25)).alloc (.cells #[.int .i64 0, .int .i64 0, .slice none 0 0, .slice none 0 0] 25))) := Lib.hid (Bal (Bal (Below.refl _ _) _) _)
  generalize ((w.alloc (.cells #[.int .i64 d, .int .i64 p, .slice D ds.length cd, .slice A os.length ca] 25)).alloc (.cells #[.int .i64 0, .int .i64 0, .slice none 0 0, .slice none 0 0] 25)) = W0 at *
  have s0 := blk_cell SB.out 0 _ rfl
  have s1 := blk_cell SB.out 1 _ rfl
  have s2 := blk_cell SB.out 2 _ rfl
  have s3 := blk_cell SB.out 3 _ rfl
  have ls := blk_lt SB.out
  go_wp2_with fail
  clear s0 s1 s2 s3 ls
  refine (open_bad d p D A cd ca B ds os _ hnd hcd hna hca (HD.out.next NN.out) (HS.out.next NN.out) HL.out ck).mono ?_
  rintro e w1 ⟨v, u, rfl, ht, hu, hb⟩
  obtain ⟨Av, cv, rfl, hv1, hv2⟩ := ht.form
  obtain ⟨Au, cu, rfl, hu1, hu2⟩ := hu.form
  replace SB := Lib.hid (blk_next hb SB.out)
  replace XB := Lib.hid (blk_next hb XB.out)
  replace NN := Lib.hid (Bgo NN.out hb)
  clear hb
  have ck2 : (chS d p ds os != 0) = true := by rw [bne_iff_ne]; exact ck
  go_upto_region 2 with fail
  have B9 : Below w1.heap.size w1 (w1.alloc (.cells #[.int .i64 noS.1, .int .i64 noS.2.1, .slice Av noS.2.2.1.length cv, .slice Au noS.2.2.2.length cu, .int .i64 0, .int .i64 0] 79)) := Bal (Below.refl _ _) _
  replace SB := Lib.hid (blk_next B9 SB.out)
  replace XB := Lib.hid (blk_next B9 XB.out)
  replace NN := Lib.hid (Bgo NN.out B9)
  clear B9 ht hu
  generalize (w1.alloc (.cells #[.int .i64 noS.1, .int .i64 noS.2.1, .slice Av noS.2.2.1.length cv, .slice Au noS.2.2.2.length cu, .int .i64 0, .int .i64 0] 79)) = W1 at *
  have x0 := blk_cell XB.out 0 _ rfl
  have fx0 := blk_frozen XB.out 0
  have x1 := blk_cell XB.out 1 _ rfl
  have fx1 := blk_frozen XB.out 1
  have x2 := blk_cell XB.out 2 _ rfl
  have fx2 := blk_frozen XB.out 2
  have x3 := blk_cell XB.out 3 _ rfl
  have fx3 := blk_frozen XB.out 3
  have lx := blk_lt XB.out
  go_wp2_with fail
  have Z := blk_set4 XB.out (.int .i64 0) (.int .i64 0) (.slice none 0 0) (.slice none 0 0)
  have e0 := blk_cell Z 0 _ rfl
  have e1 := blk_cell Z 1 _ rfl
  have e2 := blk_cell Z 2 _ rfl
  have e3 := blk_cell Z 3 _ rfl
  exact bodyPost_ret (v := .tuple #[Tv 0 0 (.slice none 0 0) (.slice none 0 0), .int .i64 (chS d p ds os)]) (by simp [results, Try.results27, go_sem, e0, e1, e2, e3]) rfl ⟨_, _, rfl, OT.nil _ _, OO.nil _ _, Bset4 NN.out (by omega) _ _ _ _⟩
 by_cases q0 : x < 0
 ·have t_q0 : decide (x < 0) = true := decide_eq_true q0
  have E := faiE_arg ck (.inl q0)
  have S : faiS d p ds os x = noS := by unfold faiS; rw [E]; exact if_neg (by first | exact ck | decide)
  rw [E, S]
  clear E S
  go_enter Try.func27, Try.ntmps27
  go_upto_region 1 with fail
  have SB : Hid (((w.alloc (.cells #[.int .i64 d, .int .i64 p, .slice D ds.length cd, .slice A os.length ca] 25)).alloc (.cells #[.int .i64 0, .int .i64 0, .slice none 0 0, .slice none 0 0] 25)).heap[w.heap.size]? = some (.cells #[.int .i64 d, .int .i64 p, .slice D ds.length cd, .slice A os.length ca] 25)) := Lib.hid (blk_alloc (blk_new w _) _)
  have XB : Hid (((w.alloc (.cells #[.int .i64 d, .int .i64 p, .slice D ds.length cd, .slice A os.length ca] 25)).alloc (.cells #[.int .i64 0, .int .i64 0, .slice none 0 0, .slice none 0 0] 25)).heap[w.heap.size + 1]? = some (.cells #[.int .i64 0, .int .i64 0, .slice none 0 0, .slice none 0 0] 25)) := Lib.hid (blk_at _ (by simp))
  have NN : Hid (Below w.heap.size w ((w.alloc (.cells #[.int .i64 d, .int .i64 p, .slice D ds.length cd, .slice A os.length ca] 25)).alloc (.cells #[.int .i64 0, .int .i64 0, .slice none 0 0, .slice none 0 0] 25))) := Lib.hid (Bal (Bal (Below.refl _ _) _) _)
  generalize ((w.alloc (.cells #[.int .i64 d, .int .i64 p, .slice D ds.length cd, .slice A os.length ca] 25)).alloc (.cells #[.int .i64 0, .int .i64 0, .slice none 0 0, .slice none 0 0] 25)) = W0 at *
  have s0 := blk_cell SB.out 0 _ rfl
  have s1 := blk_cell SB.out 1 _ rfl
  have s2 := blk_cell SB.out 2 _ rfl
  have s3 := blk_cell SB.out 3 _ rfl
  have ls := blk_lt SB.out
  go_wp2_with fail
  clear s0 s1 s2 s3 ls
  refine (open_ok d p D A cd ca B ds os _ hnd hcd hna hca (HD.out.next NN.out) (HS.out.next NN.out) HL.out ck).mono ?_
  rintro e w1 ⟨v, u, rfl, ht, hu, hb⟩
  have T := Lib.hid (ht.mono NN.out.size)
  have U := Lib.hid (hu.mono NN.out.size)
  clear ht hu
  simp only at T U
  obtain ⟨Av, cv, rfl, hv1, hv2⟩ := T.out.form
  obtain ⟨Au, cu, rfl, hu1, hu2⟩ := U.out.form
  replace SB := Lib.hid (blk_next hb SB.out)
  replace XB := Lib.hid (blk_next hb XB.out)
  replace NN := Lib.hid (Bgo NN.out hb)
  clear hb
  go_upto_region 2 with fail
  have HB : Hid ((w1.alloc (.cells #[.int .i64 d, .int .i64 p, .slice Av ds.length cv, .slice Au os.length cu, .int .i64 (strN os), .int .i64 (faN ds)] 79)).heap[w1.heap.size]? = some (.cells #[.int .i64 d, .int .i64 p, .slice Av ds.length cv, .slice Au os.length cu, .int .i64 (strN os), .int .i64 (faN ds)] 79)) := Lib.hid (blk_new _ _)
  have B9 : Below w1.heap.size w1 (w1.alloc (.cells #[.int .i64 d, .int .i64 p, .slice Av ds.length cv, .slice Au os.length cu, .int .i64 (strN os), .int .i64 (faN ds)] 79)) := Bal (Below.refl _ _) _
  have LX : w.heap.size + 1 < w1.heap.size := blk_lt XB.out
  replace SB := Lib.hid (blk_next B9 SB.out)
  replace XB := Lib.hid (blk_next B9 XB.out)
  replace NN := Lib.hid (Bgo NN.out B9)
  replace T := Lib.hid (T.out.next B9)
  replace U := Lib.hid (U.out.next B9)
  clear B9
  generalize (w1.alloc (.cells #[.int .i64 d, .int .i64 p, .slice Av ds.length cv, .slice Au os.length cu, .int .i64 (strN os), .int .i64 (faN ds)] 79)) = W1 at *
  generalize w1.heap.size = gh at *
  have h0 := blk_cell HB.out 0 _ rfl
  have h1 := blk_cell HB.out 1 _ rfl
  have h2 := blk_cell HB.out 2 _ rfl
  have h3 := blk_cell HB.out 3 _ rfl
  have h4 := blk_cell HB.out 4 _ rfl
  have h5 := blk_cell HB.out 5 _ rfl
  have lh := blk_lt HB.out
  have x0 := blk_cell XB.out 0 _ rfl
  have fx0 := blk_frozen XB.out 0
  have x1 := blk_cell XB.out 1 _ rfl
  have fx1 := blk_frozen XB.out 1
  have x2 := blk_cell XB.out 2 _ rfl
  have fx2 := blk_frozen XB.out 2
  have x3 := blk_cell XB.out 3 _ rfl
  have fx3 := blk_frozen XB.out 3
  have lx := blk_lt XB.out
  go_wp2_with fail
  have Z := blk_set4 XB.out (.int .i64 0) (.int .i64 0) (.slice none 0 0) (.slice none 0 0)
  have e0 := blk_cell Z 0 _ rfl
  have e1 := blk_cell Z 1 _ rfl
  have e2 := blk_cell Z 2 _ rfl
  have e3 := blk_cell Z 3 _ rfl
  exact bodyPost_ret (v := .tuple #[Tv 0 0 (.slice none 0 0) (.slice none 0 0), .int .i64 (2)]) (by simp [results, Try.results27, go_sem, e0, e1, e2, e3]) rfl ⟨_, _, rfl, OT.nil _ _, OO.nil _ _, Bset4 NN.out (by omega) _ _ _ _⟩
 have t_q0 : decide (x < 0) = false := decide_eq_false q0
 by_cases q1 : (ds.length : Int) ≤ x
 ·have t_q1 : decide ((ds.length : Int) ≤ x) = true := decide_eq_true q1
  have E := faiE_arg ck (.inr q1)
  have S : faiS d p ds os x = noS := by unfold faiS; rw [E]; exact if_neg (by first | exact ck | decide)
  rw [E, S]
  clear E S
  go_enter Try.func27, Try.ntmps27
  go_upto_region 1 with fail
  have SB : Hid (((w.alloc (.cells #[.int .i64 d, .int .i64 p, .slice D ds.length cd, .slice A os.length ca] 25)).alloc (.cells #[.int .i64 0, .int .i64 0, .slice none 0 0, .slice none 0 0] 25)).heap[w.heap.size]? = some (.cells #[.int .i64 d, .int .i64 p, .slice D ds.length cd, .slice A os.length ca] 25)) := Lib.hid (blk_alloc (blk_new w _) _)
  have XB : Hid (((w.alloc (.cells #[.int .i64 d, .int .i64 p, .slice D ds.length cd, .slice A os.length ca] 25)).alloc (.cells #[.int .i64 0, .int .i64 0, .slice none 0 0, .slice none 0 0] 25)).heap[w.heap.size + 1]? = some (.cells #[.int .i64 0, .int .i64 0, .slice none 0 0, .slice none 0 0] 25)) := Lib.hid (blk_at _ (by simp))
  have NN : Hid (Below w.heap.size w ((w.alloc (.cells #[.int .i64 d, .int .i64 p, .slice D ds.length cd, .slice A os.length ca] 25)).alloc (.cells #[.int .i64 0, .int .i64 0, .slice none 0 0, .slice none 0 0] 25))) := Lib.hid (Bal (Bal (Below.refl _ _) _) _)
  generalize ((w.alloc (.cells #[.int .i64 d, .int .i64 p, .slice D ds.length cd, .slice A os.length ca] 25)).alloc (.cells #[.int .i64 0, .int .i64 0, .slice none 0 0, .slice none 0 0] 25)) = W0 at *
  have s0 := blk_cell SB.out 0 _ rfl
  have s1 := blk_cell SB.out 1 _ rfl
  have s2 := blk_cell SB.out 2 _ rfl
  have s3 := blk_cell SB.out 3 _ rfl
  have ls := blk_lt SB.out
  go_wp2_with fail
  clear s0 s1 s2 s3 ls
  refine (open_ok d p D A cd ca B ds os _ hnd hcd hna hca (HD.out.next NN.out) (HS.out.next NN.out) HL.out ck).mono ?_
  rintro e w1 ⟨v, u, rfl, ht, hu, hb⟩
  have T := Lib.hid (ht.mono NN.out.size)
  have U := Lib.hid (hu.mono NN.out.size)
  clear ht hu
  simp only at T U
  obtain ⟨Av, cv, rfl, hv1, hv2⟩ := T.out.form
  obtain ⟨Au, cu, rfl, hu1, hu2⟩ := U.out.form
  replace SB := Lib.hid (blk_next hb SB.out)
  replace XB := Lib.hid (blk_next hb XB.out)
  replace NN := Lib.hid (Bgo NN.out hb)
  clear hb
  go_upto_region 2 with fail
  have HB : Hid ((w1.alloc (.cells #[.int .i64 d, .int .i64 p, .slice Av ds.length cv, .slice Au os.length cu, .int .i64 (strN os), .int .i64 (faN ds)] 79)).heap[w1.heap.size]? = some (.cells #[.int .i64 d, .int .i64 p, .slice Av ds.length cv, .slice Au os.length cu, .int .i64 (strN os), .int .i64 (faN ds)] 79)) := Lib.hid (blk_new _ _)
  have B9 : Below w1.heap.size w1 (w1.alloc (.cells #[.int .i64 d, .int .i64 p, .slice Av ds.length cv, .slice Au os.length cu, .int .i64 (strN os), .int .i64 (faN ds)] 79)) := Bal (Below.refl _ _) _
  have LX : w.heap.size + 1 < w1.heap.size := blk_lt XB.out
  replace SB := Lib.hid (blk_next B9 SB.out)
  replace XB := Lib.hid (blk_next B9 XB.out)
  replace NN := Lib.hid (Bgo NN.out B9)
  replace T := Lib.hid (T.out.next B9)
  replace U := Lib.hid (U.out.next B9)
  clear B9
  generalize (w1.alloc (.cells #[.int .i64 d, .int .i64 p, .slice Av ds.length cv, .slice Au os.length cu, .int .i64 (strN os), .int .i64 (faN ds)] 79)) = W1 at *
  generalize w1.heap.size = gh at *
  have h0 := blk_cell HB.out 0 _ rfl
  have h1 := blk_cell HB.out 1 _ rfl
  have h2 := blk_cell HB.out 2 _ rfl
  have h3 := blk_cell HB.out 3 _ rfl
  have h4 := blk_cell HB.out 4 _ rfl
  have h5 := blk_cell HB.out 5 _ rfl
  have lh := blk_lt HB.out
  have x0 := blk_cell XB.out 0 _ rfl
  have fx0 := blk_frozen XB.out 0
  have x1 := blk_cell XB.out 1 _ rfl
  have fx1 := blk_frozen XB.out 1
  have x2 := blk_cell XB.out 2 _ rfl
  have fx2 := blk_frozen XB.out 2
  have x3 := blk_cell XB.out 3 _ rfl
  have fx3 := blk_frozen XB.out 3
  have lx := blk_lt XB.out
  go_wp2_with fail
  have Z := blk_set4 XB.out (.int .i64 0) (.int .i64 0) (.slice none 0 0) (.slice none 0 0)
  have e0 := blk_cell Z 0 _ rfl
  have e1 := blk_cell Z 1 _ rfl
  have e2 := blk_cell Z 2 _ rfl
  have e3 := blk_cell Z 3 _ rfl
  exact bodyPost_ret (v := .tuple #[Tv 0 0 (.slice none 0 0) (.slice none 0 0), .int .i64 (2)]) (by simp [results, Try.results27, go_sem, e0, e1, e2, e3]) rfl ⟨_, _, rfl, OT.nil _ _, OO.nil _ _, Bset4 NN.out (by omega) _ _ _ _⟩
 have t_q1 : decide ((ds.length : Int) ≤ x) = false := decide_eq_false q1
 obtain ⟨n, rfl⟩ : ∃ n : Nat, x = (n : Int) := ⟨x.toNat, by omega⟩
 have hn : n < ds.length := by omega
 obtain ⟨k, hk⟩ := get_some hn
 have HK := Lib.hid hk
 have E1 := faiE_at (os := os) ck hk
 have OK := Lib.hid (chS_ok ck)
 have n20 : ds.length ≤ 12 := by have := OK.out.len; have := OK.out.d8; have := OK.out.p4; omega
 have FB := faN_le ds
 have q01 : (0 : Int) ≤ (n : Int) := by omega
 have q02 : (n : Int) < (ds.length : Int) := by omega
 clear hk q0 q1
 by_cases hf : k.failed = true
 ·rw [if_pos hf] at E1
  have S : faiS d p ds os (n : Int) = noS := by unfold faiS; rw [E1]; exact if_neg (by decide)
  rw [E1, S]
  clear E1 S
  go_enter Try.func27, Try.ntmps27
  go_upto_region 1 with fail
  have SB : Hid (((w.alloc (.cells #[.int .i64 d, .int .i64 p, .slice D ds.length cd, .slice A os.length ca] 25)).alloc (.cells #[.int .i64 0, .int .i64 0, .slice none 0 0, .slice none 0 0] 25)).heap[w.heap.size]? = some (.cells #[.int .i64 d, .int .i64 p, .slice D ds.length cd, .slice A os.length ca] 25)) := Lib.hid (blk_alloc (blk_new w _) _)
  have XB : Hid (((w.alloc (.cells #[.int .i64 d, .int .i64 p, .slice D ds.length cd, .slice A os.length ca] 25)).alloc (.cells #[.int .i64 0, .int .i64 0, .slice none 0 0, .slice none 0 0] 25)).heap[w.heap.size + 1]? = some (.cells #[.int .i64 0, .int .i64 0, .slice none 0 0, .slice none 0 0] 25)) := Lib.hid (blk_at _ (by simp))
  have NN : Hid (Below w.heap.size w ((w.alloc (.cells #[.int .i64 d, .int .i64 p, .slice D ds.length cd, .slice A os.length ca] 25)).alloc (.cells #[.int .i64 0, .int .i64 0, .slice none 0 0, .slice none 0 0] 25))) := Lib.hid (Bal (Bal (Below.refl _ _) _) _)
  generalize ((w.alloc (.cells #[.int .i64 d, .int .i64 p, .slice D ds.length cd, .slice A os.length ca] 25)).alloc (.cells #[.int .i64 0, .int .i64 0, .slice none 0 0, .slice none 0 0] 25)) = W0 at *
  have s0 := blk_cell SB.out 0 _ rfl
  have s1 := blk_cell SB.out 1 _ rfl
  have s2 := blk_cell SB.out 2 _ rfl
  have s3 := blk_cell SB.out 3 _ rfl
  have ls := blk_lt SB.out
  go_wp2_with fail
  clear s0 s1 s2 s3 ls
  refine (open_ok d p D A cd ca B ds os _ hnd hcd hna hca (HD.out.next NN.out) (HS.out.next NN.out) HL.out ck).mono ?_
  rintro e w1 ⟨v, u, rfl, ht, hu, hb⟩
  have T := Lib.hid (ht.mono NN.out.size)
  have U := Lib.hid (hu.mono NN.out.size)
  clear ht hu
  simp only at T U
  obtain ⟨Av, cv, rfl, hv1, hv2⟩ := T.out.form
  obtain ⟨Au, cu, rfl, hu1, hu2⟩ := U.out.form
  replace SB := Lib.hid (blk_next hb SB.out)
  replace XB := Lib.hid (blk_next hb XB.out)
  replace NN := Lib.hid (Bgo NN.out hb)
  clear hb
  go_upto_region 2 with fail
  have HB : Hid ((w1.alloc (.cells #[.int .i64 d, .int .i64 p, .slice Av ds.length cv, .slice Au os.length cu, .int .i64 (strN os), .int .i64 (faN ds)] 79)).heap[w1.heap.size]? = some (.cells #[.int .i64 d, .int .i64 p, .slice Av ds.length cv, .slice Au os.length cu, .int .i64 (strN os), .int .i64 (faN ds)] 79)) := Lib.hid (blk_new _ _)
  have B9 : Below w1.heap.size w1 (w1.alloc (.cells #[.int .i64 d, .int .i64 p, .slice Av ds.length cv, .slice Au os.length cu, .int .i64 (strN os), .int .i64 (faN ds)] 79)) := Bal (Below.refl _ _) _
  have LX : w.heap.size + 1 < w1.heap.size := blk_lt XB.out
  replace SB := Lib.hid (blk_next B9 SB.out)
  replace XB := Lib.hid (blk_next B9 XB.out)
  replace NN := Lib.hid (Bgo NN.out B9)
  replace T := Lib.hid (T.out.next B9)
  replace U := Lib.hid (U.out.next B9)
  clear B9
  generalize (w1.alloc (.cells #[.int .i64 d, .int .i64 p, .slice Av ds.length cv, .slice Au os.length cu, .int .i64 (strN os), .int .i64 (faN ds)] 79)) = W1 at *
  generalize w1.heap.size = gh at *
  obtain ⟨g, hs, us, rfl, O, hg, hgB⟩ := T.out.some_ (by omega)
  have HO := Lib.hid O
  clear O
  obtain ⟨y, hy⟩ := get_some (show n < hs.length by rw [HO.out.lenH]; exact hn)
  have c0 : W1.cell? ⟨g, n * 2, none⟩ = some (.bool k.failed) := (HO.out.top.cellAt _ (by omega)).trans (flatD_get HK.out hy).1
  have c1 : W1.cell? ⟨g, n * 2 + 1, none⟩ = some y := (HO.out.top.cellAt _ (by omega)).trans (flatD_get HK.out hy).2
  have fc0 : W1.frozen? ⟨g, n * 2, none⟩ = false := HO.out.top.frozenAt _
  have fc1 : W1.frozen? ⟨g, n * 2 + 1, none⟩ = false := HO.out.top.frozenAt _
  clear hy
  rw [hf] at c0
  replace HB : Hid (W1.heap[gh]? = some (.cells #[.int .i64 d, .int .i64 p, .slice (some ⟨g, 0, none⟩) ds.length cv, .slice Au os.length cu, .int .i64 (strN os), .int .i64 (faN ds)] 79)) := HB
  have h0 := blk_cell HB.out 0 _ rfl
  have h1 := blk_cell HB.out 1 _ rfl
  have h2 := blk_cell HB.out 2 _ rfl
  have h3 := blk_cell HB.out 3 _ rfl
  have h4 := blk_cell HB.out 4 _ rfl
  have h5 := blk_cell HB.out 5 _ rfl
  have lh := blk_lt HB.out
  have x0 := blk_cell XB.out 0 _ rfl
  have fx0 := blk_frozen XB.out 0
  have x1 := blk_cell XB.out 1 _ rfl
  have fx1 := blk_frozen XB.out 1
  have x2 := blk_cell XB.out 2 _ rfl
  have fx2 := blk_frozen XB.out 2
  have x3 := blk_cell XB.out 3 _ rfl
  have fx3 := blk_frozen XB.out 3
  have lx := blk_lt XB.out
  go_wp2_with fail
  have Z := blk_set4 XB.out (.int .i64 0) (.int .i64 0) (.slice none 0 0) (.slice none 0 0)
  have e0 := blk_cell Z 0 _ rfl
  have e1 := blk_cell Z 1 _ rfl
  have e2 := blk_cell Z 2 _ rfl
  have e3 := blk_cell Z 3 _ rfl
  exact bodyPost_ret (v := .tuple #[Tv 0 0 (.slice none 0 0) (.slice none 0 0), .int .i64 (36)]) (by simp [results, Try.results27, go_sem, e0, e1, e2, e3]) rfl ⟨_, _, rfl, OT.nil _ _, OO.nil _ _, Bset4 NN.out (by omega) _ _ _ _⟩
 have hf' : k.failed = false := by simpa using hf
 rw [if_neg hf] at E1
 by_cases h1 : 0 < strN os
 ·have t1 : decide (0 < strN os) = true := decide_eq_true h1
  by_cases h2 : faN ds + 1 = ds.length
  ·have t2 : ((faN ds : Int) + 1 == (ds.length : Int)) = true := by rw [beq_iff_eq]; omega
   rw [if_pos ⟨h1, h2⟩] at E1
   have S : faiS d p ds os (n : Int) = noS := by unfold faiS; rw [E1]; exact if_neg (by decide)
   rw [E1, S]
   clear E1 S
   go_enter Try.func27, Try.ntmps27
   go_upto_region 1 with fail
   have SB : Hid (((w.alloc (.cells #[.int .i64 d, .int .i64 p, .slice D ds.length cd, .slice A os.length ca] 25)).alloc (.cells #[.int .i64 0, .int .i64 0, .slice none 0 0, .slice none 0 0] 25)).heap[w.heap.size]? = some (.cells #[.int .i64 d, .int .i64 p, .slice D ds.length cd, .slice A os.length ca] 25)) := Lib.hid (blk_alloc (blk_new w _) _)
   have XB : Hid (((w.alloc (.cells #[.int .i64 d, .int .i64 p, .slice D ds.length cd, .slice A os.length ca] 25)).alloc (.cells #[.int .i64 0, .int .i64 0, .slice none 0 0, .slice none 0 0] 25)).heap[w.heap.size + 1]? = some (.cells #[.int .i64 0, .int .i64 0, .slice none 0 0, .slice none 0 0] 25)) := Lib.hid (blk_at _ (by simp))
   have NN : Hid (Below w.heap.size w ((w.alloc (.cells #[.int .i64 d, .int .i64 p, .slice D ds.length cd, .slice A os.length ca] 25)).alloc (.cells #[.int .i64 0, .int .i64 0, .slice none 0 0, .slice none 0 0] 25))) := Lib.hid (Bal (Bal (Below.refl _ _) _) _)
   generalize ((w.alloc (.cells #[.int .i64 d, .int .i64 p, .slice D ds.length cd, .slice A os.length ca] 25)).alloc (.cells #[.int .i64 0, .int .i64 0, .slice none 0 0, .slice none 0 0] 25)) = W0 at *
   have s0 := blk_cell SB.out 0 _ rfl
   have s1 := blk_cell SB.out 1 _ rfl
   have s2 := blk_cell SB.out 2 _ rfl
   have s3 := blk_cell SB.out 3 _ rfl
   have ls := blk_lt SB.out
   go_wp2_with fail
   clear s0 s1 s2 s3 ls
   refine (open_ok d p D A cd ca B ds os _ hnd hcd hna hca (HD.out.next NN.out) (HS.out.next NN.out) HL.out ck).mono ?_
   rintro e w1 ⟨v, u, rfl, ht, hu, hb⟩
   have T := Lib.hid (ht.mono NN.out.size)
   have U := Lib.hid (hu.mono NN.out.size)
   clear ht hu
   simp only at T U
   obtain ⟨Av, cv, rfl, hv1, hv2⟩ := T.out.form
   obtain ⟨Au, cu, rfl, hu1, hu2⟩ := U.out.form
   replace SB := Lib.hid (blk_next hb SB.out)
   replace XB := Lib.hid (blk_next hb XB.out)
   replace NN := Lib.hid (Bgo NN.out hb)
   clear hb
   go_upto_region 2 with fail
   have HB : Hid ((w1.alloc (.cells #[.int .i64 d, .int .i64 p, .slice Av ds.length cv, .slice Au os.length cu, .int .i64 (strN os), .int .i64 (faN ds)] 79)).heap[w1.heap.size]? = some (.cells #[.int .i64 d, .int .i64 p, .slice Av ds.length cv, .slice Au os.length cu, .int .i64 (strN os), .int .i64 (faN ds)] 79)) := Lib.hid (blk_new _ _)
   have B9 : Below w1.heap.size w1 (w1.alloc (.cells #[.int .i64 d, .int .i64 p, .slice Av ds.length cv, .slice Au os.length cu, .int .i64 (strN os), .int .i64 (faN ds)] 79)) := Bal (Below.refl _ _) _
   have LX : w.heap.size + 1 < w1.heap.size := blk_lt XB.out
   replace SB := Lib.hid (blk_next B9 SB.out)
   replace XB := Lib.hid (blk_next B9 XB.out)
   replace NN := Lib.hid (Bgo NN.out B9)
   replace T := Lib.hid (T.out.next B9)
   replace U := Lib.hid (U.out.next B9)
   clear B9
   generalize (w1.alloc (.cells #[.int .i64 d, .int .i64 p, .slice Av ds.length cv, .slice Au os.length cu, .int .i64 (strN os), .int .i64 (faN ds)] 79)) = W1 at *
   generalize w1.heap.size = gh at *
   obtain ⟨g, hs, us, rfl, O, hg, hgB⟩ := T.out.some_ (by omega)
   have HO := Lib.hid O
   clear O
   obtain ⟨y, hy⟩ := get_some (show n < hs.length by rw [HO.out.lenH]; exact hn)
   have c0 : W1.cell? ⟨g, n * 2, none⟩ = some (.bool k.failed) := (HO.out.top.cellAt _ (by omega)).trans (flatD_get HK.out hy).1
   have c1 : W1.cell? ⟨g, n * 2 + 1, none⟩ = some y := (HO.out.top.cellAt _ (by omega)).trans (flatD_get HK.out hy).2
   have fc0 : W1.frozen? ⟨g, n * 2, none⟩ = false := HO.out.top.frozenAt _
   have fc1 : W1.frozen? ⟨g, n * 2 + 1, none⟩ = false := HO.out.top.frozenAt _
   clear hy
   rw [hf'] at c0
   have h0 := blk_cell HB.out 0 _ rfl
   have h1 := blk_cell HB.out 1 _ rfl
   have h2 := blk_cell HB.out 2 _ rfl
   have h3 := blk_cell HB.out 3 _ rfl
   have h4 := blk_cell HB.out 4 _ rfl
   have h5 := blk_cell HB.out 5 _ rfl
   have lh := blk_lt HB.out
   have x0 := blk_cell XB.out 0 _ rfl
   have fx0 := blk_frozen XB.out 0
   have x1 := blk_cell XB.out 1 _ rfl
   have fx1 := blk_frozen XB.out 1
   have x2 := blk_cell XB.out 2 _ rfl
   have fx2 := blk_frozen XB.out 2
   have x3 := blk_cell XB.out 3 _ rfl
   have fx3 := blk_frozen XB.out 3
   have lx := blk_lt XB.out
   go_wp2_with fail
   have Z := blk_set4 XB.out (.int .i64 0) (.int .i64 0) (.slice none 0 0) (.slice none 0 0)
   have e0 := blk_cell Z 0 _ rfl
   have e1 := blk_cell Z 1 _ rfl
   have e2 := blk_cell Z 2 _ rfl
   have e3 := blk_cell Z 3 _ rfl
   exact bodyPost_ret (v := .tuple #[Tv 0 0 (.slice none 0 0) (.slice none 0 0), .int .i64 (32)]) (by simp [results, Try.results27, go_sem, e0, e1, e2, e3]) rfl ⟨_, _, rfl, OT.nil _ _, OO.nil _ _, Bset4 NN.out (by omega) _ _ _ _⟩
  have t2 : ((faN ds : Int) + 1 == (ds.length : Int)) = false := by rw [beq_eq_false_iff_ne]; omega
  rw [if_neg (fun h => h2 h.2)] at E1
  have S : faiS d p ds os (n : Int) = (d, p, ds.set n ⟨true, []⟩, os) := by unfold faiS; rw [E1, if_pos rfl, Int.toNat_natCast]
  rw [E1, S]
  clear E1 S
  go_enter Try.func27, Try.ntmps27
  go_upto_region 1 with fail
  have SB : Hid (((w.alloc (.cells #[.int .i64 d, .int .i64 p, .slice D ds.length cd, .slice A os.length ca] 25)).alloc (.cells #[.int .i64 0, .int .i64 0, .slice none 0 0, .slice none 0 0] 25)).heap[w.heap.size]? = some (.cells #[.int .i64 d, .int .i64 p, .slice D ds.length cd, .slice A os.length ca] 25)) := Lib.hid (blk_alloc (blk_new w _) _)
  have XB : Hid (((w.alloc (.cells #[.int .i64 d, .int .i64 p, .slice D ds.length cd, .slice A os.length ca] 25)).alloc (.cells #[.int .i64 0, .int .i64 0, .slice none 0 0, .slice none 0 0] 25)).heap[w.heap.size + 1]? = some (.cells #[.int .i64 0, .int .i64 0, .slice none 0 0, .slice none 0 0] 25)) := Lib.hid (blk_at _ (by simp))
  have NN : Hid (Below w.heap.size w ((w.alloc (.cells #[.int .i64 d, .int .i64 p, .slice D ds.length cd, .slice A os.length ca] 25)).alloc (.cells #[.int .i64 0, .int .i64 0, .slice none 0 0, .slice none 0 0] 25))) := Lib.hid (Bal (Bal (Below.refl _ _) _) _)
  generalize ((w.alloc (.cells #[.int .i64 d, .int .i64 p, .slice D ds.length cd, .slice A os.length ca] 25)).alloc (.cells #[.int .i64 0, .int .i64 0, .slice none 0 0, .slice none 0 0] 25)) = W0 at *
  have s0 := blk_cell SB.out 0 _ rfl
  have s1 := blk_cell SB.out 1 _ rfl
  have s2 := blk_cell SB.out 2 _ rfl
  have s3 := blk_cell SB.out 3 _ rfl
  have ls := blk_lt SB.out
  go_wp2_with fail
  clear s0 s1 s2 s3 ls
  refine (open_ok d p D A cd ca B ds os _ hnd hcd hna hca (HD.out.next NN.out) (HS.out.next NN.out) HL.out ck).mono ?_
  rintro e w1 ⟨v, u, rfl, ht, hu, hb⟩
  have T := Lib.hid (ht.mono NN.out.size)
  have U := Lib.hid (hu.mono NN.out.size)
  clear ht hu
  simp only at T U
  obtain ⟨Av, cv, rfl, hv1, hv2⟩ := T.out.form
  obtain ⟨Au, cu, rfl, hu1, hu2⟩ := U.out.form
  replace SB := Lib.hid (blk_next hb SB.out)
  replace XB := Lib.hid (blk_next hb XB.out)
  replace NN := Lib.hid (Bgo NN.out hb)
  clear hb
  go_upto_region 2 with fail
  have HB : Hid ((w1.alloc (.cells #[.int .i64 d, .int .i64 p, .slice Av ds.length cv, .slice Au os.length cu, .int .i64 (strN os), .int .i64 (faN ds)] 79)).heap[w1.heap.size]? = some (.cells #[.int .i64 d, .int .i64 p, .slice Av ds.length cv, .slice Au os.length cu, .int .i64 (strN os), .int .i64 (faN ds)] 79)) := Lib.hid (blk_new _ _)
  have B9 : Below w1.heap.size w1 (w1.alloc (.cells #[.int .i64 d, .int .i64 p, .slice Av ds.length cv, .slice Au os.length cu, .int .i64 (strN os), .int .i64 (faN ds)] 79)) := Bal (Below.refl _ _) _
  have LX : w.heap.size + 1 < w1.heap.size := blk_lt XB.out
  replace SB := Lib.hid (blk_next B9 SB.out)
  replace XB := Lib.hid (blk_next B9 XB.out)
  replace NN := Lib.hid (Bgo NN.out B9)
  replace T := Lib.hid (T.out.next B9)
  replace U := Lib.hid (U.out.next B9)
  clear B9
  generalize (w1.alloc (.cells #[.int .i64 d, .int .i64 p, .slice Av ds.length cv, .slice Au os.length cu, .int .i64 (strN os), .int .i64 (faN ds)] 79)) = W1 at *
  generalize w1.heap.size = gh at *
  obtain ⟨g, hs, us, rfl, O, hg, hgB⟩ := T.out.some_ (by omega)
  have HO := Lib.hid O
  clear O
  obtain ⟨y, hy⟩ := get_some (show n < hs.length by rw [HO.out.lenH]; exact hn)
  have c0 : W1.cell? ⟨g, n * 2, none⟩ = some (.bool k.failed) := (HO.out.top.cellAt _ (by omega)).trans (flatD_get HK.out hy).1
  have c1 : W1.cell? ⟨g, n * 2 + 1, none⟩ = some y := (HO.out.top.cellAt _ (by omega)).trans (flatD_get HK.out hy).2
  have fc0 : W1.frozen? ⟨g, n * 2, none⟩ = false := HO.out.top.frozenAt _
  have fc1 : W1.frozen? ⟨g, n * 2 + 1, none⟩ = false := HO.out.top.frozenAt _
  clear hy
  rw [hf'] at c0
  have h0 := blk_cell HB.out 0 _ rfl
  have h1 := blk_cell HB.out 1 _ rfl
  have h2 := blk_cell HB.out 2 _ rfl
  have h3 := blk_cell HB.out 3 _ rfl
  have h4 := blk_cell HB.out 4 _ rfl
  have h5 := blk_cell HB.out 5 _ rfl
  have lh := blk_lt HB.out
  have x0 := blk_cell XB.out 0 _ rfl
  have fx0 := blk_frozen XB.out 0
  have x1 := blk_cell XB.out 1 _ rfl
  have fx1 := blk_frozen XB.out 1
  have x2 := blk_cell XB.out 2 _ rfl
  have fx2 := blk_frozen XB.out 2
  have x3 := blk_cell XB.out 3 _ rfl
  have fx3 := blk_frozen XB.out 3
  have lx := blk_lt XB.out
  have hne1 : g ≠ gh := fun e => own_ne HO.out.top HB.out ne_dk_she (by rw [e]; rfl)
  have hne2 : g ≠ w.heap.size + 1 := fun e => own_ne HO.out.top XB.out ne_dk_sto (by rw [e]; rfl)
  go_wp2_with fail
  have P1 := OS.set (i := n) (d := ⟨true, []⟩) HO.out (Below.refl _ _) (OMx.nil _ _) (by have := NN.out.size; omega)
  have XY := dk_other (i := n) (x := .bool true) (y := .slice none 0 0) XB.out HO.out.top ne_dk_sto
  have UY := OO.dk (i := n) (x := .bool true) (y := .slice none 0 0) U.out HO.out.top
  have NY := Bset1 (Bset1 NN.out hgB (n * 2) (.bool true)) hgB (n * 2 + 1) (.slice none 0 0)
  have Z := blk_set4 XY (.int .i64 d) (.int .i64 p) (.slice (some ⟨g, 0, none⟩) ds.length cv) (.slice Au os.length cu)
  have e0 := blk_cell Z 0 _ rfl
  have e1 := blk_cell Z 1 _ rfl
  have e2 := blk_cell Z 2 _ rfl
  have e3 := blk_cell Z 3 _ rfl
  exact bodyPost_ret (v := .tuple #[Tv d p (.slice (some ⟨g, 0, none⟩) ds.length cv) (.slice Au os.length cu), .int .i64 0]) (by simp [results, Try.results27, go_sem, e0, e1, e2, e3]) rfl ⟨_, _, rfl, OT.set4_ ⟨_, _, P1⟩ XY _ _ _ _, OO.set4_ UY XY _ _ _ _, Bset4 NY (by omega) _ _ _ _⟩
 have t1 : decide (0 < strN os) = false := decide_eq_false h1
 rw [if_neg (fun h => h1 h.1)] at E1
 have S : faiS d p ds os (n : Int) = (d, p, ds.set n ⟨true, []⟩, os) := by unfold faiS; rw [E1, if_pos rfl, Int.toNat_natCast]
 rw [E1, S]
 clear E1 S
 go_enter Try.func27, Try.ntmps27
 go_upto_region 1 with fail
 have SB : Hid (((w.alloc (.cells #[.int .i64 d, .int .i64 p, .slice D ds.length cd, .slice A os.length ca] 25)).alloc (.cells #[.int .i64 0, .int .i64 0, .slice none 0 0, .slice none 0 0] 25)).heap[w.heap.size]? = some (.cells #[.int .i64 d, .int .i64 p, .slice D ds.length cd, .slice A os.length ca] 25)) := Lib.hid (blk_alloc (blk_new w _) _)
 have XB : Hid (((w.alloc (.cells #[.int .i64 d, .int .i64 p, .slice D ds.length cd, .slice A os.length ca] 25)).alloc (.cells #[.int .i64 0, .int .i64 0, .slice none 0 0, .slice none 0 0] 25)).heap[w.heap.size + 1]? = some (.cells #[.int .i64 0, .int .i64 0, .slice none 0 0, .slice none 0 0] 25)) := Lib.hid (blk_at _ (by simp))
 have NN : Hid (Below w.heap.size w ((w.alloc (.cells #[.int .i64 d, .int .i64 p, .slice D ds.length cd, .slice A os.length ca] 25)).alloc (.cells #[.int .i64 0, .int .i64 0, .slice none 0 0, .slice none 0 0] 25))) := Lib.hid (Bal (Bal (Below.refl _ _) _) _)
 generalize ((w.alloc (.cells #[.int .i64 d, .int .i64 p, .slice D ds.length cd, .slice A os.length ca] 25)).alloc (.cells #[.int .i64 0, .int .i64 0, .slice none 0 0, .slice none 0 0] 25)) = W0 at *
 have s0 := blk_cell SB.out 0 _ rfl
 have s1 := blk_cell SB.out 1 _ rfl
 have s2 := blk_cell SB.out 2 _ rfl
 have s3 := blk_cell SB.out 3 _ rfl
 have ls := blk_lt SB.out
 go_wp2_with fail
 clear s0 s1 s2 s3 ls
 refine (open_ok d p D A cd ca B ds os _ hnd hcd hna hca (HD.out.next NN.out) (HS.out.next NN.out) HL.out ck).mono ?_
 rintro e w1 ⟨v, u, rfl, ht, hu, hb⟩
 have T := Lib.hid (ht.mono NN.out.size)
 have U := Lib.hid (hu.mono NN.out.size)
 clear ht hu
 simp only at T U
 obtain ⟨Av, cv, rfl, hv1, hv2⟩ := T.out.form
 obtain ⟨Au, cu, rfl, hu1, hu2⟩ := U.out.form
 replace SB := Lib.hid (blk_next hb SB.out)
 replace XB := Lib.hid (blk_next hb XB.out)
 replace NN := Lib.hid (Bgo NN.out hb)
 clear hb
 go_upto_region 2 with fail
 have HB : Hid ((w1.alloc (.cells #[.int .i64 d, .int .i64 p, .slice Av ds.length cv, .slice Au os.length cu, .int .i64 (strN os), .int .i64 (faN ds)] 79)).heap[w1.heap.size]? = some (.cells #[.int .i64 d, .int .i64 p, .slice Av ds.length cv, .slice Au os.length cu, .int .i64 (strN os), .int .i64 (faN ds)] 79)) := Lib.hid (blk_new _ _)
 have B9 : Below w1.heap.size w1 (w1.alloc (.cells #[.int .i64 d, .int .i64 p, .slice Av ds.length cv, .slice Au os.length cu, .int .i64 (strN os), .int .i64 (faN ds)] 79)) := Bal (Below.refl _ _) _
 have LX : w.heap.size + 1 < w1.heap.size := blk_lt XB.out
 replace SB := Lib.hid (blk_next B9 SB.out)
 replace XB := Lib.hid (blk_next B9 XB.out)
 replace NN := Lib.hid (Bgo NN.out B9)
 replace T := Lib.hid (T.out.next B9)
 replace U := Lib.hid (U.out.next B9)
 clear B9
 generalize (w1.alloc (.cells #[.int .i64 d, .int .i64 p, .slice Av ds.length cv, .slice Au os.length cu, .int .i64 (strN os), .int .i64 (faN ds)] 79)) = W1 at *
 generalize w1.heap.size = gh at *
 obtain ⟨g, hs, us, rfl, O, hg, hgB⟩ := T.out.some_ (by omega)
 have HO := Lib.hid O
 clear O
 obtain ⟨y, hy⟩ := get_some (show n < hs.length by rw [HO.out.lenH]; exact hn)
 have c0 : W1.cell? ⟨g, n * 2, none⟩ = some (.bool k.failed) := (HO.out.top.cellAt _ (by omega)).trans (flatD_get HK.out hy).1
 have c1 : W1.cell? ⟨g, n * 2 + 1, none⟩ = some y := (HO.out.top.cellAt _ (by omega)).trans (flatD_get HK.out hy).2
 have fc0 : W1.frozen? ⟨g, n * 2, none⟩ = false := HO.out.top.frozenAt _
 have fc1 : W1.frozen? ⟨g, n * 2 + 1, none⟩ = false := HO.out.top.frozenAt _
 clear hy
 rw [hf'] at c0
 have h0 := blk_cell HB.out 0 _ rfl
 have h1 := blk_cell HB.out 1 _ rfl
 have h2 := blk_cell HB.out 2 _ rfl
 have h3 := blk_cell HB.out 3 _ rfl
 have h4 := blk_cell HB.out 4 _ rfl
 have h5 := blk_cell HB.out 5 _ rfl
 have lh := blk_lt HB.out
 have x0 := blk_cell XB.out 0 _ rfl
 have fx0 := blk_frozen XB.out 0
 have x1 := blk_cell XB.out 1 _ rfl
 have fx1 := blk_frozen XB.out 1
 have x2 := blk_cell XB.out 2 _ rfl
 have fx2 := blk_frozen XB.out 2
 have x3 := blk_cell XB.out 3 _ rfl
 have fx3 := blk_frozen XB.out 3
 have lx := blk_lt XB.out
 have hne1 : g ≠ gh := fun e => own_ne HO.out.top HB.out ne_dk_she (by rw [e]; rfl)
 have hne2 : g ≠ w.heap.size + 1 := fun e => own_ne HO.out.top XB.out ne_dk_sto (by rw [e]; rfl)
 go_wp2_with fail
 have P1 := OS.set (i := n) (d := ⟨true, []⟩) HO.out (Below.refl _ _) (OMx.nil _ _) (by have := NN.out.size; omega)
 have XY := dk_other (i := n) (x := .bool true) (y := .slice none 0 0) XB.out HO.out.top ne_dk_sto
 have UY := OO.dk (i := n) (x := .bool true) (y := .slice none 0 0) U.out HO.out.top
 have NY := Bset1 (Bset1 NN.out hgB (n * 2) (.bool true)) hgB (n * 2 + 1) (.slice none 0 0)
 have Z := blk_set4 XY (.int .i64 d) (.int .i64 p) (.slice (some ⟨g, 0, none⟩) ds.length cv) (.slice Au os.length cu)
 have e0 := blk_cell Z 0 _ rfl
 have e1 := blk_cell Z 1 _ rfl
 have e2 := blk_cell Z 2 _ rfl
 have e3 := blk_cell Z 3 _ rfl
 exact bodyPost_ret (v := .tuple #[Tv d p (.slice (some ⟨g, 0, none⟩) ds.length cv) (.slice Au os.length cu), .int .i64 0]) (by simp [results, Try.results27, go_sem, e0, e1, e2, e3]) rfl ⟨_, _, rfl, OT.set4_ ⟨_, _, P1⟩ XY _ _ _ _, OO.set4_ UY XY _ _ _ _, Bset4 NY (by omega) _ _ _ _⟩
end Go.Proofs.Ytapehckcmmompaa
