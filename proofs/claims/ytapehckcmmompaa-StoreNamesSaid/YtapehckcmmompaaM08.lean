/- Several texts in one. -/
import Derived.Test.YtapehckcmmompaaM07
namespace Go.Proofs.Ytapehckcmmompaa
open Go.ChangeShapes Go.WideShapes Go.ChangeAt Go.RowKit
set_option linter.unusedVariables false
set_option maxRecDepth 100000
attribute [local go_sem ↓] Go.wp_at_zero Go.wp_at_succ
def oneO (d : Int) (os : List Ob) (k : Nat) (o : Ob) : Bool := objB d (strN (os.take k)) o && (findL (os.take k) o.name.toList == -1)
def desB (d : Int) (os : List Ob) : Bool := (List.range os.length).all fun k => match os[k]? with | some o => oneO d os k o | none => true
theorem desB_bad {d : Int} {os : List Ob} {k : Nat} {o : Ob} (h : os[k]? = some o) (hb : oneO d os k o = false) : desB d os = false := by
 unfold desB
 rw [List.all_eq_false]
 exact ⟨k, List.mem_range.2 (get_lt h), by rw [h]; simp [hb]⟩
theorem desB_iff {d : Int} {os : List Ob} : desB d os = true ↔ ∀ (k : Nat) (o : Ob), os[k]? = some o → oneO d os k o = true := by
 unfold desB
 rw [List.all_eq_true]
 constructor
 ·intro h k o ho
  have := h k (List.mem_range.2 (get_lt ho))
  rw [ho] at this
  exact this
 ·intro h k hk
  cases ho : os[k]? with
  | none => rfl
  | some o => exact h k o ho
theorem nmE_self (o : Ob) : nmE o o.name.toList = true := by simp [nmE]
theorem findL_some {os : List Ob} {l : List UInt8} {j : Nat} {o : Ob} (h : os[j]? = some o) (hn : nmE o l = true) : ∃ k, k ≤ j ∧ findL os l = (k : Int) := by
 unfold findL
 cases hf : os.findIdx? (fun o => nmE o l) with
 | none =>
  rw [List.findIdx?_eq_none_iff] at hf
  rw [hf o (List.mem_of_getElem? h)] at hn
  cases hn
 | some k =>
  refine ⟨k, ?_, rfl⟩
  rw [List.findIdx?_eq_some_iff_getElem] at hf
  obtain ⟨h1, h2, h3⟩ := hf
  refine Nat.not_lt.1 fun hlt => ?_
  have := h3 j hlt
  rw [(List.getElem?_eq_some_iff.1 h).2] at this
  exact this hn
theorem findL_take {os : List Ob} {k : Nat} {o : Ob} (h : os[k]? = some o) : findL os o.name.toList = k ↔ findL (os.take k) o.name.toList = -1 := by
 constructor
 ·intro hf
  refine findL_none fun j o' hj => ?_
  cases hn : nmE o' o.name.toList with
  | false => rfl
  | true =>
   have hj' : j < k := by have := get_lt hj; rw [List.length_take] at this; omega
   have : os[j]? = some o' := by rw [← hj, List.getElem?_take, if_pos hj']
   obtain ⟨i, hi, e⟩ := findL_some this hn
   omega
 ·intro hf
  refine findL_at h (nmE_self o) fun j o' hj ho => ?_
  cases hn : nmE o' o.name.toList with
  | false => rfl
  | true =>
   have : (os.take k)[j]? = some o' := by rw [List.getElem?_take, if_pos hj]; exact ho
   obtain ⟨i, _, e⟩ := findL_some this hn
   omega
theorem obj_many {d f : Int} {o : Ob} (h1 : 1 ≤ d) (h8 : d ≤ 8) (h : objB d f o = true) : 0 ≤ o.many ∧ o.many ≤ 38 := by
 unfold objB at h
 simp only [Bool.and_eq_true, decide_eq_true_eq, beq_iff_eq] at h
 rw [h.2.2.2.1]
 exact ned_bd h.2.1 (by omega) h1 h8
theorem calls_below {P : Program} {f : FuncId} {args : Array Value} {v : Value} {W : World} (h : Calls P f args W fun e w' => e = .returned v ∧ W = w') : Calls P f args W fun e w' => e = .returned v ∧ Below W.heap.size W w' :=
 h.mono fun e w' ⟨h1, h2⟩ => ⟨h1, by rw [← h2]; exact Below.refl _ _⟩
set_option maxHeartbeats 16000000 in
theorem described_calls (d p : Int) (dv : Value) (A : Option Addr) (c B : Nat) (os : List Ob) (w : World) (hn : os.length ≤ c) (hc : c ≤ 9223372036854775807) (hs : RO B w A os) (h1 : 1 ≤ d) (h8 : d ≤ 8) (hl : ∀ o ∈ os, Lh o.name) (h100 : os.length ≤ 1000) :
  Calls Try.prog 56 #[Tv d p dv (.slice A os.length c)] w fun e w' => e = .returned (.bool (desB d os)) ∧ Below w.heap.size w w' := by
 have HS := Lib.hid hs
 have HL := Lib.hid hl
 have NN := Lib.hid (Below.refl w.heap.size w)
 clear hs hl
 have BAD := Lib.hid (fun k o h hb => desB_bad (d := d) (os := os) (k := k) (o := o) h hb)
 have GOOD := Lib.hid (fun h => (desB_iff (d := d) (os := os)).2 h)
 generalize desB d os = res at *
 go_enter Try.func56, Try.ntmps56
 have HB : Hid (Below w.heap.size w (w.alloc (.cells #[.int .i64 d, .int .i64 p, dv, .slice A os.length c] 25))) := Lib.hid (Bal (Below.refl _ _) _)
 have SB := Lib.hid (blk_new w (.cells #[.int .i64 d, .int .i64 p, dv, .slice A os.length c] 25))
 have LT_SB : Hid (w.heap.size ≤ w.heap.size) := Lib.hid NN.out.size
 replace NN := Lib.hid (Bgo NN.out HB.out)
 replace HS := Lib.hid (HS.out.next HB.out)
 clear HB
 go_wp2_with fail
 generalize w.alloc (.cells #[.int .i64 d, .int .i64 p, dv, .slice A os.length c] 25) = W1 at *
 go_loopw [3, 4] (fun n i wr => ∃ (k : Nat) (t : Int), k ≤ os.length ∧ i = .int .i64 k ∧ n = .int .i64 t ∧ 0 ≤ t ∧ t ≤ 38 * k ∧ Hid (t = strN (os.take k)) ∧ Hid (∀ (j : Nat) (o : Ob), j < k → os[j]? = some o → oneO d os j o = true) ∧ Hid (Below w.heap.size w wr) ∧ Hid (RO B wr A os) ∧ Hid (wr.heap[w.heap.size]? = some (.cells #[.int .i64 d, .int .i64 p, dv, .slice A os.length c] 25))) (fun _ i _ => os.length - (intOf i).toNat)
 case atStart => exact ⟨0, 0, by omega, rfl, rfl, by omega, by omega, Lib.hid (by simp [strN]), Lib.hid (fun j o h => by omega), NN, HS, SB⟩
 case round =>
  clear NN HS SB
  obtain ⟨k, t, hk, rfl, rfl, t1, t2, TS, GD, NN, HS, SB⟩ := hrel
  by_cases hlt : k < os.length
  rotate_left
  ·obtain rfl : k = os.length := by omega
   have R : Hid (res = true) := Lib.hid (GOOD.out (fun j o h => GD.out j o (get_lt h) h))
   have c_SB_0 := blk_cell SB.out 0 _ rfl
   have c_SB_1 := blk_cell SB.out 1 _ rfl
   have c_SB_2 := blk_cell SB.out 2 _ rfl
   have c_SB_3 := blk_cell SB.out 3 _ rfl
   have l_SB := blk_lt SB.out
   go_wp2_with fail
   go_ret
   exact ⟨ret_bool R.out.symm, NN.out⟩
  obtain ⟨o, ho⟩ := get_some hlt
  have HLO := HL.out o (List.mem_of_getElem? ho)
  obtain ⟨b, off, hA, hb9, c0, c1, c2, c3, c4⟩ := HS.out.at_ ho
  have FT := Lib.hid (findL_take ho)
  have HO := Lib.hid ho
  have ONE : Hid (oneO d os k o = (objB d t o && (findL (os.take k) o.name.toList == -1))) := Lib.hid (by unfold oneO; rw [TS.out])
  have BADK := Lib.hid (fun h => BAD.out k o ho h)
  obtain ⟨nm, sz, f, m, g⟩ := o
  simp only at HLO c0 c1 c2 c3 c4 FT ONE
  have NC := Lib.hid (fun W => calls_below (refName_calls nm W HLO))
  have IC := Lib.hid (fun W h => index_calls d p dv A c B os nm W hn hc h)
  have OBJ : Hid (objB d t ⟨nm, sz, f, m, g⟩ = (namB nm.data.toList && (decide (0 ≤ sz) && (decide (sz ≤ 256) && ((m == ned sz d) && ((f == t) && (decide (0 ≤ g) && decide (g < 1000000007)))))))) := Lib.hid rfl
  have NE := Lib.hid (fun W (a : 0 ≤ sz) (b : sz ≤ 256) => calls_below (refNeeded_calls sz d W a (by omega) h1 h8))
  have kk : k + 1 ≤ os.length := hlt
  clear HLO ho
  generalize hix : findL os nm.toList = ix at *
  generalize hnb : namB nm.data.toList = nb at *
  have HIX := Lib.hid hix
  clear hix hnb
  subst hA
  have c_SB_0 := blk_cell SB.out 0 _ rfl
  have c_SB_1 := blk_cell SB.out 1 _ rfl
  have c_SB_2 := blk_cell SB.out 2 _ rfl
  have c_SB_3 := blk_cell SB.out 3 _ rfl
  have l_SB := blk_lt SB.out
  go_wp2_with fail
  clear c0 c1 c2 c3 c4 hb9 c_SB_0 c_SB_1 c_SB_2 c_SB_3 l_SB
  have zz := 0
  have HB : Hid (Below wr.heap.size wr (wr.alloc (.cells #[.string nm, .int .i64 sz, .int .i64 f, .int .i64 m, .int .i64 g] 50))) := Lib.hid (Bal (Below.refl _ _) _)
  have OB := Lib.hid (blk_new wr (.cells #[.string nm, .int .i64 sz, .int .i64 f, .int .i64 m, .int .i64 g] 50))
  have LT_OB : Hid (w.heap.size < wr.heap.size ∧ w.heap.size ≤ wr.heap.size) := Lib.hid ⟨blk_lt SB.out, NN.out.size⟩
  replace NN := Lib.hid (Bgo NN.out HB.out)
  replace HS := Lib.hid (HS.out.next HB.out)
  replace SB := Lib.hid (blk_next HB.out SB.out)
  clear HB
  generalize wr.alloc (.cells #[.string nm, .int .i64 sz, .int .i64 f, .int .i64 m, .int .i64 g] 50) = W2 at *
  generalize wr.heap.size = go at *
  cases nb
  ·have zz := 0
   have R : Hid (res = false) := Lib.hid (BADK.out (by rw [ONE.out, OBJ.out]; simp [*]))
   clear BADK ONE OBJ FT BAD GOOD GD TS
   refine region_I (S := SK [(1, go, .cells #[.string nm, .int .i64 sz, .int .i64 f, .int .i64 m, .int .i64 g] 50)]) (by kernel_rfl) ?_
   have HAL := Lib.hid (fun (k : Nat) => (show SK [(1, go, .cells #[.string nm, .int .i64 sz, .int .i64 f, .int .i64 m, .int .i64 g] 50)] k W2.drew from fun p hp e => by
    simp only [List.mem_cons, List.not_mem_nil, or_false] at hp
    rcases hp with rfl
    ·exact OB.out))
   have HD := Lib.hid (Below.drew (Below.refl W2.heap.size W2))
   replace NN := Lib.hid (Bgo NN.out HD.out)
   replace HS := Lib.hid (HS.out.next HD.out)
   replace SB := Lib.hid (blk_next HD.out SB.out)
   replace OB := Lib.hid (blk_next HD.out OB.out)
   clear HD
   refine tJ 0 (.pointer (some ⟨go, 0, none⟩)) (some 18) rfl (SK.drop (by simp)) (Or.inl ⟨by rfl, ?_⟩) ?_
   ·intro X hX
    clear hX
    go_simp
   try simp only [Act.put, zA, zB, zC]
   refine tJ 1 (.string nm) (some 19) rfl (HAL.out 1) (Or.inl ⟨by rfl, ?_⟩) ?_
   ·intro X hX
    have hh := hX (1, go, .cells #[.string nm, .int .i64 sz, .int .i64 f, .int .i64 m, .int .i64 g] 50) (List.Mem.head _) rfl
    have hh0 := blk_cell hh 0 _ rfl
    have hhl := blk_lt hh
    clear hh
    clear hX
    go_simp
   try simp only [Act.put, zA, zB, zC]
   refine only_I 2 (by kernel_rfl) rfl (fun K' hK' => ?_)
   go_simp
   go_at_call 47
   refine (NC.out _).mono ?_
   rintro e x3 ⟨rfl, hb⟩
   replace NN := Lib.hid (Bgo NN.out hb)
   replace HS := Lib.hid (HS.out.next hb)
   replace SB := Lib.hid (blk_next hb SB.out)
   replace OB := Lib.hid (blk_next hb OB.out)
   go_simp
   refine hK'.out _ _ (fun k _ hS => hS.next hb) ?_
   clear hK' K'
   try simp only [Act.put, zA, zB, zC]
   replace HAL := Lib.hid (fun k => (HAL.out k).next hb)
   refine tJ 3 (.bool true) (some 21) rfl (SK.drop (by simp)) (Or.inl ⟨by rfl, ?_⟩) ?_
   ·intro X hX
    clear hX
    go_simp
   try simp only [Act.put, zA, zB, zC]
   refine tJ 4 (.bool true) (some 22) rfl (SK.drop (by simp)) (Or.inl ⟨by rfl, ?_⟩) ?_
   ·intro X hX
    clear hX
    go_simp
   try simp only [Act.put, zA, zB, zC]
   refine tJ 5 undef (some 23) rfl (HAL.out 5) (Or.inr ⟨by rfl, rfl⟩) ?_
   try simp only [Act.put, zA, zB, zC]
   refine tJ 6 undef (some 24) rfl (HAL.out 6) (Or.inr ⟨by rfl, rfl⟩) ?_
   try simp only [Act.put, zA, zB, zC]
   refine tJ 7 undef (some 25) rfl (HAL.out 7) (Or.inr ⟨by rfl, rfl⟩) ?_
   try simp only [Act.put, zA, zB, zC]
   refine tJ 8 undef (some 26) rfl (HAL.out 8) (Or.inr ⟨by rfl, rfl⟩) ?_
   try simp only [Act.put, zA, zB, zC]
   refine tJ 9 undef (some 27) rfl (HAL.out 9) (Or.inr ⟨by rfl, rfl⟩) ?_
   try simp only [Act.put, zA, zB, zC]
   refine tJ 10 undef (some 28) rfl (HAL.out 10) (Or.inr ⟨by rfl, rfl⟩) ?_
   try simp only [Act.put, zA, zB, zC]
   refine tJ 11 (.bool true) (some 29) rfl (SK.drop (by simp)) (Or.inl ⟨by rfl, ?_⟩) ?_
   ·intro X hX
    clear hX
    go_simp
   try simp only [Act.put, zA, zB, zC]
   refine tJ 12 (.bool true) (some 30) rfl (SK.drop (by simp)) (Or.inl ⟨by rfl, ?_⟩) ?_
   ·intro X hX
    clear hX
    go_simp
   try simp only [Act.put, zA, zB, zC]
   refine tJ 13 undef (some 31) rfl (HAL.out 13) (Or.inr ⟨by rfl, rfl⟩) ?_
   try simp only [Act.put, zA, zB, zC]
   refine tJ 14 undef (some 32) rfl (HAL.out 14) (Or.inr ⟨by rfl, rfl⟩) ?_
   try simp only [Act.put, zA, zB, zC]
   refine tJ 15 undef (some 33) rfl (HAL.out 15) (Or.inr ⟨by rfl, rfl⟩) ?_
   try simp only [Act.put, zA, zB, zC]
   refine tJ 16 (.bool true) (some 34) rfl (SK.drop (by simp)) (Or.inl ⟨by rfl, ?_⟩) ?_
   ·intro X hX
    clear hX
    go_simp
   try simp only [Act.put, zA, zB, zC]
   refine tJ 17 (.bool true) (some 35) rfl (SK.drop (by simp)) (Or.inl ⟨by rfl, ?_⟩) ?_
   ·intro X hX
    clear hX
    go_simp
   try simp only [Act.put, zA, zB, zC]
   refine tJ 18 undef (some 36) rfl (HAL.out 18) (Or.inr ⟨by rfl, rfl⟩) ?_
   try simp only [Act.put, zA, zB, zC]
   refine tJ 19 undef (some 37) rfl (HAL.out 19) (Or.inr ⟨by rfl, rfl⟩) ?_
   try simp only [Act.put, zA, zB, zC]
   refine tJ 20 undef (some 38) rfl (HAL.out 20) (Or.inr ⟨by rfl, rfl⟩) ?_
   try simp only [Act.put, zA, zB, zC]
   refine tJ 21 (.bool true) (some 39) rfl (SK.drop (by simp)) (Or.inl ⟨by rfl, ?_⟩) ?_
   ·intro X hX
    clear hX
    go_simp
   try simp only [Act.put, zA, zB, zC]
   refine tJ 22 (.bool true) (some 40) rfl (SK.drop (by simp)) (Or.inl ⟨by rfl, ?_⟩) ?_
   ·intro X hX
    clear hX
    go_simp
   try simp only [Act.put, zA, zB, zC]
   refine tJ 23 undef (some 41) rfl (HAL.out 23) (Or.inr ⟨by rfl, rfl⟩) ?_
   try simp only [Act.put, zA, zB, zC]
   refine tJ 24 undef (some 42) rfl (HAL.out 24) (Or.inr ⟨by rfl, rfl⟩) ?_
   try simp only [Act.put, zA, zB, zC]
   refine tJ 25 undef (some 43) rfl (HAL.out 25) (Or.inr ⟨by rfl, rfl⟩) ?_
   try simp only [Act.put, zA, zB, zC]
   refine tJ 26 undef (some 44) rfl (HAL.out 26) (Or.inr ⟨by rfl, rfl⟩) ?_
   try simp only [Act.put, zA, zB, zC]
   refine tJ 27 undef (some 45) rfl (HAL.out 27) (Or.inr ⟨by rfl, rfl⟩) ?_
   try simp only [Act.put, zA, zB, zC]
   refine tJ 28 undef (some 46) rfl (HAL.out 28) (Or.inr ⟨by rfl, rfl⟩) ?_
   try simp only [Act.put, zA, zB, zC]
   refine tJ 29 undef (some 47) rfl (HAL.out 29) (Or.inr ⟨by rfl, rfl⟩) ?_
   try simp only [Act.put, zA, zB, zC]
   refine tJ 30 undef (some 48) rfl (HAL.out 30) (Or.inr ⟨by rfl, rfl⟩) ?_
   try simp only [Act.put, zA, zB, zC]
   refine tJ 31 (.bool true) (some 49) rfl (SK.drop (by simp)) (Or.inl ⟨by rfl, ?_⟩) ?_
   ·intro X hX
    clear hX
    go_simp
   try simp only [Act.put, zA, zB, zC]
   refine tJ 32 (.bool true) (some 50) rfl (SK.drop (by simp)) (Or.inl ⟨by rfl, ?_⟩) ?_
   ·intro X hX
    clear hX
    go_simp
   try simp only [Act.put, zA, zB, zC]
   refine tJ 33 undef (some 51) rfl (HAL.out 33) (Or.inr ⟨by rfl, rfl⟩) ?_
   try simp only [Act.put, zA, zB, zC]
   refine tJ 34 undef (some 52) rfl (HAL.out 34) (Or.inr ⟨by rfl, rfl⟩) ?_
   try simp only [Act.put, zA, zB, zC]
   refine tJ 35 undef (some 53) rfl (HAL.out 35) (Or.inr ⟨by rfl, rfl⟩) ?_
   try simp only [Act.put, zA, zB, zC]
   refine tJ 36 undef (some 54) rfl (HAL.out 36) (Or.inr ⟨by rfl, rfl⟩) ?_
   try simp only [Act.put, zA, zB, zC]
   refine tJ 37 (.bool true) (some 55) rfl (SK.drop (by simp)) (Or.inl ⟨by rfl, ?_⟩) ?_
   ·intro X hX
    clear hX
    go_simp
   try simp only [Act.put, zA, zB, zC]
   refine tJ 38 (.bool true) (some 56) rfl (SK.drop (by simp)) (Or.inl ⟨by rfl, ?_⟩) ?_
   ·intro X hX
    clear hX
    go_simp
   try simp only [Act.put, zA, zB, zC]
   refine tJ 39 undef (some 57) rfl (HAL.out 39) (Or.inr ⟨by rfl, rfl⟩) ?_
   try simp only [Act.put, zA, zB, zC]
   refine tJ 40 undef (some 58) rfl (HAL.out 40) (Or.inr ⟨by rfl, rfl⟩) ?_
   try simp only [Act.put, zA, zB, zC]
   refine tJ 41 undef (some 59) rfl (HAL.out 41) (Or.inr ⟨by rfl, rfl⟩) ?_
   try simp only [Act.put, zA, zB, zC]
   refine tJ 42 (.bool true) (some 60) rfl (SK.drop (by simp)) (Or.inl ⟨by rfl, ?_⟩) ?_
   ·intro X hX
    clear hX
    go_simp
   try simp only [Act.put, zA, zB, zC]
   refine tJ 43 (.bool true) (some 61) rfl (SK.drop (by simp)) (Or.inl ⟨by rfl, ?_⟩) ?_
   ·intro X hX
    clear hX
    go_simp
   try simp only [Act.put, zA, zB, zC]
   refine tJ 44 undef (some 62) rfl (HAL.out 44) (Or.inr ⟨by rfl, rfl⟩) ?_
   try simp only [Act.put, zA, zB, zC]
   refine tJ 45 undef (some 63) rfl (HAL.out 45) (Or.inr ⟨by rfl, rfl⟩) ?_
   try simp only [Act.put, zA, zB, zC]
   refine tJ 46 undef (some 64) rfl (HAL.out 46) (Or.inr ⟨by rfl, rfl⟩) ?_
   try simp only [Act.put, zA, zB, zC]
   refine tJ 47 (.bool true) (some 65) rfl (SK.drop (by simp)) (Or.inl ⟨by rfl, ?_⟩) ?_
   ·intro X hX
    clear hX
    go_simp
   try simp only [Act.put, zA, zB, zC]
   clear HAL
   refine done_I (by kernel_rfl) ?_ _
   go_wp2_with fail
   go_ret
   exact ⟨ret_bool R.out.symm, NN.out⟩
  by_cases q0 : ix = (k : Int)
  rotate_left
  ·have e0 : (ix != (k : Int)) = true := by rw [bne_iff_ne]; exact q0
   have F9 : (findL (os.take k) nm.toList == -1) = false := by rw [beq_eq_false_iff_ne]; exact fun h => q0 (FT.out.2 h)
   clear q0
   have R : Hid (res = false) := Lib.hid (BADK.out (by rw [ONE.out, F9, Bool.and_false]))
   clear BADK ONE OBJ FT BAD GOOD GD TS
   refine region_I (S := SK [(1, go, .cells #[.string nm, .int .i64 sz, .int .i64 f, .int .i64 m, .int .i64 g] 50), (5, w.heap.size, .cells #[.int .i64 d, .int .i64 p, dv, .slice (some ⟨b, off, none⟩) os.length c] 25), (7, go, .cells #[.string nm, .int .i64 sz, .int .i64 f, .int .i64 m, .int .i64 g] 50)]) (by kernel_rfl) ?_
   have HAL := Lib.hid (fun (k : Nat) => (show SK [(1, go, .cells #[.string nm, .int .i64 sz, .int .i64 f, .int .i64 m, .int .i64 g] 50), (5, w.heap.size, .cells #[.int .i64 d, .int .i64 p, dv, .slice (some ⟨b, off, none⟩) os.length c] 25), (7, go, .cells #[.string nm, .int .i64 sz, .int .i64 f, .int .i64 m, .int .i64 g] 50)] k W2.drew from fun p hp e => by
    simp only [List.mem_cons, List.not_mem_nil, or_false] at hp
    rcases hp with rfl | rfl | rfl
    ·exact OB.out
    ·exact SB.out
    ·exact OB.out))
   have HD := Lib.hid (Below.drew (Below.refl W2.heap.size W2))
   replace NN := Lib.hid (Bgo NN.out HD.out)
   replace HS := Lib.hid (HS.out.next HD.out)
   replace SB := Lib.hid (blk_next HD.out SB.out)
   replace OB := Lib.hid (blk_next HD.out OB.out)
   clear HD
   refine tJ 0 (.pointer (some ⟨go, 0, none⟩)) (some 18) rfl (SK.drop (by simp)) (Or.inl ⟨by rfl, ?_⟩) ?_
   ·intro X hX
    clear hX
    go_simp
   try simp only [Act.put, zA, zB, zC]
   refine tJ 1 (.string nm) (some 19) rfl (HAL.out 1) (Or.inl ⟨by rfl, ?_⟩) ?_
   ·intro X hX
    have hh := hX (1, go, .cells #[.string nm, .int .i64 sz, .int .i64 f, .int .i64 m, .int .i64 g] 50) (List.Mem.head _) rfl
    have hh0 := blk_cell hh 0 _ rfl
    have hhl := blk_lt hh
    clear hh
    clear hX
    go_simp
   try simp only [Act.put, zA, zB, zC]
   refine only_I 2 (by kernel_rfl) rfl (fun K' hK' => ?_)
   go_simp
   go_at_call 47
   refine (NC.out _).mono ?_
   rintro e x4 ⟨rfl, hb⟩
   replace NN := Lib.hid (Bgo NN.out hb)
   replace HS := Lib.hid (HS.out.next hb)
   replace SB := Lib.hid (blk_next hb SB.out)
   replace OB := Lib.hid (blk_next hb OB.out)
   go_simp
   refine hK'.out _ _ (fun k _ hS => hS.next hb) ?_
   clear hK' K'
   try simp only [Act.put, zA, zB, zC]
   replace HAL := Lib.hid (fun k => (HAL.out k).next hb)
   refine tJ 3 (.bool false) (some 21) rfl (SK.drop (by simp)) (Or.inl ⟨by rfl, ?_⟩) ?_
   ·intro X hX
    clear hX
    go_simp
   try simp only [Act.put, zA, zB, zC]
   refine tJ 4 (.bool false) (some 22) rfl (SK.drop (by simp)) (Or.inl ⟨by rfl, ?_⟩) ?_
   ·intro X hX
    clear hX
    go_simp
   try simp only [Act.put, zA, zB, zC]
   refine tJ 5 (.agg #[.int .i64 d, .int .i64 p, dv, .slice (some ⟨b, off, none⟩) os.length c]) (some 23) rfl (HAL.out 5) (Or.inl ⟨by rfl, ?_⟩) ?_
   ·intro X hX
    have hh := hX (5, w.heap.size, .cells #[.int .i64 d, .int .i64 p, dv, .slice (some ⟨b, off, none⟩) os.length c] 25) (List.Mem.tail _ (List.Mem.head _)) rfl
    have hh0 := blk_cell hh 0 _ rfl
    have hh1 := blk_cell hh 1 _ rfl
    have hh2 := blk_cell hh 2 _ rfl
    have hh3 := blk_cell hh 3 _ rfl
    have hhl := blk_lt hh
    clear hh
    clear hX
    go_simp
   try simp only [Act.put, zA, zB, zC]
   refine tJ 6 (.pointer (some ⟨go, 0, none⟩)) (some 24) rfl (SK.drop (by simp)) (Or.inl ⟨by rfl, ?_⟩) ?_
   ·intro X hX
    clear hX
    go_simp
   try simp only [Act.put, zA, zB, zC]
   refine tJ 7 (.string nm) (some 25) rfl (HAL.out 7) (Or.inl ⟨by rfl, ?_⟩) ?_
   ·intro X hX
    have hh := hX (7, go, .cells #[.string nm, .int .i64 sz, .int .i64 f, .int .i64 m, .int .i64 g] 50) (List.Mem.tail _ (List.Mem.tail _ (List.Mem.head _))) rfl
    have hh0 := blk_cell hh 0 _ rfl
    have hhl := blk_lt hh
    clear hh
    clear hX
    go_simp
   try simp only [Act.put, zA, zB, zC]
   refine tJ 9 (.int .i64 (k : Int)) (some 27) rfl (SK.drop (by simp)) (Or.inl ⟨by rfl, ?_⟩) ?_
   ·intro X hX
    clear hX
    go_simp
   try simp only [Act.put, zA, zB, zC]
   refine only_I 8 (by kernel_rfl) rfl (fun K' hK' => ?_)
   go_simp
   go_at_call 48
   refine (IC.out _ HS.out).mono ?_
   rintro e x5 ⟨rfl, hb⟩
   replace NN := Lib.hid (Bgo NN.out hb)
   replace HS := Lib.hid (HS.out.next hb)
   replace SB := Lib.hid (blk_next hb SB.out)
   replace OB := Lib.hid (blk_next hb OB.out)
   go_simp
   refine hK'.out _ _ (fun k _ hS => hS.next hb) ?_
   clear hK' K'
   try simp only [Act.put, zA, zB, zC]
   replace HAL := Lib.hid (fun k => (HAL.out k).next hb)
   refine tJ 10 (.bool true) (some 28) rfl (SK.drop (by simp)) (Or.inl ⟨by rfl, ?_⟩) ?_
   ·intro X hX
    clear hX
    go_simp
   try simp only [Act.put, zA, zB, zC]
   refine tJ 11 (.bool true) (some 29) rfl (SK.drop (by simp)) (Or.inl ⟨by rfl, ?_⟩) ?_
   ·intro X hX
    clear hX
    go_simp
   try simp only [Act.put, zA, zB, zC]
   refine tJ 12 (.bool true) (some 30) rfl (SK.drop (by simp)) (Or.inl ⟨by rfl, ?_⟩) ?_
   ·intro X hX
    clear hX
    go_simp
   try simp only [Act.put, zA, zB, zC]
   refine tJ 13 undef (some 31) rfl (HAL.out 13) (Or.inr ⟨by rfl, rfl⟩) ?_
   try simp only [Act.put, zA, zB, zC]
   refine tJ 14 undef (some 32) rfl (HAL.out 14) (Or.inr ⟨by rfl, rfl⟩) ?_
   try simp only [Act.put, zA, zB, zC]
   refine tJ 15 undef (some 33) rfl (HAL.out 15) (Or.inr ⟨by rfl, rfl⟩) ?_
   try simp only [Act.put, zA, zB, zC]
   refine tJ 16 (.bool true) (some 34) rfl (SK.drop (by simp)) (Or.inl ⟨by rfl, ?_⟩) ?_
   ·intro X hX
    clear hX
    go_simp
   try simp only [Act.put, zA, zB, zC]
   refine tJ 17 (.bool true) (some 35) rfl (SK.drop (by simp)) (Or.inl ⟨by rfl, ?_⟩) ?_
   ·intro X hX
    clear hX
    go_simp
   try simp only [Act.put, zA, zB, zC]
   refine tJ 18 undef (some 36) rfl (HAL.out 18) (Or.inr ⟨by rfl, rfl⟩) ?_
   try simp only [Act.put, zA, zB, zC]
   refine tJ 19 undef (some 37) rfl (HAL.out 19) (Or.inr ⟨by rfl, rfl⟩) ?_
   try simp only [Act.put, zA, zB, zC]
   refine tJ 20 undef (some 38) rfl (HAL.out 20) (Or.inr ⟨by rfl, rfl⟩) ?_
   try simp only [Act.put, zA, zB, zC]
   refine tJ 21 (.bool true) (some 39) rfl (SK.drop (by simp)) (Or.inl ⟨by rfl, ?_⟩) ?_
   ·intro X hX
    clear hX
    go_simp
   try simp only [Act.put, zA, zB, zC]
   refine tJ 22 (.bool true) (some 40) rfl (SK.drop (by simp)) (Or.inl ⟨by rfl, ?_⟩) ?_
   ·intro X hX
    clear hX
    go_simp
   try simp only [Act.put, zA, zB, zC]
   refine tJ 23 undef (some 41) rfl (HAL.out 23) (Or.inr ⟨by rfl, rfl⟩) ?_
   try simp only [Act.put, zA, zB, zC]
   refine tJ 24 undef (some 42) rfl (HAL.out 24) (Or.inr ⟨by rfl, rfl⟩) ?_
   try simp only [Act.put, zA, zB, zC]
   refine tJ 25 undef (some 43) rfl (HAL.out 25) (Or.inr ⟨by rfl, rfl⟩) ?_
   try simp only [Act.put, zA, zB, zC]
   refine tJ 26 undef (some 44) rfl (HAL.out 26) (Or.inr ⟨by rfl, rfl⟩) ?_
   try simp only [Act.put, zA, zB, zC]
   refine tJ 27 undef (some 45) rfl (HAL.out 27) (Or.inr ⟨by rfl, rfl⟩) ?_
   try simp only [Act.put, zA, zB, zC]
   refine tJ 28 undef (some 46) rfl (HAL.out 28) (Or.inr ⟨by rfl, rfl⟩) ?_
   try simp only [Act.put, zA, zB, zC]
   refine tJ 29 undef (some 47) rfl (HAL.out 29) (Or.inr ⟨by rfl, rfl⟩) ?_
   try simp only [Act.put, zA, zB, zC]
   refine tJ 30 undef (some 48) rfl (HAL.out 30) (Or.inr ⟨by rfl, rfl⟩) ?_
   try simp only [Act.put, zA, zB, zC]
   refine tJ 31 (.bool true) (some 49) rfl (SK.drop (by simp)) (Or.inl ⟨by rfl, ?_⟩) ?_
   ·intro X hX
    clear hX
    go_simp
   try simp only [Act.put, zA, zB, zC]
   refine tJ 32 (.bool true) (some 50) rfl (SK.drop (by simp)) (Or.inl ⟨by rfl, ?_⟩) ?_
   ·intro X hX
    clear hX
    go_simp
   try simp only [Act.put, zA, zB, zC]
   refine tJ 33 undef (some 51) rfl (HAL.out 33) (Or.inr ⟨by rfl, rfl⟩) ?_
   try simp only [Act.put, zA, zB, zC]
   refine tJ 34 undef (some 52) rfl (HAL.out 34) (Or.inr ⟨by rfl, rfl⟩) ?_
   try simp only [Act.put, zA, zB, zC]
   refine tJ 35 undef (some 53) rfl (HAL.out 35) (Or.inr ⟨by rfl, rfl⟩) ?_
   try simp only [Act.put, zA, zB, zC]
   refine tJ 36 undef (some 54) rfl (HAL.out 36) (Or.inr ⟨by rfl, rfl⟩) ?_
   try simp only [Act.put, zA, zB, zC]
   refine tJ 37 (.bool true) (some 55) rfl (SK.drop (by simp)) (Or.inl ⟨by rfl, ?_⟩) ?_
   ·intro X hX
    clear hX
    go_simp
   try simp only [Act.put, zA, zB, zC]
   refine tJ 38 (.bool true) (some 56) rfl (SK.drop (by simp)) (Or.inl ⟨by rfl, ?_⟩) ?_
   ·intro X hX
    clear hX
    go_simp
   try simp only [Act.put, zA, zB, zC]
   refine tJ 39 undef (some 57) rfl (HAL.out 39) (Or.inr ⟨by rfl, rfl⟩) ?_
   try simp only [Act.put, zA, zB, zC]
   refine tJ 40 undef (some 58) rfl (HAL.out 40) (Or.inr ⟨by rfl, rfl⟩) ?_
   try simp only [Act.put, zA, zB, zC]
   refine tJ 41 undef (some 59) rfl (HAL.out 41) (Or.inr ⟨by rfl, rfl⟩) ?_
   try simp only [Act.put, zA, zB, zC]
   refine tJ 42 (.bool true) (some 60) rfl (SK.drop (by simp)) (Or.inl ⟨by rfl, ?_⟩) ?_
   ·intro X hX
    clear hX
    go_simp
   try simp only [Act.put, zA, zB, zC]
   refine tJ 43 (.bool true) (some 61) rfl (SK.drop (by simp)) (Or.inl ⟨by rfl, ?_⟩) ?_
   ·intro X hX
    clear hX
    go_simp
   try simp only [Act.put, zA, zB, zC]
   refine tJ 44 undef (some 62) rfl (HAL.out 44) (Or.inr ⟨by rfl, rfl⟩) ?_
   try simp only [Act.put, zA, zB, zC]
   refine tJ 45 undef (some 63) rfl (HAL.out 45) (Or.inr ⟨by rfl, rfl⟩) ?_
   try simp only [Act.put, zA, zB, zC]
   refine tJ 46 undef (some 64) rfl (HAL.out 46) (Or.inr ⟨by rfl, rfl⟩) ?_
   try simp only [Act.put, zA, zB, zC]
   refine tJ 47 (.bool true) (some 65) rfl (SK.drop (by simp)) (Or.inl ⟨by rfl, ?_⟩) ?_
   ·intro X hX
    clear hX
    go_simp
   try simp only [Act.put, zA, zB, zC]
   clear HAL
   refine done_I (by kernel_rfl) ?_ _
   go_wp2_with fail
   go_ret
   exact ⟨ret_bool R.out.symm, NN.out⟩
  have e0 : (ix != (k : Int)) = false := by rw [bne_eq_false_iff_eq]; exact q0
  have F9 : (findL (os.take k) nm.toList == -1) = true := by rw [beq_iff_eq]; exact FT.out.1 q0
  have HQ0 := Lib.hid q0
  clear q0
  by_cases q1 : 0 ≤ sz
  rotate_left
  ·have e1 : decide (sz < (0 : Int)) = true := decide_eq_true (by omega)
   have R : Hid (res = false) := Lib.hid (BADK.out (by rw [ONE.out, OBJ.out]; simp [*]))
   clear BADK ONE OBJ FT BAD GOOD GD TS
   refine region_I (S := SK [(1, go, .cells #[.string nm, .int .i64 sz, .int .i64 f, .int .i64 m, .int .i64 g] 50), (5, w.heap.size, .cells #[.int .i64 d, .int .i64 p, dv, .slice (some ⟨b, off, none⟩) os.length c] 25), (7, go, .cells #[.string nm, .int .i64 sz, .int .i64 f, .int .i64 m, .int .i64 g] 50), (14, go, .cells #[.string nm, .int .i64 sz, .int .i64 f, .int .i64 m, .int .i64 g] 50)]) (by kernel_rfl) ?_
   have HAL := Lib.hid (fun (k : Nat) => (show SK [(1, go, .cells #[.string nm, .int .i64 sz, .int .i64 f, .int .i64 m, .int .i64 g] 50), (5, w.heap.size, .cells #[.int .i64 d, .int .i64 p, dv, .slice (some ⟨b, off, none⟩) os.length c] 25), (7, go, .cells #[.string nm, .int .i64 sz, .int .i64 f, .int .i64 m, .int .i64 g] 50), (14, go, .cells #[.string nm, .int .i64 sz, .int .i64 f, .int .i64 m, .int .i64 g] 50)] k W2.drew from fun p hp e => by
    simp only [List.mem_cons, List.not_mem_nil, or_false] at hp
    rcases hp with rfl | rfl | rfl | rfl
    ·exact OB.out
    ·exact SB.out
    ·exact OB.out
    ·exact OB.out))
   have HD := Lib.hid (Below.drew (Below.refl W2.heap.size W2))
   replace NN := Lib.hid (Bgo NN.out HD.out)
   replace HS := Lib.hid (HS.out.next HD.out)
   replace SB := Lib.hid (blk_next HD.out SB.out)
   replace OB := Lib.hid (blk_next HD.out OB.out)
   clear HD
   refine tJ 0 (.pointer (some ⟨go, 0, none⟩)) (some 18) rfl (SK.drop (by simp)) (Or.inl ⟨by rfl, ?_⟩) ?_
   ·intro X hX
    clear hX
    go_simp
   try simp only [Act.put, zA, zB, zC]
   refine tJ 1 (.string nm) (some 19) rfl (HAL.out 1) (Or.inl ⟨by rfl, ?_⟩) ?_
   ·intro X hX
    have hh := hX (1, go, .cells #[.string nm, .int .i64 sz, .int .i64 f, .int .i64 m, .int .i64 g] 50) (List.Mem.head _) rfl
    have hh0 := blk_cell hh 0 _ rfl
    have hhl := blk_lt hh
    clear hh
    clear hX
    go_simp
   try simp only [Act.put, zA, zB, zC]
   refine only_I 2 (by kernel_rfl) rfl (fun K' hK' => ?_)
   go_simp
   go_at_call 47
   refine (NC.out _).mono ?_
   rintro e x6 ⟨rfl, hb⟩
   replace NN := Lib.hid (Bgo NN.out hb)
   replace HS := Lib.hid (HS.out.next hb)
   replace SB := Lib.hid (blk_next hb SB.out)
   replace OB := Lib.hid (blk_next hb OB.out)
   go_simp
   refine hK'.out _ _ (fun k _ hS => hS.next hb) ?_
   clear hK' K'
   try simp only [Act.put, zA, zB, zC]
   replace HAL := Lib.hid (fun k => (HAL.out k).next hb)
   refine tJ 3 (.bool false) (some 21) rfl (SK.drop (by simp)) (Or.inl ⟨by rfl, ?_⟩) ?_
   ·intro X hX
    clear hX
    go_simp
   try simp only [Act.put, zA, zB, zC]
   refine tJ 4 (.bool false) (some 22) rfl (SK.drop (by simp)) (Or.inl ⟨by rfl, ?_⟩) ?_
   ·intro X hX
    clear hX
    go_simp
   try simp only [Act.put, zA, zB, zC]
   refine tJ 5 (.agg #[.int .i64 d, .int .i64 p, dv, .slice (some ⟨b, off, none⟩) os.length c]) (some 23) rfl (HAL.out 5) (Or.inl ⟨by rfl, ?_⟩) ?_
   ·intro X hX
    have hh := hX (5, w.heap.size, .cells #[.int .i64 d, .int .i64 p, dv, .slice (some ⟨b, off, none⟩) os.length c] 25) (List.Mem.tail _ (List.Mem.head _)) rfl
    have hh0 := blk_cell hh 0 _ rfl
    have hh1 := blk_cell hh 1 _ rfl
    have hh2 := blk_cell hh 2 _ rfl
    have hh3 := blk_cell hh 3 _ rfl
    have hhl := blk_lt hh
    clear hh
    clear hX
    go_simp
   try simp only [Act.put, zA, zB, zC]
   refine tJ 6 (.pointer (some ⟨go, 0, none⟩)) (some 24) rfl (SK.drop (by simp)) (Or.inl ⟨by rfl, ?_⟩) ?_
   ·intro X hX
    clear hX
    go_simp
   try simp only [Act.put, zA, zB, zC]
   refine tJ 7 (.string nm) (some 25) rfl (HAL.out 7) (Or.inl ⟨by rfl, ?_⟩) ?_
   ·intro X hX
    have hh := hX (7, go, .cells #[.string nm, .int .i64 sz, .int .i64 f, .int .i64 m, .int .i64 g] 50) (List.Mem.tail _ (List.Mem.tail _ (List.Mem.head _))) rfl
    have hh0 := blk_cell hh 0 _ rfl
    have hhl := blk_lt hh
    clear hh
    clear hX
    go_simp
   try simp only [Act.put, zA, zB, zC]
   refine tJ 9 (.int .i64 (k : Int)) (some 27) rfl (SK.drop (by simp)) (Or.inl ⟨by rfl, ?_⟩) ?_
   ·intro X hX
    clear hX
    go_simp
   try simp only [Act.put, zA, zB, zC]
   refine only_I 8 (by kernel_rfl) rfl (fun K' hK' => ?_)
   go_simp
   go_at_call 48
   refine (IC.out _ HS.out).mono ?_
   rintro e x7 ⟨rfl, hb⟩
   replace NN := Lib.hid (Bgo NN.out hb)
   replace HS := Lib.hid (HS.out.next hb)
   replace SB := Lib.hid (blk_next hb SB.out)
   replace OB := Lib.hid (blk_next hb OB.out)
   go_simp
   refine hK'.out _ _ (fun k _ hS => hS.next hb) ?_
   clear hK' K'
   try simp only [Act.put, zA, zB, zC]
   replace HAL := Lib.hid (fun k => (HAL.out k).next hb)
   refine tJ 10 (.bool false) (some 28) rfl (SK.drop (by simp)) (Or.inl ⟨by rfl, ?_⟩) ?_
   ·intro X hX
    clear hX
    go_simp
   try simp only [Act.put, zA, zB, zC]
   refine tJ 11 (.bool false) (some 29) rfl (SK.drop (by simp)) (Or.inl ⟨by rfl, ?_⟩) ?_
   ·intro X hX
    clear hX
    go_simp
   try simp only [Act.put, zA, zB, zC]
   refine tJ 12 (.bool false) (some 30) rfl (SK.drop (by simp)) (Or.inl ⟨by rfl, ?_⟩) ?_
   ·intro X hX
    clear hX
    go_simp
   try simp only [Act.put, zA, zB, zC]
   refine tJ 13 (.pointer (some ⟨go, 1, none⟩)) (some 31) rfl (SK.drop (by simp)) (Or.inl ⟨by rfl, ?_⟩) ?_
   ·intro X hX
    clear hX
    go_simp
   try simp only [Act.put, zA, zB, zC]
   refine tJ 14 (.int .i64 sz) (some 32) rfl (HAL.out 14) (Or.inl ⟨by rfl, ?_⟩) ?_
   ·intro X hX
    have hh := hX (14, go, .cells #[.string nm, .int .i64 sz, .int .i64 f, .int .i64 m, .int .i64 g] 50) (List.Mem.tail _ (List.Mem.tail _ (List.Mem.tail _ (List.Mem.head _)))) rfl
    have hh1 := blk_cell hh 1 _ rfl
    have hhl := blk_lt hh
    clear hh
    clear hX
    go_simp
   try simp only [Act.put, zA, zB, zC]
   refine tJ 15 (.bool true) (some 33) rfl (SK.drop (by simp)) (Or.inl ⟨by rfl, ?_⟩) ?_
   ·intro X hX
    clear hX
    go_simp
   try simp only [Act.put, zA, zB, zC]
   refine tJ 16 (.bool true) (some 34) rfl (SK.drop (by simp)) (Or.inl ⟨by rfl, ?_⟩) ?_
   ·intro X hX
    clear hX
    go_simp
   try simp only [Act.put, zA, zB, zC]
   refine tJ 17 (.bool true) (some 35) rfl (SK.drop (by simp)) (Or.inl ⟨by rfl, ?_⟩) ?_
   ·intro X hX
    clear hX
    go_simp
   try simp only [Act.put, zA, zB, zC]
   refine tJ 18 undef (some 36) rfl (HAL.out 18) (Or.inr ⟨by rfl, rfl⟩) ?_
   try simp only [Act.put, zA, zB, zC]
   refine tJ 19 undef (some 37) rfl (HAL.out 19) (Or.inr ⟨by rfl, rfl⟩) ?_
   try simp only [Act.put, zA, zB, zC]
   refine tJ 20 undef (some 38) rfl (HAL.out 20) (Or.inr ⟨by rfl, rfl⟩) ?_
   try simp only [Act.put, zA, zB, zC]
   refine tJ 21 (.bool true) (some 39) rfl (SK.drop (by simp)) (Or.inl ⟨by rfl, ?_⟩) ?_
   ·intro X hX
    clear hX
    go_simp
   try simp only [Act.put, zA, zB, zC]
   refine tJ 22 (.bool true) (some 40) rfl (SK.drop (by simp)) (Or.inl ⟨by rfl, ?_⟩) ?_
   ·intro X hX
    clear hX
    go_simp
   try simp only [Act.put, zA, zB, zC]
   refine tJ 23 undef (some 41) rfl (HAL.out 23) (Or.inr ⟨by rfl, rfl⟩) ?_
   try simp only [Act.put, zA, zB, zC]
   refine tJ 24 undef (some 42) rfl (HAL.out 24) (Or.inr ⟨by rfl, rfl⟩) ?_
   try simp only [Act.put, zA, zB, zC]
   refine tJ 25 undef (some 43) rfl (HAL.out 25) (Or.inr ⟨by rfl, rfl⟩) ?_
   try simp only [Act.put, zA, zB, zC]
   refine tJ 26 undef (some 44) rfl (HAL.out 26) (Or.inr ⟨by rfl, rfl⟩) ?_
   try simp only [Act.put, zA, zB, zC]
   refine tJ 27 undef (some 45) rfl (HAL.out 27) (Or.inr ⟨by rfl, rfl⟩) ?_
   try simp only [Act.put, zA, zB, zC]
   refine tJ 28 undef (some 46) rfl (HAL.out 28) (Or.inr ⟨by rfl, rfl⟩) ?_
   try simp only [Act.put, zA, zB, zC]
   refine tJ 29 undef (some 47) rfl (HAL.out 29) (Or.inr ⟨by rfl, rfl⟩) ?_
   try simp only [Act.put, zA, zB, zC]
   refine tJ 30 undef (some 48) rfl (HAL.out 30) (Or.inr ⟨by rfl, rfl⟩) ?_
   try simp only [Act.put, zA, zB, zC]
   refine tJ 31 (.bool true) (some 49) rfl (SK.drop (by simp)) (Or.inl ⟨by rfl, ?_⟩) ?_
   ·intro X hX
    clear hX
    go_simp
   try simp only [Act.put, zA, zB, zC]
   refine tJ 32 (.bool true) (some 50) rfl (SK.drop (by simp)) (Or.inl ⟨by rfl, ?_⟩) ?_
   ·intro X hX
    clear hX
    go_simp
   try simp only [Act.put, zA, zB, zC]
   refine tJ 33 undef (some 51) rfl (HAL.out 33) (Or.inr ⟨by rfl, rfl⟩) ?_
   try simp only [Act.put, zA, zB, zC]
   refine tJ 34 undef (some 52) rfl (HAL.out 34) (Or.inr ⟨by rfl, rfl⟩) ?_
   try simp only [Act.put, zA, zB, zC]
   refine tJ 35 undef (some 53) rfl (HAL.out 35) (Or.inr ⟨by rfl, rfl⟩) ?_
   try simp only [Act.put, zA, zB, zC]
   refine tJ 36 undef (some 54) rfl (HAL.out 36) (Or.inr ⟨by rfl, rfl⟩) ?_
   try simp only [Act.put, zA, zB, zC]
   refine tJ 37 (.bool true) (some 55) rfl (SK.drop (by simp)) (Or.inl ⟨by rfl, ?_⟩) ?_
   ·intro X hX
    clear hX
    go_simp
   try simp only [Act.put, zA, zB, zC]
   refine tJ 38 (.bool true) (some 56) rfl (SK.drop (by simp)) (Or.inl ⟨by rfl, ?_⟩) ?_
   ·intro X hX
    clear hX
    go_simp
   try simp only [Act.put, zA, zB, zC]
   refine tJ 39 undef (some 57) rfl (HAL.out 39) (Or.inr ⟨by rfl, rfl⟩) ?_
   try simp only [Act.put, zA, zB, zC]
   refine tJ 40 undef (some 58) rfl (HAL.out 40) (Or.inr ⟨by rfl, rfl⟩) ?_
   try simp only [Act.put, zA, zB, zC]
   refine tJ 41 undef (some 59) rfl (HAL.out 41) (Or.inr ⟨by rfl, rfl⟩) ?_
   try simp only [Act.put, zA, zB, zC]
   refine tJ 42 (.bool true) (some 60) rfl (SK.drop (by simp)) (Or.inl ⟨by rfl, ?_⟩) ?_
   ·intro X hX
    clear hX
    go_simp
   try simp only [Act.put, zA, zB, zC]
   refine tJ 43 (.bool true) (some 61) rfl (SK.drop (by simp)) (Or.inl ⟨by rfl, ?_⟩) ?_
   ·intro X hX
    clear hX
    go_simp
   try simp only [Act.put, zA, zB, zC]
   refine tJ 44 undef (some 62) rfl (HAL.out 44) (Or.inr ⟨by rfl, rfl⟩) ?_
   try simp only [Act.put, zA, zB, zC]
   refine tJ 45 undef (some 63) rfl (HAL.out 45) (Or.inr ⟨by rfl, rfl⟩) ?_
   try simp only [Act.put, zA, zB, zC]
   refine tJ 46 undef (some 64) rfl (HAL.out 46) (Or.inr ⟨by rfl, rfl⟩) ?_
   try simp only [Act.put, zA, zB, zC]
   refine tJ 47 (.bool true) (some 65) rfl (SK.drop (by simp)) (Or.inl ⟨by rfl, ?_⟩) ?_
   ·intro X hX
    clear hX
    go_simp
   try simp only [Act.put, zA, zB, zC]
   clear HAL
   refine done_I (by kernel_rfl) ?_ _
   go_wp2_with fail
   go_ret
   exact ⟨ret_bool R.out.symm, NN.out⟩
  have e1 : decide (sz < (0 : Int)) = false := decide_eq_false (by omega)
  by_cases q2 : sz ≤ 256
  rotate_left
  ·have e2 : decide ((256 : Int) < sz) = true := decide_eq_true (by omega)
   have R : Hid (res = false) := Lib.hid (BADK.out (by rw [ONE.out, OBJ.out]; simp [*]))
   clear BADK ONE OBJ FT BAD GOOD GD TS
   refine region_I (S := SK [(1, go, .cells #[.string nm, .int .i64 sz, .int .i64 f, .int .i64 m, .int .i64 g] 50), (5, w.heap.size, .cells #[.int .i64 d, .int .i64 p, dv, .slice (some ⟨b, off, none⟩) os.length c] 25), (7, go, .cells #[.string nm, .int .i64 sz, .int .i64 f, .int .i64 m, .int .i64 g] 50), (14, go, .cells #[.string nm, .int .i64 sz, .int .i64 f, .int .i64 m, .int .i64 g] 50), (19, go, .cells #[.string nm, .int .i64 sz, .int .i64 f, .int .i64 m, .int .i64 g] 50)]) (by kernel_rfl) ?_
   have HAL := Lib.hid (fun (k : Nat) => (show SK [(1, go, .cells #[.string nm, .int .i64 sz, .int .i64 f, .int .i64 m, .int .i64 g] 50), (5, w.heap.size, .cells #[.int .i64 d, .int .i64 p, dv, .slice (some ⟨b, off, none⟩) os.length c] 25), (7, go, .cells #[.string nm, .int .i64 sz, .int .i64 f, .int .i64 m, .int .i64 g] 50), (14, go, .cells #[.string nm, .int .i64 sz, .int .i64 f, .int .i64 m, .int .i64 g] 50), (19, go, .cells #[.string nm, .int .i64 sz, .int .i64 f, .int .i64 m, .int .i64 g] 50)] k W2.drew from fun p hp e => by
    simp only [List.mem_cons, List.not_mem_nil, or_false] at hp
    rcases hp with rfl | rfl | rfl | rfl | rfl
    ·exact OB.out
    ·exact SB.out
    ·exact OB.out
    ·exact OB.out
    ·exact OB.out))
   have HD := Lib.hid (Below.drew (Below.refl W2.heap.size W2))
   replace NN := Lib.hid (Bgo NN.out HD.out)
   replace HS := Lib.hid (HS.out.next HD.out)
   replace SB := Lib.hid (blk_next HD.out SB.out)
   replace OB := Lib.hid (blk_next HD.out OB.out)
   clear HD
   refine tJ 0 (.pointer (some ⟨go, 0, none⟩)) (some 18) rfl (SK.drop (by simp)) (Or.inl ⟨by rfl, ?_⟩) ?_
   ·intro X hX
    clear hX
    go_simp
   try simp only [Act.put, zA, zB, zC]
   refine tJ 1 (.string nm) (some 19) rfl (HAL.out 1) (Or.inl ⟨by rfl, ?_⟩) ?_
   ·intro X hX
    have hh := hX (1, go, .cells #[.string nm, .int .i64 sz, .int .i64 f, .int .i64 m, .int .i64 g] 50) (List.Mem.head _) rfl
    have hh0 := blk_cell hh 0 _ rfl
    have hhl := blk_lt hh
    clear hh
    clear hX
    go_simp
   try simp only [Act.put, zA, zB, zC]
   refine only_I 2 (by kernel_rfl) rfl (fun K' hK' => ?_)
   go_simp
   go_at_call 47
   refine (NC.out _).mono ?_
   rintro e x8 ⟨rfl, hb⟩
   replace NN := Lib.hid (Bgo NN.out hb)
   replace HS := Lib.hid (HS.out.next hb)
   replace SB := Lib.hid (blk_next hb SB.out)
   replace OB := Lib.hid (blk_next hb OB.out)
   go_simp
   refine hK'.out _ _ (fun k _ hS => hS.next hb) ?_
   clear hK' K'
   try simp only [Act.put, zA, zB, zC]
   replace HAL := Lib.hid (fun k => (HAL.out k).next hb)
   refine tJ 3 (.bool false) (some 21) rfl (SK.drop (by simp)) (Or.inl ⟨by rfl, ?_⟩) ?_
   ·intro X hX
    clear hX
    go_simp
   try simp only [Act.put, zA, zB, zC]
   refine tJ 4 (.bool false) (some 22) rfl (SK.drop (by simp)) (Or.inl ⟨by rfl, ?_⟩) ?_
   ·intro X hX
    clear hX
    go_simp
   try simp only [Act.put, zA, zB, zC]
   refine tJ 5 (.agg #[.int .i64 d, .int .i64 p, dv, .slice (some ⟨b, off, none⟩) os.length c]) (some 23) rfl (HAL.out 5) (Or.inl ⟨by rfl, ?_⟩) ?_
   ·intro X hX
    have hh := hX (5, w.heap.size, .cells #[.int .i64 d, .int .i64 p, dv, .slice (some ⟨b, off, none⟩) os.length c] 25) (List.Mem.tail _ (List.Mem.head _)) rfl
    have hh0 := blk_cell hh 0 _ rfl
    have hh1 := blk_cell hh 1 _ rfl
    have hh2 := blk_cell hh 2 _ rfl
    have hh3 := blk_cell hh 3 _ rfl
    have hhl := blk_lt hh
    clear hh
    clear hX
    go_simp
   try simp only [Act.put, zA, zB, zC]
   refine tJ 6 (.pointer (some ⟨go, 0, none⟩)) (some 24) rfl (SK.drop (by simp)) (Or.inl ⟨by rfl, ?_⟩) ?_
   ·intro X hX
    clear hX
    go_simp
   try simp only [Act.put, zA, zB, zC]
   refine tJ 7 (.string nm) (some 25) rfl (HAL.out 7) (Or.inl ⟨by rfl, ?_⟩) ?_
   ·intro X hX
    have hh := hX (7, go, .cells #[.string nm, .int .i64 sz, .int .i64 f, .int .i64 m, .int .i64 g] 50) (List.Mem.tail _ (List.Mem.tail _ (List.Mem.head _))) rfl
    have hh0 := blk_cell hh 0 _ rfl
    have hhl := blk_lt hh
    clear hh
    clear hX
    go_simp
   try simp only [Act.put, zA, zB, zC]
   refine tJ 9 (.int .i64 (k : Int)) (some 27) rfl (SK.drop (by simp)) (Or.inl ⟨by rfl, ?_⟩) ?_
   ·intro X hX
    clear hX
    go_simp
   try simp only [Act.put, zA, zB, zC]
   refine only_I 8 (by kernel_rfl) rfl (fun K' hK' => ?_)
   go_simp
   go_at_call 48
   refine (IC.out _ HS.out).mono ?_
   rintro e x9 ⟨rfl, hb⟩
   replace NN := Lib.hid (Bgo NN.out hb)
   replace HS := Lib.hid (HS.out.next hb)
   replace SB := Lib.hid (blk_next hb SB.out)
   replace OB := Lib.hid (blk_next hb OB.out)
   go_simp
   refine hK'.out _ _ (fun k _ hS => hS.next hb) ?_
   clear hK' K'
   try simp only [Act.put, zA, zB, zC]
   replace HAL := Lib.hid (fun k => (HAL.out k).next hb)
   refine tJ 10 (.bool false) (some 28) rfl (SK.drop (by simp)) (Or.inl ⟨by rfl, ?_⟩) ?_
   ·intro X hX
    clear hX
    go_simp
   try simp only [Act.put, zA, zB, zC]
   refine tJ 11 (.bool false) (some 29) rfl (SK.drop (by simp)) (Or.inl ⟨by rfl, ?_⟩) ?_
   ·intro X hX
    clear hX
    go_simp
   try simp only [Act.put, zA, zB, zC]
   refine tJ 12 (.bool false) (some 30) rfl (SK.drop (by simp)) (Or.inl ⟨by rfl, ?_⟩) ?_
   ·intro X hX
    clear hX
    go_simp
   try simp only [Act.put, zA, zB, zC]
   refine tJ 13 (.pointer (some ⟨go, 1, none⟩)) (some 31) rfl (SK.drop (by simp)) (Or.inl ⟨by rfl, ?_⟩) ?_
   ·intro X hX
    clear hX
    go_simp
   try simp only [Act.put, zA, zB, zC]
   refine tJ 14 (.int .i64 sz) (some 32) rfl (HAL.out 14) (Or.inl ⟨by rfl, ?_⟩) ?_
   ·intro X hX
    have hh := hX (14, go, .cells #[.string nm, .int .i64 sz, .int .i64 f, .int .i64 m, .int .i64 g] 50) (List.Mem.tail _ (List.Mem.tail _ (List.Mem.tail _ (List.Mem.head _)))) rfl
    have hh1 := blk_cell hh 1 _ rfl
    have hhl := blk_lt hh
    clear hh
    clear hX
    go_simp
   try simp only [Act.put, zA, zB, zC]
   refine tJ 15 (.bool false) (some 33) rfl (SK.drop (by simp)) (Or.inl ⟨by rfl, ?_⟩) ?_
   ·intro X hX
    clear hX
    go_simp
   try simp only [Act.put, zA, zB, zC]
   refine tJ 16 (.bool false) (some 34) rfl (SK.drop (by simp)) (Or.inl ⟨by rfl, ?_⟩) ?_
   ·intro X hX
    clear hX
    go_simp
   try simp only [Act.put, zA, zB, zC]
   refine tJ 17 (.bool false) (some 35) rfl (SK.drop (by simp)) (Or.inl ⟨by rfl, ?_⟩) ?_
   ·intro X hX
    clear hX
    go_simp
   try simp only [Act.put, zA, zB, zC]
   refine tJ 18 (.pointer (some ⟨go, 1, none⟩)) (some 36) rfl (SK.drop (by simp)) (Or.inl ⟨by rfl, ?_⟩) ?_
   ·intro X hX
    clear hX
    go_simp
   try simp only [Act.put, zA, zB, zC]
   refine tJ 19 (.int .i64 sz) (some 37) rfl (HAL.out 19) (Or.inl ⟨by rfl, ?_⟩) ?_
   ·intro X hX
    have hh := hX (19, go, .cells #[.string nm, .int .i64 sz, .int .i64 f, .int .i64 m, .int .i64 g] 50) (List.Mem.tail _ (List.Mem.tail _ (List.Mem.tail _ (List.Mem.tail _ (List.Mem.head _))))) rfl
    have hh1 := blk_cell hh 1 _ rfl
    have hhl := blk_lt hh
    clear hh
    clear hX
    go_simp
   try simp only [Act.put, zA, zB, zC]
   refine tJ 20 (.bool true) (some 38) rfl (SK.drop (by simp)) (Or.inl ⟨by rfl, ?_⟩) ?_
   ·intro X hX
    clear hX
    go_simp
   try simp only [Act.put, zA, zB, zC]
   refine tJ 21 (.bool true) (some 39) rfl (SK.drop (by simp)) (Or.inl ⟨by rfl, ?_⟩) ?_
   ·intro X hX
    clear hX
    go_simp
   try simp only [Act.put, zA, zB, zC]
   refine tJ 22 (.bool true) (some 40) rfl (SK.drop (by simp)) (Or.inl ⟨by rfl, ?_⟩) ?_
   ·intro X hX
    clear hX
    go_simp
   try simp only [Act.put, zA, zB, zC]
   refine tJ 23 undef (some 41) rfl (HAL.out 23) (Or.inr ⟨by rfl, rfl⟩) ?_
   try simp only [Act.put, zA, zB, zC]
   refine tJ 24 undef (some 42) rfl (HAL.out 24) (Or.inr ⟨by rfl, rfl⟩) ?_
   try simp only [Act.put, zA, zB, zC]
   refine tJ 25 undef (some 43) rfl (HAL.out 25) (Or.inr ⟨by rfl, rfl⟩) ?_
   try simp only [Act.put, zA, zB, zC]
   refine tJ 26 undef (some 44) rfl (HAL.out 26) (Or.inr ⟨by rfl, rfl⟩) ?_
   try simp only [Act.put, zA, zB, zC]
   refine tJ 27 undef (some 45) rfl (HAL.out 27) (Or.inr ⟨by rfl, rfl⟩) ?_
   try simp only [Act.put, zA, zB, zC]
   refine tJ 28 undef (some 46) rfl (HAL.out 28) (Or.inr ⟨by rfl, rfl⟩) ?_
   try simp only [Act.put, zA, zB, zC]
   refine tJ 29 undef (some 47) rfl (HAL.out 29) (Or.inr ⟨by rfl, rfl⟩) ?_
   try simp only [Act.put, zA, zB, zC]
   refine tJ 30 undef (some 48) rfl (HAL.out 30) (Or.inr ⟨by rfl, rfl⟩) ?_
   try simp only [Act.put, zA, zB, zC]
   refine tJ 31 (.bool true) (some 49) rfl (SK.drop (by simp)) (Or.inl ⟨by rfl, ?_⟩) ?_
   ·intro X hX
    clear hX
    go_simp
   try simp only [Act.put, zA, zB, zC]
   refine tJ 32 (.bool true) (some 50) rfl (SK.drop (by simp)) (Or.inl ⟨by rfl, ?_⟩) ?_
   ·intro X hX
    clear hX
    go_simp
   try simp only [Act.put, zA, zB, zC]
   refine tJ 33 undef (some 51) rfl (HAL.out 33) (Or.inr ⟨by rfl, rfl⟩) ?_
   try simp only [Act.put, zA, zB, zC]
   refine tJ 34 undef (some 52) rfl (HAL.out 34) (Or.inr ⟨by rfl, rfl⟩) ?_
   try simp only [Act.put, zA, zB, zC]
   refine tJ 35 undef (some 53) rfl (HAL.out 35) (Or.inr ⟨by rfl, rfl⟩) ?_
   try simp only [Act.put, zA, zB, zC]
   refine tJ 36 undef (some 54) rfl (HAL.out 36) (Or.inr ⟨by rfl, rfl⟩) ?_
   try simp only [Act.put, zA, zB, zC]
   refine tJ 37 (.bool true) (some 55) rfl (SK.drop (by simp)) (Or.inl ⟨by rfl, ?_⟩) ?_
   ·intro X hX
    clear hX
    go_simp
   try simp only [Act.put, zA, zB, zC]
   refine tJ 38 (.bool true) (some 56) rfl (SK.drop (by simp)) (Or.inl ⟨by rfl, ?_⟩) ?_
   ·intro X hX
    clear hX
    go_simp
   try simp only [Act.put, zA, zB, zC]
   refine tJ 39 undef (some 57) rfl (HAL.out 39) (Or.inr ⟨by rfl, rfl⟩) ?_
   try simp only [Act.put, zA, zB, zC]
   refine tJ 40 undef (some 58) rfl (HAL.out 40) (Or.inr ⟨by rfl, rfl⟩) ?_
   try simp only [Act.put, zA, zB, zC]
   refine tJ 41 undef (some 59) rfl (HAL.out 41) (Or.inr ⟨by rfl, rfl⟩) ?_
   try simp only [Act.put, zA, zB, zC]
   refine tJ 42 (.bool true) (some 60) rfl (SK.drop (by simp)) (Or.inl ⟨by rfl, ?_⟩) ?_
   ·intro X hX
    clear hX
    go_simp
   try simp only [Act.put, zA, zB, zC]
   refine tJ 43 (.bool true) (some 61) rfl (SK.drop (by simp)) (Or.inl ⟨by rfl, ?_⟩) ?_
   ·intro X hX
    clear hX
    go_simp
   try simp only [Act.put, zA, zB, zC]
   refine tJ 44 undef (some 62) rfl (HAL.out 44) (Or.inr ⟨by rfl, rfl⟩) ?_
   try simp only [Act.put, zA, zB, zC]
   refine tJ 45 undef (some 63) rfl (HAL.out 45) (Or.inr ⟨by rfl, rfl⟩) ?_
   try simp only [Act.put, zA, zB, zC]
   refine tJ 46 undef (some 64) rfl (HAL.out 46) (Or.inr ⟨by rfl, rfl⟩) ?_
   try simp only [Act.put, zA, zB, zC]
   refine tJ 47 (.bool true) (some 65) rfl (SK.drop (by simp)) (Or.inl ⟨by rfl, ?_⟩) ?_
   ·intro X hX
    clear hX
    go_simp
   try simp only [Act.put, zA, zB, zC]
   clear HAL
   refine done_I (by kernel_rfl) ?_ _
   go_wp2_with fail
   go_ret
   exact ⟨ret_bool R.out.symm, NN.out⟩
  have e2 : decide ((256 : Int) < sz) = false := decide_eq_false (by omega)
  replace NE := Lib.hid (fun W => NE.out W q1 q2)
  generalize hnd : ned sz d = nd at *
  have HND := Lib.hid hnd
  clear hnd
  by_cases q3 : m = nd
  rotate_left
  ·have e3 : (m != nd) = true := by rw [bne_iff_ne]; exact q3
   have R : Hid (res = false) := Lib.hid (BADK.out (by rw [ONE.out, OBJ.out]; simp [*]))
   clear BADK ONE OBJ FT BAD GOOD GD TS
   refine region_I (S := SK [(1, go, .cells #[.string nm, .int .i64 sz, .int .i64 f, .int .i64 m, .int .i64 g] 50), (5, w.heap.size, .cells #[.int .i64 d, .int .i64 p, dv, .slice (some ⟨b, off, none⟩) os.length c] 25), (7, go, .cells #[.string nm, .int .i64 sz, .int .i64 f, .int .i64 m, .int .i64 g] 50), (14, go, .cells #[.string nm, .int .i64 sz, .int .i64 f, .int .i64 m, .int .i64 g] 50), (19, go, .cells #[.string nm, .int .i64 sz, .int .i64 f, .int .i64 m, .int .i64 g] 50), (24, go, .cells #[.string nm, .int .i64 sz, .int .i64 f, .int .i64 m, .int .i64 g] 50), (26, go, .cells #[.string nm, .int .i64 sz, .int .i64 f, .int .i64 m, .int .i64 g] 50), (28, w.heap.size, .cells #[.int .i64 d, .int .i64 p, dv, .slice (some ⟨b, off, none⟩) os.length c] 25)]) (by kernel_rfl) ?_
   have HAL := Lib.hid (fun (k : Nat) => (show SK [(1, go, .cells #[.string nm, .int .i64 sz, .int .i64 f, .int .i64 m, .int .i64 g] 50), (5, w.heap.size, .cells #[.int .i64 d, .int .i64 p, dv, .slice (some ⟨b, off, none⟩) os.length c] 25), (7, go, .cells #[.string nm, .int .i64 sz, .int .i64 f, .int .i64 m, .int .i64 g] 50), (14, go, .cells #[.string nm, .int .i64 sz, .int .i64 f, .int .i64 m, .int .i64 g] 50), (19, go, .cells #[.string nm, .int .i64 sz, .int .i64 f, .int .i64 m, .int .i64 g] 50), (24, go, .cells #[.string nm, .int .i64 sz, .int .i64 f, .int .i64 m, .int .i64 g] 50), (26, go, .cells #[.string nm, .int .i64 sz, .int .i64 f, .int .i64 m, .int .i64 g] 50), (28, w.heap.size, .cells #[.int .i64 d, .int .i64 p, dv, .slice (some ⟨b, off, none⟩) os.length c] 25)] k W2.drew from fun p hp e => by
    simp only [List.mem_cons, List.not_mem_nil, or_false] at hp
    rcases hp with rfl | rfl | rfl | rfl | rfl | rfl | rfl | rfl
    ·exact OB.out
    ·exact SB.out
    ·exact OB.out
    ·exact OB.out
    ·exact OB.out
    ·exact OB.out
    ·exact OB.out
    ·exact SB.out))
   have HD := Lib.hid (Below.drew (Below.refl W2.heap.size W2))
   replace NN := Lib.hid (Bgo NN.out HD.out)
   replace HS := Lib.hid (HS.out.next HD.out)
   replace SB := Lib.hid (blk_next HD.out SB.out)
   replace OB := Lib.hid (blk_next HD.out OB.out)
   clear HD
   refine tJ 0 (.pointer (some ⟨go, 0, none⟩)) (some 18) rfl (SK.drop (by simp)) (Or.inl ⟨by rfl, ?_⟩) ?_
   ·intro X hX
    clear hX
    go_simp
   try simp only [Act.put, zA, zB, zC]
   refine tJ 1 (.string nm) (some 19) rfl (HAL.out 1) (Or.inl ⟨by rfl, ?_⟩) ?_
   ·intro X hX
    have hh := hX (1, go, .cells #[.string nm, .int .i64 sz, .int .i64 f, .int .i64 m, .int .i64 g] 50) (List.Mem.head _) rfl
    have hh0 := blk_cell hh 0 _ rfl
    have hhl := blk_lt hh
    clear hh
    clear hX
    go_simp
   try simp only [Act.put, zA, zB, zC]
   refine only_I 2 (by kernel_rfl) rfl (fun K' hK' => ?_)
   go_simp
   go_at_call 47
   refine (NC.out _).mono ?_
   rintro e x10 ⟨rfl, hb⟩
   replace NN := Lib.hid (Bgo NN.out hb)
   replace HS := Lib.hid (HS.out.next hb)
   replace SB := Lib.hid (blk_next hb SB.out)
   replace OB := Lib.hid (blk_next hb OB.out)
   go_simp
   refine hK'.out _ _ (fun k _ hS => hS.next hb) ?_
   clear hK' K'
   try simp only [Act.put, zA, zB, zC]
   replace HAL := Lib.hid (fun k => (HAL.out k).next hb)
   refine tJ 3 (.bool false) (some 21) rfl (SK.drop (by simp)) (Or.inl ⟨by rfl, ?_⟩) ?_
   ·intro X hX
    clear hX
    go_simp
   try simp only [Act.put, zA, zB, zC]
   refine tJ 4 (.bool false) (some 22) rfl (SK.drop (by simp)) (Or.inl ⟨by rfl, ?_⟩) ?_
   ·intro X hX
    clear hX
    go_simp
   try simp only [Act.put, zA, zB, zC]
   refine tJ 5 (.agg #[.int .i64 d, .int .i64 p, dv, .slice (some ⟨b, off, none⟩) os.length c]) (some 23) rfl (HAL.out 5) (Or.inl ⟨by rfl, ?_⟩) ?_
   ·intro X hX
    have hh := hX (5, w.heap.size, .cells #[.int .i64 d, .int .i64 p, dv, .slice (some ⟨b, off, none⟩) os.length c] 25) (List.Mem.tail _ (List.Mem.head _)) rfl
    have hh0 := blk_cell hh 0 _ rfl
    have hh1 := blk_cell hh 1 _ rfl
    have hh2 := blk_cell hh 2 _ rfl
    have hh3 := blk_cell hh 3 _ rfl
    have hhl := blk_lt hh
    clear hh
    clear hX
    go_simp
   try simp only [Act.put, zA, zB, zC]
   refine tJ 6 (.pointer (some ⟨go, 0, none⟩)) (some 24) rfl (SK.drop (by simp)) (Or.inl ⟨by rfl, ?_⟩) ?_
   ·intro X hX
    clear hX
    go_simp
   try simp only [Act.put, zA, zB, zC]
   refine tJ 7 (.string nm) (some 25) rfl (HAL.out 7) (Or.inl ⟨by rfl, ?_⟩) ?_
   ·intro X hX
    have hh := hX (7, go, .cells #[.string nm, .int .i64 sz, .int .i64 f, .int .i64 m, .int .i64 g] 50) (List.Mem.tail _ (List.Mem.tail _ (List.Mem.head _))) rfl
    have hh0 := blk_cell hh 0 _ rfl
    have hhl := blk_lt hh
    clear hh
    clear hX
    go_simp
   try simp only [Act.put, zA, zB, zC]
   refine tJ 9 (.int .i64 (k : Int)) (some 27) rfl (SK.drop (by simp)) (Or.inl ⟨by rfl, ?_⟩) ?_
   ·intro X hX
    clear hX
    go_simp
   try simp only [Act.put, zA, zB, zC]
   refine only_I 8 (by kernel_rfl) rfl (fun K' hK' => ?_)
   go_simp
   go_at_call 48
   refine (IC.out _ HS.out).mono ?_
   rintro e x11 ⟨rfl, hb⟩
   replace NN := Lib.hid (Bgo NN.out hb)
   replace HS := Lib.hid (HS.out.next hb)
   replace SB := Lib.hid (blk_next hb SB.out)
   replace OB := Lib.hid (blk_next hb OB.out)
   go_simp
   refine hK'.out _ _ (fun k _ hS => hS.next hb) ?_
   clear hK' K'
   try simp only [Act.put, zA, zB, zC]
   replace HAL := Lib.hid (fun k => (HAL.out k).next hb)
   refine tJ 10 (.bool false) (some 28) rfl (SK.drop (by simp)) (Or.inl ⟨by rfl, ?_⟩) ?_
   ·intro X hX
    clear hX
    go_simp
   try simp only [Act.put, zA, zB, zC]
   refine tJ 11 (.bool false) (some 29) rfl (SK.drop (by simp)) (Or.inl ⟨by rfl, ?_⟩) ?_
   ·intro X hX
    clear hX
    go_simp
   try simp only [Act.put, zA, zB, zC]
   refine tJ 12 (.bool false) (some 30) rfl (SK.drop (by simp)) (Or.inl ⟨by rfl, ?_⟩) ?_
   ·intro X hX
    clear hX
    go_simp
   try simp only [Act.put, zA, zB, zC]
   refine tJ 13 (.pointer (some ⟨go, 1, none⟩)) (some 31) rfl (SK.drop (by simp)) (Or.inl ⟨by rfl, ?_⟩) ?_
   ·intro X hX
    clear hX
    go_simp
   try simp only [Act.put, zA, zB, zC]
   refine tJ 14 (.int .i64 sz) (some 32) rfl (HAL.out 14) (Or.inl ⟨by rfl, ?_⟩) ?_
   ·intro X hX
    have hh := hX (14, go, .cells #[.string nm, .int .i64 sz, .int .i64 f, .int .i64 m, .int .i64 g] 50) (List.Mem.tail _ (List.Mem.tail _ (List.Mem.tail _ (List.Mem.head _)))) rfl
    have hh1 := blk_cell hh 1 _ rfl
    have hhl := blk_lt hh
    clear hh
    clear hX
    go_simp
   try simp only [Act.put, zA, zB, zC]
   refine tJ 15 (.bool false) (some 33) rfl (SK.drop (by simp)) (Or.inl ⟨by rfl, ?_⟩) ?_
   ·intro X hX
    clear hX
    go_simp
   try simp only [Act.put, zA, zB, zC]
   refine tJ 16 (.bool false) (some 34) rfl (SK.drop (by simp)) (Or.inl ⟨by rfl, ?_⟩) ?_
   ·intro X hX
    clear hX
    go_simp
   try simp only [Act.put, zA, zB, zC]
   refine tJ 17 (.bool false) (some 35) rfl (SK.drop (by simp)) (Or.inl ⟨by rfl, ?_⟩) ?_
   ·intro X hX
    clear hX
    go_simp
   try simp only [Act.put, zA, zB, zC]
   refine tJ 18 (.pointer (some ⟨go, 1, none⟩)) (some 36) rfl (SK.drop (by simp)) (Or.inl ⟨by rfl, ?_⟩) ?_
   ·intro X hX
    clear hX
    go_simp
   try simp only [Act.put, zA, zB, zC]
   refine tJ 19 (.int .i64 sz) (some 37) rfl (HAL.out 19) (Or.inl ⟨by rfl, ?_⟩) ?_
   ·intro X hX
    have hh := hX (19, go, .cells #[.string nm, .int .i64 sz, .int .i64 f, .int .i64 m, .int .i64 g] 50) (List.Mem.tail _ (List.Mem.tail _ (List.Mem.tail _ (List.Mem.tail _ (List.Mem.head _))))) rfl
    have hh1 := blk_cell hh 1 _ rfl
    have hhl := blk_lt hh
    clear hh
    clear hX
    go_simp
   try simp only [Act.put, zA, zB, zC]
   refine tJ 20 (.bool false) (some 38) rfl (SK.drop (by simp)) (Or.inl ⟨by rfl, ?_⟩) ?_
   ·intro X hX
    clear hX
    go_simp
   try simp only [Act.put, zA, zB, zC]
   refine tJ 21 (.bool false) (some 39) rfl (SK.drop (by simp)) (Or.inl ⟨by rfl, ?_⟩) ?_
   ·intro X hX
    clear hX
    go_simp
   try simp only [Act.put, zA, zB, zC]
   refine tJ 22 (.bool false) (some 40) rfl (SK.drop (by simp)) (Or.inl ⟨by rfl, ?_⟩) ?_
   ·intro X hX
    clear hX
    go_simp
   try simp only [Act.put, zA, zB, zC]
   refine tJ 23 (.pointer (some ⟨go, 3, none⟩)) (some 41) rfl (SK.drop (by simp)) (Or.inl ⟨by rfl, ?_⟩) ?_
   ·intro X hX
    clear hX
    go_simp
   try simp only [Act.put, zA, zB, zC]
   refine tJ 24 (.int .i64 m) (some 42) rfl (HAL.out 24) (Or.inl ⟨by rfl, ?_⟩) ?_
   ·intro X hX
    have hh := hX (24, go, .cells #[.string nm, .int .i64 sz, .int .i64 f, .int .i64 m, .int .i64 g] 50) (List.Mem.tail _ (List.Mem.tail _ (List.Mem.tail _ (List.Mem.tail _ (List.Mem.tail _ (List.Mem.head _)))))) rfl
    have hh3 := blk_cell hh 3 _ rfl
    have hhl := blk_lt hh
    clear hh
    clear hX
    go_simp
   try simp only [Act.put, zA, zB, zC]
   refine tJ 25 (.pointer (some ⟨go, 1, none⟩)) (some 43) rfl (SK.drop (by simp)) (Or.inl ⟨by rfl, ?_⟩) ?_
   ·intro X hX
    clear hX
    go_simp
   try simp only [Act.put, zA, zB, zC]
   refine tJ 26 (.int .i64 sz) (some 44) rfl (HAL.out 26) (Or.inl ⟨by rfl, ?_⟩) ?_
   ·intro X hX
    have hh := hX (26, go, .cells #[.string nm, .int .i64 sz, .int .i64 f, .int .i64 m, .int .i64 g] 50) (List.Mem.tail _ (List.Mem.tail _ (List.Mem.tail _ (List.Mem.tail _ (List.Mem.tail _ (List.Mem.tail _ (List.Mem.head _))))))) rfl
    have hh1 := blk_cell hh 1 _ rfl
    have hhl := blk_lt hh
    clear hh
    clear hX
    go_simp
   try simp only [Act.put, zA, zB, zC]
   refine tJ 27 (.pointer (some ⟨w.heap.size, 0, none⟩)) (some 45) rfl (SK.drop (by simp)) (Or.inl ⟨by rfl, ?_⟩) ?_
   ·intro X hX
    clear hX
    go_simp
   try simp only [Act.put, zA, zB, zC]
   refine tJ 28 (.int .i64 d) (some 46) rfl (HAL.out 28) (Or.inl ⟨by rfl, ?_⟩) ?_
   ·intro X hX
    have hh := hX (28, w.heap.size, .cells #[.int .i64 d, .int .i64 p, dv, .slice (some ⟨b, off, none⟩) os.length c] 25) (List.Mem.tail _ (List.Mem.tail _ (List.Mem.tail _ (List.Mem.tail _ (List.Mem.tail _ (List.Mem.tail _ (List.Mem.tail _ (List.Mem.head _)))))))) rfl
    have hh0 := blk_cell hh 0 _ rfl
    have hhl := blk_lt hh
    clear hh
    clear hX
    go_simp
   try simp only [Act.put, zA, zB, zC]
   refine only_I 29 (by kernel_rfl) rfl (fun K' hK' => ?_)
   go_simp
   go_at_call 49
   refine (NE.out _).mono ?_
   rintro e x12 ⟨rfl, hb⟩
   replace NN := Lib.hid (Bgo NN.out hb)
   replace HS := Lib.hid (HS.out.next hb)
   replace SB := Lib.hid (blk_next hb SB.out)
   replace OB := Lib.hid (blk_next hb OB.out)
   go_simp
   refine hK'.out _ _ (fun k _ hS => hS.next hb) ?_
   clear hK' K'
   try simp only [Act.put, zA, zB, zC]
   replace HAL := Lib.hid (fun k => (HAL.out k).next hb)
   refine tJ 30 (.bool true) (some 48) rfl (SK.drop (by simp)) (Or.inl ⟨by rfl, ?_⟩) ?_
   ·intro X hX
    clear hX
    go_simp
   try simp only [Act.put, zA, zB, zC]
   refine tJ 31 (.bool true) (some 49) rfl (SK.drop (by simp)) (Or.inl ⟨by rfl, ?_⟩) ?_
   ·intro X hX
    clear hX
    go_simp
   try simp only [Act.put, zA, zB, zC]
   refine tJ 32 (.bool true) (some 50) rfl (SK.drop (by simp)) (Or.inl ⟨by rfl, ?_⟩) ?_
   ·intro X hX
    clear hX
    go_simp
   try simp only [Act.put, zA, zB, zC]
   refine tJ 33 undef (some 51) rfl (HAL.out 33) (Or.inr ⟨by rfl, rfl⟩) ?_
   try simp only [Act.put, zA, zB, zC]
   refine tJ 34 undef (some 52) rfl (HAL.out 34) (Or.inr ⟨by rfl, rfl⟩) ?_
   try simp only [Act.put, zA, zB, zC]
   refine tJ 35 undef (some 53) rfl (HAL.out 35) (Or.inr ⟨by rfl, rfl⟩) ?_
   try simp only [Act.put, zA, zB, zC]
   refine tJ 36 undef (some 54) rfl (HAL.out 36) (Or.inr ⟨by rfl, rfl⟩) ?_
   try simp only [Act.put, zA, zB, zC]
   refine tJ 37 (.bool true) (some 55) rfl (SK.drop (by simp)) (Or.inl ⟨by rfl, ?_⟩) ?_
   ·intro X hX
    clear hX
    go_simp
   try simp only [Act.put, zA, zB, zC]
   refine tJ 38 (.bool true) (some 56) rfl (SK.drop (by simp)) (Or.inl ⟨by rfl, ?_⟩) ?_
   ·intro X hX
    clear hX
    go_simp
   try simp only [Act.put, zA, zB, zC]
   refine tJ 39 undef (some 57) rfl (HAL.out 39) (Or.inr ⟨by rfl, rfl⟩) ?_
   try simp only [Act.put, zA, zB, zC]
   refine tJ 40 undef (some 58) rfl (HAL.out 40) (Or.inr ⟨by rfl, rfl⟩) ?_
   try simp only [Act.put, zA, zB, zC]
   refine tJ 41 undef (some 59) rfl (HAL.out 41) (Or.inr ⟨by rfl, rfl⟩) ?_
   try simp only [Act.put, zA, zB, zC]
   refine tJ 42 (.bool true) (some 60) rfl (SK.drop (by simp)) (Or.inl ⟨by rfl, ?_⟩) ?_
   ·intro X hX
    clear hX
    go_simp
   try simp only [Act.put, zA, zB, zC]
   refine tJ 43 (.bool true) (some 61) rfl (SK.drop (by simp)) (Or.inl ⟨by rfl, ?_⟩) ?_
   ·intro X hX
    clear hX
    go_simp
   try simp only [Act.put, zA, zB, zC]
   refine tJ 44 undef (some 62) rfl (HAL.out 44) (Or.inr ⟨by rfl, rfl⟩) ?_
   try simp only [Act.put, zA, zB, zC]
   refine tJ 45 undef (some 63) rfl (HAL.out 45) (Or.inr ⟨by rfl, rfl⟩) ?_
   try simp only [Act.put, zA, zB, zC]
   refine tJ 46 undef (some 64) rfl (HAL.out 46) (Or.inr ⟨by rfl, rfl⟩) ?_
   try simp only [Act.put, zA, zB, zC]
   refine tJ 47 (.bool true) (some 65) rfl (SK.drop (by simp)) (Or.inl ⟨by rfl, ?_⟩) ?_
   ·intro X hX
    clear hX
    go_simp
   try simp only [Act.put, zA, zB, zC]
   clear HAL
   refine done_I (by kernel_rfl) ?_ _
   go_wp2_with fail
   go_ret
   exact ⟨ret_bool R.out.symm, NN.out⟩
  have e3 : (m != nd) = false := by rw [bne_eq_false_iff_eq]; exact q3
  have HQ3 := Lib.hid q3
  clear q3
  by_cases q4 : f = t
  rotate_left
  ·have e4 : (f != t) = true := by rw [bne_iff_ne]; exact q4
   have R : Hid (res = false) := Lib.hid (BADK.out (by rw [ONE.out, OBJ.out]; simp [*]))
   clear BADK ONE OBJ FT BAD GOOD GD TS
   refine region_I (S := SK [(1, go, .cells #[.string nm, .int .i64 sz, .int .i64 f, .int .i64 m, .int .i64 g] 50), (5, w.heap.size, .cells #[.int .i64 d, .int .i64 p, dv, .slice (some ⟨b, off, none⟩) os.length c] 25), (7, go, .cells #[.string nm, .int .i64 sz, .int .i64 f, .int .i64 m, .int .i64 g] 50), (14, go, .cells #[.string nm, .int .i64 sz, .int .i64 f, .int .i64 m, .int .i64 g] 50), (19, go, .cells #[.string nm, .int .i64 sz, .int .i64 f, .int .i64 m, .int .i64 g] 50), (24, go, .cells #[.string nm, .int .i64 sz, .int .i64 f, .int .i64 m, .int .i64 g] 50), (26, go, .cells #[.string nm, .int .i64 sz, .int .i64 f, .int .i64 m, .int .i64 g] 50), (28, w.heap.size, .cells #[.int .i64 d, .int .i64 p, dv, .slice (some ⟨b, off, none⟩) os.length c] 25), (34, go, .cells #[.string nm, .int .i64 sz, .int .i64 f, .int .i64 m, .int .i64 g] 50)]) (by kernel_rfl) ?_
   have HAL := Lib.hid (fun (k : Nat) => (show SK [(1, go, .cells #[.string nm, .int .i64 sz, .int .i64 f, .int .i64 m, .int .i64 g] 50), (5, w.heap.size, .cells #[.int .i64 d, .int .i64 p, dv, .slice (some ⟨b, off, none⟩) os.length c] 25), (7, go, .cells #[.string nm, .int .i64 sz, .int .i64 f, .int .i64 m, .int .i64 g] 50), (14, go, .cells #[.string nm, .int .i64 sz, .int .i64 f, .int .i64 m, .int .i64 g] 50), (19, go, .cells #[.string nm, .int .i64 sz, .int .i64 f, .int .i64 m, .int .i64 g] 50), (24, go, .cells #[.string nm, .int .i64 sz, .int .i64 f, .int .i64 m, .int .i64 g] 50), (26, go, .cells #[.string nm, .int .i64 sz, .int .i64 f, .int .i64 m, .int .i64 g] 50), (28, w.heap.size, .cells #[.int .i64 d, .int .i64 p, dv, .slice (some ⟨b, off, none⟩) os.length c] 25), (34, go, .cells #[.string nm, .int .i64 sz, .int .i64 f, .int .i64 m, .int .i64 g] 50)] k W2.drew from fun p hp e => by
    simp only [List.mem_cons, List.not_mem_nil, or_false] at hp
    rcases hp with rfl | rfl | rfl | rfl | rfl | rfl | rfl | rfl | rfl
    ·exact OB.out
    ·exact SB.out
    ·exact OB.out
    ·exact OB.out
    ·exact OB.out
    ·exact OB.out
    ·exact OB.out
    ·exact SB.out
    ·exact OB.out))
   have HD := Lib.hid (Below.drew (Below.refl W2.heap.size W2))
   replace NN := Lib.hid (Bgo NN.out HD.out)
   replace HS := Lib.hid (HS.out.next HD.out)
   replace SB := Lib.hid (blk_next HD.out SB.out)
   replace OB := Lib.hid (blk_next HD.out OB.out)
   clear HD
   refine tJ 0 (.pointer (some ⟨go, 0, none⟩)) (some 18) rfl (SK.drop (by simp)) (Or.inl ⟨by rfl, ?_⟩) ?_
   ·intro X hX
    clear hX
    go_simp
   try simp only [Act.put, zA, zB, zC]
   refine tJ 1 (.string nm) (some 19) rfl (HAL.out 1) (Or.inl ⟨by rfl, ?_⟩) ?_
   ·intro X hX
    have hh := hX (1, go, .cells #[.string nm, .int .i64 sz, .int .i64 f, .int .i64 m, .int .i64 g] 50) (List.Mem.head _) rfl
    have hh0 := blk_cell hh 0 _ rfl
    have hhl := blk_lt hh
    clear hh
    clear hX
    go_simp
   try simp only [Act.put, zA, zB, zC]
   refine only_I 2 (by kernel_rfl) rfl (fun K' hK' => ?_)
   go_simp
   go_at_call 47
   refine (NC.out _).mono ?_
   rintro e x13 ⟨rfl, hb⟩
   replace NN := Lib.hid (Bgo NN.out hb)
   replace HS := Lib.hid (HS.out.next hb)
   replace SB := Lib.hid (blk_next hb SB.out)
   replace OB := Lib.hid (blk_next hb OB.out)
   go_simp
   refine hK'.out _ _ (fun k _ hS => hS.next hb) ?_
   clear hK' K'
   try simp only [Act.put, zA, zB, zC]
   replace HAL := Lib.hid (fun k => (HAL.out k).next hb)
   refine tJ 3 (.bool false) (some 21) rfl (SK.drop (by simp)) (Or.inl ⟨by rfl, ?_⟩) ?_
   ·intro X hX
    clear hX
    go_simp
   try simp only [Act.put, zA, zB, zC]
   refine tJ 4 (.bool false) (some 22) rfl (SK.drop (by simp)) (Or.inl ⟨by rfl, ?_⟩) ?_
   ·intro X hX
    clear hX
    go_simp
   try simp only [Act.put, zA, zB, zC]
   refine tJ 5 (.agg #[.int .i64 d, .int .i64 p, dv, .slice (some ⟨b, off, none⟩) os.length c]) (some 23) rfl (HAL.out 5) (Or.inl ⟨by rfl, ?_⟩) ?_
   ·intro X hX
    have hh := hX (5, w.heap.size, .cells #[.int .i64 d, .int .i64 p, dv, .slice (some ⟨b, off, none⟩) os.length c] 25) (List.Mem.tail _ (List.Mem.head _)) rfl
    have hh0 := blk_cell hh 0 _ rfl
    have hh1 := blk_cell hh 1 _ rfl
    have hh2 := blk_cell hh 2 _ rfl
    have hh3 := blk_cell hh 3 _ rfl
    have hhl := blk_lt hh
    clear hh
    clear hX
    go_simp
   try simp only [Act.put, zA, zB, zC]
   refine tJ 6 (.pointer (some ⟨go, 0, none⟩)) (some 24) rfl (SK.drop (by simp)) (Or.inl ⟨by rfl, ?_⟩) ?_
   ·intro X hX
    clear hX
    go_simp
   try simp only [Act.put, zA, zB, zC]
   refine tJ 7 (.string nm) (some 25) rfl (HAL.out 7) (Or.inl ⟨by rfl, ?_⟩) ?_
   ·intro X hX
    have hh := hX (7, go, .cells #[.string nm, .int .i64 sz, .int .i64 f, .int .i64 m, .int .i64 g] 50) (List.Mem.tail _ (List.Mem.tail _ (List.Mem.head _))) rfl
    have hh0 := blk_cell hh 0 _ rfl
    have hhl := blk_lt hh
    clear hh
    clear hX
    go_simp
   try simp only [Act.put, zA, zB, zC]
   refine tJ 9 (.int .i64 (k : Int)) (some 27) rfl (SK.drop (by simp)) (Or.inl ⟨by rfl, ?_⟩) ?_
   ·intro X hX
    clear hX
    go_simp
   try simp only [Act.put, zA, zB, zC]
   refine only_I 8 (by kernel_rfl) rfl (fun K' hK' => ?_)
   go_simp
   go_at_call 48
   refine (IC.out _ HS.out).mono ?_
   rintro e x14 ⟨rfl, hb⟩
   replace NN := Lib.hid (Bgo NN.out hb)
   replace HS := Lib.hid (HS.out.next hb)
   replace SB := Lib.hid (blk_next hb SB.out)
   replace OB := Lib.hid (blk_next hb OB.out)
   go_simp
   refine hK'.out _ _ (fun k _ hS => hS.next hb) ?_
   clear hK' K'
   try simp only [Act.put, zA, zB, zC]
   replace HAL := Lib.hid (fun k => (HAL.out k).next hb)
   refine tJ 10 (.bool false) (some 28) rfl (SK.drop (by simp)) (Or.inl ⟨by rfl, ?_⟩) ?_
   ·intro X hX
    clear hX
    go_simp
   try simp only [Act.put, zA, zB, zC]
   refine tJ 11 (.bool false) (some 29) rfl (SK.drop (by simp)) (Or.inl ⟨by rfl, ?_⟩) ?_
   ·intro X hX
    clear hX
    go_simp
   try simp only [Act.put, zA, zB, zC]
   refine tJ 12 (.bool false) (some 30) rfl (SK.drop (by simp)) (Or.inl ⟨by rfl, ?_⟩) ?_
   ·intro X hX
    clear hX
    go_simp
   try simp only [Act.put, zA, zB, zC]
   refine tJ 13 (.pointer (some ⟨go, 1, none⟩)) (some 31) rfl (SK.drop (by simp)) (Or.inl ⟨by rfl, ?_⟩) ?_
   ·intro X hX
    clear hX
    go_simp
   try simp only [Act.put, zA, zB, zC]
   refine tJ 14 (.int .i64 sz) (some 32) rfl (HAL.out 14) (Or.inl ⟨by rfl, ?_⟩) ?_
   ·intro X hX
    have hh := hX (14, go, .cells #[.string nm, .int .i64 sz, .int .i64 f, .int .i64 m, .int .i64 g] 50) (List.Mem.tail _ (List.Mem.tail _ (List.Mem.tail _ (List.Mem.head _)))) rfl
    have hh1 := blk_cell hh 1 _ rfl
    have hhl := blk_lt hh
    clear hh
    clear hX
    go_simp
   try simp only [Act.put, zA, zB, zC]
   refine tJ 15 (.bool false) (some 33) rfl (SK.drop (by simp)) (Or.inl ⟨by rfl, ?_⟩) ?_
   ·intro X hX
    clear hX
    go_simp
   try simp only [Act.put, zA, zB, zC]
   refine tJ 16 (.bool false) (some 34) rfl (SK.drop (by simp)) (Or.inl ⟨by rfl, ?_⟩) ?_
   ·intro X hX
    clear hX
    go_simp
   try simp only [Act.put, zA, zB, zC]
   refine tJ 17 (.bool false) (some 35) rfl (SK.drop (by simp)) (Or.inl ⟨by rfl, ?_⟩) ?_
   ·intro X hX
    clear hX
    go_simp
   try simp only [Act.put, zA, zB, zC]
   refine tJ 18 (.pointer (some ⟨go, 1, none⟩)) (some 36) rfl (SK.drop (by simp)) (Or.inl ⟨by rfl, ?_⟩) ?_
   ·intro X hX
    clear hX
    go_simp
   try simp only [Act.put, zA, zB, zC]
   refine tJ 19 (.int .i64 sz) (some 37) rfl (HAL.out 19) (Or.inl ⟨by rfl, ?_⟩) ?_
   ·intro X hX
    have hh := hX (19, go, .cells #[.string nm, .int .i64 sz, .int .i64 f, .int .i64 m, .int .i64 g] 50) (List.Mem.tail _ (List.Mem.tail _ (List.Mem.tail _ (List.Mem.tail _ (List.Mem.head _))))) rfl
    have hh1 := blk_cell hh 1 _ rfl
    have hhl := blk_lt hh
    clear hh
    clear hX
    go_simp
   try simp only [Act.put, zA, zB, zC]
   refine tJ 20 (.bool false) (some 38) rfl (SK.drop (by simp)) (Or.inl ⟨by rfl, ?_⟩) ?_
   ·intro X hX
    clear hX
    go_simp
   try simp only [Act.put, zA, zB, zC]
   refine tJ 21 (.bool false) (some 39) rfl (SK.drop (by simp)) (Or.inl ⟨by rfl, ?_⟩) ?_
   ·intro X hX
    clear hX
    go_simp
   try simp only [Act.put, zA, zB, zC]
   refine tJ 22 (.bool false) (some 40) rfl (SK.drop (by simp)) (Or.inl ⟨by rfl, ?_⟩) ?_
   ·intro X hX
    clear hX
    go_simp
   try simp only [Act.put, zA, zB, zC]
   refine tJ 23 (.pointer (some ⟨go, 3, none⟩)) (some 41) rfl (SK.drop (by simp)) (Or.inl ⟨by rfl, ?_⟩) ?_
   ·intro X hX
    clear hX
    go_simp
   try simp only [Act.put, zA, zB, zC]
   refine tJ 24 (.int .i64 m) (some 42) rfl (HAL.out 24) (Or.inl ⟨by rfl, ?_⟩) ?_
   ·intro X hX
    have hh := hX (24, go, .cells #[.string nm, .int .i64 sz, .int .i64 f, .int .i64 m, .int .i64 g] 50) (List.Mem.tail _ (List.Mem.tail _ (List.Mem.tail _ (List.Mem.tail _ (List.Mem.tail _ (List.Mem.head _)))))) rfl
    have hh3 := blk_cell hh 3 _ rfl
    have hhl := blk_lt hh
    clear hh
    clear hX
    go_simp
   try simp only [Act.put, zA, zB, zC]
   refine tJ 25 (.pointer (some ⟨go, 1, none⟩)) (some 43) rfl (SK.drop (by simp)) (Or.inl ⟨by rfl, ?_⟩) ?_
   ·intro X hX
    clear hX
    go_simp
   try simp only [Act.put, zA, zB, zC]
   refine tJ 26 (.int .i64 sz) (some 44) rfl (HAL.out 26) (Or.inl ⟨by rfl, ?_⟩) ?_
   ·intro X hX
    have hh := hX (26, go, .cells #[.string nm, .int .i64 sz, .int .i64 f, .int .i64 m, .int .i64 g] 50) (List.Mem.tail _ (List.Mem.tail _ (List.Mem.tail _ (List.Mem.tail _ (List.Mem.tail _ (List.Mem.tail _ (List.Mem.head _))))))) rfl
    have hh1 := blk_cell hh 1 _ rfl
    have hhl := blk_lt hh
    clear hh
    clear hX
    go_simp
   try simp only [Act.put, zA, zB, zC]
   refine tJ 27 (.pointer (some ⟨w.heap.size, 0, none⟩)) (some 45) rfl (SK.drop (by simp)) (Or.inl ⟨by rfl, ?_⟩) ?_
   ·intro X hX
    clear hX
    go_simp
   try simp only [Act.put, zA, zB, zC]
   refine tJ 28 (.int .i64 d) (some 46) rfl (HAL.out 28) (Or.inl ⟨by rfl, ?_⟩) ?_
   ·intro X hX
    have hh := hX (28, w.heap.size, .cells #[.int .i64 d, .int .i64 p, dv, .slice (some ⟨b, off, none⟩) os.length c] 25) (List.Mem.tail _ (List.Mem.tail _ (List.Mem.tail _ (List.Mem.tail _ (List.Mem.tail _ (List.Mem.tail _ (List.Mem.tail _ (List.Mem.head _)))))))) rfl
    have hh0 := blk_cell hh 0 _ rfl
    have hhl := blk_lt hh
    clear hh
    clear hX
    go_simp
   try simp only [Act.put, zA, zB, zC]
   refine only_I 29 (by kernel_rfl) rfl (fun K' hK' => ?_)
   go_simp
   go_at_call 49
   refine (NE.out _).mono ?_
   rintro e x15 ⟨rfl, hb⟩
   replace NN := Lib.hid (Bgo NN.out hb)
   replace HS := Lib.hid (HS.out.next hb)
   replace SB := Lib.hid (blk_next hb SB.out)
   replace OB := Lib.hid (blk_next hb OB.out)
   go_simp
   refine hK'.out _ _ (fun k _ hS => hS.next hb) ?_
   clear hK' K'
   try simp only [Act.put, zA, zB, zC]
   replace HAL := Lib.hid (fun k => (HAL.out k).next hb)
   refine tJ 30 (.bool false) (some 48) rfl (SK.drop (by simp)) (Or.inl ⟨by rfl, ?_⟩) ?_
   ·intro X hX
    clear hX
    go_simp
   try simp only [Act.put, zA, zB, zC]
   refine tJ 31 (.bool false) (some 49) rfl (SK.drop (by simp)) (Or.inl ⟨by rfl, ?_⟩) ?_
   ·intro X hX
    clear hX
    go_simp
   try simp only [Act.put, zA, zB, zC]
   refine tJ 32 (.bool false) (some 50) rfl (SK.drop (by simp)) (Or.inl ⟨by rfl, ?_⟩) ?_
   ·intro X hX
    clear hX
    go_simp
   try simp only [Act.put, zA, zB, zC]
   refine tJ 33 (.pointer (some ⟨go, 2, none⟩)) (some 51) rfl (SK.drop (by simp)) (Or.inl ⟨by rfl, ?_⟩) ?_
   ·intro X hX
    clear hX
    go_simp
   try simp only [Act.put, zA, zB, zC]
   refine tJ 34 (.int .i64 f) (some 52) rfl (HAL.out 34) (Or.inl ⟨by rfl, ?_⟩) ?_
   ·intro X hX
    have hh := hX (34, go, .cells #[.string nm, .int .i64 sz, .int .i64 f, .int .i64 m, .int .i64 g] 50) (List.Mem.tail _ (List.Mem.tail _ (List.Mem.tail _ (List.Mem.tail _ (List.Mem.tail _ (List.Mem.tail _ (List.Mem.tail _ (List.Mem.tail _ (List.Mem.head _))))))))) rfl
    have hh2 := blk_cell hh 2 _ rfl
    have hhl := blk_lt hh
    clear hh
    clear hX
    go_simp
   try simp only [Act.put, zA, zB, zC]
   refine tJ 35 (.int .i64 t) (some 53) rfl (SK.drop (by simp)) (Or.inl ⟨by rfl, ?_⟩) ?_
   ·intro X hX
    clear hX
    go_simp
   try simp only [Act.put, zA, zB, zC]
   refine tJ 36 (.bool true) (some 54) rfl (SK.drop (by simp)) (Or.inl ⟨by rfl, ?_⟩) ?_
   ·intro X hX
    clear hX
    go_simp
   try simp only [Act.put, zA, zB, zC]
   refine tJ 37 (.bool true) (some 55) rfl (SK.drop (by simp)) (Or.inl ⟨by rfl, ?_⟩) ?_
   ·intro X hX
    clear hX
    go_simp
   try simp only [Act.put, zA, zB, zC]
   refine tJ 38 (.bool true) (some 56) rfl (SK.drop (by simp)) (Or.inl ⟨by rfl, ?_⟩) ?_
   ·intro X hX
    clear hX
    go_simp
   try simp only [Act.put, zA, zB, zC]
   refine tJ 39 undef (some 57) rfl (HAL.out 39) (Or.inr ⟨by rfl, rfl⟩) ?_
   try simp only [Act.put, zA, zB, zC]
   refine tJ 40 undef (some 58) rfl (HAL.out 40) (Or.inr ⟨by rfl, rfl⟩) ?_
   try simp only [Act.put, zA, zB, zC]
   refine tJ 41 undef (some 59) rfl (HAL.out 41) (Or.inr ⟨by rfl, rfl⟩) ?_
   try simp only [Act.put, zA, zB, zC]
   refine tJ 42 (.bool true) (some 60) rfl (SK.drop (by simp)) (Or.inl ⟨by rfl, ?_⟩) ?_
   ·intro X hX
    clear hX
    go_simp
   try simp only [Act.put, zA, zB, zC]
   refine tJ 43 (.bool true) (some 61) rfl (SK.drop (by simp)) (Or.inl ⟨by rfl, ?_⟩) ?_
   ·intro X hX
    clear hX
    go_simp
   try simp only [Act.put, zA, zB, zC]
   refine tJ 44 undef (some 62) rfl (HAL.out 44) (Or.inr ⟨by rfl, rfl⟩) ?_
   try simp only [Act.put, zA, zB, zC]
   refine tJ 45 undef (some 63) rfl (HAL.out 45) (Or.inr ⟨by rfl, rfl⟩) ?_
   try simp only [Act.put, zA, zB, zC]
   refine tJ 46 undef (some 64) rfl (HAL.out 46) (Or.inr ⟨by rfl, rfl⟩) ?_
   try simp only [Act.put, zA, zB, zC]
   refine tJ 47 (.bool true) (some 65) rfl (SK.drop (by simp)) (Or.inl ⟨by rfl, ?_⟩) ?_
   ·intro X hX
    clear hX
    go_simp
   try simp only [Act.put, zA, zB, zC]
   clear HAL
   refine done_I (by kernel_rfl) ?_ _
   go_wp2_with fail
   go_ret
   exact ⟨ret_bool R.out.symm, NN.out⟩
  have e4 : (f != t) = false := by rw [bne_eq_false_iff_eq]; exact q4
  have HQ4 := Lib.hid q4
  clear q4
  by_cases q5 : 0 ≤ g
  rotate_left
  ·have e5 : decide (g < (0 : Int)) = true := decide_eq_true (by omega)
   have R : Hid (res = false) := Lib.hid (BADK.out (by rw [ONE.out, OBJ.out]; simp [*]))
   clear BADK ONE OBJ FT BAD GOOD GD TS
   refine region_I (S := SK [(1, go, .cells #[.string nm, .int .i64 sz, .int .i64 f, .int .i64 m, .int .i64 g] 50), (5, w.heap.size, .cells #[.int .i64 d, .int .i64 p, dv, .slice (some ⟨b, off, none⟩) os.length c] 25), (7, go, .cells #[.string nm, .int .i64 sz, .int .i64 f, .int .i64 m, .int .i64 g] 50), (14, go, .cells #[.string nm, .int .i64 sz, .int .i64 f, .int .i64 m, .int .i64 g] 50), (19, go, .cells #[.string nm, .int .i64 sz, .int .i64 f, .int .i64 m, .int .i64 g] 50), (24, go, .cells #[.string nm, .int .i64 sz, .int .i64 f, .int .i64 m, .int .i64 g] 50), (26, go, .cells #[.string nm, .int .i64 sz, .int .i64 f, .int .i64 m, .int .i64 g] 50), (28, w.heap.size, .cells #[.int .i64 d, .int .i64 p, dv, .slice (some ⟨b, off, none⟩) os.length c] 25), (34, go, .cells #[.string nm, .int .i64 sz, .int .i64 f, .int .i64 m, .int .i64 g] 50), (40, go, .cells #[.string nm, .int .i64 sz, .int .i64 f, .int .i64 m, .int .i64 g] 50)]) (by kernel_rfl) ?_
   have HAL := Lib.hid (fun (k : Nat) => (show SK [(1, go, .cells #[.string nm, .int .i64 sz, .int .i64 f, .int .i64 m, .int .i64 g] 50), (5, w.heap.size, .cells #[.int .i64 d, .int .i64 p, dv, .slice (some ⟨b, off, none⟩) os.length c] 25), (7, go, .cells #[.string nm, .int .i64 sz, .int .i64 f, .int .i64 m, .int .i64 g] 50), (14, go, .cells #[.string nm, .int .i64 sz, .int .i64 f, .int .i64 m, .int .i64 g] 50), (19, go, .cells #[.string nm, .int .i64 sz, .int .i64 f, .int .i64 m, .int .i64 g] 50), (24, go, .cells #[.string nm, .int .i64 sz, .int .i64 f, .int .i64 m, .int .i64 g] 50), (26, go, .cells #[.string nm, .int .i64 sz, .int .i64 f, .int .i64 m, .int .i64 g] 50), (28, w.heap.size, .cells #[.int .i64 d, .int .i64 p, dv, .slice (some ⟨b, off, none⟩) os.length c] 25), (34, go, .cells #[.string nm, .int .i64 sz, .int .i64 f, .int .i64 m, .int .i64 g] 50), (40, go, .cells #[.string nm, .int .i64 sz, .int .i64 f, .int .i64 m, .int .i64 g] 50)] k W2.drew from fun p hp e => by
    simp only [List.mem_cons, List.not_mem_nil, or_false] at hp
    rcases hp with rfl | rfl | rfl | rfl | rfl | rfl | rfl | rfl | rfl | rfl
    ·exact OB.out
    ·exact SB.out
    ·exact OB.out
    ·exact OB.out
    ·exact OB.out
    ·exact OB.out
    ·exact OB.out
    ·exact SB.out
    ·exact OB.out
    ·exact OB.out))
   have HD := Lib.hid (Below.drew (Below.refl W2.heap.size W2))
   replace NN := Lib.hid (Bgo NN.out HD.out)
   replace HS := Lib.hid (HS.out.next HD.out)
   replace SB := Lib.hid (blk_next HD.out SB.out)
   replace OB := Lib.hid (blk_next HD.out OB.out)
   clear HD
   refine tJ 0 (.pointer (some ⟨go, 0, none⟩)) (some 18) rfl (SK.drop (by simp)) (Or.inl ⟨by rfl, ?_⟩) ?_
   ·intro X hX
    clear hX
    go_simp
   try simp only [Act.put, zA, zB, zC]
   refine tJ 1 (.string nm) (some 19) rfl (HAL.out 1) (Or.inl ⟨by rfl, ?_⟩) ?_
   ·intro X hX
    have hh := hX (1, go, .cells #[.string nm, .int .i64 sz, .int .i64 f, .int .i64 m, .int .i64 g] 50) (List.Mem.head _) rfl
    have hh0 := blk_cell hh 0 _ rfl
    have hhl := blk_lt hh
    clear hh
    clear hX
    go_simp
   try simp only [Act.put, zA, zB, zC]
   refine only_I 2 (by kernel_rfl) rfl (fun K' hK' => ?_)
   go_simp
   go_at_call 47
   refine (NC.out _).mono ?_
   rintro e x16 ⟨rfl, hb⟩
   replace NN := Lib.hid (Bgo NN.out hb)
   replace HS := Lib.hid (HS.out.next hb)
   replace SB := Lib.hid (blk_next hb SB.out)
   replace OB := Lib.hid (blk_next hb OB.out)
   go_simp
   refine hK'.out _ _ (fun k _ hS => hS.next hb) ?_
   clear hK' K'
   try simp only [Act.put, zA, zB, zC]
   replace HAL := Lib.hid (fun k => (HAL.out k).next hb)
   refine tJ 3 (.bool false) (some 21) rfl (SK.drop (by simp)) (Or.inl ⟨by rfl, ?_⟩) ?_
   ·intro X hX
    clear hX
    go_simp
   try simp only [Act.put, zA, zB, zC]
   refine tJ 4 (.bool false) (some 22) rfl (SK.drop (by simp)) (Or.inl ⟨by rfl, ?_⟩) ?_
   ·intro X hX
    clear hX
    go_simp
   try simp only [Act.put, zA, zB, zC]
   refine tJ 5 (.agg #[.int .i64 d, .int .i64 p, dv, .slice (some ⟨b, off, none⟩) os.length c]) (some 23) rfl (HAL.out 5) (Or.inl ⟨by rfl, ?_⟩) ?_
   ·intro X hX
    have hh := hX (5, w.heap.size, .cells #[.int .i64 d, .int .i64 p, dv, .slice (some ⟨b, off, none⟩) os.length c] 25) (List.Mem.tail _ (List.Mem.head _)) rfl
    have hh0 := blk_cell hh 0 _ rfl
    have hh1 := blk_cell hh 1 _ rfl
    have hh2 := blk_cell hh 2 _ rfl
    have hh3 := blk_cell hh 3 _ rfl
    have hhl := blk_lt hh
    clear hh
    clear hX
    go_simp
   try simp only [Act.put, zA, zB, zC]
   refine tJ 6 (.pointer (some ⟨go, 0, none⟩)) (some 24) rfl (SK.drop (by simp)) (Or.inl ⟨by rfl, ?_⟩) ?_
   ·intro X hX
    clear hX
    go_simp
   try simp only [Act.put, zA, zB, zC]
   refine tJ 7 (.string nm) (some 25) rfl (HAL.out 7) (Or.inl ⟨by rfl, ?_⟩) ?_
   ·intro X hX
    have hh := hX (7, go, .cells #[.string nm, .int .i64 sz, .int .i64 f, .int .i64 m, .int .i64 g] 50) (List.Mem.tail _ (List.Mem.tail _ (List.Mem.head _))) rfl
    have hh0 := blk_cell hh 0 _ rfl
    have hhl := blk_lt hh
    clear hh
    clear hX
    go_simp
   try simp only [Act.put, zA, zB, zC]
   refine tJ 9 (.int .i64 (k : Int)) (some 27) rfl (SK.drop (by simp)) (Or.inl ⟨by rfl, ?_⟩) ?_
   ·intro X hX
    clear hX
    go_simp
   try simp only [Act.put, zA, zB, zC]
   refine only_I 8 (by kernel_rfl) rfl (fun K' hK' => ?_)
   go_simp
   go_at_call 48
   refine (IC.out _ HS.out).mono ?_
   rintro e x17 ⟨rfl, hb⟩
   replace NN := Lib.hid (Bgo NN.out hb)
   replace HS := Lib.hid (HS.out.next hb)
   replace SB := Lib.hid (blk_next hb SB.out)
   replace OB := Lib.hid (blk_next hb OB.out)
   go_simp
   refine hK'.out _ _ (fun k _ hS => hS.next hb) ?_
   clear hK' K'
   try simp only [Act.put, zA, zB, zC]
   replace HAL := Lib.hid (fun k => (HAL.out k).next hb)
   refine tJ 10 (.bool false) (some 28) rfl (SK.drop (by simp)) (Or.inl ⟨by rfl, ?_⟩) ?_
   ·intro X hX
    clear hX
    go_simp
   try simp only [Act.put, zA, zB, zC]
   refine tJ 11 (.bool false) (some 29) rfl (SK.drop (by simp)) (Or.inl ⟨by rfl, ?_⟩) ?_
   ·intro X hX
    clear hX
    go_simp
   try simp only [Act.put, zA, zB, zC]
   refine tJ 12 (.bool false) (some 30) rfl (SK.drop (by simp)) (Or.inl ⟨by rfl, ?_⟩) ?_
   ·intro X hX
    clear hX
    go_simp
   try simp only [Act.put, zA, zB, zC]
   refine tJ 13 (.pointer (some ⟨go, 1, none⟩)) (some 31) rfl (SK.drop (by simp)) (Or.inl ⟨by rfl, ?_⟩) ?_
   ·intro X hX
    clear hX
    go_simp
   try simp only [Act.put, zA, zB, zC]
   refine tJ 14 (.int .i64 sz) (some 32) rfl (HAL.out 14) (Or.inl ⟨by rfl, ?_⟩) ?_
   ·intro X hX
    have hh := hX (14, go, .cells #[.string nm, .int .i64 sz, .int .i64 f, .int .i64 m, .int .i64 g] 50) (List.Mem.tail _ (List.Mem.tail _ (List.Mem.tail _ (List.Mem.head _)))) rfl
    have hh1 := blk_cell hh 1 _ rfl
    have hhl := blk_lt hh
    clear hh
    clear hX
    go_simp
   try simp only [Act.put, zA, zB, zC]
   refine tJ 15 (.bool false) (some 33) rfl (SK.drop (by simp)) (Or.inl ⟨by rfl, ?_⟩) ?_
   ·intro X hX
    clear hX
    go_simp
   try simp only [Act.put, zA, zB, zC]
   refine tJ 16 (.bool false) (some 34) rfl (SK.drop (by simp)) (Or.inl ⟨by rfl, ?_⟩) ?_
   ·intro X hX
    clear hX
    go_simp
   try simp only [Act.put, zA, zB, zC]
   refine tJ 17 (.bool false) (some 35) rfl (SK.drop (by simp)) (Or.inl ⟨by rfl, ?_⟩) ?_
   ·intro X hX
    clear hX
    go_simp
   try simp only [Act.put, zA, zB, zC]
   refine tJ 18 (.pointer (some ⟨go, 1, none⟩)) (some 36) rfl (SK.drop (by simp)) (Or.inl ⟨by rfl, ?_⟩) ?_
   ·intro X hX
    clear hX
    go_simp
   try simp only [Act.put, zA, zB, zC]
   refine tJ 19 (.int .i64 sz) (some 37) rfl (HAL.out 19) (Or.inl ⟨by rfl, ?_⟩) ?_
   ·intro X hX
    have hh := hX (19, go, .cells #[.string nm, .int .i64 sz, .int .i64 f, .int .i64 m, .int .i64 g] 50) (List.Mem.tail _ (List.Mem.tail _ (List.Mem.tail _ (List.Mem.tail _ (List.Mem.head _))))) rfl
    have hh1 := blk_cell hh 1 _ rfl
    have hhl := blk_lt hh
    clear hh
    clear hX
    go_simp
   try simp only [Act.put, zA, zB, zC]
   refine tJ 20 (.bool false) (some 38) rfl (SK.drop (by simp)) (Or.inl ⟨by rfl, ?_⟩) ?_
   ·intro X hX
    clear hX
    go_simp
   try simp only [Act.put, zA, zB, zC]
   refine tJ 21 (.bool false) (some 39) rfl (SK.drop (by simp)) (Or.inl ⟨by rfl, ?_⟩) ?_
   ·intro X hX
    clear hX
    go_simp
   try simp only [Act.put, zA, zB, zC]
   refine tJ 22 (.bool false) (some 40) rfl (SK.drop (by simp)) (Or.inl ⟨by rfl, ?_⟩) ?_
   ·intro X hX
    clear hX
    go_simp
   try simp only [Act.put, zA, zB, zC]
   refine tJ 23 (.pointer (some ⟨go, 3, none⟩)) (some 41) rfl (SK.drop (by simp)) (Or.inl ⟨by rfl, ?_⟩) ?_
   ·intro X hX
    clear hX
    go_simp
   try simp only [Act.put, zA, zB, zC]
   refine tJ 24 (.int .i64 m) (some 42) rfl (HAL.out 24) (Or.inl ⟨by rfl, ?_⟩) ?_
   ·intro X hX
    have hh := hX (24, go, .cells #[.string nm, .int .i64 sz, .int .i64 f, .int .i64 m, .int .i64 g] 50) (List.Mem.tail _ (List.Mem.tail _ (List.Mem.tail _ (List.Mem.tail _ (List.Mem.tail _ (List.Mem.head _)))))) rfl
    have hh3 := blk_cell hh 3 _ rfl
    have hhl := blk_lt hh
    clear hh
    clear hX
    go_simp
   try simp only [Act.put, zA, zB, zC]
   refine tJ 25 (.pointer (some ⟨go, 1, none⟩)) (some 43) rfl (SK.drop (by simp)) (Or.inl ⟨by rfl, ?_⟩) ?_
   ·intro X hX
    clear hX
    go_simp
   try simp only [Act.put, zA, zB, zC]
   refine tJ 26 (.int .i64 sz) (some 44) rfl (HAL.out 26) (Or.inl ⟨by rfl, ?_⟩) ?_
   ·intro X hX
    have hh := hX (26, go, .cells #[.string nm, .int .i64 sz, .int .i64 f, .int .i64 m, .int .i64 g] 50) (List.Mem.tail _ (List.Mem.tail _ (List.Mem.tail _ (List.Mem.tail _ (List.Mem.tail _ (List.Mem.tail _ (List.Mem.head _))))))) rfl
    have hh1 := blk_cell hh 1 _ rfl
    have hhl := blk_lt hh
    clear hh
    clear hX
    go_simp
   try simp only [Act.put, zA, zB, zC]
   refine tJ 27 (.pointer (some ⟨w.heap.size, 0, none⟩)) (some 45) rfl (SK.drop (by simp)) (Or.inl ⟨by rfl, ?_⟩) ?_
   ·intro X hX
    clear hX
    go_simp
   try simp only [Act.put, zA, zB, zC]
   refine tJ 28 (.int .i64 d) (some 46) rfl (HAL.out 28) (Or.inl ⟨by rfl, ?_⟩) ?_
   ·intro X hX
    have hh := hX (28, w.heap.size, .cells #[.int .i64 d, .int .i64 p, dv, .slice (some ⟨b, off, none⟩) os.length c] 25) (List.Mem.tail _ (List.Mem.tail _ (List.Mem.tail _ (List.Mem.tail _ (List.Mem.tail _ (List.Mem.tail _ (List.Mem.tail _ (List.Mem.head _)))))))) rfl
    have hh0 := blk_cell hh 0 _ rfl
    have hhl := blk_lt hh
    clear hh
    clear hX
    go_simp
   try simp only [Act.put, zA, zB, zC]
   refine only_I 29 (by kernel_rfl) rfl (fun K' hK' => ?_)
   go_simp
   go_at_call 49
   refine (NE.out _).mono ?_
   rintro e x18 ⟨rfl, hb⟩
   replace NN := Lib.hid (Bgo NN.out hb)
   replace HS := Lib.hid (HS.out.next hb)
   replace SB := Lib.hid (blk_next hb SB.out)
   replace OB := Lib.hid (blk_next hb OB.out)
   go_simp
   refine hK'.out _ _ (fun k _ hS => hS.next hb) ?_
   clear hK' K'
   try simp only [Act.put, zA, zB, zC]
   replace HAL := Lib.hid (fun k => (HAL.out k).next hb)
   refine tJ 30 (.bool false) (some 48) rfl (SK.drop (by simp)) (Or.inl ⟨by rfl, ?_⟩) ?_
   ·intro X hX
    clear hX
    go_simp
   try simp only [Act.put, zA, zB, zC]
   refine tJ 31 (.bool false) (some 49) rfl (SK.drop (by simp)) (Or.inl ⟨by rfl, ?_⟩) ?_
   ·intro X hX
    clear hX
    go_simp
   try simp only [Act.put, zA, zB, zC]
   refine tJ 32 (.bool false) (some 50) rfl (SK.drop (by simp)) (Or.inl ⟨by rfl, ?_⟩) ?_
   ·intro X hX
    clear hX
    go_simp
   try simp only [Act.put, zA, zB, zC]
   refine tJ 33 (.pointer (some ⟨go, 2, none⟩)) (some 51) rfl (SK.drop (by simp)) (Or.inl ⟨by rfl, ?_⟩) ?_
   ·intro X hX
    clear hX
    go_simp
   try simp only [Act.put, zA, zB, zC]
   refine tJ 34 (.int .i64 f) (some 52) rfl (HAL.out 34) (Or.inl ⟨by rfl, ?_⟩) ?_
   ·intro X hX
    have hh := hX (34, go, .cells #[.string nm, .int .i64 sz, .int .i64 f, .int .i64 m, .int .i64 g] 50) (List.Mem.tail _ (List.Mem.tail _ (List.Mem.tail _ (List.Mem.tail _ (List.Mem.tail _ (List.Mem.tail _ (List.Mem.tail _ (List.Mem.tail _ (List.Mem.head _))))))))) rfl
    have hh2 := blk_cell hh 2 _ rfl
    have hhl := blk_lt hh
    clear hh
    clear hX
    go_simp
   try simp only [Act.put, zA, zB, zC]
   refine tJ 35 (.int .i64 t) (some 53) rfl (SK.drop (by simp)) (Or.inl ⟨by rfl, ?_⟩) ?_
   ·intro X hX
    clear hX
    go_simp
   try simp only [Act.put, zA, zB, zC]
   refine tJ 36 (.bool false) (some 54) rfl (SK.drop (by simp)) (Or.inl ⟨by rfl, ?_⟩) ?_
   ·intro X hX
    clear hX
    go_simp
   try simp only [Act.put, zA, zB, zC]
   refine tJ 37 (.bool false) (some 55) rfl (SK.drop (by simp)) (Or.inl ⟨by rfl, ?_⟩) ?_
   ·intro X hX
    clear hX
    go_simp
   try simp only [Act.put, zA, zB, zC]
   refine tJ 38 (.bool false) (some 56) rfl (SK.drop (by simp)) (Or.inl ⟨by rfl, ?_⟩) ?_
   ·intro X hX
    clear hX
    go_simp
   try simp only [Act.put, zA, zB, zC]
   refine tJ 39 (.pointer (some ⟨go, 4, none⟩)) (some 57) rfl (SK.drop (by simp)) (Or.inl ⟨by rfl, ?_⟩) ?_
   ·intro X hX
    clear hX
    go_simp
   try simp only [Act.put, zA, zB, zC]
   refine tJ 40 (.int .i64 g) (some 58) rfl (HAL.out 40) (Or.inl ⟨by rfl, ?_⟩) ?_
   ·intro X hX
    have hh := hX (40, go, .cells #[.string nm, .int .i64 sz, .int .i64 f, .int .i64 m, .int .i64 g] 50) (List.Mem.tail _ (List.Mem.tail _ (List.Mem.tail _ (List.Mem.tail _ (List.Mem.tail _ (List.Mem.tail _ (List.Mem.tail _ (List.Mem.tail _ (List.Mem.tail _ (List.Mem.head _)))))))))) rfl
    have hh4 := blk_cell hh 4 _ rfl
    have hhl := blk_lt hh
    clear hh
    clear hX
    go_simp
   try simp only [Act.put, zA, zB, zC]
   refine tJ 41 (.bool true) (some 59) rfl (SK.drop (by simp)) (Or.inl ⟨by rfl, ?_⟩) ?_
   ·intro X hX
    clear hX
    go_simp
   try simp only [Act.put, zA, zB, zC]
   refine tJ 42 (.bool true) (some 60) rfl (SK.drop (by simp)) (Or.inl ⟨by rfl, ?_⟩) ?_
   ·intro X hX
    clear hX
    go_simp
   try simp only [Act.put, zA, zB, zC]
   refine tJ 43 (.bool true) (some 61) rfl (SK.drop (by simp)) (Or.inl ⟨by rfl, ?_⟩) ?_
   ·intro X hX
    clear hX
    go_simp
   try simp only [Act.put, zA, zB, zC]
   refine tJ 44 undef (some 62) rfl (HAL.out 44) (Or.inr ⟨by rfl, rfl⟩) ?_
   try simp only [Act.put, zA, zB, zC]
   refine tJ 45 undef (some 63) rfl (HAL.out 45) (Or.inr ⟨by rfl, rfl⟩) ?_
   try simp only [Act.put, zA, zB, zC]
   refine tJ 46 undef (some 64) rfl (HAL.out 46) (Or.inr ⟨by rfl, rfl⟩) ?_
   try simp only [Act.put, zA, zB, zC]
   refine tJ 47 (.bool true) (some 65) rfl (SK.drop (by simp)) (Or.inl ⟨by rfl, ?_⟩) ?_
   ·intro X hX
    clear hX
    go_simp
   try simp only [Act.put, zA, zB, zC]
   clear HAL
   refine done_I (by kernel_rfl) ?_ _
   go_wp2_with fail
   go_ret
   exact ⟨ret_bool R.out.symm, NN.out⟩
  have e5 : decide (g < (0 : Int)) = false := decide_eq_false (by omega)
  by_cases q6 : g < 1000000007
  rotate_left
  ·have e6 : decide ((1000000007 : Int) ≤ g) = true := decide_eq_true (by omega)
   have R : Hid (res = false) := Lib.hid (BADK.out (by rw [ONE.out, OBJ.out]; simp [*]))
   clear BADK ONE OBJ FT BAD GOOD GD TS
   refine region_I (S := SK [(1, go, .cells #[.string nm, .int .i64 sz, .int .i64 f, .int .i64 m, .int .i64 g] 50), (5, w.heap.size, .cells #[.int .i64 d, .int .i64 p, dv, .slice (some ⟨b, off, none⟩) os.length c] 25), (7, go, .cells #[.string nm, .int .i64 sz, .int .i64 f, .int .i64 m, .int .i64 g] 50), (14, go, .cells #[.string nm, .int .i64 sz, .int .i64 f, .int .i64 m, .int .i64 g] 50), (19, go, .cells #[.string nm, .int .i64 sz, .int .i64 f, .int .i64 m, .int .i64 g] 50), (24, go, .cells #[.string nm, .int .i64 sz, .int .i64 f, .int .i64 m, .int .i64 g] 50), (26, go, .cells #[.string nm, .int .i64 sz, .int .i64 f, .int .i64 m, .int .i64 g] 50), (28, w.heap.size, .cells #[.int .i64 d, .int .i64 p, dv, .slice (some ⟨b, off, none⟩) os.length c] 25), (34, go, .cells #[.string nm, .int .i64 sz, .int .i64 f, .int .i64 m, .int .i64 g] 50), (40, go, .cells #[.string nm, .int .i64 sz, .int .i64 f, .int .i64 m, .int .i64 g] 50), (45, go, .cells #[.string nm, .int .i64 sz, .int .i64 f, .int .i64 m, .int .i64 g] 50)]) (by kernel_rfl) ?_
   have HAL := Lib.hid (fun (k : Nat) => (show SK [(1, go, .cells #[.string nm, .int .i64 sz, .int .i64 f, .int .i64 m, .int .i64 g] 50), (5, w.heap.size, .cells #[.int .i64 d, .int .i64 p, dv, .slice (some ⟨b, off, none⟩) os.length c] 25), (7, go, .cells #[.string nm, .int .i64 sz, .int .i64 f, .int .i64 m, .int .i64 g] 50), (14, go, .cells #[.string nm, .int .i64 sz, .int .i64 f, .int .i64 m, .int .i64 g] 50), (19, go, .cells #[.string nm, .int .i64 sz, .int .i64 f, .int .i64 m, .int .i64 g] 50), (24, go, .cells #[.string nm, .int .i64 sz, .int .i64 f, .int .i64 m, .int .i64 g] 50), (26, go, .cells #[.string nm, .int .i64 sz, .int .i64 f, .int .i64 m, .int .i64 g] 50), (28, w.heap.size, .cells #[.int .i64 d, .int .i64 p, dv, .slice (some ⟨b, off, none⟩) os.length c] 25), (34, go, .cells #[.string nm, .int .i64 sz, .int .i64 f, .int .i64 m, .int .i64 g] 50), (40, go, .cells #[.string nm, .int .i64 sz, .int .i64 f, .int .i64 m, .int .i64 g] 50), (45, go, .cells #[.string nm, .int .i64 sz, .int .i64 f, .int .i64 m, .int .i64 g] 50)] k W2.drew from fun p hp e => by
    simp only [List.mem_cons, List.not_mem_nil, or_false] at hp
    rcases hp with rfl | rfl | rfl | rfl | rfl | rfl | rfl | rfl | rfl | rfl | rfl
    ·exact OB.out
    ·exact SB.out
    ·exact OB.out
    ·exact OB.out
    ·exact OB.out
    ·exact OB.out
    ·exact OB.out
    ·exact SB.out
    ·exact OB.out
    ·exact OB.out
    ·exact OB.out))
   have HD := Lib.hid (Below.drew (Below.refl W2.heap.size W2))
   replace NN := Lib.hid (Bgo NN.out HD.out)
   replace HS := Lib.hid (HS.out.next HD.out)
   replace SB := Lib.hid (blk_next HD.out SB.out)
   replace OB := Lib.hid (blk_next HD.out OB.out)
   clear HD
   refine tJ 0 (.pointer (some ⟨go, 0, none⟩)) (some 18) rfl (SK.drop (by simp)) (Or.inl ⟨by rfl, ?_⟩) ?_
   ·intro X hX
    clear hX
    go_simp
   try simp only [Act.put, zA, zB, zC]
   refine tJ 1 (.string nm) (some 19) rfl (HAL.out 1) (Or.inl ⟨by rfl, ?_⟩) ?_
   ·intro X hX
    have hh := hX (1, go, .cells #[.string nm, .int .i64 sz, .int .i64 f, .int .i64 m, .int .i64 g] 50) (List.Mem.head _) rfl
    have hh0 := blk_cell hh 0 _ rfl
    have hhl := blk_lt hh
    clear hh
    clear hX
    go_simp
   try simp only [Act.put, zA, zB, zC]
   refine only_I 2 (by kernel_rfl) rfl (fun K' hK' => ?_)
   go_simp
   go_at_call 47
   refine (NC.out _).mono ?_
   rintro e x19 ⟨rfl, hb⟩
   replace NN := Lib.hid (Bgo NN.out hb)
   replace HS := Lib.hid (HS.out.next hb)
   replace SB := Lib.hid (blk_next hb SB.out)
   replace OB := Lib.hid (blk_next hb OB.out)
   go_simp
   refine hK'.out _ _ (fun k _ hS => hS.next hb) ?_
   clear hK' K'
   try simp only [Act.put, zA, zB, zC]
   replace HAL := Lib.hid (fun k => (HAL.out k).next hb)
   refine tJ 3 (.bool false) (some 21) rfl (SK.drop (by simp)) (Or.inl ⟨by rfl, ?_⟩) ?_
   ·intro X hX
    clear hX
    go_simp
   try simp only [Act.put, zA, zB, zC]
   refine tJ 4 (.bool false) (some 22) rfl (SK.drop (by simp)) (Or.inl ⟨by rfl, ?_⟩) ?_
   ·intro X hX
    clear hX
    go_simp
   try simp only [Act.put, zA, zB, zC]
   refine tJ 5 (.agg #[.int .i64 d, .int .i64 p, dv, .slice (some ⟨b, off, none⟩) os.length c]) (some 23) rfl (HAL.out 5) (Or.inl ⟨by rfl, ?_⟩) ?_
   ·intro X hX
    have hh := hX (5, w.heap.size, .cells #[.int .i64 d, .int .i64 p, dv, .slice (some ⟨b, off, none⟩) os.length c] 25) (List.Mem.tail _ (List.Mem.head _)) rfl
    have hh0 := blk_cell hh 0 _ rfl
    have hh1 := blk_cell hh 1 _ rfl
    have hh2 := blk_cell hh 2 _ rfl
    have hh3 := blk_cell hh 3 _ rfl
    have hhl := blk_lt hh
    clear hh
    clear hX
    go_simp
   try simp only [Act.put, zA, zB, zC]
   refine tJ 6 (.pointer (some ⟨go, 0, none⟩)) (some 24) rfl (SK.drop (by simp)) (Or.inl ⟨by rfl, ?_⟩) ?_
   ·intro X hX
    clear hX
    go_simp
   try simp only [Act.put, zA, zB, zC]
   refine tJ 7 (.string nm) (some 25) rfl (HAL.out 7) (Or.inl ⟨by rfl, ?_⟩) ?_
   ·intro X hX
    have hh := hX (7, go, .cells #[.string nm, .int .i64 sz, .int .i64 f, .int .i64 m, .int .i64 g] 50) (List.Mem.tail _ (List.Mem.tail _ (List.Mem.head _))) rfl
    have hh0 := blk_cell hh 0 _ rfl
    have hhl := blk_lt hh
    clear hh
    clear hX
    go_simp
   try simp only [Act.put, zA, zB, zC]
   refine tJ 9 (.int .i64 (k : Int)) (some 27) rfl (SK.drop (by simp)) (Or.inl ⟨by rfl, ?_⟩) ?_
   ·intro X hX
    clear hX
    go_simp
   try simp only [Act.put, zA, zB, zC]
   refine only_I 8 (by kernel_rfl) rfl (fun K' hK' => ?_)
   go_simp
   go_at_call 48
   refine (IC.out _ HS.out).mono ?_
   rintro e x20 ⟨rfl, hb⟩
   replace NN := Lib.hid (Bgo NN.out hb)
   replace HS := Lib.hid (HS.out.next hb)
   replace SB := Lib.hid (blk_next hb SB.out)
   replace OB := Lib.hid (blk_next hb OB.out)
   go_simp
   refine hK'.out _ _ (fun k _ hS => hS.next hb) ?_
   clear hK' K'
   try simp only [Act.put, zA, zB, zC]
   replace HAL := Lib.hid (fun k => (HAL.out k).next hb)
   refine tJ 10 (.bool false) (some 28) rfl (SK.drop (by simp)) (Or.inl ⟨by rfl, ?_⟩) ?_
   ·intro X hX
    clear hX
    go_simp
   try simp only [Act.put, zA, zB, zC]
   refine tJ 11 (.bool false) (some 29) rfl (SK.drop (by simp)) (Or.inl ⟨by rfl, ?_⟩) ?_
   ·intro X hX
    clear hX
    go_simp
   try simp only [Act.put, zA, zB, zC]
   refine tJ 12 (.bool false) (some 30) rfl (SK.drop (by simp)) (Or.inl ⟨by rfl, ?_⟩) ?_
   ·intro X hX
    clear hX
    go_simp
   try simp only [Act.put, zA, zB, zC]
   refine tJ 13 (.pointer (some ⟨go, 1, none⟩)) (some 31) rfl (SK.drop (by simp)) (Or.inl ⟨by rfl, ?_⟩) ?_
   ·intro X hX
    clear hX
    go_simp
   try simp only [Act.put, zA, zB, zC]
   refine tJ 14 (.int .i64 sz) (some 32) rfl (HAL.out 14) (Or.inl ⟨by rfl, ?_⟩) ?_
   ·intro X hX
    have hh := hX (14, go, .cells #[.string nm, .int .i64 sz, .int .i64 f, .int .i64 m, .int .i64 g] 50) (List.Mem.tail _ (List.Mem.tail _ (List.Mem.tail _ (List.Mem.head _)))) rfl
    have hh1 := blk_cell hh 1 _ rfl
    have hhl := blk_lt hh
    clear hh
    clear hX
    go_simp
   try simp only [Act.put, zA, zB, zC]
   refine tJ 15 (.bool false) (some 33) rfl (SK.drop (by simp)) (Or.inl ⟨by rfl, ?_⟩) ?_
   ·intro X hX
    clear hX
    go_simp
   try simp only [Act.put, zA, zB, zC]
   refine tJ 16 (.bool false) (some 34) rfl (SK.drop (by simp)) (Or.inl ⟨by rfl, ?_⟩) ?_
   ·intro X hX
    clear hX
    go_simp
   try simp only [Act.put, zA, zB, zC]
   refine tJ 17 (.bool false) (some 35) rfl (SK.drop (by simp)) (Or.inl ⟨by rfl, ?_⟩) ?_
   ·intro X hX
    clear hX
    go_simp
   try simp only [Act.put, zA, zB, zC]
   refine tJ 18 (.pointer (some ⟨go, 1, none⟩)) (some 36) rfl (SK.drop (by simp)) (Or.inl ⟨by rfl, ?_⟩) ?_
   ·intro X hX
    clear hX
    go_simp
   try simp only [Act.put, zA, zB, zC]
   refine tJ 19 (.int .i64 sz) (some 37) rfl (HAL.out 19) (Or.inl ⟨by rfl, ?_⟩) ?_
   ·intro X hX
    have hh := hX (19, go, .cells #[.string nm, .int .i64 sz, .int .i64 f, .int .i64 m, .int .i64 g] 50) (List.Mem.tail _ (List.Mem.tail _ (List.Mem.tail _ (List.Mem.tail _ (List.Mem.head _))))) rfl
    have hh1 := blk_cell hh 1 _ rfl
    have hhl := blk_lt hh
    clear hh
    clear hX
    go_simp
   try simp only [Act.put, zA, zB, zC]
   refine tJ 20 (.bool false) (some 38) rfl (SK.drop (by simp)) (Or.inl ⟨by rfl, ?_⟩) ?_
   ·intro X hX
    clear hX
    go_simp
   try simp only [Act.put, zA, zB, zC]
   refine tJ 21 (.bool false) (some 39) rfl (SK.drop (by simp)) (Or.inl ⟨by rfl, ?_⟩) ?_
   ·intro X hX
    clear hX
    go_simp
   try simp only [Act.put, zA, zB, zC]
   refine tJ 22 (.bool false) (some 40) rfl (SK.drop (by simp)) (Or.inl ⟨by rfl, ?_⟩) ?_
   ·intro X hX
    clear hX
    go_simp
   try simp only [Act.put, zA, zB, zC]
   refine tJ 23 (.pointer (some ⟨go, 3, none⟩)) (some 41) rfl (SK.drop (by simp)) (Or.inl ⟨by rfl, ?_⟩) ?_
   ·intro X hX
    clear hX
    go_simp
   try simp only [Act.put, zA, zB, zC]
   refine tJ 24 (.int .i64 m) (some 42) rfl (HAL.out 24) (Or.inl ⟨by rfl, ?_⟩) ?_
   ·intro X hX
    have hh := hX (24, go, .cells #[.string nm, .int .i64 sz, .int .i64 f, .int .i64 m, .int .i64 g] 50) (List.Mem.tail _ (List.Mem.tail _ (List.Mem.tail _ (List.Mem.tail _ (List.Mem.tail _ (List.Mem.head _)))))) rfl
    have hh3 := blk_cell hh 3 _ rfl
    have hhl := blk_lt hh
    clear hh
    clear hX
    go_simp
   try simp only [Act.put, zA, zB, zC]
   refine tJ 25 (.pointer (some ⟨go, 1, none⟩)) (some 43) rfl (SK.drop (by simp)) (Or.inl ⟨by rfl, ?_⟩) ?_
   ·intro X hX
    clear hX
    go_simp
   try simp only [Act.put, zA, zB, zC]
   refine tJ 26 (.int .i64 sz) (some 44) rfl (HAL.out 26) (Or.inl ⟨by rfl, ?_⟩) ?_
   ·intro X hX
    have hh := hX (26, go, .cells #[.string nm, .int .i64 sz, .int .i64 f, .int .i64 m, .int .i64 g] 50) (List.Mem.tail _ (List.Mem.tail _ (List.Mem.tail _ (List.Mem.tail _ (List.Mem.tail _ (List.Mem.tail _ (List.Mem.head _))))))) rfl
    have hh1 := blk_cell hh 1 _ rfl
    have hhl := blk_lt hh
    clear hh
    clear hX
    go_simp
   try simp only [Act.put, zA, zB, zC]
   refine tJ 27 (.pointer (some ⟨w.heap.size, 0, none⟩)) (some 45) rfl (SK.drop (by simp)) (Or.inl ⟨by rfl, ?_⟩) ?_
   ·intro X hX
    clear hX
    go_simp
   try simp only [Act.put, zA, zB, zC]
   refine tJ 28 (.int .i64 d) (some 46) rfl (HAL.out 28) (Or.inl ⟨by rfl, ?_⟩) ?_
   ·intro X hX
    have hh := hX (28, w.heap.size, .cells #[.int .i64 d, .int .i64 p, dv, .slice (some ⟨b, off, none⟩) os.length c] 25) (List.Mem.tail _ (List.Mem.tail _ (List.Mem.tail _ (List.Mem.tail _ (List.Mem.tail _ (List.Mem.tail _ (List.Mem.tail _ (List.Mem.head _)))))))) rfl
    have hh0 := blk_cell hh 0 _ rfl
    have hhl := blk_lt hh
    clear hh
    clear hX
    go_simp
   try simp only [Act.put, zA, zB, zC]
   refine only_I 29 (by kernel_rfl) rfl (fun K' hK' => ?_)
   go_simp
   go_at_call 49
   refine (NE.out _).mono ?_
   rintro e x21 ⟨rfl, hb⟩
   replace NN := Lib.hid (Bgo NN.out hb)
   replace HS := Lib.hid (HS.out.next hb)
   replace SB := Lib.hid (blk_next hb SB.out)
   replace OB := Lib.hid (blk_next hb OB.out)
   go_simp
   refine hK'.out _ _ (fun k _ hS => hS.next hb) ?_
   clear hK' K'
   try simp only [Act.put, zA, zB, zC]
   replace HAL := Lib.hid (fun k => (HAL.out k).next hb)
   refine tJ 30 (.bool false) (some 48) rfl (SK.drop (by simp)) (Or.inl ⟨by rfl, ?_⟩) ?_
   ·intro X hX
    clear hX
    go_simp
   try simp only [Act.put, zA, zB, zC]
   refine tJ 31 (.bool false) (some 49) rfl (SK.drop (by simp)) (Or.inl ⟨by rfl, ?_⟩) ?_
   ·intro X hX
    clear hX
    go_simp
   try simp only [Act.put, zA, zB, zC]
   refine tJ 32 (.bool false) (some 50) rfl (SK.drop (by simp)) (Or.inl ⟨by rfl, ?_⟩) ?_
   ·intro X hX
    clear hX
    go_simp
   try simp only [Act.put, zA, zB, zC]
   refine tJ 33 (.pointer (some ⟨go, 2, none⟩)) (some 51) rfl (SK.drop (by simp)) (Or.inl ⟨by rfl, ?_⟩) ?_
   ·intro X hX
    clear hX
    go_simp
   try simp only [Act.put, zA, zB, zC]
   refine tJ 34 (.int .i64 f) (some 52) rfl (HAL.out 34) (Or.inl ⟨by rfl, ?_⟩) ?_
   ·intro X hX
    have hh := hX (34, go, .cells #[.string nm, .int .i64 sz, .int .i64 f, .int .i64 m, .int .i64 g] 50) (List.Mem.tail _ (List.Mem.tail _ (List.Mem.tail _ (List.Mem.tail _ (List.Mem.tail _ (List.Mem.tail _ (List.Mem.tail _ (List.Mem.tail _ (List.Mem.head _))))))))) rfl
    have hh2 := blk_cell hh 2 _ rfl
    have hhl := blk_lt hh
    clear hh
    clear hX
    go_simp
   try simp only [Act.put, zA, zB, zC]
   refine tJ 35 (.int .i64 t) (some 53) rfl (SK.drop (by simp)) (Or.inl ⟨by rfl, ?_⟩) ?_
   ·intro X hX
    clear hX
    go_simp
   try simp only [Act.put, zA, zB, zC]
   refine tJ 36 (.bool false) (some 54) rfl (SK.drop (by simp)) (Or.inl ⟨by rfl, ?_⟩) ?_
   ·intro X hX
    clear hX
    go_simp
   try simp only [Act.put, zA, zB, zC]
   refine tJ 37 (.bool false) (some 55) rfl (SK.drop (by simp)) (Or.inl ⟨by rfl, ?_⟩) ?_
   ·intro X hX
    clear hX
    go_simp
   try simp only [Act.put, zA, zB, zC]
   refine tJ 38 (.bool false) (some 56) rfl (SK.drop (by simp)) (Or.inl ⟨by rfl, ?_⟩) ?_
   ·intro X hX
    clear hX
    go_simp
   try simp only [Act.put, zA, zB, zC]
   refine tJ 39 (.pointer (some ⟨go, 4, none⟩)) (some 57) rfl (SK.drop (by simp)) (Or.inl ⟨by rfl, ?_⟩) ?_
   ·intro X hX
    clear hX
    go_simp
   try simp only [Act.put, zA, zB, zC]
   refine tJ 40 (.int .i64 g) (some 58) rfl (HAL.out 40) (Or.inl ⟨by rfl, ?_⟩) ?_
   ·intro X hX
    have hh := hX (40, go, .cells #[.string nm, .int .i64 sz, .int .i64 f, .int .i64 m, .int .i64 g] 50) (List.Mem.tail _ (List.Mem.tail _ (List.Mem.tail _ (List.Mem.tail _ (List.Mem.tail _ (List.Mem.tail _ (List.Mem.tail _ (List.Mem.tail _ (List.Mem.tail _ (List.Mem.head _)))))))))) rfl
    have hh4 := blk_cell hh 4 _ rfl
    have hhl := blk_lt hh
    clear hh
    clear hX
    go_simp
   try simp only [Act.put, zA, zB, zC]
   refine tJ 41 (.bool false) (some 59) rfl (SK.drop (by simp)) (Or.inl ⟨by rfl, ?_⟩) ?_
   ·intro X hX
    clear hX
    go_simp
   try simp only [Act.put, zA, zB, zC]
   refine tJ 42 (.bool false) (some 60) rfl (SK.drop (by simp)) (Or.inl ⟨by rfl, ?_⟩) ?_
   ·intro X hX
    clear hX
    go_simp
   try simp only [Act.put, zA, zB, zC]
   refine tJ 43 (.bool false) (some 61) rfl (SK.drop (by simp)) (Or.inl ⟨by rfl, ?_⟩) ?_
   ·intro X hX
    clear hX
    go_simp
   try simp only [Act.put, zA, zB, zC]
   refine tJ 44 (.pointer (some ⟨go, 4, none⟩)) (some 62) rfl (SK.drop (by simp)) (Or.inl ⟨by rfl, ?_⟩) ?_
   ·intro X hX
    clear hX
    go_simp
   try simp only [Act.put, zA, zB, zC]
   refine tJ 45 (.int .i64 g) (some 63) rfl (HAL.out 45) (Or.inl ⟨by rfl, ?_⟩) ?_
   ·intro X hX
    have hh := hX (45, go, .cells #[.string nm, .int .i64 sz, .int .i64 f, .int .i64 m, .int .i64 g] 50) (List.Mem.tail _ (List.Mem.tail _ (List.Mem.tail _ (List.Mem.tail _ (List.Mem.tail _ (List.Mem.tail _ (List.Mem.tail _ (List.Mem.tail _ (List.Mem.tail _ (List.Mem.tail _ (List.Mem.head _))))))))))) rfl
    have hh4 := blk_cell hh 4 _ rfl
    have hhl := blk_lt hh
    clear hh
    clear hX
    go_simp
   try simp only [Act.put, zA, zB, zC]
   refine tJ 46 (.bool true) (some 64) rfl (SK.drop (by simp)) (Or.inl ⟨by rfl, ?_⟩) ?_
   ·intro X hX
    clear hX
    go_simp
   try simp only [Act.put, zA, zB, zC]
   refine tJ 47 (.bool true) (some 65) rfl (SK.drop (by simp)) (Or.inl ⟨by rfl, ?_⟩) ?_
   ·intro X hX
    clear hX
    go_simp
   try simp only [Act.put, zA, zB, zC]
   clear HAL
   refine done_I (by kernel_rfl) ?_ _
   go_wp2_with fail
   go_ret
   exact ⟨ret_bool R.out.symm, NN.out⟩
  have e6 : decide ((1000000007 : Int) ≤ g) = false := decide_eq_false (by omega)
  have OK1 : oneO d os k ⟨nm, sz, f, m, g⟩ = true := by rw [ONE.out, OBJ.out, F9, HQ3.out, HQ4.out]; simp [*]
  have MB := obj_many h1 h8 (show objB d t ⟨nm, sz, f, m, g⟩ = true by unfold oneO at OK1; rw [← TS.out, Bool.and_eq_true] at OK1; exact OK1.1)
  obtain ⟨mb1, mb2⟩ := MB
  simp only at mb1 mb2
  have G2 : Hid (∀ (j : Nat) (o : Ob), j < k + 1 → os[j]? = some o → oneO d os j o = true) := Lib.hid (fun j o hj h => by
   by_cases x : j = k
   ·subst x
    rw [HO.out] at h
    cases h; exact OK1
   ·exact GD.out j o (by omega) h)
  have T2 : Hid (t + m = strN (os.take (k + 1))) := Lib.hid (by rw [strN_take HO.out, TS.out])
  clear BADK ONE OBJ FT BAD GOOD GD TS OK1
  refine region_I (S := SK [(1, go, .cells #[.string nm, .int .i64 sz, .int .i64 f, .int .i64 m, .int .i64 g] 50), (5, w.heap.size, .cells #[.int .i64 d, .int .i64 p, dv, .slice (some ⟨b, off, none⟩) os.length c] 25), (7, go, .cells #[.string nm, .int .i64 sz, .int .i64 f, .int .i64 m, .int .i64 g] 50), (14, go, .cells #[.string nm, .int .i64 sz, .int .i64 f, .int .i64 m, .int .i64 g] 50), (19, go, .cells #[.string nm, .int .i64 sz, .int .i64 f, .int .i64 m, .int .i64 g] 50), (24, go, .cells #[.string nm, .int .i64 sz, .int .i64 f, .int .i64 m, .int .i64 g] 50), (26, go, .cells #[.string nm, .int .i64 sz, .int .i64 f, .int .i64 m, .int .i64 g] 50), (28, w.heap.size, .cells #[.int .i64 d, .int .i64 p, dv, .slice (some ⟨b, off, none⟩) os.length c] 25), (34, go, .cells #[.string nm, .int .i64 sz, .int .i64 f, .int .i64 m, .int .i64 g] 50), (40, go, .cells #[.string nm, .int .i64 sz, .int .i64 f, .int .i64 m, .int .i64 g] 50), (45, go, .cells #[.string nm, .int .i64 sz, .int .i64 f, .int .i64 m, .int .i64 g] 50)]) (by kernel_rfl) ?_
  have HAL := Lib.hid (fun (k : Nat) => (show SK [(1, go, .cells #[.string nm, .int .i64 sz, .int .i64 f, .int .i64 m, .int .i64 g] 50), (5, w.heap.size, .cells #[.int .i64 d, .int .i64 p, dv, .slice (some ⟨b, off, none⟩) os.length c] 25), (7, go, .cells #[.string nm, .int .i64 sz, .int .i64 f, .int .i64 m, .int .i64 g] 50), (14, go, .cells #[.string nm, .int .i64 sz, .int .i64 f, .int .i64 m, .int .i64 g] 50), (19, go, .cells #[.string nm, .int .i64 sz, .int .i64 f, .int .i64 m, .int .i64 g] 50), (24, go, .cells #[.string nm, .int .i64 sz, .int .i64 f, .int .i64 m, .int .i64 g] 50), (26, go, .cells #[.string nm, .int .i64 sz, .int .i64 f, .int .i64 m, .int .i64 g] 50), (28, w.heap.size, .cells #[.int .i64 d, .int .i64 p, dv, .slice (some ⟨b, off, none⟩) os.length c] 25), (34, go, .cells #[.string nm, .int .i64 sz, .int .i64 f, .int .i64 m, .int .i64 g] 50), (40, go, .cells #[.string nm, .int .i64 sz, .int .i64 f, .int .i64 m, .int .i64 g] 50), (45, go, .cells #[.string nm, .int .i64 sz, .int .i64 f, .int .i64 m, .int .i64 g] 50)] k W2.drew from fun p hp e => by
   simp only [List.mem_cons, List.not_mem_nil, or_false] at hp
   rcases hp with rfl | rfl | rfl | rfl | rfl | rfl | rfl | rfl | rfl | rfl | rfl
   ·exact OB.out
   ·exact SB.out
   ·exact OB.out
   ·exact OB.out
   ·exact OB.out
   ·exact OB.out
   ·exact OB.out
   ·exact SB.out
   ·exact OB.out
   ·exact OB.out
   ·exact OB.out))
  have HD := Lib.hid (Below.drew (Below.refl W2.heap.size W2))
  replace NN := Lib.hid (Bgo NN.out HD.out)
  replace HS := Lib.hid (HS.out.next HD.out)
  replace SB := Lib.hid (blk_next HD.out SB.out)
  replace OB := Lib.hid (blk_next HD.out OB.out)
  clear HD
  refine tJ 0 (.pointer (some ⟨go, 0, none⟩)) (some 18) rfl (SK.drop (by simp)) (Or.inl ⟨by rfl, ?_⟩) ?_
  ·intro X hX
   clear hX
   go_simp
  try simp only [Act.put, zA, zB, zC]
  refine tJ 1 (.string nm) (some 19) rfl (HAL.out 1) (Or.inl ⟨by rfl, ?_⟩) ?_
  ·intro X hX
   have hh := hX (1, go, .cells #[.string nm, .int .i64 sz, .int .i64 f, .int .i64 m, .int .i64 g] 50) (List.Mem.head _) rfl
   have hh0 := blk_cell hh 0 _ rfl
   have hhl := blk_lt hh
   clear hh
   clear hX
   go_simp
  try simp only [Act.put, zA, zB, zC]
  refine only_I 2 (by kernel_rfl) rfl (fun K' hK' => ?_)
  go_simp
  go_at_call 47
  refine (NC.out _).mono ?_
  rintro e x22 ⟨rfl, hb⟩
  replace NN := Lib.hid (Bgo NN.out hb)
  replace HS := Lib.hid (HS.out.next hb)
  replace SB := Lib.hid (blk_next hb SB.out)
  replace OB := Lib.hid (blk_next hb OB.out)
  go_simp
  refine hK'.out _ _ (fun k _ hS => hS.next hb) ?_
  clear hK' K'
  try simp only [Act.put, zA, zB, zC]
  replace HAL := Lib.hid (fun k => (HAL.out k).next hb)
  refine tJ 3 (.bool false) (some 21) rfl (SK.drop (by simp)) (Or.inl ⟨by rfl, ?_⟩) ?_
  ·intro X hX
   clear hX
   go_simp
  try simp only [Act.put, zA, zB, zC]
  refine tJ 4 (.bool false) (some 22) rfl (SK.drop (by simp)) (Or.inl ⟨by rfl, ?_⟩) ?_
  ·intro X hX
   clear hX
   go_simp
  try simp only [Act.put, zA, zB, zC]
  refine tJ 5 (.agg #[.int .i64 d, .int .i64 p, dv, .slice (some ⟨b, off, none⟩) os.length c]) (some 23) rfl (HAL.out 5) (Or.inl ⟨by rfl, ?_⟩) ?_
  ·intro X hX
   have hh := hX (5, w.heap.size, .cells #[.int .i64 d, .int .i64 p, dv, .slice (some ⟨b, off, none⟩) os.length c] 25) (List.Mem.tail _ (List.Mem.head _)) rfl
   have hh0 := blk_cell hh 0 _ rfl
   have hh1 := blk_cell hh 1 _ rfl
   have hh2 := blk_cell hh 2 _ rfl
   have hh3 := blk_cell hh 3 _ rfl
   have hhl := blk_lt hh
   clear hh
   clear hX
   go_simp
  try simp only [Act.put, zA, zB, zC]
  refine tJ 6 (.pointer (some ⟨go, 0, none⟩)) (some 24) rfl (SK.drop (by simp)) (Or.inl ⟨by rfl, ?_⟩) ?_
  ·intro X hX
   clear hX
   go_simp
  try simp only [Act.put, zA, zB, zC]
  refine tJ 7 (.string nm) (some 25) rfl (HAL.out 7) (Or.inl ⟨by rfl, ?_⟩) ?_
  ·intro X hX
   have hh := hX (7, go, .cells #[.string nm, .int .i64 sz, .int .i64 f, .int .i64 m, .int .i64 g] 50) (List.Mem.tail _ (List.Mem.tail _ (List.Mem.head _))) rfl
   have hh0 := blk_cell hh 0 _ rfl
   have hhl := blk_lt hh
   clear hh
   clear hX
   go_simp
  try simp only [Act.put, zA, zB, zC]
  refine tJ 9 (.int .i64 (k : Int)) (some 27) rfl (SK.drop (by simp)) (Or.inl ⟨by rfl, ?_⟩) ?_
  ·intro X hX
   clear hX
   go_simp
  try simp only [Act.put, zA, zB, zC]
  refine only_I 8 (by kernel_rfl) rfl (fun K' hK' => ?_)
  go_simp
  go_at_call 48
  refine (IC.out _ HS.out).mono ?_
  rintro e x23 ⟨rfl, hb⟩
  replace NN := Lib.hid (Bgo NN.out hb)
  replace HS := Lib.hid (HS.out.next hb)
  replace SB := Lib.hid (blk_next hb SB.out)
  replace OB := Lib.hid (blk_next hb OB.out)
  go_simp
  refine hK'.out _ _ (fun k _ hS => hS.next hb) ?_
  clear hK' K'
  try simp only [Act.put, zA, zB, zC]
  replace HAL := Lib.hid (fun k => (HAL.out k).next hb)
  refine tJ 10 (.bool false) (some 28) rfl (SK.drop (by simp)) (Or.inl ⟨by rfl, ?_⟩) ?_
  ·intro X hX
   clear hX
   go_simp
  try simp only [Act.put, zA, zB, zC]
  refine tJ 11 (.bool false) (some 29) rfl (SK.drop (by simp)) (Or.inl ⟨by rfl, ?_⟩) ?_
  ·intro X hX
   clear hX
   go_simp
  try simp only [Act.put, zA, zB, zC]
  refine tJ 12 (.bool false) (some 30) rfl (SK.drop (by simp)) (Or.inl ⟨by rfl, ?_⟩) ?_
  ·intro X hX
   clear hX
   go_simp
  try simp only [Act.put, zA, zB, zC]
  refine tJ 13 (.pointer (some ⟨go, 1, none⟩)) (some 31) rfl (SK.drop (by simp)) (Or.inl ⟨by rfl, ?_⟩) ?_
  ·intro X hX
   clear hX
   go_simp
  try simp only [Act.put, zA, zB, zC]
  refine tJ 14 (.int .i64 sz) (some 32) rfl (HAL.out 14) (Or.inl ⟨by rfl, ?_⟩) ?_
  ·intro X hX
   have hh := hX (14, go, .cells #[.string nm, .int .i64 sz, .int .i64 f, .int .i64 m, .int .i64 g] 50) (List.Mem.tail _ (List.Mem.tail _ (List.Mem.tail _ (List.Mem.head _)))) rfl
   have hh1 := blk_cell hh 1 _ rfl
   have hhl := blk_lt hh
   clear hh
   clear hX
   go_simp
  try simp only [Act.put, zA, zB, zC]
  refine tJ 15 (.bool false) (some 33) rfl (SK.drop (by simp)) (Or.inl ⟨by rfl, ?_⟩) ?_
  ·intro X hX
   clear hX
   go_simp
  try simp only [Act.put, zA, zB, zC]
  refine tJ 16 (.bool false) (some 34) rfl (SK.drop (by simp)) (Or.inl ⟨by rfl, ?_⟩) ?_
  ·intro X hX
   clear hX
   go_simp
  try simp only [Act.put, zA, zB, zC]
  refine tJ 17 (.bool false) (some 35) rfl (SK.drop (by simp)) (Or.inl ⟨by rfl, ?_⟩) ?_
  ·intro X hX
   clear hX
   go_simp
  try simp only [Act.put, zA, zB, zC]
  refine tJ 18 (.pointer (some ⟨go, 1, none⟩)) (some 36) rfl (SK.drop (by simp)) (Or.inl ⟨by rfl, ?_⟩) ?_
  ·intro X hX
   clear hX
   go_simp
  try simp only [Act.put, zA, zB, zC]
  refine tJ 19 (.int .i64 sz) (some 37) rfl (HAL.out 19) (Or.inl ⟨by rfl, ?_⟩) ?_
  ·intro X hX
   have hh := hX (19, go, .cells #[.string nm, .int .i64 sz, .int .i64 f, .int .i64 m, .int .i64 g] 50) (List.Mem.tail _ (List.Mem.tail _ (List.Mem.tail _ (List.Mem.tail _ (List.Mem.head _))))) rfl
   have hh1 := blk_cell hh 1 _ rfl
   have hhl := blk_lt hh
   clear hh
   clear hX
   go_simp
  try simp only [Act.put, zA, zB, zC]
  refine tJ 20 (.bool false) (some 38) rfl (SK.drop (by simp)) (Or.inl ⟨by rfl, ?_⟩) ?_
  ·intro X hX
   clear hX
   go_simp
  try simp only [Act.put, zA, zB, zC]
  refine tJ 21 (.bool false) (some 39) rfl (SK.drop (by simp)) (Or.inl ⟨by rfl, ?_⟩) ?_
  ·intro X hX
   clear hX
   go_simp
  try simp only [Act.put, zA, zB, zC]
  refine tJ 22 (.bool false) (some 40) rfl (SK.drop (by simp)) (Or.inl ⟨by rfl, ?_⟩) ?_
  ·intro X hX
   clear hX
   go_simp
  try simp only [Act.put, zA, zB, zC]
  refine tJ 23 (.pointer (some ⟨go, 3, none⟩)) (some 41) rfl (SK.drop (by simp)) (Or.inl ⟨by rfl, ?_⟩) ?_
  ·intro X hX
   clear hX
   go_simp
  try simp only [Act.put, zA, zB, zC]
  refine tJ 24 (.int .i64 m) (some 42) rfl (HAL.out 24) (Or.inl ⟨by rfl, ?_⟩) ?_
  ·intro X hX
   have hh := hX (24, go, .cells #[.string nm, .int .i64 sz, .int .i64 f, .int .i64 m, .int .i64 g] 50) (List.Mem.tail _ (List.Mem.tail _ (List.Mem.tail _ (List.Mem.tail _ (List.Mem.tail _ (List.Mem.head _)))))) rfl
   have hh3 := blk_cell hh 3 _ rfl
   have hhl := blk_lt hh
   clear hh
   clear hX
   go_simp
  try simp only [Act.put, zA, zB, zC]
  refine tJ 25 (.pointer (some ⟨go, 1, none⟩)) (some 43) rfl (SK.drop (by simp)) (Or.inl ⟨by rfl, ?_⟩) ?_
  ·intro X hX
   clear hX
   go_simp
  try simp only [Act.put, zA, zB, zC]
  refine tJ 26 (.int .i64 sz) (some 44) rfl (HAL.out 26) (Or.inl ⟨by rfl, ?_⟩) ?_
  ·intro X hX
   have hh := hX (26, go, .cells #[.string nm, .int .i64 sz, .int .i64 f, .int .i64 m, .int .i64 g] 50) (List.Mem.tail _ (List.Mem.tail _ (List.Mem.tail _ (List.Mem.tail _ (List.Mem.tail _ (List.Mem.tail _ (List.Mem.head _))))))) rfl
   have hh1 := blk_cell hh 1 _ rfl
   have hhl := blk_lt hh
   clear hh
   clear hX
   go_simp
  try simp only [Act.put, zA, zB, zC]
  refine tJ 27 (.pointer (some ⟨w.heap.size, 0, none⟩)) (some 45) rfl (SK.drop (by simp)) (Or.inl ⟨by rfl, ?_⟩) ?_
  ·intro X hX
   clear hX
   go_simp
  try simp only [Act.put, zA, zB, zC]
  refine tJ 28 (.int .i64 d) (some 46) rfl (HAL.out 28) (Or.inl ⟨by rfl, ?_⟩) ?_
  ·intro X hX
   have hh := hX (28, w.heap.size, .cells #[.int .i64 d, .int .i64 p, dv, .slice (some ⟨b, off, none⟩) os.length c] 25) (List.Mem.tail _ (List.Mem.tail _ (List.Mem.tail _ (List.Mem.tail _ (List.Mem.tail _ (List.Mem.tail _ (List.Mem.tail _ (List.Mem.head _)))))))) rfl
   have hh0 := blk_cell hh 0 _ rfl
   have hhl := blk_lt hh
   clear hh
   clear hX
   go_simp
  try simp only [Act.put, zA, zB, zC]
  refine only_I 29 (by kernel_rfl) rfl (fun K' hK' => ?_)
  go_simp
  go_at_call 49
  refine (NE.out _).mono ?_
  rintro e x24 ⟨rfl, hb⟩
  replace NN := Lib.hid (Bgo NN.out hb)
  replace HS := Lib.hid (HS.out.next hb)
  replace SB := Lib.hid (blk_next hb SB.out)
  replace OB := Lib.hid (blk_next hb OB.out)
  go_simp
  refine hK'.out _ _ (fun k _ hS => hS.next hb) ?_
  clear hK' K'
  try simp only [Act.put, zA, zB, zC]
  replace HAL := Lib.hid (fun k => (HAL.out k).next hb)
  refine tJ 30 (.bool false) (some 48) rfl (SK.drop (by simp)) (Or.inl ⟨by rfl, ?_⟩) ?_
  ·intro X hX
   clear hX
   go_simp
  try simp only [Act.put, zA, zB, zC]
  refine tJ 31 (.bool false) (some 49) rfl (SK.drop (by simp)) (Or.inl ⟨by rfl, ?_⟩) ?_
  ·intro X hX
   clear hX
   go_simp
  try simp only [Act.put, zA, zB, zC]
  refine tJ 32 (.bool false) (some 50) rfl (SK.drop (by simp)) (Or.inl ⟨by rfl, ?_⟩) ?_
  ·intro X hX
   clear hX
   go_simp
  try simp only [Act.put, zA, zB, zC]
  refine tJ 33 (.pointer (some ⟨go, 2, none⟩)) (some 51) rfl (SK.drop (by simp)) (Or.inl ⟨by rfl, ?_⟩) ?_
  ·intro X hX
   clear hX
   go_simp
  try simp only [Act.put, zA, zB, zC]
  refine tJ 34 (.int .i64 f) (some 52) rfl (HAL.out 34) (Or.inl ⟨by rfl, ?_⟩) ?_
  ·intro X hX
   have hh := hX (34, go, .cells #[.string nm, .int .i64 sz, .int .i64 f, .int .i64 m, .int .i64 g] 50) (List.Mem.tail _ (List.Mem.tail _ (List.Mem.tail _ (List.Mem.tail _ (List.Mem.tail _ (List.Mem.tail _ (List.Mem.tail _ (List.Mem.tail _ (List.Mem.head _))))))))) rfl
   have hh2 := blk_cell hh 2 _ rfl
   have hhl := blk_lt hh
   clear hh
   clear hX
   go_simp
  try simp only [Act.put, zA, zB, zC]
  refine tJ 35 (.int .i64 t) (some 53) rfl (SK.drop (by simp)) (Or.inl ⟨by rfl, ?_⟩) ?_
  ·intro X hX
   clear hX
   go_simp
  try simp only [Act.put, zA, zB, zC]
  refine tJ 36 (.bool false) (some 54) rfl (SK.drop (by simp)) (Or.inl ⟨by rfl, ?_⟩) ?_
  ·intro X hX
   clear hX
   go_simp
  try simp only [Act.put, zA, zB, zC]
  refine tJ 37 (.bool false) (some 55) rfl (SK.drop (by simp)) (Or.inl ⟨by rfl, ?_⟩) ?_
  ·intro X hX
   clear hX
   go_simp
  try simp only [Act.put, zA, zB, zC]
  refine tJ 38 (.bool false) (some 56) rfl (SK.drop (by simp)) (Or.inl ⟨by rfl, ?_⟩) ?_
  ·intro X hX
   clear hX
   go_simp
  try simp only [Act.put, zA, zB, zC]
  refine tJ 39 (.pointer (some ⟨go, 4, none⟩)) (some 57) rfl (SK.drop (by simp)) (Or.inl ⟨by rfl, ?_⟩) ?_
  ·intro X hX
   clear hX
   go_simp
  try simp only [Act.put, zA, zB, zC]
  refine tJ 40 (.int .i64 g) (some 58) rfl (HAL.out 40) (Or.inl ⟨by rfl, ?_⟩) ?_
  ·intro X hX
   have hh := hX (40, go, .cells #[.string nm, .int .i64 sz, .int .i64 f, .int .i64 m, .int .i64 g] 50) (List.Mem.tail _ (List.Mem.tail _ (List.Mem.tail _ (List.Mem.tail _ (List.Mem.tail _ (List.Mem.tail _ (List.Mem.tail _ (List.Mem.tail _ (List.Mem.tail _ (List.Mem.head _)))))))))) rfl
   have hh4 := blk_cell hh 4 _ rfl
   have hhl := blk_lt hh
   clear hh
   clear hX
   go_simp
  try simp only [Act.put, zA, zB, zC]
  refine tJ 41 (.bool false) (some 59) rfl (SK.drop (by simp)) (Or.inl ⟨by rfl, ?_⟩) ?_
  ·intro X hX
   clear hX
   go_simp
  try simp only [Act.put, zA, zB, zC]
  refine tJ 42 (.bool false) (some 60) rfl (SK.drop (by simp)) (Or.inl ⟨by rfl, ?_⟩) ?_
  ·intro X hX
   clear hX
   go_simp
  try simp only [Act.put, zA, zB, zC]
  refine tJ 43 (.bool false) (some 61) rfl (SK.drop (by simp)) (Or.inl ⟨by rfl, ?_⟩) ?_
  ·intro X hX
   clear hX
   go_simp
  try simp only [Act.put, zA, zB, zC]
  refine tJ 44 (.pointer (some ⟨go, 4, none⟩)) (some 62) rfl (SK.drop (by simp)) (Or.inl ⟨by rfl, ?_⟩) ?_
  ·intro X hX
   clear hX
   go_simp
  try simp only [Act.put, zA, zB, zC]
  refine tJ 45 (.int .i64 g) (some 63) rfl (HAL.out 45) (Or.inl ⟨by rfl, ?_⟩) ?_
  ·intro X hX
   have hh := hX (45, go, .cells #[.string nm, .int .i64 sz, .int .i64 f, .int .i64 m, .int .i64 g] 50) (List.Mem.tail _ (List.Mem.tail _ (List.Mem.tail _ (List.Mem.tail _ (List.Mem.tail _ (List.Mem.tail _ (List.Mem.tail _ (List.Mem.tail _ (List.Mem.tail _ (List.Mem.tail _ (List.Mem.head _))))))))))) rfl
   have hh4 := blk_cell hh 4 _ rfl
   have hhl := blk_lt hh
   clear hh
   clear hX
   go_simp
  try simp only [Act.put, zA, zB, zC]
  refine tJ 46 (.bool false) (some 64) rfl (SK.drop (by simp)) (Or.inl ⟨by rfl, ?_⟩) ?_
  ·intro X hX
   clear hX
   go_simp
  try simp only [Act.put, zA, zB, zC]
  refine tJ 47 (.bool false) (some 65) rfl (SK.drop (by simp)) (Or.inl ⟨by rfl, ?_⟩) ?_
  ·intro X hX
   clear hX
   go_simp
  try simp only [Act.put, zA, zB, zC]
  clear HAL
  refine done_I (by kernel_rfl) ?_ _
  have c_OB_0 := blk_cell OB.out 0 _ rfl
  have c_OB_1 := blk_cell OB.out 1 _ rfl
  have c_OB_2 := blk_cell OB.out 2 _ rfl
  have c_OB_3 := blk_cell OB.out 3 _ rfl
  have c_OB_4 := blk_cell OB.out 4 _ rfl
  have l_OB := blk_lt OB.out
  go_wp2_with fail
  clear c_OB_0 c_OB_1 c_OB_2 c_OB_3 c_OB_4 l_OB
  go_roundw
  case rel => exact ⟨k + 1, t + m, kk, by go_num, rfl, by omega, by omega, T2, G2, NN, HS, SB⟩
  case measure => simp [intOf]; omega
end Go.Proofs.Ytapehckcmmompaa
