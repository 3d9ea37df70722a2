/- Several texts in one. -/
import Derived.Test.YtfangplfbbgphaaGreatDoorRows
import Derived.Deep.DeepHandedRow
import Derived.ProofKit
import Derived.SizedLaws
import Derived.Stop.LaidErr
import Derived.Lib.LaidTab
import Derived.Test.YtfangplfbbgphaaGreatDoorMF17
import Derived.Test.YtfangplfbbgphaaGreatDoorMF19
import Derived.Test.YtfangplfbbgphaaGreatDoorMF20
import Derived.Test.YtfangplfbbgphaaGreatDoorMF21
import Derived.Test.YtfangplfbbgphaaGreatDoorMF22
import Derived.Test.YtfangplfbbgphaaGreatDoorMF23
namespace Go.Proofs.YtfangplfbbgphaaGreatDoor
open Go.ChangeShapes Go.WideShapes Go.ChangeAt Go.RowKit
set_option linter.unusedVariables false
set_option linter.unusedSimpArgs false
attribute [local go_sem ↓] Go.wp_at_zero Go.wp_at_succ
theorem text_snoc (a : List UInt8) (x : St) (s t : List UInt8) (hs : s = textL x.sn x.sd) (ht : t = textL x.tn x.td) : (⟨a.toArray⟩ : ByteArray) ++ (x.nm ++ ⟨#[32]⟩ ++ ⟨s.toArray⟩ ++ ⟨#[32]⟩ ++ ⟨t.toArray⟩ ++ ⟨#[10]⟩) = ⟨(a ++ lineL x).toArray⟩ := by
 subst hs ht
 rw [ByteArray.ext_iff]
 unfold lineL
 apply Array.ext'
 simp [ByteArray.data_append]
theorem textA_take {l : List St} {k : Nat} {x : St} (h : l[k]? = some x) : textA (l.take (k + 1)) = textA (l.take k) ++ lineL x := by
 obtain ⟨h1, h2⟩ := List.getElem?_eq_some_iff.1 h
 unfold textA
 rw [← List.take_append_getElem h1, List.flatMap_append, h2]; simp
theorem sts_bad {l : List St} {x : St} (h8 : ¬ 8 < l.length) (hx : x ∈ l) (h : valS x = false) : stsE l = 8 := by
 unfold stsE
 rw [if_neg h8, if_neg]
 intro ha
 rw [List.all_eq_true] at ha
 rw [ha x hx] at h; cases h
theorem txA_bad {l : List St} (h : stsE l ≠ 0) : txA l = [] := by unfold txA; rw [if_neg h]
theorem txA_ok {l : List St} (h : stsE l = 0) : txA l = textA l := by unfold txA; rw [if_pos h]
theorem str_of {b : ByteArray} {l : List UInt8} (h : b.data.toList = l) : Value.string b = Str l := by
 rw [← h]
def pcL (l : List UInt8) (c : UInt8) : List UInt8 × List UInt8 × Bool := if (Lib.cut l [c]).2.2 then Lib.cut l [c] else ([], [], false)
theorem pcL_at {l : List UInt8} {c : UInt8} {k : Nat} (h : ∀ (j : Nat) (x : UInt8), j < k → l[j]? = some x → x ≠ c) (hk : l[k]? = some c) : pcL l c = (l.take k, l.drop (k + 1), true) := by
 obtain ⟨h1, h2⟩ := List.getElem?_eq_some_iff.1 hk
 have e : l = l.take k ++ c :: l.drop (k + 1) := by rw [← h2, ← List.drop_eq_getElem_cons h1, List.take_append_drop]
 have e2 : Lib.cut l [c] = (l.take k, l.drop (k + 1), true) := by
  rw [show Lib.cut l [c] = Lib.cut (l.take k ++ c :: l.drop (k + 1)) [c] by rw [← e]]
  exact cut1_at fun x hx => by
   obtain ⟨j, hj⟩ := List.mem_iff_getElem?.1 hx
   rw [List.getElem?_take] at hj
   split at hj
   ·exact h j x (by assumption) hj
   ·cases hj
 unfold pcL
 rw [e2]; rfl
theorem pcL_none {l : List UInt8} {c : UInt8} (h : ∀ (j : Nat) (x : UInt8), j < l.length → l[j]? = some x → x ≠ c) : pcL l c = ([], [], false) := by
 unfold pcL
 rw [cut1_none fun x hx => by
  obtain ⟨j, hj⟩ := List.mem_iff_getElem?.1 hx
  exact h j x (List.getElem?_eq_some_iff.1 hj).1 hj]
 rfl
theorem pcL_cut (l : List UInt8) (c : UInt8) : (pcL l c).2.2 = (Lib.cut l [c]).2.2 ∧ ((Lib.cut l [c]).2.2 = true → pcL l c = Lib.cut l [c]) := by
 unfold pcL
 cases h : (Lib.cut l [c]).2.2
 ·exact ⟨rfl, fun h => by cases h⟩
 ·exact ⟨by rw [if_pos rfl, h], fun _ => rfl⟩
theorem pcL_len (l : List UInt8) (c : UInt8) : (pcL l c).1.length ≤ l.length ∧ (pcL l c).2.1.length ≤ l.length := by
 unfold pcL
 have := cut1_len l c
 split
 ·exact ⟨this.1, this.2.1⟩
 ·simp
theorem cut_nof {l : List UInt8} {c : UInt8} (h : (Lib.cut l [c]).2.2 = false) : Lib.cut l [c] = (l, [], false) := by
 by_cases hm : ∀ x ∈ l, x ≠ c
 ·exact cut1_none hm
 ·exfalso
  have hm2 : c ∈ l := by
   rcases Decidable.em (c ∈ l) with h1 | h1
   ·exact h1
   ·exact absurd (fun x hx e => h1 (by rw [← e]; exact hx)) hm
  have hi : 0 ≤ Lib.indexByte l c := by
   clear h hm
   induction l with
   | nil => cases hm2
   | cons b l ih =>
    unfold Lib.indexByte
    split
    ·omega
    ·rename_i hb
     have := ih (by
      rcases List.mem_cons.1 hm2 with e | e
      ·subst e; simp at hb
      ·exact e)
     split
     ·rename_i h9; simp at h9; omega
     ·omega
  unfold Lib.cut at h
  rw [Lib.index_one, if_pos hi] at h
  cases h
theorem lineS_pc (l : List UInt8) : lineS l = if (pcL l 32).2.2 = true ∧ (pcL (pcL l 32).2.1 32).2.2 = true ∧ (prC (pcL (pcL l 32).2.1 32).1).2.2 = 0 ∧ (prC (pcL (pcL l 32).2.1 32).2.1).2.2 = 0 ∧ valS ⟨⟨(pcL l 32).1.toArray⟩, (prC (pcL (pcL l 32).2.1 32).1).1, (prC (pcL (pcL l 32).2.1 32).1).2.1, (prC (pcL (pcL l 32).2.1 32).2.1).1, (prC (pcL (pcL l 32).2.1 32).2.1).2.1⟩ = true
  then some ⟨⟨(pcL l 32).1.toArray⟩, (prC (pcL (pcL l 32).2.1 32).1).1, (prC (pcL (pcL l 32).2.1 32).1).2.1, (prC (pcL (pcL l 32).2.1 32).2.1).1, (prC (pcL (pcL l 32).2.1 32).2.1).2.1⟩ else none := by
 rw [lineS_eq]
 cases h1 : (Lib.cut l [32]).2.2 with
 | false =>
  refine (if_neg ?_).trans (if_neg ?_).symm
  ·rw [cut_nof h1]
   simp only
   rw [show Lib.cut [] [32] = ([], [], false) by kernel_rfl, prC_nil]; simp
  ·rw [(pcL_cut l 32).1, h1]; simp
 | true =>
  rw [(pcL_cut l 32).2 h1]
  cases h2 : (Lib.cut (Lib.cut l [32]).2.1 [32]).2.2 with
  | false =>
   refine (if_neg ?_).trans (if_neg ?_).symm
   ·rw [cut_nof h2]
    simp only
    rw [prC_nil]; simp
   ·rw [(pcL_cut (Lib.cut l [32]).2.1 32).1, h2]; simp
  | true =>
   rw [(pcL_cut _ 32).2 h2, h1, h2]
   generalize prC (Lib.cut (Lib.cut l [32]).2.1 [32]).1 = x
   generalize prC (Lib.cut (Lib.cut l [32]).2.1 [32]).2.1 = y
   by_cases hx : x.2.2 = 0
   ·by_cases hy : y.2.2 = 0
    ·simp [hx, hy]
    ·simp [hx, hy]
   ·simp [hx]
theorem rparse_calls (l : List UInt8) (w : World) (hs : l.length ≤ 100000) : Calls Tryz.prog 59 #[Str l] w fun e w' => e = .returned (Rv (prC l)) ∧ Below w.heap.size w w' := by
 have h1 := refParse_calls ⟨l.toArray⟩ w (by have := s_len ⟨l.toArray⟩; simp at this; omega)
 refine h1.mono ?_
 rintro e w' ⟨r, rfl, hr, hb⟩
 have h2 := hr.eq
 rw [show (⟨l.toArray⟩ : ByteArray).data.toList = l by simp] at h2
 rw [h2]
 exact ⟨rfl, hb⟩
theorem ret3 {a b : Value} {f : Bool} {A B : List UInt8} {r : List UInt8 × List UInt8 × Bool} (hr : r = (A, B, f)) (ha : a = Str A) (hb : b = Str B) : Ending.returned (.tuple #[a, b, .bool f]) = .returned (.tuple #[Str r.1, Str r.2.1, .bool r.2.2]) := by rw [hr, ha, hb]
set_option maxRecDepth 100000 in
set_option maxHeartbeats 8000000 in
theorem rtext_calls {a : Option Addr} {c : Nat} {l : List St} {w : World} (hl : RSt w a l) (hc : l.length ≤ c) (hc' : c ≤ 9223372036854775807) (hn : ∀ x ∈ l, x.nm.size ≤ 9223372036854775807) : Calls Tryz.prog 19 #[.slice a l.length c] w fun e w' => e = .returned (.tuple #[Str (txA l), .int .i64 (stsE l)]) ∧ Below w.heap.size w w' := by
 have NN := Lib.hid (Below.refl w.heap.size w)
 have HL := Lib.hid hl
 have HN := Lib.hid hn
 clear hl hn
 by_cases h8 : 8 < l.length
 ·have e4 : stsE l = 4 := by unfold stsE; rw [if_pos h8]
  rw [txA_bad (by rw [e4]; decide), e4]
  have d8 : decide ((8 : Int) < (l.length : Int)) = true := decide_eq_true (by omega)
  clear h8 e4
  go_enter Tryz.func19, Tryz.ntmps19
  go_wp2_with fail
  refine bodyPost_ret (v := .tuple #[.string ⟨#[]⟩, .int .i64 4]) (by simp [results, Tryz.results19, go_sem]) rfl ⟨rfl, NN.out⟩
 have d8 : decide ((8 : Int) < (l.length : Int)) = false := decide_eq_false (by omega)
 have n8 : (8 < l.length) = False := by simp; omega
 have SB := Lib.hid (fun (x : St) (hx : x ∈ l) (h : valS x = false) => sts_bad h8 hx h)
 have SO := Lib.hid (fun (h : ∀ x ∈ l, valS x = true) => stsE_of (by omega) h)
 have TB := Lib.hid (fun (h : stsE l ≠ 0) => txA_bad h)
 have TO := Lib.hid (fun (h : stsE l = 0) => txA_ok h)
 clear h8
 generalize stsE l = pe at *
 generalize txA l = tx at *
 go_enter Tryz.func19, Tryz.ntmps19
 go_wp2_with fail
 go_loopw [4, 5] (fun s i wr => ∃ k : Nat, k ≤ l.length ∧ i = .int .i64 k ∧ s = Str (textA (l.take k)) ∧ Hid (Below w.heap.size w wr) ∧ Hid (∀ (j : Nat) (y : St), j < k → l[j]? = some y → valS y = true)) (fun _ i _ => l.length - (intOf i).toNat)
 case atStart => exact ⟨0, by omega, rfl, by rw [List.take_zero]; rfl, NN, Lib.hid (fun j y h => absurd h (by omega))⟩
 case round =>
  clear NN
  obtain ⟨k, hk, rfl, rfl, NN, GD⟩ := hrel
  by_cases hlt : k < l.length
  ·obtain ⟨x, hx⟩ := get_some hlt
   have HX := Lib.hid hx
   obtain ⟨b, off, e, hb, hc0⟩ := Rd.rec_ HL.out (Nat.le_refl _) st5_len hx
   subst e
   have CF := Lib.hid (fun (X : World) (hX : Below w.heap.size w X) j y (hy : (st5 x)[j]? = some y) => (hX.cell (p := ⟨b, off + k * 5 + j, none⟩) hb).trans (hc0 j y hy))
   have HB := Lib.hid hb
   have kk : k + 1 ≤ l.length := hlt
   have k1 : (k : Int) < (l.length : Int) := by omega
   have TT := Lib.hid (textA_take hx)
   have VC := Lib.hid (fun W => refValid_calls x W (HN.out x (List.mem_of_getElem? hx)))
   clear hx hc0 hb
   have c0 : wr.cell? ⟨b, off + k * 5, none⟩ = some (.string x.nm) := CF.out _ NN.out 0 _ rfl
   have c1 := CF.out _ NN.out 1 _ rfl
   have c2 := CF.out _ NN.out 2 _ rfl
   have c3 := CF.out _ NN.out 3 _ rfl
   have c4 := CF.out _ NN.out 4 _ rfl
   have lb := Nat.lt_of_lt_of_le HB.out NN.out.size
   go_wp2_with fail
   clear c0 c1 c2 c3 c4 lb
   refine (VC.out _).mono ?_
   rintro e w1 ⟨rfl, hb⟩
   replace NN := Lib.hid (Bgo NN.out hb)
   clear hb
   cases hv : valS x
   ·have E8 := SB.out x (List.mem_of_getElem? HX.out) hv
    subst E8
    obtain rfl := TB.out (by decide)
    clear hv
    go_wp2_with fail
    refine bodyPost_ret (v := .tuple #[.string ⟨#[]⟩, .int .i64 8]) (by simp [results, Tryz.results19, go_sem]) rfl ⟨rfl, NN.out⟩
   ·have HV := Lib.hid hv
    have hp := hv
    unfold valS plB at hp
    simp only [Bool.and_eq_true] at hp
    have T1 := Lib.hid (fun W => refText_calls x.sn x.sd W)
    have T2 := Lib.hid (fun W => refText_calls x.tn x.td W)
    rw [(txR_ok hp.2.1).1, (txR_ok hp.2.1).2] at T1
    rw [(txR_ok hp.2.2.1).1, (txR_ok hp.2.2.1).2] at T2
    have t1 := textL_len hp.2.1
    have t2 := textL_len hp.2.2.1
    have hsz := valS_size hv
    have ln : (textA (l.take k)).length ≤ 1600 := by
     have h1 := textA_len (l := l.take k) (fun y hy => by
      obtain ⟨j, hj⟩ := List.mem_iff_getElem?.1 hy
      rw [List.getElem?_take] at hj
      split at hj
      ·exact GD.out j y (by assumption) hj
      ·cases hj)
     have h2 : (l.take k).length ≤ 8 := by rw [List.length_take]; have := of_decide_eq_false d8; omega
     omega
    clear hp hv
    have TS := Lib.hid (fun a => text_snoc a x (textL x.sn x.sd) (textL x.tn x.td) rfl rfl)
    generalize textL x.sn x.sd = ta at *
    generalize textL x.tn x.td = tb at *
    generalize textA (l.take k) = tA at *
    have c0 : w1.cell? ⟨b, off + k * 5, none⟩ = some (.string x.nm) := CF.out _ NN.out 0 _ rfl
    have c1 := CF.out _ NN.out 1 _ rfl
    have c2 := CF.out _ NN.out 2 _ rfl
    have c3 := CF.out _ NN.out 3 _ rfl
    have c4 := CF.out _ NN.out 4 _ rfl
    have lb := Nat.lt_of_lt_of_le HB.out NN.out.size
    go_wp2_with fail
    clear c0 c1 c2 c3 c4 lb
    refine (T1.out _).mono ?_
    rintro e w2 ⟨rfl, hb⟩
    replace NN := Lib.hid (Bgo NN.out hb)
    clear hb
    have c0 : w2.cell? ⟨b, off + k * 5, none⟩ = some (.string x.nm) := CF.out _ NN.out 0 _ rfl
    have c1 := CF.out _ NN.out 1 _ rfl
    have c2 := CF.out _ NN.out 2 _ rfl
    have c3 := CF.out _ NN.out 3 _ rfl
    have c4 := CF.out _ NN.out 4 _ rfl
    have lb := Nat.lt_of_lt_of_le HB.out NN.out.size
    go_wp2_with fail
    clear c0 c1 c2 c3 c4 lb
    refine (T2.out _).mono ?_
    rintro e w3 ⟨rfl, hb⟩
    replace NN := Lib.hid (Bgo NN.out hb)
    clear hb
    have c0 : w3.cell? ⟨b, off + k * 5, none⟩ = some (.string x.nm) := CF.out _ NN.out 0 _ rfl
    have c1 := CF.out _ NN.out 1 _ rfl
    have c2 := CF.out _ NN.out 2 _ rfl
    have c3 := CF.out _ NN.out 3 _ rfl
    have c4 := CF.out _ NN.out 4 _ rfl
    have lb := Nat.lt_of_lt_of_le HB.out NN.out.size
    go_wp2_with fail
    clear c0 c1 c2 c3 c4 lb
    go_roundw
    case rel => exact ⟨k + 1, kk, by go_num, by rw [TT.out]; exact congrArg Value.string (TS.out _), NN, Lib.hid (fun j y hj hy => by
      rcases Nat.lt_or_ge j k with h | h
      ·exact GD.out j y h hy
      ·obtain rfl : k = j := by omega
       rw [HX.out] at hy; injection hy with hy; rw [← hy]; exact HV.out)⟩
    case measure => simp [intOf]; omega
  ·obtain rfl : k = l.length := by omega
   rw [List.take_length]
   have E0 := SO.out (fun x hx => by
    obtain ⟨j, hj⟩ := List.mem_iff_getElem?.1 hx
    exact GD.out j x (get_lt hj) hj)
   subst E0
   obtain rfl := TO.out rfl
   clear GD SB SO TB TO HN
   go_wp2_with fail
   refine bodyPost_ret (v := .tuple #[Str (textA l), .int .i64 0]) (by simp [results, Tryz.results19, go_sem]) rfl ⟨rfl, NN.out⟩
set_option maxRecDepth 100000 in
set_option maxHeartbeats 8000000 in
theorem part_calls (s : ByteArray) (c : UInt8) (w : World) (hs : s.size ≤ 100000) : Calls Tryz.prog 58 #[.string s, .int .u8 (c.toNat : Int)] w fun e w' =>
  e = .returned (.tuple #[Str (pcL s.data.toList c).1, Str (pcL s.data.toList c).2.1, .bool (pcL s.data.toList c).2.2]) ∧ Below w.heap.size w w' := by
 have NN := Lib.hid (Below.refl w.heap.size w)
 have SL := Lib.hid (s_len s)
 have SG := Lib.hid (fun k (h : k < s.size) => str_get s k h)
 have T1 := Lib.hid (fun k => str_of (ext_take s k))
 have T2 := Lib.hid (fun k => str_of (ext_drop s k))
 have s2 : s.size ≤ 9223372036854775807 := by omega
 clear hs
 go_enter Tryz.func58, Tryz.ntmps58
 go_wp2_with fail
 go_loopw [7] (fun i wr => ∃ k : Nat, k ≤ s.size ∧ i = .int .i64 k ∧ Hid (Below w.heap.size w wr) ∧ Hid (∀ (j : Nat) (x : UInt8), j < k → s.data.toList[j]? = some x → x ≠ c)) (fun i _ => s.size - (intOf i).toNat)
 case atStart => exact ⟨0, by omega, rfl, NN, Lib.hid (fun j x h => absurd h (by omega))⟩
 case round =>
  clear NN
  obtain ⟨k, hk, rfl, NN, NO⟩ := hrel
  by_cases hlt : k < s.size
  ·have kk : k + 1 ≤ s.size := hlt
   have k1 : (k : Int) < (s.size : Int) := by omega
   have G := Lib.hid (SG.out k hlt)
   have z1 : decide ((0 : Int) ≤ (k : Int)) = true := decide_eq_true (by omega)
   by_cases hc : s[k] = c
   ·have PC := Lib.hid (pcL_at NO.out (by rw [G.out, hc]))
    have e1 : ((s[k].toNat : Int) == (c.toNat : Int)) = true := by rw [hc]; simp
    clear hc NO
    go_wp2_with fail
    go_quiet (fail)
    replace NN := Lib.hid (below_drewN NN.out nq)
    go_wp2_with fail
    refine bodyPost_ret (v := .tuple #[.string (s.extract 0 k), .string (s.extract (k + 1) s.size), .bool true]) (by simp [results, Tryz.results58, go_sem]) rfl ⟨ret3 PC.out (T1.out k) (T2.out (k + 1)), NN.out⟩
   ·have e1 : ((s[k].toNat : Int) == (c.toNat : Int)) = false := by
     rw [beq_eq_false_iff_ne]
     intro h
     exact hc (UInt8.toNat_inj.1 (by omega))
    have HC := Lib.hid hc
    clear hc
    go_wp2_with fail
    go_roundw
    case rel => exact ⟨k + 1, kk, by go_num, NN, Lib.hid (fun j x hj hx => by
      rcases Nat.lt_or_ge j k with h | h
      ·exact NO.out j x h hx
      ·obtain rfl : k = j := by omega
       rw [G.out] at hx; injection hx with hx; rw [← hx]; exact HC.out)⟩
    case measure => simp [intOf]; omega
  ·obtain rfl : k = s.size := by omega
   have PC := Lib.hid (pcL_none (fun j x hj hx => NO.out j x (by rw [← SL.out]; exact hj) hx))
   clear NO
   go_wp2_with fail
   refine bodyPost_ret (v := .tuple #[.string ⟨#[]⟩, .string ⟨#[]⟩, .bool false]) (by simp [results, Tryz.results58, go_sem]) rfl ⟨ret3 PC.out rfl rfl, NN.out⟩
theorem partL_calls (l : List UInt8) (c : UInt8) (n : Int) (hn : (c.toNat : Int) = n) (w : World) (hs : l.length ≤ 100000) : Calls Tryz.prog 58 #[Str l, .int .u8 n] w fun e w' =>
  e = .returned (.tuple #[Str (pcL l c).1, Str (pcL l c).2.1, .bool (pcL l c).2.2]) ∧ Below w.heap.size w w' := by
 subst hn
 have h := part_calls ⟨l.toArray⟩ c w (by have := s_len ⟨l.toArray⟩; simp at this; omega)
 rw [show (⟨l.toArray⟩ : ByteArray).data.toList = l by simp] at h
 exact h
theorem cutv_len (l : List UInt8) (c : UInt8) : (pcL l c).2.2 = true → (pcL l c).2.1.length < l.length := fun h => by
 rw [(pcL_cut l c).1] at h
 rw [(pcL_cut l c).2 h]
 exact (cut1_len l c).2.2 h
theorem parT_pc {f : Nat} {acc : List St} {l : List UInt8} (hl : l ≠ []) : parT (f + 1) acc l = if (pcL l 10).2.2 then (if acc.length = 8 then none else match lineS (pcL l 10).1 with
   | some s => parT f (acc ++ [s]) (pcL l 10).2.1
   | none => none)
  else none := by
 rw [parT_succ, if_neg (by cases l <;> simp at *), (pcL_cut l 10).1]
 cases h : (Lib.cut l [10]).2.2 with
 | false => rfl
 | true => rw [(pcL_cut l 10).2 h]; rfl
set_option maxRecDepth 100000 in
set_option maxHeartbeats 8000000 in
theorem rparseA_calls (l : List UInt8) (w : World) (hs : l.length ≤ 100000) : Calls Tryz.prog 21 #[Str l] w fun e w' =>
  ∃ v, e = .returned (.tuple #[v, .int .i64 (parE l)]) ∧ Below w.heap.size w w' ∧ (parE l ≠ 0 → v = .slice none 0 0) ∧ (parE l = 0 → OSt w.heap.size w' v (parL l)) := by
 have NN := Lib.hid (Below.refl w.heap.size w)
 have ES := Lib.hid (fun r (h : parA l = some r) => parE_some h)
 have EN := Lib.hid (fun (h : parA l = none) => parE_none h)
 have PA : Hid (parT (l.length + 1) [] l = parA l) := Lib.hid rfl
 obtain ⟨i0, hi, hz, hs0, hb0⟩ := info_parts infoS
 have HI := Lib.hid (And.intro hi (And.intro hz (And.intro hs0 hb0)))
 clear hi hz hs0 hb0
 generalize parA l = R at *
 generalize parE l = pe at *
 generalize parL l = pl at *
 go_enter Tryz.func21, Tryz.ntmps21
 go_wp2_with fail
 have OV : Hid (OSt w.heap.size w (.slice none 0 0) []) := Lib.hid (ost_nil _ _)
 go_loopw [0, 4] (fun s v wr => ∃ (m : List UInt8) (acc : List St) (f : Nat), s = Str m ∧ Hid (parT f acc m = R) ∧ Hid (m.length < f) ∧ m.length ≤ 100000 ∧ acc.length ≤ 8 ∧ Hid (Below w.heap.size w wr) ∧ Hid (OSt w.heap.size wr v acc)) (fun s _ _ => strOf s)
 case atStart => exact ⟨l, [], l.length + 1, rfl, PA, Lib.hid (Nat.lt_succ_self _), hs, by decide, NN, OV⟩
 case round =>
  clear NN OV PA hs
  obtain ⟨m, acc, f, rfl, PT, HF, hm, h8, NN, OV⟩ := hrel
  obtain ⟨A0, c0, hv0, hn0, hc1, -⟩ := Rd.of_own OV.out
  subst hv0
  have KN := Lib.hid hn0
  have KC := Lib.hid hc1
  clear hn0 hc1
  obtain ⟨f, rfl⟩ : ∃ n, f = n + 1 := ⟨f - 1, by have := HF.out; omega⟩
  have ML := s_len ⟨m.toArray⟩
  rw [show (⟨m.toArray⟩ : ByteArray).data.toList = m by simp] at ML
  by_cases hm0 : m = []
  ·subst hm0
   clear ML
   have RE : Hid (R = some acc) := Lib.hid (by rw [← PT.out, parT_nil])
   clear PT
   obtain ⟨E1, E2⟩ := ES.out _ RE.out
   subst E2
   have HE := Lib.hid E1
   clear E1
   go_wp2_with fail
   refine bodyPost_ret (by simp [results, Tryz.results21, go_sem]; rfl) rfl ⟨_, by rw [HE.out], NN.out, fun h => absurd HE.out h, fun _ => OV.out⟩
  have HM := Lib.hid hm0
  have mpos : 0 < m.length := List.length_pos_iff.2 hm0
  have sz0 : decide ((0 : Int) < ((⟨m.toArray⟩ : ByteArray).size : Int)) = true := decide_eq_true (by omega)
  have sz1 : (0 < (⟨m.toArray⟩ : ByteArray).size) = True := by simp; omega
  have sz2 : decide ((0 : Int) < (m.length : Int)) = true := decide_eq_true (by omega)
  have sz3 : m ≠ [] := hm0
  rw [parT_pc hm0] at PT
  clear hm0
  have CC := Lib.hid (fun W => partL_calls m 10 10 (by decide) W hm)
  have L1 := pcL_len m 10
  have L3 := Lib.hid (cutv_len m 10)
  obtain ⟨⟨la, lr, le⟩, hc⟩ : ∃ r, pcL m 10 = r := ⟨_, rfl⟩
  rw [hc] at CC L1 PT L3
  simp only at CC L1 PT L3
  clear hc
  have LL := Lib.hid L1
  have C2 := Lib.hid (fun W => partL_calls la 32 32 (by decide) W (Nat.le_trans LL.out.1 hm))
  have LS := Lib.hid (lineS_pc la)
  have L2 := pcL_len la 32
  obtain ⟨⟨nm, rs, f1⟩, hc⟩ : ∃ r, pcL la 32 = r := ⟨_, rfl⟩
  rw [hc] at C2 LS L2
  simp only at C2 LS L2
  clear hc
  have HNM : Hid (nm.length ≤ 100000 ∧ rs.length ≤ 100000) := Lib.hid (by omega)
  have C3 := Lib.hid (fun W => partL_calls rs 32 32 (by decide) W HNM.out.2)
  have L4 := pcL_len rs 32
  obtain ⟨⟨xs, ys, f2⟩, hc⟩ : ∃ r, pcL rs 32 = r := ⟨_, rfl⟩
  rw [hc] at C3 LS L4
  simp only at C3 LS L4
  clear hc
  have HXY : Hid (xs.length ≤ 100000 ∧ ys.length ≤ 100000) := Lib.hid (by omega)
  have P1 := Lib.hid (fun W => rparse_calls xs W HXY.out.1)
  have P2 := Lib.hid (fun W => rparse_calls ys W HXY.out.2)
  generalize prC xs = px at *
  generalize prC ys = py at *
  obtain ⟨x1, x2, x3⟩ := px
  obtain ⟨y1, y2, y3⟩ := py
  simp only at LS
  have NS : (⟨nm.toArray⟩ : ByteArray).size ≤ 100000 := by have := s_len ⟨nm.toArray⟩; have := HNM.out; simp at *; omega
  have VC := Lib.hid (fun W => refValid_calls ⟨⟨nm.toArray⟩, x1, x2, y1, y2⟩ W (by show (⟨nm.toArray⟩ : ByteArray).size ≤ _; omega))
  clear L1 L2 L4 ML
  generalize hls : lineS la = ls at *
  clear hls
  cases le
  ·have HE := Lib.hid (EN.out (by rw [← PT.out]; rfl))
   clear PT ES EN
   go_wp2_with fail
   refine (CC.out _).mono ?_
   rintro e w1 ⟨rfl, hb⟩
   replace NN := Lib.hid (Bgo NN.out hb)
   replace OV := Lib.hid (own_next hb OV.out)
   clear hb
   go_wp2_with fail
   refine bodyPost_ret (v := .tuple #[.slice none 0 0, .int .i64 12]) (by simp [results, Tryz.results21, go_sem]) rfl ⟨_, by rw [HE.out], NN.out, fun _ => rfl, fun h => absurd (HE.out.symm.trans h) (by decide)⟩
  by_cases h9 : acc.length = 8
  ·have HE := Lib.hid (EN.out (by rw [← PT.out, if_pos rfl, if_pos h9]))
   have q8 : ((acc.length : Int) == 8) = true := by rw [beq_iff_eq]; omega
   clear PT ES EN h9
   go_wp2_with fail
   refine (CC.out _).mono ?_
   rintro e w2 ⟨rfl, hb⟩
   replace NN := Lib.hid (Bgo NN.out hb)
   replace OV := Lib.hid (own_next hb OV.out)
   clear hb
   go_wp2_with fail
   refine bodyPost_ret (v := .tuple #[.slice none 0 0, .int .i64 12]) (by simp [results, Tryz.results21, go_sem]) rfl ⟨_, by rw [HE.out], NN.out, fun _ => rfl, fun h => absurd (HE.out.symm.trans h) (by decide)⟩
  have q8 : ((acc.length : Int) == 8) = false := by rw [beq_eq_false_iff_ne]; omega
  replace PT := Lib.hid (PT.out.symm.trans ((if_pos rfl).trans (if_neg h9)))
  have N8 := Lib.hid (show acc.length < 8 by omega)
  clear h9
  cases f1
  ·have LSN : Hid (ls = none) := Lib.hid (by rw [LS.out, if_neg (fun h => by cases h.1)])
   have HE := Lib.hid (EN.out (by rw [PT.out, LSN.out]))
   clear PT ES EN LS
   go_wp2_with fail
   refine (CC.out _).mono ?_
   rintro e w3 ⟨rfl, hb⟩
   replace NN := Lib.hid (Bgo NN.out hb)
   replace OV := Lib.hid (own_next hb OV.out)
   clear hb
   go_wp2_with fail
   refine (C2.out _).mono ?_
   rintro e w4 ⟨rfl, hb⟩
   replace NN := Lib.hid (Bgo NN.out hb)
   replace OV := Lib.hid (own_next hb OV.out)
   clear hb
   go_wp2_with fail
   refine (C3.out _).mono ?_
   rintro e w5 ⟨rfl, hb⟩
   replace NN := Lib.hid (Bgo NN.out hb)
   replace OV := Lib.hid (own_next hb OV.out)
   clear hb
   go_wp2_with fail
   refine (P1.out _).mono ?_
   rintro e w6 ⟨rfl, hb⟩
   replace NN := Lib.hid (Bgo NN.out hb)
   replace OV := Lib.hid (own_next hb OV.out)
   clear hb
   have HB := Lib.hid (show Below w6.heap.size w6 (w6.alloc (.cells #[.int .i64 x1, .int .i64 x2] 36)) from (Bal (Below.refl _ _) _))
   have B14 : Hid ((w6.alloc (.cells #[.int .i64 x1, .int .i64 x2] 36)).heap[w6.heap.size]? = some (.cells #[.int .i64 x1, .int .i64 x2] 36)) := Lib.hid (blk_new w6 _)
   have LT_B14 : Hid (w.heap.size ≤ w6.heap.size) := Lib.hid NN.out.size
   replace NN := Lib.hid (Bgo NN.out HB.out)
   replace OV := Lib.hid (own_next HB.out OV.out)
   clear HB
   go_wp2_with fail
   generalize (w6.alloc (.cells #[.int .i64 x1, .int .i64 x2] 36)) = W7 at *
   generalize w6.heap.size = gA at *
   refine (P2.out _).mono ?_
   rintro e w8 ⟨rfl, hb⟩
   replace NN := Lib.hid (Bgo NN.out hb)
   replace OV := Lib.hid (own_next hb OV.out)
   replace B14 := Lib.hid (blk_next hb B14.out)
   clear hb
   have HB := Lib.hid (show Below w8.heap.size w8 (w8.alloc (.cells #[.int .i64 y1, .int .i64 y2] 36)) from (Bal (Below.refl _ _) _))
   have B16 : Hid ((w8.alloc (.cells #[.int .i64 y1, .int .i64 y2] 36)).heap[w8.heap.size]? = some (.cells #[.int .i64 y1, .int .i64 y2] 36)) := Lib.hid (blk_new w8 _)
   have LT_B16 : Hid (gA < w8.heap.size ∧ w.heap.size ≤ w8.heap.size) := Lib.hid ⟨blk_lt B14.out, NN.out.size⟩
   replace NN := Lib.hid (Bgo NN.out HB.out)
   replace OV := Lib.hid (own_next HB.out OV.out)
   replace B14 := Lib.hid (blk_next HB.out B14.out)
   clear HB
   have c_B14_0 := blk_cell B14.out 0 _ rfl
   have f_B14_0 := blk_frozen B14.out 0
   have c_B14_1 := blk_cell B14.out 1 _ rfl
   have f_B14_1 := blk_frozen B14.out 1
   have l_B14 := blk_lt B14.out
   go_wp2_with fail
   clear c_B14_0 f_B14_0 c_B14_1 f_B14_1 l_B14
   generalize (w8.alloc (.cells #[.int .i64 y1, .int .i64 y2] 36)) = W9 at *
   generalize w8.heap.size = gB at *
   refine bodyPost_ret (v := .tuple #[.slice none 0 0, .int .i64 12]) (by simp [results, Tryz.results21, go_sem]) rfl ⟨_, by rw [HE.out], (by first | exact NN.out | exact Bal NN.out _), fun _ => rfl, fun h => absurd (HE.out.symm.trans h) (by decide)⟩
  cases f2
  ·have LSN : Hid (ls = none) := Lib.hid (by rw [LS.out, if_neg (fun h => by cases h.2.1)])
   have HE := Lib.hid (EN.out (by rw [PT.out, LSN.out]))
   clear PT ES EN LS
   go_wp2_with fail
   refine (CC.out _).mono ?_
   rintro e w10 ⟨rfl, hb⟩
   replace NN := Lib.hid (Bgo NN.out hb)
   replace OV := Lib.hid (own_next hb OV.out)
   clear hb
   go_wp2_with fail
   refine (C2.out _).mono ?_
   rintro e w11 ⟨rfl, hb⟩
   replace NN := Lib.hid (Bgo NN.out hb)
   replace OV := Lib.hid (own_next hb OV.out)
   clear hb
   go_wp2_with fail
   refine (C3.out _).mono ?_
   rintro e w12 ⟨rfl, hb⟩
   replace NN := Lib.hid (Bgo NN.out hb)
   replace OV := Lib.hid (own_next hb OV.out)
   clear hb
   go_wp2_with fail
   refine (P1.out _).mono ?_
   rintro e w13 ⟨rfl, hb⟩
   replace NN := Lib.hid (Bgo NN.out hb)
   replace OV := Lib.hid (own_next hb OV.out)
   clear hb
   have HB := Lib.hid (show Below w13.heap.size w13 (w13.alloc (.cells #[.int .i64 x1, .int .i64 x2] 36)) from (Bal (Below.refl _ _) _))
   have B14 : Hid ((w13.alloc (.cells #[.int .i64 x1, .int .i64 x2] 36)).heap[w13.heap.size]? = some (.cells #[.int .i64 x1, .int .i64 x2] 36)) := Lib.hid (blk_new w13 _)
   have LT_B14 : Hid (w.heap.size ≤ w13.heap.size) := Lib.hid NN.out.size
   replace NN := Lib.hid (Bgo NN.out HB.out)
   replace OV := Lib.hid (own_next HB.out OV.out)
   clear HB
   go_wp2_with fail
   generalize (w13.alloc (.cells #[.int .i64 x1, .int .i64 x2] 36)) = W14 at *
   generalize w13.heap.size = gA at *
   refine (P2.out _).mono ?_
   rintro e w15 ⟨rfl, hb⟩
   replace NN := Lib.hid (Bgo NN.out hb)
   replace OV := Lib.hid (own_next hb OV.out)
   replace B14 := Lib.hid (blk_next hb B14.out)
   clear hb
   have HB := Lib.hid (show Below w15.heap.size w15 (w15.alloc (.cells #[.int .i64 y1, .int .i64 y2] 36)) from (Bal (Below.refl _ _) _))
   have B16 : Hid ((w15.alloc (.cells #[.int .i64 y1, .int .i64 y2] 36)).heap[w15.heap.size]? = some (.cells #[.int .i64 y1, .int .i64 y2] 36)) := Lib.hid (blk_new w15 _)
   have LT_B16 : Hid (gA < w15.heap.size ∧ w.heap.size ≤ w15.heap.size) := Lib.hid ⟨blk_lt B14.out, NN.out.size⟩
   replace NN := Lib.hid (Bgo NN.out HB.out)
   replace OV := Lib.hid (own_next HB.out OV.out)
   replace B14 := Lib.hid (blk_next HB.out B14.out)
   clear HB
   have c_B14_0 := blk_cell B14.out 0 _ rfl
   have f_B14_0 := blk_frozen B14.out 0
   have c_B14_1 := blk_cell B14.out 1 _ rfl
   have f_B14_1 := blk_frozen B14.out 1
   have l_B14 := blk_lt B14.out
   go_wp2_with fail
   clear c_B14_0 f_B14_0 c_B14_1 f_B14_1 l_B14
   generalize (w15.alloc (.cells #[.int .i64 y1, .int .i64 y2] 36)) = W16 at *
   generalize w15.heap.size = gB at *
   refine bodyPost_ret (v := .tuple #[.slice none 0 0, .int .i64 12]) (by simp [results, Tryz.results21, go_sem]) rfl ⟨_, by rw [HE.out], (by first | exact NN.out | exact Bal NN.out _), fun _ => rfl, fun h => absurd (HE.out.symm.trans h) (by decide)⟩
  by_cases hx3 : x3 = 0
  rotate_left
  ·have LSN : Hid (ls = none) := Lib.hid (by rw [LS.out, if_neg (fun h => hx3 h.2.2.1)])
   have qx : (x3 != 0) = true := by rw [bne_iff_ne]; exact hx3
   have HE := Lib.hid (EN.out (by rw [PT.out, LSN.out]))
   clear PT ES EN LS
   go_wp2_with fail
   refine (CC.out _).mono ?_
   rintro e w17 ⟨rfl, hb⟩
   replace NN := Lib.hid (Bgo NN.out hb)
   replace OV := Lib.hid (own_next hb OV.out)
   clear hb
   go_wp2_with fail
   refine (C2.out _).mono ?_
   rintro e w18 ⟨rfl, hb⟩
   replace NN := Lib.hid (Bgo NN.out hb)
   replace OV := Lib.hid (own_next hb OV.out)
   clear hb
   go_wp2_with fail
   refine (C3.out _).mono ?_
   rintro e w19 ⟨rfl, hb⟩
   replace NN := Lib.hid (Bgo NN.out hb)
   replace OV := Lib.hid (own_next hb OV.out)
   clear hb
   go_wp2_with fail
   refine (P1.out _).mono ?_
   rintro e w20 ⟨rfl, hb⟩
   replace NN := Lib.hid (Bgo NN.out hb)
   replace OV := Lib.hid (own_next hb OV.out)
   clear hb
   have HB := Lib.hid (show Below w20.heap.size w20 (w20.alloc (.cells #[.int .i64 x1, .int .i64 x2] 36)) from (Bal (Below.refl _ _) _))
   have B14 : Hid ((w20.alloc (.cells #[.int .i64 x1, .int .i64 x2] 36)).heap[w20.heap.size]? = some (.cells #[.int .i64 x1, .int .i64 x2] 36)) := Lib.hid (blk_new w20 _)
   have LT_B14 : Hid (w.heap.size ≤ w20.heap.size) := Lib.hid NN.out.size
   replace NN := Lib.hid (Bgo NN.out HB.out)
   replace OV := Lib.hid (own_next HB.out OV.out)
   clear HB
   go_wp2_with fail
   generalize (w20.alloc (.cells #[.int .i64 x1, .int .i64 x2] 36)) = W21 at *
   generalize w20.heap.size = gA at *
   refine (P2.out _).mono ?_
   rintro e w22 ⟨rfl, hb⟩
   replace NN := Lib.hid (Bgo NN.out hb)
   replace OV := Lib.hid (own_next hb OV.out)
   replace B14 := Lib.hid (blk_next hb B14.out)
   clear hb
   have HB := Lib.hid (show Below w22.heap.size w22 (w22.alloc (.cells #[.int .i64 y1, .int .i64 y2] 36)) from (Bal (Below.refl _ _) _))
   have B16 : Hid ((w22.alloc (.cells #[.int .i64 y1, .int .i64 y2] 36)).heap[w22.heap.size]? = some (.cells #[.int .i64 y1, .int .i64 y2] 36)) := Lib.hid (blk_new w22 _)
   have LT_B16 : Hid (gA < w22.heap.size ∧ w.heap.size ≤ w22.heap.size) := Lib.hid ⟨blk_lt B14.out, NN.out.size⟩
   replace NN := Lib.hid (Bgo NN.out HB.out)
   replace OV := Lib.hid (own_next HB.out OV.out)
   replace B14 := Lib.hid (blk_next HB.out B14.out)
   clear HB
   have c_B14_0 := blk_cell B14.out 0 _ rfl
   have f_B14_0 := blk_frozen B14.out 0
   have c_B14_1 := blk_cell B14.out 1 _ rfl
   have f_B14_1 := blk_frozen B14.out 1
   have l_B14 := blk_lt B14.out
   go_wp2_with fail
   clear c_B14_0 f_B14_0 c_B14_1 f_B14_1 l_B14
   generalize (w22.alloc (.cells #[.int .i64 y1, .int .i64 y2] 36)) = W23 at *
   generalize w22.heap.size = gB at *
   refine bodyPost_ret (v := .tuple #[.slice none 0 0, .int .i64 12]) (by simp [results, Tryz.results21, go_sem]) rfl ⟨_, by rw [HE.out], (by first | exact NN.out | exact Bal NN.out _), fun _ => rfl, fun h => absurd (HE.out.symm.trans h) (by decide)⟩
  subst hx3
  by_cases hy3 : y3 = 0
  rotate_left
  ·have LSN : Hid (ls = none) := Lib.hid (by rw [LS.out, if_neg (fun h => hy3 h.2.2.2.1)])
   have qy : (y3 != 0) = true := by rw [bne_iff_ne]; exact hy3
   have HE := Lib.hid (EN.out (by rw [PT.out, LSN.out]))
   clear PT ES EN LS
   go_wp2_with fail
   refine (CC.out _).mono ?_
   rintro e w24 ⟨rfl, hb⟩
   replace NN := Lib.hid (Bgo NN.out hb)
   replace OV := Lib.hid (own_next hb OV.out)
   clear hb
   go_wp2_with fail
   refine (C2.out _).mono ?_
   rintro e w25 ⟨rfl, hb⟩
   replace NN := Lib.hid (Bgo NN.out hb)
   replace OV := Lib.hid (own_next hb OV.out)
   clear hb
   go_wp2_with fail
   refine (C3.out _).mono ?_
   rintro e w26 ⟨rfl, hb⟩
   replace NN := Lib.hid (Bgo NN.out hb)
   replace OV := Lib.hid (own_next hb OV.out)
   clear hb
   go_wp2_with fail
   refine (P1.out _).mono ?_
   rintro e w27 ⟨rfl, hb⟩
   replace NN := Lib.hid (Bgo NN.out hb)
   replace OV := Lib.hid (own_next hb OV.out)
   clear hb
   have HB := Lib.hid (show Below w27.heap.size w27 (w27.alloc (.cells #[.int .i64 x1, .int .i64 x2] 36)) from (Bal (Below.refl _ _) _))
   have B14 : Hid ((w27.alloc (.cells #[.int .i64 x1, .int .i64 x2] 36)).heap[w27.heap.size]? = some (.cells #[.int .i64 x1, .int .i64 x2] 36)) := Lib.hid (blk_new w27 _)
   have LT_B14 : Hid (w.heap.size ≤ w27.heap.size) := Lib.hid NN.out.size
   replace NN := Lib.hid (Bgo NN.out HB.out)
   replace OV := Lib.hid (own_next HB.out OV.out)
   clear HB
   go_wp2_with fail
   generalize (w27.alloc (.cells #[.int .i64 x1, .int .i64 x2] 36)) = W28 at *
   generalize w27.heap.size = gA at *
   refine (P2.out _).mono ?_
   rintro e w29 ⟨rfl, hb⟩
   replace NN := Lib.hid (Bgo NN.out hb)
   replace OV := Lib.hid (own_next hb OV.out)
   replace B14 := Lib.hid (blk_next hb B14.out)
   clear hb
   have HB := Lib.hid (show Below w29.heap.size w29 (w29.alloc (.cells #[.int .i64 y1, .int .i64 y2] 36)) from (Bal (Below.refl _ _) _))
   have B16 : Hid ((w29.alloc (.cells #[.int .i64 y1, .int .i64 y2] 36)).heap[w29.heap.size]? = some (.cells #[.int .i64 y1, .int .i64 y2] 36)) := Lib.hid (blk_new w29 _)
   have LT_B16 : Hid (gA < w29.heap.size ∧ w.heap.size ≤ w29.heap.size) := Lib.hid ⟨blk_lt B14.out, NN.out.size⟩
   replace NN := Lib.hid (Bgo NN.out HB.out)
   replace OV := Lib.hid (own_next HB.out OV.out)
   replace B14 := Lib.hid (blk_next HB.out B14.out)
   clear HB
   have c_B14_0 := blk_cell B14.out 0 _ rfl
   have f_B14_0 := blk_frozen B14.out 0
   have c_B14_1 := blk_cell B14.out 1 _ rfl
   have f_B14_1 := blk_frozen B14.out 1
   have l_B14 := blk_lt B14.out
   go_wp2_with fail
   clear c_B14_0 f_B14_0 c_B14_1 f_B14_1 l_B14
   generalize (w29.alloc (.cells #[.int .i64 y1, .int .i64 y2] 36)) = W30 at *
   generalize w29.heap.size = gB at *
   refine bodyPost_ret (v := .tuple #[.slice none 0 0, .int .i64 12]) (by simp [results, Tryz.results21, go_sem]) rfl ⟨_, by rw [HE.out], (by first | exact NN.out | exact Bal NN.out _), fun _ => rfl, fun h => absurd (HE.out.symm.trans h) (by decide)⟩
  subst hy3
  cases hv : valS ⟨⟨nm.toArray⟩, x1, x2, y1, y2⟩
  ·have LSN : Hid (ls = none) := Lib.hid (by rw [LS.out, if_neg (fun h => by rw [hv] at h; cases h.2.2.2.2)])
   have HE := Lib.hid (EN.out (by rw [PT.out, LSN.out]))
   rw [hv] at VC
   clear PT ES EN LS LSN hv
   go_wp2_with fail
   refine (CC.out _).mono ?_
   rintro e w31 ⟨rfl, hb⟩
   replace NN := Lib.hid (Bgo NN.out hb)
   replace OV := Lib.hid (own_next hb OV.out)
   clear hb
   go_wp2_with fail
   refine (C2.out _).mono ?_
   rintro e w32 ⟨rfl, hb⟩
   replace NN := Lib.hid (Bgo NN.out hb)
   replace OV := Lib.hid (own_next hb OV.out)
   clear hb
   go_wp2_with fail
   refine (C3.out _).mono ?_
   rintro e w33 ⟨rfl, hb⟩
   replace NN := Lib.hid (Bgo NN.out hb)
   replace OV := Lib.hid (own_next hb OV.out)
   clear hb
   go_wp2_with fail
   refine (P1.out _).mono ?_
   rintro e w34 ⟨rfl, hb⟩
   replace NN := Lib.hid (Bgo NN.out hb)
   replace OV := Lib.hid (own_next hb OV.out)
   clear hb
   have HB := Lib.hid (show Below w34.heap.size w34 (w34.alloc (.cells #[.int .i64 x1, .int .i64 x2] 36)) from (Bal (Below.refl _ _) _))
   have B14 : Hid ((w34.alloc (.cells #[.int .i64 x1, .int .i64 x2] 36)).heap[w34.heap.size]? = some (.cells #[.int .i64 x1, .int .i64 x2] 36)) := Lib.hid (blk_new w34 _)
   have LT_B14 : Hid (w.heap.size ≤ w34.heap.size) := Lib.hid NN.out.size
   replace NN := Lib.hid (Bgo NN.out HB.out)
   replace OV := Lib.hid (own_next HB.out OV.out)
   clear HB
   go_wp2_with fail
   generalize (w34.alloc (.cells #[.int .i64 x1, .int .i64 x2] 36)) = W35 at *
   generalize w34.heap.size = gA at *
   refine (P2.out _).mono ?_
   rintro e w36 ⟨rfl, hb⟩
   replace NN := Lib.hid (Bgo NN.out hb)
   replace OV := Lib.hid (own_next hb OV.out)
   replace B14 := Lib.hid (blk_next hb B14.out)
   clear hb
   have SZ9 : Hid ((w36.alloc (.cells #[.int .i64 y1, .int .i64 y2] 36)).heap.size = w36.heap.size + 1) := Lib.hid (by simp)
   have HB := Lib.hid (show Below w36.heap.size w36 (w36.alloc (.cells #[.int .i64 y1, .int .i64 y2] 36)) from (Bal (Below.refl _ _) _))
   have B16 : Hid ((w36.alloc (.cells #[.int .i64 y1, .int .i64 y2] 36)).heap[w36.heap.size]? = some (.cells #[.int .i64 y1, .int .i64 y2] 36)) := Lib.hid (blk_new w36 _)
   have LT_B16 : Hid (gA < w36.heap.size ∧ w.heap.size ≤ w36.heap.size) := Lib.hid ⟨blk_lt B14.out, NN.out.size⟩
   replace NN := Lib.hid (Bgo NN.out HB.out)
   replace OV := Lib.hid (own_next HB.out OV.out)
   replace B14 := Lib.hid (blk_next HB.out B14.out)
   clear HB
   have c_B14_0 := blk_cell B14.out 0 _ rfl
   have f_B14_0 := blk_frozen B14.out 0
   have c_B14_1 := blk_cell B14.out 1 _ rfl
   have f_B14_1 := blk_frozen B14.out 1
   have l_B14 := blk_lt B14.out
   go_upto_region 11 with fail
   clear c_B14_0 f_B14_0 c_B14_1 f_B14_1 l_B14
   generalize (w36.alloc (.cells #[.int .i64 y1, .int .i64 y2] 36)) = W37 at *
   generalize w36.heap.size = gB at *
   have HB := Lib.hid (Bal (Below.refl W37.heap.size W37) (.cells #[.string ⟨nm.toArray⟩, .int .i64 x1, .int .i64 x2, .int .i64 y1, .int .i64 y2] 69))
   have B18 : Hid ((W37.alloc (.cells #[.string ⟨nm.toArray⟩, .int .i64 x1, .int .i64 x2, .int .i64 y1, .int .i64 y2] 69)).heap[gB + 1]? = some (.cells #[.string ⟨nm.toArray⟩, .int .i64 x1, .int .i64 x2, .int .i64 y1, .int .i64 y2] 69)) := Lib.hid (by rw [← SZ9.out]; exact blk_new W37 _)
   replace NN := Lib.hid (Bgo NN.out HB.out)
   replace OV := Lib.hid (own_next HB.out OV.out)
   replace B14 := Lib.hid (blk_next HB.out B14.out)
   replace B16 := Lib.hid (blk_next HB.out B16.out)
   clear HB SZ9
   generalize W37.alloc (.cells #[.string ⟨nm.toArray⟩, .int .i64 x1, .int .i64 x2, .int .i64 y1, .int .i64 y2] 69) = W38 at *
   have c_B18_0 := blk_cell B18.out 0 _ rfl
   have f_B18_0 := blk_frozen B18.out 0
   have c_B18_1 := blk_cell B18.out 1 _ rfl
   have f_B18_1 := blk_frozen B18.out 1
   have c_B18_2 := blk_cell B18.out 2 _ rfl
   have f_B18_2 := blk_frozen B18.out 2
   have c_B18_3 := blk_cell B18.out 3 _ rfl
   have f_B18_3 := blk_frozen B18.out 3
   have c_B18_4 := blk_cell B18.out 4 _ rfl
   have f_B18_4 := blk_frozen B18.out 4
   have l_B18 := blk_lt B18.out
   go_wp2_with fail
   clear c_B18_0 f_B18_0 c_B18_1 f_B18_1 c_B18_2 f_B18_2 c_B18_3 f_B18_3 c_B18_4 f_B18_4 l_B18
   refine (VC.out _).mono ?_
   rintro e w39 ⟨rfl, hb⟩
   replace NN := Lib.hid (Bgo NN.out hb)
   replace OV := Lib.hid (own_next hb OV.out)
   replace B14 := Lib.hid (blk_next hb B14.out)
   replace B16 := Lib.hid (blk_next hb B16.out)
   replace B18 := Lib.hid (blk_next hb B18.out)
   clear hb
   clear B14 B16
   have c_B18_0 := blk_cell B18.out 0 _ rfl
   have f_B18_0 := blk_frozen B18.out 0
   have c_B18_1 := blk_cell B18.out 1 _ rfl
   have f_B18_1 := blk_frozen B18.out 1
   have c_B18_2 := blk_cell B18.out 2 _ rfl
   have f_B18_2 := blk_frozen B18.out 2
   have c_B18_3 := blk_cell B18.out 3 _ rfl
   have f_B18_3 := blk_frozen B18.out 3
   have c_B18_4 := blk_cell B18.out 4 _ rfl
   have f_B18_4 := blk_frozen B18.out 4
   have l_B18 := blk_lt B18.out
   go_wp2_with fail
   clear c_B18_0 f_B18_0 c_B18_1 f_B18_1 c_B18_2 f_B18_2 c_B18_3 f_B18_3 c_B18_4 f_B18_4 l_B18
   refine bodyPost_ret (v := .tuple #[.slice none 0 0, .int .i64 12]) (by simp [results, Tryz.results21, go_sem]) rfl ⟨_, by rw [HE.out], NN.out, fun _ => rfl, fun h => absurd (HE.out.symm.trans h) (by decide)⟩
  ·have LSS : Hid (ls = some ⟨⟨nm.toArray⟩, x1, x2, y1, y2⟩) := Lib.hid (by rw [LS.out, if_pos ⟨rfl, rfl, rfl, rfl, hv⟩])
   rw [hv] at VC
   obtain ⟨x, hx⟩ : ∃ x : St, x = ⟨⟨nm.toArray⟩, x1, x2, y1, y2⟩ := ⟨_, rfl⟩
   have HX := Lib.hid hx
   have PT2 : Hid (R = parT f (acc ++ [x]) lr) := Lib.hid (by rw [PT.out, LSS.out, ← hx])
   clear hv LS PT LSS hx
   go_wp2_with fail
   refine (CC.out _).mono ?_
   rintro e w40 ⟨rfl, hb⟩
   replace NN := Lib.hid (Bgo NN.out hb)
   replace OV := Lib.hid (own_next hb OV.out)
   clear hb
   go_wp2_with fail
   refine (C2.out _).mono ?_
   rintro e w41 ⟨rfl, hb⟩
   replace NN := Lib.hid (Bgo NN.out hb)
   replace OV := Lib.hid (own_next hb OV.out)
   clear hb
   go_wp2_with fail
   refine (C3.out _).mono ?_
   rintro e w42 ⟨rfl, hb⟩
   replace NN := Lib.hid (Bgo NN.out hb)
   replace OV := Lib.hid (own_next hb OV.out)
   clear hb
   go_wp2_with fail
   refine (P1.out _).mono ?_
   rintro e w43 ⟨rfl, hb⟩
   replace NN := Lib.hid (Bgo NN.out hb)
   replace OV := Lib.hid (own_next hb OV.out)
   clear hb
   have HB := Lib.hid (show Below w43.heap.size w43 (w43.alloc (.cells #[.int .i64 x1, .int .i64 x2] 36)) from (Bal (Below.refl _ _) _))
   have B14 : Hid ((w43.alloc (.cells #[.int .i64 x1, .int .i64 x2] 36)).heap[w43.heap.size]? = some (.cells #[.int .i64 x1, .int .i64 x2] 36)) := Lib.hid (blk_new w43 _)
   have LT_B14 : Hid (w.heap.size ≤ w43.heap.size) := Lib.hid NN.out.size
   replace NN := Lib.hid (Bgo NN.out HB.out)
   replace OV := Lib.hid (own_next HB.out OV.out)
   clear HB
   go_wp2_with fail
   generalize (w43.alloc (.cells #[.int .i64 x1, .int .i64 x2] 36)) = W44 at *
   generalize w43.heap.size = gA at *
   refine (P2.out _).mono ?_
   rintro e w45 ⟨rfl, hb⟩
   replace NN := Lib.hid (Bgo NN.out hb)
   replace OV := Lib.hid (own_next hb OV.out)
   replace B14 := Lib.hid (blk_next hb B14.out)
   clear hb
   have SZ9 : Hid ((w45.alloc (.cells #[.int .i64 y1, .int .i64 y2] 36)).heap.size = w45.heap.size + 1) := Lib.hid (by simp)
   have HB := Lib.hid (show Below w45.heap.size w45 (w45.alloc (.cells #[.int .i64 y1, .int .i64 y2] 36)) from (Bal (Below.refl _ _) _))
   have B16 : Hid ((w45.alloc (.cells #[.int .i64 y1, .int .i64 y2] 36)).heap[w45.heap.size]? = some (.cells #[.int .i64 y1, .int .i64 y2] 36)) := Lib.hid (blk_new w45 _)
   have LT_B16 : Hid (gA < w45.heap.size ∧ w.heap.size ≤ w45.heap.size) := Lib.hid ⟨blk_lt B14.out, NN.out.size⟩
   replace NN := Lib.hid (Bgo NN.out HB.out)
   replace OV := Lib.hid (own_next HB.out OV.out)
   replace B14 := Lib.hid (blk_next HB.out B14.out)
   clear HB
   have c_B14_0 := blk_cell B14.out 0 _ rfl
   have f_B14_0 := blk_frozen B14.out 0
   have c_B14_1 := blk_cell B14.out 1 _ rfl
   have f_B14_1 := blk_frozen B14.out 1
   have l_B14 := blk_lt B14.out
   go_upto_region 11 with fail
   clear c_B14_0 f_B14_0 c_B14_1 f_B14_1 l_B14
   generalize (w45.alloc (.cells #[.int .i64 y1, .int .i64 y2] 36)) = W46 at *
   generalize w45.heap.size = gB at *
   have HB := Lib.hid (Bal (Below.refl W46.heap.size W46) (.cells #[.string ⟨nm.toArray⟩, .int .i64 x1, .int .i64 x2, .int .i64 y1, .int .i64 y2] 69))
   have B18 : Hid ((W46.alloc (.cells #[.string ⟨nm.toArray⟩, .int .i64 x1, .int .i64 x2, .int .i64 y1, .int .i64 y2] 69)).heap[gB + 1]? = some (.cells #[.string ⟨nm.toArray⟩, .int .i64 x1, .int .i64 x2, .int .i64 y1, .int .i64 y2] 69)) := Lib.hid (by rw [← SZ9.out]; exact blk_new W46 _)
   replace NN := Lib.hid (Bgo NN.out HB.out)
   replace OV := Lib.hid (own_next HB.out OV.out)
   replace B14 := Lib.hid (blk_next HB.out B14.out)
   replace B16 := Lib.hid (blk_next HB.out B16.out)
   clear HB SZ9
   generalize W46.alloc (.cells #[.string ⟨nm.toArray⟩, .int .i64 x1, .int .i64 x2, .int .i64 y1, .int .i64 y2] 69) = W47 at *
   have c_B18_0 := blk_cell B18.out 0 _ rfl
   have f_B18_0 := blk_frozen B18.out 0
   have c_B18_1 := blk_cell B18.out 1 _ rfl
   have f_B18_1 := blk_frozen B18.out 1
   have c_B18_2 := blk_cell B18.out 2 _ rfl
   have f_B18_2 := blk_frozen B18.out 2
   have c_B18_3 := blk_cell B18.out 3 _ rfl
   have f_B18_3 := blk_frozen B18.out 3
   have c_B18_4 := blk_cell B18.out 4 _ rfl
   have f_B18_4 := blk_frozen B18.out 4
   have l_B18 := blk_lt B18.out
   go_wp2_with fail
   clear c_B18_0 f_B18_0 c_B18_1 f_B18_1 c_B18_2 f_B18_2 c_B18_3 f_B18_3 c_B18_4 f_B18_4 l_B18
   refine (VC.out _).mono ?_
   rintro e w48 ⟨rfl, hb⟩
   replace NN := Lib.hid (Bgo NN.out hb)
   replace OV := Lib.hid (own_next hb OV.out)
   replace B14 := Lib.hid (blk_next hb B14.out)
   replace B16 := Lib.hid (blk_next hb B16.out)
   replace B18 := Lib.hid (blk_next hb B18.out)
   clear hb
   clear B14 B16
   have H63 : Hid (acc.length + 1 ≤ maxLen) := Lib.hid (by simp [maxLen]; omega)
   have H64 : Hid ((acc.length + 1) * 48 ≤ 140737488355328) := Lib.hid (by omega)
   have H5 : Hid (w.heap.size ≤ (w48.alloc (.cells #[.string ⟨nm.toArray⟩, .int .i64 x1, .int .i64 x2, .int .i64 y1, .int .i64 y2] 69)).heap.size) := Lib.hid (by rw [World.size_alloc]; have := NN.out.size; omega)
   have OW := Lib.hid (World.ownsRow.alloc OV.out (.cells #[.string ⟨nm.toArray⟩, .int .i64 x1, .int .i64 x2, .int .i64 y1, .int .i64 y2] 69))
   have c_B18_0 := blk_cell B18.out 0 _ rfl
   have f_B18_0 := blk_frozen B18.out 0
   have c_B18_1 := blk_cell B18.out 1 _ rfl
   have f_B18_1 := blk_frozen B18.out 1
   have c_B18_2 := blk_cell B18.out 2 _ rfl
   have f_B18_2 := blk_frozen B18.out 2
   have c_B18_3 := blk_cell B18.out 3 _ rfl
   have f_B18_3 := blk_frozen B18.out 3
   have c_B18_4 := blk_cell B18.out 4 _ rfl
   have f_B18_4 := blk_frozen B18.out 4
   have l_B18 := blk_lt B18.out
   go_wp2_with (at_builtin; refine wpList_append_rd _ rfl _ _ 24 rfl w.heap.size 69 i0 (.agg #[.string ⟨#[]⟩, .int .i64 0, .int .i64 0, .int .i64 0, .int .i64 0]) 5 48 und_sites HI.out.1 HI.out.2.1 HI.out.2.2.1 HI.out.2.2.2 rfl (by decide) (.slice A0 acc.length c0) _ _ rfl OW.out (some ⟨w48.heap.size, 0, none⟩) 1 1 (st5 ⟨⟨nm.toArray⟩, x1, x2, y1, y2⟩) rfl (Rd.blk (T := 69) (blk_new w48 _) rfl) (st5_one _) H63.out H64.out H5.out ?_; intro v9 w9 o9 g9 hat9)
   clear c_B18_0 f_B18_0 c_B18_1 f_B18_1 c_B18_2 f_B18_2 c_B18_3 f_B18_3 c_B18_4 f_B18_4 l_B18
   have BG := Lib.hid (own_grown OW.out g9 H5.out)
   have O9 : Hid (OSt w.heap.size w9 v9 (acc ++ [x])) := Lib.hid (by rw [HX.out]; unfold OSt; rw [List.flatMap_append, List.length_append]; simpa using o9)
   have N9 := Lib.hid ((Bal NN.out _).trans BG.out)
   have LT : lr.length < m.length := L3.out (by simp)
   have HF2 : Hid (lr.length < f) := Lib.hid (by have := HF.out; omega)
   go_roundw
   case rel => exact ⟨lr, acc ++ [x], f, rfl, Lib.hid PT2.out.symm, HF2, by omega, by have := N8.out; simp; omega, N9, O9⟩
   case measure => show (⟨lr.toArray⟩ : ByteArray).size < (⟨m.toArray⟩ : ByteArray).size; rw [← s_len, ← s_len]; simpa using LT
end Go.Proofs.YtfangplfbbgphaaGreatDoor
namespace Go.Proofs.YtfangplfbbgphaaGreatDoor
open Go.ChangeShapes Go.WideShapes Go.ChangeAt Go.RowKit
set_option linter.unusedVariables false
set_option linter.unusedSimpArgs false
attribute [local go_sem ↓] Go.wp_at_zero Go.wp_at_succ
theorem clsF_of {f : FuncId} {args : Array Value} {w : World} {pe : Int} {cs : List Cl} (h : Calls Tryz.prog f args w fun e w' => ∃ v, e = .returned (.tuple #[v, .int .i64 pe]) ∧ Below w.heap.size w w' ∧ (pe ≠ 0 → v = .slice none 0 0) ∧ (pe = 0 → ∃ hs, OC w.heap.size w' v cs hs)) {ds : List Cl} (hd : ds = if pe = 0 then cs else []) :
  Calls Tryz.prog f args w fun e w' => ∃ Ak ck hs, e = .returned (.tuple #[.slice Ak ds.length ck, .int .i64 pe]) ∧ Below w.heap.size w w' ∧ ds.length ≤ ck ∧ ck ≤ 9223372036854775807 ∧ OC w.heap.size w' (.slice Ak ds.length ck) ds hs := by
 refine h.mono ?_
 rintro e w' ⟨v, rfl, hb, h1, h2⟩
 by_cases hp : pe = 0
 ·rw [if_pos hp] at hd
  subst hd
  obtain ⟨hs, h4⟩ := h2 hp
  obtain ⟨A0, c0, hv, h5, h6, -⟩ := Rd.of_own h4.row
  subst hv
  exact ⟨A0, c0, hs, rfl, hb, h5, h6, h4⟩
 ·rw [if_neg hp] at hd
  subst hd
  rw [h1 hp]
  exact ⟨none, 0, [], rfl, hb, Nat.le_refl _, by decide, OC.nil _ _⟩
theorem stsF_of {f : FuncId} {args : Array Value} {w : World} {pe : Int} {l : List St} (h : Calls Tryz.prog f args w fun e w' => ∃ v, e = .returned (.tuple #[v, .int .i64 pe]) ∧ Below w.heap.size w w' ∧ (pe ≠ 0 → v = .slice none 0 0) ∧ (pe = 0 → OSt w.heap.size w' v l)) {ds : List St} (hd : ds = if pe = 0 then l else []) :
  Calls Tryz.prog f args w fun e w' => ∃ Ak ck, e = .returned (.tuple #[.slice Ak ds.length ck, .int .i64 pe]) ∧ Below w.heap.size w w' ∧ ds.length ≤ ck ∧ ck ≤ 9223372036854775807 ∧ Rd w' 5 Ak ds.length (ds.flatMap st5) := by
 refine h.mono ?_
 rintro e w' ⟨v, rfl, hb, h1, h2⟩
 by_cases hp : pe = 0
 ·rw [if_pos hp] at hd
  subst hd
  have h4 := h2 hp
  unfold OSt at h4
  obtain ⟨A0, c0, hv, h5, h6, h7⟩ := Rd.of_own h4
  subst hv
  exact ⟨A0, c0, rfl, hb, h5, h6, h7⟩
 ·rw [if_neg hp] at hd
  subst hd
  rw [h1 hp]
  exact ⟨none, 0, rfl, hb, Nat.le_refl _, by decide, rd_nil _ _ _⟩
set_option maxRecDepth 100000 in
set_option maxHeartbeats 16000000 in
theorem lforms_calls {A B : Int} {a : Option Addr} {c : Nat} {l : List St} {str : ByteArray} {w : World} (g : GL w) (hl : RSt w a l) (hc : l.length ≤ c) (hc' : c ≤ 9223372036854775807) (hs : str.size ≤ 9223372036854775807) : Calls Tryz.prog 5 #[Gv A B, .slice a l.length c, .string str] w fun e w' => e = .returned (.bool true) ∧ Below w.heap.size w w' := by
 have NN := Lib.hid (Below.refl w.heap.size w)
 have GG := Lib.hid g
 have HL := Lib.hid hl
 clear g hl
 have GR := Lib.hid (fun (W : World) (hb : Below w.heap.size w W) => great_calls a c l W (HL.out.next hb) hc hc')
 cases hg : greatB l
 ·rw [hg] at GR
  obtain ⟨h20, hn1⟩ := great_no hg
  have hn : ∀ x ∈ l, x.nm.size ≤ 9223372036854775807 := fun x hx => Nat.le_trans (hn1 x hx) (by decide)
  clear hg
  by_cases h2 : 2000 < str.size
  ·have d2 : decide ((2000 : Int) < (str.size : Int)) = true := decide_eq_true (by omega)
   go_enter Tryz.func5, Tryz.ntmps5
   go_wp2_with fail
   have G : Hid ((w.alloc (.cells #[.int .i64 A, .int .i64 B] 23)).heap[w.heap.size]? = some (.cells #[.int .i64 A, .int .i64 B] 23)) := Lib.hid (blk_new w _)
   replace NN : Hid (Below w.heap.size w (w.alloc (.cells #[.int .i64 A, .int .i64 B] 23))) := Lib.hid (Bal NN.out _)
   generalize (w.alloc (.cells #[.int .i64 A, .int .i64 B] 23)) = W1 at *
   refine (GR.out _ NN.out).mono ?_
   rintro e w2 ⟨rfl, hb⟩
   replace NN := Lib.hid (Bgo NN.out hb)
   replace G := Lib.hid (blk_next hb G.out)
   clear hb
   go_wp2_with fail
   go_ret
   exact ⟨rfl, NN.out⟩
  ·have s2 : str.size ≤ 2000 := by omega
   clear hs h2
   obtain ⟨⟨s⟩⟩ := str
   have s3 : s.length ≤ 2000 := s2
   clear s2
   have sl : s.length ≤ 100000 := by omega
   have d2 : decide ((2000 : Int) < (s.length : Int)) = false := decide_eq_false (by omega)
   obtain ⟨ds, hds⟩ : ∃ ds, ds = if plE A B l = 0 then clsL A B l else [] := ⟨_, rfl⟩
   obtain ⟨qs, hqs⟩ : ∃ qs, qs = if parE s = 0 then parL s else [] := ⟨_, rfl⟩
   have C1 := Lib.hid (fun (W : World) (hb : Below w.heap.size w W) => clsF_of (aclasses_calls (A := A) (B := B) (HL.out.next hb) hc hc' hn) hds)
   have C2 := Lib.hid (fun (W : World) (hb : Below w.heap.size w W) => clsF_of (rclasses_calls (A := A) (B := B) (HL.out.next hb) hc hc' hn) hds)
   have C3 := Lib.hid (fun (W : World) (hb : Below w.heap.size w W) => atext_calls (HL.out.next hb) hc hc' hn (GG.out.gt.next hb))
   have C4 := Lib.hid (fun (W : World) (hb : Below w.heap.size w W) => rtext_calls (HL.out.next hb) hc hc' hn)
   have C5 := Lib.hid (fun (W : World) (hb : Below w.heap.size w W) => stsF_of (aparseA_calls s W (GG.out.next hb) sl) hqs)
   have C6 := Lib.hid (fun (W : World) (hb : Below w.heap.size w W) => stsF_of (rparseA_calls s W sl) hqs)
   clear hds hqs hn hn1 h20 s3 sl
   generalize plE A B l = pe at *
   generalize parE s = qe at *
   generalize stsE l = se at *
   generalize txA l = tx at *
   go_enter Tryz.func5, Tryz.ntmps5
   go_wp2_with fail
   have G : Hid ((w.alloc (.cells #[.int .i64 A, .int .i64 B] 23)).heap[w.heap.size]? = some (.cells #[.int .i64 A, .int .i64 B] 23)) := Lib.hid (blk_new w _)
   replace NN : Hid (Below w.heap.size w (w.alloc (.cells #[.int .i64 A, .int .i64 B] 23))) := Lib.hid (Bal NN.out _)
   generalize (w.alloc (.cells #[.int .i64 A, .int .i64 B] 23)) = W3 at *
   refine (GR.out _ NN.out).mono ?_
   rintro e w4 ⟨rfl, hb⟩
   replace NN := Lib.hid (Bgo NN.out hb)
   replace G := Lib.hid (blk_next hb G.out)
   clear hb
   have c_G_0 := blk_cell G.out 0 _ rfl
   have f_G_0 := blk_frozen G.out 0
   have c_G_1 := blk_cell G.out 1 _ rfl
   have f_G_1 := blk_frozen G.out 1
   have l_G := blk_lt G.out
   go_wp2_with fail
   clear c_G_0 f_G_0 c_G_1 f_G_1 l_G
   refine (C1.out _ NN.out).mono ?_
   rintro e w5 ⟨a1, c1, h1, rfl, hb, k1, k1', o1⟩
   have O1 := Lib.hid o1
   clear o1
   replace NN := Lib.hid (Bgo NN.out hb)
   replace G := Lib.hid (blk_next hb G.out)
   clear hb
   have c_G_0 := blk_cell G.out 0 _ rfl
   have f_G_0 := blk_frozen G.out 0
   have c_G_1 := blk_cell G.out 1 _ rfl
   have f_G_1 := blk_frozen G.out 1
   have l_G := blk_lt G.out
   go_wp2_with fail
   clear c_G_0 f_G_0 c_G_1 f_G_1 l_G
   refine (C2.out _ NN.out).mono ?_
   rintro e w6 ⟨a2, c2, h2, rfl, hb, k2, k2', o2⟩
   have O2 := Lib.hid o2
   clear o2
   replace NN := Lib.hid (Bgo NN.out hb)
   replace O1 := Lib.hid (OC.next O1.out hb)
   replace G := Lib.hid (blk_next hb G.out)
   clear hb
   go_wp2_with fail
   refine (C3.out _ NN.out).mono ?_
   rintro e w7 ⟨rfl, hb⟩
   replace NN := Lib.hid (Bgo NN.out hb)
   replace O1 := Lib.hid (OC.next O1.out hb)
   replace O2 := Lib.hid (OC.next O2.out hb)
   replace G := Lib.hid (blk_next hb G.out)
   clear hb
   go_wp2_with fail
   refine (C4.out _ NN.out).mono ?_
   rintro e w8 ⟨rfl, hb⟩
   replace NN := Lib.hid (Bgo NN.out hb)
   replace O1 := Lib.hid (OC.next O1.out hb)
   replace O2 := Lib.hid (OC.next O2.out hb)
   replace G := Lib.hid (blk_next hb G.out)
   clear hb
   go_wp2_with fail
   refine (C5.out _ NN.out).mono ?_
   rintro e w9 ⟨a5, c5, rfl, hb, k5, k5', o5⟩
   have O5 := Lib.hid o5
   clear o5
   replace NN := Lib.hid (Bgo NN.out hb)
   replace O1 := Lib.hid (OC.next O1.out hb)
   replace O2 := Lib.hid (OC.next O2.out hb)
   replace G := Lib.hid (blk_next hb G.out)
   clear hb
   go_wp2_with fail
   refine (C6.out _ NN.out).mono ?_
   rintro e w10 ⟨a6, c6, rfl, hb, k6, k6', o6⟩
   have O6 := Lib.hid o6
   clear o6
   replace NN := Lib.hid (Bgo NN.out hb)
   replace O1 := Lib.hid (OC.next O1.out hb)
   replace O2 := Lib.hid (OC.next O2.out hb)
   replace O5 := Lib.hid (Rd.next hb O5.out)
   replace G := Lib.hid (blk_next hb G.out)
   clear hb
   go_wp2_with fail
   refine (sameC_calls O1.out O2.out k1 k1' k2).mono ?_
   rintro e w11 ⟨rfl, hb⟩
   replace NN := Lib.hid (Bgo NN.out hb)
   replace O1 := Lib.hid (OC.next O1.out hb)
   replace O2 := Lib.hid (OC.next O2.out hb)
   replace O5 := Lib.hid (Rd.next hb O5.out)
   replace O6 := Lib.hid (Rd.next hb O6.out)
   replace G := Lib.hid (blk_next hb G.out)
   clear hb
   go_wp2_with fail
   refine (sameS_calls a5 a6 c5 c6 qs _ O5.out O6.out k5 k5' k6 k6').mono ?_
   rintro e w12 ⟨rfl, hb⟩
   replace NN := Lib.hid (Bgo NN.out hb)
   replace O1 := Lib.hid (OC.next O1.out hb)
   replace O2 := Lib.hid (OC.next O2.out hb)
   replace O5 := Lib.hid (Rd.next hb O5.out)
   replace O6 := Lib.hid (Rd.next hb O6.out)
   replace G := Lib.hid (blk_next hb G.out)
   clear hb
   go_wp2_with fail
   go_ret
   exact ⟨rfl, NN.out⟩
 ·rw [hg] at GR
  clear hg
  go_enter Tryz.func5, Tryz.ntmps5
  go_wp2_with fail
  have G : Hid ((w.alloc (.cells #[.int .i64 A, .int .i64 B] 23)).heap[w.heap.size]? = some (.cells #[.int .i64 A, .int .i64 B] 23)) := Lib.hid (blk_new w _)
  replace NN : Hid (Below w.heap.size w (w.alloc (.cells #[.int .i64 A, .int .i64 B] 23))) := Lib.hid (Bal NN.out _)
  generalize (w.alloc (.cells #[.int .i64 A, .int .i64 B] 23)) = W13 at *
  refine (GR.out _ NN.out).mono ?_
  rintro e w14 ⟨rfl, hb⟩
  replace NN := Lib.hid (Bgo NN.out hb)
  replace G := Lib.hid (blk_next hb G.out)
  clear hb
  go_wp2_with fail
  go_ret
  exact ⟨rfl, NN.out⟩
end Go.Proofs.YtfangplfbbgphaaGreatDoor
namespace Go.Proofs.YtfangplfbbgphaaGreatDoor
open Go.ChangeShapes Go.WideShapes Go.ChangeAt Go.RowKit
set_option linter.unusedVariables false
theorem star : "*" ++ "errors.errorString" = "*errors.errorString" := by decide
theorem rowE (u : TypeId) (h : Tryz.prog.typeName? 3 u = some "*errors.errorString") : u = 216 :=
 typeName_ptr_named (nm := "errors.errorString") (by rw [star]; kernel_rfl) (by kernel_rfl) (by decide) u (by rw [star]; exact h)
theorem gl_of {W : World} (hL : laidMet Tryz.prog [("math/bits.deBruijn32tab", Rows.laid_math_bits_deBruijn32tab), ("math/bits.deBruijn64tab", Rows.laid_math_bits_deBruijn64tab), ("internal/strconv.uint64pow10", Rows.laid_internal_strconv_uint64pow10), ("strconv.ErrRange", Rows.laid_strconv_ErrRange), ("strconv.ErrSyntax", Rows.laid_strconv_ErrSyntax)] W) (hsh : W.ShapedOpen Tryz.prog) : GL W := by
 have h1 := hL.tail.tail
 have h2 := h1.tail
 have h3 := h2.tail
 refine ⟨Lib.tabIs_of_head (g := 3) (by kernel_rfl) (t := 196) (by kernel_rfl) Tryz.underlying196 Tryz.underlying150 (by kernel_rfl) (by kernel_rfl) h1, ?_, ?_, Tryz.laysM145.s1_3 W hsh⟩
 ·obtain ⟨a, s, hv, _⟩ := laid_sentinel h3 (g := 4) (by kernel_rfl) (ti := 113) (by kernel_rfl) Tryz.underlying113 rowE Tryz.underlying216 Tryz.underlying218 rfl rfl Tryz.underlying9 (by kernel_rfl) (by kernel_rfl)
  exact ⟨_, _, hv⟩
 ·obtain ⟨a, s, hv, _⟩ := laid_sentinel h2 (g := 5) (by kernel_rfl) (ti := 113) (by kernel_rfl) Tryz.underlying113 rowE Tryz.underlying216 Tryz.underlying218 rfl rfl Tryz.underlying9 (by kernel_rfl) (by kernel_rfl)
  exact ⟨_, _, hv⟩
end Go.Proofs.YtfangplfbbgphaaGreatDoor
