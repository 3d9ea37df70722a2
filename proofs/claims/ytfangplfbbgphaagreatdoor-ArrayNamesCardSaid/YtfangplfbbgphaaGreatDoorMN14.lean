/- Several texts in one. -/
import Derived.Test.YtfangplfbbgphaaGreatDoorMN07
import Derived.Test.YtfangplfbbgphaaGreatDoorMN11
import Derived.Test.YtfangplfbbgphaaGreatDoorMN13
namespace Go.Proofs.YtfangplfbbgphaaGreatDoor
open Go.ChangeShapes Go.WideShapes Go.ChangeAt Go.RowKit
set_option linter.unusedVariables false
set_option maxRecDepth 100000
set_option linter.unusedSimpArgs false
attribute [local go_sem ↓] Go.wp_at_zero Go.wp_at_succ
theorem SB.next {B b : Nat} {bs : List Value} {W W' : World} (h : SB B b bs W) (hb : Below W.heap.size W W') : SB B b bs W' := by
 rcases h with ⟨h1, v, h2, h3, h4⟩ | ⟨h1, v, h2, h3, h4⟩
 ·exact .inl ⟨h1, v, blk_next hb h2, own_next hb h3, h4⟩
 ·exact .inr ⟨h1, v, blk_next hb h2, own_next hb h3, h4⟩
theorem SBU.sb {B b : Nat} {bs : List Value} {W : World} (h : SBU B b bs W) : SB B b bs W := .inr h
def lineL (s : St) : List UInt8 := s.nm.data.toList ++ [32] ++ textL s.sn s.sd ++ [32] ++ textL s.tn s.td ++ [10]
def textA (l : List St) : List UInt8 := l.flatMap lineL
def txA (l : List St) : List UInt8 := if stsE l = 0 then textA l else []
theorem line_cells (nm : ByteArray) (a b : List UInt8) : Lib.strCells (nm ++ ⟨#[32]⟩ ++ ⟨a.toArray⟩ ++ ⟨#[32]⟩ ++ ⟨b.toArray⟩ ++ ⟨#[10]⟩) = Lib.byteCells (nm.data.toList ++ [32] ++ a ++ [32] ++ b ++ [10]) := by
 rw [Lib.strCells_eq]
 simp [ByteArray.data_append]
theorem line_size (nm : ByteArray) (a b : List UInt8) : (nm ++ ⟨#[32]⟩ ++ ⟨a.toArray⟩ ++ ⟨#[32]⟩ ++ ⟨b.toArray⟩ ++ ⟨#[10]⟩ : ByteArray).size = nm.size + a.length + b.length + 3 := by
 simp only [ByteArray.size_append]
 show nm.size + 1 + a.length + 1 + b.length + 1 = _
 omega
theorem bytes_app (a b : List UInt8) : Lib.byteCells (a ++ b) = Lib.byteCells a ++ Lib.byteCells b := by unfold Lib.byteCells; rw [List.map_append]
theorem textL_len {n d : Int} (h : prmB n d = true) : (textL n d).length ≤ 60 := by
 obtain ⟨h1, h2, h3, h4, h5⟩ := prm_facts h
 have ln := Lib.itoa_length_le n (by omega) (by omega)
 have ld := Lib.itoa_length_le d (by omega) (by omega)
 unfold textL
 split
 ·omega
 ·rw [List.length_append, List.length_cons]; omega
theorem txR_ok {n d : Int} (h : prmB n d = true) : errF n d = 0 ∧ txR n d = textL n d := by
 have h1 : errF n d = 0 := by unfold errF; rw [(prm_facts h).1]; rfl
 exact ⟨h1, by unfold txR; rw [if_pos h1]⟩
theorem valS_size {s : St} (h : valS s = true) : s.nm.size ≤ 40 := by
 unfold valS at h
 simp only [Bool.and_eq_true] at h
 have h1 := h.1
 unfold namB at h1
 rw [Bool.and_eq_true] at h1
 have := (of_decide_eq_true h1.1).2
 show s.nm.data.size ≤ 40
 simpa using this
theorem text_ok {n d : Int} (h : prmB n d = true) (W : World) (g : GT W) : Calls Tryz.prog 51 #[Fv n d] W fun e w' => e = .returned (.tuple #[Str (textL n d), .int .i64 0]) ∧ Below W.heap.size W w' := by
 have := text_calls n d W g
 rw [(txR_ok h).1, (txR_ok h).2] at this
 exact this
theorem textA_len {l : List St} (h : ∀ x ∈ l, valS x = true) : (textA l).length ≤ l.length * 200 := by
 unfold textA
 induction l with
 | nil => simp
 | cons x l ih =>
  rw [List.flatMap_cons, List.length_append, List.length_cons]
  have h1 := ih (fun y hy => h y (List.mem_cons_of_mem _ hy))
  have hx := h x (List.mem_cons_self ..)
  have h2 := valS_size hx
  have h3 := textL_len (plB_prm (valS_pl hx)).1
  have h4 := textL_len (plB_prm (valS_pl hx)).2
  have h5 : (lineL x).length = x.nm.size + (textL x.sn x.sd).length + (textL x.tn x.td).length + 3 := by
   unfold lineL
   simp only [List.length_append, List.length_cons, List.length_nil, Array.length_toList]
   show x.nm.size + 1 + _ + 1 + _ + 1 = _
   omega
  omega
set_option maxRecDepth 100000 in
set_option maxHeartbeats 8000000 in
theorem atext_calls {a : Option Addr} {c : Nat} {l : List St} {w : World} (hl : RSt w a l) (hc : l.length ≤ c) (hc' : c ≤ 9223372036854775807) (hn : ∀ x ∈ l, x.nm.size ≤ 9223372036854775807) (g : GT w) : Calls Tryz.prog 18 #[.slice a l.length c] w fun e w' =>
  e = .returned (.tuple #[Str (txA l), .int .i64 (stsE l)]) ∧ Below w.heap.size w w' := by
 have NN := Lib.hid (Below.refl w.heap.size w)
 have HL := Lib.hid hl
 have GG := Lib.hid g
 have SC := Lib.hid (fun (W : World) (hb : Below w.heap.size w W) => stations_calls a c l W (hl.next hb) hc hc' hn)
 have VV := Lib.hid (fun (h : stsE l = 0) => stsE_ok h)
 have TX : Hid (txA l = if stsE l = 0 then textA l else []) := Lib.hid rfl
 obtain ⟨pe, hpe⟩ : ∃ pe, stsE l = pe := ⟨_, rfl⟩
 simp only [hpe] at SC VV TX ⊢
 generalize txA l = tx at *
 clear hl hn g hpe
 go_enter Tryz.func18, Tryz.ntmps18
 go_wp2_with fail
 refine (SC.out _ NN.out).mono ?_
 rintro e w1 ⟨rfl, hb⟩
 replace NN := Lib.hid (Bgo NN.out hb)
 clear hb
 by_cases he : pe ≠ 0
 ·have q1 : (pe != 0) = true := by simpa using he
  have HX : Hid (tx = []) := Lib.hid (by rw [TX.out, if_neg he])
  clear he VV TX SC
  go_wp2_with fail
  go_ret2
  exact ⟨by rw [HX.out]; rfl, NN.out⟩
 have he0 : pe = 0 := by omega
 subst he0
 clear he SC
 have HX : Hid (tx = textA l) := Lib.hid (by rw [TX.out, if_pos rfl])
 obtain ⟨h8, hv⟩ := VV.out rfl
 have HV := Lib.hid hv
 have H8 := Lib.hid h8
 clear VV TX hv h8
 go_wp2_with fail
 have LB : Hid (w.heap.size ≤ w1.heap.size) := Lib.hid NN.out.size
 have SX : Hid (SB w1.heap.size w1.heap.size (Lib.byteCells (textA (l.take 0))) (w1.alloc (.cells #[.pointer none, .slice none 0 0] 110))) := Lib.hid (SB.new w1)
 replace NN := Lib.hid (Bal NN.out (.cells #[.pointer none, .slice none 0 0] 110))
 have LG : Hid (w1.heap.size ≤ (w1.alloc (.cells #[.pointer none, .slice none 0 0] 110)).heap.size) := Lib.hid (by simp)
 generalize w1.alloc (.cells #[.pointer none, .slice none 0 0] 110) = W0 at *
 generalize w1.heap.size = gb at *
 go_loopw [18] (fun i wr => ∃ k : Nat, k ≤ l.length ∧ i = .int .i64 k ∧ Hid (Below w.heap.size w wr) ∧ Hid (gb ≤ wr.heap.size) ∧ Hid (SB gb gb (Lib.byteCells (textA (l.take k))) wr)) (fun i _ => l.length - (intOf i).toNat)
 case atStart => exact ⟨0, by omega, rfl, NN, LG, SX⟩
 case round =>
  clear NN LG SX W0
  obtain ⟨k, hk, rfl, NN, LG, SX⟩ := hrel
  by_cases hlt : k < l.length
  ·obtain ⟨x, hx⟩ := get_some hlt
   obtain ⟨b, off, e, hb, hc0⟩ := Rd.rec_ HL.out (Nat.le_refl _) st5_len hx
   subst e
   have c0 := (NN.out.cell (p := ⟨b, off + k * 5, none⟩) hb).trans (hc0 0 _ rfl)
   have c1 := (NN.out.cell (p := ⟨b, off + k * 5 + 1, none⟩) hb).trans (hc0 1 _ rfl)
   have c2 := (NN.out.cell (p := ⟨b, off + k * 5 + 2, none⟩) hb).trans (hc0 2 _ rfl)
   have c3 := (NN.out.cell (p := ⟨b, off + k * 5 + 3, none⟩) hb).trans (hc0 3 _ rfl)
   have c4 := (NN.out.cell (p := ⟨b, off + k * 5 + 4, none⟩) hb).trans (hc0 4 _ rfl)
   have hbr : b < wr.heap.size := Nat.lt_of_lt_of_le hb NN.out.size
   have kk : k + 1 ≤ l.length := hlt
   have hm := List.mem_of_getElem? hx
   have hvx := HV.out x hm
   have P1 := Lib.hid (plB_prm (valS_pl hvx)).1
   have P2 := Lib.hid (plB_prm (valS_pl hvx)).2
   have hsz := valS_size hvx
   have t1 := textL_len P1.out
   have t2 := textL_len P2.out
   have T1 := Lib.hid (fun W g => text_ok P1.out W g)
   have T2 := Lib.hid (fun W g => text_ok P2.out W g)
   have LE : Hid (textA (l.take (k + 1)) = textA (l.take k) ++ lineL x) := Lib.hid (by
     unfold textA
     rw [List.take_succ_eq_append_getElem hlt, List.flatMap_append]
     have e : l[k] = x := by rw [List.getElem?_eq_getElem hlt] at hx; exact Option.some.inj hx
     rw [e]; simp)
   have LN : Hid ((textA (l.take k)).length ≤ 1600) := Lib.hid (by
     have h1 := textA_len (l := l.take k) (fun y hy => HV.out y (List.mem_of_mem_take hy))
     have h2 : (l.take k).length ≤ 8 := by rw [List.length_take]; have := H8.out; omega
     omega)
   have LX : Hid (lineL x = x.nm.data.toList ++ [32] ++ textL x.sn x.sd ++ [32] ++ textL x.tn x.td ++ [10]) := Lib.hid rfl
   clear hc0 hx hb hm hvx P1 P2
   generalize textL x.sn x.sd = ta at *
   generalize textL x.tn x.td = tb at *
   go_wp2_with fail
   clear c0 c1 c2 c3 c4 hbr
   have HB := Lib.hid (Bal (Below.refl wr.heap.size wr) (.cells #[.string x.nm, .int .i64 x.sn, .int .i64 x.sd, .int .i64 x.tn, .int .i64 x.td] 69))
   have X : Hid ((wr.alloc (.cells #[.string x.nm, .int .i64 x.sn, .int .i64 x.sd, .int .i64 x.tn, .int .i64 x.td] 69)).heap[wr.heap.size]? = some (.cells #[.string x.nm, .int .i64 x.sn, .int .i64 x.sd, .int .i64 x.tn, .int .i64 x.td] 69)) := Lib.hid (blk_new wr _)
   replace NN := Lib.hid (Bgo NN.out HB.out)
   replace LG := Lib.hid (Nat.le_trans LG.out HB.out.size)
   replace SX := Lib.hid (SB.next SX.out HB.out)
   clear HB
   refine (T1.out _ (GG.out.next NN.out)).mono ?_
   rintro e w2 ⟨rfl, hb⟩
   replace NN := Lib.hid (Bgo NN.out hb)
   replace LG := Lib.hid (Nat.le_trans LG.out hb.size)
   replace SX := Lib.hid (SB.next SX.out hb)
   replace X := Lib.hid (blk_next hb X.out)
   clear hb
   have c_X_0 := blk_cell X.out 0 _ rfl
   have f_X_0 := blk_frozen X.out 0
   have c_X_1 := blk_cell X.out 1 _ rfl
   have f_X_1 := blk_frozen X.out 1
   have c_X_2 := blk_cell X.out 2 _ rfl
   have f_X_2 := blk_frozen X.out 2
   have c_X_3 := blk_cell X.out 3 _ rfl
   have f_X_3 := blk_frozen X.out 3
   have c_X_4 := blk_cell X.out 4 _ rfl
   have f_X_4 := blk_frozen X.out 4
   have l_X := blk_lt X.out
   go_wp2_with fail
   clear c_X_0 f_X_0 c_X_1 f_X_1 c_X_2 f_X_2 c_X_3 f_X_3 c_X_4 f_X_4 l_X
   refine (T2.out _ (GG.out.next NN.out)).mono ?_
   rintro e w3 ⟨rfl, hb⟩
   replace NN := Lib.hid (Bgo NN.out hb)
   replace LG := Lib.hid (Nat.le_trans LG.out hb.size)
   replace SX := Lib.hid (SB.next SX.out hb)
   replace X := Lib.hid (blk_next hb X.out)
   clear hb
   have c_X_0 := blk_cell X.out 0 _ rfl
   have f_X_0 := blk_frozen X.out 0
   have c_X_1 := blk_cell X.out 1 _ rfl
   have f_X_1 := blk_frozen X.out 1
   have c_X_2 := blk_cell X.out 2 _ rfl
   have f_X_2 := blk_frozen X.out 2
   have c_X_3 := blk_cell X.out 3 _ rfl
   have f_X_3 := blk_frozen X.out 3
   have c_X_4 := blk_cell X.out 4 _ rfl
   have f_X_4 := blk_frozen X.out 4
   have l_X := blk_lt X.out
   go_wp2_with fail
   clear c_X_0 f_X_0 c_X_1 f_X_1 c_X_2 f_X_2 c_X_3 f_X_3 c_X_4 f_X_4 l_X
   refine (sb_write gb gb _ _ _ SX.out ?_ LG.out).mono ?_
   ·have h1 := LN.out
    have h2 := line_size x.nm ta tb
    simp only [Lib.byteCells, List.length_map]
    omega
   rintro e w9 ⟨rfl, hs9, hb9⟩
   have S9 := Lib.hid hs9
   have N9 := Lib.hid (NN.out.trans (hb9.mono LB.out))
   have L9 := Lib.hid (Nat.le_trans LG.out hb9.size)
   clear hs9 hb9 SX NN LG X
   go_wp2_with fail
   go_roundw
   case rel => exact ⟨k + 1, kk, by go_num, N9, L9, Lib.hid (by rw [LE.out, bytes_app, LX.out, ← line_cells]; exact S9.out.sb)⟩
   case measure => simp [intOf]; omega
  ·obtain rfl : k = l.length := by omega
   rw [List.take_length] at SX
   go_wp2_with fail
   refine (Tryz.Builder_String_any gb gb _ _ SX.out LG.out).mono ?_
   rintro e w9 ⟨rfl, hb9⟩
   have N9 := Lib.hid (NN.out.trans (hb9.mono LB.out))
   clear hb9
   go_wp2_with fail
   go_ret2
   exact ⟨by rw [HX.out]; rfl, N9.out⟩
end Go.Proofs.YtfangplfbbgphaaGreatDoor
namespace Go.Proofs.YtfangplfbbgphaaGreatDoor
open Go.ChangeShapes Go.WideShapes Go.ChangeAt Go.RowKit
set_option linter.unusedVariables false
set_option maxRecDepth 100000
set_option linter.unusedSimpArgs false
attribute [local go_sem ↓] Go.wp_at_zero Go.wp_at_succ
def five5 : List St := [⟨⟨#[97]⟩, 0, 1, 0, 1⟩, ⟨⟨#[98]⟩, 0, 1, 1, 1⟩, ⟨⟨#[99]⟩, 0, 1, -1, 1⟩, ⟨⟨#[100]⟩, 1, 1, 0, 1⟩, ⟨⟨#[101]⟩, -1, 1, 0, 1⟩]
theorem five_pl : plE 5 5 five5 = 0 := by kernel_rfl
theorem five_vec : five5.map (plV 5 5) = [⟨5, 1, 0, 1, 0, 1⟩, ⟨0, 1, 5, 1, 0, 1⟩, ⟨0, 1, -5, 1, 0, 1⟩, ⟨0, 1, 0, 1, 5, 1⟩, ⟨0, 1, 0, 1, -5, 1⟩] := by kernel_rfl
theorem five_li : liE 5 5 five5 0 1 = 0 ∧ liV 5 5 five5 0 1 = ⟨-5, 1, 5, 1, 0, 1⟩ := by constructor <;> kernel_rfl
theorem five_tx : stsE (five5.take 2) = 0 ∧ txA (five5.take 2) = [97, 32, 48, 32, 48, 10, 98, 32, 48, 32, 49, 10] := by constructor <;> kernel_rfl
def cls8 : List Cl := [(⟨-5, 1, 5, 1, 0, 1⟩, [(0, 1)]), (⟨-5, 1, -5, 1, 0, 1⟩, [(0, 2)]), (⟨-5, 1, 0, 1, 5, 1⟩, [(0, 3)]), (⟨-5, 1, 0, 1, -5, 1⟩, [(0, 4)]), (⟨0, 1, -10, 1, 0, 1⟩, [(1, 2)]), (⟨0, 1, -5, 1, 5, 1⟩, [(1, 3), (2, 4)]), (⟨0, 1, -5, 1, -5, 1⟩, [(1, 4), (2, 3)]), (⟨0, 1, 0, 1, -10, 1⟩, [(3, 4)])]
theorem five_cls : clsL 5 5 five5 = cls8 := by kernel_rfl
theorem lglobe_calls (w : World) : Calls Tryz.prog 29 #[] w fun e w' => e = .returned (Gv 5 5) ∧ Below w.heap.size w w' := by
 go_enter Tryz.func29, Tryz.ntmps29
 go_wp2
 exact bodyPost_ret (v := Gv 5 5) (by simp [results, Tryz.results29, go_sem]) rfl ⟨rfl, Bal (Below.refl _ _) _⟩
set_option maxRecDepth 100000 in
set_option maxHeartbeats 8000000 in
theorem lof_calls (x y z : Int) (w : World) : Calls Tryz.prog 15 #[.int .i64 x, .int .i64 y, .int .i64 z] w fun e w' => e = .returned (Vv ⟨x, 1, y, 1, z, 1⟩) ∧ Below w.heap.size w w' := by
 have NN := Lib.hid (Below.refl w.heap.size w)
 go_enter Tryz.func15, Tryz.ntmps15
 go_wp2_with fail
 have R : Hid ((w.alloc (.cells #[.int .i64 0, .int .i64 0, .int .i64 0, .int .i64 0, .int .i64 0, .int .i64 0] 38)).heap[w.heap.size]? = some (.cells #[.int .i64 0, .int .i64 0, .int .i64 0, .int .i64 0, .int .i64 0, .int .i64 0] 38)) := Lib.hid (blk_new w _)
 replace NN : Hid (Below w.heap.size w (w.alloc (.cells #[.int .i64 0, .int .i64 0, .int .i64 0, .int .i64 0, .int .i64 0, .int .i64 0] 38))) := Lib.hid (Bal NN.out _)
 generalize (w.alloc (.cells #[.int .i64 0, .int .i64 0, .int .i64 0, .int .i64 0, .int .i64 0, .int .i64 0] 38)) = W1 at *
 refine (refOf_calls _ _).mono ?_
 rintro e w2 ⟨rfl, hb⟩
 replace NN := Lib.hid (Bgo NN.out hb)
 replace R := Lib.hid (blk_next hb R.out)
 clear hb
 go_wp2_with fail
 refine (refOf_calls _ _).mono ?_
 rintro e w3 ⟨rfl, hb⟩
 replace NN := Lib.hid (Bgo NN.out hb)
 replace R := Lib.hid (blk_next hb R.out)
 clear hb
 go_wp2_with fail
 refine (refOf_calls _ _).mono ?_
 rintro e w4 ⟨rfl, hb⟩
 replace NN := Lib.hid (Bgo NN.out hb)
 replace R := Lib.hid (blk_next hb R.out)
 clear hb
 have c_R_0 := blk_cell R.out 0 _ rfl
 have f_R_0 := blk_frozen R.out 0
 have c_R_1 := blk_cell R.out 1 _ rfl
 have f_R_1 := blk_frozen R.out 1
 have c_R_2 := blk_cell R.out 2 _ rfl
 have f_R_2 := blk_frozen R.out 2
 have c_R_3 := blk_cell R.out 3 _ rfl
 have f_R_3 := blk_frozen R.out 3
 have c_R_4 := blk_cell R.out 4 _ rfl
 have f_R_4 := blk_frozen R.out 4
 have c_R_5 := blk_cell R.out 5 _ rfl
 have f_R_5 := blk_frozen R.out 5
 have l_R := blk_lt R.out
 go_wp2_with fail
 clear c_R_0 f_R_0 c_R_1 f_R_1 c_R_2 f_R_2 c_R_3 f_R_3 c_R_4 f_R_4 c_R_5 f_R_5 l_R
 replace R : Hid (((((((w4.setCell ⟨w.heap.size, 0, none⟩ (.int .i64 x)).setCell ⟨w.heap.size, 1, none⟩ (.int .i64 1)).setCell ⟨w.heap.size, 2, none⟩ (.int .i64 y)).setCell ⟨w.heap.size, 3, none⟩ (.int .i64 1)).setCell ⟨w.heap.size, 4, none⟩ (.int .i64 z)).setCell ⟨w.heap.size, 5, none⟩ (.int .i64 1)).heap[w.heap.size]? = some (.cells #[.int .i64 x, .int .i64 1, .int .i64 y, .int .i64 1, .int .i64 z, .int .i64 1] 38)) := Lib.hid (blk_set (blk_set (blk_set (blk_set (blk_set (blk_set (R.out) 0 (.int .i64 x)) 1 (.int .i64 1)) 2 (.int .i64 y)) 3 (.int .i64 1)) 4 (.int .i64 z)) 5 (.int .i64 1))
 replace NN := Lib.hid (Bset1 (Bset1 (Bset1 (Bset1 (Bset1 (Bset1 (NN.out) (show w.heap.size ≤ w.heap.size by omega) 0 (.int .i64 x)) (show w.heap.size ≤ w.heap.size by omega) 1 (.int .i64 1)) (show w.heap.size ≤ w.heap.size by omega) 2 (.int .i64 y)) (show w.heap.size ≤ w.heap.size by omega) 3 (.int .i64 1)) (show w.heap.size ≤ w.heap.size by omega) 4 (.int .i64 z)) (show w.heap.size ≤ w.heap.size by omega) 5 (.int .i64 1))
 generalize ((((((w4.setCell ⟨w.heap.size, 0, none⟩ (.int .i64 x)).setCell ⟨w.heap.size, 1, none⟩ (.int .i64 1)).setCell ⟨w.heap.size, 2, none⟩ (.int .i64 y)).setCell ⟨w.heap.size, 3, none⟩ (.int .i64 1)).setCell ⟨w.heap.size, 4, none⟩ (.int .i64 z)).setCell ⟨w.heap.size, 5, none⟩ (.int .i64 1)) = W5 at *
 have c_R_0 := blk_cell R.out 0 _ rfl
 have f_R_0 := blk_frozen R.out 0
 have c_R_1 := blk_cell R.out 1 _ rfl
 have f_R_1 := blk_frozen R.out 1
 have c_R_2 := blk_cell R.out 2 _ rfl
 have f_R_2 := blk_frozen R.out 2
 have c_R_3 := blk_cell R.out 3 _ rfl
 have f_R_3 := blk_frozen R.out 3
 have c_R_4 := blk_cell R.out 4 _ rfl
 have f_R_4 := blk_frozen R.out 4
 have c_R_5 := blk_cell R.out 5 _ rfl
 have f_R_5 := blk_frozen R.out 5
 have l_R := blk_lt R.out
 exact bodyPost_ret (v := Vv ⟨x, 1, y, 1, z, 1⟩) (by simp [results, Tryz.results15, go_sem, c_R_0, c_R_1, c_R_2, c_R_3, c_R_4, c_R_5]) rfl ⟨rfl, NN.out⟩
set_option maxRecDepth 100000 in
set_option maxHeartbeats 8000000 in
theorem lsite_calls (nm : ByteArray) (x y : Int) (w : World) : Calls Tryz.prog 30 #[.string nm, .int .i64 x, .int .i64 y] w fun e w' => e = .returned (Sv ⟨nm, x, 1, y, 1⟩) ∧ Below w.heap.size w w' := by
 have NN := Lib.hid (Below.refl w.heap.size w)
 go_enter Tryz.func30, Tryz.ntmps30
 go_wp2_with fail
 have R : Hid ((w.alloc (.cells #[.string ⟨#[]⟩, .int .i64 0, .int .i64 0, .int .i64 0, .int .i64 0] 69)).heap[w.heap.size]? = some (.cells #[.string ⟨#[]⟩, .int .i64 0, .int .i64 0, .int .i64 0, .int .i64 0] 69)) := Lib.hid (blk_new w _)
 replace NN : Hid (Below w.heap.size w (w.alloc (.cells #[.string ⟨#[]⟩, .int .i64 0, .int .i64 0, .int .i64 0, .int .i64 0] 69))) := Lib.hid (Bal NN.out _)
 generalize (w.alloc (.cells #[.string ⟨#[]⟩, .int .i64 0, .int .i64 0, .int .i64 0, .int .i64 0] 69)) = W1 at *
 refine (refOf_calls _ _).mono ?_
 rintro e w2 ⟨rfl, hb⟩
 replace NN := Lib.hid (Bgo NN.out hb)
 replace R := Lib.hid (blk_next hb R.out)
 clear hb
 go_wp2_with fail
 refine (refOf_calls _ _).mono ?_
 rintro e w3 ⟨rfl, hb⟩
 replace NN := Lib.hid (Bgo NN.out hb)
 replace R := Lib.hid (blk_next hb R.out)
 clear hb
 have c_R_0 := blk_cell R.out 0 _ rfl
 have f_R_0 := blk_frozen R.out 0
 have c_R_1 := blk_cell R.out 1 _ rfl
 have f_R_1 := blk_frozen R.out 1
 have c_R_2 := blk_cell R.out 2 _ rfl
 have f_R_2 := blk_frozen R.out 2
 have c_R_3 := blk_cell R.out 3 _ rfl
 have f_R_3 := blk_frozen R.out 3
 have c_R_4 := blk_cell R.out 4 _ rfl
 have f_R_4 := blk_frozen R.out 4
 have l_R := blk_lt R.out
 go_wp2_with fail
 clear c_R_0 f_R_0 c_R_1 f_R_1 c_R_2 f_R_2 c_R_3 f_R_3 c_R_4 f_R_4 l_R
 replace R : Hid ((((((w3.setCell ⟨w.heap.size, 0, none⟩ (.string nm)).setCell ⟨w.heap.size, 1, none⟩ (.int .i64 x)).setCell ⟨w.heap.size, 2, none⟩ (.int .i64 1)).setCell ⟨w.heap.size, 3, none⟩ (.int .i64 y)).setCell ⟨w.heap.size, 4, none⟩ (.int .i64 1)).heap[w.heap.size]? = some (.cells #[.string nm, .int .i64 x, .int .i64 1, .int .i64 y, .int .i64 1] 69)) := Lib.hid (blk_set (blk_set (blk_set (blk_set (blk_set (R.out) 0 (.string nm)) 1 (.int .i64 x)) 2 (.int .i64 1)) 3 (.int .i64 y)) 4 (.int .i64 1))
 replace NN := Lib.hid (Bset1 (Bset1 (Bset1 (Bset1 (Bset1 (NN.out) (show w.heap.size ≤ w.heap.size by omega) 0 (.string nm)) (show w.heap.size ≤ w.heap.size by omega) 1 (.int .i64 x)) (show w.heap.size ≤ w.heap.size by omega) 2 (.int .i64 1)) (show w.heap.size ≤ w.heap.size by omega) 3 (.int .i64 y)) (show w.heap.size ≤ w.heap.size by omega) 4 (.int .i64 1))
 generalize (((((w3.setCell ⟨w.heap.size, 0, none⟩ (.string nm)).setCell ⟨w.heap.size, 1, none⟩ (.int .i64 x)).setCell ⟨w.heap.size, 2, none⟩ (.int .i64 1)).setCell ⟨w.heap.size, 3, none⟩ (.int .i64 y)).setCell ⟨w.heap.size, 4, none⟩ (.int .i64 1)) = W4 at *
 have c_R_0 := blk_cell R.out 0 _ rfl
 have f_R_0 := blk_frozen R.out 0
 have c_R_1 := blk_cell R.out 1 _ rfl
 have f_R_1 := blk_frozen R.out 1
 have c_R_2 := blk_cell R.out 2 _ rfl
 have f_R_2 := blk_frozen R.out 2
 have c_R_3 := blk_cell R.out 3 _ rfl
 have f_R_3 := blk_frozen R.out 3
 have c_R_4 := blk_cell R.out 4 _ rfl
 have f_R_4 := blk_frozen R.out 4
 have l_R := blk_lt R.out
 exact bodyPost_ret (v := Sv ⟨nm, x, 1, y, 1⟩) (by simp [results, Tryz.results30, go_sem, c_R_0, c_R_1, c_R_2, c_R_3, c_R_4]) rfl ⟨rfl, NN.out⟩
set_option maxRecDepth 100000 in
set_option maxHeartbeats 8000000 in
theorem lfive_calls (w : World) : Calls Tryz.prog 31 #[] w fun e w' => ∃ g, e = .returned (.slice (some ⟨g, 0, none⟩) 5 5) ∧ w.heap.size ≤ g ∧ w'.heap[g]? = some (.cells (five5.flatMap st5).toArray 69) ∧ Below w.heap.size w w' := by
 have NN := Lib.hid (Below.refl w.heap.size w)
 go_enter Tryz.func31, Tryz.ntmps31
 go_wp2_with fail
 refine (lsite_calls _ _ _ _).mono ?_
 rintro e w1 ⟨rfl, hb⟩
 replace NN := Lib.hid (Bgo NN.out hb)
 clear hb
 go_wp2_with fail
 refine (lsite_calls _ _ _ _).mono ?_
 rintro e w2 ⟨rfl, hb⟩
 replace NN := Lib.hid (Bgo NN.out hb)
 clear hb
 go_wp2_with fail
 refine (lsite_calls _ _ _ _).mono ?_
 rintro e w3 ⟨rfl, hb⟩
 replace NN := Lib.hid (Bgo NN.out hb)
 clear hb
 go_wp2_with fail
 refine (lsite_calls _ _ _ _).mono ?_
 rintro e w4 ⟨rfl, hb⟩
 replace NN := Lib.hid (Bgo NN.out hb)
 clear hb
 go_wp2_with fail
 refine (lsite_calls _ _ _ _).mono ?_
 rintro e w5 ⟨rfl, hb⟩
 replace NN := Lib.hid (Bgo NN.out hb)
 clear hb
 go_wp2_with fail
 exact bodyPost_ret (v := .slice (some ⟨w5.heap.size, 0, none⟩) 5 5) (by simp [results, Tryz.results31, go_sem]) rfl ⟨_, rfl, NN.out.size, blk_new w5 _, Bal NN.out _⟩
end Go.Proofs.YtfangplfbbgphaaGreatDoor
