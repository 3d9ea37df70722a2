/- Several texts in one. -/
import Derived.Shelf.LaysM
import Derived.Shelf.Strconv.Clone
import Derived.Test.YtfangplfbbgphaaGreatDoorProg
import Derived.Test.YtfangplfbbgphaaGreatDoorMO11
import Derived.Test.YtfangplfbbgphaaGreatDoorMO21
import Derived.Test.YtfangplfbbgphaaGreatDoorMO22
namespace Go.Proofs.YtfangplfbbgphaaGreatDoor
set_option linter.unusedVariables false
set_option linter.unusedSimpArgs false
def prC (l : List UInt8) : Int × Int × Int := match Lib.cut l [47] with
 | (a, b, f) => match Lib.parseIntB 64 a with
  | .ok n => if f then (match Lib.parseIntB 64 b with
    | .ok d => if okF n d && (textL n d == l) then (n, d, 0) else (0, 0, 12)
    | _ => (0, 0, 12))
   else if okF n 1 && (textL n 1 == l) then (n, 1, 0) else (0, 0, 12)
  | _ => (0, 0, 12)
theorem prC_text {n d : Int} (v : VF n d) : prC (textL n d) = (n, d, 0) := by
 unfold prC
 rw [cut_text]
 simp only [v.itoaN]
 by_cases h : d = 1
 ·subst h
  simp [VF_okF v]
 ·simp only [h, decide_false, Bool.not_false, if_true, if_false]
  simp only [v.itoaD, VF_okF v, beq_self_eq_true, Bool.and_self, if_true]
theorem prC_form (l : List UInt8) : (∃ n d, VF n d ∧ textL n d = l ∧ prC l = (n, d, 0)) ∨ prC l = (0, 0, 12) := by
 have K : ∀ n d, (okF n d && (textL n d == l)) = true → VF n d ∧ textL n d = l := fun n d h => by
  rw [Bool.and_eq_true, beq_iff_eq] at h
  exact ⟨okF_VF h.1, h.2⟩
 unfold prC
 split
 split
 ·rename_i n hn
  split
  ·split
   ·rename_i d hd
    split
    ·rename_i h; exact .inl ⟨n, d, (K n d h).1, (K n d h).2, rfl⟩
    ·exact .inr rfl
   ·exact .inr rfl
  ·split
   ·rename_i h; exact .inl ⟨n, 1, (K n 1 h).1, (K n 1 h).2, rfl⟩
   ·exact .inr rfl
 ·exact .inr rfl
theorem prC_PR (l : List UInt8) : PR l (prC l) := by
 rcases prC_form l with ⟨n, d, v, h, e⟩ | e
 ·rw [e]; exact .inl ⟨rfl, v, h⟩
 ·rw [e]
  refine .inr ⟨rfl, fun n d v h => ?_⟩
  subst h
  rw [prC_text v] at e
  cases e
theorem PR.eq {l : List UInt8} {r : Int × Int × Int} (h : PR l r) : r = prC l := h.unique (prC_PR l)
theorem prC_err (l : List UInt8) : (prC l).2.2 = 0 ∨ prC l = (0, 0, 12) := by
 rcases prC_form l with ⟨n, d, _, _, e⟩ | e
 ·left; rw [e]
 ·exact .inr e
def lineS (l : List UInt8) : Option St :=
 let c := Lib.cut l [32]
 let d := Lib.cut c.2.1 [32]
 let x := prC d.1
 let y := prC d.2.1
 if x.2.2 = 0 ∧ y.2.2 = 0 then
  if valS ⟨⟨c.1.toArray⟩, x.1, x.2.1, y.1, y.2.1⟩ then some ⟨⟨c.1.toArray⟩, x.1, x.2.1, y.1, y.2.1⟩ else none
 else none
def parT : Nat → List St → List UInt8 → Option (List St)
 | 0, _, _ => none
 | f + 1, acc, l => if l.length = 0 then some acc else
  let c := Lib.cut l [10]
  if c.2.2 then (if acc.length = 8 then none else match lineS c.1 with
   | some s => parT f (acc ++ [s]) c.2.1
   | none => none)
  else none
def parA (l : List UInt8) : Option (List St) := parT (l.length + 1) [] l
def parE (l : List UInt8) : Int := if (parA l).isSome then 0 else 12
def parL (l : List UInt8) : List St := (parA l).getD []
theorem cut1_at {l r : List UInt8} {c : UInt8} (h : ∀ x ∈ l, x ≠ c) : Lib.cut (l ++ c :: r) [c] = (l, r, true) := by
 unfold Lib.cut
 rw [Lib.index_one, byte_at l c r h, if_pos (by omega)]
 simp [List.drop_append]
theorem cut1_len (l : List UInt8) (c : UInt8) : (Lib.cut l [c]).1.length ≤ l.length ∧ (Lib.cut l [c]).2.1.length ≤ l.length ∧ ((Lib.cut l [c]).2.2 = true → (Lib.cut l [c]).2.1.length < l.length) := by
 cases l with
 | nil => unfold Lib.cut; rw [Lib.index_one]; simp [Lib.indexByte]
 | cons x l =>
  unfold Lib.cut
  split
  ·simp; omega
  ·simp
theorem textL_byte {n d : Int} : ∀ c ∈ textL n d, c = 45 ∨ (47 ≤ c.toNat ∧ c.toNat ≤ 57) := by
 have I : ∀ n : Int, ∀ c ∈ Lib.itoa n, c = 45 ∨ (48 ≤ c.toNat ∧ c.toNat ≤ 57) := fun n c hc => by
  unfold Lib.itoa at hc
  split at hc
  ·rcases List.mem_cons.1 hc with h | h
   ·exact .inl h
   ·exact .inr (dec_digit (n.natAbs + 1) n.natAbs (by omega) _ h)
  ·exact .inr (dec_digit (n.toNat + 1) n.toNat (by omega) _ hc)
 intro c hc
 unfold textL at hc
 split at hc
 ·rcases I n c hc with h | h
  ·exact .inl h
  ·exact .inr ⟨by omega, h.2⟩
 ·rcases List.mem_append.1 hc with h | h
  ·rcases I n c h with h | h
   ·exact .inl h
   ·exact .inr ⟨by omega, h.2⟩
  ·rcases List.mem_cons.1 h with h | h
   ·subst h; exact .inr ⟨by decide, by decide⟩
   ·rcases I d c h with h | h
    ·exact .inl h
    ·exact .inr ⟨by omega, h.2⟩
theorem textL_no {n d : Int} (b : UInt8) (hb : b.toNat = 32 ∨ b.toNat = 10) : ∀ c ∈ textL n d, c ≠ b := fun c hc e => by
 subst e
 rcases textL_byte c hc with h | h
 ·rw [h] at hb; revert hb; decide
 ·omega
theorem name_no {s : St} (h : valS s = true) (b : UInt8) (hb : b.toNat = 32 ∨ b.toNat = 10) : ∀ c ∈ s.nm.data.toList, c ≠ b := fun c hc e => by
 subst e
 unfold valS namB at h
 simp only [Bool.and_eq_true, List.all_eq_true] at h
 have := h.1.2.2 c hc
 unfold namC at this
 rw [decide_eq_true_eq] at this
 omega
theorem valS_VF {s : St} (h : valS s = true) : VF s.sn s.sd ∧ VF s.tn s.td := by
 unfold valS at h
 rw [Bool.and_eq_true] at h
 unfold plB at h
 simp only [Bool.and_eq_true] at h
 exact ⟨okF_VF (prm_facts h.2.1).1, okF_VF (prm_facts h.2.2.1).1⟩
theorem lineS_of {s : St} (h : valS s = true) : lineS (s.nm.data.toList ++ [32] ++ textL s.sn s.sd ++ [32] ++ textL s.tn s.td) = some s := by
 obtain ⟨v, u⟩ := valS_VF h
 unfold lineS
 rw [show s.nm.data.toList ++ [32] ++ textL s.sn s.sd ++ [32] ++ textL s.tn s.td = s.nm.data.toList ++ 32 :: (textL s.sn s.sd ++ 32 :: textL s.tn s.td) by simp]
 simp only [cut1_at (name_no h 32 (by decide)), cut1_at (textL_no 32 (by decide)), prC_text v, prC_text u]
 simp only [and_self, if_true]
 rw [if_pos h]
theorem parT_of : ∀ (l acc : List St) (f : Nat), (∀ x ∈ l, valS x = true) → acc.length + l.length ≤ 8 → (textA l).length < f → parT f acc (textA l) = some (acc ++ l)
 | [], acc, f, _, _, hf => by
  cases f with
  | zero => simp at hf
  | succ f => simp [textA, parT]
 | s :: l, acc, f, hv, h8, hf => by
  cases f with
  | zero => simp at hf
  | succ f =>
   have hs := hv s (List.mem_cons_self ..)
   have e : textA (s :: l) = (s.nm.data.toList ++ [32] ++ textL s.sn s.sd ++ [32] ++ textL s.tn s.td) ++ 10 :: textA l := by
    unfold textA lineL; simp
   have hlen : (textA (s :: l)).length ≠ 0 := by rw [e]; simp
   have hl2 : (textA l).length < f := by rw [e] at hf; simp at hf; omega
   unfold parT
   rw [if_neg hlen, e]
   rw [cut1_at (fun c hc => by
    simp only [List.mem_append] at hc
    rcases hc with (((hc | hc) | hc) | hc) | hc
    ·exact name_no hs 10 (by decide) c hc
    ·simp at hc; subst hc; decide
    ·exact textL_no 10 (by decide) c hc
    ·simp at hc; subst hc; decide
    ·exact textL_no 10 (by decide) c hc)]
   simp only [if_true]
   simp only [List.length_cons] at h8
   rw [if_neg (by omega), lineS_of hs]
   simp only
   rw [parT_of l (acc ++ [s]) f (fun x hx => hv x (List.mem_cons_of_mem _ hx)) (by simp; omega) hl2]
   simp
theorem parA_of {l : List St} (hv : ∀ x ∈ l, valS x = true) (h8 : l.length ≤ 8) : parA (textA l) = some l := by
 unfold parA
 rw [parT_of l [] _ hv (by simpa using h8) (Nat.lt_succ_self _)]; rfl
theorem par_back {l : List St} (h : stsE l = 0) : parE (txA l) = 0 ∧ parL (txA l) = l := by
 obtain ⟨h8, hv⟩ := stsE_ok h
 unfold txA
 rw [if_pos h]
 unfold parE parL
 rw [parA_of hv h8]
 exact ⟨rfl, rfl⟩
end Go.Proofs.YtfangplfbbgphaaGreatDoor
namespace Go.Proofs
open Go.Shelf
def Tryz.laysM316_ren : Go.Shelf.Ren := ⟨fun | 316 => 118 | n => n, fun | 9 => 9 | 3 => 3 | 4 => 4 | 37 => 108 | 0 => 0 | 127 => 140 | 5 => 5 | n => n, fun | n => n⟩
theorem Tryz.laysM316 : Go.Proofs.LaysM.n316 Tryz.prog Tryz.laysM316_ren := {
 mixed := by kernel_rfl
 f316 := Tryz.func118.trans (congrArg some (by kernel_rfl))
 t0 := Tryz.underlying0
 a0 := Tryz.isAgg0
 z0 := Tryz.sizeOf0
 v0 := Tryz.zeroValue0
 t3 := Tryz.underlying3
 a3 := Tryz.isAgg3
 z3 := Tryz.sizeOf3
 v3 := Tryz.zeroValue3
 t4 := Tryz.underlying4
 a4 := Tryz.isAgg4
 z4 := Tryz.sizeOf4
 v4 := Tryz.zeroValue4
 t9 := Tryz.underlying9
 a9 := Tryz.isAgg9
 z9 := Tryz.sizeOf9
 v9 := Tryz.zeroValue9
 t37 := Tryz.underlying108
 a37 := Tryz.isAgg108
 z37 := Tryz.sizeOf108
 v37 := Tryz.zeroValue108
 t127 := Tryz.underlying140
 a127 := Tryz.isAgg140
 z127 := Tryz.sizeOf140
 v127 := Tryz.zeroValue140
 t5 := Tryz.underlying5
 a5 := Tryz.isAgg5
 z5 := Tryz.sizeOf5
 v5 := Tryz.zeroValue5
 i0 := by kernel_rfl
 i3 := by kernel_rfl
 i4 := by kernel_rfl
 i5 := by kernel_rfl
 i9 := by kernel_rfl
 i37 := by kernel_rfl
 i127 := by kernel_rfl }
open Go.RowKit in
theorem Tryz.stringslite_Clone (s : ByteArray) (w : World) (hlim : s.size ≤ 281474976710656) :
  Calls Tryz.prog 118 #[.string s] w fun e w' => e = .returned (.string s) ∧ Below w.heap.size w w' := Any.stringslite_Clone Tryz.laysM316 s w hlim
end Go.Proofs
namespace Go.Proofs.YtfangplfbbgphaaGreatDoor
open Go.ChangeShapes Go.WideShapes Go.ChangeAt Go.RowKit
set_option linter.unusedVariables false
set_option linter.unusedSimpArgs false
attribute [local go_sem ↓] Go.wp_at_zero Go.wp_at_succ
theorem cutG_calls (l : List UInt8) (c : UInt8) (w : World) (hs : l.length ≤ 100000) (g : GL w) :
  Calls Tryz.prog 56 #[Str l, .string ⟨#[c]⟩] w fun e w' => e = .returned (.tuple #[Str (Lib.cut l [c]).1, Str (Lib.cut l [c]).2.1, .bool (Lib.cut l [c]).2.2]) ∧ Below w.heap.size w w' := by
 obtain ⟨m, hm⟩ := g.max
 have h1 := (Tryz.strings_Cut ⟨l.toArray⟩ ⟨#[c]⟩ m w (by have := s_len ⟨l.toArray⟩; simp at this; omega) hm)
 exact h1.mono fun e w' ⟨h, k, hw⟩ => ⟨h, by rw [hw]; exact below_drewN (Below.refl _ _) k⟩
theorem fparse_calls (l : List UInt8) (w : World) (g : GL w) : Calls Tryz.prog 83 #[Str l] w fun e w' => e = .returned (Rv (prC l)) ∧ Below w.heap.size w w' := by
 have h1 := parseP_calls ⟨l.toArray⟩ w g
 refine h1.mono ?_
 rintro e w' ⟨r, rfl, hr, hb⟩
 have h2 := hr.eq
 rw [show (⟨l.toArray⟩ : ByteArray).data.toList = l by simp] at h2
 rw [h2]
 exact ⟨rfl, hb⟩
theorem sclone_calls (s : ByteArray) (w : World) (hs : s.size ≤ 100000) : Calls Tryz.prog 84 #[.string s] w fun e w' => e = .returned (.string s) ∧ Below w.heap.size w w' := by
 have C := fun W => Tryz.stringslite_Clone s W (by omega)
 go_enter Tryz.func84, Tryz.ntmps84
 go_wp2_with fail
 refine (C _).mono ?_
 rintro e w' ⟨rfl, hb⟩
 go_wp2_with fail
 go_ret
 exact ⟨rfl, hb⟩
theorem lineS_eq (l : List UInt8) : lineS l = if (prC (Lib.cut (Lib.cut l [32]).2.1 [32]).1).2.2 = 0 ∧ (prC (Lib.cut (Lib.cut l [32]).2.1 [32]).2.1).2.2 = 0 then
  if valS ⟨⟨(Lib.cut l [32]).1.toArray⟩, (prC (Lib.cut (Lib.cut l [32]).2.1 [32]).1).1, (prC (Lib.cut (Lib.cut l [32]).2.1 [32]).1).2.1, (prC (Lib.cut (Lib.cut l [32]).2.1 [32]).2.1).1, (prC (Lib.cut (Lib.cut l [32]).2.1 [32]).2.1).2.1⟩ then some ⟨⟨(Lib.cut l [32]).1.toArray⟩, (prC (Lib.cut (Lib.cut l [32]).2.1 [32]).1).1, (prC (Lib.cut (Lib.cut l [32]).2.1 [32]).1).2.1, (prC (Lib.cut (Lib.cut l [32]).2.1 [32]).2.1).1, (prC (Lib.cut (Lib.cut l [32]).2.1 [32]).2.1).2.1⟩ else none
 else none := rfl
theorem ret_site {x : St} {b b' : Bool} (h : b = b') : Ending.returned (.tuple #[Sv x, .bool b]) = .returned (.tuple #[Sv x, .bool b']) := by rw [h]
set_option maxRecDepth 100000 in
set_option maxHeartbeats 8000000 in
theorem aparse_calls (l : List UInt8) (w : World) (g : GL w) (hs : l.length ≤ 100000) : Calls Tryz.prog 57 #[Str l] w fun e w' => ∃ x : St, e = .returned (.tuple #[Sv x, .bool (lineS l).isSome]) ∧ (∀ s, lineS l = some s → x = s) ∧ Below w.heap.size w w' := by
 have NN := Lib.hid (Below.refl w.heap.size w)
 have GG := Lib.hid g
 clear g
 have C1 := Lib.hid (fun W (h : GL W) => cutG_calls l 32 W hs h)
 have LS := Lib.hid (lineS_eq l)
 have L1 := (cut1_len l 32)
 obtain ⟨⟨nm, rs, f1⟩, hc⟩ : ∃ r, Lib.cut l [32] = r := ⟨_, rfl⟩
 rw [hc] at C1 LS L1
 simp only at C1 LS L1
 clear hc
 have C2 := Lib.hid (fun W (h : GL W) => cutG_calls rs 32 W (Nat.le_trans L1.2.1 hs) h)
 have NS : Hid ((⟨nm.toArray⟩ : ByteArray).size ≤ 100000) := Lib.hid (by have := s_len ⟨nm.toArray⟩; simp at this; omega)
 obtain ⟨⟨xs, ys, f2⟩, hc⟩ : ∃ r, Lib.cut rs [32] = r := ⟨_, rfl⟩
 rw [hc] at C2 LS
 simp only at C2 LS
 clear hc L1 hs
 have P1 := Lib.hid (fun W (h : GL W) => fparse_calls xs W h)
 have P2 := Lib.hid (fun W (h : GL W) => fparse_calls ys W h)
 have E1 := Lib.hid (prC_err xs)
 have E2 := Lib.hid (prC_err ys)
 have SC := Lib.hid (fun W => sclone_calls ⟨nm.toArray⟩ W NS.out)
 generalize prC xs = px at *
 generalize prC ys = py at *
 generalize lineS l = R at *
 obtain ⟨x1, x2, x3⟩ := px
 obtain ⟨y1, y2, y3⟩ := py
 have E3 := E1.out
 have E4 := E2.out
 clear E1 E2
 simp only [Prod.mk.injEq] at E3 E4 LS
 rcases E3 with e3 | ⟨rfl, rfl, rfl⟩
 rotate_left
 ·replace LS : Hid (R = none) := Lib.hid (by rw [LS.out, if_neg (fun h => absurd h.1 (by decide))])
  clear E4
  go_enter Tryz.func57, Tryz.ntmps57
  go_wp2_with fail
  have S5 : Hid ((w.alloc (.cells #[.string ⟨#[]⟩, .int .i64 0, .int .i64 0, .int .i64 0, .int .i64 0] 69)).heap[w.heap.size]? = some (.cells #[.string ⟨#[]⟩, .int .i64 0, .int .i64 0, .int .i64 0, .int .i64 0] 69)) := Lib.hid (blk_new w _)
  replace NN : Hid (Below w.heap.size w (w.alloc (.cells #[.string ⟨#[]⟩, .int .i64 0, .int .i64 0, .int .i64 0, .int .i64 0] 69))) := Lib.hid (Bal NN.out _)
  generalize (w.alloc (.cells #[.string ⟨#[]⟩, .int .i64 0, .int .i64 0, .int .i64 0, .int .i64 0] 69)) = W1 at *
  refine (C1.out _ (GG.out.next NN.out)).mono ?_
  rintro e w2 ⟨rfl, hb⟩
  replace NN := Lib.hid (Bgo NN.out hb)
  replace S5 := Lib.hid (blk_next hb S5.out)
  clear hb
  go_wp2_with fail
  refine (C2.out _ (GG.out.next NN.out)).mono ?_
  rintro e w3 ⟨rfl, hb⟩
  replace NN := Lib.hid (Bgo NN.out hb)
  replace S5 := Lib.hid (blk_next hb S5.out)
  clear hb
  go_wp2_with fail
  refine (P1.out _ (GG.out.next NN.out)).mono ?_
  rintro e w4 ⟨rfl, hb⟩
  replace NN := Lib.hid (Bgo NN.out hb)
  replace S5 := Lib.hid (blk_next hb S5.out)
  clear hb
  have HB := Lib.hid (show Below w4.heap.size w4 (w4.alloc (.cells #[.int .i64 0, .int .i64 0] 36)) from (Bal (Below.refl _ _) _))
  have X2 : Hid ((w4.alloc (.cells #[.int .i64 0, .int .i64 0] 36)).heap[w4.heap.size]? = some (.cells #[.int .i64 0, .int .i64 0] 36)) := Lib.hid (blk_new w4 _)
  have LT_X2 : Hid (w.heap.size < w4.heap.size ∧ w.heap.size ≤ w4.heap.size) := Lib.hid ⟨blk_lt S5.out, NN.out.size⟩
  replace NN := Lib.hid (Bgo NN.out HB.out)
  replace S5 := Lib.hid (blk_next HB.out S5.out)
  clear HB
  have c_S5_0 := blk_cell S5.out 0 _ rfl
  have f_S5_0 := blk_frozen S5.out 0
  have c_S5_1 := blk_cell S5.out 1 _ rfl
  have f_S5_1 := blk_frozen S5.out 1
  have c_S5_2 := blk_cell S5.out 2 _ rfl
  have f_S5_2 := blk_frozen S5.out 2
  have c_S5_3 := blk_cell S5.out 3 _ rfl
  have f_S5_3 := blk_frozen S5.out 3
  have c_S5_4 := blk_cell S5.out 4 _ rfl
  have f_S5_4 := blk_frozen S5.out 4
  have l_S5 := blk_lt S5.out
  go_wp2_with fail
  clear c_S5_0 f_S5_0 c_S5_1 f_S5_1 c_S5_2 f_S5_2 c_S5_3 f_S5_3 c_S5_4 f_S5_4 l_S5
  generalize (w4.alloc (.cells #[.int .i64 0, .int .i64 0] 36)) = W5 at *
  generalize w4.heap.size = gX at *
  have e0 := blk_cell (blk_set (blk_set (blk_set (blk_set (blk_set (S5.out) 0 (.string ⟨#[]⟩)) 1 (.int .i64 0)) 2 (.int .i64 0)) 3 (.int .i64 0)) 4 (.int .i64 0)) 0 _ rfl
  have e1 := blk_cell (blk_set (blk_set (blk_set (blk_set (blk_set (S5.out) 0 (.string ⟨#[]⟩)) 1 (.int .i64 0)) 2 (.int .i64 0)) 3 (.int .i64 0)) 4 (.int .i64 0)) 1 _ rfl
  have e2 := blk_cell (blk_set (blk_set (blk_set (blk_set (blk_set (S5.out) 0 (.string ⟨#[]⟩)) 1 (.int .i64 0)) 2 (.int .i64 0)) 3 (.int .i64 0)) 4 (.int .i64 0)) 2 _ rfl
  have e3 := blk_cell (blk_set (blk_set (blk_set (blk_set (blk_set (S5.out) 0 (.string ⟨#[]⟩)) 1 (.int .i64 0)) 2 (.int .i64 0)) 3 (.int .i64 0)) 4 (.int .i64 0)) 3 _ rfl
  have e4 := blk_cell (blk_set (blk_set (blk_set (blk_set (blk_set (S5.out) 0 (.string ⟨#[]⟩)) 1 (.int .i64 0)) 2 (.int .i64 0)) 3 (.int .i64 0)) 4 (.int .i64 0)) 4 _ rfl
  exact bodyPost_ret (v := (.tuple #[Sv ⟨⟨#[]⟩, 0, 0, 0, 0⟩, .bool false])) (by simp [results, Tryz.results57, go_sem, e0, e1, e2, e3, e4]) rfl ⟨⟨⟨#[]⟩, 0, 0, 0, 0⟩, ret_site (by rw [LS.out]; rfl), fun s h => (by rw [LS.out] at h; cases h), Bset1 (Bset1 (Bset1 (Bset1 (Bset1 (NN.out) (by omega) _ _) (by omega) _ _) (by omega) _ _) (by omega) _ _) (by omega) _ _⟩
 subst e3
 rcases E4 with e4 | ⟨rfl, rfl, rfl⟩
 rotate_left
 ·replace LS : Hid (R = none) := Lib.hid (by rw [LS.out, if_neg (fun h => absurd h.2 (by decide))])
  go_enter Tryz.func57, Tryz.ntmps57
  go_wp2_with fail
  have S5 : Hid ((w.alloc (.cells #[.string ⟨#[]⟩, .int .i64 0, .int .i64 0, .int .i64 0, .int .i64 0] 69)).heap[w.heap.size]? = some (.cells #[.string ⟨#[]⟩, .int .i64 0, .int .i64 0, .int .i64 0, .int .i64 0] 69)) := Lib.hid (blk_new w _)
  replace NN : Hid (Below w.heap.size w (w.alloc (.cells #[.string ⟨#[]⟩, .int .i64 0, .int .i64 0, .int .i64 0, .int .i64 0] 69))) := Lib.hid (Bal NN.out _)
  generalize (w.alloc (.cells #[.string ⟨#[]⟩, .int .i64 0, .int .i64 0, .int .i64 0, .int .i64 0] 69)) = W6 at *
  refine (C1.out _ (GG.out.next NN.out)).mono ?_
  rintro e w7 ⟨rfl, hb⟩
  replace NN := Lib.hid (Bgo NN.out hb)
  replace S5 := Lib.hid (blk_next hb S5.out)
  clear hb
  go_wp2_with fail
  refine (C2.out _ (GG.out.next NN.out)).mono ?_
  rintro e w8 ⟨rfl, hb⟩
  replace NN := Lib.hid (Bgo NN.out hb)
  replace S5 := Lib.hid (blk_next hb S5.out)
  clear hb
  go_wp2_with fail
  refine (P1.out _ (GG.out.next NN.out)).mono ?_
  rintro e w9 ⟨rfl, hb⟩
  replace NN := Lib.hid (Bgo NN.out hb)
  replace S5 := Lib.hid (blk_next hb S5.out)
  clear hb
  have HB := Lib.hid (show Below w9.heap.size w9 (w9.alloc (.cells #[.int .i64 x1, .int .i64 x2] 36)) from (Bal (Below.refl _ _) _))
  have X2 : Hid ((w9.alloc (.cells #[.int .i64 x1, .int .i64 x2] 36)).heap[w9.heap.size]? = some (.cells #[.int .i64 x1, .int .i64 x2] 36)) := Lib.hid (blk_new w9 _)
  have LT_X2 : Hid (w.heap.size < w9.heap.size ∧ w.heap.size ≤ w9.heap.size) := Lib.hid ⟨blk_lt S5.out, NN.out.size⟩
  replace NN := Lib.hid (Bgo NN.out HB.out)
  replace S5 := Lib.hid (blk_next HB.out S5.out)
  clear HB
  go_wp2_with fail
  generalize (w9.alloc (.cells #[.int .i64 x1, .int .i64 x2] 36)) = W10 at *
  generalize w9.heap.size = gX at *
  refine (P2.out _ (GG.out.next NN.out)).mono ?_
  rintro e w11 ⟨rfl, hb⟩
  replace NN := Lib.hid (Bgo NN.out hb)
  replace S5 := Lib.hid (blk_next hb S5.out)
  replace X2 := Lib.hid (blk_next hb X2.out)
  clear hb
  have HB := Lib.hid (show Below w11.heap.size w11 (w11.alloc (.cells #[.int .i64 0, .int .i64 0] 36)) from (Bal (Below.refl _ _) _))
  have Y2 : Hid ((w11.alloc (.cells #[.int .i64 0, .int .i64 0] 36)).heap[w11.heap.size]? = some (.cells #[.int .i64 0, .int .i64 0] 36)) := Lib.hid (blk_new w11 _)
  have LT_Y2 : Hid (w.heap.size < w11.heap.size ∧ gX < w11.heap.size ∧ w.heap.size ≤ w11.heap.size) := Lib.hid ⟨blk_lt S5.out, blk_lt X2.out, NN.out.size⟩
  replace NN := Lib.hid (Bgo NN.out HB.out)
  replace S5 := Lib.hid (blk_next HB.out S5.out)
  replace X2 := Lib.hid (blk_next HB.out X2.out)
  clear HB
  have c_S5_0 := blk_cell S5.out 0 _ rfl
  have f_S5_0 := blk_frozen S5.out 0
  have c_S5_1 := blk_cell S5.out 1 _ rfl
  have f_S5_1 := blk_frozen S5.out 1
  have c_S5_2 := blk_cell S5.out 2 _ rfl
  have f_S5_2 := blk_frozen S5.out 2
  have c_S5_3 := blk_cell S5.out 3 _ rfl
  have f_S5_3 := blk_frozen S5.out 3
  have c_S5_4 := blk_cell S5.out 4 _ rfl
  have f_S5_4 := blk_frozen S5.out 4
  have l_S5 := blk_lt S5.out
  go_wp2_with fail
  clear c_S5_0 f_S5_0 c_S5_1 f_S5_1 c_S5_2 f_S5_2 c_S5_3 f_S5_3 c_S5_4 f_S5_4 l_S5
  generalize (w11.alloc (.cells #[.int .i64 0, .int .i64 0] 36)) = W12 at *
  generalize w11.heap.size = gY at *
  have e0 := blk_cell (blk_set (blk_set (blk_set (blk_set (blk_set (S5.out) 0 (.string ⟨#[]⟩)) 1 (.int .i64 0)) 2 (.int .i64 0)) 3 (.int .i64 0)) 4 (.int .i64 0)) 0 _ rfl
  have e1 := blk_cell (blk_set (blk_set (blk_set (blk_set (blk_set (S5.out) 0 (.string ⟨#[]⟩)) 1 (.int .i64 0)) 2 (.int .i64 0)) 3 (.int .i64 0)) 4 (.int .i64 0)) 1 _ rfl
  have e2 := blk_cell (blk_set (blk_set (blk_set (blk_set (blk_set (S5.out) 0 (.string ⟨#[]⟩)) 1 (.int .i64 0)) 2 (.int .i64 0)) 3 (.int .i64 0)) 4 (.int .i64 0)) 2 _ rfl
  have e3 := blk_cell (blk_set (blk_set (blk_set (blk_set (blk_set (S5.out) 0 (.string ⟨#[]⟩)) 1 (.int .i64 0)) 2 (.int .i64 0)) 3 (.int .i64 0)) 4 (.int .i64 0)) 3 _ rfl
  have e4 := blk_cell (blk_set (blk_set (blk_set (blk_set (blk_set (S5.out) 0 (.string ⟨#[]⟩)) 1 (.int .i64 0)) 2 (.int .i64 0)) 3 (.int .i64 0)) 4 (.int .i64 0)) 4 _ rfl
  exact bodyPost_ret (v := (.tuple #[Sv ⟨⟨#[]⟩, 0, 0, 0, 0⟩, .bool false])) (by simp [results, Tryz.results57, go_sem, e0, e1, e2, e3, e4]) rfl ⟨⟨⟨#[]⟩, 0, 0, 0, 0⟩, ret_site (by rw [LS.out]; rfl), fun s h => (by rw [LS.out] at h; cases h), Bset1 (Bset1 (Bset1 (Bset1 (Bset1 (NN.out) (by omega) _ _) (by omega) _ _) (by omega) _ _) (by omega) _ _) (by omega) _ _⟩
 subst e4
 replace LS := Lib.hid (LS.out.trans (if_pos ⟨rfl, rfl⟩))
 obtain ⟨st, hst⟩ : ∃ st : St, st = ⟨⟨nm.toArray⟩, x1, x2, y1, y2⟩ := ⟨_, rfl⟩
 have VC := Lib.hid (fun W => valid_calls ⟨⟨nm.toArray⟩, x1, x2, y1, y2⟩ W (by have := NS.out; show (⟨nm.toArray⟩ : ByteArray).size ≤ _; omega))
 go_enter Tryz.func57, Tryz.ntmps57
 go_wp2_with fail
 have S5 : Hid ((w.alloc (.cells #[.string ⟨#[]⟩, .int .i64 0, .int .i64 0, .int .i64 0, .int .i64 0] 69)).heap[w.heap.size]? = some (.cells #[.string ⟨#[]⟩, .int .i64 0, .int .i64 0, .int .i64 0, .int .i64 0] 69)) := Lib.hid (blk_new w _)
 replace NN : Hid (Below w.heap.size w (w.alloc (.cells #[.string ⟨#[]⟩, .int .i64 0, .int .i64 0, .int .i64 0, .int .i64 0] 69))) := Lib.hid (Bal NN.out _)
 generalize (w.alloc (.cells #[.string ⟨#[]⟩, .int .i64 0, .int .i64 0, .int .i64 0, .int .i64 0] 69)) = W13 at *
 refine (C1.out _ (GG.out.next NN.out)).mono ?_
 rintro e w14 ⟨rfl, hb⟩
 replace NN := Lib.hid (Bgo NN.out hb)
 replace S5 := Lib.hid (blk_next hb S5.out)
 clear hb
 go_wp2_with fail
 refine (C2.out _ (GG.out.next NN.out)).mono ?_
 rintro e w15 ⟨rfl, hb⟩
 replace NN := Lib.hid (Bgo NN.out hb)
 replace S5 := Lib.hid (blk_next hb S5.out)
 clear hb
 go_wp2_with fail
 refine (P1.out _ (GG.out.next NN.out)).mono ?_
 rintro e w16 ⟨rfl, hb⟩
 replace NN := Lib.hid (Bgo NN.out hb)
 replace S5 := Lib.hid (blk_next hb S5.out)
 clear hb
 have HB := Lib.hid (show Below w16.heap.size w16 (w16.alloc (.cells #[.int .i64 x1, .int .i64 x2] 36)) from (Bal (Below.refl _ _) _))
 have X2 : Hid ((w16.alloc (.cells #[.int .i64 x1, .int .i64 x2] 36)).heap[w16.heap.size]? = some (.cells #[.int .i64 x1, .int .i64 x2] 36)) := Lib.hid (blk_new w16 _)
 have LT_X2 : Hid (w.heap.size < w16.heap.size ∧ w.heap.size ≤ w16.heap.size) := Lib.hid ⟨blk_lt S5.out, NN.out.size⟩
 replace NN := Lib.hid (Bgo NN.out HB.out)
 replace S5 := Lib.hid (blk_next HB.out S5.out)
 clear HB
 go_wp2_with fail
 generalize (w16.alloc (.cells #[.int .i64 x1, .int .i64 x2] 36)) = W17 at *
 generalize w16.heap.size = gX at *
 refine (P2.out _ (GG.out.next NN.out)).mono ?_
 rintro e w18 ⟨rfl, hb⟩
 replace NN := Lib.hid (Bgo NN.out hb)
 replace S5 := Lib.hid (blk_next hb S5.out)
 replace X2 := Lib.hid (blk_next hb X2.out)
 clear hb
 have HB := Lib.hid (show Below w18.heap.size w18 (w18.alloc (.cells #[.int .i64 y1, .int .i64 y2] 36)) from (Bal (Below.refl _ _) _))
 have Y2 : Hid ((w18.alloc (.cells #[.int .i64 y1, .int .i64 y2] 36)).heap[w18.heap.size]? = some (.cells #[.int .i64 y1, .int .i64 y2] 36)) := Lib.hid (blk_new w18 _)
 have LT_Y2 : Hid (w.heap.size < w18.heap.size ∧ gX < w18.heap.size ∧ w.heap.size ≤ w18.heap.size) := Lib.hid ⟨blk_lt S5.out, blk_lt X2.out, NN.out.size⟩
 replace NN := Lib.hid (Bgo NN.out HB.out)
 replace S5 := Lib.hid (blk_next HB.out S5.out)
 replace X2 := Lib.hid (blk_next HB.out X2.out)
 clear HB
 go_upto_region 9 with fail
 generalize (w18.alloc (.cells #[.int .i64 y1, .int .i64 y2] 36)) = W19 at *
 generalize w18.heap.size = gY at *
 have HDRW := Lib.hid (Below.drew (Below.refl W19.heap.size W19))
 replace NN := Lib.hid (Bgo NN.out HDRW.out)
 replace S5 := Lib.hid (blk_next HDRW.out S5.out)
 replace X2 := Lib.hid (blk_next HDRW.out X2.out)
 replace Y2 := Lib.hid (blk_next HDRW.out Y2.out)
 clear HDRW
 have HAL : Hid (∀ kx9 : Nat, GK [(2, gX, .cells #[.int .i64 x1, .int .i64 x2] 36), (3, gY, .cells #[.int .i64 y1, .int .i64 y2] 36)] kx9 W19.drew) := Lib.hid (fun kx9 => fun px9 hp e => by
  simp only [List.mem_cons, List.not_mem_nil, or_false] at hp
  rcases hp with rfl | rfl
  ·exact X2.out
  ·exact Y2.out
 )
 refine region_G (S := GK [(2, gX, .cells #[.int .i64 x1, .int .i64 x2] 36), (3, gY, .cells #[.int .i64 y1, .int .i64 y2] 36)]) (by kernel_rfl) ?_
 refine tG 0 (.string ⟨nm.toArray⟩) (some 42) (GK.grow _) rfl (YieldsIf.toG (Or.inl ⟨by rfl, ?_⟩)) (GK.drop (by simp)) ?_
 ·intro X hX
  clear hX
  go_simp
 try simp only [Act.put, zA, zB, zC]
 have CFn : ∀ (args : Array Value) (W : World), Sem.run Tryz.prog (callFunc 84 args) W = .ok (.enter 84 args) W := fun _ _ => by kernel_rfl
 refine tG 1 (.string ⟨nm.toArray⟩) (some 43) (GK.grow _) rfl (yieldsG_call 84 #[.string ⟨nm.toArray⟩] (by rfl) ?_ (fun X hS => SC.out X)) (GK.drop (by simp)) ?_
 ·intro X hX
  clear hX
  go_simp
 clear CFn
 try simp only [Act.put, zA, zB, zC]
 refine tG 2 (.agg #[.int .i64 x1, .int .i64 x2]) (some 44) (GK.grow _) rfl (YieldsIf.toG (Or.inl ⟨by rfl, ?_⟩)) (HAL.out 2) ?_
 ·intro X hX
  have hh := hX (2, gX, .cells #[.int .i64 x1, .int .i64 x2] 36) (List.Mem.head _) rfl
  have hh0 := blk_cell hh 0 _ rfl
  have hh1 := blk_cell hh 1 _ rfl
  have hhl := blk_lt hh
  clear hh
  clear hX
  go_simp
 try simp only [Act.put, zA, zB, zC]
 refine tG 3 (.agg #[.int .i64 y1, .int .i64 y2]) (some 45) (GK.grow _) rfl (YieldsIf.toG (Or.inl ⟨by rfl, ?_⟩)) (HAL.out 3) ?_
 ·intro X hX
  have hh := hX (3, gY, .cells #[.int .i64 y1, .int .i64 y2] 36) (List.Mem.tail _ (List.Mem.head _)) rfl
  have hh0 := blk_cell hh 0 _ rfl
  have hh1 := blk_cell hh 1 _ rfl
  have hhl := blk_lt hh
  clear hh
  clear hX
  go_simp
 try simp only [Act.put, zA, zB, zC]
 refine tG 4 (.agg #[.string ⟨nm.toArray⟩, .int .i64 x1, .int .i64 x2, .int .i64 y1, .int .i64 y2]) (some 46) (GK.grow _) rfl (YieldsIf.toG (Or.inl ⟨by rfl, ?_⟩)) (GK.drop (by simp)) ?_
 ·intro X hX
  clear hX
  go_simp
 try simp only [Act.put, zA, zB, zC]
 refine only_G 5 (by kernel_rfl) rfl (fun X20 hX K' hK' => ?_)
 replace NN := Lib.hid (Bgo NN.out hX)
 replace S5 := Lib.hid (blk_next hX S5.out)
 replace X2 := Lib.hid (blk_next hX X2.out)
 replace Y2 := Lib.hid (blk_next hX Y2.out)
 replace HAL := Lib.hid (fun kx9 => GK.grow _ _ _ _ (HAL.out kx9) hX)
 clear hX
 go_simp
 refine hK'.out _ _ (fun _ _ h => h.alloc _) ?_
 clear hK' K'
 try simp only [Act.put, zA, zB, zC]
 have HB := Lib.hid (Bal (Below.refl X20.heap.size X20) (.cells #[.string ⟨#[]⟩, .int .i64 0, .int .i64 0, .int .i64 0, .int .i64 0] 69))
 have T5 : Hid ((X20.alloc (.cells #[.string ⟨#[]⟩, .int .i64 0, .int .i64 0, .int .i64 0, .int .i64 0] 69)).heap[X20.heap.size]? = some (.cells #[.string ⟨#[]⟩, .int .i64 0, .int .i64 0, .int .i64 0, .int .i64 0] 69)) := Lib.hid (blk_new X20 (.cells #[.string ⟨#[]⟩, .int .i64 0, .int .i64 0, .int .i64 0, .int .i64 0] 69))
 have LT_T5 : Hid (w.heap.size < X20.heap.size ∧ gX < X20.heap.size ∧ gY < X20.heap.size ∧ w.heap.size ≤ X20.heap.size) := Lib.hid ⟨blk_lt S5.out, blk_lt X2.out, blk_lt Y2.out, NN.out.size⟩
 replace NN := Lib.hid (Bgo NN.out HB.out)
 replace S5 := Lib.hid (blk_next HB.out S5.out)
 replace X2 := Lib.hid (blk_next HB.out X2.out)
 replace Y2 := Lib.hid (blk_next HB.out Y2.out)
 replace HAL := Lib.hid (fun kx9 => GK.grow _ _ _ _ (HAL.out kx9) HB.out)
 clear HB
 generalize X20.alloc (.cells #[.string ⟨#[]⟩, .int .i64 0, .int .i64 0, .int .i64 0, .int .i64 0] 69) = W21 at *
 generalize X20.heap.size = gT5 at *
 refine only_G 6 (by kernel_rfl) rfl (fun X22 hX K' hK' => ?_)
 replace NN := Lib.hid (Bgo NN.out hX)
 replace S5 := Lib.hid (blk_next hX S5.out)
 replace X2 := Lib.hid (blk_next hX X2.out)
 replace Y2 := Lib.hid (blk_next hX Y2.out)
 replace T5 := Lib.hid (blk_next hX T5.out)
 replace HAL := Lib.hid (fun kx9 => GK.grow _ _ _ _ (HAL.out kx9) hX)
 clear hX
 have c_T5_0 := blk_cell T5.out 0 _ rfl
 have f_T5_0 := blk_frozen T5.out 0
 have c_T5_1 := blk_cell T5.out 1 _ rfl
 have f_T5_1 := blk_frozen T5.out 1
 have c_T5_2 := blk_cell T5.out 2 _ rfl
 have f_T5_2 := blk_frozen T5.out 2
 have c_T5_3 := blk_cell T5.out 3 _ rfl
 have f_T5_3 := blk_frozen T5.out 3
 have c_T5_4 := blk_cell T5.out 4 _ rfl
 have f_T5_4 := blk_frozen T5.out 4
 have l_T5 := blk_lt T5.out
 go_simp
 clear c_T5_0 f_T5_0 c_T5_1 f_T5_1 c_T5_2 f_T5_2 c_T5_3 f_T5_3 c_T5_4 f_T5_4 l_T5
 refine hK'.out _ _ (fun kk hk hS => ?_) ?_
 ·have HN : ∀ px9 ∈ ([(2, gX, .cells #[.int .i64 x1, .int .i64 x2] 36), (3, gY, .cells #[.int .i64 y1, .int .i64 y2] 36)] : List (Nat × Nat × Obj)), px9.1 = kk → px9.2.1 ≠ gT5 := fun px9 hp e => by
   simp only [List.mem_cons, List.not_mem_nil, or_false] at hp
   rcases hp with rfl | rfl
   ·subst e
    exact bfl (by kernel_rfl) hk
   ·subst e
    exact bfl (by kernel_rfl) hk
  exact GK.set (GK.set (GK.set (GK.set (GK.set hS HN) HN) HN) HN) HN
 clear hK' K'
 try simp only [Act.put, zA, zB, zC]
 clear HAL
 replace S5 : Hid ((((((X22.setCell ⟨gT5, 0, none⟩ (.string ⟨nm.toArray⟩)).setCell ⟨gT5, 1, none⟩ (.int .i64 x1)).setCell ⟨gT5, 2, none⟩ (.int .i64 x2)).setCell ⟨gT5, 3, none⟩ (.int .i64 y1)).setCell ⟨gT5, 4, none⟩ (.int .i64 y2)).heap[w.heap.size]? = some (.cells #[.string ⟨#[]⟩, .int .i64 0, .int .i64 0, .int .i64 0, .int .i64 0] 69)) := Lib.hid (blk_set_other (b' := gT5) (blk_set_other (b' := gT5) (blk_set_other (b' := gT5) (blk_set_other (b' := gT5) (blk_set_other (b' := gT5) (S5.out) (by have := LT_T5.out; omega) 0 (.string ⟨nm.toArray⟩)) (by have := LT_T5.out; omega) 1 (.int .i64 x1)) (by have := LT_T5.out; omega) 2 (.int .i64 x2)) (by have := LT_T5.out; omega) 3 (.int .i64 y1)) (by have := LT_T5.out; omega) 4 (.int .i64 y2))
 replace X2 : Hid ((((((X22.setCell ⟨gT5, 0, none⟩ (.string ⟨nm.toArray⟩)).setCell ⟨gT5, 1, none⟩ (.int .i64 x1)).setCell ⟨gT5, 2, none⟩ (.int .i64 x2)).setCell ⟨gT5, 3, none⟩ (.int .i64 y1)).setCell ⟨gT5, 4, none⟩ (.int .i64 y2)).heap[gX]? = some (.cells #[.int .i64 x1, .int .i64 x2] 36)) := Lib.hid (blk_set_other (b' := gT5) (blk_set_other (b' := gT5) (blk_set_other (b' := gT5) (blk_set_other (b' := gT5) (blk_set_other (b' := gT5) (X2.out) (by have := LT_T5.out; omega) 0 (.string ⟨nm.toArray⟩)) (by have := LT_T5.out; omega) 1 (.int .i64 x1)) (by have := LT_T5.out; omega) 2 (.int .i64 x2)) (by have := LT_T5.out; omega) 3 (.int .i64 y1)) (by have := LT_T5.out; omega) 4 (.int .i64 y2))
 replace Y2 : Hid ((((((X22.setCell ⟨gT5, 0, none⟩ (.string ⟨nm.toArray⟩)).setCell ⟨gT5, 1, none⟩ (.int .i64 x1)).setCell ⟨gT5, 2, none⟩ (.int .i64 x2)).setCell ⟨gT5, 3, none⟩ (.int .i64 y1)).setCell ⟨gT5, 4, none⟩ (.int .i64 y2)).heap[gY]? = some (.cells #[.int .i64 y1, .int .i64 y2] 36)) := Lib.hid (blk_set_other (b' := gT5) (blk_set_other (b' := gT5) (blk_set_other (b' := gT5) (blk_set_other (b' := gT5) (blk_set_other (b' := gT5) (Y2.out) (by have := LT_T5.out; omega) 0 (.string ⟨nm.toArray⟩)) (by have := LT_T5.out; omega) 1 (.int .i64 x1)) (by have := LT_T5.out; omega) 2 (.int .i64 x2)) (by have := LT_T5.out; omega) 3 (.int .i64 y1)) (by have := LT_T5.out; omega) 4 (.int .i64 y2))
 replace T5 : Hid ((((((X22.setCell ⟨gT5, 0, none⟩ (.string ⟨nm.toArray⟩)).setCell ⟨gT5, 1, none⟩ (.int .i64 x1)).setCell ⟨gT5, 2, none⟩ (.int .i64 x2)).setCell ⟨gT5, 3, none⟩ (.int .i64 y1)).setCell ⟨gT5, 4, none⟩ (.int .i64 y2)).heap[gT5]? = some (.cells #[.string ⟨nm.toArray⟩, .int .i64 x1, .int .i64 x2, .int .i64 y1, .int .i64 y2] 69)) := Lib.hid (blk_set (blk_set (blk_set (blk_set (blk_set (T5.out) 0 (.string ⟨nm.toArray⟩)) 1 (.int .i64 x1)) 2 (.int .i64 x2)) 3 (.int .i64 y1)) 4 (.int .i64 y2))
 replace NN := Lib.hid (Bset1 (Bset1 (Bset1 (Bset1 (Bset1 (NN.out) (show w.heap.size ≤ gT5 by have := LT_T5.out; omega) 0 (.string ⟨nm.toArray⟩)) (show w.heap.size ≤ gT5 by have := LT_T5.out; omega) 1 (.int .i64 x1)) (show w.heap.size ≤ gT5 by have := LT_T5.out; omega) 2 (.int .i64 x2)) (show w.heap.size ≤ gT5 by have := LT_T5.out; omega) 3 (.int .i64 y1)) (show w.heap.size ≤ gT5 by have := LT_T5.out; omega) 4 (.int .i64 y2))
 generalize (((((X22.setCell ⟨gT5, 0, none⟩ (.string ⟨nm.toArray⟩)).setCell ⟨gT5, 1, none⟩ (.int .i64 x1)).setCell ⟨gT5, 2, none⟩ (.int .i64 x2)).setCell ⟨gT5, 3, none⟩ (.int .i64 y1)).setCell ⟨gT5, 4, none⟩ (.int .i64 y2)) = W23 at *
 refine done_G (by kernel_rfl) (fun X24 hX => ?_) _
 replace NN := Lib.hid (Bgo NN.out hX)
 replace S5 := Lib.hid (blk_next hX S5.out)
 replace X2 := Lib.hid (blk_next hX X2.out)
 replace Y2 := Lib.hid (blk_next hX Y2.out)
 replace T5 := Lib.hid (blk_next hX T5.out)
 clear hX
 go_upto_region 10 with fail
 clear X2 Y2
 have HDRW := Lib.hid (Below.drew (Below.refl X24.heap.size X24))
 replace NN := Lib.hid (Bgo NN.out HDRW.out)
 replace S5 := Lib.hid (blk_next HDRW.out S5.out)
 replace T5 := Lib.hid (blk_next HDRW.out T5.out)
 clear HDRW
 have HAL : Hid (∀ kx9 : Nat, GK [(0, gT5, .cells #[.string ⟨nm.toArray⟩, .int .i64 x1, .int .i64 x2, .int .i64 y1, .int .i64 y2] 69), (1, gT5, .cells #[.string ⟨nm.toArray⟩, .int .i64 x1, .int .i64 x2, .int .i64 y1, .int .i64 y2] 69)] kx9 X24.drew) := Lib.hid (fun kx9 => fun px9 hp e => by
  simp only [List.mem_cons, List.not_mem_nil, or_false] at hp
  rcases hp with rfl | rfl
  ·exact T5.out
  ·exact T5.out
 )
 refine region_G (S := GK [(0, gT5, .cells #[.string ⟨nm.toArray⟩, .int .i64 x1, .int .i64 x2, .int .i64 y1, .int .i64 y2] 69), (1, gT5, .cells #[.string ⟨nm.toArray⟩, .int .i64 x1, .int .i64 x2, .int .i64 y1, .int .i64 y2] 69)]) (by kernel_rfl) ?_
 refine tG 0 (.agg #[.string ⟨nm.toArray⟩, .int .i64 x1, .int .i64 x2, .int .i64 y1, .int .i64 y2]) (some 47) (GK.grow _) rfl (YieldsIf.toG (Or.inl ⟨by rfl, ?_⟩)) (HAL.out 0) ?_
 ·intro X hX
  have hh := hX (0, gT5, .cells #[.string ⟨nm.toArray⟩, .int .i64 x1, .int .i64 x2, .int .i64 y1, .int .i64 y2] 69) (List.Mem.head _) rfl
  have hh0 := blk_cell hh 0 _ rfl
  have hh1 := blk_cell hh 1 _ rfl
  have hh2 := blk_cell hh 2 _ rfl
  have hh3 := blk_cell hh 3 _ rfl
  have hh4 := blk_cell hh 4 _ rfl
  have hhl := blk_lt hh
  clear hh
  clear hX
  go_simp
 try simp only [Act.put, zA, zB, zC]
 refine tG 1 (.agg #[.string ⟨nm.toArray⟩, .int .i64 x1, .int .i64 x2, .int .i64 y1, .int .i64 y2]) (some 48) (GK.grow _) rfl (YieldsIf.toG (Or.inl ⟨by rfl, ?_⟩)) (HAL.out 1) ?_
 ·intro X hX
  have hh := hX (1, gT5, .cells #[.string ⟨nm.toArray⟩, .int .i64 x1, .int .i64 x2, .int .i64 y1, .int .i64 y2] 69) (List.Mem.tail _ (List.Mem.head _)) rfl
  have hh0 := blk_cell hh 0 _ rfl
  have hh1 := blk_cell hh 1 _ rfl
  have hh2 := blk_cell hh 2 _ rfl
  have hh3 := blk_cell hh 3 _ rfl
  have hh4 := blk_cell hh 4 _ rfl
  have hhl := blk_lt hh
  clear hh
  clear hX
  go_simp
 try simp only [Act.put, zA, zB, zC]
 have CFn : ∀ (args : Array Value) (W : World), Sem.run Tryz.prog (callFunc 74 args) W = .ok (.enter 74 args) W := fun _ _ => by kernel_rfl
 refine tG 2 (.bool (valS ⟨⟨nm.toArray⟩, x1, x2, y1, y2⟩)) (some 49) (GK.grow _) rfl (yieldsG_call 74 #[.agg #[.string ⟨nm.toArray⟩, .int .i64 x1, .int .i64 x2, .int .i64 y1, .int .i64 y2]] (by rfl) ?_ (fun X hS => VC.out X)) (GK.drop (by simp)) ?_
 ·intro X hX
  clear hX
  go_simp
 clear CFn
 try simp only [Act.put, zA, zB, zC]
 refine only_G 3 (by kernel_rfl) rfl (fun X25 hX K' hK' => ?_)
 replace NN := Lib.hid (Bgo NN.out hX)
 replace S5 := Lib.hid (blk_next hX S5.out)
 replace T5 := Lib.hid (blk_next hX T5.out)
 replace HAL := Lib.hid (fun kx9 => GK.grow _ _ _ _ (HAL.out kx9) hX)
 clear hX
 have c_S5_0 := blk_cell S5.out 0 _ rfl
 have f_S5_0 := blk_frozen S5.out 0
 have c_S5_1 := blk_cell S5.out 1 _ rfl
 have f_S5_1 := blk_frozen S5.out 1
 have c_S5_2 := blk_cell S5.out 2 _ rfl
 have f_S5_2 := blk_frozen S5.out 2
 have c_S5_3 := blk_cell S5.out 3 _ rfl
 have f_S5_3 := blk_frozen S5.out 3
 have c_S5_4 := blk_cell S5.out 4 _ rfl
 have f_S5_4 := blk_frozen S5.out 4
 have l_S5 := blk_lt S5.out
 go_simp
 clear c_S5_0 f_S5_0 c_S5_1 f_S5_1 c_S5_2 f_S5_2 c_S5_3 f_S5_3 c_S5_4 f_S5_4 l_S5
 refine hK'.out _ _ (fun kk hk hS => ?_) ?_
 ·have HN : ∀ px9 ∈ ([(0, gT5, .cells #[.string ⟨nm.toArray⟩, .int .i64 x1, .int .i64 x2, .int .i64 y1, .int .i64 y2] 69), (1, gT5, .cells #[.string ⟨nm.toArray⟩, .int .i64 x1, .int .i64 x2, .int .i64 y1, .int .i64 y2] 69)] : List (Nat × Nat × Obj)), px9.1 = kk → px9.2.1 ≠ w.heap.size := fun px9 hp e => by
   simp only [List.mem_cons, List.not_mem_nil, or_false] at hp
   rcases hp with rfl | rfl
   ·subst e
    exact bfl (by kernel_rfl) hk
   ·subst e
    exact bfl (by kernel_rfl) hk
  exact GK.set (GK.set (GK.set (GK.set (GK.set hS HN) HN) HN) HN) HN
 clear hK' K'
 try simp only [Act.put, zA, zB, zC]
 clear HAL
 replace S5 : Hid ((((((X25.setCell ⟨w.heap.size, 0, none⟩ (.string ⟨nm.toArray⟩)).setCell ⟨w.heap.size, 1, none⟩ (.int .i64 x1)).setCell ⟨w.heap.size, 2, none⟩ (.int .i64 x2)).setCell ⟨w.heap.size, 3, none⟩ (.int .i64 y1)).setCell ⟨w.heap.size, 4, none⟩ (.int .i64 y2)).heap[w.heap.size]? = some (.cells #[.string ⟨nm.toArray⟩, .int .i64 x1, .int .i64 x2, .int .i64 y1, .int .i64 y2] 69)) := Lib.hid (blk_set (blk_set (blk_set (blk_set (blk_set (S5.out) 0 (.string ⟨nm.toArray⟩)) 1 (.int .i64 x1)) 2 (.int .i64 x2)) 3 (.int .i64 y1)) 4 (.int .i64 y2))
 replace T5 : Hid ((((((X25.setCell ⟨w.heap.size, 0, none⟩ (.string ⟨nm.toArray⟩)).setCell ⟨w.heap.size, 1, none⟩ (.int .i64 x1)).setCell ⟨w.heap.size, 2, none⟩ (.int .i64 x2)).setCell ⟨w.heap.size, 3, none⟩ (.int .i64 y1)).setCell ⟨w.heap.size, 4, none⟩ (.int .i64 y2)).heap[gT5]? = some (.cells #[.string ⟨nm.toArray⟩, .int .i64 x1, .int .i64 x2, .int .i64 y1, .int .i64 y2] 69)) := Lib.hid (blk_set_other (b' := w.heap.size) (blk_set_other (b' := w.heap.size) (blk_set_other (b' := w.heap.size) (blk_set_other (b' := w.heap.size) (blk_set_other (b' := w.heap.size) (T5.out) (by have := LT_T5.out; omega) 0 (.string ⟨nm.toArray⟩)) (by have := LT_T5.out; omega) 1 (.int .i64 x1)) (by have := LT_T5.out; omega) 2 (.int .i64 x2)) (by have := LT_T5.out; omega) 3 (.int .i64 y1)) (by have := LT_T5.out; omega) 4 (.int .i64 y2))
 replace NN := Lib.hid (Bset1 (Bset1 (Bset1 (Bset1 (Bset1 (NN.out) (show w.heap.size ≤ w.heap.size by omega) 0 (.string ⟨nm.toArray⟩)) (show w.heap.size ≤ w.heap.size by omega) 1 (.int .i64 x1)) (show w.heap.size ≤ w.heap.size by omega) 2 (.int .i64 x2)) (show w.heap.size ≤ w.heap.size by omega) 3 (.int .i64 y1)) (show w.heap.size ≤ w.heap.size by omega) 4 (.int .i64 y2))
 generalize (((((X25.setCell ⟨w.heap.size, 0, none⟩ (.string ⟨nm.toArray⟩)).setCell ⟨w.heap.size, 1, none⟩ (.int .i64 x1)).setCell ⟨w.heap.size, 2, none⟩ (.int .i64 x2)).setCell ⟨w.heap.size, 3, none⟩ (.int .i64 y1)).setCell ⟨w.heap.size, 4, none⟩ (.int .i64 y2)) = W26 at *
 refine tG 4 (.bool (valS ⟨⟨nm.toArray⟩, x1, x2, y1, y2⟩)) (some 3) (GK.grow _) rfl (YieldsIf.toG (Or.inl ⟨by rfl, ?_⟩)) (GK.drop (by simp)) ?_
 ·intro X hX
  clear hX
  go_simp
 try simp only [Act.put, zA, zB, zC]
 refine done_G (by kernel_rfl) (fun X27 hX => ?_) _
 replace NN := Lib.hid (Bgo NN.out hX)
 replace S5 := Lib.hid (blk_next hX S5.out)
 replace T5 := Lib.hid (blk_next hX T5.out)
 clear hX
 have c_S5_0 := blk_cell S5.out 0 _ rfl
 have f_S5_0 := blk_frozen S5.out 0
 have c_S5_1 := blk_cell S5.out 1 _ rfl
 have f_S5_1 := blk_frozen S5.out 1
 have c_S5_2 := blk_cell S5.out 2 _ rfl
 have f_S5_2 := blk_frozen S5.out 2
 have c_S5_3 := blk_cell S5.out 3 _ rfl
 have f_S5_3 := blk_frozen S5.out 3
 have c_S5_4 := blk_cell S5.out 4 _ rfl
 have f_S5_4 := blk_frozen S5.out 4
 have l_S5 := blk_lt S5.out
 go_wp2_with fail
 refine bodyPost_ret (v := .tuple #[Sv ⟨⟨nm.toArray⟩, x1, x2, y1, y2⟩, .bool (valS ⟨⟨nm.toArray⟩, x1, x2, y1, y2⟩)]) (by simp [results, Tryz.results57, go_sem, c_S5_0, c_S5_1, c_S5_2, c_S5_3, c_S5_4]) rfl ⟨⟨⟨nm.toArray⟩, x1, x2, y1, y2⟩, ret_site (by rw [LS.out]; split <;> simp [*]), fun s h => (by
  rw [LS.out] at h
  split at h
  ·injection h
  ·cases h), NN.out⟩
end Go.Proofs.YtfangplfbbgphaaGreatDoor
namespace Go.Proofs.YtfangplfbbgphaaGreatDoor
open Go.ChangeShapes Go.WideShapes Go.ChangeAt Go.RowKit
set_option linter.unusedVariables false
set_option linter.unusedSimpArgs false
attribute [local go_sem ↓] Go.wp_at_zero Go.wp_at_succ
def strOf : Value → Nat
 | .string b => b.size
 | _ => 0
theorem str_ne {c : UInt8} {l : List UInt8} : (c :: l).isEmpty = false := rfl
theorem parT_nil {f : Nat} {acc : List St} : parT (f + 1) acc [] = some acc := by simp [parT]
theorem parT_succ (f : Nat) (acc : List St) (l : List UInt8) : parT (f + 1) acc l = if l.length = 0 then some acc else if (Lib.cut l [10]).2.2 then (if acc.length = 8 then none else match lineS (Lib.cut l [10]).1 with
   | some s => parT f (acc ++ [s]) (Lib.cut l [10]).2.1
   | none => none)
  else none := rfl
theorem parT_go {f : Nat} {acc : List St} {l a r : List UInt8} {e : Bool} (hl : l ≠ []) (hc : Lib.cut l [10] = (a, r, e)) : parT (f + 1) acc l = if e then (if acc.length = 8 then none else match lineS a with
   | some s => parT f (acc ++ [s]) r
   | none => none)
  else none := by
 rw [parT_succ, if_neg (by cases l <;> simp at *), hc]
theorem parE_some {l : List UInt8} {r : List St} (h : parA l = some r) : parE l = 0 ∧ parL l = r := by unfold parE parL; rw [h]; exact ⟨rfl, rfl⟩
theorem parE_none {l : List UInt8} (h : parA l = none) : parE l = 12 := by unfold parE; rw [h]; rfl
set_option maxRecDepth 100000 in
set_option maxHeartbeats 8000000 in
theorem aparseA_calls (l : List UInt8) (w : World) (g : GL w) (hs : l.length ≤ 100000) : Calls Tryz.prog 20 #[Str l] w fun e w' =>
  ∃ v, e = .returned (.tuple #[v, .int .i64 (parE l)]) ∧ Below w.heap.size w w' ∧ (parE l ≠ 0 → v = .slice none 0 0) ∧ (parE l = 0 → OSt w.heap.size w' v (parL l)) := by
 have NN := Lib.hid (Below.refl w.heap.size w)
 have GG := Lib.hid g
 have ES := Lib.hid (fun r (h : parA l = some r) => parE_some h)
 have EN := Lib.hid (fun (h : parA l = none) => parE_none h)
 have PA : Hid (parT (l.length + 1) [] l = parA l) := Lib.hid rfl
 obtain ⟨i0, hi, hz, hs0, hb0⟩ := info_parts infoS
 have HI := Lib.hid (And.intro hi (And.intro hz (And.intro hs0 hb0)))
 clear g hi hz hs0 hb0
 generalize parA l = R at *
 generalize parE l = pe at *
 generalize parL l = pl at *
 go_enter Tryz.func20, Tryz.ntmps20
 go_wp2_with fail
 have OV : Hid (OSt w.heap.size w (.slice none 0 0) []) := Lib.hid (ost_nil _ _)
 go_loopw [0, 4] (fun s v wr => ∃ (m : List UInt8) (acc : List St) (f : Nat), s = Str m ∧ Hid (parT f acc m = R) ∧ Hid (m.length < f) ∧ m.length ≤ 100000 ∧ acc.length ≤ 8 ∧ Hid (Below w.heap.size w wr) ∧ Hid (OSt w.heap.size wr v acc)) (fun s _ _ => strOf s)
 case atStart => exact ⟨l, [], l.length + 1, rfl, PA, Lib.hid (Nat.lt_succ_self _), hs, by decide, NN, OV⟩
 case round =>
  clear NN OV PA hs
  obtain ⟨m, acc, f, rfl, PT, HF, hm, h8, NN, OV⟩ := hrel
  obtain ⟨A0, c0, hv0, hn0, hc1, -⟩ := Rd.of_own OV.out
  subst hv0
  have KN := Lib.hid hn0
  have KC := Lib.hid hc1
  clear hn0 hc1
  obtain ⟨f, rfl⟩ : ∃ n, f = n + 1 := ⟨f - 1, by have := HF.out; omega⟩
  cases m with
  | nil =>
   have RE : Hid (R = some acc) := Lib.hid (by rw [← PT.out, parT_nil])
   clear PT
   obtain ⟨E1, E2⟩ := ES.out _ RE.out
   subst E2
   have HE := Lib.hid E1
   clear E1
   go_wp2_with fail
   refine bodyPost_ret (by simp [results, Tryz.results20, go_sem]; rfl) rfl ⟨_, by rw [HE.out], NN.out, fun h => absurd HE.out h, fun _ => OV.out⟩
  | cons x0 m0 =>
   have sne := str_ne (c := x0) (l := m0)
   have HM : Hid (x0 :: m0 ≠ []) := Lib.hid (by simp)
   generalize x0 :: m0 = m at *
   have CC := Lib.hid (fun W (h : GL W) => cutG_calls m 10 W hm h)
   have L1 := cut1_len m 10
   have PG := fun a r e hc => parT_go (f := f) (acc := acc) (a := a) (r := r) (e := e) HM.out hc
   obtain ⟨⟨la, lr, le⟩, hc⟩ : ∃ r, Lib.cut m [10] = r := ⟨_, rfl⟩
   have PG1 := PG _ _ _ hc
   rw [hc] at CC L1
   rw [PT.out] at PG1
   simp only at CC L1 PG1
   replace PT := Lib.hid PG1
   clear PG PG1 hc
   have LL := Lib.hid L1
   have PC := Lib.hid (fun W (h : GL W) => aparse_calls la W h (Nat.le_trans LL.out.1 hm))
   clear L1
   go_wp2_with fail
   refine (CC.out _ (GG.out.next NN.out)).mono ?_
   rintro e w1 ⟨rfl, hb⟩
   replace NN := Lib.hid (Bgo NN.out hb)
   replace OV := Lib.hid (own_next hb OV.out)
   clear hb
   go_wp2_with fail
   refine (PC.out _ (GG.out.next NN.out)).mono ?_
   rintro e w2 ⟨x, rfl, hx, hb⟩
   replace NN := Lib.hid (Bgo NN.out hb)
   replace OV := Lib.hid (own_next hb OV.out)
   clear hb
   have HX := Lib.hid hx
   clear hx
   generalize hls : lineS la = ls at *
   clear hls
   cases le
   ·have RE : Hid (R = none) := Lib.hid (by rw [PT.out]; rfl)
    clear PT HX ES
    skip
    have HE := Lib.hid (EN.out RE.out)
    go_wp2_with fail
    skip
    refine bodyPost_ret (v := .tuple #[.slice none 0 0, .int .i64 12]) (by simp [results, Tryz.results20, go_sem]) rfl ⟨_, by rw [HE.out], ?_, fun _ => rfl, fun h => absurd (HE.out.symm.trans h) (by decide)⟩
    exact Bal NN.out _
   cases ls with
   | none =>
    have RE : Hid (R = none) := Lib.hid (by rw [PT.out]; split <;> simp)
    clear PT HX ES
    skip
    have HE := Lib.hid (EN.out RE.out)
    go_wp2_with fail
    skip
    refine bodyPost_ret (v := .tuple #[.slice none 0 0, .int .i64 12]) (by simp [results, Tryz.results20, go_sem]) rfl ⟨_, by rw [HE.out], ?_, fun _ => rfl, fun h => absurd (HE.out.symm.trans h) (by decide)⟩
    exact Bal NN.out _
   | some st =>
    obtain rfl := HX.out _ rfl
    clear HX
    by_cases h9 : acc.length = 8
    ·have RE : Hid (R = none) := Lib.hid (by rw [PT.out, if_pos rfl, if_pos h9])
     clear PT ES
     have q8 : ((acc.length : Int) == 8) = true := by rw [beq_iff_eq]; omega
     skip
     have HE := Lib.hid (EN.out RE.out)
     go_wp2_with fail
     skip
     refine bodyPost_ret (v := .tuple #[.slice none 0 0, .int .i64 12]) (by simp [results, Tryz.results20, go_sem]) rfl ⟨_, by rw [HE.out], ?_, fun _ => rfl, fun h => absurd (HE.out.symm.trans h) (by decide)⟩
     exact Bal NN.out _
    have q8 : ((acc.length : Int) == 8) = false := by rw [beq_eq_false_iff_ne]; omega
    have PT2 : Hid (R = parT f (acc ++ [x]) lr) := Lib.hid (PT.out.trans ((if_pos rfl).trans (if_neg h9)))
    simp only [Option.isSome_some]
    clear PT
    have H63 : Hid (acc.length + 1 ≤ maxLen) := Lib.hid (by simp [maxLen]; omega)
    have H64 : Hid ((acc.length + 1) * 48 ≤ 140737488355328) := Lib.hid (by omega)
    skip
    have H5 : Hid (w.heap.size ≤ ((w2.alloc (.cells #[.string x.nm, .int .i64 x.sn, .int .i64 x.sd, .int .i64 x.tn, .int .i64 x.td] 69)).alloc (.cells #[.string x.nm, .int .i64 x.sn, .int .i64 x.sd, .int .i64 x.tn, .int .i64 x.td] 69)).heap.size) := Lib.hid (by rw [World.size_alloc, World.size_alloc]; have := NN.out.size; omega)
    go_wp2_with (at_builtin; refine wpList_append_rd _ rfl _ _ 24 rfl w.heap.size 69 i0 (.agg #[.string ⟨#[]⟩, .int .i64 0, .int .i64 0, .int .i64 0, .int .i64 0]) 5 48 und_sites HI.out.1 HI.out.2.1 HI.out.2.2.1 HI.out.2.2.2 rfl (by decide) (.slice A0 acc.length c0) _ _ rfl (World.ownsRow.alloc (World.ownsRow.alloc OV.out _) _) (some ⟨w2.heap.size + 1, 0, none⟩) 1 1 (st5 x) rfl (Rd.blk (T := 69) (blk_at _ (by simp)) rfl) (st5_one x) H63.out H64.out H5.out ?_; intro v9 w9 o9 g9 hat9)
    have BG := Lib.hid (own_grown (World.ownsRow.alloc (World.ownsRow.alloc OV.out _) _) g9 H5.out)
    have O9 : Hid (OSt w.heap.size w9 v9 (acc ++ [x])) := Lib.hid (by unfold OSt; rw [List.flatMap_append, List.length_append]; simpa using o9)
    have N9 := Lib.hid ((Bal (Bal NN.out _) _).trans BG.out)
    have LT := LL.out.2.2 rfl
    have HF2 : Hid (lr.length < f) := Lib.hid (by have := HF.out; omega)
    go_roundw
    case rel => exact ⟨lr, acc ++ [x], f, rfl, Lib.hid PT2.out.symm, HF2, by omega, by simp; omega, N9, O9⟩
    case measure => show (⟨lr.toArray⟩ : ByteArray).size < (⟨m.toArray⟩ : ByteArray).size; rw [← s_len, ← s_len]; simpa using LT
end Go.Proofs.YtfangplfbbgphaaGreatDoor
