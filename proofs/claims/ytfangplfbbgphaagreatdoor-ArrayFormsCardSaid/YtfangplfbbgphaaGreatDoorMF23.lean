/- Several texts in one. -/
import Derived.Deep.RegionLaw
import Derived.Laws.IdiomStrings
import Derived.Test.YtfangplfbbgphaaGreatDoorMF02
import Derived.Test.YtfangplfbbgphaaGreatDoorMF06
import Derived.Test.YtfangplfbbgphaaGreatDoorMF20
import Derived.Test.YtfangplfbbgphaaGreatDoorMF22
namespace Go.Proofs.YtfangplfbbgphaaGreatDoor
open Go.ChangeShapes Go.WideShapes Go.ChangeAt Go.RowKit
set_option linter.unusedVariables false
set_option linter.unusedSimpArgs false
attribute [local go_sem ↓] Go.wp_at_zero Go.wp_at_succ
def strOf : Value → Nat
 | .string b => b.size
 | _ => 0
theorem str_ne {c : UInt8} {l : List UInt8} : (c :: l).isEmpty = false := rfl
theorem parT_nil {f : Nat} {acc : List St} : parT (f + 1) acc [] = some acc := by simp [parT]
theorem parT_succ (f : Nat) (acc : List St) (l : List UInt8) : parT (f + 1) acc l = if l.length = 0 then some acc else if (Lib.cut l [10]).2.2 then (if acc.length = 8 then none else match lineS (Lib.cut l [10]).1 with
   | some s => parT f (acc ++ [s]) (Lib.cut l [10]).2.1
   | none => none)
  else none := rfl
theorem parT_go {f : Nat} {acc : List St} {l a r : List UInt8} {e : Bool} (hl : l ≠ []) (hc : Lib.cut l [10] = (a, r, e)) : parT (f + 1) acc l = if e then (if acc.length = 8 then none else match lineS a with
   | some s => parT f (acc ++ [s]) r
   | none => none)
  else none := by
 rw [parT_succ, if_neg (by cases l <;> simp at *), hc]
theorem parE_some {l : List UInt8} {r : List St} (h : parA l = some r) : parE l = 0 ∧ parL l = r := by unfold parE parL; rw [h]; exact ⟨rfl, rfl⟩
theorem parE_none {l : List UInt8} (h : parA l = none) : parE l = 12 := by unfold parE; rw [h]; rfl
set_option maxRecDepth 100000 in
set_option maxHeartbeats 8000000 in
theorem aparseA_calls (l : List UInt8) (w : World) (g : GL w) (hs : l.length ≤ 100000) : Calls Tryz.prog 20 #[Str l] w fun e w' =>
  ∃ v, e = .returned (.tuple #[v, .int .i64 (parE l)]) ∧ Below w.heap.size w w' ∧ (parE l ≠ 0 → v = .slice none 0 0) ∧ (parE l = 0 → OSt w.heap.size w' v (parL l)) := by
 have NN := Lib.hid (Below.refl w.heap.size w)
 have GG := Lib.hid g
 have ES := Lib.hid (fun r (h : parA l = some r) => parE_some h)
 have EN := Lib.hid (fun (h : parA l = none) => parE_none h)
 have PA : Hid (parT (l.length + 1) [] l = parA l) := Lib.hid rfl
 obtain ⟨i0, hi, hz, hs0, hb0⟩ := info_parts infoS
 have HI := Lib.hid (And.intro hi (And.intro hz (And.intro hs0 hb0)))
 clear g hi hz hs0 hb0
 generalize parA l = R at *
 generalize parE l = pe at *
 generalize parL l = pl at *
 go_enter Tryz.func20, Tryz.ntmps20
 go_wp2_with fail
 have OV : Hid (OSt w.heap.size w (.slice none 0 0) []) := Lib.hid (ost_nil _ _)
 go_loopw [0, 4] (fun s v wr => ∃ (m : List UInt8) (acc : List St) (f : Nat), s = Str m ∧ Hid (parT f acc m = R) ∧ Hid (m.length < f) ∧ m.length ≤ 100000 ∧ acc.length ≤ 8 ∧ Hid (Below w.heap.size w wr) ∧ Hid (OSt w.heap.size wr v acc)) (fun s _ _ => strOf s)
 case atStart => exact ⟨l, [], l.length + 1, rfl, PA, Lib.hid (Nat.lt_succ_self _), hs, by decide, NN, OV⟩
 case round =>
  clear NN OV PA hs
  obtain ⟨m, acc, f, rfl, PT, HF, hm, h8, NN, OV⟩ := hrel
  obtain ⟨A0, c0, hv0, hn0, hc1, -⟩ := Rd.of_own OV.out
  subst hv0
  have KN := Lib.hid hn0
  have KC := Lib.hid hc1
  clear hn0 hc1
  obtain ⟨f, rfl⟩ : ∃ n, f = n + 1 := ⟨f - 1, by have := HF.out; omega⟩
  cases m with
  | nil =>
   have RE : Hid (R = some acc) := Lib.hid (by rw [← PT.out, parT_nil])
   clear PT
   obtain ⟨E1, E2⟩ := ES.out _ RE.out
   subst E2
   have HE := Lib.hid E1
   clear E1
   go_wp2_with fail
   refine bodyPost_ret (by simp [results, Tryz.results20, go_sem]; rfl) rfl ⟨_, by rw [HE.out], NN.out, fun h => absurd HE.out h, fun _ => OV.out⟩
  | cons x0 m0 =>
   have sne := str_ne (c := x0) (l := m0)
   have HM : Hid (x0 :: m0 ≠ []) := Lib.hid (by simp)
   generalize x0 :: m0 = m at *
   have CC := Lib.hid (fun W (h : GL W) => cutG_calls m 10 W hm h)
   have L1 := cut1_len m 10
   have PG := fun a r e hc => parT_go (f := f) (acc := acc) (a := a) (r := r) (e := e) HM.out hc
   obtain ⟨⟨la, lr, le⟩, hc⟩ : ∃ r, Lib.cut m [10] = r := ⟨_, rfl⟩
   have PG1 := PG _ _ _ hc
   rw [hc] at CC L1
   rw [PT.out] at PG1
   simp only at CC L1 PG1
   replace PT := Lib.hid PG1
   clear PG PG1 hc
   have LL := Lib.hid L1
   have PC := Lib.hid (fun W (h : GL W) => aparse_calls la W h (Nat.le_trans LL.out.1 hm))
   clear L1
   go_wp2_with fail
   refine (CC.out _ (GG.out.next NN.out)).mono ?_
   rintro e w1 ⟨rfl, hb⟩
   replace NN := Lib.hid (Bgo NN.out hb)
   replace OV := Lib.hid (own_next hb OV.out)
   clear hb
   go_wp2_with fail
   refine (PC.out _ (GG.out.next NN.out)).mono ?_
   rintro e w2 ⟨x, rfl, hx, hb⟩
   replace NN := Lib.hid (Bgo NN.out hb)
   replace OV := Lib.hid (own_next hb OV.out)
   clear hb
   have HX := Lib.hid hx
   clear hx
   generalize hls : lineS la = ls at *
   clear hls
   cases le
   ·have RE : Hid (R = none) := Lib.hid (by rw [PT.out]; rfl)
    clear PT HX ES
    skip
    have HE := Lib.hid (EN.out RE.out)
    go_wp2_with fail
    skip
    refine bodyPost_ret (v := .tuple #[.slice none 0 0, .int .i64 12]) (by simp [results, Tryz.results20, go_sem]) rfl ⟨_, by rw [HE.out], ?_, fun _ => rfl, fun h => absurd (HE.out.symm.trans h) (by decide)⟩
    exact Bal NN.out _
   cases ls with
   | none =>
    have RE : Hid (R = none) := Lib.hid (by rw [PT.out]; split <;> simp)
    clear PT HX ES
    skip
    have HE := Lib.hid (EN.out RE.out)
    go_wp2_with fail
    skip
    refine bodyPost_ret (v := .tuple #[.slice none 0 0, .int .i64 12]) (by simp [results, Tryz.results20, go_sem]) rfl ⟨_, by rw [HE.out], ?_, fun _ => rfl, fun h => absurd (HE.out.symm.trans h) (by decide)⟩
    exact Bal NN.out _
   | some st =>
    obtain rfl := HX.out _ rfl
    clear HX
    by_cases h9 : acc.length = 8
    ·have RE : Hid (R = none) := Lib.hid (by rw [PT.out, if_pos rfl, if_pos h9])
     clear PT ES
     have q8 : ((acc.length : Int) == 8) = true := by rw [beq_iff_eq]; omega
     skip
     have HE := Lib.hid (EN.out RE.out)
     go_wp2_with fail
     skip
     refine bodyPost_ret (v := .tuple #[.slice none 0 0, .int .i64 12]) (by simp [results, Tryz.results20, go_sem]) rfl ⟨_, by rw [HE.out], ?_, fun _ => rfl, fun h => absurd (HE.out.symm.trans h) (by decide)⟩
     exact Bal NN.out _
    have q8 : ((acc.length : Int) == 8) = false := by rw [beq_eq_false_iff_ne]; omega
    have PT2 : Hid (R = parT f (acc ++ [x]) lr) := Lib.hid (PT.out.trans ((if_pos rfl).trans (if_neg h9)))
    simp only [Option.isSome_some]
    clear PT
    have H63 : Hid (acc.length + 1 ≤ maxLen) := Lib.hid (by simp [maxLen]; omega)
    have H64 : Hid ((acc.length + 1) * 48 ≤ 140737488355328) := Lib.hid (by omega)
    skip
    have H5 : Hid (w.heap.size ≤ ((w2.alloc (.cells #[.string x.nm, .int .i64 x.sn, .int .i64 x.sd, .int .i64 x.tn, .int .i64 x.td] 69)).alloc (.cells #[.string x.nm, .int .i64 x.sn, .int .i64 x.sd, .int .i64 x.tn, .int .i64 x.td] 69)).heap.size) := Lib.hid (by rw [World.size_alloc, World.size_alloc]; have := NN.out.size; omega)
    go_wp2_with (at_builtin; refine wpList_append_rd _ rfl _ _ 24 rfl w.heap.size 69 i0 (.agg #[.string ⟨#[]⟩, .int .i64 0, .int .i64 0, .int .i64 0, .int .i64 0]) 5 48 und_sites HI.out.1 HI.out.2.1 HI.out.2.2.1 HI.out.2.2.2 rfl (by decide) (.slice A0 acc.length c0) _ _ rfl (World.ownsRow.alloc (World.ownsRow.alloc OV.out _) _) (some ⟨w2.heap.size + 1, 0, none⟩) 1 1 (st5 x) rfl (Rd.blk (T := 69) (blk_at _ (by simp)) rfl) (st5_one x) H63.out H64.out H5.out ?_; intro v9 w9 o9 g9 hat9)
    have BG := Lib.hid (own_grown (World.ownsRow.alloc (World.ownsRow.alloc OV.out _) _) g9 H5.out)
    have O9 : Hid (OSt w.heap.size w9 v9 (acc ++ [x])) := Lib.hid (by unfold OSt; rw [List.flatMap_append, List.length_append]; simpa using o9)
    have N9 := Lib.hid ((Bal (Bal NN.out _) _).trans BG.out)
    have LT := LL.out.2.2 rfl
    have HF2 : Hid (lr.length < f) := Lib.hid (by have := HF.out; omega)
    go_roundw
    case rel => exact ⟨lr, acc ++ [x], f, rfl, Lib.hid PT2.out.symm, HF2, by omega, by simp; omega, N9, O9⟩
    case measure => show (⟨lr.toArray⟩ : ByteArray).size < (⟨m.toArray⟩ : ByteArray).size; rw [← s_len, ← s_len]; simpa using LT
end Go.Proofs.YtfangplfbbgphaaGreatDoor
namespace Go.Proofs.YtfangplfbbgphaaGreatDoor
set_option linter.unusedVariables false
def numL : List UInt8 → Nat → Option Nat
 | [], n => some n
 | c :: r, n => if c.toNat < 48 ∨ 57 < c.toNat ∨ 100000000000000000 < n then none else numL r (10 * n + (c.toNat - 48))
theorem num_spell : ∀ (l : List UInt8) (acc : Nat), (∀ c ∈ l, 48 ≤ c.toNat ∧ c.toNat ≤ 57) → spell acc l ≤ 1000000000000000000 → numL l acc = some (spell acc l)
 | [], acc, _, _ => rfl
 | c :: l, acc, hd, hs => by
  have h1 := hd c (by simp)
  rw [spell_cons] at hs ⊢
  have h2 := spell_ge l (acc * 10 + (c.toNat - 48))
  unfold numL
  rw [if_neg (by omega), Nat.mul_comm 10 acc]
  exact num_spell l _ (fun x hx => hd x (by simp [hx])) hs
theorem num_dec {u : Nat} (h : u ≤ 1000000000000000000) : numL (Lib.decDigits u) 0 = some u := by
 have hs := spell_dec (u + 1) u (by omega)
 rw [num_spell _ _ (dec_digit (u + 1) u (by omega)) (by rw [hs]; omega), hs]
def negL (l : List UInt8) : Bool := match l with | c :: _ => c.toNat == 45 | [] => false
def bodyL (l : List UInt8) : List UInt8 := if negL l then l.tail else l
theorem itoa_neg' {n : Int} (h : n < 0) : Lib.itoa n = 45 :: Lib.decDigits n.natAbs := by unfold Lib.itoa; rw [if_pos h]
theorem itoa_pos' {n : Int} (h : ¬ n < 0) : Lib.itoa n = Lib.decDigits n.toNat := by unfold Lib.itoa; rw [if_neg h]
theorem negL_itoa (n : Int) : negL (Lib.itoa n) = decide (n < 0) := by
 by_cases h : n < 0
 ·rw [itoa_neg' h, decide_eq_true h]; rfl
 ·rw [itoa_pos' h, decide_eq_false h]
  have dg := dec_digit (n.toNat + 1) n.toNat (by omega)
  cases hl : Lib.decDigits n.toNat with
  | nil => rfl
  | cons c r =>
   rw [hl] at dg
   have := dg c (by simp)
   unfold negL
   rw [beq_eq_false_iff_ne]
   omega
theorem bodyL_itoa (n : Int) : bodyL (Lib.itoa n) = Lib.decDigits n.natAbs := by
 unfold bodyL
 rw [negL_itoa]
 by_cases h : n < 0
 ·rw [decide_eq_true h, itoa_neg' h]; rfl
 ·rw [decide_eq_false h, itoa_pos' h]
  simp only [Bool.false_eq_true, if_false]
  congr 1
  omega
theorem dec_len : ∀ (k u : Nat), u < 10 ^ (k + 1) → (Lib.decDigits u).length ≤ k + 1 := by
 intro k
 induction k with
 | zero => intro u hu; rw [dec_small (by simpa using hu)]; simp
 | succ k ih =>
  intro u hu
  by_cases h : u < 10
  ·rw [dec_small h]; simp
  ·rw [dec_big h, List.length_append]
   have := ih (u / 10) (by rw [Nat.pow_succ] at hu; omega)
   simp; omega
theorem itoa_len {n : Int} (h1 : -1000000000000000000 ≤ n) (h2 : n ≤ 1000000000000000000) : 0 < (Lib.itoa n).length ∧ (Lib.itoa n).length ≤ 20 := by
 by_cases h : n < 0
 ·rw [itoa_neg' h]
  have := dec_len 18 n.natAbs (by omega)
  simp; omega
 ·rw [itoa_pos' h]
  have := dec_len 18 n.toNat (by omega)
  have := List.length_pos_iff.2 (dec_ne n.toNat)
  omega
def NR (l : List UInt8) (v : Int) (b : Bool) : Prop :=
 (b = true ∧ -1000000000000000000 ≤ v ∧ v ≤ 1000000000000000000 ∧ Lib.itoa v = l) ∨ (b = false ∧ ∀ n, -1000000000000000000 ≤ n → n ≤ 1000000000000000000 → Lib.itoa n ≠ l)
theorem NR.long {l : List UInt8} (h : l.length = 0 ∨ 20 < l.length) (v : Int) : NR l v false := .inr ⟨rfl, fun n h1 h2 e => by have := itoa_len h1 h2; rw [e] at this; omega⟩
theorem NR.odd {l : List UInt8} (h : numL (bodyL l) 0 = none) (v : Int) : NR l v false := .inr ⟨rfl, fun n h1 h2 e => by
 rw [← e, bodyL_itoa, num_dec (by omega)] at h; cases h⟩
def sgn (b : Bool) (m : Nat) : Int := if b then -(m : Int) else m
theorem NR.val {l : List UInt8} {m : Nat} (h : numL (bodyL l) 0 = some m) : NR l (sgn (negL l) m) (decide (-1000000000000000000 ≤ sgn (negL l) m) && (decide (sgn (negL l) m ≤ 1000000000000000000) && (Lib.itoa (sgn (negL l) m) == l))) := by
 by_cases c1 : -1000000000000000000 ≤ sgn (negL l) m
 rotate_left
 ·rw [decide_eq_false c1]
  refine .inr ⟨rfl, fun n h1 h2 e => ?_⟩
  rw [← e, bodyL_itoa, num_dec (by omega)] at h
  cases h
  rw [← e, negL_itoa] at c1
  unfold sgn at c1
  split at c1 <;> omega
 by_cases c2 : sgn (negL l) m ≤ 1000000000000000000
 rotate_left
 ·rw [decide_eq_true c1, decide_eq_false c2]
  refine .inr ⟨rfl, fun n h1 h2 e => ?_⟩
  rw [← e, bodyL_itoa, num_dec (by omega)] at h
  cases h
  rw [← e, negL_itoa] at c2
  unfold sgn at c2
  split at c2 <;> omega
 rw [decide_eq_true c1, decide_eq_true c2]
 by_cases c3 : Lib.itoa (sgn (negL l) m) = l
 ·exact .inl ⟨by rw [Bool.true_and, Bool.true_and, beq_iff_eq]; exact c3, c1, c2, c3⟩
 ·refine .inr ⟨by rw [Bool.true_and, Bool.true_and, beq_eq_false_iff_ne]; exact c3, fun n h1 h2 e => ?_⟩
  have h' := h
  rw [← e, bodyL_itoa, num_dec (by omega)] at h'
  cases h'
  apply c3
  rw [← e]
  congr 1
  rw [negL_itoa]
  unfold sgn
  by_cases hn : n < 0
  ·rw [decide_eq_true hn]; simp; omega
  ·rw [decide_eq_false hn]; simp; omega
theorem cut_split (l : List UInt8) (k : Nat) (h : ∀ (j : Nat) (c : UInt8), j < k → l[j]? = some c → c.toNat ≠ 47) (hk : k < l.length → ∃ c, l[k]? = some c ∧ c.toNat = 47) (hl : k ≤ l.length) :
  Lib.cut l [47] = (l.take k, l.drop (k + 1), decide (k < l.length)) := by
 have no : ∀ x ∈ l.take k, x ≠ 47 := fun x hx e => by
  obtain ⟨j, hj, rfl⟩ := List.mem_iff_getElem.1 hx
  have hj' : j < k := by rw [List.length_take] at hj; omega
  rw [List.getElem_take] at e
  exact h j l[j] hj' (List.getElem?_eq_getElem (by omega)) (by rw [e]; rfl)
 by_cases c : k < l.length
 ·obtain ⟨b, hb, b47⟩ := hk c
  have e : l = l.take k ++ 47 :: l.drop (k + 1) := by
   have hb' : b = 47 := UInt8.toNat_inj.1 b47
   subst hb'
   obtain ⟨h1, h2⟩ := List.getElem?_eq_some_iff.1 hb
   have := List.drop_eq_getElem_cons h1
   rw [h2] at this
   rw [← this, List.take_append_drop]
  have := cut_at (l := l.take k) (r := l.drop (k + 1)) no
  rw [← e] at this
  rw [this, decide_eq_true c]
 ·have e : k = l.length := by omega
  subst e
  rw [List.take_length] at no ⊢
  rw [cut_none no, List.drop_eq_nil_of_le (by omega), decide_eq_false c]
theorem PR.cut0 {l l1 l2 : List UInt8} {n : Int} {b : Bool} (hc : Lib.cut l [47] = (l1, l2, false)) (h1 : NR l1 n b) (hl : l1 = l) : PR l (if b = true ∧ errF n 1 = 0 then (n, 1, 0) else (0, 0, 12)) := by
 subst hl
 by_cases h : b = true ∧ errF n 1 = 0
 ·rw [if_pos h]
  refine .inl ⟨rfl, errF_ok h.2, ?_⟩
  rcases h1 with ⟨_, _, _, e⟩ | ⟨e, _⟩
  ·unfold textL; rw [if_pos rfl]; exact e
  ·rw [e] at h; exact absurd h.1 (by decide)
 ·rw [if_neg h]
  refine .inr ⟨rfl, fun m d v e => h ?_⟩
  rw [← e, cut_text] at hc
  simp only [Prod.mk.injEq, Bool.not_eq_false', decide_eq_true_eq] at hc
  obtain ⟨e1, _, rfl⟩ := hc
  have im : Lib.itoa m = l1 := e1.trans e
  rcases h1 with ⟨hb, _, _, e2⟩ | ⟨_, e2⟩
  ·have vm := parseI_itoa (n := m) (by have := v.n1; omega) (by have := v.n2; omega)
   have vn := parseI_itoa (n := n) (by omega) (by omega)
   rw [im, ← e2, vn] at vm
   cases vm
   exact ⟨hb, v.err⟩
  ·exact absurd im (e2 m v.n1 v.n2)
theorem PR.cut1 {l l1 l2 : List UInt8} {n d : Int} {b b' : Bool} (hc : Lib.cut l [47] = (l1, l2, true)) (h1 : NR l1 n b) (h2 : NR l2 d b') (hl : l1 ++ 47 :: l2 = l) : PR l (if (b = true ∧ b' = true ∧ 1 < d) ∧ errF n d = 0 then (n, d, 0) else (0, 0, 12)) := by
 by_cases h : (b = true ∧ b' = true ∧ 1 < d) ∧ errF n d = 0
 ·rw [if_pos h]
  refine .inl ⟨rfl, errF_ok h.2, ?_⟩
  rcases h1 with ⟨_, _, _, e⟩ | ⟨e, _⟩
  ·rcases h2 with ⟨_, _, _, e'⟩ | ⟨e', _⟩
   ·have hd := h.1.2.2
    unfold textL; rw [if_neg (show ¬ d = 1 by omega)]; rw [e, e', hl]
   ·rw [e'] at h; exact absurd h.1.2.1 (by decide)
  ·rw [e] at h; exact absurd h.1.1 (by decide)
 ·rw [if_neg h]
  refine .inr ⟨rfl, fun m k v e => h ?_⟩
  rw [← e, cut_text] at hc
  simp only [Prod.mk.injEq, Bool.not_eq_true', decide_eq_false_iff_not] at hc
  obtain ⟨e1, e2, hk⟩ := hc
  rw [if_neg hk] at e2
  have d1 := v.d1
  rcases h1 with ⟨hb, _, _, f1⟩ | ⟨_, f1⟩
  ·rcases h2 with ⟨hb', _, _, f2⟩ | ⟨_, f2⟩
   ·have vm := parseI_itoa (n := m) (by have := v.n1; omega) (by have := v.n2; omega)
    have vn := parseI_itoa (n := n) (by omega) (by omega)
    have vk := parseI_itoa (n := k) (by omega) (by have := v.d2; omega)
    have vd := parseI_itoa (n := d) (by omega) (by omega)
    rw [e1, ← f1, vn] at vm
    rw [e2, ← f2, vd] at vk
    cases vm; cases vk
    exact ⟨⟨hb, hb', by omega⟩, v.err⟩
   ·exact absurd e2 (f2 k (by omega) v.d2)
  ·exact absurd e1 (f1 m v.n1 v.n2)
end Go.Proofs.YtfangplfbbgphaaGreatDoor
namespace Go.Proofs.YtfangplfbbgphaaGreatDoor
open Go.ChangeShapes Go.WideShapes Go.ChangeAt Go.RowKit
set_option linter.unusedVariables false
attribute [local go_sem ↓] Go.wp_at_zero Go.wp_at_succ
section
variable {P : Program} {ops : Array Oper} {Q : Exit → Act → World → Prop} {md : Region.Mode} {S : Nat → World → Prop}
theorem both_I {oi oj : Oper} {f : Nat} {done : Array Bool} {a : Act} {w : World} (i j : Nat) (hr : Region.ready md ops done = [i, j]) (hi : ops[i]? = some oi) (hj : ops[j]? = some oj)
  (h1 : ∀ K' : Act → World → Prop, Shut (∀ a' w', (∀ k, Region.waitsFor md ops i k = false → S k w → S k w') → wpAnyI P md ops Q S f (done.setIfInBounds i true) a' w' → K' a' w') → if Region.wanted oi (yielded ops a.tmps) = true then Oper.wp P oi a w K' Q else K' (a.put oi.dst undef) w)
  (h2 : ∀ K' : Act → World → Prop, Shut (∀ a' w', (∀ k, Region.waitsFor md ops j k = false → S k w → S k w') → wpAnyI P md ops Q S f (done.setIfInBounds j true) a' w' → K' a' w') → if Region.wanted oj (yielded ops a.tmps) = true then Oper.wp P oj a w K' Q else K' (a.put oj.dst undef) w) :
  wpAnyI P md ops Q S (f + 1) done a w :=
 ⟨fun h0 => (by rw [hr] at h0; cases h0), fun x hx => by
  rw [hr] at hx
  simp only [List.mem_cons, List.not_mem_nil, or_false] at hx
  rcases hx with rfl | rfl
  ·exact wpOp_step hi (fun K' hK => h1 K' (fun a' w' h1 h2 => hK a' w' ⟨h1, h2⟩))
  ·exact wpOp_step hj (fun K' hK => h2 K' (fun a' w' h1 h2 => hK a' w' ⟨h1, h2⟩))⟩
end
theorem conv_one (W : World) (g : Nat) (x : Int) (h0 : 0 ≤ x) (hx : x < 256) (h : W.cell? ⟨g, 0, none⟩ = some (.int .u8 x)) : (convert 108 9 (.slice (some ⟨g, 0, none⟩) 1 1)).run Tryz.prog W = .ok (Str [UInt8.ofNat x.toNat]) W := by
 have := run_convert_bytes_back (P := Tryz.prog) W 108 9 5 ⟨g, 0, none⟩ 1 [UInt8.ofNat x.toNat] Tryz.underlying108 Tryz.underlying5 Tryz.underlying9 (fun j hj => by
  have : j = 0 := by simpa using hj
  subst this
  simp only [List.getElem_cons_zero, UInt8.toNat_ofNat', Nat.reducePow, Nat.mod_eq_of_lt (show x.toNat < 256 by omega), show ((x.toNat : Nat) : Int) = x by omega]
  exact h)
 exact this
theorem cat_str (a b : List UInt8) : (⟨a.toArray⟩ : ByteArray) ++ ⟨b.toArray⟩ = ⟨(a ++ b).toArray⟩ := cat2 a b
set_option maxRecDepth 100000 in
set_option maxHeartbeats 4000000 in
theorem dec_nn (k : Nat) : ∀ (n : Int) (w : World), 0 ≤ n → n < k → n ≤ 9223372036854775807 →
  Calls Tryz.prog 81 #[.int .i64 n] w fun e w' => e = .returned (Str (Lib.decDigits n.toNat)) ∧ Below w.heap.size w w' := by
 induction k with
 | zero => intro n w h0 h1; omega
 | succ k ih =>
  intro n w h0 h1 h2
  by_cases hs : n < 10
  ·have F : Lib.decDigits n.toNat = [UInt8.ofNat (48 + n).toNat] := by rw [show (48 + n).toNat = 48 + n.toNat by omega]; exact dec_small (by omega)
   have NN := Lib.hid (Bal (Below.refl w.heap.size w) (.cells #[.int .u8 (48 + n)] 5))
   have CV := conv_one (w.alloc (.cells #[.int .u8 (48 + n)] 5)) w.heap.size (48 + n) (by omega) (by omega) (blk_cell (blk_new w _) 0 _ rfl)
   rw [← F] at CV
   generalize Lib.decDigits n.toNat = D at *
   clear F
   go_enter Tryz.func81, Tryz.ntmps81
   go_wp2_with fail
   go_ret
   exact ⟨rfl, NN.out⟩
  ·have F : Lib.decDigits n.toNat = Lib.decDigits (n / 10).toNat ++ [UInt8.ofNat (48 + n % 10).toNat] := by
    rw [show (48 + n % 10).toNat = 48 + n.toNat % 10 by omega, show (n / 10).toNat = n.toNat / 10 by omega]; exact dec_big (by omega)
   have q1 : 0 ≤ n / 10 := by omega
   have q2 : n / 10 ≤ 9223372036854775807 := by omega
   have r1 : 0 ≤ n % 10 := by omega
   have r2 : n % 10 < 10 := by omega
   have T : n.tdiv 10 = n / 10 := Int.tdiv_eq_ediv_of_nonneg h0
   have R : n.tmod 10 = n % 10 := Int.tmod_eq_emod_of_nonneg h0
   have C := Lib.hid (fun W => ih (n / 10) W q1 (by omega) q2)
   have CV := Lib.hid (fun W g h => conv_one W g (48 + n % 10) (by omega) (by omega) h)
   have W8 : IntKind.u8.wrap (48 + n % 10) = 48 + n % 10 := IntWalk.u8_in _ (by omega)
   have WQ : IntKind.i64.wrap (n / 10) = n / 10 := IntWalk.i64_in _ (by omega)
   have WR : IntKind.i64.wrap (48 + n % 10) = 48 + n % 10 := IntWalk.i64_in _ (by omega)
   have L1 := dec_len 18 (n / 10).toNat (by omega)
   have LL : ¬ 9223372036854775807 < (Lib.decDigits (n / 10).toNat).length + [UInt8.ofNat (48 + n % 10).toNat].length := by
    have : [UInt8.ofNat (48 + n % 10).toNat].length = 1 := rfl
    omega
   clear L1
   generalize [UInt8.ofNat (48 + n % 10).toNat] = D2 at *
   generalize Lib.decDigits (n / 10).toNat = D1 at *
   generalize Lib.decDigits n.toNat = D at *
   generalize n / 10 = q at *
   generalize n % 10 = r at *
   have HF := Lib.hid F
   have k1 : ¬ n < 0 := by omega
   clear F ih h1
   go_enter Tryz.func81, Tryz.ntmps81
   go_wp2_with fail
   refine region_I (S := fun _ _ => True) (by kernel_rfl) ?_
   refine take_I 0 (.int .i64 n) (some 16) rfl (by kernel_rfl) (by kernel_rfl) (by kernel_rfl) rfl (fun _ _ _ h => h) (Or.inl ⟨by rfl, ?_⟩) trivial ?_
   ·intro X hX
    clear hX
    go_simp
   try simp only [Act.put, zA, zB, zC]
   refine take_I 1 (.int .i64 q) (some 17) rfl (by kernel_rfl) (by kernel_rfl) (by kernel_rfl) rfl (fun _ _ _ h => h) (Or.inl ⟨by rfl, ?_⟩) trivial ?_
   ·intro X hX
    clear hX
    go_simp
   try simp only [Act.put, zA, zB, zC]
   refine take_I 3 (.int .i64 n) (some 19) rfl (by kernel_rfl) (by kernel_rfl) (by kernel_rfl) rfl (fun _ _ _ h => h) (Or.inl ⟨by rfl, ?_⟩) trivial ?_
   ·intro X hX
    clear hX
    go_simp
   try simp only [Act.put, zA, zB, zC]
   refine take_I 4 (.int .i64 r) (some 20) rfl (by kernel_rfl) (by kernel_rfl) (by kernel_rfl) rfl (fun _ _ _ h => h) (Or.inl ⟨by rfl, ?_⟩) trivial ?_
   ·intro X hX
    clear hX
    go_simp
   try simp only [Act.put, zA, zB, zC]
   refine take_I 5 (.int .i64 (48 + r)) (some 21) rfl (by kernel_rfl) (by kernel_rfl) (by kernel_rfl) rfl (fun _ _ _ h => h) (Or.inl ⟨by rfl, ?_⟩) trivial ?_
   ·intro X hX
    clear hX
    go_simp
   try simp only [Act.put, zA, zB, zC]
   refine take_I 6 (.int .u8 (48 + r)) (some 22) rfl (by kernel_rfl) (by kernel_rfl) (by kernel_rfl) rfl (fun _ _ _ h => h) (Or.inl ⟨by rfl, ?_⟩) trivial ?_
   ·intro X hX
    clear hX
    go_simp
   try simp only [Act.put, zA, zB, zC]
   refine both_I 2 7 (by kernel_rfl) rfl rfl (fun K' hK' => ?_) (fun K' hK' => ?_)
   ·have z := 0
    go_simp
    go_at_call 81
    refine (C.out _).mono ?_
    rintro e w1 ⟨rfl, hb⟩
    have NN := Lib.hid (Bgo (Below.drew (Below.refl w.heap.size w)) hb)
    clear hb
    go_simp
    refine hK'.out _ _ (fun _ _ _ => trivial) ?_
    clear hK' K'
    try simp only [Act.put, zA, zB, zC]
    refine only_I 7 (by kernel_rfl) rfl (fun K' hK' => ?_)
    go_simp
    refine hK'.out _ _ (fun _ _ _ => trivial) ?_
    clear hK' K'
    try simp only [Act.put, zA, zB, zC]
    have cv := CV.out (w1.alloc (.cells #[.int .u8 (48 + r)] 5)) w1.heap.size (blk_cell (blk_new w1 _) 0 _ rfl)
    refine only_I 8 (by kernel_rfl) rfl (fun K' hK' => ?_)
    go_simp
    refine hK'.out _ _ (fun _ _ _ => trivial) ?_
    clear hK' K'
    try simp only [Act.put, zA, zB, zC]
    refine only_I 9 (by kernel_rfl) rfl (fun K' hK' => ?_)
    go_simp
    refine hK'.out _ _ (fun _ _ _ => trivial) ?_
    clear hK' K'
    try simp only [Act.put, zA, zB, zC]
    refine only_I 10 (by kernel_rfl) rfl (fun K' hK' => ?_)
    go_simp
    refine hK'.out _ _ (fun _ _ _ => trivial) ?_
    clear hK' K'
    try simp only [Act.put, zA, zB, zC]
    refine done_I (by kernel_rfl) ?_ _
    go_wp2_with fail
    go_ret
    exact ⟨by rw [cat_str, HF.out]; rfl, Bal NN.out _⟩
   ·have z := 0
    go_simp
    refine hK'.out _ _ (fun _ _ _ => trivial) ?_
    clear hK' K'
    try simp only [Act.put, zA, zB, zC]
    have B := Lib.hid (blk_new w.drew (.cells #[.int .u8 (48 + r)] 5))
    have NN := Lib.hid (Bal (Below.drew (Below.refl w.heap.size w)) (.cells #[.int .u8 (48 + r)] 5))
    have cv := CV.out ((w.alloc (.cells #[.int .u8 (48 + r)] 5)).drew) w.heap.size (blk_cell (show ((w.alloc (.cells #[.int .u8 (48 + r)] 5)).drew).heap[w.heap.size]? = some (.cells #[.int .u8 (48 + r)] 5) from blk_new w _) 0 _ rfl)
    refine both_I 2 8 (by kernel_rfl) rfl rfl (fun K' hK' => ?_) (fun K' hK' => ?_)
    ·clear cv
     go_simp
     go_at_call 81
     refine (C.out _).mono ?_
     rintro e w1 ⟨rfl, hb⟩
     have cv := CV.out w1 w.heap.size (blk_cell (blk_next hb B.out) 0 _ rfl)
     replace NN := Lib.hid (Bgo NN.out hb)
     clear hb
     go_simp
     refine hK'.out _ _ (fun _ _ _ => trivial) ?_
     clear hK' K'
     try simp only [Act.put, zA, zB, zC]
     refine only_I 8 (by kernel_rfl) rfl (fun K' hK' => ?_)
     go_simp
     refine hK'.out _ _ (fun _ _ _ => trivial) ?_
     clear hK' K'
     try simp only [Act.put, zA, zB, zC]
     refine only_I 9 (by kernel_rfl) rfl (fun K' hK' => ?_)
     go_simp
     refine hK'.out _ _ (fun _ _ _ => trivial) ?_
     clear hK' K'
     try simp only [Act.put, zA, zB, zC]
     refine only_I 10 (by kernel_rfl) rfl (fun K' hK' => ?_)
     go_simp
     refine hK'.out _ _ (fun _ _ _ => trivial) ?_
     clear hK' K'
     try simp only [Act.put, zA, zB, zC]
     refine done_I (by kernel_rfl) ?_ _
     go_wp2_with fail
     go_ret
     exact ⟨by rw [cat_str, HF.out]; rfl, NN.out⟩
    ·go_simp
     refine hK'.out _ _ (fun _ _ _ => trivial) ?_
     clear hK' K'
     try simp only [Act.put, zA, zB, zC]
     refine only_I 2 (by kernel_rfl) rfl (fun K' hK' => ?_)
     go_simp
     go_at_call 81
     refine (C.out _).mono ?_
     rintro e w1 ⟨rfl, hb⟩
     replace NN := Lib.hid (Bgo NN.out hb)
     clear hb cv
     go_simp
     refine hK'.out _ _ (fun _ _ _ => trivial) ?_
     clear hK' K'
     try simp only [Act.put, zA, zB, zC]
     refine only_I 9 (by kernel_rfl) rfl (fun K' hK' => ?_)
     go_simp
     refine hK'.out _ _ (fun _ _ _ => trivial) ?_
     clear hK' K'
     try simp only [Act.put, zA, zB, zC]
     refine only_I 10 (by kernel_rfl) rfl (fun K' hK' => ?_)
     go_simp
     refine hK'.out _ _ (fun _ _ _ => trivial) ?_
     clear hK' K'
     try simp only [Act.put, zA, zB, zC]
     refine done_I (by kernel_rfl) ?_ _
     go_wp2_with fail
     go_ret
     exact ⟨by rw [cat_str, HF.out]; rfl, NN.out⟩
theorem dec_calls (n : Int) (w : World) (h1 : -9223372036854775808 < n) (h2 : n ≤ 9223372036854775807) :
  Calls Tryz.prog 81 #[.int .i64 n] w fun e w' => e = .returned (Str (Lib.itoa n)) ∧ Below w.heap.size w w' := by
 by_cases h : n < 0
 ·have F : Lib.itoa n = [45] ++ Lib.decDigits (-n).toNat := by rw [itoa_neg' h, show (-n).toNat = n.natAbs by omega]; rfl
  have C := Lib.hid (fun W => dec_nn ((-n).toNat + 1) (-n) W (by omega) (by omega) (by omega))
  have L1 := dec_len 18 (-n).toNat (by omega)
  have LL : ¬ 9223372036854775807 < ([45] : List UInt8).length + (Lib.decDigits (-n).toNat).length := by
   have : ([45] : List UInt8).length = 1 := rfl
   omega
  generalize Lib.decDigits (-n).toNat = D1 at *
  generalize Lib.itoa n = D at *
  have HF := Lib.hid F
  have L2 : D1.length ≤ 100 := by omega
  clear F L1
  go_enter Tryz.func81, Tryz.ntmps81
  go_wp2_with fail
  refine (C.out _).mono ?_
  rintro e w1 ⟨rfl, hb⟩
  have NN := Lib.hid hb
  clear hb
  go_wp2_with fail
  go_ret
  exact ⟨by rw [show (⟨#[45]⟩ : ByteArray) = ⟨([45] : List UInt8).toArray⟩ from rfl, cat_str, HF.out]; rfl, NN.out⟩
 ·have e : Lib.itoa n = Lib.decDigits n.toNat := itoa_pos' h
  rw [e]
  exact dec_nn (n.toNat + 1) n w (by omega) (by omega) h2
end Go.Proofs.YtfangplfbbgphaaGreatDoor
namespace Go.Proofs.YtfangplfbbgphaaGreatDoor
open Go.ChangeShapes Go.WideShapes Go.ChangeAt Go.RowKit
set_option linter.unusedVariables false
attribute [local go_sem ↓] Go.wp_at_zero Go.wp_at_succ
def restL (l : List UInt8) (k : Nat) : List UInt8 := if k = 0 then bodyL l else l.drop k
theorem negL_head {l : List UInt8} {c : UInt8} (h : l[0]? = some c) : negL l = (c.toNat == 45) := by
 cases l with
 | nil => simp at h
 | cons x r => simp at h; subst h; rfl
theorem rest_next {l : List UInt8} {k : Nat} {c : UInt8} (h : l[k]? = some c) (hk : k = 0 → c.toNat ≠ 45) : restL l k = c :: restL l (k + 1) := by
 have e : restL l (k + 1) = l.drop (k + 1) := by unfold restL; rw [if_neg (by omega)]
 obtain ⟨h1, h2⟩ := List.getElem?_eq_some_iff.1 h
 have d := List.drop_eq_getElem_cons h1
 rw [h2] at d
 rw [e, ← d]
 unfold restL
 by_cases z : k = 0
 ·subst z
  rw [if_pos rfl]
  unfold bodyL
  rw [negL_head h, if_neg]
  ·rfl
  ·simp; exact hk rfl
 ·rw [if_neg z]
theorem rest_minus {l : List UInt8} {c : UInt8} (h : l[0]? = some c) (hc : c.toNat = 45) : restL l 0 = restL l 1 := by
 unfold restL
 rw [if_pos rfl, if_neg (by decide)]
 unfold bodyL
 rw [negL_head h, hc]
 simp
theorem rest_end {l : List UInt8} {k : Nat} (h : l.length ≤ k) (h0 : 0 < l.length) : restL l k = [] := by
 unfold restL
 rw [if_neg (by omega), List.drop_eq_nil_of_le h]
theorem num_nil {n : Nat} {R : Option Nat} (h : numL [] n = R) : R = some n := h.symm
def NUP (l : List UInt8) (w : World) (e : Ending) (w' : World) : Prop := ∃ v b, e = .returned (.tuple #[.int .i64 v, .bool b]) ∧ NR l v b ∧ Below w.heap.size w w'
set_option maxRecDepth 100000 in
set_option maxHeartbeats 8000000 in
theorem number_calls (s : ByteArray) (w : World) (hs : s.size ≤ 9223372036854775807) :
  Calls Tryz.prog 85 #[.string s] w (NUP s.data.toList w) := by
 have SL := s_len s
 have SG := Lib.hid (fun k (h : k < s.size) => str_get s k h)
 obtain ⟨l, hl⟩ : ∃ l, s.data.toList = l := ⟨_, rfl⟩
 rw [hl] at SL SG ⊢
 have HL := Lib.hid hl
 clear hl
 by_cases z : s.size = 0
 ·have NO := Lib.hid (NR.long (l := l) (.inl (by omega)) 0)
  have k0 : ((s.size : Int) == 0) = true := by rw [z]; rfl
  have LE := Lib.hid SL
  clear SL z
  go_enter Tryz.func85, Tryz.ntmps85
  go_wp2_with fail
  go_ret2
  exact ⟨0, false, rfl, NO.out, Below.refl _ _⟩
 by_cases big : 20 < s.size
 ·have NO := Lib.hid (NR.long (l := l) (.inr (by omega)) 0)
  have k0 : ((s.size : Int) == 0) = false := by rw [beq_eq_false_iff_ne]; omega
  have k1 : decide ((20 : Int) < (s.size : Int)) = true := decide_eq_true (by omega)
  have LE := Lib.hid SL
  clear SL z
  go_enter Tryz.func85, Tryz.ntmps85
  go_wp2_with fail
  go_ret2
  exact ⟨0, false, rfl, NO.out, Below.refl _ _⟩
 have k0 : ((s.size : Int) == 0) = false := by rw [beq_eq_false_iff_ne]; omega
 have k1 : decide ((20 : Int) < (s.size : Int)) = false := decide_eq_false (by omega)
 have s1 : 0 < s.size := by omega
 have s2 : s.size ≤ 20 := by omega
 have ODD := Lib.hid (fun h => NR.odd (l := l) h 0)
 have VAL := Lib.hid (fun m h => NR.val (l := l) (m := m) h)
 obtain ⟨R, hR⟩ : ∃ R, numL (bodyL l) 0 = R := ⟨_, rfl⟩
 have ST : Hid (numL (restL l 0) 0 = R) := Lib.hid (by rw [← hR]; rfl)
 rw [hR] at ODD
 have VAL2 := Lib.hid (fun m (h : R = some m) => VAL.out m (hR.trans h))
 have LE := Lib.hid SL
 clear SL z big hR VAL
 go_enter Tryz.func85, Tryz.ntmps85
 go_wp2_with fail
 go_loop [4, 5] (fun n i => ∃ k m : Nat, k ≤ s.size ∧ i = .int .i64 k ∧ n = .int .i64 m ∧ m ≤ 1000000000000000009 ∧ Hid (numL (restL l k) m = R) ∧ (k = 0 → m = 0)) (fun _ i => s.size - (intOf i).toNat)
 case atStart => exact ⟨0, 0, by omega, rfl, rfl, by omega, ST, fun _ => rfl⟩
 case round =>
  clear ST
  obtain ⟨k, m, hk, rfl, rfl, hm, ST, m0⟩ := hrel
  by_cases hlt : k < s.size
  ·have hc := SG.out k hlt
   by_cases mi : k = 0 ∧ s[k].toNat = 45
   ·obtain ⟨rfl, h45⟩ := mi
    obtain rfl := m0 rfl
    have e1 : ((s[0].toNat : Int) == 45) = true := by rw [h45]; rfl
    have S2 : Hid (numL (restL l 1) 0 = R) := Lib.hid (by rw [← rest_minus hc h45]; exact ST.out)
    clear hc h45 ST m0
    go_wp2_with fail
    go_round
    case rel => exact ⟨1, 0, by omega, by go_num, rfl, by omega, S2, fun h => by omega⟩
    case measure => simp [intOf]; omega
   ·have RN := rest_next hc (fun h h' => mi ⟨h, h'⟩)
    have S2 := ST.out
    rw [RN] at S2
    unfold numL at S2
    have HS := Lib.hid S2
    clear S2 RN hc ST m0
    have z1 : decide ((0 : Int) ≤ (k : Int)) = true := decide_eq_true (by omega)
    by_cases lo : s[k].toNat < 48
    ·have RO := Lib.hid (ODD.out (by rw [← HS.out, if_pos (.inl lo)]))
     have e2 : decide ((s[k].toNat : Int) < 48) = true := decide_eq_true (by omega)
     by_cases c45 : s[k].toNat = 45
     ·have e1 : ((s[k].toNat : Int) == 45) = true := by rw [c45]; rfl
      have e3 : ((k : Int) == 0) = false := by rw [beq_eq_false_iff_ne]; omega
      clear c45 lo mi HS
      go_wp2_with fail
      go_ret2
      exact ⟨0, false, rfl, RO.out, Below.refl _ _⟩
     ·have e1 : ((s[k].toNat : Int) == 45) = false := by rw [beq_eq_false_iff_ne]; omega
      clear c45 lo mi HS
      go_wp2_with fail
      go_ret2
      exact ⟨0, false, rfl, RO.out, Below.refl _ _⟩
    ·have e2 : decide ((s[k].toNat : Int) < 48) = false := decide_eq_false (by omega)
     have e1 : ((s[k].toNat : Int) == 45) = false := by rw [beq_eq_false_iff_ne]; omega
     by_cases hi : 57 < s[k].toNat
     ·have RO := Lib.hid (ODD.out (by rw [← HS.out, if_pos (.inr (.inl hi))]))
      have e3 : decide ((57 : Int) < (s[k].toNat : Int)) = true := decide_eq_true (by omega)
      clear lo hi mi HS
      go_wp2_with fail
      go_ret2
      exact ⟨0, false, rfl, RO.out, Below.refl _ _⟩
     ·have e3 : decide ((57 : Int) < (s[k].toNat : Int)) = false := decide_eq_false (by omega)
      by_cases mb : 100000000000000000 < m
      ·have RO := Lib.hid (ODD.out (by rw [← HS.out, if_pos (.inr (.inr mb))]))
       have e4 : decide ((100000000000000000 : Int) < (m : Int)) = true := decide_eq_true (by omega)
       clear lo hi mi HS mb
       go_wp2_with fail
       go_ret2
       exact ⟨0, false, rfl, RO.out, Below.refl _ _⟩
      ·have e4 : decide ((100000000000000000 : Int) < (m : Int)) = false := decide_eq_false (by omega)
       have S2 : Hid (numL (restL l (k + 1)) (10 * m + (s[k].toNat - 48)) = R) := Lib.hid (by rw [← HS.out, if_neg (by omega)])
       have b1 : (48 : Int) ≤ (s[k].toNat : Int) := by omega
       have b2 : (s[k].toNat : Int) ≤ 57 := by omega
       have b3 : (m : Int) ≤ 100000000000000000 := by omega
       have kk : k + 1 ≤ s.size := hlt
       have CA : Hid ((10 * (m : Int) + ((s[k].toNat : Int) - 48)) = ((10 * m + (s[k].toNat - 48) : Nat) : Int)) := Lib.hid (by omega)
       have NB : Hid (10 * m + (s[k].toNat - 48) ≤ 1000000000000000009) := Lib.hid (by omega)
       clear lo hi mi HS mb hm
       go_wp2_with fail
       go_round
       case rel => exact ⟨k + 1, 10 * m + (s[k].toNat - 48), kk, by go_num, by rw [← CA.out], NB.out, S2, fun h => by omega⟩
       case measure => simp [intOf]; omega
  ·have e : k = s.size := by omega
   have RM : Hid (R = some m) := Lib.hid (num_nil (by rw [← rest_end (l := l) (k := k) (by rw [LE.out]; omega) (by rw [LE.out]; omega)]; exact ST.out))
   have VL := Lib.hid (VAL2.out m RM.out)
   have h0 := SG.out 0 s1
   have NG : Hid (negL l = (s[0].toNat == 45)) := Lib.hid (negL_head h0)
   clear h0 ST m0 RM
   have s0 : 0 < s.size := s1
   by_cases neg : s[0].toNat = 45
   ·have e1 : ((s[0].toNat : Int) == 45) = true := by rw [neg]; rfl
    have V2 := VL.out
    rw [show negL l = true by rw [NG.out, neg]; rfl, show sgn true m = -(m : Int) from rfl] at V2
    have HV := Lib.hid V2
    clear V2 VL NG neg
    obtain ⟨v, hv⟩ : ∃ v : Int, -(m : Int) = v := ⟨_, rfl⟩
    rw [hv] at HV
    have v1 : -9223372036854775808 < v := by omega
    have v2 : v ≤ 9223372036854775807 := by omega
    by_cases c1 : -1000000000000000000 ≤ v
    rotate_left
    ·have d1 : decide ((-1000000000000000000 : Int) ≤ v) = false := decide_eq_false c1
     rw [d1] at HV
     clear c1
     go_wp2_with fail
     go_ret2
     exact ⟨v, false, rfl, HV.out, Below.refl _ _⟩
    have d1 : decide ((-1000000000000000000 : Int) ≤ v) = true := decide_eq_true c1
    rw [d1] at HV
    by_cases c2 : v ≤ 1000000000000000000
    rotate_left
    ·have d2 : decide (v ≤ (1000000000000000000 : Int)) = false := decide_eq_false c2
     rw [d2] at HV
     clear c1 c2
     go_wp2_with fail
     go_ret2
     exact ⟨v, false, rfl, HV.out, Below.refl _ _⟩
    have d2 : decide (v ≤ (1000000000000000000 : Int)) = true := decide_eq_true c2
    rw [d2, Bool.true_and, Bool.true_and] at HV
    have DC := Lib.hid (fun W => dec_calls v W v1 v2)
    have SE : Hid (s.toList = l) := Lib.hid (by rw [ByteArray.toList_eq]; exact HL.out)
    generalize Lib.itoa v = tx at *
    clear c1 c2
    go_wp2_with fail
    refine (DC.out _).mono ?_
    rintro e w1 ⟨rfl, hb⟩
    have NN := Lib.hid hb
    clear hb
    go_wp2_with fail
    go_ret2
    exact ⟨v, tx == s.toList, rfl, by rw [SE.out]; exact HV.out, NN.out⟩
   ·have e1 : ((s[0].toNat : Int) == 45) = false := by rw [beq_eq_false_iff_ne]; omega
    have V2 := VL.out
    rw [show negL l = false by rw [NG.out, beq_eq_false_iff_ne]; exact neg, show sgn false m = (m : Int) from rfl] at V2
    have HV := Lib.hid V2
    clear V2 VL NG neg
    obtain ⟨v, hv⟩ : ∃ v : Int, (m : Int) = v := ⟨_, rfl⟩
    rw [hv] at HV
    have v1 : -9223372036854775808 < v := by omega
    have v2 : v ≤ 9223372036854775807 := by omega
    by_cases c1 : -1000000000000000000 ≤ v
    rotate_left
    ·have d1 : decide ((-1000000000000000000 : Int) ≤ v) = false := decide_eq_false c1
     rw [d1] at HV
     clear c1
     go_wp2_with fail
     go_ret2
     exact ⟨v, false, rfl, HV.out, Below.refl _ _⟩
    have d1 : decide ((-1000000000000000000 : Int) ≤ v) = true := decide_eq_true c1
    rw [d1] at HV
    by_cases c2 : v ≤ 1000000000000000000
    rotate_left
    ·have d2 : decide (v ≤ (1000000000000000000 : Int)) = false := decide_eq_false c2
     rw [d2] at HV
     clear c1 c2
     go_wp2_with fail
     go_ret2
     exact ⟨v, false, rfl, HV.out, Below.refl _ _⟩
    have d2 : decide (v ≤ (1000000000000000000 : Int)) = true := decide_eq_true c2
    rw [d2, Bool.true_and, Bool.true_and] at HV
    have DC := Lib.hid (fun W => dec_calls v W v1 v2)
    have SE : Hid (s.toList = l) := Lib.hid (by rw [ByteArray.toList_eq]; exact HL.out)
    generalize Lib.itoa v = tx at *
    clear c1 c2
    go_wp2_with fail
    refine (DC.out _).mono ?_
    rintro e w1 ⟨rfl, hb⟩
    have NN := Lib.hid hb
    clear hb
    go_wp2_with fail
    go_ret2
    exact ⟨v, tx == s.toList, rfl, by rw [SE.out]; exact HV.out, NN.out⟩
end Go.Proofs.YtfangplfbbgphaaGreatDoor
namespace Go.Proofs.YtfangplfbbgphaaGreatDoor
open Go.ChangeShapes Go.WideShapes Go.ChangeAt Go.RowKit
set_option linter.unusedVariables false
attribute [local go_sem ↓] Go.wp_at_zero Go.wp_at_succ
theorem cat3b (a b : List UInt8) : (⟨a.toArray⟩ : ByteArray) ++ (⟨#[47]⟩ : ByteArray) ++ ⟨b.toArray⟩ = ⟨(a ++ 47 :: b).toArray⟩ := by
 rw [show (⟨#[47]⟩ : ByteArray) = ⟨[47].toArray⟩ from rfl, cat2, cat2, List.append_assoc]
 rfl
set_option maxRecDepth 100000 in
set_option maxHeartbeats 8000000 in
theorem refText_calls (n d : Int) (w : World) :
  Calls Tryz.prog 55 #[Fv n d] w fun e w' => e = .returned (.tuple #[Str (txR n d), .int .i64 (errF n d)]) ∧ Below w.heap.size w w' := by
 have C1 := Lib.hid (fun W => refCheck_calls n d W)
 by_cases ck : errF n d = 0
 rotate_left
 ·have X : Hid (txR n d = []) := Lib.hid (by unfold txR; rw [if_neg ck])
  have ck' : (errF n d != 0) = true := by rw [bne_iff_ne]; exact ck
  generalize txR n d = res at *
  generalize errF n d = er at *
  clear ck
  go_enter Tryz.func55, Tryz.ntmps55
  go_wp2_with fail
  refine (C1.out _).mono ?_
  rintro e w1 ⟨rfl, hb⟩
  have NN := Lib.hid (Bgo (Bal (Below.refl _ _) _) hb)
  have K := Lib.hid (blk_next hb (blk_new w (.cells #[.int .i64 n, .int .i64 d] 36)))
  clear hb
  have a0 := blk_cell K.out 0 _ rfl
  have a1 := blk_cell K.out 1 _ rfl
  have al := blk_lt K.out
  go_wp2_with fail
  refine (C1.out _).mono ?_
  rintro e w2 ⟨rfl, hb⟩
  replace NN := Lib.hid (Bgo NN.out hb)
  clear hb a0 a1 al
  go_wp2_with fail
  go_ret2
  exact ⟨by rw [X.out]; rfl, NN.out⟩
 have v := errF_ok ck
 have X : Hid (txR n d = textL n d) := Lib.hid (by unfold txR; rw [if_pos ck])
 rw [ck] at C1 ⊢
 generalize txR n d = res at *
 have n1 := v.n1
 have n2 := v.n2
 have d1 := v.d1
 have d2 := v.d2
 have T1 := Lib.hid (fun W => dec_calls n W (by omega) (by omega))
 have T2 := Lib.hid (fun W => dec_calls d W (by omega) (by omega))
 have FT : Hid (textL n d = if d = 1 then Lib.itoa n else Lib.itoa n ++ 47 :: Lib.itoa d) := Lib.hid rfl
 have ln := Lib.itoa_length_le n (by omega) (by omega)
 have ld := Lib.itoa_length_le d (by omega) (by omega)
 generalize Lib.itoa n = tn at *
 generalize Lib.itoa d = td at *
 clear ck v
 by_cases hd : d = 1
 ·have F2 := Lib.hid (X.out.trans (FT.out.trans (if_pos hd)))
  clear X FT
  subst hd
  go_enter Tryz.func55, Tryz.ntmps55
  go_wp2_with fail
  refine (C1.out _).mono ?_
  rintro e w1 ⟨rfl, hb⟩
  have NN := Lib.hid (Bgo (Bal (Below.refl _ _) _) hb)
  have K := Lib.hid (blk_next hb (blk_new w (.cells #[.int .i64 n, .int .i64 1] 36)))
  clear hb
  have a0 := blk_cell K.out 0 _ rfl
  have a1 := blk_cell K.out 1 _ rfl
  have al := blk_lt K.out
  go_wp2_with fail
  refine (T1.out _).mono ?_
  rintro e w2 ⟨rfl, hb⟩
  clear a0 a1 al
  replace NN := Lib.hid (Bgo NN.out hb)
  clear hb
  go_wp2_with fail
  go_ret2
  exact ⟨by rw [F2.out]; rfl, NN.out⟩
 ·have F2 := Lib.hid (X.out.trans (FT.out.trans (if_neg hd)))
  clear X FT
  have hd' : (d == 1) = false := by rw [beq_eq_false_iff_ne]; exact hd
  have LA : ¬ 9223372036854775807 < tn.length + 1 := by omega
  have LB : ¬ 9223372036854775807 < tn.length + 1 + td.length := by omega
  clear hd
  go_enter Tryz.func55, Tryz.ntmps55
  go_wp2_with fail
  refine (C1.out _).mono ?_
  rintro e w1 ⟨rfl, hb⟩
  have NN := Lib.hid (Bgo (Bal (Below.refl _ _) _) hb)
  have K := Lib.hid (blk_next hb (blk_new w (.cells #[.int .i64 n, .int .i64 d] 36)))
  clear hb
  have a0 := blk_cell K.out 0 _ rfl
  have a1 := blk_cell K.out 1 _ rfl
  have al := blk_lt K.out
  go_wp2_with fail
  clear a0 a1 al
  refine region_I (S := SK [(1, w.heap.size, .cells #[.int .i64 n, .int .i64 d] 36), (5, w.heap.size, .cells #[.int .i64 n, .int .i64 d] 36)]) (by kernel_rfl) ?_
  have HAL := Lib.hid (fun (k : Nat) => (show SK [(1, w.heap.size, .cells #[.int .i64 n, .int .i64 d] 36), (5, w.heap.size, .cells #[.int .i64 n, .int .i64 d] 36)] k w1.drew from fun p hp e => by
   simp only [List.mem_cons, List.not_mem_nil, or_false] at hp
   rcases hp with rfl | rfl
   ·exact K.out
   ·exact K.out))
  replace NN := Lib.hid (Bgo NN.out (Below.drew (Below.refl w1.heap.size w1)))
  refine take_I 0 (.pointer (some ⟨w.heap.size, 0, none⟩)) (some 15) rfl (by kernel_rfl) (by kernel_rfl) (by kernel_rfl) rfl (fun _ _ _ h => h) (Or.inl ⟨by rfl, ?_⟩) (SK.drop (by simp)) ?_
  ·intro X hX
   clear hX
   go_simp
  try simp only [Act.put, zA, zB, zC]
  refine take_I 1 (.int .i64 n) (some 16) rfl (by kernel_rfl) (by kernel_rfl) (by kernel_rfl) rfl (fun _ _ _ h => h) (Or.inl ⟨by rfl, ?_⟩) (HAL.out 1) ?_
  ·intro X hX
   have hh := hX (1, w.heap.size, .cells #[.int .i64 n, .int .i64 d] 36) (List.Mem.head _) rfl
   have hh0 := blk_cell hh 0 _ rfl
   have hhl := blk_lt hh
   clear hh
   clear hX
   go_simp
  try simp only [Act.put, zA, zB, zC]
  refine take_I 4 (.pointer (some ⟨w.heap.size, 1, none⟩)) (some 19) rfl (by kernel_rfl) (by kernel_rfl) (by kernel_rfl) rfl (fun _ _ _ h => h) (Or.inl ⟨by rfl, ?_⟩) (SK.drop (by simp)) ?_
  ·intro X hX
   clear hX
   go_simp
  try simp only [Act.put, zA, zB, zC]
  refine take_I 5 (.int .i64 d) (some 20) rfl (by kernel_rfl) (by kernel_rfl) (by kernel_rfl) rfl (fun _ _ _ h => h) (Or.inl ⟨by rfl, ?_⟩) (HAL.out 5) ?_
  ·intro X hX
   have hh := hX (5, w.heap.size, .cells #[.int .i64 n, .int .i64 d] 36) (List.Mem.tail _ (List.Mem.head _)) rfl
   have hh1 := blk_cell hh 1 _ rfl
   have hhl := blk_lt hh
   clear hh
   clear hX
   go_simp
  try simp only [Act.put, zA, zB, zC]
  refine only_I 2 (by kernel_rfl) rfl (fun K' hK' => ?_)
  go_simp
  go_at_call 81
  refine (T1.out _).mono ?_
  rintro e w2 ⟨rfl, hb⟩
  replace NN := Lib.hid (Bgo NN.out hb)
  go_simp
  refine hK'.out _ _ (fun k _ hS => hS.next hb) ?_
  clear hK' K'
  try simp only [Act.put, zA, zB, zC]
  replace HAL := Lib.hid (fun k => (HAL.out k).next hb)
  refine take_I 3 (.string ((⟨tn.toArray⟩ : ByteArray) ++ ⟨#[47]⟩)) (some 18) rfl (by kernel_rfl) (by kernel_rfl) (by kernel_rfl) rfl (fun _ _ _ h => h) (Or.inl ⟨by rfl, ?_⟩) (SK.drop (by simp)) ?_
  ·intro X hX
   clear hX
   go_simp
  try simp only [Act.put, zA, zB, zC]
  refine only_I 6 (by kernel_rfl) rfl (fun K' hK' => ?_)
  go_simp
  go_at_call 81
  refine (T2.out _).mono ?_
  rintro e w3 ⟨rfl, hb⟩
  replace NN := Lib.hid (Bgo NN.out hb)
  go_simp
  refine hK'.out _ _ (fun k _ hS => hS.next hb) ?_
  clear hK' K'
  try simp only [Act.put, zA, zB, zC]
  replace HAL := Lib.hid (fun k => (HAL.out k).next hb)
  refine only_I 7 (by kernel_rfl) rfl (fun K' hK' => ?_)
  go_simp
  refine hK'.out _ _ (fun k _ h => h) ?_
  clear hK' K'
  try simp only [Act.put, zA, zB, zC]
  refine only_I 8 (by kernel_rfl) rfl (fun K' hK' => ?_)
  go_simp
  refine hK'.out _ _ (fun k _ h => h) ?_
  clear hK' K'
  try simp only [Act.put, zA, zB, zC]
  refine only_I 9 (by kernel_rfl) rfl (fun K' hK' => ?_)
  go_simp
  refine hK'.out _ _ (fun k _ h => h) ?_
  clear hK' K'
  try simp only [Act.put, zA, zB, zC]
  refine done_I (by kernel_rfl) ?_ _
  go_wp2_with fail
  go_ret2
  exact ⟨by rw [cat3b tn td, F2.out]; rfl, NN.out⟩
end Go.Proofs.YtfangplfbbgphaaGreatDoor
namespace Go.Proofs.YtfangplfbbgphaaGreatDoor
open Go.ChangeShapes Go.WideShapes Go.ChangeAt Go.RowKit
set_option linter.unusedVariables false
attribute [local go_sem ↓] Go.wp_at_zero Go.wp_at_succ
def PUP (l : List UInt8) (w : World) (e : Ending) (w' : World) : Prop := ∃ r, e = .returned (Rv r) ∧ PR l r ∧ Below w.heap.size w w'
theorem ext_take (s : ByteArray) (k : Nat) : (s.extract 0 k).data.toList = s.data.toList.take k := by simp [ByteArray.data_extract, Array.toList_extract]
theorem ext_drop (s : ByteArray) (k : Nat) : (s.extract k s.size).data.toList = s.data.toList.drop k := by
 rw [ByteArray.data_extract, Array.toList_extract, List.extract_eq_take_drop, List.take_of_length_le]
 rw [List.length_drop, s_len]
 omega
theorem split_47 {l : List UInt8} {k : Nat} {c : UInt8} (h : l[k]? = some c) (hc : c.toNat = 47) : l.take k ++ 47 :: l.drop (k + 1) = l := by
 have hb' : c = 47 := UInt8.toNat_inj.1 hc
 subst hb'
 obtain ⟨h1, h2⟩ := List.getElem?_eq_some_iff.1 h
 have := List.drop_eq_getElem_cons h1
 rw [h2] at this
 rw [← this, List.take_append_drop]
set_option maxRecDepth 100000 in
set_option maxHeartbeats 8000000 in
theorem refParse_calls (s : ByteArray) (w : World) (hs : s.size ≤ 100000) :
  Calls Tryz.prog 59 #[.string s] w (PUP s.data.toList w) := by
 have SL := s_len s
 have SG := Lib.hid (fun k (h : k < s.size) => str_get s k h)
 have T1 := Lib.hid (fun k => ext_take s k)
 have T2 := Lib.hid (fun k => ext_drop s k)
 obtain ⟨l, hl⟩ : ∃ l, s.data.toList = l := ⟨_, rfl⟩
 rw [hl] at SL SG T1 T2 ⊢
 have LE := Lib.hid SL
 clear SL
 have s2 : s.size ≤ 9223372036854775807 := by omega
 go_enter Tryz.func59, Tryz.ntmps59
 go_wp2_with fail
 have NN := Lib.hid (Bal (Below.refl w.heap.size w) (.cells #[.int .i64 0, .int .i64 0] 36))
 have K := Lib.hid (blk_new w (.cells #[.int .i64 0, .int .i64 0] 36))
 generalize w.alloc (.cells #[.int .i64 0, .int .i64 0] 36) = W0 at *
 go_loop [4] (fun i => ∃ k : Nat, k ≤ s.size ∧ i = .int .i64 k ∧ Hid (∀ (j : Nat) (c : UInt8), j < k → l[j]? = some c → c.toNat ≠ 47)) (fun i => s.size - (intOf i).toNat)
 case atStart => exact ⟨0, by omega, rfl, Lib.hid (fun j c h => by omega)⟩
 case round =>
  obtain ⟨k, hk, rfl, NO⟩ := hrel
  by_cases go : ∃ h : k < s.size, s[k].toNat ≠ 47
  ·obtain ⟨hlt, hc⟩ := go
   have e1 : ((s[k].toNat : Int) != 47) = true := by rw [bne_iff_ne]; omega
   have z1 : decide ((0 : Int) ≤ (k : Int)) = true := decide_eq_true (by omega)
   have N2 : Hid (∀ (j : Nat) (c : UInt8), j < k + 1 → l[j]? = some c → c.toNat ≠ 47) := Lib.hid (fun j c h hj => by
    by_cases e : j = k
    ·subst e
     rw [SG.out j hlt] at hj
     cases hj; exact hc
    ·exact NO.out j c (by omega) hj)
   have kk : k + 1 ≤ s.size := hlt
   clear hc NO
   go_wp2_with fail
   go_round
   case rel => exact ⟨k + 1, kk, by go_num, N2⟩
   case measure => simp [intOf]; omega
  ·have CS := Lib.hid (cut_split l k NO.out (fun h => ⟨s[k]'(by rw [← LE.out]; exact h), SG.out k _, by
    by_cases h' : (s[k]'(by rw [← LE.out]; exact h)).toNat = 47
    ·exact h'
    ·exact absurd ⟨_, h'⟩ go⟩) (by rw [LE.out]; exact hk))
   have N1 := Lib.hid (fun W => number_calls (s.extract 0 k) W (by rw [← s_len, T1.out, List.length_take]; omega))
   rw [T1.out] at N1
   clear NO
   by_cases hlt : k < s.size
   ·have e1 : ((s[k].toNat : Int) != 47) = false := by
     rw [bne_eq_false_iff_eq]
     by_cases h' : s[k].toNat = 47
     ·omega
     ·exact absurd ⟨hlt, h'⟩ go
    have S47 := Lib.hid (split_47 (SG.out k hlt) (by
     by_cases h' : s[k].toNat = 47
     ·exact h'
     ·exact absurd ⟨hlt, h'⟩ go))
    have CS1 := CS.out
    rw [decide_eq_true (show k < l.length by rw [LE.out]; exact hlt)] at CS1
    have HC := Lib.hid CS1
    have N2 := Lib.hid (fun W => number_calls (s.extract (k + 1) s.size) W (by rw [← s_len, T2.out, List.length_drop, LE.out]; omega))
    rw [T2.out] at N2
    clear CS1 CS go
    go_wp2_with fail
    refine (N1.out _).mono ?_
    rintro e w1 ⟨n, b, rfl, R1, hb⟩
    replace NN := Lib.hid (Bgo NN.out hb)
    replace K := Lib.hid (blk_next hb K.out)
    clear hb
    have HR1 := Lib.hid R1
    clear R1 N1
    have GK := blk_lt K.out
    have HB : Hid (Below w1.heap.size w1 (w1.alloc (.cells #[.int .i64 n, .int .i64 1] 36))) := Lib.hid (Bal (Below.refl _ _) _)
    have A := Lib.hid (blk_new w1 (.cells #[.int .i64 n, .int .i64 1] 36))
    replace NN := Lib.hid (Bgo NN.out HB.out)
    replace K := Lib.hid (blk_next HB.out K.out)
    have GA : Hid (w.heap.size < w1.heap.size) := Lib.hid GK
    clear HB GK
    have kk : k + 1 ≤ s.size := hlt
    have kz : (0 : Int) ≤ (k : Int) + 1 := by omega
    go_wp2_with fail
    generalize w1.alloc (.cells #[.int .i64 n, .int .i64 1] 36) = W2 at *
    generalize w1.heap.size = gA at *
    refine (N2.out _).mono ?_
    rintro e w3 ⟨d, b', rfl, R2, hb⟩
    replace NN := Lib.hid (Bgo NN.out hb)
    replace K := Lib.hid (blk_next hb K.out)
    replace A := Lib.hid (blk_next hb A.out)
    clear hb
    have RES := Lib.hid (PR.cut1 HC.out HR1.out R2 S47.out)
    have CH := Lib.hid (fun W => refCheck_calls n d W)
    clear R2 HR1 HC N2 S47
    have kc0 := blk_cell K.out 0 _ rfl
    have kc1 := blk_cell K.out 1 _ rfl
    have kf0 := blk_frozen K.out 0
    have kf1 := blk_frozen K.out 1
    have kl := blk_lt K.out
    have ac0 := blk_cell A.out 0 _ rfl
    have ac1 := blk_cell A.out 1 _ rfl
    have af0 := blk_frozen A.out 0
    have af1 := blk_frozen A.out 1
    have al := blk_lt A.out
    have hgA := GA.out
    have gne : gA ≠ w.heap.size := by omega
    have K3 := Lib.hid (blk_set_other K.out gne 1 (.int .i64 d))
    have A3 := Lib.hid (blk_set A.out 1 (.int .i64 d))
    have N3 := Lib.hid (Bset1 NN.out (show w.heap.size ≤ gA by omega) 1 (.int .i64 d))
    cases b with
    | false =>
     have PB : Hid (PR l (0, 0, 12)) := Lib.hid (by have := RES.out; rwa [if_neg (fun h => absurd h.1.1 (by decide))] at this)
     clear RES CH
     go_wp2_with fail
     have e1 := blk_cell (blk_set (blk_set (K3.out) 0 (.int .i64 0)) 1 (.int .i64 0)) 0 _ rfl
     have e2 := blk_cell (blk_set (blk_set (K3.out) 0 (.int .i64 0)) 1 (.int .i64 0)) 1 _ rfl
     exact bodyPost_ret (v := Rv (0, 0, 12)) (by simp [results, Tryz.results59, go_sem, e1, e2]) rfl ⟨_, rfl, PB.out, Bset1 (Bset1 (N3.out) (Nat.le_refl _) _ _) (Nat.le_refl _) _ _⟩
    | true =>
    cases b' with
    | false =>
     have PB : Hid (PR l (0, 0, 12)) := Lib.hid (by have := RES.out; rwa [if_neg (fun h => absurd h.1.2.1 (by decide))] at this)
     clear RES CH
     go_wp2_with fail
     have e1 := blk_cell (blk_set (blk_set (K3.out) 0 (.int .i64 0)) 1 (.int .i64 0)) 0 _ rfl
     have e2 := blk_cell (blk_set (blk_set (K3.out) 0 (.int .i64 0)) 1 (.int .i64 0)) 1 _ rfl
     exact bodyPost_ret (v := Rv (0, 0, 12)) (by simp [results, Tryz.results59, go_sem, e1, e2]) rfl ⟨_, rfl, PB.out, Bset1 (Bset1 (N3.out) (Nat.le_refl _) _ _) (Nat.le_refl _) _ _⟩
    | true =>
    by_cases c1 : 1 < d
    rotate_left
    ·have d1 : decide ((1 : Int) < d) = false := decide_eq_false c1
     have PB : Hid (PR l (0, 0, 12)) := Lib.hid (by have := RES.out; rwa [if_neg (fun h => c1 h.1.2.2)] at this)
     clear RES CH
     go_wp2_with fail
     have e1 := blk_cell (blk_set (blk_set (K3.out) 0 (.int .i64 0)) 1 (.int .i64 0)) 0 _ rfl
     have e2 := blk_cell (blk_set (blk_set (K3.out) 0 (.int .i64 0)) 1 (.int .i64 0)) 1 _ rfl
     exact bodyPost_ret (v := Rv (0, 0, 12)) (by simp [results, Tryz.results59, go_sem, e1, e2]) rfl ⟨_, rfl, PB.out, Bset1 (Bset1 (N3.out) (Nat.le_refl _) _ _) (Nat.le_refl _) _ _⟩
    have d1 : decide ((1 : Int) < d) = true := decide_eq_true c1
    by_cases ck : errF n d = 0
    rotate_left
    ·have ck' : (errF n d != 0) = true := by rw [bne_iff_ne]; exact ck
     have PB : Hid (PR l (0, 0, 12)) := Lib.hid (by have := RES.out; rwa [if_neg (fun h => ck h.2)] at this)
     generalize errF n d = er at *
     clear RES ck
     go_wp2_with fail
     refine (CH.out _).mono ?_
     rintro e w5 ⟨rfl, hb⟩
     have K5 := Lib.hid (blk_next hb (K3.out))
     have N5 := Lib.hid (Bgo (N3.out) hb)
     clear hb
     clear kc0 kc1 kf0 kf1 kl ac0 ac1 af0 af1 al
     have k5c0 := blk_cell K5.out 0 _ rfl
     have k5c1 := blk_cell K5.out 1 _ rfl
     have k5f0 := blk_frozen K5.out 0
     have k5f1 := blk_frozen K5.out 1
     have k5l := blk_lt K5.out
     go_wp2_with fail
     have e1 := blk_cell (blk_set (blk_set (K5.out) 0 (.int .i64 0)) 1 (.int .i64 0)) 0 _ rfl
     have e2 := blk_cell (blk_set (blk_set (K5.out) 0 (.int .i64 0)) 1 (.int .i64 0)) 1 _ rfl
     exact bodyPost_ret (v := Rv (0, 0, 12)) (by simp [results, Tryz.results59, go_sem, e1, e2]) rfl ⟨_, rfl, PB.out, Bset1 (Bset1 (N5.out) (Nat.le_refl _) _ _) (Nat.le_refl _) _ _⟩
    have PB : Hid (PR l (n, d, 0)) := Lib.hid (by have := RES.out; rwa [if_pos ⟨⟨rfl, rfl, c1⟩, ck⟩] at this)
    rw [ck] at CH
    clear RES ck
    go_wp2_with fail
    refine (CH.out _).mono ?_
    rintro e w5 ⟨rfl, hb⟩
    have K5 := Lib.hid (blk_next hb (K3.out))
    have A5 := Lib.hid (blk_next hb (A3.out))
    have N5 := Lib.hid (Bgo (N3.out) hb)
    clear hb
    clear kc0 kc1 kf0 kf1 kl ac0 ac1 af0 af1 al
    have k5c0 := blk_cell K5.out 0 _ rfl
    have k5c1 := blk_cell K5.out 1 _ rfl
    have k5f0 := blk_frozen K5.out 0
    have k5f1 := blk_frozen K5.out 1
    have k5l := blk_lt K5.out
    have a5c0 := blk_cell A5.out 0 _ rfl
    have a5c1 := blk_cell A5.out 1 _ rfl
    have a5l := blk_lt A5.out
    go_wp2_with fail
    have e1 := blk_cell (blk_set (blk_set (K5.out) 0 (.int .i64 n)) 1 (.int .i64 d)) 0 _ rfl
    have e2 := blk_cell (blk_set (blk_set (K5.out) 0 (.int .i64 n)) 1 (.int .i64 d)) 1 _ rfl
    exact bodyPost_ret (v := Rv (n, d, 0)) (by simp [results, Tryz.results59, go_sem, e1, e2]) rfl ⟨_, rfl, PB.out, Bset1 (Bset1 (N5.out) (Nat.le_refl _) _ _) (Nat.le_refl _) _ _⟩
   ·have CS1 := CS.out
    rw [decide_eq_false (show ¬ k < l.length by rw [LE.out]; exact hlt)] at CS1
    have HC := Lib.hid CS1
    have TK : Hid (l.take k = l) := Lib.hid (by rw [List.take_of_length_le (by rw [LE.out]; omega)])
    clear CS1 CS go
    have ke : decide (k < s.size) = false := decide_eq_false (by omega)
    go_wp2_with fail
    refine (N1.out _).mono ?_
    rintro e w1 ⟨n, b, rfl, R1, hb⟩
    replace NN := Lib.hid (Bgo NN.out hb)
    replace K := Lib.hid (blk_next hb K.out)
    clear hb
    have RES := Lib.hid (PR.cut0 HC.out R1 TK.out)
    have CH := Lib.hid (fun W => refCheck_calls n 1 W)
    clear R1 N1 HC TK
    have GK := blk_lt K.out
    cases b with
    | false =>
     have PB : Hid (PR l (0, 0, 12)) := Lib.hid (by have := RES.out; rwa [if_neg (fun h => absurd h.1 (by decide))] at this)
     clear RES CH
     have kc0 := blk_cell K.out 0 _ rfl
     have kc1 := blk_cell K.out 1 _ rfl
     have kf0 := blk_frozen K.out 0
     have kf1 := blk_frozen K.out 1
     have kl := blk_lt K.out
     go_wp2_with fail
     have e1 := blk_cell (blk_alloc (blk_set (blk_set K.out 0 (.int .i64 0)) 1 (.int .i64 0)) (.cells #[.int .i64 n, .int .i64 1] 36)) 0 _ rfl
     have e2 := blk_cell (blk_alloc (blk_set (blk_set K.out 0 (.int .i64 0)) 1 (.int .i64 0)) (.cells #[.int .i64 n, .int .i64 1] 36)) 1 _ rfl
     exact bodyPost_ret (v := Rv (0, 0, 12)) (by simp [results, Tryz.results59, go_sem, e1, e2]) rfl ⟨_, rfl, PB.out, Bal (Bset1 (Bset1 NN.out (Nat.le_refl _) _ _) (Nat.le_refl _) _ _) _⟩
    | true =>
    have HB : Hid (Below w1.heap.size w1 (w1.alloc (.cells #[.int .i64 n, .int .i64 1] 36))) := Lib.hid (Bal (Below.refl _ _) _)
    have A := Lib.hid (blk_new w1 (.cells #[.int .i64 n, .int .i64 1] 36))
    replace NN := Lib.hid (Bgo NN.out HB.out)
    replace K := Lib.hid (blk_next HB.out K.out)
    have GA : Hid (w.heap.size < w1.heap.size) := Lib.hid GK
    clear HB GK
    have kc0 := blk_cell K.out 0 _ rfl
    have kc1 := blk_cell K.out 1 _ rfl
    have kf0 := blk_frozen K.out 0
    have kf1 := blk_frozen K.out 1
    have kl := blk_lt K.out
    have ac0 := blk_cell A.out 0 _ rfl
    have ac1 := blk_cell A.out 1 _ rfl
    have af0 := blk_frozen A.out 0
    have af1 := blk_frozen A.out 1
    have al := blk_lt A.out
    have hgA := GA.out
    by_cases ck : errF n 1 = 0
    rotate_left
    ·have ck' : (errF n 1 != 0) = true := by rw [bne_iff_ne]; exact ck
     have PB : Hid (PR l (0, 0, 12)) := Lib.hid (by have := RES.out; rwa [if_neg (fun h => ck h.2)] at this)
     generalize errF n 1 = er at *
     clear RES ck
     go_wp2_with fail
     refine (CH.out _).mono ?_
     rintro e w5 ⟨rfl, hb⟩
     have K5 := Lib.hid (blk_next hb (K.out))
     have N5 := Lib.hid (Bgo (NN.out) hb)
     clear hb
     clear kc0 kc1 kf0 kf1 kl ac0 ac1 af0 af1 al
     have k5c0 := blk_cell K5.out 0 _ rfl
     have k5c1 := blk_cell K5.out 1 _ rfl
     have k5f0 := blk_frozen K5.out 0
     have k5f1 := blk_frozen K5.out 1
     have k5l := blk_lt K5.out
     go_wp2_with fail
     have e1 := blk_cell (blk_set (blk_set (K5.out) 0 (.int .i64 0)) 1 (.int .i64 0)) 0 _ rfl
     have e2 := blk_cell (blk_set (blk_set (K5.out) 0 (.int .i64 0)) 1 (.int .i64 0)) 1 _ rfl
     exact bodyPost_ret (v := Rv (0, 0, 12)) (by simp [results, Tryz.results59, go_sem, e1, e2]) rfl ⟨_, rfl, PB.out, Bset1 (Bset1 (N5.out) (Nat.le_refl _) _ _) (Nat.le_refl _) _ _⟩
    have PB : Hid (PR l (n, 1, 0)) := Lib.hid (by have := RES.out; rwa [if_pos ⟨rfl, ck⟩] at this)
    rw [ck] at CH
    clear RES ck
    go_wp2_with fail
    refine (CH.out _).mono ?_
    rintro e w5 ⟨rfl, hb⟩
    have K5 := Lib.hid (blk_next hb (K.out))
    have A5 := Lib.hid (blk_next hb (A.out))
    have N5 := Lib.hid (Bgo (NN.out) hb)
    clear hb
    clear kc0 kc1 kf0 kf1 kl ac0 ac1 af0 af1 al
    have k5c0 := blk_cell K5.out 0 _ rfl
    have k5c1 := blk_cell K5.out 1 _ rfl
    have k5f0 := blk_frozen K5.out 0
    have k5f1 := blk_frozen K5.out 1
    have k5l := blk_lt K5.out
    have a5c0 := blk_cell A5.out 0 _ rfl
    have a5c1 := blk_cell A5.out 1 _ rfl
    have a5l := blk_lt A5.out
    go_wp2_with fail
    have e1 := blk_cell (blk_set (blk_set (K5.out) 0 (.int .i64 n)) 1 (.int .i64 1)) 0 _ rfl
    have e2 := blk_cell (blk_set (blk_set (K5.out) 0 (.int .i64 n)) 1 (.int .i64 1)) 1 _ rfl
    exact bodyPost_ret (v := Rv (n, 1, 0)) (by simp [results, Tryz.results59, go_sem, e1, e2]) rfl ⟨_, rfl, PB.out, Bset1 (Bset1 (N5.out) (Nat.le_refl _) _ _) (Nat.le_refl _) _ _⟩
end Go.Proofs.YtfangplfbbgphaaGreatDoor
