/- Several texts in one. -/
import Derived.Test.YtapehckcmmompaaM24
import Derived.Test.YtapehckcmmompaaM27
import Derived.Test.YtapehckcmmompaaM31
namespace Go.Proofs.Ytapehckcmmompaa
open Go.ChangeShapes Go.WideShapes Go.ChangeAt Go.RowKit
set_option linter.unusedVariables false
set_option maxRecDepth 100000
theorem strp_set (ds : List Dk) (i j : Nat) (x : Dk) : strp (ds.set i x) j = (strp ds j).set i (if x.failed then [] else x.blocks.getD j []) := by
 unfold strp; rw [List.map_set]
structure Bad (D P n : Nat) (ds : List Dk) (os : List Ob) (i k a y : Nat) (x : Dk) (l : List Nat) (ts : List Dk) : Prop where
 chk : chS D P ts os = 0
 len : ts.length = ds.length
 scrE : scrE D P ts os = 0
 scrR : scrR D P ts os = if P = 0 then [] else [(k : Int)]
 chkE : chkE D P (strp ts k) = 0
 snd : sdB D P (strp ts k) = decide (P = 0)
 m0 : P = 0 → menE D P ts os (k : Int) = 0 ∧ menD D P ts os (k : Int) = -1 ∧ menS D P ts os (k : Int) = ((D : Int), (P : Int), ts, os)
 m1 : P = 1 → menE D P ts os (k : Int) = 6
 m2 : 2 ≤ P → menE D P ts os (k : Int) = 0 ∧ menD D P ts os (k : Int) = i ∧ menS D P ts os (k : Int) = ((D : Int), (P : Int), ds, os)
theorem mends_facts {D P n : Nat} {T : Nat → List (List Nat)} {ds : List Dk} {os : List Ob} (G : Gd D P n T ds os) (f0 : faN ds = 0) {i k a y : Nat} (hi : i < ds.length) (hk : k < n) (ha : a < 8) (hy0 : y ≠ 0) (hy : y < 256) :
  ∃ (x : Dk) (l : List Nat), ds[i]? = some x ∧ x.blocks[k]? = some l ∧ l.length = 8 ∧ Byt l ∧ Bad D P n ds os i k a y x l (ds.set i ⟨x.failed, x.blocks.set k (l.set a (l.getD a 0 ^^^ y))⟩) := by
 obtain ⟨x, hx⟩ := get_some hi
 have hf := faN_zero f0 hx
 have hb := G.wh.blk hx hf hk
 have hfit := G.wh.fit i x hx hf
 have hlk : k < x.blocks.length := by rw [hfit]; simp; exact hk
 obtain ⟨l, hl⟩ := get_some hlk
 have el : (enc (T k) P).getD i [] = l := by rw [← hb, List.getD_eq_getElem?_getD, hl]; rfl
 have hlen := G.wh.len
 obtain ⟨r8, rb⟩ := G.wh.row hk (show i < D + P by omega)
 rw [el] at r8 rb
 obtain ⟨o, bt, et⟩ := G.wh.ok k hk
 have W : Wrong (T k) 8 P i a y := ⟨o, bt, G.wh.p4, by rw [et]; omega, ha, hy0, hy⟩
 have s0 : ∀ j, j < n → strp ds j = enc (T j) P := fun j hj => G.wh.whole f0 hj
 generalize hts : ds.set i ⟨x.failed, x.blocks.set k (l.set a (l.getD a 0 ^^^ y))⟩ = ts
 have sk : strp ts k = chg (enc (T k) P) i a y := by
  rw [← hts, strp_set, s0 k hk, hf]
  unfold chg chgL
  rw [el]
  simp only [Bool.false_eq_true, if_false]
  rw [List.getD_eq_getElem?_getD, List.getElem?_set, if_pos rfl, if_pos hlk, Option.getD_some]
 have sj : ∀ j, j < n → j ≠ k → strp ts j = enc (T j) P := fun j hj hne => by
  rw [← hts, strp_set, s0 j hj, hf]
  simp only [Bool.false_eq_true, if_false]
  have e : (x.blocks.set k (l.set a (l.getD a 0 ^^^ y))).getD j [] = (enc (T j) P).getD i [] := by
   rw [List.getD_eq_getElem?_getD, List.getElem?_set_ne (fun h => hne h.symm), ← List.getD_eq_getElem?_getD, G.wh.blk hx hf hj]
  rw [e]
  refine dk_set_same ?_
  have : i < (enc (T j) P).length := by obtain ⟨_, _, ej⟩ := G.wh.ok j hj; rw [enc_len, ej]; omega
  rw [List.getElem?_eq_getElem this, List.getD_eq_getElem?_getD, List.getElem?_eq_getElem this, Option.getD_some]
 have OK := G.ok
 have tl : ts.length = ds.length := by rw [← hts, List.length_set]
 have fa : faN ts = 0 := by
  have := faN_set (y := ⟨x.failed, x.blocks.set k (l.set a (l.getD a 0 ^^^ y))⟩) hx
  rw [hts] at this
  simp only [hf, Bool.false_eq_true, if_false, Nat.add_zero] at this
  omega
 have OKt : OkS D P ts os := by
  refine ⟨OK.d1, OK.d8, OK.p0, OK.p4, by rw [tl]; exact OK.len, OK.n16, OK.des, OK.sm, fun h => by rw [fa, tl, hlen]; have := G.d1; omega, fun z hz => ?_⟩
  obtain ⟨j, hj⟩ := List.mem_iff_getElem?.1 hz
  rw [← hts] at hj
  rcases set_get hj with ⟨_, rfl, _⟩ | ⟨_, hj'⟩
  ·have h1 := OK.dk x (List.mem_of_getElem? hx)
   unfold dkB at h1 ⊢
   rw [hf] at h1 ⊢
   simp only [Bool.false_eq_true, if_false, Bool.and_eq_true, List.length_set, List.all_eq_true, decide_eq_true_eq] at h1 ⊢
   refine ⟨h1.1, fun b hb => ?_⟩
   rcases List.mem_or_eq_of_mem_set hb with h2 | h2
   ·exact h1.2 b h2
   ·rw [h2, List.length_set, r8]
  ·exact OK.dk z (List.mem_of_getElem? hj')
 have ck : chkE D P (strp ts k) = 0 := strp_chk OKt (by rw [G.str]; omega)
 have r1 : 1 ≤ P → resE D P (strp ts k) = 30 := fun h => by rw [sk]; have := W.res h; rwa [et] at this
 have r0 : P = 0 → resE D P (strp ts k) = 0 := fun h => by
  subst h
  have h1 := W.sound0
  unfold sndB at h1
  simp only [Bool.and_eq_true, decide_eq_true_eq] at h1
  rw [et] at h1
  unfold resE
  rw [if_pos ck, Int.toNat_natCast, sk]
  exact h1.2
 have rj : ∀ j, j < n → j ≠ k → resE D P (strp ts j) = 0 := fun j hj hne => by
  rw [sj j hj hne, ← s0 j hj]; exact (G.wh.res hj (by rw [f0]; omega)).1
 have se : scrE D P ts os = 0 := by unfold Go.Proofs.Ytapehckcmmompaa.scrE; rw [if_pos OKt.chk, fa, if_neg (by omega)]
 have e0 : ∀ z, fndV D P (strp ts k) = z → menE D P ts os (k : Int) = z.2 := fun z hz => by rw [menE_at OKt.chk (by rw [G.str]; omega), hz]
 refine ⟨x, l, hx, hl, r8, rb, ?_⟩
 rw [hts]
 refine ⟨OKt.chk, tl, se, ?_, ck, ?_, fun h => ?_, fun h => ?_, fun h => ?_⟩
 ·unfold Go.Proofs.Ytapehckcmmompaa.scrR
  rw [if_pos se, G.str, Int.toNat_natCast]
  unfold scrL
  by_cases hP : P = 0
  ·rw [if_pos hP, List.filter_eq_nil_iff.2 (fun j hj => ?_), List.map_nil]
   by_cases e : j = k
   ·subst e; rw [r0 hP]; decide
   ·rw [rj j (List.mem_range.1 hj) e]; decide
  ·rw [if_neg hP]
   have : (List.range n).filter (fun j => !decide (resE D P (strp ts j) = 0)) = [k] := by
    have h1 : (List.range n).filter (fun j => !decide (resE D P (strp ts j) = 0)) = (List.range n).filter (fun j => decide (j = k)) := List.filter_congr fun j hj => by
     by_cases e : j = k
     ·subst e; rw [r1 (by omega)]; simp
     ·rw [rj j (List.mem_range.1 hj) e]; simp [e]
    rw [h1]
    have : ∀ m, k < m → (List.range m).filter (fun j => decide (j = k)) = [k] := fun m => by
     induction m with
     | zero => omega
     | succ m ih =>
      intro hm
      rw [List.range_succ, List.filter_append]
      by_cases e : m = k
      ·subst e
       rw [List.filter_eq_nil_iff.2 (fun j hj => by have := List.mem_range.1 hj; simp; omega)]
       simp
      ·rw [ih (by omega)]; simp [e]
    exact this n hk
   rw [this]; rfl
 ·unfold sdB
  rw [ck, decide_eq_true rfl, Bool.true_and, Int.toNat_natCast, Int.toNat_natCast, sk]
  by_cases hP : P = 0
  ·subst hP; have := W.sound0; rw [et] at this; rw [this]; rfl
  ·have := W.sound1 (by omega); rw [et] at this; rw [this, decide_eq_false hP]
 ·subst h
  have hv : fndV D (0 : Nat) (strp ts k) = (-1, 0) := by rw [sk]; have := W.find0; rwa [et] at this
  have h1 := e0 _ hv
  obtain ⟨h2, h3⟩ := men_sound (k := k) h1 (by rw [hv]; decide)
  exact ⟨h1, by rw [h3, hv], h2⟩
 ·subst h
  have hv : fndV D (1 : Nat) (strp ts k) = (0, 6) := by rw [sk]; have := W.find1; rwa [et] at this
  exact e0 _ hv
 ·have hv : fndV D P (strp ts k) = ((i : Int), 0) := by rw [sk]; have := W.find2 h; rwa [et] at this
  have h1 := e0 _ hv
  obtain ⟨h2, h3⟩ := men_wrong (k := k) (n := i) h1 (by rw [hv])
  refine ⟨h1, h3, ?_⟩
  rw [h2]
  have fm : Fit (keepL (chg (enc (T k) P) i a y) (oneB i)) (enc (T k) P) := ⟨by rw [keepL_len, chg_len], fun j => by
   rw [keepL_getD]
   by_cases e : j = i
   ·left; simp [oneB, e]
   ·right; simp only [oneB, e, decide_false, Bool.false_eq_true, if_false]; exact W.other e⟩
  have rb := (res_back o bt G.wh.p4 fm (Nat.le_trans (W.outLost i) (by omega))).2
  rw [et] at rb
  have em : menL D P ts k i = l := by unfold menL; rw [sk, goneB_one, rb]; exact el
  have hti : ts[i]? = some ⟨x.failed, x.blocks.set k (l.set a (l.getD a 0 ^^^ y))⟩ := by rw [← hts]; exact dk_set_get _ hi
  unfold menDs
  rw [em, List.getD_eq_getElem?_getD, hti, Option.getD_some]
  simp only [List.set_set]
  rw [← hts, List.set_set, dk_set_same hl]
  have : (⟨x.failed, x.blocks⟩ : Dk) = x := rfl
  rw [this, dk_set_same hx]
end Go.Proofs.Ytapehckcmmompaa
namespace Go.Proofs.Ytapehckcmmompaa
open Go.ChangeShapes Go.WideShapes Go.ChangeAt Go.RowKit
set_option linter.unusedVariables false
set_option maxRecDepth 100000
structure At (B : Nat) (W : World) (A3 : Option Addr) (np : Nat) (us : List (List Value)) (ds : List Dk) (i k a : Nat) (x : Dk) (l : List Nat) (g gt gr cy cr : Nat) (u : List Value) : Prop where
 top : A3 = some ⟨g, 0, none⟩
 np : np = ds.length
 c1 : W.cell? ⟨g, i * 2 + 1, none⟩ = some (.slice (some ⟨gt, 0, none⟩) x.blocks.length cy)
 l1 : g < W.heap.size
 c2 : W.cell? ⟨gt, k, none⟩ = some (.slice (some ⟨gr, 0, none⟩) l.length cr)
 l2 : gt < W.heap.size
 c3 : W.cell? ⟨gr, a, none⟩ = some (.int .u8 ((l.getD a 0 : Nat) : Int))
 f3 : W.frozen? ⟨gr, a, none⟩ = false
 l3 : gr < W.heap.size
 b3 : B ≤ gr
 hu : us[i]? = some u
 hr : u[k]? = some (.slice (some ⟨gr, 0, none⟩) l.length cr)
 row : W.ownsRow B 5 1 (.slice (some ⟨gr, 0, none⟩) l.length cr) l.length (bv l)
 oth : ∀ (b : Nat) (cs : Array Value) (t : TypeId), W.heap[b]? = some (.cells cs t) → 5 ≠ t → gr ≠ b
theorem os_at {B : Nat} {W : World} {A3 : Option Addr} {np c3 : Nat} {hs : List Value} {us : List (List Value)} {ds : List Dk} (O : OS B W (.slice A3 np c3) hs us ds) {i k a : Nat} {x : Dk} {l : List Nat} (hd : ds[i]? = some x) (hl : x.blocks[k]? = some l) (ha : a < l.length) :
  ∃ (g gt gr cy cr : Nat) (u : List Value), At B W A3 np us ds i k a x l g gt gr cy cr u := by
 have hn : np = ds.length := by
  obtain ⟨A', c', e, _⟩ := own_form2 O.top
  simp only [Value.slice.injEq] at e; exact e.2.1
 subst hn
 obtain ⟨g, Ay, nk, cy, u, rfl, hy, hu, _⟩ := os_head O (get_lt hd)
 obtain ⟨c1, l1⟩ := os_cell O hy
 have R := O.row i x _ u hd hy hu
 obtain ⟨A', c', e, _⟩ := own_form R.top
 simp only [Value.slice.injEq] at e
 obtain ⟨-, rfl, -⟩ := e
 obtain ⟨gt, Ar, nr, cr, rfl, hr, c2, l2, _⟩ := os_row O hy hu (get_lt hl)
 have ro := R.row k _ l hr hl
 obtain ⟨A', c', e, _⟩ := own_form ro
 simp only [Value.slice.injEq] at e
 obtain ⟨-, rfl, -⟩ := e
 obtain ⟨gr, x', rfl, hx, c3, f3, l3, b3, _, oth⟩ := os_byte O hy hu hr ha
 have hx2 : l[a]? = some (l.getD a 0) := by rw [List.getElem?_eq_getElem ha, List.getD_eq_getElem?_getD, List.getElem?_eq_getElem ha]; rfl
 obtain ⟨gr', e', h1, _, _⟩ := own_cell2 ro (bv_get hx2)
 injection e' with e'
 injection e' with e'
 subst e'
 exact ⟨g, gt, gr, cy, cr, u, rfl, rfl, c1, l1, c2, l2, h1, f3, l3, b3, hu, hr, ro, oth⟩
theorem OO.u8 {B B' : Nat} {W : World} {g n cap i : Nat} {x v : Value} {xs : List Value} {os : List Ob} (h : OO B' W v os) (ht : W.ownsRow B 5 1 (.slice (some ⟨g, 0, none⟩) n cap) n xs) : OO B' (W.setCell ⟨g, i, none⟩ x) v os :=
 own_same h fun g' cs _ hh => (blk_set_other hh (fun e => own_ne ht hh ne_u8_ob (by rw [e]; rfl)) _ _).trans hh.symm
theorem ri_own {B : Nat} {w : World} {A : Option Addr} {c : Nat} {l : List Int} (h : w.ownsRow B 3 1 (.slice A l.length c) l.length (ivI l)) : RI B w A l := Hd.of_own h
end Go.Proofs.Ytapehckcmmompaa
