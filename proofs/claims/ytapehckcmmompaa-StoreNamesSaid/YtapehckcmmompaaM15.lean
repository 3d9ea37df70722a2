/- Several texts in one. -/
import Derived.Test.YtapehckcmmompaaM11
import Derived.Test.YtapehckcmmompaaM14
namespace Go.Proofs.Ytapehckcmmompaa
open Go.ChangeShapes Go.WideShapes Go.ChangeAt Go.RowKit
set_option linter.unusedVariables false
set_option maxRecDepth 100000
theorem putE_bad {d p : Int} {ds : List Dk} {os : List Ob} {nm : ByteArray} {b : List Nat} (h : chS d p ds os ≠ 0) : putE d p ds os nm b = chS d p ds os := if_neg h
theorem putE_name {d p : Int} {ds : List Dk} {os : List Ob} {nm : ByteArray} {b : List Nat} (h : chS d p ds os = 0) (h1 : namB nm.data.toList = false) : putE d p ds os nm b = 8 := by unfold putE; rw [if_pos h, if_neg (by rw [h1]; decide)]
theorem putE_twice {d p : Int} {ds : List Dk} {os : List Ob} {nm : ByteArray} {b : List Nat} (h : chS d p ds os = 0) (h1 : namB nm.data.toList = true) (h2 : 0 ≤ findL os nm.toList) : putE d p ds os nm b = 14 := by unfold putE; rw [if_pos h, if_pos h1, if_pos h2]
theorem putE_many {d p : Int} {ds : List Dk} {os : List Ob} {nm : ByteArray} {b : List Nat} (h : chS d p ds os = 0) (h1 : namB nm.data.toList = true) (h2 : ¬ 0 ≤ findL os nm.toList) (h3 : 16 ≤ os.length ∨ 256 < b.length) : putE d p ds os nm b = 4 := by unfold putE; rw [if_pos h, if_pos h1, if_neg h2, if_pos h3]
theorem putE_lost {d p : Int} {ds : List Dk} {os : List Ob} {nm : ByteArray} {b : List Nat} (h : chS d p ds os = 0) (h1 : namB nm.data.toList = true) (h2 : ¬ 0 ≤ findL os nm.toList) (h3 : ¬ (16 ≤ os.length ∨ 256 < b.length)) (h4 : p < (faN ds : Int)) : putE d p ds os nm b = 32 := by unfold putE; rw [if_pos h, if_pos h1, if_neg h2, if_neg h3, if_pos h4]
theorem putE_ok {d p : Int} {ds : List Dk} {os : List Ob} {nm : ByteArray} {b : List Nat} (h : chS d p ds os = 0) (h1 : namB nm.data.toList = true) (h2 : ¬ 0 ≤ findL os nm.toList) (h3 : ¬ (16 ≤ os.length ∨ 256 < b.length)) (h4 : ¬ p < (faN ds : Int)) : putE d p ds os nm b = 0 := by unfold putE; rw [if_pos h, if_pos h1, if_neg h2, if_neg h3, if_neg h4]
theorem putS_bad {d p : Int} {ds : List Dk} {os : List Ob} {nm : ByteArray} {b : List Nat} {er : Int} (h : putE d p ds os nm b = er) (h0 : er ≠ 0) : putS d p ds os nm b = noS := by unfold putS; rw [h]; exact if_neg h0
theorem putS_ok {d p : Int} {ds : List Dk} {os : List Ob} {nm : ByteArray} {b : List Nat} (h : putE d p ds os nm b = 0) : putS d p ds os nm b = (d, p, putDs d.toNat p.toNat (padB d b) (manyL d b) ds, os ++ [newO d os nm b]) := by unfold putS; rw [h]; exact if_pos rfl
theorem rowsL_len (d : Nat) (q : List Nat) (k : Nat) : (rowsL d q k).length = d := by simp [rowsL]
theorem rowsL_get {d : Nat} {q : List Nat} {k i : Nat} (h : i < d) : (rowsL d q k)[i]? = some ((q.drop ((k * d + i) * 8)).take 8) := by simp [rowsL, h]
theorem row_fit {d mn k i : Nat} (hk : k < mn) (hi : i < d) : (k * d + i) * 8 + 8 ≤ mn * 8 * d := by
 have h1 : (k + 1) * d ≤ mn * d := Nat.mul_le_mul_right d hk
 have h2 : (k + 1) * d = k * d + d := by rw [Nat.add_mul, Nat.one_mul]
 have h3 : mn * 8 * d = mn * d * 8 := by rw [Nat.mul_assoc, Nat.mul_comm 8 d, ← Nat.mul_assoc]
 omega
theorem rowsL_each {d mn k : Nat} {q : List Nat} (hq : q.length = mn * 8 * d) (hk : k < mn) : ∀ l ∈ rowsL d q k, l.length = 8 := fun l hl => by
 obtain ⟨i, hi, rfl⟩ := List.mem_map.1 hl
 have := row_fit hk (List.mem_range.1 hi)
 simp only [List.length_take, List.length_drop]; omega
theorem encE_zero {d : List (List Nat)} {n : Nat} {M : Int} (h : OkD d n) (h0 : 0 ≤ M) (h4 : M ≤ 4) : encE d M = 0 := by
 have e0 : (d.getD 0 []).length = n := by
  obtain ⟨l, hl⟩ := get_some (show 0 < d.length from h.d1)
  rw [getD_of hl]; exact h.each l (List.mem_of_getElem? hl)
 have := h.d8; have := h.d1; have := h.n1; have := h.n64
 unfold encE
 rw [if_neg (by omega), if_neg (by omega), if_neg (by omega), if_pos]
 unfold allE
 rw [List.all_eq_true]
 intro l hl
 rw [e0, h.each l hl]; simp
theorem padL_len {b : List Nat} {n : Nat} (h : b.length ≤ n) : (padL b n).length = n := by simp [padL]; omega
theorem padL_byt {b : List Nat} {n : Nat} (h : Byt b) : Byt (padL b n) := fun x hx => by
 rcases List.mem_append.1 hx with h1 | h1
 ·exact h x h1
 ·rw [(List.mem_replicate.1 h1).2]; omega
theorem ned_fit {n d : Nat} (h1 : 1 ≤ d) (h8 : d ≤ 8) (hn : n ≤ 256) : ∃ mn : Nat, ned n d = (mn : Int) ∧ mn ≤ 38 ∧ n ≤ mn * 8 * d := by
 have hb := ned_bd (n := n) (d := d) (by omega) (by omega) (by omega) (by omega)
 refine ⟨(ned n d).toNat, by omega, by omega, ?_⟩
 have e := Int.emod_add_mul_ediv ((n : Int) + 8 * d - 1) (8 * d)
 have e2 := Int.emod_lt_of_pos ((n : Int) + 8 * d - 1) (show 0 < 8 * (d : Int) by omega)
 have e3 : ((n : Int) + 8 * d - 1) / (8 * d) = ned n d := rfl
 rw [e3] at e
 have e4 : ned n d = ((ned n d).toNat : Int) := by omega
 generalize (ned n d).toNat = t at *
 rw [e4] at e
 generalize ((n : Int) + 8 * d - 1) % (8 * d) = r at *
 have : (t : Int) * 8 * d = 8 * d * t := by grind
 have : (n : Int) ≤ ((t * 8 * d : Nat) : Int) := by push_cast; omega
 omega
theorem putDk_failed (d p : Nat) (q : List Nat) (k i : Nat) (x : Dk) : (putDk d p q k i x).failed = x.failed := by
 unfold putDk; split
 ·rfl
 ·rename_i h; simpa using h
theorem putDk_len {d p : Nat} {q : List Nat} {k i : Nat} {x : Dk} (h : x.failed = false) : (putDk d p q k i x).blocks.length = x.blocks.length + k := by simp [putDk, h]
theorem putM_more {d p : Nat} {q : List Nat} {k n : Nat} {ds : List Dk} {x : Dk} {l : List Nat} (hx : ds[n]? = some x) (hf : x.failed = false) (hl : (enc (rowsL d q k) p)[n]? = some l) :
  (putM d p q k n ds).set n ⟨(putDk d p q k n x).failed, (putDk d p q k n x).blocks ++ [l]⟩ = putM d p q k (n + 1) ds := by
 rw [putM_step hx, putDk_succ hf, List.getD_eq_getElem?_getD, hl, Option.getD_some]
theorem OS.more2 {B : Nat} {W W1 : World} {g n cap i : Nat} {x x' r : Value} {hs : List Value} {us : List (List Value)} {ds : List Dk} {d : Dk} {u : List Value} {l : List Nat} (h : OS B W (.slice (some ⟨g, 0, none⟩) n cap) hs us ds) (har : ∀ (j a : Nat) (q : List Value) (y : Value) (t : Nat), us[j]? = some q → q[a]? = some y → y.ownBlock = some t → r.ownBlock = some t → False)
  (hd : ds[i]? = some d) (hh : hs[i]? = some x) (hu : us[i]? = some u) (hr : OB B W r l) (hl : Byt l)
  (hown : W1.ownsRow B 26 1 x' (d.blocks.length + 1) (u ++ [r])) (hg : W.grownBy W1 x.ownBlock) (hat : x'.ownBlock = x.ownBlock ∨ x'.ownBlock = some W.heap.size) :
  OS B (W1.setCell ⟨g, i * 2 + 1, none⟩ x') (.slice (some ⟨g, 0, none⟩) n cap) (hs.set i x') (us.set i (u ++ [r])) (ds.set i ⟨d.failed, d.blocks ++ [l]⟩) := by
 have hn : n = ds.length := by
  obtain ⟨A', c', e, _⟩ := own_form2 h.top
  simp only [Value.slice.injEq] at e; exact e.2.1
 subst hn
 have hi := h.row i d x u hd hh hu
 have hiW := hi
 have ht0 := h.top
 have ht := ht0.kept hg (own_own hiW.top ht0 (by decide))
 have st := ht.stored (i * 2 + 1) x'
 have mine : OMx B W1 x' (u ++ [r]) (d.blocks ++ [l]) := OMx.push2 hi hr hl (fun a y hy => by
  cases e : y.ownBlock with
  | none => exact .inl rfl
  | some t => exact .inr fun e' => har i a u y t hu hy e e'.symm) (fun a y hy => by
  cases e : r.ownBlock with
  | none => exact .inl rfl
  | some t => exact .inr fun e' => har i a u y t hu hy e'.symm e) hown hg
 have keep : ∀ {b : Nat} {y : Value} {q : List Value} {m : List (List Nat)}, OMx b W1 y q m → OMx b (W1.setCell ⟨g, i * 2 + 1, none⟩ x') y q m := fun ho => ho.kept ht ne_dk_u8 ne_dk_sl st.2
 have old : ∀ {i : Nat} {y : Value}, hs[i]? = some y → ∃ d u, ds[i]? = some d ∧ us[i]? = some u ∧ OMx B W y u d.blocks := fun {i y} hy => by
  obtain ⟨d, hd⟩ := get_some (show i < ds.length by rw [← h.lenH]; exact get_lt hy)
  obtain ⟨u, hu⟩ := get_some (show i < us.length by rw [h.lenU]; exact get_lt hd)
  exact ⟨d, u, hd, hu, h.row i d y u hd hy hu⟩
 have oldu : ∀ {i : Nat} {q : List Value}, us[i]? = some q → ∃ (d : Dk) (y : Value), OMx B W y q d.blocks := fun {i q} hq => by
  obtain ⟨y, hy⟩ := get_some (show i < hs.length by rw [h.lenH, ← h.lenU]; exact get_lt hq)
  obtain ⟨d, u', hd, hu, ho⟩ := old hy
  rw [hq] at hu; cases hu
  exact ⟨d, y, ho⟩
 -- the new top against another one
 have tp : ∀ {j : Nat} {y : Value}, i ≠ j → hs[j]? = some y → ∀ a, x'.ownBlock = some a → y.ownBlock = some a → False := fun {j y} hij hy a e e' => by
  obtain ⟨_, _, _, _, ho⟩ := old hy
  have lt := (ho.lt_top e').2
  rcases hat with ha | ha
  ·rcases h.tops i j x y hij hh hy with hn | hn
   ·rw [ha, hn] at e; cases e
   ·exact hn (by rw [← ha, e, e'])
  ·rw [ha] at e
   injection e with e
   omega
 refine ⟨?_, by simp [h.lenH], by simp [h.lenU], fun j e y q he hy hq => ?_, fun j k y y' hij hy hy' => ?_, fun j k a b q q' y y' hij hq hq' hy hy' => ?_⟩
 ·rw [flatD_set]
  have e0 : (flatD ds hs).set (i * 2) (.bool d.failed) = flatD ds hs := by
   obtain ⟨f1, _⟩ := flatD_get hd hh
   exact List.ext_getElem? fun j => by
    rw [List.getElem?_set]
    by_cases ej : i * 2 = j
    ·subst ej
     rw [if_pos rfl, if_pos (get_lt f1), f1]
    ·rw [if_neg ej]
  rw [e0]
  simpa using st.1
 ·rcases set_get he with ⟨e1, rfl, _⟩ | ⟨e1, he⟩
  ·rcases set_get hy with ⟨_, rfl, _⟩ | ⟨e2, _⟩
   ·rcases set_get hq with ⟨_, rfl, _⟩ | ⟨e3, _⟩
    ·exact keep mine
    ·omega
   ·omega
  ·rcases set_get hy with ⟨e2, _⟩ | ⟨_, hy⟩
   ·omega
   ·rcases set_get hq with ⟨e3, _⟩ | ⟨_, hq⟩
    ·omega
    ·exact keep ((h.row j e y q he hy hq).kept2 hiW.top (h.tops j i y x (by omega) hy hh) hg)
 ·rcases set_get hy with ⟨e1, rfl, _⟩ | ⟨e1, hz⟩
  ·rcases set_get hy' with ⟨e2, _, _⟩ | ⟨_, hz'⟩
   ·omega
   ·cases e : y.ownBlock with
    | none => exact .inl rfl
    | some a => exact .inr fun e' => tp (by omega) hz' a e e'.symm
  ·rcases set_get hy' with ⟨e2, rfl, _⟩ | ⟨_, hz'⟩
   ·cases e : y.ownBlock with
    | none => exact .inl rfl
    | some a => exact .inr fun e' => tp (by omega) hz a e'.symm e
   ·exact h.tops j k y y' hij hz hz'
 ·have rw1 : ∀ {j : Nat} {q : List Value} {a b : Nat} {y z : Value}, i ≠ j → us[j]? = some q → q[a]? = some y → (u ++ [r])[b]? = some z → ∀ t, y.ownBlock = some t → z.ownBlock = some t → False := fun {j q a b y z} hij hq0 hy0 hz t e e' => by
   obtain ⟨_, _, ho⟩ := oldu hq0
   have lt := (ho.lt_row hy0 e).2
   rcases get_append_one hz with h1 | ⟨_, rfl⟩
   ·rcases h.rows i j b a u q z y hij hu hq0 h1 hy0 with hn | hn
    ·rw [hn] at e'; cases e'
    ·exact hn (by rw [e, e'])
   ·exact har _ _ _ _ _ hq0 hy0 e e'
  rcases set_get hq with ⟨e1, rfl, _⟩ | ⟨e1, hz⟩
  ·rcases set_get hq' with ⟨e2, _, _⟩ | ⟨_, hz'⟩
   ·omega
   ·cases e : y.ownBlock with
    | none => exact .inl rfl
    | some t => exact .inr fun e' => rw1 (by omega) hz' hy' hy t e'.symm e
  ·rcases set_get hq' with ⟨e2, rfl, _⟩ | ⟨_, hz'⟩
   ·cases e : y.ownBlock with
    | none => exact .inl rfl
    | some t => exact .inr fun e' => rw1 (by omega) hz hy hy' t e e'.symm
   ·exact h.rows j k a b q q' y y' hij hz hz' hy hy'
structure PT (B nb nb2 : Nat) (W : World) (g n cap : Nat) (ru : List Value) (hs : List Value) (us : List (List Value)) (ds : List Dk) (i : Nat) : Prop where
 os : OS B W (.slice (some ⟨g, 0, none⟩) n cap) hs us ds
 gl : g < nb
 top : ∀ (a : Nat) (y : Value) (t : Nat), hs[a]? = some y → y.ownBlock = some t → t < nb ∨ nb2 ≤ t
 row : ∀ (a c : Nat) (q : List Value) (y : Value) (t : Nat), us[a]? = some q → q[c]? = some y → y.ownBlock = some t → t < nb ∨ nb2 ≤ t ∨ ∃ (j : Nat) (r : Value), j < i ∧ ru[j]? = some r ∧ r.ownBlock = some t
theorem PT.next {B nb nb2 : Nat} {W W' : World} {g n cap : Nat} {ru hs : List Value} {us : List (List Value)} {ds : List Dk} {i : Nat} (hb : Below W.heap.size W W') (h : PT B nb nb2 W g n cap ru hs us ds i) : PT B nb nb2 W' g n cap ru hs us ds i :=
 ⟨h.os.next hb, h.gl, h.top, h.row⟩
theorem PT.skip {B nb nb2 : Nat} {W : World} {g n cap : Nat} {ru hs : List Value} {us : List (List Value)} {ds : List Dk} {i : Nat} (h : PT B nb nb2 W g n cap ru hs us ds i) : PT B nb nb2 W g n cap ru hs us ds (i + 1) :=
 ⟨h.os, h.gl, h.top, fun a c q y t hq hy e => by
  rcases h.row a c q y t hq hy e with h1 | h1 | ⟨j, r, h1, h2⟩
  ·exact .inl h1
  ·exact .inr (.inl h1)
  ·exact .inr (.inr ⟨j, r, by omega, h2⟩)⟩
theorem PT.first {B nb2 : Nat} {W0 W : World} {g n cap : Nat} {ru hs : List Value} {us : List (List Value)} {ds : List Dk} (h : OS B W0 (.slice (some ⟨g, 0, none⟩) n cap) hs us ds) (hg : g < W0.heap.size) (hb : Below W0.heap.size W0 W) : PT B W0.heap.size nb2 W g n cap ru hs us ds 0 := by
 refine ⟨h.next hb, hg, fun a y t hy e => ?_, fun a c q y t hq hy e => ?_⟩
 ·obtain ⟨d, hd⟩ := get_some (show a < ds.length by rw [← h.lenH]; exact get_lt hy)
  obtain ⟨q, hq⟩ := get_some (show a < us.length by rw [h.lenU]; exact get_lt hd)
  exact .inl ((h.row a d y q hd hy hq).top.lt t e).2
 ·obtain ⟨d, hd⟩ := get_some (show a < ds.length by rw [← h.lenU]; exact get_lt hq)
  obtain ⟨z, hz⟩ := get_some (show a < hs.length by rw [h.lenH]; exact get_lt hd)
  have r := h.row a d z q hd hz hq
  obtain ⟨l, hl⟩ := get_some (show c < d.blocks.length by rw [← r.len]; exact get_lt hy)
  exact .inl ((r.row c y l hy hl).lt t e).2
theorem PT.more {B nb nb2 i : Nat} {W W1 : World} {g n cap : Nat} {ru hs : List Value} {us : List (List Value)} {ds : List Dk} {d : Dk} {x x' r v6 : Value} {u : List Value} {l : List Nat} {rows : List (List Nat)} (h : PT B nb nb2 W g n cap ru hs us ds i)
  (hd : ds[i]? = some d) (hh : hs[i]? = some x) (hu : us[i]? = some u) (T : OMx nb W v6 ru rows) (hT : ∀ (j : Nat) (z : Value) (t : Nat), ru[j]? = some z → z.ownBlock = some t → t < nb2) (hr : ru[i]? = some r) (hl : rows[i]? = some l) (h2 : nb2 ≤ W.heap.size) (hB : B ≤ nb)
  (hown : W1.ownsRow B 26 1 x' (d.blocks.length + 1) (u ++ [r])) (hg : W.grownBy W1 x.ownBlock) (hat : x'.ownBlock = x.ownBlock ∨ x'.ownBlock = some W.heap.size) :
  PT B nb nb2 (W1.setCell ⟨g, i * 2 + 1, none⟩ x') g n cap ru (hs.set i x') (us.set i (u ++ [r])) (ds.set i ⟨d.failed, d.blocks ++ [l]⟩) (i + 1) := by
 have rr := T.row i r l hr hl
 have P := h.os.more2 (r := r) (l := l) (fun j a q y t hq hy e e' => by
  have lo := (rr.lt t e').1
  have hi := hT i r t hr e'
  rcases h.row j a q y t hq hy e with k1 | k1 | ⟨j', z, k1, k2, k3⟩
  ·omega
  ·omega
  ·rcases T.apart j' i z r k2 hr (by omega) with k4 | k4
   ·rw [k4] at k3; cases k3
   ·exact k4 (by rw [k3, e'])) hd hh hu (own_mono rr hB) (T.byt l (List.mem_of_getElem? hl)) hown hg hat
 refine ⟨P, h.gl, fun a y t hy e => ?_, fun a c q y t hq hy e => ?_⟩
 ·rcases set_get hy with ⟨_, rfl, _⟩ | ⟨_, hz⟩
  ·rcases hat with ha | ha
   ·exact h.top i x t hh (by rw [← ha]; exact e)
   ·rw [ha] at e; injection e with e; right; omega
  ·exact h.top a y t hz e
 ·rcases set_get hq with ⟨_, rfl, _⟩ | ⟨_, hz⟩
  ·rcases get_append_one hy with k1 | ⟨_, rfl⟩
   ·rcases h.row i c u y t hu k1 e with k2 | k2 | ⟨j, z, k3, k4⟩
    ·exact .inl k2
    ·exact .inr (.inl k2)
    ·exact .inr (.inr ⟨j, z, by omega, k4⟩)
   ·exact .inr (.inr ⟨i, y, by omega, hr, e⟩)
  ·rcases h.row a c q y t hz hy e with k2 | k2 | ⟨j, z, k3, k4⟩
   ·exact .inl k2
   ·exact .inr (.inl k2)
   ·exact .inr (.inr ⟨j, z, by omega, k4⟩)
theorem PT.keep {B nb nb2 i : Nat} {W W1 : World} {g n cap : Nat} {ru hs : List Value} {us : List (List Value)} {ds : List Dk} {x x' : Value} (h : PT B nb nb2 W g n cap ru hs us ds i) (hh : hs[i]? = some x) (h2 : nb2 ≤ W.heap.size) (hg : W.grownBy W1 x.ownBlock) :
  ∀ b, nb ≤ b → b < nb2 → (W1.setCell ⟨g, i * 2 + 1, none⟩ x').heap[b]? = W.heap[b]? := fun b h1 h3 => by
 have e1 : (W1.setCell ⟨g, i * 2 + 1, none⟩ x').heap[b]? = W1.heap[b]? := Below.heap_setCell W1 ⟨g, i * 2 + 1, none⟩ x' b (fun e => by have e' : b = g := e; have := h.gl; omega)
 rw [e1]
 exact hg.block b (by omega) (fun e => by rcases h.top i x b hh e.symm with k | k <;> omega)
end Go.Proofs.Ytapehckcmmompaa
