/- Rows of bytes that are written in place, and elimination in plain words. -/
import Derived.Test.YtmpmeeacdllomaaPae
namespace Go.Proofs.Ytmpmeeacdllomaa
open Go.ChangeShapes Go.WideShapes Go.ChangeAt Go.RowKit Gf
set_option linter.unusedVariables false

/- the rows us hold the lists ls, each in a block of its own from B on -/
structure Fam (B : Nat) (w : World) (us : List Value) (ls : List (List Nat)) : Prop where
  len : us.length = ls.length
  row : ∀ (i : Nat) (u : Value) (l : List Nat), us[i]? = some u → ls[i]? = some l → OB B w u l
  byt : ∀ l ∈ ls, Byt l
  apart : ∀ (i j : Nat) (u u' : Value), us[i]? = some u → us[j]? = some u' → i ≠ j → u.ownBlock = none ∨ u.ownBlock ≠ u'.ownBlock
theorem OMx.fam {B : Nat} {w : World} {v : Value} {us : List Value} {m : List (List Nat)} (h : OMx B w v us m) : Fam B w us m := ⟨h.len, h.row, h.byt, h.apart⟩
theorem Fam.omx {B : Nat} {w : World} {v : Value} {us : List Value} {m : List (List Nat)} (h : Fam B w us m) (ht : w.ownsRow B 57 1 v m.length us) : OMx B w v us m := ⟨ht, h.row, h.byt, h.apart⟩
theorem Fam.next {B : Nat} {w w' : World} {us : List Value} {ls : List (List Nat)} (hb : Below w.heap.size w w') (h : Fam B w us ls) : Fam B w' us ls :=
  ⟨h.len, fun i u l hu hl => own_next hb (h.row i u l hu hl), h.byt, h.apart⟩
theorem Fam.nil (B : Nat) (w : World) : Fam B w [] [] := ⟨rfl, fun i u l hu => by simp at hu, fun l hl => by simp at hl, fun i j u u' hu => by simp at hu⟩
theorem Fam.form {B : Nat} {w : World} {us : List Value} {ls : List (List Nat)} (h : Fam B w us ls) {i : Nat} {l : List Nat} (hl : ls[i]? = some l) (h0 : 0 < l.length) :
    ∃ g cap, us[i]? = some (.slice (some ⟨g, 0, none⟩) l.length cap) ∧ B ≤ g ∧ g < w.heap.size ∧ l.length ≤ cap ∧ cap ≤ 9223372036854775807 ∧ w.ownsRow B 5 1 (.slice (some ⟨g, 0, none⟩) l.length cap) l.length (bv l) ∧ Byt l := by
  obtain ⟨u, hu⟩ := get_some (show i < us.length by rw [h.len]; exact get_lt hl)
  have ho := h.row i u l hu hl
  rcases ho.2 with ⟨_, h2⟩ | ⟨g, cap, cur, e, hb, hg, hc, hm, _⟩
  · omega
  · rw [e] at hu ho
    exact ⟨g, cap, hu, hb, blk_lt hg, hc, by simpa [maxLen] using hm, ho, h.byt l (List.mem_of_getElem? hl)⟩
theorem Fam.write {B : Nat} {w w' : World} {us : List Value} {ls : List (List Nat)} (h : Fam B w us ls) {i g n cap : Nat} {l' : List Nat} (hu : us[i]? = some (.slice (some ⟨g, 0, none⟩) n cap)) (hg : w.grownBy w' (some g))
    (ho : w'.ownsRow B 5 1 (.slice (some ⟨g, 0, none⟩) n cap) n (bv l')) (hn : l'.length = n) (hb : Byt l') : Fam B w' us (ls.set i l') := by
  subst hn
  refine ⟨by simpa using h.len, fun j u l hj hl => ?_, fun l hl => ?_, h.apart⟩
  · rcases set_get hl with ⟨rfl, rfl, _⟩ | ⟨h1, h2⟩
    · rw [hu] at hj; cases hj; exact ho
    · refine (h.row j u l hj h2).kept hg ?_
      rcases h.apart j i u _ hj hu h1 with h3 | h3
      · exact .inl h3
      · exact .inr h3
  · rcases List.mem_or_eq_of_mem_set hl with h1 | rfl
    · exact h.byt l h1
    · exact hb
theorem Fam.ne_ {B : Nat} {w : World} {us : List Value} {ls : List (List Nat)} (h : Fam B w us ls) {i j g g' n n' cap cap' : Nat} (hi : us[i]? = some (.slice (some ⟨g, 0, none⟩) n cap)) (hj : us[j]? = some (.slice (some ⟨g', 0, none⟩) n' cap')) (hij : i ≠ j) : g ≠ g' := fun e => by
  rcases h.apart i j _ _ hi hj hij with h1 | h1
  · simp [Value.ownBlock] at h1
  · exact h1 (by rw [e]; rfl)
/- only rows of bytes from B on have changed -/
structure KU (B : Nat) (w w' : World) : Prop where
  bel : Below B w w'
  oth : ∀ (g : Nat) (cs : Array Value) (t : TypeId) (fz : Nat × Nat), w.heap[g]? = some (.cells cs t fz) → t ≠ 5 → w'.heap[g]? = some (.cells cs t fz)
theorem KU.refl (B : Nat) (w : World) : KU B w w := ⟨Below.refl _ _, fun _ _ _ _ h _ => h⟩
theorem KU.trans {B : Nat} {a b c : World} (h : KU B a b) (k : KU B b c) : KU B a c := ⟨h.bel.trans k.bel, fun g cs t fz hg ht => k.oth g cs t fz (h.oth g cs t fz hg ht) ht⟩
theorem KU.drew {B : Nat} {a b : World} (h : KU B a b) : KU B a b.drew := ⟨h.bel.drew, h.oth⟩
theorem KU.undrew {B : Nat} {a b : World} (h : KU B a.drew b) : KU B a b := ⟨⟨h.bel.os, h.bel.tape, h.bel.output, h.bel.size, h.bel.block⟩, h.oth⟩
theorem KU.grown {B g : Nat} {w w' : World} {n cap : Nat} {xs : List Value} (hg : w.grownBy w' (some g)) (ho : w.ownsRow B 5 1 (.slice (some ⟨g, 0, none⟩) n cap) n xs) (hs : B ≤ w.heap.size) : KU B w w' :=
  ⟨(Below.refl B w).grown hg hs (fun k hk => by cases hk; exact (ho.lt g rfl).1), fun b cs t fz hb ht => gblk hg hb (fun e => own_ne ho hb (fun e' => ht e'.symm) e.symm)⟩
theorem KU.own {B : Nat} {w w' : World} (h : KU B w w') {base : Nat} {e : TypeId} {size n : Nat} {v : Value} {xs : List Value} (ho : w.ownsRow base e size v n xs) (he : e ≠ 5) : w'.ownsRow base e size v n xs := by
  obtain ⟨h1, h2 | ⟨g, cap, cur, e1, e2, e3, e4⟩⟩ := ho
  · exact ⟨h1, .inl h2⟩
  · exact ⟨h1, .inr ⟨g, cap, cur, e1, e2, h.oth g cur e (0, 0) e3 he, e4⟩⟩
/- the first k numbers changed by h -/
def mixK (h : Nat → Nat → Nat) (l : List Nat) (k : Nat) : List Nat := (List.range l.length).map fun i => if i < k then h i (l.getD i 0) else l.getD i 0
theorem mixK_len (h : Nat → Nat → Nat) (l : List Nat) (k : Nat) : (mixK h l k).length = l.length := by simp [mixK]
theorem mixK_zero (h : Nat → Nat → Nat) (l : List Nat) : mixK h l 0 = l := by
  apply List.ext_getElem?
  intro i
  simp only [mixK, List.getElem?_map]
  by_cases hi : i < l.length
  · rw [List.getElem?_range hi, List.getElem?_eq_getElem hi]; simp [List.getD_eq_getElem?_getD, hi]
  · rw [List.getElem?_eq_none (by simpa using hi), List.getElem?_eq_none (by simpa using hi)]; rfl
theorem mixK_at {h : Nat → Nat → Nat} {l : List Nat} {k x : Nat} (e : l[k]? = some x) : (mixK h l k)[k]? = some x := by
  simp only [mixK, List.getElem?_map, List.getElem?_range (get_lt e), Option.map_some]
  simp [List.getD_eq_getElem?_getD, e]
theorem mixK_succ {h : Nat → Nat → Nat} {l : List Nat} {k x : Nat} (e : l[k]? = some x) : mixK h l (k + 1) = (mixK h l k).set k (h k x) := by
  apply List.ext_getElem?
  intro i
  have hl := get_lt e
  rw [List.getElem?_set]
  by_cases hi : i < l.length
  · simp only [mixK, List.getElem?_map, List.getElem?_range hi, Option.map_some]
    by_cases ek : k = i
    · subst ek
      have e1 : l.getD k 0 = x := by rw [List.getD_eq_getElem?_getD, e]; rfl
      rw [if_pos (by omega), e1]
      simp [hl]
    · rw [if_neg ek]
      congr 1
      by_cases hk : i < k
      · rw [if_pos (by omega), if_pos hk]
      · rw [if_neg (by omega), if_neg hk]
  · rw [List.getElem?_eq_none (by simp [mixK]; omega)]
    by_cases ek : k = i
    · omega
    · rw [if_neg ek, List.getElem?_eq_none (by simp [mixK]; omega)]
def scaleR (f : Nat) (l : List Nat) : List Nat := l.map (gm f)
theorem scaleR_len (f : Nat) (l : List Nat) : (scaleR f l).length = l.length := by simp [scaleR]
theorem mixK_scale (f : Nat) (l : List Nat) : mixK (fun _ x => gm f x) l l.length = scaleR f l := by
  apply List.ext_getElem?
  intro i
  simp only [mixK, scaleR, List.getElem?_map]
  by_cases hi : i < l.length
  · rw [List.getElem?_range hi, List.getElem?_eq_getElem hi]; simp [List.getD_eq_getElem?_getD, hi]
  · rw [List.getElem?_eq_none (by simpa using hi), List.getElem?_eq_none (by simpa using hi)]; rfl
theorem scaleR_byt {f : Nat} (l : List Nat) (hf : f < 256) : Byt (scaleR f l) := fun x hx => by
  simp only [scaleR, List.mem_map] at hx
  obtain ⟨y, _, rfl⟩ := hx
  exact gm_lt hf
theorem mixK_byt {h : Nat → Nat → Nat} {l : List Nat} (k : Nat) (hl : Byt l) (hh : ∀ i x, h i x < 256) : Byt (mixK h l k) := fun x hx => by
  simp only [mixK, List.mem_map, List.mem_range] at hx
  obtain ⟨i, hi, rfl⟩ := hx
  split
  · exact hh _ _
  · rw [List.getD_eq_getElem?_getD, List.getElem?_eq_getElem hi]; exact hl _ (List.getElem_mem hi)
/- one step of the elimination at the place p: the rows of the matrix, and others with the same factors -/
def pivF (M : List (List Nat)) (p : Nat) : Nat := gi ((M.getD p []).getD p 0)
def elim (M L : List (List Nat)) (p r : Nat) : List (List Nat) := (List.range L.length).map fun i =>
  if i = p then scaleR (pivF M p) (L.getD p []) else if i < r then addR (L.getD i []) (scaleR (pivF M p) (L.getD p [])) ((M.getD i []).getD p 0) else L.getD i []
def gjTo (M R : List (List Nat)) : Nat → List (List Nat) × List (List Nat)
  | 0 => (M, R)
  | p + 1 => (elim (gjTo M R p).1 (gjTo M R p).1 p M.length, elim (gjTo M R p).1 (gjTo M R p).2 p M.length)
theorem elim_len (M L : List (List Nat)) (p r : Nat) : (elim M L p r).length = L.length := by simp [elim]
theorem elim_at {M L : List (List Nat)} {p r i : Nat} (hi : i < L.length) : (elim M L p r)[i]? = some (if i = p then scaleR (pivF M p) (L.getD p []) else if i < r then addR (L.getD i []) (scaleR (pivF M p) (L.getD p [])) ((M.getD i []).getD p 0) else L.getD i []) := by
  simp only [elim, List.getElem?_map, List.getElem?_range hi, Option.map_some]
theorem getD_get {m : List (List Nat)} {i : Nat} (hi : i < m.length) : m[i]? = some (m.getD i []) := by
  obtain ⟨l, hl⟩ := get_some hi
  rw [hl, getD_of hl]
theorem elim_zero {M L : List (List Nat)} {p : Nat} (hp : p < L.length) : elim M L p 0 = L.set p (scaleR (pivF M p) (L.getD p [])) := by
  apply List.ext_getElem?
  intro i
  rw [List.getElem?_set]
  by_cases hi : i < L.length
  · rw [elim_at hi]
    by_cases e : p = i
    · subst e; rw [if_pos rfl, if_pos rfl, if_pos hp]
    · rw [if_neg e, if_neg (fun e' => e e'.symm), if_neg (by omega), getD_get hi]
  · rw [List.getElem?_eq_none (by rw [elim_len]; omega)]
    by_cases e : p = i
    · omega
    · rw [if_neg e, List.getElem?_eq_none (by omega)]
theorem elim_skip {M L : List (List Nat)} {p : Nat} : elim M L p (p + 1) = elim M L p p := by
  unfold elim
  apply List.map_congr_left
  intro i _
  by_cases e : i = p
  · rw [if_pos e, if_pos e]
  · rw [if_neg e, if_neg e]
    by_cases h : i < p
    · rw [if_pos (by omega), if_pos h]
    · rw [if_neg (by omega), if_neg h]
theorem elim_step {M L : List (List Nat)} {p r : Nat} (hr : r < L.length) (hp : r ≠ p) : elim M L p (r + 1) = (elim M L p r).set r (addR (L.getD r []) (scaleR (pivF M p) (L.getD p [])) ((M.getD r []).getD p 0)) := by
  apply List.ext_getElem?
  intro i
  rw [List.getElem?_set]
  by_cases hi : i < L.length
  · rw [elim_at hi, elim_at hi]
    by_cases e : r = i
    · subst e; rw [if_pos rfl, if_neg hp, if_pos (by omega), if_pos (by rw [elim_len]; exact hr)]
    · rw [if_neg e]
      by_cases e' : i = p
      · rw [if_pos e', if_pos e']
      · rw [if_neg e', if_neg e']
        by_cases h : i < r
        · rw [if_pos (by omega), if_pos h]
        · rw [if_neg (by omega), if_neg h]
  · rw [List.getElem?_eq_none (by rw [elim_len]; omega)]
    by_cases e : r = i
    · omega
    · rw [if_neg e, List.getElem?_eq_none (by rw [elim_len]; omega)]
theorem elim_rows {M L : List (List Nat)} {p r n : Nat} (h : ∀ l ∈ L, l.length = n) (hp : p < L.length) : ∀ l ∈ elim M L p r, l.length = n := fun l hl => by
  have g : ∀ i, i < L.length → (L.getD i []).length = n := fun i hi => by
    obtain ⟨x, hx⟩ := get_some hi
    rw [getD_of hx]; exact h x (List.mem_of_getElem? hx)
  simp only [elim, List.mem_map, List.mem_range] at hl
  obtain ⟨i, hi, rfl⟩ := hl
  split
  · rw [scaleR_len]; exact g p hp
  · split
    · rw [addR_len]; exact g i hi
    · exact g i hi
theorem gjTo_len (M R : List (List Nat)) (p : Nat) : (gjTo M R p).1.length = M.length ∧ (gjTo M R p).2.length = R.length := by
  induction p with
  | zero => exact ⟨rfl, rfl⟩
  | succ p ih => exact ⟨by rw [gjTo, elim_len, ih.1], by rw [gjTo, elim_len, ih.2]⟩
theorem gjTo_rows {M R : List (List Nat)} {n q : Nat} (hM : ∀ l ∈ M, l.length = n) (hR : ∀ l ∈ R, l.length = q) (hl : R.length = M.length) : ∀ p, p ≤ M.length → (∀ l ∈ (gjTo M R p).1, l.length = n) ∧ (∀ l ∈ (gjTo M R p).2, l.length = q)
  | 0, _ => ⟨hM, hR⟩
  | p + 1, h => by
    have ih := gjTo_rows hM hR hl p (by omega)
    exact ⟨elim_rows ih.1 (by rw [(gjTo_len M R p).1]; omega), elim_rows ih.2 (by rw [(gjTo_len M R p).2]; omega)⟩
theorem set_left {α : Type} {a b : List α} {i : Nat} (h : i < a.length) (x : α) : (a ++ b).set i x = a.set i x ++ b := by rw [List.set_append_left _ _ h]
theorem set_right {α : Type} (a b : List α) (i : Nat) (x : α) : (a ++ b).set (a.length + i) x = a ++ b.set i x := by rw [List.set_append_right _ _ (by omega)]; simp
theorem get_left {α : Type} {a b : List α} {i : Nat} (h : i < a.length) : (a ++ b)[i]? = a[i]? := List.getElem?_append_left h
theorem get_right {α : Type} (a b : List α) (i : Nat) : (a ++ b)[a.length + i]? = b[i]? := by rw [List.getElem?_append_right (by omega)]; simp
end Go.Proofs.Ytmpmeeacdllomaa
