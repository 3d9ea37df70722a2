/- Several texts in one. -/
import Derived.Deep.MidRow
import Derived.Test.YtbbnkclajpaghaaGreatDoorMF00
import Derived.Test.YtbbnkclajpaghaaGreatDoorMF03
import Derived.Test.YtbbnkclajpaghaaGreatDoorMF04
import Derived.Test.YtbbnkclajpaghaaGreatDoorMF11
set_option maxRecDepth 100000
set_option linter.unusedVariables false
set_option linter.unusedSimpArgs false
namespace Go.Proofs.YtbbnkclajpaghaaGreatDoor
def grps : List Vr → List (List Vr)
 | [] => []
 | r :: l => match grps l with
  | [] => [[r]]
  | g :: gs => if vkey (hdV g) = vkey r then (r :: g) :: gs else [r] :: g :: gs
def avF : List (List Vr) → Int × List Vr
 | [] => (0, [])
 | g :: gs => if (meanF g).1 = 18 then avF gs else if (meanF g).1 ≠ 0 then ((meanF g).1, []) else if (avF gs).1 ≠ 0 then ((avF gs).1, []) else (0, (meanF g).2 :: (avF gs).2)
theorem avF_none : ∀ (L : List (List Vr)), (avF L).1 ≠ 0 → (avF L).2 = []
 | [], h => absurd rfl h
 | g :: gs, h => by
  unfold avF at h ⊢
  split at h
  ·rename_i h1; rw [if_pos h1]; exact avF_none gs h
  ·rename_i h1
   rw [if_neg h1]
   split at h
   ·rename_i h2; rw [if_pos h2]
   ·rename_i h2
    rw [if_neg h2]
    split at h
    ·rename_i h3; rw [if_pos h3]
    ·exact absurd rfl h
def andF (o : List Vr) (x : Int × List Vr) : Int × List Vr := if x.1 ≠ 0 then (x.1, []) else (0, o ++ x.2)
theorem andF_nil (L : List (List Vr)) : andF [] (avF L) = avF L := by
 unfold andF
 by_cases h : (avF L).1 ≠ 0
 ·rw [if_pos h]
  exact Prod.ext rfl (avF_none L h).symm
 ·rw [if_neg h]
  exact Prod.ext (by simp only; omega) rfl
theorem avF_skip {g : List Vr} (h : (meanF g).1 = 18) (o : List Vr) (gs : List (List Vr)) : andF o (avF (g :: gs)) = andF o (avF gs) := by
 rw [avF, if_pos h]
theorem avF_bad {g : List Vr} (h : (meanF g).1 ≠ 18) (h' : (meanF g).1 ≠ 0) (o : List Vr) (gs : List (List Vr)) : andF o (avF (g :: gs)) = ((meanF g).1, []) := by
 rw [avF, if_neg h, if_pos h']
 unfold andF
 rw [if_pos h']
theorem avF_good {g : List Vr} (h : (meanF g).1 = 0) (o : List Vr) (gs : List (List Vr)) : andF o (avF (g :: gs)) = andF (o ++ [(meanF g).2]) (avF gs) := by
 rw [avF, if_neg (by omega), if_neg (by omega)]
 unfold andF
 by_cases h3 : (avF gs).1 ≠ 0
 ·rw [if_pos h3, if_pos h3, if_pos h3]
 ·rw [if_neg h3, if_neg (by simp), if_neg h3, List.append_assoc]
  rfl
theorem andF_end (o : List Vr) : andF o (avF []) = (0, o) := by
 unfold andF avF
 simp
theorem meanF_nil : meanF [] = (18, zV) := by unfold meanF wgt; rw [if_pos rfl]
theorem avF_ne : ∀ (L : List (List Vr)), avF (L.filter fun g => !g.isEmpty) = avF L
 | [] => rfl
 | g :: gs => by
  cases g with
  | nil =>
   rw [List.filter_cons_of_neg (by simp), avF_ne gs, avF, if_pos (by rw [meanF_nil])]
  | cons r l =>
   rw [List.filter_cons_of_pos (by simp)]
   show avF _ = avF _
   rw [avF, avF, avF_ne gs]
theorem grps_head : ∀ {l : List Vr} {g : List Vr} {gs : List (List Vr)}, grps l = g :: gs → ∃ r l' g', l = r :: l' ∧ g = r :: g'
 | [], g, gs, h => by cases h
 | r :: l, g, gs, h => by
  refine ⟨r, l, ?_⟩
  unfold grps at h
  split at h
  ·injection h with h1 h2; exact ⟨[], rfl, h1.symm⟩
  ·split at h
   ·injection h with h1 h2; exact ⟨_, rfl, h1.symm⟩
   ·injection h with h1 h2; exact ⟨[], rfl, h1.symm⟩
theorem grps_run {k : Int} : ∀ {g rest : List Vr}, g ≠ [] → (∀ r ∈ g, vkey r = k) → (∀ r, rest.head? = some r → vkey r ≠ k) → grps (g ++ rest) = g :: grps rest
 | [], _, h, _, _ => absurd rfl h
 | [r], rest, _, h, h' => by
  show grps (r :: rest) = _
  rw [grps]
  cases e : grps rest with
  | nil => rfl
  | cons g gs =>
   obtain ⟨q, l', g', rfl, rfl⟩ := grps_head e
   have h1 := h' q rfl
   have h2 := h r (List.mem_cons_self ..)
   simp only
   rw [if_neg (by show vkey q ≠ vkey r; omega)]
 | r :: q :: g, rest, _, h, h' => by
  have ih := grps_run (g := q :: g) (rest := rest) (by simp) (fun x hx => h x (List.mem_cons_of_mem _ hx)) h'
  show grps (r :: ((q :: g) ++ rest)) = _
  rw [grps, ih]
  simp only
  rw [if_pos (by show vkey q = vkey r; rw [h q (by simp), h r (by simp)])]
theorem tw_mem {p : Vr → Bool} : ∀ {l : List Vr} {r : Vr}, r ∈ l.takeWhile p → p r = true
 | [], r, h => by cases h
 | q :: l, r, h => by
  by_cases c : p q = true
  ·rw [List.takeWhile_cons_of_pos c] at h
   rcases List.mem_cons.1 h with rfl | h
   ·exact c
   ·exact tw_mem h
  ·rw [List.takeWhile_cons_of_neg c] at h; cases h
theorem grps_keys : ∀ {Ks : List Int} {ys : List Vr}, Ks.Pairwise (· < ·) → Srt vkey ys → (∀ r ∈ ys, vkey r ∈ Ks) → (Ks.map fun k => ys.filter fun r => vkey r == k).filter (fun g => !g.isEmpty) = grps ys
 | [], ys, _, _, h => by
  cases ys with
  | nil => rfl
  | cons r l => exact absurd (h r (List.mem_cons_self ..)) (by simp)
 | k :: Ks, ys, hk, hs, h => by
  obtain ⟨hk1, hk2⟩ := List.pairwise_cons.1 hk
  have e : ys = ys.takeWhile (fun r => vkey r == k) ++ ys.dropWhile (fun r => vkey r == k) := (List.takeWhile_append_dropWhile ..).symm
  have h1 : ∀ r ∈ ys.takeWhile (fun r => vkey r == k), vkey r = k := fun r hr => by simpa using tw_mem hr
  have h2 : ∀ r ∈ ys.dropWhile (fun r => vkey r == k), k < vkey r := by
   have hle : ∀ r ∈ ys, k ≤ vkey r := fun r hr => by
    rcases List.mem_cons.1 (h r hr) with e | e
    ·omega
    ·exact Int.le_of_lt (hk1 _ e)
   clear e h1 h hk hk1 hk2
   induction ys with
   | nil => simp
   | cons x l ih =>
    obtain ⟨hx, hl⟩ := List.pairwise_cons.1 hs
    by_cases c : vkey x = k
    ·rw [List.dropWhile_cons_of_pos (by simpa using c)]
     exact ih hl fun r hr => hle r (List.mem_cons_of_mem _ hr)
    ·rw [List.dropWhile_cons_of_neg (by simpa using c)]
     intro r hr
     have := hle x (List.mem_cons_self ..)
     rcases List.mem_cons.1 hr with rfl | hr
     ·omega
     ·have := hx r hr; omega
  have hsub : ∀ r ∈ ys.dropWhile (fun r => vkey r == k), r ∈ ys := fun r hr => by
   have := List.mem_append_right (ys.takeWhile (fun r => vkey r == k)) hr
   rwa [← e] at this
  have hs' : Srt vkey (ys.dropWhile (fun r => vkey r == k)) := by
   unfold Srt at hs
   rw [e] at hs
   exact (List.pairwise_append.1 hs).2.1
  generalize ys.takeWhile (fun r => vkey r == k) = A at *
  generalize ys.dropWhile (fun r => vkey r == k) = B at *
  have ih := grps_keys (Ks := Ks) (ys := B) hk2 hs' fun r hr => by
   rcases List.mem_cons.1 (h r (hsub r hr)) with e | e
   ·have := h2 r hr; omega
   ·exact e
  have f1 : ys.filter (fun r => vkey r == k) = A := by
   rw [e, List.filter_append, List.filter_eq_self.2 (fun r hr => by simp [h1 r hr]), List.filter_eq_nil_iff.2 (fun r hr => by have := h2 r hr; simp; omega), List.append_nil]
  have f2 : (Ks.map fun k => ys.filter fun r => vkey r == k) = (Ks.map fun k => B.filter fun r => vkey r == k) := by
   refine List.map_congr_left fun k' hk' => ?_
   have := hk1 k' hk'
   rw [e, List.filter_append, List.filter_eq_nil_iff.2 (fun r hr => by have := h1 r hr; simp; omega), List.nil_append]
  rw [List.map_cons, f1, f2]
  cases A with
  | nil =>
   rw [List.filter_cons_of_neg (by simp), ih, e, List.nil_append]
  | cons r A =>
   rw [List.filter_cons_of_pos (by simp), ih, e]
   refine (grps_run (k := k) (by simp) h1 fun q hq => ?_).symm
   cases B with
   | nil => cases hq
   | cons x B =>
    injection hq with hq
    subst hq
    have := h2 x (List.mem_cons_self ..)
    omega
def avT (a b : Int) (r : Vr) : Vr := { r with t := r.t.tdiv a, c := r.c.tdiv b }
def byK (l : List Vr) (k : Int) : List Vr := l.filter fun r => vkey r == k
def avK (Ks : List Int) (l : List Vr) : Int × List Vr := avF (Ks.map (byK l))
theorem avK_grps {Ks : List Int} {xs ys : List Vr} (hk : Ks.Pairwise (· < ·)) (hs : Srt vkey ys) (he : FE vkey xs ys) (h : ∀ r ∈ xs, vkey r ∈ Ks) : avK Ks xs = avF (grps ys) := by
 unfold avK
 have e : Ks.map (byK xs) = Ks.map (byK ys) := List.map_congr_left fun k _ => he k
 rw [e, ← avF_ne]
 show avF ((Ks.map fun k => ys.filter fun r => vkey r == k).filter _) = _
 rw [grps_keys hk hs fun r hr => h r (he.mem.2 hr)]
end Go.Proofs.YtbbnkclajpaghaaGreatDoor
namespace Go.Proofs.YtbbnkclajpaghaaGreatDoor
def allK : List Int := (List.range 65536).map Int.ofNat
theorem allK_lt : allK.Pairwise (· < ·) := by
 unfold allK
 rw [List.pairwise_map]
 exact List.pairwise_lt_range.imp fun h => by simpa using h
theorem allK_mem {k : Int} : k ∈ allK ↔ 0 ≤ k ∧ k < 65536 := by
 unfold allK
 rw [List.mem_map]
 constructor
 ·rintro ⟨n, hn, rfl⟩
  have := List.mem_range.1 hn
  exact ⟨by simp, by simp; omega⟩
 ·rintro ⟨h0, h1⟩
  exact ⟨k.toNat, List.mem_range.2 (by omega), by simp; omega⟩
theorem key_all {r : Vr} (h : rowB r = true) : vkey r ∈ allK := by
 have := rowB_facts h
 rw [allK_mem]
 unfold vkey
 omega
def hK (a b k : Int) : Int := ((k / 1024 / a * 16 + k / 64 % 16 / b) * 8 + k / 8 % 8) * 8 + k % 8
theorem key_parts {r : Vr} (h : rowB r = true) : vkey r / 1024 = r.t ∧ vkey r / 64 % 16 = r.c ∧ vkey r / 8 % 8 = r.i ∧ vkey r % 8 = r.j := by
 have := rowB_facts h
 unfold vkey
 omega
theorem key_same {r s : Vr} (h : rowB r = true) (h' : rowB s = true) (e : vkey r = vkey s) : r.t = s.t ∧ r.c = s.c ∧ r.i = s.i ∧ r.j = s.j := by
 have h1 := key_parts h
 have h2 := key_parts h'
 rw [e] at h1
 omega
theorem quo_bd {x a n : Int} (h0 : 0 ≤ x) (h1 : x < n) (ha : 1 ≤ a) : 0 ≤ x / a ∧ x / a < n := by
 refine ⟨Int.ediv_nonneg h0 (by omega), ?_⟩
 have := Int.ediv_le_self a h0
 omega
theorem avT_quo {a b : Int} {r : Vr} (ha : 1 ≤ a) (hb : 1 ≤ b) (h : rowB r = true) : avT a b r = { r with t := r.t / a, c := r.c / b } := by
 have := rowB_facts h
 unfold avT
 rw [Int.tdiv_eq_ediv_of_nonneg (by omega), Int.tdiv_eq_ediv_of_nonneg (by omega)]
theorem avT_row {a b : Int} {r : Vr} (ha : 1 ≤ a) (hb : 1 ≤ b) (h : rowB r = true) : rowB (avT a b r) = true := by
 have h0 := rowB_facts h
 have h1 := quo_bd (a := a) h0.1 h0.2.1 ha
 have h2 := quo_bd (a := b) h0.2.2.1 h0.2.2.2.1 hb
 rw [avT_quo ha hb h]
 have h3 : visB r = true := by
  simp only [rowB, Bool.and_eq_true] at h
  exact h.2.2.2.2
 have h4 : visB { r with t := r.t / a, c := r.c / b } = visB r := rfl
 unfold rowB
 rw [h4, h3]
 simp only [Bool.and_eq_true, decide_eq_true_eq]
 exact ⟨h1.1, h1.2, h2.1, h2.2, trivial⟩
theorem row_vis {r : Vr} (h : rowB r = true) : visB r = true := by
 simp only [rowB, Bool.and_eq_true] at h
 exact h.2.2.2.2
def avR (a b : Int) (t : List Vr) : Int × List Vr := avK allK (t.map (avT a b))
end Go.Proofs.YtbbnkclajpaghaaGreatDoor
namespace Go.Proofs.YtbbnkclajpaghaaGreatDoor
def ins (r : Vr) : List Vr → List Vr
 | [] => [r]
 | q :: l => if vkey r ≤ vkey q then r :: q :: l else q :: ins r l
def isort : List Vr → List Vr
 | [] => []
 | r :: l => ins r (isort l)
theorem ins_mem {r x : Vr} : ∀ {l : List Vr}, x ∈ ins r l ↔ x = r ∨ x ∈ l
 | [] => by simp [ins]
 | q :: l => by
  unfold ins
  split
  ·simp
  ·rw [List.mem_cons, ins_mem (l := l), List.mem_cons]
   constructor
   ·rintro (h | h | h)
    ·exact .inr (.inl h)
    ·exact .inl h
    ·exact .inr (.inr h)
   ·rintro (h | h | h)
    ·exact .inr (.inl h)
    ·exact .inl h
    ·exact .inr (.inr h)
theorem ins_srt {r : Vr} : ∀ {l : List Vr}, Srt vkey l → Srt vkey (ins r l)
 | [], _ => List.pairwise_singleton ..
 | q :: l, h => by
  obtain ⟨h1, h2⟩ := List.pairwise_cons.1 h
  unfold ins
  split
  ·rename_i hc
   refine List.pairwise_cons.2 ⟨fun x hx => ?_, h⟩
   rcases List.mem_cons.1 hx with rfl | hx
   ·exact hc
   ·have := h1 x hx; omega
  ·rename_i hc
   refine List.pairwise_cons.2 ⟨fun x hx => ?_, ins_srt h2⟩
   rcases ins_mem.1 hx with rfl | hx
   ·omega
   ·exact h1 x hx
theorem ins_fe {r : Vr} : ∀ {l : List Vr}, Srt vkey l → FE vkey (ins r l) (r :: l)
 | [], _ => FE.refl _
 | q :: l, h => by
  obtain ⟨h1, h2⟩ := List.pairwise_cons.1 h
  unfold ins
  split
  ·exact FE.refl _
  ·rename_i hc
   intro k
   have ih := ins_fe (r := r) h2 k
   by_cases e : vkey q = k
   ·have e' : ¬ vkey r = k := by omega
    rw [List.filter_cons_of_pos (by simpa using e), ih, List.filter_cons_of_neg (by simpa using e'), List.filter_cons_of_neg (by simpa using e'), List.filter_cons_of_pos (by simpa using e)]
   ·rw [List.filter_cons_of_neg (by simpa using e), ih]
    by_cases e' : vkey r = k
    ·rw [List.filter_cons_of_pos (by simpa using e'), List.filter_cons_of_pos (by simpa using e'), List.filter_cons_of_neg (by simpa using e)]
    ·rw [List.filter_cons_of_neg (by simpa using e'), List.filter_cons_of_neg (by simpa using e'), List.filter_cons_of_neg (by simpa using e)]
theorem isort_srt : ∀ (l : List Vr), Srt vkey (isort l)
 | [] => List.Pairwise.nil
 | r :: l => ins_srt (isort_srt l)
theorem isort_fe : ∀ (l : List Vr), FE vkey l (isort l)
 | [] => FE.refl _
 | r :: l => by
  refine FE.trans (fun k => ?_) (ins_fe (isort_srt l)).symm
  have := isort_fe l k
  by_cases e : vkey r = k
  ·rw [List.filter_cons_of_pos (by simpa using e), List.filter_cons_of_pos (by simpa using e), this]
  ·rw [List.filter_cons_of_neg (by simpa using e), List.filter_cons_of_neg (by simpa using e), this]
theorem isort_len : ∀ (l : List Vr), (isort l).length = l.length
 | [] => rfl
 | r :: l => by
  have h : ∀ (l : List Vr), (ins r l).length = l.length + 1 := fun l => by
   induction l with
   | nil => rfl
   | cons q l ih => unfold ins; split <;> simp [ih]
  show (ins r (isort l)).length = _
  rw [h, isort_len l, List.length_cons]
theorem mapT_row {a b : Int} {t : List Vr} (ha : 1 ≤ a) (hb : 1 ≤ b) (ht : ∀ r ∈ t, rowB r = true) : ∀ r ∈ t.map (avT a b), rowB r = true := fun r hr => by
 obtain ⟨q, hq, rfl⟩ := List.mem_map.1 hr
 exact avT_row ha hb (ht q hq)
theorem avR_isort {a b : Int} {t : List Vr} (ha : 1 ≤ a) (hb : 1 ≤ b) (ht : ∀ r ∈ t, rowB r = true) : avR a b t = avF (grps (isort (t.map (avT a b)))) :=
 avK_grps allK_lt (isort_srt _) (isort_fe _) fun r hr => key_all (mapT_row ha hb ht r hr)
def avgE (l : List Vr) (a b : Int) : Int := if chkE l ≠ 0 then chkE l else if a < 1 ∨ 64 < a ∨ b < 1 ∨ 16 < b then 2 else (avR a b l).1
def avgL (l : List Vr) (a b : Int) : List Vr := if avgE l a b = 0 then (avR a b l).2 else []
end Go.Proofs.YtbbnkclajpaghaaGreatDoor
namespace Go.Proofs.YtbbnkclajpaghaaGreatDoor
open Go.ChangeShapes Go.WideShapes Go.ChangeAt Go.RowKit
abbrev RTy : TypeId := 67
def RW (W : World) (g : Nat) (xs : List Vr) : Prop := W.heap[g]? = some (.cells (vrc xs).toArray RTy)
theorem RW.lt {W : World} {g : Nat} {xs : List Vr} (h : RW W g xs) : g < W.heap.size := blk_lt h
theorem RW.next {W W' : World} {g : Nat} {xs : List Vr} (h : RW W g xs) (hb : Below W.heap.size W W') : RW W' g xs := blk_next hb h
theorem vrc_len (l : List Vr) : (vrc l).length = l.length * 8 := by
 unfold vrc
 induction l with
 | nil => rfl
 | cons r l ih => rw [List.flatMap_cons, List.length_append, ih, List.length_cons]; show 8 + _ = _; omega
theorem vrc_get {l : List Vr} {j : Nat} {r : Vr} (h : l[j]? = some r) (q : Nat) (v : Value) (hv : (vr8 r)[q]? = some v) : (vrc l)[j * 8 + q]? = some v := by
 obtain ⟨hj, rfl⟩ := List.getElem?_eq_some_iff.1 h
 have hq : q < 8 := (List.getElem?_eq_some_iff.1 hv).1
 have e : vrc l = vrc (l.take j) ++ (vr8 l[j] ++ vrc (l.drop (j + 1))) := by
  conv => lhs; rw [← List.take_append_drop j l, List.drop_eq_getElem_cons hj]
  rw [vrc_append]
  rfl
 rw [e, List.getElem?_append_right (by rw [vrc_len, List.length_take]; omega), vrc_len, List.length_take, show min j l.length = j by omega, show j * 8 + q - j * 8 = q by omega, List.getElem?_append_left (show q < (vr8 l[j]).length from hq)]
 exact hv
theorem RW.cell {W : World} {g : Nat} {xs : List Vr} (h : RW W g xs) {j : Nat} {r : Vr} (hr : xs[j]? = some r) (q : Nat) (v : Value) (hv : (vr8 r)[q]? = some v) : W.cell? ⟨g, j * 8 + q, none⟩ = some v :=
 blk_cell h _ _ (by rw [List.getElem?_toArray]; exact vrc_get hr q v hv)
theorem blk_setCells : ∀ (vs : List Value) (o : Nat) {W : World} {g : Nat} {cs : Array Value} {T : TypeId}, W.heap[g]? = some (.cells cs T) → ∃ cs', (W.setCells g o vs).heap[g]? = some (.cells cs' T) ∧ cs'.size = cs.size ∧ ∀ k, cs'[k]? = if o ≤ k ∧ k < o + vs.length ∧ k < cs.size then vs[k - o]? else cs[k]?
 | [], o, W, g, cs, T, h => ⟨cs, h, rfl, fun k => by rw [if_neg (by simp; omega)]⟩
 | v :: vs, o, W, g, cs, T, h => by
  obtain ⟨cs', h1, h2, h3⟩ := blk_setCells vs (o + 1) (blk_set h o v)
  refine ⟨cs', h1, by rw [h2]; simp, fun k => ?_⟩
  rw [h3 k, Array.getElem?_setIfInBounds, Array.size_setIfInBounds, List.length_cons]
  by_cases e : o = k
  ·subst e
   rw [if_neg (by omega), if_pos rfl]
   by_cases hk : o < cs.size
   ·simp [hk]
   ·simp [hk]
  ·rw [if_neg e]
   by_cases hk : o + 1 ≤ k ∧ k < o + 1 + vs.length ∧ k < cs.size
   ·rw [if_pos hk, if_pos (by omega), show k - o = (k - (o + 1)) + 1 by omega, List.getElem?_cons_succ]
   ·rw [if_neg hk, if_neg (by omega)]
theorem setCells_other {W : World} {g b : Nat} (hb : b ≠ g) : ∀ (vs : List Value) (o : Nat) {W : World}, (W.setCells g o vs).heap[b]? = W.heap[b]?
 | [], _, _ => rfl
 | v :: vs, o, W => by
  rw [World.setCells, setCells_other (W := W) hb vs (o + 1)]
  simp [World.setCell, Array.getElem?_modify, Ne.symm hb]
theorem setCells_grown (g : Nat) : ∀ (vs : List Value) (o : Nat) (W : World), W.grownBy (W.setCells g o vs) (some g)
 | [], _, W => ⟨rfl, rfl, rfl, Nat.le_refl _, fun _ _ _ => rfl⟩
 | v :: vs, o, W => by
  have h1 : W.grownBy (W.setCell ⟨g, o, none⟩ v) (some g) := ⟨rfl, rfl, rfl, by simp, fun k _ hk => heap_setCell_other W ⟨g, o, none⟩ k v (fun e => hk (by simp [e]))⟩
  have h2 := setCells_grown g vs (o + 1) (W.setCell ⟨g, o, none⟩ v)
  exact ⟨h2.os.trans h1.os, h2.tape.trans h1.tape, h2.output.trans h1.output, Nat.le_trans h1.size h2.size, fun k hk hn => (h2.block k (Nat.lt_of_lt_of_le hk h1.size) hn).trans (h1.block k hk hn)⟩
theorem vrc_set {l : List Vr} {j : Nat} (hj : j < l.length) (r : Vr) (k : Nat) : (vrc (l.set j r))[k]? = if j * 8 ≤ k ∧ k < j * 8 + 8 then (vr8 r)[k - j * 8]? else (vrc l)[k]? := by
 obtain ⟨q, u, hq, rfl⟩ : ∃ q u, u < 8 ∧ k = q * 8 + u := ⟨k / 8, k % 8, Nat.mod_lt _ (by decide), by omega⟩
 by_cases hql : q < l.length
 ·have A : (vrc l)[q * 8 + u]? = (vr8 l[q])[u]? := by
   have hv : (vr8 l[q])[u]? = some (vr8 l[q])[u] := List.getElem?_eq_getElem (show u < (vr8 l[q]).length from hq)
   rw [hv]; exact vrc_get (List.getElem?_eq_getElem hql) u _ hv
  have B : (vrc (l.set j r))[q * 8 + u]? = (vr8 (if j = q then r else l[q]))[u]? := by
   have hg : (l.set j r)[q]? = some (if j = q then r else l[q]) := by
    rw [List.getElem?_set]
    by_cases e : j = q
    ·rw [if_pos e, if_pos hj, if_pos e]
    ·rw [if_neg e, if_neg e, List.getElem?_eq_getElem hql]
   generalize (if j = q then r else l[q]) = z at *
   have hv : (vr8 z)[u]? = some (vr8 z)[u] := List.getElem?_eq_getElem (show u < (vr8 z).length from hq)
   rw [hv]; exact vrc_get hg u _ hv
  rw [A, B]
  by_cases e : j = q
  ·rw [if_pos e, if_pos (by omega)]; congr 1; omega
  ·rw [if_neg e, if_neg (by omega)]
 ·rw [if_neg (by omega), List.getElem?_eq_none (by rw [vrc_len, List.length_set]; omega), List.getElem?_eq_none (by rw [vrc_len]; omega)]
theorem RW.set {W : World} {g : Nat} {xs : List Vr} (h : RW W g xs) {j : Nat} (hj : j < xs.length) (r : Vr) : RW (W.setCells g (j * 8) (vr8 r)) g (xs.set j r) := by
 obtain ⟨cs', h1, h2, h3⟩ := blk_setCells (vr8 r) (j * 8) h
 have e : cs' = (vrc (xs.set j r)).toArray := by
  apply Array.ext_getElem?
  intro k
  rw [h3 k, List.getElem?_toArray, List.getElem?_toArray, vrc_set hj r k]
  have hl : (vr8 r).length = 8 := rfl
  rw [hl, List.size_toArray, vrc_len]
  by_cases hk : j * 8 ≤ k ∧ k < j * 8 + 8
  ·rw [if_pos ⟨hk.1, hk.2, by omega⟩, if_pos hk]
  ·rw [if_neg (by omega), if_neg hk]
 unfold RW
 rw [h1, e]
theorem RW.there {W : World} {g : Nat} {xs : List Vr} (h : RW W g xs) {j : Nat} (hj : j < xs.length) : W.there g (j * 8) 8 := fun q hq => by
 have hr : xs[j]? = some xs[j] := List.getElem?_eq_getElem hj
 have hv : (vr8 xs[j])[q]? = some (vr8 xs[j])[q] := List.getElem?_eq_getElem (show q < (vr8 xs[j]).length from hq)
 exact ⟨by rw [h.cell hr q _ hv]; rfl, blk_frozen h _⟩
theorem one8 (r : Vr) : (vr8 r).toArray.all (·.oneCell') = true := by simp [vr8, Value.oneCell']
theorem infoR : (Tryz.prog.info? RTy).map (·.size) = some 8 := by kernel_rfl
theorem grown_of_below {W W' : World} (h : Below W.heap.size W W') (row : Option Nat) : W.grownBy W' row := ⟨h.os, h.tape, h.output, h.size, fun k hk _ => h.block k hk⟩
theorem grown_trans {A B C : World} {row : Option Nat} (h1 : A.grownBy B row) (h2 : B.grownBy C row) : A.grownBy C row := ⟨h2.os.trans h1.os, h2.tape.trans h1.tape, h2.output.trans h1.output, Nat.le_trans h1.size h2.size, fun k hk hn => (h2.block k (Nat.lt_of_lt_of_le hk h1.size) hn).trans (h1.block k hk hn)⟩
theorem grown_refl (A : World) (row : Option Nat) : A.grownBy A row := ⟨rfl, rfl, rfl, Nat.le_refl _, fun _ _ _ => rfl⟩
theorem wp_store_row {op : Oper} {a : Act} {w : World} {K : Act → World → Prop} {Q : Exit → Act → World → Prop} (x y : Operand) (ho : op.op = .store RTy x y)
  (g j : Nat) (xs : List Vr) (r : Vr) (hx : a.eval x = .pointer (some ⟨g, j * 8, none⟩)) (hy : a.eval y = .agg (vr8 r).toArray) (hw : RW w g xs) (hj : j < xs.length)
  (h : K (a.put op.dst undef) (w.setCells g (j * 8) (vr8 r))) : op.wp Tryz.prog a w K Q :=
 wp_store_mid RTy x y ho g (j * 8) (vr8 r).toArray hx hy (hw.there hj) infoR (one8 r) h
theorem GK.setCells {L : List (Nat × Nat × Obj)} {k g : Nat} {X : World} (h : GK L k X) (hn : ∀ p ∈ L, p.1 = k → p.2.1 ≠ g) (o : Nat) (vs : List Value) : GK L k (X.setCells g o vs) := fun p hp e => (setCells_other (W := X) (hn p hp e) vs o).trans (h p hp e)
end Go.Proofs.YtbbnkclajpaghaaGreatDoor
namespace Go.Proofs.YtbbnkclajpaghaaGreatDoor.Dv
theorem lt_q {M y q : Nat} (hy : 0 < y) (h : M < q * y) : M / y < q := (Nat.div_lt_iff_lt_mul hy).2 h
theorem le_q {M y q : Nat} (hy : 0 < y) (h : q * y ≤ M) : q ≤ M / y := (Nat.le_div_iff_mul_le hy).2 h
structure G (U u1 d1 d0 q r : Nat) : Prop where
 e : q * d1 + r = U
 hi : (U * 4294967296 + u1) / (d1 * 4294967296 + d0) ≤ q
theorem top {U u1 y : Nat} (hU : U < y) (hu : u1 < 4294967296) : (U * 4294967296 + u1) / y < 4294967296 := by
 refine lt_q (by omega) ?_
 rw [Nat.mul_comm 4294967296 y]
 omega
theorem mulY (q d1 d0 : Nat) : q * (d1 * 4294967296 + d0) = q * d1 * 4294967296 + q * d0 := by rw [Nat.mul_add, Nat.mul_assoc]
theorem start {U u1 d1 d0 : Nat} (h1 : 0 < d1) (hu : u1 < 4294967296) : G U u1 d1 d0 (U / d1) (U % d1) := by
 refine ⟨by rw [Nat.mul_comm]; exact Nat.div_add_mod U d1, ?_⟩
 refine Nat.le_of_lt_succ (lt_q (by omega) ?_)
 rw [mulY]
 have h := Nat.lt_div_mul_add (a := U) h1
 have : U + 1 ≤ (U / d1 + 1) * d1 := by rw [Nat.add_mul, Nat.one_mul]; omega
 generalize (U / d1 + 1) * d0 = z at *
 generalize (U / d1 + 1) * d1 = z' at *
 omega
theorem G.down {U u1 d1 d0 q r : Nat} (g : G U u1 d1 d0 q r) (h1 : 0 < d1) (hU : U < d1 * 4294967296 + d0) (hu : u1 < 4294967296) (h : 4294967296 ≤ q ∨ 4294967296 * r + u1 < q * d0) :
  1 ≤ q ∧ G U u1 d1 d0 (q - 1) (r + d1) := by
 have q1 : 1 ≤ q := by
  rcases h with h | h
  ·omega
  ·exact Nat.pos_of_ne_zero (fun z => by rw [z, Nat.zero_mul] at h; omega)
 refine ⟨q1, ?_, ?_⟩
 ·have e := g.e
  have : q * d1 = (q - 1) * d1 + d1 := by rw [Nat.sub_mul, Nat.one_mul, Nat.sub_add_cancel (Nat.le_mul_of_pos_left _ q1)]
  omega
 ·have : (U * 4294967296 + u1) / (d1 * 4294967296 + d0) < q := by
   rcases h with h | h
   ·exact Nat.lt_of_lt_of_le (top hU hu) h
   ·refine lt_q (by omega) ?_
    rw [mulY]
    have e := g.e
    generalize q * d1 = a at *
    omega
  omega
theorem G.bound {U u1 d1 d0 q r : Nat} (g : G U u1 d1 d0 q r) (h1 : 0 < d1) (hU : U < d1 * 4294967296 + d0) (hd : d0 < 4294967296) (hr : 4294967296 ≤ r) : q < 4294967296 := by
 have e := g.e
 by_cases c : q < 4294967296
 ·exact c
 ·have := Nat.mul_le_mul_right d1 (show 4294967296 ≤ q by omega)
  rw [Nat.mul_comm 4294967296 d1] at this
  omega
theorem G.done1 {U u1 d1 d0 q r : Nat} (g : G U u1 d1 d0 q r) (h1 : 0 < d1) (h : q * d0 ≤ 4294967296 * r + u1) : q = (U * 4294967296 + u1) / (d1 * 4294967296 + d0) := by
 refine Nat.le_antisymm (le_q (by omega) ?_) g.hi
 rw [mulY]
 have e := g.e
 generalize q * d1 = a at *
 omega
theorem G.done2 {U u1 d1 d0 q r : Nat} (g : G U u1 d1 d0 q r) (h1 : 0 < d1) (hU : U < d1 * 4294967296 + d0) (hd : d0 < 4294967296) (hr : 4294967296 ≤ r) : q = (U * 4294967296 + u1) / (d1 * 4294967296 + d0) := by
 refine g.done1 h1 ?_
 have := g.bound h1 hU hd hr
 have : q * d0 ≤ 4294967296 * 4294967296 := Nat.mul_le_mul (by omega) (by omega)
 omega
theorem left {M y : Nat} : M - M / y * y = M % y := by
 have := Nat.div_add_mod M y
 rw [Nat.mul_comm] at this
 omega
theorem both {M u0 y : Nat} (hy : 0 < y) : M / y * 4294967296 + (M % y * 4294967296 + u0) / y = (M * 4294967296 + u0) / y ∧ (M % y * 4294967296 + u0) % y = (M * 4294967296 + u0) % y := by
 have h := Nat.div_add_mod M y
 have k : M * 4294967296 + u0 = (M % y * 4294967296 + u0) + y * (M / y * 4294967296) := by
  have : M * 4294967296 = (y * (M / y) + M % y) * 4294967296 := by rw [h]
  rw [this]; grind
 rw [k, Nat.add_mul_div_left _ _ hy, Nat.add_mul_mod_self_left]
 exact ⟨Nat.add_comm _ _, rfl⟩
theorem moved {hi lo y s : Nat} (hs : 2 ^ s ∣ 18446744073709551616) (hlo : lo < 18446744073709551616) :
  (hi * 2 ^ s + lo / (18446744073709551616 / 2 ^ s)) * 18446744073709551616 + lo * 2 ^ s % 18446744073709551616 = (hi * 18446744073709551616 + lo) * 2 ^ s := by
 obtain ⟨t, ht⟩ := hs
 have hp : 0 < 2 ^ s := Nat.two_pow_pos s
 rw [ht, Nat.mul_div_cancel_left _ hp]
 generalize 2 ^ s = p at *
 have h := Nat.div_add_mod lo t
 rw [Nat.mul_comm lo p, Nat.mul_mod_mul_left]
 have : lo * p = (t * (lo / t) + lo % t) * p := by rw [h]
 rw [Nat.add_mul, Nat.add_mul (hi * (p * t)), this]
 generalize lo / t = a at *
 generalize lo % t = b at *
 grind
theorem back {N y s : Nat} : N * 2 ^ s / (y * 2 ^ s) = N / y ∧ N * 2 ^ s % (y * 2 ^ s) / 2 ^ s = N % y :=
 ⟨Nat.mul_div_mul_right _ _ (Nat.two_pow_pos s), by rw [Nat.mul_mod_mul_right, Nat.mul_div_cancel _ (Nat.two_pow_pos s)]⟩
end Go.Proofs.YtbbnkclajpaghaaGreatDoor.Dv
