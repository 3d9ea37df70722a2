/- Plain law of layer 45: the elimination solves the equations of lost blocks, so that a sound stripe without some blocks gives its data again. -/
import Derived.Test.YtmpmeeacdllomaaPab
namespace Go.Proofs.Ytmpmeeacdllomaa
open Gf
set_option linter.unusedVariables false

/- sums -/
def sumN (f : Nat → Nat) : Nat → Nat
  | 0 => 0
  | n + 1 => sumN f n ^^^ f n
theorem sumN_congr {f g : Nat → Nat} : ∀ {n : Nat}, (∀ k, k < n → f k = g k) → sumN f n = sumN g n
  | 0, _ => rfl
  | n + 1, h => by simp only [sumN]; rw [sumN_congr (fun k hk => h k (by omega)), h n (by omega)]
theorem sumN_xor (f g : Nat → Nat) (n : Nat) : sumN (fun k => f k ^^^ g k) n = sumN f n ^^^ sumN g n := by
  induction n with
  | zero => simp [sumN]
  | succ n ih => simp only [sumN]; rw [ih]; ac_rfl
theorem sumN_gm (c : Nat) (f : Nat → Nat) (n : Nat) : sumN (fun k => gm c (f k)) n = gm c (sumN f n) := by
  induction n with
  | zero => simp [sumN, gm_zero_right]
  | succ n ih => simp only [sumN]; rw [ih, gm_xor_right]
theorem sumN_zero {f : Nat → Nat} {n : Nat} (h : ∀ k, k < n → f k = 0) : sumN f n = 0 := by
  induction n with
  | zero => rfl
  | succ n ih => simp only [sumN]; rw [ih (fun k hk => h k (by omega)), h n (by omega)]; rfl
theorem sumN_one {f : Nat → Nat} {n i : Nat} (hi : i < n) (h : ∀ k, k < n → k ≠ i → f k = 0) : sumN f n = f i := by
  induction n with
  | zero => omega
  | succ n ih =>
    simp only [sumN]
    by_cases e : i = n
    · subst e
      rw [sumN_zero (fun k hk => h k (by omega) (by omega)), Nat.zero_xor]
    · rw [ih (by omega) (fun k hk hne => h k (by omega) hne), h n (by omega) (fun e' => e e'.symm), Nat.xor_zero]
theorem sumN_lt {f : Nat → Nat} {n : Nat} (h : ∀ k, k < n → f k < 256) : sumN f n < 256 := by
  induction n with
  | zero => simp [sumN]
  | succ n ih => exact xor_lt (ih fun k hk => h k (by omega)) (h n (by omega))
theorem xor_xor_self (a b : Nat) : a ^^^ (a ^^^ b) = b := by rw [← Nat.xor_assoc, Nat.xor_self, Nat.zero_xor]

theorem addR_getD {s b : List Nat} {f t : Nat} (h : t < s.length) : (addR s b f).getD t 0 = s.getD t 0 ^^^ gm f (b.getD t 0) := by
  simp only [addR, List.getD_eq_getElem?_getD, List.getElem?_map, List.getElem?_range h, Option.map_some, Option.getD_some]
theorem scaleR_getD (f : Nat) (l : List Nat) (t : Nat) : (scaleR f l).getD t 0 = gm f (l.getD t 0) := by
  simp only [scaleR, List.getD_eq_getElem?_getD, List.getElem?_map]
  cases l[t]? with
  | none => simp [gm_zero_right]
  | some x => rfl
theorem Byt.getD_ {l : List Nat} (h : Byt l) (t : Nat) : l.getD t 0 < 256 := by
  rw [List.getD_eq_getElem?_getD]
  cases e : l[t]? with
  | none => simp
  | some x => exact h.at_ e
theorem rows_getD {p : List Nat → Prop} {m : List (List Nat)} (h : ∀ l ∈ m, p l) (h0 : p []) (i : Nat) : p (m.getD i []) := by
  rw [List.getD_eq_getElem?_getD]
  cases e : m[i]? with
  | none => exact h0
  | some x => exact h x (List.mem_of_getElem? e)
theorem elim_getD {M L : List (List Nat)} {p r i : Nat} (hi : i < L.length) : (elim M L p r).getD i [] = if i = p then scaleR (pivF M p) (L.getD p []) else if i < r then addR (L.getD i []) (scaleR (pivF M p) (L.getD p [])) ((M.getD i []).getD p 0) else L.getD i [] :=
  getD_of (elim_at hi)
theorem pivF_lt {M : List (List Nat)} (h : ∀ l ∈ M, Byt l) (p : Nat) : pivF M p < 256 := gi_lt (Byt.getD_ (rows_getD h Byt.nil p) p)
theorem elim_byt {M L : List (List Nat)} {p r : Nat} (hM : ∀ l ∈ M, Byt l) (hL : ∀ l ∈ L, Byt l) : ∀ l ∈ elim M L p r, Byt l := fun l hl => by
  simp only [elim, List.mem_map, List.mem_range] at hl
  obtain ⟨i, hi, rfl⟩ := hl
  split
  · exact scaleR_byt _ (pivF_lt hM p)
  · split
    · exact addR_byt (rows_getD hL Byt.nil i) (Byt.getD_ (rows_getD hM Byt.nil i) p)
    · exact rows_getD hL Byt.nil i
theorem gjTo_byt {M R : List (List Nat)} (hM : ∀ l ∈ M, Byt l) : ∀ p, ∀ l ∈ (gjTo M R p).1, Byt l
  | 0 => hM
  | p + 1 => elim_byt (gjTo_byt hM p) (gjTo_byt hM p)
theorem gjTo_bytR {M R : List (List Nat)} (hM : ∀ l ∈ M, Byt l) (hR : ∀ l ∈ R, Byt l) : ∀ p, ∀ l ∈ (gjTo M R p).2, Byt l
  | 0 => hR
  | p + 1 => elim_byt (gjTo_byt hM p) (gjTo_bytR hM hR p)
/- the matrix does not depend on the right sides -/
theorem gjTo_fst (M R R' : List (List Nat)) : ∀ p, (gjTo M R p).1 = (gjTo M R' p).1
  | 0 => rfl
  | p + 1 => by simp only [gjTo]; rw [gjTo_fst M R R' p]

/- x solves the equations at the place t -/
def Sol (M R : List (List Nat)) (x : Nat → Nat) (t n : Nat) : Prop := ∀ i, i < n → sumN (fun k => gm ((M.getD i []).getD k 0) (x k)) n = (R.getD i []).getD t 0
theorem dot_scale {r : List Nat} {x : Nat → Nat} {f n : Nat} (hf : f < 256) (hr : Byt r) (hx : ∀ k, x k < 256) : sumN (fun k => gm ((scaleR f r).getD k 0) (x k)) n = gm f (sumN (fun k => gm (r.getD k 0) (x k)) n) := by
  rw [← sumN_gm]
  exact sumN_congr fun k hk => by rw [scaleR_getD, gm_assoc hf (hr.getD_ k) (hx k)]
theorem dot_add {r s : List Nat} {x : Nat → Nat} {f n : Nat} (hf : f < 256) (hr : Byt r) (hs : Byt s) (hx : ∀ k, x k < 256) (hn : n ≤ r.length) : sumN (fun k => gm ((addR r s f).getD k 0) (x k)) n = sumN (fun k => gm (r.getD k 0) (x k)) n ^^^ gm f (sumN (fun k => gm (s.getD k 0) (x k)) n) := by
  rw [← sumN_gm, ← sumN_xor]
  exact sumN_congr fun k hk => by rw [addR_getD (by omega), gm_xor_left _ (hr.getD_ k) (gm_lt hf), gm_assoc hf (hs.getD_ k) (hx k)]
theorem len_getD {m : List (List Nat)} {q i : Nat} (h : ∀ l ∈ m, l.length = q) (hi : i < m.length) : (m.getD i []).length = q := by
  obtain ⟨l, hl⟩ := get_some hi
  rw [getD_of hl]; exact h l (List.mem_of_getElem? hl)
theorem elim_sol {M R : List (List Nat)} {x : Nat → Nat} {t n q p : Nat} (hM : M.length = n) (hR : R.length = n) (rM : ∀ l ∈ M, l.length = n) (rR : ∀ l ∈ R, l.length = q) (bM : ∀ l ∈ M, Byt l) (hx : ∀ k, x k < 256) (ht : t < q) (hp : p < n) (h : Sol M R x t n) :
    Sol (elim M M p n) (elim M R p n) x t n := fun i hi => by
  have B := fun i => rows_getD bM Byt.nil i
  rw [elim_getD (by omega), elim_getD (by omega)]
  by_cases e : i = p
  · rw [if_pos e, if_pos e, dot_scale (pivF_lt bM p) (B p) hx, h p hp, scaleR_getD]
  · rw [if_neg e, if_neg e, if_pos hi, if_pos hi, dot_add ((B i).getD_ p) (B i) (scaleR_byt _ (pivF_lt bM p)) hx (by rw [len_getD rM (by omega)]; exact Nat.le_refl _), dot_scale (pivF_lt bM p) (B p) hx, h i hi, h p hp,
      addR_getD (by rw [len_getD rR (by omega)]; exact ht), scaleR_getD]
theorem gjTo_sol {M R : List (List Nat)} {x : Nat → Nat} {t n q : Nat} (hM : M.length = n) (hR : R.length = n) (rM : ∀ l ∈ M, l.length = n) (rR : ∀ l ∈ R, l.length = q) (bM : ∀ l ∈ M, Byt l) (hx : ∀ k, x k < 256) (ht : t < q) (h : Sol M R x t n) :
    ∀ p, p ≤ n → Sol (gjTo M R p).1 (gjTo M R p).2 x t n
  | 0, _ => h
  | p + 1, hp => by
    have gl := gjTo_len M R p
    have gr := gjTo_rows rM rR (by omega) p (by omega)
    simp only [gjTo]
    rw [hM]
    exact elim_sol (by rw [gl.1, hM]) (by rw [gl.2, hR]) gr.1 gr.2 (gjTo_byt bM p) hx ht (by omega) (gjTo_sol hM hR rM rR bM hx ht h p (by omega))
/- the unit matrix -/
def unitM (n : Nat) : List (List Nat) := (List.range n).map fun i => (List.range n).map fun k => if k = i then 1 else 0
theorem unit_getD {n i k : Nat} (hi : i < n) (hk : k < n) : ((unitM n).getD i []).getD k 0 = if k = i then 1 else 0 := by
  have : (unitM n)[i]? = some ((List.range n).map fun k => if k = i then 1 else 0) := by simp [unitM, hi]
  rw [getD_of this]
  simp [List.getD_eq_getElem?_getD, hk]
theorem sol_unit {R : List (List Nat)} {x : Nat → Nat} {t n i : Nat} (hx : ∀ k, x k < 256) (h : Sol (unitM n) R x t n) (hi : i < n) : (R.getD i []).getD t 0 = x i := by
  rw [← h i hi, sumN_one hi (fun k hk hne => by rw [unit_getD hi hk, if_neg hne, gm_zero_left]), unit_getD hi hi, if_pos rfl, gm_one_left (hx i)]

/- increasing lists of g numbers below n -/
def subs : Nat → Nat → List (List Nat)
  | _, 0 => [[]]
  | 0, _ + 1 => []
  | n + 1, g + 1 => subs n (g + 1) ++ (subs n g).map (· ++ [n])
theorem subs_more {n g : Nat} {l : List Nat} (h : l ∈ subs n g) : l ∈ subs (n + 1) g := by
  cases g with
  | zero => simpa [subs] using h
  | succ g => rw [subs]; exact List.mem_append_left _ h
theorem subs_snoc {n g : Nat} {l : List Nat} (h : l ∈ subs n g) : l ++ [n] ∈ subs (n + 1) (g + 1) := by
  rw [subs]; exact List.mem_append_right _ (List.mem_map.2 ⟨l, h, rfl⟩)
theorem lostL_subs (m : List (List Nat)) : ∀ n, lostL m n ∈ subs n (lostL m n).length
  | 0 => by simp [lostL, subs]
  | n + 1 => by
    rw [lostL_more]
    split
    · rw [List.length_append]; exact subs_snoc (lostL_subs m n)
    · rw [List.append_nil]; exact subs_more (lostL_subs m n)
theorem choTo_subs (D : Nat) (m : List (List Nat)) (g : Nat) : ∀ k, choTo D m g k ∈ subs k (choTo D m g k).length
  | 0 => by simp [choTo, subs]
  | k + 1 => by
    rw [choTo]
    split
    · rw [List.length_append]; exact subs_snoc (choTo_subs D m g k)
    · exact subs_more (choTo_subs D m g k)
theorem subs_le {g : Nat} {l : List Nat} : ∀ {n k : Nat}, l ∈ subs n g → n ≤ k → l ∈ subs k g
  | n, 0, h, hk => by rw [Nat.le_zero.1 hk] at h; exact h
  | n, k + 1, h, hk => by
    by_cases e : n = k + 1
    · rw [← e]; exact h
    · exact subs_more (subs_le h (by omega))
/- values forced before they are used, so that the kernel reckons each once -/
def fN (x : Nat) (k : Nat → Bool) : Bool := match x with | 0 => k 0 | n + 1 => k (n + 1)
def fL : List Nat → (List Nat → Bool) → Bool
  | [], k => k []
  | x :: xs, k => fN x fun x' => fL xs fun xs' => k (x' :: xs')
def fM : List (List Nat) → (List (List Nat) → Bool) → Bool
  | [], k => k []
  | x :: xs, k => fL x fun x' => fM xs fun xs' => k (x' :: xs')
theorem fN_eq (x : Nat) (k : Nat → Bool) : fN x k = k x := by cases x <;> rfl
theorem fL_eq : ∀ (l : List Nat) (k : List Nat → Bool), fL l k = k l
  | [], k => rfl
  | x :: xs, k => by rw [fL, fN_eq, fL_eq xs]
theorem fM_eq : ∀ (l : List (List Nat)) (k : List (List Nat) → Bool), fM l k = k l
  | [], k => rfl
  | x :: xs, k => by rw [fM, fL_eq, fM_eq xs]
/- the pivots are not 0, and the matrix becomes the unit matrix -/
def chk (n : Nat) : Nat → Nat → List (List Nat) → Bool
  | 0, _, M => decide (M = unitM n)
  | r + 1, p, M => !((M.getD p []).getD p 0 == 0) && fM (elim M M p n) (chk n r (p + 1))
theorem chk_out {M : List (List Nat)} {n : Nat} (hM : M.length = n) : ∀ {r p : Nat}, p + r = n → chk n r p (gjTo M [] p).1 = true → (gjTo M [] n).1 = unitM n ∧ ∀ k, p ≤ k → k < n → ((gjTo M [] k).1.getD k []).getD k 0 ≠ 0
  | 0, p, hp, h => by
    have e : p = n := by omega
    subst e
    simp only [chk, decide_eq_true_eq] at h
    exact ⟨h, fun k h1 h2 => by omega⟩
  | r + 1, p, hp, h => by
    rw [chk, Bool.and_eq_true, fM_eq] at h
    have e : elim (gjTo M [] p).1 (gjTo M [] p).1 p n = (gjTo M [] (p + 1)).1 := by simp only [gjTo]; rw [hM]
    rw [e] at h
    have ih := chk_out hM (r := r) (p := p + 1) (by omega) h.2
    refine ⟨ih.1, fun k h1 h2 => ?_⟩
    by_cases e : k = p
    · subst e; simpa using h.1
    · exact ih.2 k (by omega) h2
def cauM (D : Nat) (gone cho : List Nat) : List (List Nat) := cho.map fun j => gone.map (fac D j)
def allOk (D g : Nat) : Bool := (subs D g).all fun gone => (subs 4 g).all fun cho => fM (cauM D gone cho) (chk g g 0)
theorem allOk_out {D g : Nat} (h : allOk D g = true) {gone cho : List Nat} (h1 : gone ∈ subs D g) (h2 : cho ∈ subs 4 g) (hg : cho.length = g) :
    (gjTo (cauM D gone cho) [] g).1 = unitM g ∧ ∀ k, k < g → ((gjTo (cauM D gone cho) [] k).1.getD k []).getD k 0 ≠ 0 := by
  unfold allOk at h
  have := List.all_eq_true.1 (List.all_eq_true.1 h gone h1) cho h2
  rw [fM_eq] at this
  have k := chk_out (M := cauM D gone cho) (n := g) (by simp [cauM, hg]) (r := g) (p := 0) (by omega) this
  exact ⟨k.1, fun i hi => k.2 i (by omega) hi⟩
end Go.Proofs.Ytmpmeeacdllomaa
