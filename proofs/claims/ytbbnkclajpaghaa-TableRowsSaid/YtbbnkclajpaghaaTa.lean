/- Rows of a table as plain data, and what Check, Put, Select and Drop of layer 24 answer, as plain functions. -/
import Derived.Test.YtbbnkclajpaghaaBlk
import Derived.Test.YtbbnkclajpaghaaCxm
import Derived.WalkKit
import Derived.ProofKit
import Derived.Lib.Hide
namespace Go.Proofs.Ytbbnkclajpaghaa
open Go.ChangeShapes Go.WideShapes Go.ChangeAt Go.RowKit
set_option linter.unusedVariables false

structure Vr where
  t : Int
  c : Int
  i : Int
  j : Int
  re : Int
  im : Int
  dn : Int
  n : Int
abbrev Cv (r : Vr) : Value := .agg #[.int .i64 r.re, .int .i64 r.im, .int .i64 r.dn]
abbrev Wv (r : Vr) : Value := .agg #[.int .i64 r.i, .int .i64 r.j, .int .i64 r.re, .int .i64 r.im, .int .i64 r.dn, .int .i64 r.n]
abbrev Rv (r : Vr) : Value := .agg #[.int .i64 r.t, .int .i64 r.c, .int .i64 r.i, .int .i64 r.j, .int .i64 r.re, .int .i64 r.im, .int .i64 r.dn, .int .i64 r.n]
def vr8 (r : Vr) : List Value := [.int .i64 r.t, .int .i64 r.c, .int .i64 r.i, .int .i64 r.j, .int .i64 r.re, .int .i64 r.im, .int .i64 r.dn, .int .i64 r.n]
def vrc (l : List Vr) : List Value := l.flatMap vr8
theorem vr8_len (r : Vr) : (vr8 r).length = 8 := rfl
theorem vrc_append (l m : List Vr) : vrc (l ++ m) = vrc l ++ vrc m := by simp [vrc]
theorem vrc_one (l : List Vr) : ∀ u ∈ vrc l, u.oneCell' = true := by
  intro u hu
  obtain ⟨s, _, hs⟩ := List.mem_flatMap.1 hu
  simp [vr8] at hs
  rcases hs with rfl | rfl | rfl | rfl | rfl | rfl | rfl | rfl <;> rfl



abbrev valB (a b c : Int) : Bool := Cxm.chkB a b c
def visB (r : Vr) : Bool := decide (0 ≤ r.i) && (decide (r.i < r.j) && (decide (r.j < 8) && (valB r.re r.im r.dn && (decide (0 ≤ r.n) && decide (r.n ≤ 1000000)))))
def rowB (r : Vr) : Bool := decide (0 ≤ r.t) && (decide (r.t < 64) && (decide (0 ≤ r.c) && (decide (r.c < 16) && visB r)))
def vkey (r : Vr) : Int := ((r.t * 16 + r.c) * 8 + r.i) * 8 + r.j
def cmpI (x y : Int) : Int := if x < y then -1 else if x = y then 0 else 1
def orI (a b : Int) : Int := if a = 0 then b else a
def cmpR (r s : Vr) : Int := orI (cmpI r.t s.t) (orI (cmpI r.c s.c) (orI (cmpI r.i s.i) (cmpI r.j s.j)))
theorem rowB_facts {r : Vr} (h : rowB r = true) : 0 ≤ r.t ∧ r.t < 64 ∧ 0 ≤ r.c ∧ r.c < 16 ∧ 0 ≤ r.i ∧ r.i < r.j ∧ r.j < 8 := by
  simp only [rowB, visB, Bool.and_eq_true, decide_eq_true_eq] at h
  omega
theorem cmpR_key {r s : Vr} (hr : rowB r = true) (hs : rowB s = true) : cmpR r s = cmpI (vkey r) (vkey s) := by
  have h1 := rowB_facts hr
  have h2 := rowB_facts hs
  unfold cmpR orI cmpI vkey
  repeat' split
  all_goals omega
theorem cmpI_lt {x y : Int} : cmpI x y < 0 ↔ x < y := by unfold cmpI; repeat' split
                                                         all_goals omega
theorem cmpI_eq {x y : Int} : cmpI x y = 0 ↔ x = y := by unfold cmpI; repeat' split
                                                         all_goals omega
theorem cmpI_ge {x y : Int} : 0 ≤ cmpI x y ↔ y ≤ x := by unfold cmpI; repeat' split
                                                         all_goals omega

/- a list of rows behind a row (or behind none) is a table -/
def goodF : Option Vr → List Vr → Bool
  | _, [] => true
  | none, r :: l => rowB r && goodF (some r) l
  | some q, r :: l => rowB r && (decide (vkey q < vkey r) && goodF (some r) l)
def goodB (l : List Vr) : Bool := goodF none l
def chkE (l : List Vr) : Int := if 200 < l.length then 4 else if goodB l then 0 else 8
theorem goodF_none {q : Option Vr} {l : List Vr} (h : goodF q l = true) : goodF none l = true := by
  cases l with
  | nil => rfl
  | cons r l =>
    cases q with
    | none => exact h
    | some q => simp only [goodF, Bool.and_eq_true] at h ⊢; exact ⟨h.1, h.2.2⟩
theorem goodF_append {q : Option Vr} {l m : List Vr} : goodF q (l ++ m) = (goodF q l && goodF (match l.getLast? with | none => q | some x => some x) m) := by
  induction l generalizing q with
  | nil => simp [goodF]
  | cons r l ih =>
    have hl : (match (r :: l).getLast? with | none => q | some x => some x) = (match l.getLast? with | none => some r | some x => some x) := by
      rw [List.getLast?_cons]; cases l.getLast? <;> rfl
    rw [hl]
    cases q with
    | none => simp only [List.cons_append, goodF, ih, Bool.and_assoc]
    | some q => simp only [List.cons_append, goodF, ih, Bool.and_assoc]
theorem goodF_row {q : Option Vr} {l : List Vr} (h : goodF q l = true) : ∀ r ∈ l, rowB r = true := by
  induction l generalizing q with
  | nil => simp
  | cons r l ih =>
    intro x hx
    have h' := goodF_none h
    simp only [goodF, Bool.and_eq_true] at h'
    rcases List.mem_cons.1 hx with rfl | hx
    · exact h'.1
    · exact ih h'.2 x hx
/- what stands behind a row has a greater key -/
theorem goodF_gt {q : Vr} {l : List Vr} (h : goodF (some q) l = true) : ∀ r ∈ l, vkey q < vkey r := by
  induction l generalizing q with
  | nil => simp
  | cons r l ih =>
    intro x hx
    simp only [goodF, Bool.and_eq_true, decide_eq_true_eq] at h
    rcases List.mem_cons.1 hx with rfl | hx
    · exact h.2.1
    · have := ih h.2.2 x hx; omega
theorem good_split {pre rest : List Vr} {x : Vr} (h : goodB (pre ++ x :: rest) = true) : ∀ r ∈ rest, vkey x < vkey r := by
  unfold goodB at h
  rw [goodF_append, Bool.and_eq_true] at h
  have h2 := goodF_none h.2
  simp only [goodF, Bool.and_eq_true] at h2
  exact goodF_gt h2.2

def putE (l : List Vr) (r : Vr) : Int := if chkE l ≠ 0 then chkE l else if rowB r = false then 8 else if (l.any fun x => decide (vkey x = vkey r)) then 14 else if l.length = 200 then 4 else 0
def putL (l : List Vr) (r : Vr) : List Vr := if putE l r = 0 then l.takeWhile (fun x => decide (vkey x < vkey r)) ++ r :: l.dropWhile (fun x => decide (vkey x < vkey r)) else []
theorem chkE_good {l : List Vr} (h : chkE l = 0) : goodB l = true ∧ l.length ≤ 200 := by
  unfold chkE at h
  split at h
  · omega
  · split at h
    · rename_i h1 h2; exact ⟨h2, by omega⟩
    · omega
theorem tw_split {l pre rest : List Vr} {p : Vr → Bool} (hl : l = pre ++ rest) (h1 : ∀ x ∈ pre, p x = true) (h2 : ∀ x, rest.head? = some x → p x = false) : l.takeWhile p = pre ∧ l.dropWhile p = rest := by
  subst hl
  induction pre with
  | nil =>
    cases rest with
    | nil => simp
    | cons x rest => simp [h2 x rfl]
  | cons y pre ih =>
    have := ih (fun x hx => h1 x (List.mem_cons_of_mem _ hx))
    simp only [List.cons_append, List.takeWhile_cons, List.dropWhile_cons, h1 y (List.mem_cons_self ..), if_true]
    exact ⟨by rw [this.1], this.2⟩
/- of a table: those below a key stand first -/
theorem filter_tw {l : List Vr} (h : goodB l = true) (k : Int) : l.filter (fun x => decide (vkey x < k)) = l.takeWhile (fun x => decide (vkey x < k)) ∧ l.filter (fun x => decide (¬ vkey x < k)) = l.dropWhile (fun x => decide (vkey x < k)) := by
  unfold goodB at h
  induction l with
  | nil => simp
  | cons x l ih =>
    simp only [goodF, Bool.and_eq_true] at h
    have hg := goodF_gt h.2
    have ih' := ih (goodF_none h.2)
    by_cases hx : vkey x < k
    · simp only [List.filter_cons, List.takeWhile_cons, List.dropWhile_cons, hx, decide_true, if_true, not_true_eq_false, decide_false]
      exact ⟨by rw [ih'.1], ih'.2⟩
    · have e1 : l.filter (fun x => decide (vkey x < k)) = [] := List.filter_eq_nil_iff.2 fun y hy => by have := hg y hy; simp; omega
      have e2 : l.filter (fun x => decide (¬ vkey x < k)) = l := List.filter_eq_self.2 fun y hy => by have := hg y hy; simp; omega
      simp only [List.filter_cons, List.takeWhile_cons, List.dropWhile_cons, hx, decide_false, not_false_eq_true, decide_true, if_true]
      exact ⟨by simpa using e1, by rw [e2]; simp⟩
def selE (l : List Vr) (i j : Int) : Int := if chkE l ≠ 0 then chkE l else if i < 0 ∨ j ≤ i ∨ 8 ≤ j then 2 else 0
def selB (i j : Int) (r : Vr) : Bool := decide (r.i = i) && decide (r.j = j)
def selL (l : List Vr) (i j : Int) : List Vr := if selE l i j = 0 then l.filter (selB i j) else []
/- masks: times, channels, flags -/
def mskE (t c : Int) (b : List Bool) : Int := if 32 < t ∨ 16 < c then 4 else if t < 1 ∨ c < 1 ∨ (b.length : Int) ≠ t * c then 8 else 0
def drpR (c : Int) (b : List Bool) (r : Vr) : Vr := if b.getD (r.t * c + r.c).toNat false then { r with n := 0 } else r
def drpE (l : List Vr) (t c : Int) (b : List Bool) : Int := if chkE l ≠ 0 then chkE l else if mskE t c b ≠ 0 then mskE t c b else if (l.any fun r => decide (t ≤ r.t) || decide (c ≤ r.c)) then 2 else 0
def drpL (l : List Vr) (t c : Int) (b : List Bool) : List Vr := if drpE l t c b = 0 then l.map (drpR c b) else []
end Go.Proofs.Ytbbnkclajpaghaa
