/- Overriding rules: breaches stay, and what the broken rules' reasons count. -/
import Derived.Test.YthmfjlphmamegaaPl9
namespace Go.Proofs.Ythmfjlphmamegaa
open Go.ChangeShapes Go.WideShapes Go.ChangeAt Go.RowKit
set_option linter.unusedVariables false

theorem all_congr' {α : Type} {l : List α} {f g : α → Bool} (h : ∀ x ∈ l, f x = g x) : l.all f = l.all g := by
  induction l with
  | nil => rfl
  | cons x l ih => rw [List.all_cons, List.all_cons, h x (by simp), ih (fun y hy => h y (by simp [hy]))]
def wy (why : ByteArray) (r : Rul) : Rul := {r with why := why}
theorem broken_wy (l : List Slt) (r : Rul) (why : ByteArray) (rule : Int) : brokenL l (wy why r) rule = brokenL l r rule := rfl
theorem rule_wy {r : Rul} {why : ByteArray} (h : ruleB r = true) (hw : why.size ≤ 40) : ruleB (wy why r) = true := by
  unfold ruleB at h ⊢
  rw [Bool.and_eq_true] at h ⊢
  exact ⟨decide_eq_true hw, h.2⟩
theorem allTo_same (l : List Slt) (rs rs' : List Rul) (hl : rs'.length = rs.length) (h : ∀ i (hi : i < rs.length) (rule : Int), brokenL l (rs'[i]'(by omega)) rule = brokenL l rs[i] rule) (k : Nat) (hk : k ≤ rs.length) : allTo l rs' k = allTo l rs k := by
  induction k with
  | zero => rfl
  | succ k ih => rw [allTo_succ (by omega), allTo_succ (by omega), ih (by omega), h k (by omega)]
theorem allL_same (l : List Slt) (rs rs' : List Rul) (hl : rs'.length = rs.length) (h : ∀ i (hi : i < rs.length) (rule : Int), brokenL l (rs'[i]'(by omega)) rule = brokenL l rs[i] rule) : allL l rs' = allL l rs := by
  unfold allL; rw [hl]; exact allTo_same l rs rs' hl h rs.length (Nat.le_refl _)
theorem ovR_get (rs : List Rul) (j : Nat) (why : ByteArray) (i : Nat) (hi : i < rs.length) : (ovR rs j why)[i]'(by rw [ovR_len]; exact hi) = if j = i then wy why rs[i] else rs[i] := by
  unfold ovR
  rw [List.getElem_set]
  by_cases e : j = i
  · subst e; rw [if_pos rfl, if_pos rfl, getR_eq hi]; rfl
  · rw [if_neg e, if_neg e]
theorem ov_ok {l : List Slt} {rs : List Rul} (ok : Okp l rs) (j : Nat) (why : ByteArray) (hw : why.size ≤ 40) : Okp l (ovR rs j why) := by
  refine ⟨ok.ls, by rw [ovR_len]; exact ok.rl, ok.nd, ok.sl, fun i hi => ?_⟩
  rw [ovR_len] at hi
  rw [ovR_get rs j why i hi]
  split
  · exact rule_wy (ok.ru i hi) hw
  · exact ok.ru i hi
theorem ov_all (l : List Slt) (rs : List Rul) (j : Nat) (why : ByteArray) : allL l (ovR rs j why) = allL l rs := by
  refine allL_same l rs _ (ovR_len rs j why) fun i hi rule => ?_
  rw [ovR_get rs j why i hi]
  split <;> rfl
theorem loop_len (b : ByteArray) (n : Nat) : ∀ (i : Nat) (r : List UInt8), b.size - i = n → (ByteArray.toList.loop b i r).length = r.length + n := by
  induction n with
  | zero =>
    intro i r h
    unfold ByteArray.toList.loop
    rw [if_neg (by omega)]
    simp
  | succ n ih =>
    intro i r h
    unfold ByteArray.toList.loop
    rw [if_pos (by omega), ih (i + 1) _ (by omega)]
    simp; omega
theorem tl_len (b : ByteArray) : b.toList.length = b.size := by
  unfold ByteArray.toList
  rw [loop_len b b.size 0 [] (by omega)]; simp
theorem why_ne {why : ByteArray} (h : 1 ≤ why.size) : why.toList.isEmpty = false := by
  have := tl_len why
  cases hd : why.toList with
  | nil => rw [hd] at this; simp at this; omega
  | cons x xs => rfl
theorem ov_obeys {l : List Slt} {rs : List Rul} (j : Nat) (why : ByteArray) (hw : 1 ≤ why.size) (h : obeysB l rs = true) : obeysB l (ovR rs j why) = true := by
  unfold obeysB at h ⊢
  rw [ov_all]
  rw [List.all_eq_true] at h ⊢
  intro x hx
  have h1 := h x hx
  rw [Bool.and_eq_true] at h1 ⊢
  refine ⟨h1.1, ?_⟩
  have hr := allTo_rule l rs rs.length (Nat.le_refl _) x hx
  rcases hr with e | ⟨i, hi, e⟩
  · rw [e] at h1; simp at h1
  · rw [e, Int.toNat_natCast] at h1 ⊢
    have hi' : i < (ovR rs j why).length := by rw [ovR_len]; exact hi
    rw [getR_eq hi', ovR_get rs j why i hi]
    rw [getR_eq hi] at h1
    split
    · show (!why.toList.isEmpty) = true
      rw [why_ne hw]; rfl
    · exact h1.2
/- all rules overridden -/
theorem fr_ok {l : List Slt} {rs : List Rul} (ok : Okp l rs) (why : ByteArray) (hw : why.size ≤ 40) : Okp l (rs.map (wy why)) := by
  refine ⟨ok.ls, by rw [List.length_map]; exact ok.rl, ok.nd, ok.sl, fun i hi => ?_⟩
  rw [List.length_map] at hi
  rw [List.getElem_map]
  exact rule_wy (ok.ru i hi) hw
theorem fr_all (l : List Slt) (rs : List Rul) (why : ByteArray) : allL l (rs.map (wy why)) = allL l rs := by
  refine allL_same l rs _ (by simp) fun i hi rule => ?_
  rw [List.getElem_map]; rfl
theorem fr_obeys (l : List Slt) (rs : List Rul) (why : ByteArray) (hw : 1 ≤ why.size) : obeysB l (rs.map (wy why)) = !((allL l rs).any fun x => x.1 == -1) := by
  unfold obeysB
  rw [fr_all, List.not_any_eq_all_not]
  apply all_congr'
  intro x hx
  have hr := allTo_rule l rs rs.length (Nat.le_refl _) x hx
  rcases hr with e | ⟨i, hi, e⟩
  · rw [e]; rfl
  · rw [e, Int.toNat_natCast]
    have hi' : i < (rs.map (wy why)).length := by rw [List.length_map]; exact hi
    rw [getR_eq hi', List.getElem_map]
    have h1 : decide ((0 : Int) ≤ (i : Int)) = true := by simp
    have h2 : (!(wy why rs[i]).why.toList.isEmpty) = true := by
      show (!why.toList.isEmpty) = true
      rw [why_ne hw]; rfl
    rw [h1, h2]
    have h3 : ((i : Int) == -1) = false := by simp
    rw [h3]; rfl
/- counting the first breaches of each rule -/
def b0 : Bre := (0, 0, 0)
def cntB (L : List Bre) (n : Nat) : Bool := decide (0 ≤ (L.getD n b0).1) && (decide (n = 0) || !((L.getD (n - 1) b0).1 == (L.getD n b0).1))
def cntTo (L : List Bre) (n : Nat) : Nat := ((List.range n).filter (cntB L)).length
theorem cntTo_succ (L : List Bre) (n : Nat) : cntTo L (n + 1) = cntTo L n + (if cntB L n then 1 else 0) := by
  unfold cntTo
  rw [List.range_succ, List.filter_append, List.length_append]
  congr 1
  cases h : cntB L n <;> simp [h]
theorem cntTo_le (L : List Bre) (n : Nat) : cntTo L n ≤ n := by
  unfold cntTo
  exact Nat.le_trans (List.length_filter_le _ _) (by simp)
theorem cnt_left (L M : List Bre) (n : Nat) (hn : n ≤ L.length) : cntTo (L ++ M) n = cntTo L n := by
  induction n with
  | zero => rfl
  | succ n ih =>
    rw [cntTo_succ, cntTo_succ, ih (by omega)]
    have e1 : (L ++ M).getD n b0 = L.getD n b0 := by simp [List.getD_eq_getElem?_getD, List.getElem?_append_left (show n < L.length by omega)]
    have e2 : (L ++ M).getD (n - 1) b0 = L.getD (n - 1) b0 := by simp [List.getD_eq_getElem?_getD, List.getElem?_append_left (show n - 1 < L.length by omega)]
    unfold cntB
    rw [e1, e2]
theorem getD_right (L M : List Bre) (k : Int) (hM : ∀ x ∈ M, x.1 = k) (t : Nat) (ht : t < M.length) : ((L ++ M).getD (L.length + t) b0).1 = k := by
  have e : (L ++ M).getD (L.length + t) b0 = M[t] := by
    rw [List.getD_eq_getElem?_getD, List.getElem?_append_right (by omega), show L.length + t - L.length = t by omega, List.getElem?_eq_getElem ht]; rfl
  rw [e]; exact hM _ (List.getElem_mem ht)
theorem cnt_right (L M : List Bre) (k : Int) (hk : 0 ≤ k) (hM : ∀ x ∈ M, x.1 = k) (hL : ∀ x ∈ L, x.1 ≠ k) (t : Nat) (ht : t ≤ M.length) : cntTo (L ++ M) (L.length + t) = cntTo L L.length + (if t = 0 then 0 else 1) := by
  induction t with
  | zero => rw [if_pos rfl]; exact cnt_left L M L.length (Nat.le_refl _)
  | succ t ih =>
    rw [← Nat.add_assoc, cntTo_succ, ih (by omega), if_neg (show ¬ (t + 1 = 0) by omega)]
    have e1 := getD_right L M k hM t (by omega)
    by_cases h0 : t = 0
    · subst h0
      have : cntB (L ++ M) (L.length + 0) = true := by
        unfold cntB
        rw [e1, decide_eq_true hk, Bool.true_and]
        by_cases hl : L.length = 0
        · rw [decide_eq_true (by omega)]; rfl
        · have e2 : (L ++ M).getD (L.length + 0 - 1) b0 = L[L.length - 1]'(by omega) := by
            rw [List.getD_eq_getElem?_getD, List.getElem?_append_left (by omega), List.getElem?_eq_getElem (by omega)]; rfl
          rw [e2]
          have h3 := hL _ (List.getElem_mem (l := L) (n := L.length - 1) (by omega))
          have h4 : (L[L.length - 1].1 == k) = false := by simpa using h3
          rw [h4]; simp
      rw [this]; rfl
    · have : cntB (L ++ M) (L.length + t) = false := by
        unfold cntB
        have e2 := getD_right L M k hM (t - 1) (by omega)
        rw [show L.length + (t - 1) = L.length + t - 1 by omega] at e2
        rw [e1, e2, decide_eq_false (show ¬ (L.length + t = 0) by omega)]
        simp
      rw [this, if_neg h0]; rfl
theorem cnt_near (L : List Bre) (h : ∀ x ∈ L, x.1 = -1) (n : Nat) (hn : n ≤ L.length) : cntTo L n = 0 := by
  induction n with
  | zero => rfl
  | succ n ih =>
    rw [cntTo_succ, ih (by omega)]
    have e : (L.getD n b0).1 = -1 := by
      rw [List.getD_eq_getElem?_getD, List.getElem?_eq_getElem (by omega)]
      exact h _ (List.getElem_mem (by omega))
    unfold cntB
    rw [e]; rfl
theorem cnt_all (l : List Slt) (rs : List Rul) (k : Nat) (hk : k ≤ rs.length) : cntTo (allTo l rs k) (allTo l rs k).length = ((List.range k).filter fun i => decide (0 < (brokenL l (rs.getD i r0) i).length)).length := by
  induction k with
  | zero => exact cnt_near _ (near_rule l (-1) (-1) 0) _ (Nat.le_refl _)
  | succ k ih =>
    rw [allTo_succ (by omega), List.length_append]
    rw [cnt_right _ _ (k : Int) (by omega) (broken_rule l rs[k] k) ?_ _ (Nat.le_refl _), ih (by omega), List.range_succ, List.filter_append, List.length_append]
    · congr 1
      have e : rs.getD k r0 = rs[k] := getR_eq (by omega)
      by_cases h : (brokenL l rs[k] k).length = 0
      · rw [if_pos h]; simp [h, List.getElem?_eq_getElem (show k < rs.length by omega)]
      · rw [if_neg h]
        have : decide (0 < (brokenL l (rs.getD k r0) k).length) = true := by rw [e]; simp; omega
        rw [List.filter_cons, this]; rfl
    · intro x hx
      rcases allTo_rule l rs k (by omega) x hx with e | ⟨j, hj, e⟩ <;> rw [e] <;> omega
theorem fr_exc (l : List Slt) (rs : List Rul) (why : ByteArray) (hw : 1 ≤ why.size) : (excL l (rs.map (wy why))).length = cntTo (allL l rs) (allL l rs).length := by
  unfold allL
  rw [cnt_all l rs rs.length (Nat.le_refl _)]
  unfold excL excTo
  rw [List.length_map, List.length_map]
  congr 1
  apply List.filter_congr
  intro i hi
  have hi' : i < rs.length := by simpa using hi
  have hi2 : i < (rs.map (wy why)).length := by rw [List.length_map]; exact hi'
  unfold excB
  rw [getR_eq hi2, getR_eq hi', List.getElem_map, broken_wy]
  have h2 : (!(wy why rs[i]).why.toList.isEmpty) = true := by
    show (!why.toList.isEmpty) = true
    rw [why_ne hw]; rfl
  rw [h2, Bool.true_and]
end Go.Proofs.Ythmfjlphmamegaa
