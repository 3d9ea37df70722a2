/- Leaving out a slot: the breaches that are left. -/
import Derived.Test.YthmfjlphmamegaaPl9
namespace Go.Proofs.Ythmfjlphmamegaa
open Go.ChangeShapes Go.WideShapes Go.ChangeAt Go.RowKit
set_option linter.unusedVariables false

/- the places behind t move by one -/
def skp (t i : Nat) : Nat := if i < t then i else i + 1
theorem skp_ne (t i : Nat) : skp t i ≠ t := by unfold skp; split <;> omega
theorem skp_lt (t i j : Nat) : skp t i < skp t j ↔ i < j := by unfold skp; split <;> split <;> omega
theorem range_skp (n t : Nat) (ht : t < n) : (List.range n).filter (fun i => !(i == t)) = (List.range (n - 1)).map (skp t) := by
  obtain ⟨m, rfl⟩ : ∃ m, n = m + 1 := ⟨n - 1, by omega⟩
  rw [Nat.add_sub_cancel]
  induction m with
  | zero =>
    obtain rfl : t = 0 := by omega
    rfl
  | succ m ih =>
    rw [List.range_succ, List.filter_append]
    by_cases h : t < m + 1
    · rw [ih h, List.range_succ (n := m), List.map_append]
      have e1 : (!((m + 1) == t)) = true := by simp; omega
      have e2 : skp t m = m + 1 := by unfold skp; rw [if_neg (by omega)]
      simp [e2]; omega
    · obtain rfl : t = m + 1 := by omega
      have e1 : (List.range (m + 1)).filter (fun i => !(i == m + 1)) = List.range (m + 1) := by
        rw [List.filter_eq_self]; intro a ha; have : a < m + 1 := by simpa using ha
        simp; omega
      rw [e1]
      have e2 : (List.range (m + 1)).map (skp (m + 1)) = List.range (m + 1) := by
        conv => rhs; rw [← List.map_id (List.range (m + 1))]
        apply List.map_congr_left
        intro a ha
        have : a < m + 1 := by simpa using ha
        unfold skp; rw [if_pos this]; rfl
      rw [e2]; simp
theorem erase_get (l : List Slt) (t i : Nat) : (l.eraseIdx t).getD i d0 = l.getD (skp t i) d0 := by
  rw [List.getD_eq_getElem?_getD, List.getD_eq_getElem?_getD, List.getElem?_eraseIdx]
  unfold skp
  split <;> rfl
def dec (t : Nat) (x : Int) : Int := if (t : Int) < x then x - 1 else x
theorem dec_skp (t i : Nat) : dec t (skp t i : Nat) = (i : Int) := by
  unfold dec skp; split <;> split <;> omega
theorem dec_neg (t : Nat) : dec t (-1) = -1 := by unfold dec; rw [if_neg (by omega)]
def keepB (t : Nat) (x : Bre) : Bool := !(x.2.1 == (t : Int)) && !(x.2.2 == (t : Int))
def decB (t : Nat) (x : Bre) : Bre := (x.1, dec t x.2.1, dec t x.2.2)
def left (t : Nat) (L : List Bre) : List Bre := (L.filter (keepB t)).map (decB t)
theorem left_append (t : Nat) (L M : List Bre) : left t (L ++ M) = left t L ++ left t M := by unfold left; simp
theorem row_left (l : List Slt) (rule station rest : Int) (t i : Nat) (hi : i ≠ t) (ht : t < l.length) :
    left t (rowTo l rule station rest i l.length) = (((List.range l.length).filter (fun j => !(j == t))).filter fun j => decide (i < j) && pairB l station rest i j).map fun (j : Nat) => (rule, dec t i, dec t j) := by
  unfold left rowTo
  rw [List.filter_map, List.map_map, List.filter_filter, List.filter_filter]
  congr 1
  apply List.filter_congr
  intro j hj
  have e1 : ((i : Int) == (t : Int)) = false := by simp; omega
  have e2 : ((j : Int) == (t : Int)) = (j == t) := by
    rw [Bool.eq_iff_iff]; simp only [beq_iff_eq]; omega
  simp only [Function.comp, keepB, e1, e2]
  cases (j == t) <;> simp
theorem row_gone (l : List Slt) (rule station rest : Int) (t : Nat) : left t (rowTo l rule station rest t l.length) = [] := by
  unfold left
  rw [List.map_eq_nil_iff, List.filter_eq_nil_iff]
  intro x hx
  unfold rowTo at hx
  obtain ⟨j, _, rfl⟩ := List.mem_map.1 hx
  simp [keepB]
theorem left_flatMap {α : Type} (t : Nat) (l : List α) (f : α → List Bre) : left t (l.flatMap f) = l.flatMap (fun x => left t (f x)) := by
  induction l with
  | nil => rfl
  | cons x l ih => rw [List.flatMap_cons, left_append, ih, List.flatMap_cons]
theorem flatMap_skip {β : Type} (l : List Nat) (t : Nat) (f : Nat → List β) (h : f t = []) : l.flatMap f = (l.filter (fun i => !(i == t))).flatMap f := by
  induction l with
  | nil => rfl
  | cons x l ih =>
    rw [List.flatMap_cons, List.filter_cons, ih]
    by_cases e : x = t
    · subst e; simp [h]
    · have : (!(x == t)) = true := by simpa using e
      rw [this, if_pos rfl, List.flatMap_cons]
theorem near_left (l : List Slt) (rule station rest : Int) (t : Nat) (ht : t < l.length) : nearL (l.eraseIdx t) rule station rest = left t (nearL l rule station rest) := by
  have hl : (l.eraseIdx t).length = l.length - 1 := List.length_eraseIdx_of_lt ht
  unfold nearL nearTo
  rw [left_flatMap, flatMap_skip (List.range l.length) t (fun i => left t (rowTo l rule station rest i l.length)) (row_gone l rule station rest t), range_skp l.length t ht, hl, List.flatMap_map]
  apply flatMap_congr'
  intro i hi
  rw [row_left l rule station rest t (skp t i) (skp_ne t i) ht, range_skp l.length t ht, List.filter_map, List.map_map]
  unfold rowTo
  have e : (List.range (l.length - 1)).filter (fun j => decide (i < j) && pairB (l.eraseIdx t) station rest i j) = (List.range (l.length - 1)).filter ((fun j => decide (skp t i < j) && pairB l station rest (skp t i) j) ∘ skp t) := by
    apply List.filter_congr
    intro j hj
    simp only [Function.comp, skp_lt]
    congr 1
    unfold pairB
    rw [erase_get, erase_get]
  rw [e]
  apply List.map_congr_left
  intro j hj
  simp only [Function.comp, dec_skp]
/- names -/
theorem find_left {l : List Slt} (nd : dupB l = false) (t : Nat) (ht : t < l.length) (nm : ByteArray) : findI (l.eraseIdx t) nm = if findI l nm = (t : Int) then -1 else dec t (findI l nm) := by
  have hl : (l.eraseIdx t).length = l.length - 1 := List.length_eraseIdx_of_lt ht
  have gete : ∀ i (hi : i < (l.eraseIdx t).length), (l.eraseIdx t)[i] = l.getD (skp t i) d0 := by
    intro i hi
    rw [← getD_eq hi, erase_get]
  have uniq : ∀ i j (hi : i < l.length) (hj : j < l.length), (l[i].name.toList == nm.toList) = true → (l[j].name.toList == nm.toList) = true → i = j := by
    intro i j hi hj h1 h2
    have h3 : (l[i].name.toList == l[j].name.toList) = true := by
      have a1 : l[i].name.toList = nm.toList := by simpa using h1
      have a2 : l[j].name.toList = nm.toList := by simpa using h2
      rw [a1, a2]; simp
    rcases Nat.lt_trichotomy i j with h | h | h
    · rw [dup_of hj h h3] at nd; cases nd
    · exact h
    · rw [dup_of hi h (by have a : l[i].name.toList = l[j].name.toList := by { simpa using h3 }; simp [a])] at nd; cases nd
  -- a name that is nowhere
  have none_case : (∀ j (h : j < l.length), (l[j].name.toList == nm.toList) = false) → findI l nm = -1 := by
    intro h; unfold findI; rw [findN_none h, if_neg (by omega)]
  have at_case : ∀ k (hk : k < l.length), (l[k].name.toList == nm.toList) = true → findI l nm = (k : Int) := by
    intro k hk h
    unfold findI
    have : findN l nm = k := findN_at hk (fun j hj hjk => by
      cases hh : (l[j].name.toList == nm.toList)
      · rfl
      · have := uniq j k hj hk hh h; omega) h
    rw [this, if_pos hk]
  have none_e : (∀ j (h : j < l.length), j ≠ t → (l[j].name.toList == nm.toList) = false) → findI (l.eraseIdx t) nm = -1 := by
    intro h; unfold findI
    rw [findN_none, if_neg (by omega)]
    intro i hi
    rw [gete i hi]
    have hs : skp t i < l.length := by unfold skp; split <;> omega
    rw [getD_eq hs]
    exact h _ hs (skp_ne t i)
  by_cases hex : ∃ k, ∃ hk : k < l.length, (l[k].name.toList == nm.toList) = true
  · obtain ⟨k, hk, he⟩ := hex
    rw [at_case k hk he]
    by_cases hkt : k = t
    · subst hkt
      rw [if_pos rfl]
      refine none_e fun j hj hjt => ?_
      cases hh : (l[j].name.toList == nm.toList)
      · rfl
      · exact absurd (uniq j k hj hk hh he) hjt
    · rw [if_neg (by omega)]
      -- the place of k in the shorter list
      have key : ∃ i, i < (l.eraseIdx t).length ∧ skp t i = k := by
        by_cases h : k < t
        · exact ⟨k, by omega, by unfold skp; rw [if_pos h]⟩
        · exact ⟨k - 1, by omega, by unfold skp; rw [if_neg (by omega)]; omega⟩
      obtain ⟨i, hi, hik⟩ := key
      have e1 : findI (l.eraseIdx t) nm = (i : Int) := by
        unfold findI
        have : findN (l.eraseIdx t) nm = i := findN_at hi (fun j hj hji => by
          rw [gete j hj]
          have hs : skp t j < l.length := by unfold skp; split <;> omega
          rw [getD_eq hs]
          cases hh : (l[skp t j].name.toList == nm.toList)
          · rfl
          · have := uniq _ k hs hk hh he
            have h2 := (skp_lt t j i).2 hji
            omega) (by rw [gete i hi, hik, getD_eq hk]; exact he)
        rw [this, if_pos hi]
      rw [e1, ← hik, dec_skp]
  · have h0 : ∀ j (h : j < l.length), (l[j].name.toList == nm.toList) = false := by
      intro j hj
      cases hh : (l[j].name.toList == nm.toList)
      · rfl
      · exact absurd ⟨j, hj, hh⟩ hex
    rw [none_case h0, if_neg (by omega), dec_neg]
    exact none_e fun j hj _ => h0 j hj
theorem at_left (l : List Slt) (t : Nat) (k : Nat) (hk : k < l.length) (hkt : k ≠ t) : at' (l.eraseIdx t) (dec t (k : Int)) = at' l (k : Int) := by
  have key : ∃ i, skp t i = k := by
    by_cases h : k < t
    · exact ⟨k, by unfold skp; rw [if_pos h]⟩
    · exact ⟨k - 1, by unfold skp; rw [if_neg (by omega)]; omega⟩
  obtain ⟨i, rfl⟩ := key
  rw [dec_skp]
  unfold at'
  rw [Int.toNat_natCast, Int.toNat_natCast, erase_get]
theorem dec_pos (t k : Nat) : 0 ≤ dec t (k : Int) := by unfold dec; split <;> omega
theorem left_one (t : Nat) (rule x y : Int) (b : Bool) : left t (if b then [(rule, x, y)] else []) = if (b && (!(x == (t : Int)) && !(y == (t : Int)))) then [(rule, dec t x, dec t y)] else [] := by
  cases b
  · rfl
  · simp only [if_true, Bool.true_and]
    unfold left
    rw [List.filter_cons]
    show List.map (decB t) (if keepB t (rule, x, y) = true then _ else _) = _
    unfold keepB
    simp only
    split <;> rfl
theorem neg_ne (t : Nat) : (((-1 : Int)) == (t : Int)) = false := by simp
theorem hold_left (l : List Slt) (rule low high x x' : Int) (t : Nat) (ht : t < l.length) (hx : ∀ i : Nat, ((skp t i : Nat) : Int) == x ↔ (i : Int) == x') : holdTo (l.eraseIdx t) rule x' low high (l.eraseIdx t).length = left t (holdTo l rule x low high l.length) := by
  have hl : (l.eraseIdx t).length = l.length - 1 := List.length_eraseIdx_of_lt ht
  unfold left holdTo
  rw [List.filter_map, List.map_map, List.filter_filter, hl]
  have e1 : (List.range l.length).filter (fun a => (keepB t ∘ fun (i : Nat) => (rule, (i : Int), (-1 : Int))) a && holdB l x low high a) = ((List.range l.length).filter (fun i => !(i == t))).filter (holdB l x low high) := by
    rw [List.filter_filter]
    apply List.filter_congr
    intro j hj
    have e2 : ((j : Int) == (t : Int)) = (j == t) := by
      rw [Bool.eq_iff_iff]; simp only [beq_iff_eq]; omega
    simp only [Function.comp, keepB, e2, neg_ne]
    cases (j == t) <;> simp
  rw [e1, range_skp l.length t ht, List.filter_map, List.map_map]
  have e3 : (List.range (l.length - 1)).filter (holdB (l.eraseIdx t) x' low high) = (List.range (l.length - 1)).filter (holdB l x low high ∘ skp t) := by
    apply List.filter_congr
    intro j hj
    simp only [Function.comp]
    unfold holdB
    rw [erase_get]
    have e4 : (((skp t j : Nat) : Int) == x) = ((j : Int) == x') := by rw [Bool.eq_iff_iff]; exact hx j
    rw [e4]
  rw [e3]
  apply List.map_congr_left
  intro j hj
  simp only [Function.comp, decB, dec_skp, dec_neg]
theorem find_left3 {l : List Slt} (nd : dupB l = false) (t : Nat) (ht : t < l.length) (nm : ByteArray) : (findI l nm = -1 ∧ findI (l.eraseIdx t) nm = -1) ∨ (findI l nm = (t : Int) ∧ findI (l.eraseIdx t) nm = -1) ∨ ∃ k, k < l.length ∧ k ≠ t ∧ findI l nm = (k : Int) ∧ findI (l.eraseIdx t) nm = dec t (k : Int) := by
  have fa := find_left nd t ht nm
  rcases findI_is l nm with e | ⟨k, hk, e⟩
  · rw [e, if_neg (by omega), dec_neg] at fa; exact .inl ⟨e, fa⟩
  · by_cases hkt : k = t
    · subst hkt; rw [e, if_pos rfl] at fa; exact .inr (.inl ⟨e, fa⟩)
    · rw [e, if_neg (by omega)] at fa; exact .inr (.inr ⟨k, hk, hkt, e, fa⟩)
theorem broken_left {l : List Slt} (nd : dupB l = false) (r : Rul) (rule : Int) (t : Nat) (ht : t < l.length) : brokenL (l.eraseIdx t) r rule = left t (brokenL l r rule) := by
  have fa := find_left3 nd t ht r.a
  have fb := find_left3 nd t ht r.b
  have negt : ((-1 : Int) == (t : Int)) = false := neg_ne t
  unfold brokenL
  by_cases k1 : r.kind = 1
  · rw [if_pos k1, if_pos k1, left_one, negt]
    unfold winB
    rcases fa with ⟨e1, e2⟩ | ⟨e1, e2⟩ | ⟨k, hk, hkt, e1, e2⟩
    · rw [e1, e2]; rfl
    · rw [e1, e2]; simp
    have q : ((k : Int) == (t : Int)) = false := by simp; omega
    rw [e1, e2, at_left l t k hk hkt, q, decide_eq_true (dec_pos t k), decide_eq_true (show (0 : Int) ≤ (k : Int) by omega), dec_neg]
    simp
  rw [if_neg k1, if_neg k1]
  by_cases k2 : r.kind = 2
  · rw [if_pos k2, if_pos k2, left_one]
    unfold befB
    rcases fa with ⟨e1, e2⟩ | ⟨e1, e2⟩ | ⟨k, hk, hkt, e1, e2⟩
    · rw [e1, e2]; rfl
    · rw [e1, e2]; simp
    rcases fb with ⟨e1', e2'⟩ | ⟨e1', e2'⟩ | ⟨m, hm, hmt, e1', e2'⟩
    · rw [e1', e2']; simp
    · rw [e1', e2']; simp
    have q : ((k : Int) == (t : Int)) = false := by simp; omega
    have q' : ((m : Int) == (t : Int)) = false := by simp; omega
    rw [e1, e2, e1', e2', at_left l t k hk hkt, at_left l t m hm hmt, q, q', decide_eq_true (dec_pos t k), decide_eq_true (dec_pos t m), decide_eq_true (show (0 : Int) ≤ (k : Int) by omega), decide_eq_true (show (0 : Int) ≤ (m : Int) by omega)]
    simp
  rw [if_neg k2, if_neg k2]
  by_cases k3 : r.kind = 3
  · rw [if_pos k3, if_pos k3, left_one]
    unfold apaB
    rcases fa with ⟨e1, e2⟩ | ⟨e1, e2⟩ | ⟨k, hk, hkt, e1, e2⟩
    · rw [e1, e2]; rfl
    · rw [e1, e2]; simp
    rcases fb with ⟨e1', e2'⟩ | ⟨e1', e2'⟩ | ⟨m, hm, hmt, e1', e2'⟩
    · rw [e1', e2']; simp
    · rw [e1', e2']; simp
    have q : ((k : Int) == (t : Int)) = false := by simp; omega
    have q' : ((m : Int) == (t : Int)) = false := by simp; omega
    rw [e1, e2, e1', e2', at_left l t k hk hkt, at_left l t m hm hmt, q, q', decide_eq_true (dec_pos t k), decide_eq_true (dec_pos t m), decide_eq_true (show (0 : Int) ≤ (k : Int) by omega), decide_eq_true (show (0 : Int) ≤ (m : Int) by omega)]
    simp
  rw [if_neg k3, if_neg k3]
  by_cases k4 : r.kind = 4
  · rw [if_pos k4, if_pos k4]
    exact near_left l rule r.low r.high t ht
  rw [if_neg k4, if_neg k4]
  by_cases k5 : r.kind = 5
  · rw [if_pos k5, if_pos k5]
    apply hold_left l rule r.low r.high _ _ t ht
    intro i
    simp only [beq_iff_eq]
    rcases fa with ⟨e1, e2⟩ | ⟨e1, e2⟩ | ⟨k, hk, hkt, e1, e2⟩
    · rw [e1, e2]; omega
    · rw [e1, e2]
      have := skp_ne t i
      omega
    · rw [e1, e2]
      unfold dec skp
      split <;> split <;> omega
  · rw [if_neg k5, if_neg k5]; rfl
theorem all_left {l : List Slt} (nd : dupB l = false) (rs : List Rul) (t : Nat) (ht : t < l.length) : allL (l.eraseIdx t) rs = left t (allL l rs) := by
  unfold allL
  have key : ∀ k, k ≤ rs.length → allTo (l.eraseIdx t) rs k = left t (allTo l rs k) := by
    intro k
    induction k with
    | zero => intro _; exact near_left l _ _ _ t ht
    | succ k ih =>
      intro hk
      rw [allTo_succ (by omega), allTo_succ (by omega), ih (by omega), left_append, broken_left nd _ _ t ht]
  exact key rs.length (Nat.le_refl _)
theorem er_ok {l : List Slt} {rs : List Rul} (ok : Okp l rs) (t : Nat) (ht : t < l.length) : Okp (l.eraseIdx t) rs := by
  have hl : (l.eraseIdx t).length = l.length - 1 := List.length_eraseIdx_of_lt ht
  have gete : ∀ i (hi : i < (l.eraseIdx t).length), ∃ hs : skp t i < l.length, (l.eraseIdx t)[i] = l[skp t i] := by
    intro i hi
    have hs : skp t i < l.length := by unfold skp; split <;> omega
    exact ⟨hs, by rw [← getD_eq hi, erase_get, getD_eq hs]⟩
  have a1 := ok.ls
  refine ⟨by omega, ok.rl, ?_, ?_, ok.ru⟩
  · apply not_dup_of
    intro i hi j hj
    obtain ⟨h1, e1⟩ := gete i hi
    obtain ⟨h2, e2⟩ := gete j (by omega)
    rw [e1, e2]
    cases hh : (l[skp t j].name.toList == l[skp t i].name.toList)
    · rfl
    · have := ok.nd
      rw [dup_of h1 ((skp_lt t j i).2 hj) hh] at this; cases this
  · intro i hi
    obtain ⟨h1, e1⟩ := gete i hi
    rw [e1]; exact ok.sl _ h1
theorem filter_at {L : List Bre} {p : Bre → Bool} {k : Nat} (hk : k < L.length) (hp : p L[k] = true) : (L.filter p)[((L.take k).filter p).length]? = some L[k] := by
  have e : L = L.take k ++ L[k] :: L.drop (k + 1) := by
    rw [← List.drop_eq_getElem_cons hk, List.take_append_drop]
  have e2 : L.filter p = (L.take k).filter p ++ L[k] :: (L.drop (k + 1)).filter p := by
    conv => lhs; rw [e]
    rw [List.filter_append, List.filter_cons, if_pos hp]
  rw [e2, List.getElem?_append_right (Nat.le_refl _)]
  simp
theorem take_keep {L : List Bre} {p : Bre → Bool} {k : Nat} (hk : k < L.length) : ((L.take (k + 1)).filter p).length = ((L.take k).filter p).length + (if p L[k] then 1 else 0) := by
  rw [List.take_succ_eq_append_getElem hk, List.filter_append, List.length_append]
  congr 1
  cases h : p L[k] <;> simp [h]
end Go.Proofs.Ythmfjlphmamegaa
