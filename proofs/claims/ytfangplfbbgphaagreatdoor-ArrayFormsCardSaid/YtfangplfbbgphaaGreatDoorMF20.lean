/- Several texts in one. -/
import Derived.Shelf.Strings.Builder1
import Derived.Shelf.Small.Bits
import Derived.Shelf.Strings.BuilderF
import Derived.Shelf.Strings.BuilderK
import Derived.Shelf.Strconv.Itoa0
import Derived.Shelf.Strconv.Itoa1
import Derived.Shelf.LaysM
import Derived.Shelf.Strconv.Itoa2
import Derived.Shelf.Strconv.Itoa3
import Derived.Shelf.Strconv.Itoa4
import Derived.Shelf.Strconv.ParseIntEmpty
import Derived.Shelf.Strconv.Clone
import Derived.Shelf.Strconv.SyntaxError
import Derived.Shelf.LaysC
import Derived.Shelf.Strconv.ToError
import Derived.Shelf.Strconv.Lower
import Derived.Shelf.Strconv.ParseUint10
import Derived.Shelf.Strconv.ParseUint10Empty
import Derived.Shelf.Strconv.ParseUint10Any
import Derived.Shelf.Strconv.ParseInt10
import Derived.Shelf.Strconv.RangeError
import Derived.Shelf.Strconv.ToErrorRange
import Derived.Shelf.Strconv.ParseUintEmpty
import Derived.Shelf.Strconv.ParseUint10b64
import Derived.Shelf.Strconv.ParseUint10b32
import Derived.Shelf.Strconv.ParseUint10b16
import Derived.Shelf.Strconv.ParseUint10b8
import Derived.Shelf.Strconv.ParseUint10At
import Derived.Shelf.Strconv.ParseInt10At64
import Derived.Shelf.Strconv.ParseInt10At32
import Derived.Shelf.Strconv.ParseInt10At16
import Derived.Shelf.Strconv.ParseInt10At8
import Derived.Shelf.Strconv.ParseInt10All
import Derived.Shelf.Strconv.ParseIntPublic10
import Derived.Shelf.Strconv.ErrVarParseInt
import Derived.Shelf.Strings.Search1
import Derived.Shelf.Strings.Search2
import Derived.Shelf.Strings.Cut
import Derived.Shelf.Strings.Shaped
import Derived.Shelf.Bits.Mul64
import Derived.Shelf.Strings.BuilderCap
import Derived.Test.YtfangplfbbgphaaGreatDoorProg
import Derived.Lib.Builder
import Derived.Lib.AppendStr
import Derived.Lib.UnsafeStr
import Derived.Lib.Strings
import Derived.Lib.Walk
import Derived.WalkKit
import Derived.Laws.Externs
import Derived.Lib.ItoaNum
import Derived.Lib.ItoaMem
import Derived.Lib.ItoaLen
import Derived.Lib.ParseIntB
import Derived.Lib.IndexMore
import Derived.Lib.IndexBytes
import Derived.Lib.IndexLaws
import Derived.Lib.AtoiErrMem
import Derived.Lib.ParseIntBTie
import Derived.Lib.AppendIntMem
import Derived.Test.YtfangplfbbgphaaGreatDoorMF00
import Derived.Test.YtfangplfbbgphaaGreatDoorMF01
import Derived.Test.YtfangplfbbgphaaGreatDoorMF17
import Derived.Test.YtfangplfbbgphaaGreatDoorMF19
namespace Go.Proofs.YtfangplfbbgphaaGreatDoor
set_option linter.unusedVariables false
set_option linter.unusedSimpArgs false
def grp (L : Nat × Nat → V6) : Nat → List (Nat × Nat) → List Cl
 | 0, _ => []
 | _ + 1, [] => []
 | f + 1, p :: D => (L p, p :: D.filter fun q => isPM (L q) (L p)) :: grp L f (D.filter fun q => !isPM (L q) (L p))
theorem grp_fuel {L : Nat × Nat → V6} : ∀ (f g : Nat) (D : List (Nat × Nat)), D.length ≤ f → D.length ≤ g → grp L f D = grp L g D
 | 0, 0, _, _, _ => rfl
 | 0, g + 1, D, h, _ => by
  have : D = [] := List.eq_nil_of_length_eq_zero (by omega)
  subst this; rfl
 | f + 1, 0, D, _, h => by
  have : D = [] := List.eq_nil_of_length_eq_zero (by omega)
  subst this; rfl
 | f + 1, g + 1, [], _, _ => rfl
 | f + 1, g + 1, p :: D, h, h' => by
  simp only [List.length_cons] at h h'
  have hl := List.length_filter_le (fun q => !isPM (L q) (L p)) D
  simp only [grp]
  rw [grp_fuel f g _ (by omega) (by omega)]
def grpL (L : Nat × Nat → V6) (D : List (Nat × Nat)) : List Cl := grp L D.length D
theorem grpL_nil (L : Nat × Nat → V6) : grpL L [] = [] := rfl
theorem grpL_cons (L : Nat × Nat → V6) (p : Nat × Nat) (D : List (Nat × Nat)) : grpL L (p :: D) = (L p, p :: D.filter fun q => isPM (L q) (L p)) :: grpL L (D.filter fun q => !isPM (L q) (L p)) := by
 unfold grpL
 simp only [List.length_cons, grp]
 congr 1
 exact grp_fuel _ _ _ (List.length_filter_le _ _) (Nat.le_refl _)
def Far (cs : List Cl) : Prop := cs.Pairwise fun c d => isPM c.1 d.1 = false
theorem hit_pm {v : V6} {c : Cl} : hitC v (negV v) c = isPM c.1 v := rfl
def putM (p : Nat × Nat) (v : V6) (c : Cl) : Cl := if isPM c.1 v then (c.1, c.2 ++ [p]) else c
theorem putC_map {p : Nat × Nat} {v : V6} : ∀ {cs : List Cl}, Far cs → putC p v (negV v) cs = if cs.any (fun c => isPM c.1 v) then cs.map (putM p v) else cs ++ [(v, [p])]
 | [], _ => rfl
 | c :: cs, h => by
  obtain ⟨h1, h2⟩ := List.pairwise_cons.1 h
  unfold putC
  rw [hit_pm]
  cases hc : isPM c.1 v with
  | true =>
   rw [if_pos rfl, List.any_cons, hc, Bool.true_or, if_pos rfl, List.map_cons]
   have e : cs.map (putM p v) = cs := by
    rw [List.map_congr_left (g := id) (fun d hd => by
     have := h1 d hd
     rw [isPM_comm, ← isPM_of (by rw [isPM_comm]; exact hc)] at this
     unfold putM
     rw [if_neg (by rw [this]; simp)]; rfl), List.map_id]
   rw [e]
   unfold putM
   rw [hc, if_pos rfl]
  | false =>
   rw [if_neg (by simp), List.any_cons, hc, Bool.false_or, putC_map h2]
   split
   ·rw [List.map_cons]
    congr 1
    unfold putM
    rw [hc]; rfl
   ·rfl
def keepC (L : Nat × Nat → V6) (D : List (Nat × Nat)) (c : Cl) : Cl := (c.1, c.2 ++ D.filter fun q => isPM (L q) c.1)
def fresh (L : Nat × Nat → V6) (cs : List Cl) (q : Nat × Nat) : Bool := !cs.any fun c => isPM c.1 (L q)
theorem fold_grp {L : Nat × Nat → V6} : ∀ (D : List (Nat × Nat)) (cs : List Cl), Far cs →
  D.foldl (fun cs p => putC p (L p) (negV (L p)) cs) cs = cs.map (keepC L D) ++ grpL L (D.filter (fresh L cs))
 | [], cs, _ => by
  simp only [List.foldl_nil, List.filter_nil, grpL_nil, List.append_nil]
  rw [List.map_congr_left (g := id) (fun c _ => by simp [keepC]), List.map_id]
 | p :: D, cs, h => by
  rw [List.foldl_cons, putC_map h]
  cases ha : cs.any (fun c => isPM c.1 (L p)) with
  | true =>
   rw [if_pos rfl]
   have hf : Far (cs.map (putM p (L p))) := by
    refine List.pairwise_map.2 (h.imp fun {c d} hcd => ?_)
    unfold putM
    split <;> split <;> exact hcd
   rw [fold_grp D _ hf, List.map_map]
   have e1 : cs.map (keepC L D ∘ putM p (L p)) = cs.map (keepC L (p :: D)) := by
    apply List.map_congr_left
    intro c _
    simp only [Function.comp, keepC, putM, List.filter_cons]
    rw [isPM_comm (L p) c.1]
    split <;> simp
   have e2 : fresh L (cs.map (putM p (L p))) = fresh L cs := by
    funext q
    unfold fresh
    rw [List.any_map]
    congr 2
    funext c
    simp only [Function.comp, putM]
    split <;> rfl
   rw [e1, e2, List.filter_cons]
   have : fresh L cs p = false := by unfold fresh; rw [ha]; rfl
   rw [this]; rfl
  | false =>
   have NA : ∀ c ∈ cs, isPM c.1 (L p) = true → False := fun c hc => List.any_eq_false.1 ha c hc
   rw [if_neg (by simp)]
   have hf : Far (cs ++ [(L p, [p])]) := by
    refine List.pairwise_append.2 ⟨h, List.pairwise_singleton .., fun c hc d hd => ?_⟩
    simp only [List.mem_singleton] at hd
    subst hd
    rw [Bool.eq_false_iff]
    exact NA c hc
   rw [fold_grp D _ hf, List.map_append]
   have hp : fresh L cs p = true := by unfold fresh; rw [ha]; rfl
   rw [List.filter_cons, hp, if_pos rfl, grpL_cons]
   have e1 : cs.map (keepC L D) = cs.map (keepC L (p :: D)) := by
    apply List.map_congr_left
    intro c hc
    unfold keepC
    rw [List.filter_cons, if_neg (by
     intro hpm
     rw [isPM_comm] at hpm
     exact NA c hc hpm)]
   rw [e1]
   have e2 : D.filter (fresh L (cs ++ [(L p, [p])])) = (D.filter (fresh L cs)).filter (fun q => !isPM (L q) (L p)) := by
    rw [List.filter_filter]
    apply List.filter_congr
    intro q _
    unfold fresh
    rw [List.any_append, Bool.not_or]
    simp only [List.any_cons, List.any_nil, Bool.or_false]
    rw [Bool.and_comm, isPM_comm]
   have e3 : D.filter (fun q => isPM (L q) (L p)) = (D.filter (fresh L cs)).filter (fun q => isPM (L q) (L p)) := by
    rw [List.filter_filter]
    apply List.filter_congr
    intro q _
    cases hq : isPM (L q) (L p) with
    | false => simp
    | true =>
     have : fresh L cs q = true := by
      unfold fresh
      rw [Bool.not_eq_true', Bool.eq_false_iff]
      intro hh
      obtain ⟨c, hc, hcp⟩ := List.any_eq_true.1 hh
      rw [isPM_of hq] at hcp
      exact NA c hc hcp
     rw [this]; rfl
   simp only [List.map_cons, List.map_nil, keepC, List.append_assoc, List.cons_append, List.nil_append]
   rw [e2, e3]
theorem fold_grpL {L : Nat × Nat → V6} (D : List (Nat × Nat)) : D.foldl (fun cs p => putC p (L p) (negV (L p)) cs) [] = grpL L D := by
 rw [fold_grp D [] List.Pairwise.nil]
 simp only [List.map_nil, List.nil_append]
 congr 1
 exact List.filter_eq_self.2 fun q _ => rfl
def hitB (L : Nat × Nat → V6) (out : List Cl) (q : Nat × Nat) : Bool := out.any fun c => isPM c.1 (L q)
theorem hitB_snoc (L : Nat × Nat → V6) (out : List Cl) (c : Cl) (q : Nat × Nat) : hitB L (out ++ [c]) q = (hitB L out q || isPM c.1 (L q)) := by
 unfold hitB
 rw [List.any_append]; simp
theorem hitB_fresh (L : Nat × Nat → V6) (out : List Cl) (q : Nat × Nat) : fresh L out q = !hitB L out q := rfl
structure RI (L : Nat × Nat → V6) (D : List (Nat × Nat)) (out : List Cl) (a : Nat) : Prop where
 low : ∀ (b : Nat) (q : Nat × Nat), b < a → D[b]? = some q → hitB L out q = true
 eq : out ++ grpL L ((D.drop a).filter (fresh L out)) = grpL L D
theorem RI.start (L : Nat × Nat → V6) (D : List (Nat × Nat)) : RI L D [] 0 := ⟨fun b q h => absurd h (by omega), by
 rw [List.drop_zero, List.nil_append]
 congr 1
 exact List.filter_eq_self.2 fun q _ => rfl⟩
theorem RI.done {L : Nat × Nat → V6} {D : List (Nat × Nat)} {out : List Cl} (h : RI L D out D.length) : out = grpL L D := by
 have := h.eq
 rw [List.drop_length, List.filter_nil, grpL_nil, List.append_nil] at this
 exact this
theorem RI.skip {L : Nat × Nat → V6} {D : List (Nat × Nat)} {out : List Cl} {a : Nat} {p : Nat × Nat} (h : RI L D out a) (hp : D[a]? = some p) (hd : hitB L out p = true) : RI L D out (a + 1) where
 low := fun b q hb hq => by
  by_cases e : b = a
  ·subst e; rw [hp] at hq; injection hq with hq; rw [← hq]; exact hd
  ·exact h.low b q (by omega) hq
 eq := by
  have := h.eq
  obtain ⟨h1, h2⟩ := List.getElem?_eq_some_iff.1 hp
  rw [List.drop_eq_getElem_cons h1, h2, List.filter_cons, hitB_fresh, hd] at this
  exact this
def newP (L : Nat × Nat → V6) (D : List (Nat × Nat)) (v : V6) (a b : Nat) : List (Nat × Nat) := ((D.drop a).take (b - a)).filter fun q => isPM (L q) v
theorem newP_zero (L : Nat × Nat → V6) (D : List (Nat × Nat)) (v : V6) (a : Nat) : newP L D v a a = [] := by unfold newP; rw [Nat.sub_self, List.take_zero]; rfl
theorem newP_step {L : Nat × Nat → V6} {D : List (Nat × Nat)} {v : V6} {a b : Nat} {q : Nat × Nat} (hab : a ≤ b) (hq : D[b]? = some q) : newP L D v a (b + 1) = newP L D v a b ++ (if isPM (L q) v then [q] else []) := by
 unfold newP
 have h : (D.drop a)[b - a]? = some q := by rw [List.getElem?_drop, show a + (b - a) = b by omega]; exact hq
 obtain ⟨h1, h2⟩ := List.getElem?_eq_some_iff.1 h
 rw [show b + 1 - a = (b - a) + 1 by omega, ← List.take_append_getElem h1, List.filter_append, h2]
 congr 1
 rw [List.filter_cons]; rfl
theorem newP_all {L : Nat × Nat → V6} {D : List (Nat × Nat)} {v : V6} {a : Nat} (ha : a ≤ D.length) : newP L D v a D.length = (D.drop a).filter fun q => isPM (L q) v := by
 unfold newP
 rw [List.take_of_length_le (by rw [List.length_drop]; exact Nat.le_refl _)]
theorem newP_len (L : Nat × Nat → V6) (D : List (Nat × Nat)) (v : V6) (a b : Nat) : (newP L D v a b).length ≤ D.length := by
 unfold newP
 have h1 := List.length_filter_le (fun q => isPM (L q) v) ((D.drop a).take (b - a))
 rw [List.length_take, List.length_drop] at h1
 omega
theorem RI.new {L : Nat × Nat → V6} {D : List (Nat × Nat)} {out : List Cl} {a : Nat} {p : Nat × Nat} (h : RI L D out a) (hp : D[a]? = some p) (hd : hitB L out p = false) : RI L D (out ++ [(L p, newP L D (L p) a D.length)]) (a + 1) where
 low := fun b q hb hq => by
  rw [hitB_snoc]
  by_cases e : b = a
  ·subst e; rw [hp] at hq; injection hq with hq; rw [← hq]; simp [isPM_self]
  ·rw [h.low b q (by omega) hq]; rfl
 eq := by
  have he := h.eq
  obtain ⟨h1, h2⟩ := List.getElem?_eq_some_iff.1 hp
  have NA : ∀ c ∈ out, isPM c.1 (L p) = true → False := fun c hc => List.any_eq_false.1 hd c hc
  rw [List.drop_eq_getElem_cons h1, h2, List.filter_cons, hitB_fresh, hd, Bool.not_false, if_pos rfl, grpL_cons] at he
  rw [← he, newP_all (by omega), List.drop_eq_getElem_cons h1, h2, List.filter_cons, isPM_self, if_pos rfl, List.append_assoc, List.cons_append, List.nil_append]
  have e2 : (D.drop (a + 1)).filter (fresh L (out ++ [(L p, p :: (D.drop (a + 1)).filter fun q => isPM (L q) (L p))])) = ((D.drop (a + 1)).filter (fresh L out)).filter (fun q => !isPM (L q) (L p)) := by
   rw [List.filter_filter]
   apply List.filter_congr
   intro q _
   unfold fresh
   rw [List.any_append, Bool.not_or]
   simp only [List.any_cons, List.any_nil, Bool.or_false]
   rw [Bool.and_comm, isPM_comm]
  have e3 : (D.drop (a + 1)).filter (fun q => isPM (L q) (L p)) = ((D.drop (a + 1)).filter (fresh L out)).filter (fun q => isPM (L q) (L p)) := by
   rw [List.filter_filter]
   apply List.filter_congr
   intro q _
   cases hq : isPM (L q) (L p) with
   | false => simp
   | true =>
    have : fresh L out q = true := by
     unfold fresh
     rw [Bool.not_eq_true', Bool.eq_false_iff]
     intro hh
     obtain ⟨c, hc, hcp⟩ := List.any_eq_true.1 hh
     rw [isPM_of hq] at hcp
     exact NA c hc hcp
    rw [this]; rfl
  rw [e2, ← e3]
def dnB (L : Nat × Nat → V6) (D : List (Nat × Nat)) (out : List Cl) (v : V6) (b : Nat) : List Bool := ((D.take b).map fun q => hitB L out q || isPM v (L q)) ++ (D.drop b).map (hitB L out)
theorem dnB_get {L : Nat × Nat → V6} {D : List (Nat × Nat)} {out : List Cl} {v : V6} {b : Nat} {q : Nat × Nat} (hq : D[b]? = some q) : (dnB L D out v b)[b]? = some (hitB L out q) := by
 have hb := (List.getElem?_eq_some_iff.1 hq).1
 unfold dnB
 rw [List.getElem?_append_right (by simp; omega), List.getElem?_map, List.getElem?_drop]
 rw [show b + (b - ((D.take b).map fun q => hitB L out q || isPM v (L q)).length) = b by simp; omega, hq]; rfl
theorem dnB_succ {L : Nat × Nat → V6} {D : List (Nat × Nat)} {out : List Cl} {v : V6} {b : Nat} {q : Nat × Nat} (hq : D[b]? = some q) : dnB L D out v (b + 1) = (dnB L D out v b).set b (hitB L out q || isPM v (L q)) := by
 obtain ⟨h1, h2⟩ := List.getElem?_eq_some_iff.1 hq
 unfold dnB
 rw [← List.take_append_getElem h1, h2, List.map_append, List.append_assoc, List.set_append_right _ _ (by simp; omega), List.drop_eq_getElem_cons h1, h2]
 congr 1
 rw [show b - ((D.take b).map fun q => hitB L out q || isPM v (L q)).length = 0 by simp; omega]
 rfl
theorem dnB_hit {L : Nat × Nat → V6} {D : List (Nat × Nat)} {out : List Cl} {v : V6} {b : Nat} {q : Nat × Nat} (hq : D[b]? = some q) (h : isPM (L q) v = true) : dnB L D out v (b + 1) = (dnB L D out v b).set b true := by
 rw [dnB_succ hq, isPM_comm, h, Bool.or_true]
theorem dnB_same {L : Nat × Nat → V6} {D : List (Nat × Nat)} {out : List Cl} {v : V6} {b : Nat} {q : Nat × Nat} (hq : D[b]? = some q) (h : isPM (L q) v = false) : dnB L D out v (b + 1) = dnB L D out v b := by
 rw [dnB_succ hq, isPM_comm, h, Bool.or_false]
 have h3 := dnB_get (out := out) (L := L) (v := v) hq
 obtain ⟨h1, h2⟩ := List.getElem?_eq_some_iff.1 h3
 rw [← h2, List.set_getElem_self]
theorem dnB_start {L : Nat × Nat → V6} {D : List (Nat × Nat)} {out : List Cl} {a : Nat} (h : RI L D out a) (v : V6) : dnB L D out v a = D.map (hitB L out) := by
 unfold dnB
 have e : (D.take a).map (fun q => hitB L out q || isPM v (L q)) = (D.take a).map (hitB L out) := by
  apply List.map_congr_left
  intro q hq
  obtain ⟨b, hb⟩ := List.mem_iff_getElem?.1 hq
  rw [List.getElem?_take] at hb
  split at hb
  ·rename_i hlt
   rw [h.low b q hlt hb]; rfl
  ·cases hb
 rw [e, ← List.map_append, List.take_append_drop]
theorem dnB_all (L : Nat × Nat → V6) (D : List (Nat × Nat)) (out : List Cl) (c : Cl) : dnB L D out c.1 D.length = D.map (hitB L (out ++ [c])) := by
 unfold dnB
 rw [List.take_length, List.drop_length, List.map_nil, List.append_nil]
 apply List.map_congr_left
 intro q _
 rw [hitB_snoc]
theorem RI.len {L : Nat × Nat → V6} {D : List (Nat × Nat)} {out : List Cl} {a : Nat} (h : RI L D out a) : out.length ≤ D.length := by
 have h1 := congrArg List.length h.eq
 rw [List.length_append] at h1
 have h2 : ∀ (f : Nat) (D : List (Nat × Nat)), (grp L f D).length ≤ f := by
  intro f
  induction f with
  | zero => intro D; simp [grp]
  | succ f ih =>
   intro D
   cases D with
   | nil => simp [grp]
   | cons p D => simp only [grp, List.length_cons]; have := ih (D.filter fun q => !isPM (L q) (L p)); omega
 have h3 := h2 D.length D
 unfold grpL at h1
 omega
theorem clsK_fold {A B : Int} {l : List St} (h : plE A B l = 0) : ∀ k, k ≤ (prs l.length).length → clsK (pls A B l) l.length k = ((prs l.length).take k).foldl (fun cs p => putC p (lnOf (lnS A B) l p) (negV (lnOf (lnS A B) l p)) cs) []
 | 0, _ => by rw [clsK_zero, List.take_zero]; rfl
 | k + 1, hk => by
  obtain ⟨p, hp⟩ := get_some (show k < (prs l.length).length by omega)
  obtain ⟨s, t, hs, ht, ms, mt, e⟩ := lnOf_at (ln := lnS A B) (plE_len h) (List.mem_of_getElem? hp)
  rw [clsK_step (i := p.1) (j := p.2) hp (pls_get hs) (pls_get ht), prs_take hp, List.foldl_append, ← clsK_fold h k (by omega)]
  simp only [List.foldl_cons, List.foldl_nil]
  rw [e, ← lnS_opp h s ms t mt]
  rfl
theorem clsL_grp {A B : Int} {l : List St} (h : plE A B l = 0) : clsL A B l = grpL (lnOf (lnS A B) l) (prs l.length) := by
 unfold clsL
 rw [clsK_fold h _ (Nat.le_refl _), List.take_length, fold_grpL]
end Go.Proofs.YtfangplfbbgphaaGreatDoor
namespace Go.Proofs
open Go.Shelf
def Tryz.lays169_ren : Go.Shelf.Ren := ⟨fun | 169 => 53 | n => n, fun | 70 => 107 | 9 => 9 | 0 => 0 | 72 => 110 | 37 => 108 | 127 => 140 | 3 => 3 | 5 => 5 | n => n, fun | n => n⟩
theorem Tryz.lays169 : Go.Proofs.Lays.n169 Tryz.prog Tryz.lays169_ren := {
 mixed := by kernel_rfl
 f169 := Tryz.func53.trans (congrArg some (by kernel_rfl))
 t0 := Tryz.underlying0
 a0 := Tryz.isAgg0
 z0 := Tryz.sizeOf0
 v0 := Tryz.zeroValue0
 t3 := Tryz.underlying3
 a3 := Tryz.isAgg3
 z3 := Tryz.sizeOf3
 v3 := Tryz.zeroValue3
 t9 := Tryz.underlying9
 a9 := Tryz.isAgg9
 z9 := Tryz.sizeOf9
 v9 := Tryz.zeroValue9
 t37 := Tryz.underlying108
 a37 := Tryz.isAgg108
 z37 := Tryz.sizeOf108
 v37 := Tryz.zeroValue108
 t70 := Tryz.underlying107
 a70 := Tryz.isAgg107
 z70 := Tryz.sizeOf107
 v70 := Tryz.zeroValue107
 t72 := Tryz.underlying110
 a72 := Tryz.isAgg110
 z72 := Tryz.sizeOf110
 v72 := Tryz.zeroValue110
 t127 := Tryz.underlying140
 a127 := Tryz.isAgg140
 z127 := Tryz.sizeOf140
 v127 := Tryz.zeroValue140 }
theorem Tryz.Builder_Extra_169 : Builder.Extra Tryz.prog Tryz.lays169_ren := {
 sizeBuilder := by kernel_rfl
 liesBuilder := by kernel_rfl
 t5 := Tryz.underlying5
 a5 := Tryz.isAgg5
 z5 := Tryz.sizeOf5
 v5 := Tryz.zeroValue5
 infoByte := by kernel_rfl
 cellsByte := by kernel_rfl
 sizeByte := by kernel_rfl
 neB5 := by decide }
open Go.RowKit in
theorem Tryz.Builder_String_any (B b : Nat) (l : List UInt8) (w : World) (h : Lib.IsBuilder 110 5 B b (Lib.byteCells l) w) (hBw : B ≤ w.heap.size) :
  Calls Tryz.prog 53 #[.pointer (some ⟨b, 0, none⟩)] w fun e w' => e = .returned (.string ⟨l.toArray⟩) ∧ Below B w w' := Any.Builder_String_any Tryz.lays169 Tryz.Builder_Extra_169 B b l w h hBw
def Tryz.laysM173_ren : Go.Shelf.Ren := ⟨fun | 173 => 76 | 246 => 111 | 283 => 128 | 284 => 129 | 285 => 130 | 286 => 131 | 129 => 138 | 317 => 139 | 318 => 140 | 319 => 141 | 320 => 142 | 337 => 150 | 338 => 151 | n => n, fun | 2 => 2 | 3 => 3 | 9 => 9 | 4 => 4 | 171 => 188 | 0 => 0 | 53 => 150 | 37 => 108 | 5 => 5 | 173 => 190 | 212 => 196 | 51 => 197 | 20 => 20 | 213 => 198 | 46 => 183 | 232 => 214 | 233 => 215 | n => n, fun | 17 => 3 | 18 => 6 | 19 => 7 | n => n⟩
theorem Tryz.laysM173 : Go.Proofs.LaysM.n173 Tryz.prog Tryz.laysM173_ren := {
 mixed := by kernel_rfl
 f129 := Tryz.func138.trans (congrArg some (by kernel_rfl))
 f173 := Tryz.func76.trans (congrArg some (by kernel_rfl))
 f246 := Tryz.func111.trans (congrArg some (by kernel_rfl))
 f283 := Tryz.func128.trans (congrArg some (by kernel_rfl))
 f284 := Tryz.func129.trans (congrArg some (by kernel_rfl))
 f285 := Tryz.func130.trans (congrArg some (by kernel_rfl))
 f286 := Tryz.func131.trans (congrArg some (by kernel_rfl))
 f317 := Tryz.func139.trans (congrArg some (by kernel_rfl))
 f318 := Tryz.func140.trans (congrArg some (by kernel_rfl))
 f319 := Tryz.func141.trans (congrArg some (by kernel_rfl))
 f320 := Tryz.func142.trans (congrArg some (by kernel_rfl))
 f337 := Tryz.func150.trans (congrArg some (by kernel_rfl))
 f338 := Tryz.func151.trans (congrArg some (by kernel_rfl))
 t0 := Tryz.underlying0
 a0 := Tryz.isAgg0
 z0 := Tryz.sizeOf0
 v0 := Tryz.zeroValue0
 t2 := Tryz.underlying2
 a2 := Tryz.isAgg2
 z2 := Tryz.sizeOf2
 v2 := Tryz.zeroValue2
 t3 := Tryz.underlying3
 a3 := Tryz.isAgg3
 z3 := Tryz.sizeOf3
 v3 := Tryz.zeroValue3
 t4 := Tryz.underlying4
 a4 := Tryz.isAgg4
 z4 := Tryz.sizeOf4
 v4 := Tryz.zeroValue4
 t5 := Tryz.underlying5
 a5 := Tryz.isAgg5
 z5 := Tryz.sizeOf5
 v5 := Tryz.zeroValue5
 t9 := Tryz.underlying9
 a9 := Tryz.isAgg9
 z9 := Tryz.sizeOf9
 v9 := Tryz.zeroValue9
 t20 := Tryz.underlying20
 a20 := Tryz.isAgg20
 z20 := Tryz.sizeOf20
 v20 := Tryz.zeroValue20
 t37 := Tryz.underlying108
 a37 := Tryz.isAgg108
 z37 := Tryz.sizeOf108
 v37 := Tryz.zeroValue108
 t46 := Tryz.underlying183
 a46 := Tryz.isAgg183
 z46 := Tryz.sizeOf183
 v46 := Tryz.zeroValue183
 t51 := Tryz.underlying197
 a51 := Tryz.isAgg197
 z51 := Tryz.sizeOf197
 v51 := Tryz.zeroValue197
 t53 := Tryz.underlying150
 a53 := Tryz.isAgg150
 z53 := Tryz.sizeOf150
 v53 := Tryz.zeroValue150
 t171 := Tryz.underlying188
 a171 := Tryz.isAgg188
 z171 := Tryz.sizeOf188
 v171 := Tryz.zeroValue188
 t173 := Tryz.underlying190
 a173 := Tryz.isAgg190
 z173 := Tryz.sizeOf190
 v173 := Tryz.zeroValue190
 t212 := Tryz.underlying196
 a212 := Tryz.isAgg196
 z212 := Tryz.sizeOf196
 v212 := Tryz.zeroValue196
 t213 := Tryz.underlying198
 a213 := Tryz.isAgg198
 z213 := Tryz.sizeOf198
 t232 := Tryz.underlying214
 a232 := Tryz.isAgg214
 z232 := Tryz.sizeOf214
 v232 := Tryz.zeroValue214
 t233 := Tryz.underlying215
 a233 := Tryz.isAgg215
 z233 := Tryz.sizeOf215
 v233 := Tryz.zeroValue215
 g17 := by kernel_rfl
 g18 := by kernel_rfl
 g19 := by kernel_rfl
 i0 := by kernel_rfl
 i2 := by kernel_rfl
 i3 := by kernel_rfl
 i4 := by kernel_rfl
 i5 := by kernel_rfl
 i9 := by kernel_rfl
 i20 := by kernel_rfl
 i37 := by kernel_rfl
 i46 := by kernel_rfl
 i51 := by kernel_rfl
 i53 := by kernel_rfl
 i171 := by kernel_rfl
 i173 := by kernel_rfl
 i212 := by kernel_rfl
 i232 := by kernel_rfl
 i233 := by kernel_rfl
 m17 := by kernel_rfl
 m18 := by kernel_rfl
 m19 := by kernel_rfl }
open Go.RowKit Go.Sort Go.Lib in
theorem Tryz.strconv_FormatInt_10 (n : Int) (h0 : -9223372036854775808 ≤ n) (h1 : n ≤ 9223372036854775807) (w : World) (htab : Lib.TabIs Tryz.prog w "internal/strconv.uint64pow10" .u64 Lib.pow10Tab) :
  Calls Tryz.prog 76 #[.int .i64 n, .int .i64 10] w fun e w' => e = .returned (.string ⟨(Lib.itoa n).toArray⟩) ∧ ∃ k os, w' = grow (w.drewN k) os := Any.strconv_FormatInt_10 Tryz.laysM173 n h0 h1 w htab
def Tryz.laysC174_ren : Go.Shelf.Ren := ⟨fun | 174 => 117 | 247 => 136 | 245 => 137 | 287 => 145 | 279 => 146 | 280 => 147 | 281 => 148 | 282 => 149 | 321 => 152 | 322 => 153 | 316 => 118 | 171 => 155 | 205 => 154 | 243 => 156 | 246 => 111 | 283 => 128 | 284 => 129 | 285 => 130 | 286 => 131 | 129 => 138 | 317 => 139 | 318 => 140 | 319 => 141 | 320 => 142 | 337 => 150 | 338 => 151 | n => n, fun | 9 => 9 | 3 => 3 | 2 => 2 | 75 => 113 | 85 => 175 | 4 => 4 | 167 => 203 | 5 => 5 | 53 => 150 | 175 => 204 | 46 => 183 | 168 => 206 | 37 => 108 | 0 => 0 | 210 => 212 | 21 => 21 | 127 => 140 | 145 => 218 | 143 => 216 | 171 => 188 | 173 => 190 | 212 => 196 | 51 => 197 | 20 => 20 | 213 => 198 | 232 => 214 | 233 => 215 | 80 => 116 | n => n, fun | 15 => 4 | 16 => 5 | 17 => 3 | 18 => 6 | 19 => 7 | n => n⟩
theorem Tryz.laysC174 : Go.Proofs.LaysC.n174 Tryz.prog Tryz.laysC174_ren := {
 mixed := by kernel_rfl
 f129 := Tryz.func138.trans (congrArg some (by kernel_rfl))
 f171 := Tryz.func155.trans (congrArg some (by kernel_rfl))
 f174 := Tryz.func117.trans (congrArg some (by kernel_rfl))
 f205 := Tryz.func154.trans (congrArg some (by kernel_rfl))
 f243 := Tryz.func156.trans (congrArg some (by kernel_rfl))
 f245 := Tryz.func137.trans (congrArg some (by kernel_rfl))
 f246 := Tryz.func111.trans (congrArg some (by kernel_rfl))
 f247 := Tryz.func136.trans (congrArg some (by kernel_rfl))
 f279 := Tryz.func146.trans (congrArg some (by kernel_rfl))
 f280 := Tryz.func147.trans (congrArg some (by kernel_rfl))
 f281 := Tryz.func148.trans (congrArg some (by kernel_rfl))
 f282 := Tryz.func149.trans (congrArg some (by kernel_rfl))
 f283 := Tryz.func128.trans (congrArg some (by kernel_rfl))
 f284 := Tryz.func129.trans (congrArg some (by kernel_rfl))
 f285 := Tryz.func130.trans (congrArg some (by kernel_rfl))
 f286 := Tryz.func131.trans (congrArg some (by kernel_rfl))
 f287 := Tryz.func145.trans (congrArg some (by kernel_rfl))
 f316 := Tryz.func118.trans (congrArg some (by kernel_rfl))
 f317 := Tryz.func139.trans (congrArg some (by kernel_rfl))
 f318 := Tryz.func140.trans (congrArg some (by kernel_rfl))
 f319 := Tryz.func141.trans (congrArg some (by kernel_rfl))
 f320 := Tryz.func142.trans (congrArg some (by kernel_rfl))
 f321 := Tryz.func152.trans (congrArg some (by kernel_rfl))
 f322 := Tryz.func153.trans (congrArg some (by kernel_rfl))
 f337 := Tryz.func150.trans (congrArg some (by kernel_rfl))
 f338 := Tryz.func151.trans (congrArg some (by kernel_rfl))
 t0 := Tryz.underlying0
 a0 := Tryz.isAgg0
 z0 := Tryz.sizeOf0
 v0 := Tryz.zeroValue0
 t2 := Tryz.underlying2
 a2 := Tryz.isAgg2
 z2 := Tryz.sizeOf2
 v2 := Tryz.zeroValue2
 t3 := Tryz.underlying3
 a3 := Tryz.isAgg3
 z3 := Tryz.sizeOf3
 v3 := Tryz.zeroValue3
 t4 := Tryz.underlying4
 a4 := Tryz.isAgg4
 z4 := Tryz.sizeOf4
 v4 := Tryz.zeroValue4
 t5 := Tryz.underlying5
 a5 := Tryz.isAgg5
 z5 := Tryz.sizeOf5
 v5 := Tryz.zeroValue5
 t9 := Tryz.underlying9
 a9 := Tryz.isAgg9
 z9 := Tryz.sizeOf9
 v9 := Tryz.zeroValue9
 t20 := Tryz.underlying20
 a20 := Tryz.isAgg20
 z20 := Tryz.sizeOf20
 v20 := Tryz.zeroValue20
 t21 := Tryz.underlying21
 a21 := Tryz.isAgg21
 z21 := Tryz.sizeOf21
 v21 := Tryz.zeroValue21
 t37 := Tryz.underlying108
 a37 := Tryz.isAgg108
 z37 := Tryz.sizeOf108
 v37 := Tryz.zeroValue108
 t46 := Tryz.underlying183
 a46 := Tryz.isAgg183
 z46 := Tryz.sizeOf183
 v46 := Tryz.zeroValue183
 t51 := Tryz.underlying197
 a51 := Tryz.isAgg197
 z51 := Tryz.sizeOf197
 v51 := Tryz.zeroValue197
 t53 := Tryz.underlying150
 a53 := Tryz.isAgg150
 z53 := Tryz.sizeOf150
 v53 := Tryz.zeroValue150
 t75 := Tryz.underlying113
 a75 := Tryz.isAgg113
 z75 := Tryz.sizeOf113
 v75 := Tryz.zeroValue113
 t85 := Tryz.underlying175
 a85 := Tryz.isAgg175
 z85 := Tryz.sizeOf175
 v85 := Tryz.zeroValue175
 t127 := Tryz.underlying140
 a127 := Tryz.isAgg140
 z127 := Tryz.sizeOf140
 v127 := Tryz.zeroValue140
 t143 := Tryz.underlying216
 a143 := Tryz.isAgg216
 z143 := Tryz.sizeOf216
 v143 := Tryz.zeroValue216
 t145 := Tryz.underlying218
 a145 := Tryz.isAgg218
 z145 := Tryz.sizeOf218
 v145 := Tryz.zeroValue218
 t167 := Tryz.underlying203
 a167 := Tryz.isAgg203
 z167 := Tryz.sizeOf203
 v167 := Tryz.zeroValue203
 t168 := Tryz.underlying206
 a168 := Tryz.isAgg206
 z168 := Tryz.sizeOf206
 v168 := Tryz.zeroValue206
 t171 := Tryz.underlying188
 a171 := Tryz.isAgg188
 z171 := Tryz.sizeOf188
 v171 := Tryz.zeroValue188
 t173 := Tryz.underlying190
 a173 := Tryz.isAgg190
 z173 := Tryz.sizeOf190
 v173 := Tryz.zeroValue190
 t175 := Tryz.underlying204
 a175 := Tryz.isAgg204
 z175 := Tryz.sizeOf204
 v175 := Tryz.zeroValue204
 t210 := Tryz.underlying212
 a210 := Tryz.isAgg212
 z210 := Tryz.sizeOf212
 v210 := Tryz.zeroValue212
 t212 := Tryz.underlying196
 a212 := Tryz.isAgg196
 z212 := Tryz.sizeOf196
 v212 := Tryz.zeroValue196
 t213 := Tryz.underlying198
 a213 := Tryz.isAgg198
 z213 := Tryz.sizeOf198
 t232 := Tryz.underlying214
 a232 := Tryz.isAgg214
 z232 := Tryz.sizeOf214
 v232 := Tryz.zeroValue214
 t233 := Tryz.underlying215
 a233 := Tryz.isAgg215
 z233 := Tryz.sizeOf215
 v233 := Tryz.zeroValue215
 g15 := by kernel_rfl
 g16 := by kernel_rfl
 g17 := by kernel_rfl
 g18 := by kernel_rfl
 g19 := by kernel_rfl
 t80 := Tryz.underlying116
 a80 := Tryz.isAgg116
 z80 := Tryz.sizeOf116
 v80 := Tryz.zeroValue116
 i0 := by kernel_rfl
 i2 := by kernel_rfl
 i3 := by kernel_rfl
 i4 := by kernel_rfl
 i5 := by kernel_rfl
 i9 := by kernel_rfl
 i20 := by kernel_rfl
 i21 := by kernel_rfl
 i37 := by kernel_rfl
 i46 := by kernel_rfl
 i51 := by kernel_rfl
 i53 := by kernel_rfl
 i75 := by kernel_rfl
 i80 := by kernel_rfl
 i85 := by kernel_rfl
 i127 := by kernel_rfl
 i143 := by kernel_rfl
 i145 := by kernel_rfl
 i167 := by kernel_rfl
 i168 := by kernel_rfl
 i171 := by kernel_rfl
 i173 := by kernel_rfl
 i175 := by kernel_rfl
 i210 := by kernel_rfl
 i212 := by kernel_rfl
 i232 := by kernel_rfl
 i233 := by kernel_rfl
 m15 := by kernel_rfl
 m16 := by kernel_rfl
 m17 := by kernel_rfl
 m18 := by kernel_rfl
 m19 := by kernel_rfl
 c0 := by kernel_rfl
 c2 := by kernel_rfl
 c3 := by kernel_rfl
 c4 := by kernel_rfl
 c5 := by kernel_rfl
 c9 := by kernel_rfl
 c20 := by kernel_rfl
 c21 := by kernel_rfl
 c37 := by kernel_rfl
 c46 := by kernel_rfl
 c51 := by kernel_rfl
 c53 := by kernel_rfl
 c75 := by kernel_rfl
 c80 := by kernel_rfl
 c85 := by kernel_rfl
 c127 := by kernel_rfl
 c143 := by kernel_rfl
 c145 := by kernel_rfl
 c167 := by kernel_rfl
 c168 := by kernel_rfl
 c171 := by kernel_rfl
 c173 := by kernel_rfl
 c175 := by kernel_rfl
 c210 := by kernel_rfl
 c212 := by kernel_rfl
 c213 := by kernel_rfl
 c232 := by kernel_rfl
 c233 := by kernel_rfl }
open Go.RowKit in
theorem Tryz.strconv_ParseInt_10_at64_ok (s : ByteArray) (hmax : s.size ≤ 9223372036854775806) (v : Int) (h : Lib.parseIntB 64 s.data.toList = .ok v) (w : World) :
  Calls Tryz.prog 117 #[.string s, .int .i64 10, .int .i64 64] w fun e w' => e = .returned (.tuple #[.int .i64 v, .nilIface]) ∧ (w' = w ∨ ∃ t, w' = Lib.bytesWorld w 5 t) := Any.strconv_ParseInt_10_at64_ok Tryz.laysC174 s hmax v h w
open Go.RowKit in
theorem Tryz.strconv_ParseInt_10_at64_syntax_var (s : ByteArray) (hlim : s.size ≤ 281474976710656) (h : (∀ v, Lib.parseIntB 64 s.data.toList ≠ .ok v) ∧ Lib.parseIntB 64 s.data.toList ≠ .range) (tp : TypeId) (p : Value) (w : World) (hvar : w.var? Tryz.prog "strconv.ErrSyntax" = some #[.iface tp p]) :
  Calls Tryz.prog 117 #[.string s, .int .i64 10, .int .i64 64] w fun e w' => ∃ N, e = .returned (.tuple #[.int .i64 (0), .iface 206 (.pointer (some ⟨N, 0, none⟩))]) ∧ w.heap.size ≤ N ∧ w'.heap[N]? = some (.cells #[.string ⟨#[80, 97, 114, 115, 101, 73, 110, 116]⟩, .string s, .iface tp p] 212 (0, 0)) ∧ Below w.heap.size w w' := Any.strconv_ParseInt_10_at64_syntax_var Tryz.laysC174 s hlim (by cases k : Lib.parseIntB 64 s.data.toList with | ok v => exact absurd k (h.1 v) | range => exact absurd k h.2 | _ => rfl) tp p w hvar
open Go.RowKit in
theorem Tryz.strconv_ParseInt_10_at64_range_var (s : ByteArray) (hlim : s.size ≤ 281474976710656) (h : Lib.parseIntB 64 s.data.toList = .range) (tp : TypeId) (p : Value) (w : World) (hvar : w.var? Tryz.prog "strconv.ErrRange" = some #[.iface tp p]) :
  Calls Tryz.prog 117 #[.string s, .int .i64 10, .int .i64 64] w fun e w' => ∃ N, e = .returned (.tuple #[.int .i64 (Lib.intSat 64 s.data.toList), .iface 206 (.pointer (some ⟨N, 0, none⟩))]) ∧ w.heap.size ≤ N ∧ w'.heap[N]? = some (.cells #[.string ⟨#[80, 97, 114, 115, 101, 73, 110, 116]⟩, .string s, .iface tp p] 212 (0, 0)) ∧ Below w.heap.size w w' := Any.strconv_ParseInt_10_at64_range_var Tryz.laysC174 s hlim h tp p w hvar
def Tryz.lays145_ren : Go.Shelf.Ren := ⟨fun | 145 => 56 | 220 => 82 | 219 => 116 | 217 => 132 | 225 => 133 | 224 => 134 | 267 => 135 | 266 => 143 | 314 => 144 | n => n, fun | 9 => 9 | 4 => 4 | 59 => 119 | 3 => 3 | 5 => 5 | 46 => 183 | 146 => 201 | 51 => 197 | n => n, fun | 1 => 2 | n => n⟩
theorem Tryz.lays145 : Go.Proofs.Lays.n145 Tryz.prog Tryz.lays145_ren := {
 mixed := by kernel_rfl
 f145 := Tryz.func56.trans (congrArg some (by kernel_rfl))
 f217 := Tryz.func132.trans (congrArg some (by kernel_rfl))
 f219 := Tryz.func116.trans (congrArg some (by kernel_rfl))
 f220 := Tryz.func82.trans (congrArg some (by kernel_rfl))
 f224 := Tryz.func134.trans (congrArg some (by kernel_rfl))
 f225 := Tryz.func133.trans (congrArg some (by kernel_rfl))
 f266 := Tryz.func143.trans (congrArg some (by kernel_rfl))
 f267 := Tryz.func135.trans (congrArg some (by kernel_rfl))
 f314 := Tryz.func144.trans (congrArg some (by kernel_rfl))
 t3 := Tryz.underlying3
 a3 := Tryz.isAgg3
 z3 := Tryz.sizeOf3
 v3 := Tryz.zeroValue3
 t4 := Tryz.underlying4
 a4 := Tryz.isAgg4
 z4 := Tryz.sizeOf4
 v4 := Tryz.zeroValue4
 t5 := Tryz.underlying5
 a5 := Tryz.isAgg5
 z5 := Tryz.sizeOf5
 v5 := Tryz.zeroValue5
 t9 := Tryz.underlying9
 a9 := Tryz.isAgg9
 z9 := Tryz.sizeOf9
 v9 := Tryz.zeroValue9
 t46 := Tryz.underlying183
 a46 := Tryz.isAgg183
 z46 := Tryz.sizeOf183
 v46 := Tryz.zeroValue183
 t51 := Tryz.underlying197
 a51 := Tryz.isAgg197
 z51 := Tryz.sizeOf197
 v51 := Tryz.zeroValue197
 t59 := Tryz.underlying119
 a59 := Tryz.isAgg119
 z59 := Tryz.sizeOf119
 v59 := Tryz.zeroValue119
 t146 := Tryz.underlying201
 a146 := Tryz.isAgg201
 z146 := Tryz.sizeOf201
 v146 := Tryz.zeroValue201
 g1 := by kernel_rfl }
open Go.RowKit Go.Lib in
theorem Tryz.strings_Cut (s sep : ByteArray) (m : Int) (w : World) (hs : s.size < 4294967281) (hm : w.cell? ⟨2, 0, none⟩ = some (.int .i64 m)) :
  Calls Tryz.prog 56 #[.string s, .string sep] w fun e w' => e = .returned (.tuple #[.string ⟨(Lib.cut s.data.toList sep.data.toList).1.toArray⟩, .string ⟨(Lib.cut s.data.toList sep.data.toList).2.1.toArray⟩, .bool (Lib.cut s.data.toList sep.data.toList).2.2]) ∧ ∃ n, w' = w.drewN n := Any.strings_Cut Tryz.lays145 s sep m w hs hm
def Tryz.laysM145_ren : Go.Shelf.Ren := ⟨fun | 145 => 56 | 220 => 82 | 219 => 116 | 217 => 132 | 225 => 133 | 224 => 134 | 267 => 135 | 266 => 143 | 314 => 144 | n => n, fun | 9 => 9 | 4 => 4 | 59 => 119 | 3 => 3 | 5 => 5 | 46 => 183 | 146 => 201 | 51 => 197 | n => n, fun | 1 => 2 | n => n⟩
theorem Tryz.laysM145 : Go.Proofs.LaysM.n145 Tryz.prog Tryz.laysM145_ren := {
 mixed := by kernel_rfl
 f145 := Tryz.func56.trans (congrArg some (by kernel_rfl))
 f217 := Tryz.func132.trans (congrArg some (by kernel_rfl))
 f219 := Tryz.func116.trans (congrArg some (by kernel_rfl))
 f220 := Tryz.func82.trans (congrArg some (by kernel_rfl))
 f224 := Tryz.func134.trans (congrArg some (by kernel_rfl))
 f225 := Tryz.func133.trans (congrArg some (by kernel_rfl))
 f266 := Tryz.func143.trans (congrArg some (by kernel_rfl))
 f267 := Tryz.func135.trans (congrArg some (by kernel_rfl))
 f314 := Tryz.func144.trans (congrArg some (by kernel_rfl))
 t3 := Tryz.underlying3
 a3 := Tryz.isAgg3
 z3 := Tryz.sizeOf3
 v3 := Tryz.zeroValue3
 t4 := Tryz.underlying4
 a4 := Tryz.isAgg4
 z4 := Tryz.sizeOf4
 v4 := Tryz.zeroValue4
 t5 := Tryz.underlying5
 a5 := Tryz.isAgg5
 z5 := Tryz.sizeOf5
 v5 := Tryz.zeroValue5
 t9 := Tryz.underlying9
 a9 := Tryz.isAgg9
 z9 := Tryz.sizeOf9
 v9 := Tryz.zeroValue9
 t46 := Tryz.underlying183
 a46 := Tryz.isAgg183
 z46 := Tryz.sizeOf183
 v46 := Tryz.zeroValue183
 t51 := Tryz.underlying197
 a51 := Tryz.isAgg197
 z51 := Tryz.sizeOf197
 v51 := Tryz.zeroValue197
 t59 := Tryz.underlying119
 a59 := Tryz.isAgg119
 z59 := Tryz.sizeOf119
 v59 := Tryz.zeroValue119
 t146 := Tryz.underlying201
 a146 := Tryz.isAgg201
 z146 := Tryz.sizeOf201
 v146 := Tryz.zeroValue201
 g1 := by kernel_rfl
 i3 := by kernel_rfl
 i4 := by kernel_rfl
 i5 := by kernel_rfl
 i9 := by kernel_rfl
 i46 := by kernel_rfl
 i51 := by kernel_rfl
 i59 := by kernel_rfl
 i146 := by kernel_rfl
 m1 := by kernel_rfl
 s1_3 := fun w h => Go.Proofs.cell_of_shapedOpen_int (zero := #[.int .i64 0]) (t := 3) h (of_decide_eq_true (by kernel_rfl)) (by kernel_rfl) rfl (by kernel_rfl) (by kernel_rfl) Tryz.underlying3 }
end Go.Proofs
namespace Go.Proofs.YtfangplfbbgphaaGreatDoor
open Go Go.RowKit
set_option linter.unusedVariables false
set_option maxRecDepth 100000
theorem sb_size : (Tryz.prog.info? 110).map (·.size) = some 2 := by kernel_rfl
theorem sb_lies : liesAt Tryz.prog Tryz.prog.depth 110 (2 / Tryz.prog.cellsOf 110) 0 110 1 = true := by kernel_rfl
theorem sb_byte : (Tryz.prog.info? 5).map (fun i => (i.zero, i.size, i.bytes)) = some (some (.int .u8 0), 1, 1) := by kernel_rfl
set_option maxHeartbeats 1000000 in
set_option maxRecDepth 100000 in
theorem sb_used (b : Nat) (w : World) (h0 : w.cell? ⟨b, 0, none⟩ = some (.pointer (some ⟨b, 0, none⟩))) :
  Calls Tryz.prog 77 #[.pointer (some ⟨b, 0, none⟩)] w fun e w' => e = .returned (.tuple #[]) ∧ w' = w := by
 obtain ⟨j, hj, _⟩ := Option.map_eq_some_iff.1 sb_size
 go_enter Tryz.func77, Tryz.ntmps77
 go_wp2
 rw [Lib.run_neq_ptr_same w _ Tryz.underlying107 hj]
 go_wp2
 go_end0
 exact ⟨rfl, rfl⟩
set_option maxHeartbeats 1000000 in
set_option maxRecDepth 100000 in
theorem sb_fresh (b : Nat) (w : World) (h0 : w.cell? ⟨b, 0, none⟩ = some (.pointer none)) (hsh : w.shape? b = some (110, 2)) (hfz : w.frozen? ⟨b, 0, none⟩ = false) :
  Calls Tryz.prog 77 #[.pointer (some ⟨b, 0, none⟩)] w fun e w' => e = .returned (.tuple #[]) ∧ w' = w.setCell ⟨b, 0, none⟩ (.pointer (some ⟨b, 0, none⟩)) := by
 obtain ⟨j, hj, hjs⟩ := Option.map_eq_some_iff.1 sb_size
 go_enter Tryz.func77, Tryz.ntmps77
 go_wp2
 rw [Lib.run_to_unsafe w ⟨b, 0, none⟩ Tryz.underlying107 Tryz.underlying171 hj (by rw [hjs]; decide) hsh (Nat.zero_lt_succ 1)]
 simp only [Result.andThen]
 rw [Oper.upon_value]
 go_wp2
 rw [run_callFunc_extern Tryz.func112 (by kernel_rfl) (by kernel_rfl) (by kernel_rfl) (e := Extern.AbiNoEscape.same) (by kernel_rfl)]
 rw [Lib.run_noEscape]
 simp only [Result.andThen]
 rw [Oper.upon_value]
 go_wp2
 rw [Lib.run_from_unsafe w ⟨b, 0, none⟩ Tryz.underlying171 Tryz.underlying107 hj hsh sb_lies]
 simp only [Result.andThen]
 rw [Oper.upon_value]
 go_wp2
 go_end0
 exact ⟨rfl, rfl⟩
abbrev SB (B b : Nat) (bs : List Value) (w : World) : Prop := Lib.IsBuilder 110 5 B b bs w
abbrev SBU (B b : Nat) (bs : List Value) (w : World) : Prop := Lib.BuilderAt 110 5 B b (.pointer (some ⟨b, 0, none⟩)) bs w
theorem sb_check (B b : Nat) (bs : List Value) (w : World) (h : SB B b bs w) :
  Calls Tryz.prog 77 #[.pointer (some ⟨b, 0, none⟩)] w fun e w' => e = .returned (.tuple #[]) ∧ SBU B b bs w' ∧ Below B w w' := by
 rcases h with h | h
 ·refine (sb_fresh b w h.cell0 h.shape h.frozen0).mono ?_
  rintro e w' ⟨rfl, rfl⟩
  exact ⟨rfl, h.used _, (Below.refl B w).setCell (p := ⟨b, 0, none⟩) h.1 _⟩
 ·refine (sb_used b w h.cell0).mono ?_
  rintro e w' ⟨rfl, rfl⟩
  exact ⟨rfl, h, Below.refl B _⟩
set_option maxHeartbeats 1000000 in
set_option maxRecDepth 100000 in
theorem sb_write (B b : Nat) (bs : List Value) (s : ByteArray) (w : World) (h : SB B b bs w) (hlen : bs.length + s.size ≤ 140737488355328) (hBw : B ≤ w.heap.size) :
  Calls Tryz.prog 52 #[.pointer (some ⟨b, 0, none⟩), .string s] w fun e w' => e = .returned (.tuple #[.int .i64 s.size, .nilIface]) ∧ SBU B b (bs ++ Lib.strCells s) w' ∧ Below B w w' := by
 obtain ⟨i0, hi, hz0, hz1, hz2⟩ := info_parts sb_byte
 go_enter Tryz.func52, Tryz.ntmps52
 go_wp2_with fail
 refine (sb_check B b bs _ h).mono ?_
 rintro e w1 ⟨rfl, h1, hb1⟩
 obtain ⟨hB, v, hbk, hown, hne⟩ := h1
 have c0 : w1.cell? ⟨b, 0, none⟩ = some (.pointer (some ⟨b, 0, none⟩)) := by rw [Lib.cell_of_heap hbk]; rfl
 have c1 : w1.cell? ⟨b, 1, none⟩ = some v := by rw [Lib.cell_of_heap hbk]; rfl
 go_wp2_with (at_builtin; refine Lib.wpList_append_own_string _ rfl _ _ 108 9 rfl B 5 i0 Tryz.underlying108 Tryz.underlying9 hi hz0 hz1 hz2 _ _ _ rfl hown s rfl ?c3 ?c4 ?c5 ?_)
 case c3 => unfold maxLen; omega
 case c4 => omega
 case c5 => have := hb1.size; omega
 intro v' w2 hown' hgrow _
 have hlt : b < w1.heap.size := by
  rcases Nat.lt_or_ge b w1.heap.size with h' | h'
  ·exact h'
  ·simp [Array.getElem?_eq_none h'] at hbk
 have hb2 : w2.heap[b]? = some (.cells #[.pointer (some ⟨b, 0, none⟩), v] 110 (0, 0)) := by
  rw [hgrow.block b hlt (fun e => hne e.symm)]
  exact hbk
 have d0 : w2.cell? ⟨b, 0, none⟩ = some (.pointer (some ⟨b, 0, none⟩)) := by rw [Lib.cell_of_heap hb2]; rfl
 have d1 : w2.cell? ⟨b, 1, none⟩ = some v := by rw [Lib.cell_of_heap hb2]; rfl
 have f1 : w2.frozen? ⟨b, 1, none⟩ = false := Lib.frozen_of_heap hb2 1
 obtain ⟨ao, n', cap, rfl⟩ : ∃ ao n' cap, v' = .slice ao n' cap := by
  rcases hown'.2 with ⟨hv, _⟩ | ⟨g, cap, cur, hv, _⟩
  ·exact ⟨_, _, _, hv⟩
  ·exact ⟨_, _, _, hv⟩
 go_wp2
 go_ret2
 refine ⟨rfl, ?_, ?_⟩
 ·exact Lib.BuilderAt.put (T := 110) (e := 5) hB hb2 (bs' := bs ++ Lib.strCells s) (by simpa [Lib.strCells_length] using hown') (by decide)
 ·exact (hb1.grown hgrow (by have := hb1.size; omega) (fun k hk => (hown.lt k hk).1)).setCell (p := ⟨b, 1, none⟩) hB _
theorem SB.new (w : World) : SB w.heap.size w.heap.size [] (w.alloc (.cells #[.pointer none, .slice none 0 0] 110)) :=
 .inl ⟨Nat.le_refl _, _, blk_new w _, World.ownsRow_nil _ _ _ _, by simp [Value.ownBlock]⟩
end Go.Proofs.YtfangplfbbgphaaGreatDoor
namespace Go.Proofs.YtfangplfbbgphaaGreatDoor
open Go
set_option linter.unusedVariables false
theorem dec_small {u : Nat} (h : u < 10) : Lib.decDigits u = [UInt8.ofNat (48 + u)] := by rw [Lib.decDigits, dif_pos h]
theorem dec_big {u : Nat} (h : ¬ u < 10) : Lib.decDigits u = Lib.decDigits (u / 10) ++ [UInt8.ofNat (48 + u % 10)] := by rw [Lib.decDigits, dif_neg h]
theorem dig_nat {k : Nat} (h : k < 10) : (UInt8.ofNat (48 + k)).toNat = 48 + k := by
 rw [UInt8.toNat_ofNat']; omega
theorem dec_digit : ∀ (n u : Nat), u < n → ∀ c ∈ Lib.decDigits u, 48 ≤ c.toNat ∧ c.toNat ≤ 57 := by
 intro n
 induction n with
 | zero => intro u h; omega
 | succ n ih =>
  intro u h c hc
  by_cases hu : u < 10
  ·rw [dec_small hu] at hc
   simp only [List.mem_singleton] at hc
   subst hc
   rw [dig_nat hu]; omega
  ·rw [dec_big hu] at hc
   rcases List.mem_append.1 hc with h1 | h1
   ·exact ih (u / 10) (by omega) c h1
   ·simp only [List.mem_singleton] at h1
    subst h1
    rw [dig_nat (by omega)]; omega
theorem dec_ne (u : Nat) : Lib.decDigits u ≠ [] := by
 by_cases hu : u < 10
 ·rw [dec_small hu]; simp
 ·rw [dec_big hu]; simp
def spell (acc : Nat) (l : List UInt8) : Nat := l.foldl (fun a c => a * 10 + (c.toNat - 48)) acc
theorem spell_cons (acc : Nat) (c : UInt8) (l : List UInt8) : spell acc (c :: l) = spell (acc * 10 + (c.toNat - 48)) l := by unfold spell; rw [List.foldl_cons]
theorem spell_snoc (acc : Nat) (l : List UInt8) (c : UInt8) : spell acc (l ++ [c]) = spell acc l * 10 + (c.toNat - 48) := by unfold spell; rw [List.foldl_append, List.foldl_cons, List.foldl_nil]
theorem spell_ge : ∀ (l : List UInt8) (acc : Nat), acc ≤ spell acc l
 | [], acc => Nat.le_refl _
 | c :: l, acc => by
  rw [spell_cons]
  exact Nat.le_trans (by omega) (spell_ge l (acc * 10 + (c.toNat - 48)))
theorem spell_dec : ∀ (n u : Nat), u < n → spell 0 (Lib.decDigits u) = u := by
 intro n
 induction n with
 | zero => intro u h; omega
 | succ n ih =>
  intro u h
  by_cases hu : u < 10
  ·rw [dec_small hu, show [UInt8.ofNat (48 + u)] = [] ++ [UInt8.ofNat (48 + u)] from rfl, spell_snoc, dig_nat hu]
   simp [spell]
  ·rw [dec_big hu, spell_snoc, ih (u / 10) (by omega), dig_nat (by omega)]
   omega
theorem parseU_spell {M : Nat} (hM : M = 18446744073709551615) : ∀ (l : List UInt8) (acc : Nat), (∀ c ∈ l, 48 ≤ c.toNat ∧ c.toNat ≤ 57) → spell acc l ≤ M → Lib.parseUintM M acc l = .ok (spell acc l)
 | [], acc, _, _ => rfl
 | c :: l, acc, hd, hs => by
  have h1 := hd c (by simp)
  rw [spell_cons] at hs ⊢
  have h2 := spell_ge l (acc * 10 + (c.toNat - 48))
  unfold Lib.parseUintM
  rw [if_pos h1, if_neg (by omega), if_neg (by omega)]
  exact parseU_spell hM l _ (fun x hx => hd x (by simp [hx])) hs
theorem parseI_minus {r : List UInt8} {u : Nat} (h : Lib.parseUintB 64 r = .ok u) (hu : u ≤ 9223372036854775808) : Lib.parseIntB 64 (45 :: r) = .ok (-(u : Int)) := by
 unfold Lib.parseIntB
 have e : (if (45 : UInt8).toNat = 43 ∨ (45 : UInt8).toNat = 45 then r else 45 :: r) = r := if_pos (.inr rfl)
 simp only [e, h]
 have n : (45 : UInt8).toNat = 45 := rfl
 rw [if_neg (fun k => k.1 n), if_neg (fun k => by have := k.2; rw [show (2 : Nat) ^ (64 - 1) = 9223372036854775808 from rfl] at this; omega), if_pos n]
theorem parseI_plain {c : UInt8} {r : List UInt8} {u : Nat} (hc : 48 ≤ c.toNat) (h : Lib.parseUintB 64 (c :: r) = .ok u) (hu : u < 9223372036854775808) : Lib.parseIntB 64 (c :: r) = .ok (u : Int) := by
 unfold Lib.parseIntB
 have e : (if c.toNat = 43 ∨ c.toNat = 45 then r else c :: r) = c :: r := if_neg (by omega)
 simp only [e, h]
 rw [if_neg (fun k => by have := k.2; rw [show (2 : Nat) ^ (64 - 1) = 9223372036854775808 from rfl] at this; omega), if_neg (fun k => by have := k.1; omega), if_neg (by omega)]
theorem parseI_itoa {n : Int} (h1 : -9223372036854775808 ≤ n) (h2 : n ≤ 9223372036854775807) : Lib.parseIntB 64 (Lib.itoa n) = .ok n := by
 have U : ∀ u : Nat, u ≤ 9223372036854775808 → Lib.parseUintB 64 (Lib.decDigits u) = .ok u := fun u hu => by
  unfold Lib.parseUintB
  have hs := spell_dec (u + 1) u (by omega)
  rw [if_neg (dec_ne u), parseU_spell (by decide) _ _ (dec_digit (u + 1) u (by omega)) (by rw [hs]; omega), hs]
 by_cases hn : n < 0
 ·have e : Lib.itoa n = 45 :: Lib.decDigits n.natAbs := by unfold Lib.itoa; rw [if_pos hn]
  rw [e, parseI_minus (U n.natAbs (by omega)) (by omega)]
  congr 1; omega
 ·have e : Lib.itoa n = Lib.decDigits n.toNat := by unfold Lib.itoa; rw [if_neg hn]
  rw [e]
  have u := U n.toNat (by omega)
  have dg := dec_digit (n.toNat + 1) n.toNat (by omega)
  cases hl : Lib.decDigits n.toNat with
  | nil => exact absurd hl (dec_ne _)
  | cons c r =>
   rw [hl] at u dg
   rw [parseI_plain (dg c (by simp)).1 u (by omega)]
   congr 1; omega
theorem itoa_byte {n : Int} : ∀ c ∈ Lib.itoa n, c ≠ 47 := fun c hc e => by
 subst e
 unfold Lib.itoa at hc
 have t : (47 : UInt8).toNat = 47 := rfl
 split at hc
 ·rcases List.mem_cons.1 hc with h | h
  ·cases h
  ·have := dec_digit (n.natAbs + 1) n.natAbs (by omega) _ h; omega
 ·have := dec_digit (n.toNat + 1) n.toNat (by omega) _ hc; omega
def textL (n d : Int) : List UInt8 := if d = 1 then Lib.itoa n else Lib.itoa n ++ 47 :: Lib.itoa d
theorem byte_none : ∀ (l : List UInt8) (c : UInt8), (∀ x ∈ l, x ≠ c) → Lib.indexByte l c = -1
 | [], _, _ => rfl
 | b :: l, c, h => by
  have hb : (b == c) = false := by rw [beq_eq_false_iff_ne]; exact h b (by simp)
  unfold Lib.indexByte
  rw [hb, byte_none l c (fun x hx => h x (by simp [hx]))]
  rfl
theorem byte_at : ∀ (l : List UInt8) (c : UInt8) (r : List UInt8), (∀ x ∈ l, x ≠ c) → Lib.indexByte (l ++ c :: r) c = (l.length : Int)
 | [], c, r, _ => by simp [Lib.indexByte]
 | b :: l, c, r, h => by
  have hb : (b == c) = false := by rw [beq_eq_false_iff_ne]; exact h b (by simp)
  have ih := byte_at l c r (fun x hx => h x (by simp [hx]))
  rw [List.cons_append]
  unfold Lib.indexByte
  rw [hb, ih]
  have : ((l.length : Int) == -1) = false := by rw [beq_eq_false_iff_ne]; omega
  rw [this]
  simp
theorem cut_none {l : List UInt8} (h : ∀ x ∈ l, x ≠ 47) : Lib.cut l [47] = (l, [], false) := by
 unfold Lib.cut
 rw [Lib.index_one, byte_none l 47 h, if_neg (by decide)]
theorem cut_at {l r : List UInt8} (h : ∀ x ∈ l, x ≠ 47) : Lib.cut (l ++ 47 :: r) [47] = (l, r, true) := by
 unfold Lib.cut
 rw [Lib.index_one, byte_at l 47 r h, if_pos (by omega)]
 simp [List.drop_append]
theorem cut_text (n d : Int) : Lib.cut (textL n d) [47] = (Lib.itoa n, if d = 1 then [] else Lib.itoa d, !decide (d = 1)) := by
 unfold textL
 by_cases h : d = 1
 ·rw [if_pos h, if_pos h, cut_none itoa_byte]; simp [h]
 ·rw [if_neg h, if_neg h, cut_at itoa_byte]; simp [h]
theorem text_len {n d : Int} (v : VF n d) : (textL n d).length ≤ 40 := by
 have L : ∀ x : Int, -1000000000000000000 ≤ x → x ≤ 1000000000000000000 → (Lib.itoa x).length ≤ 20 ∧ (0 ≤ x → (Lib.itoa x).length ≤ 19) := by
  intro x h1 h2
  have D : ∀ (k u : Nat), u < 10 ^ (k + 1) → (Lib.decDigits u).length ≤ k + 1 := by
   intro k
   induction k with
   | zero => intro u hu; rw [dec_small (by simpa using hu)]; simp
   | succ k ih =>
    intro u hu
    by_cases h : u < 10
    ·rw [dec_small h]; simp
    ·rw [dec_big h, List.length_append]
     have := ih (u / 10) (by rw [Nat.pow_succ] at hu; omega)
     simp; omega
  unfold Lib.itoa
  split
  ·have := D 18 x.natAbs (by omega)
   simp; omega
  ·have := D 18 x.toNat (by omega)
   omega
 have a := L n v.n1 v.n2
 have b := L d (by have := v.d1; omega) v.d2
 have b2 := b.2 (by have := v.d1; omega)
 unfold textL
 split
 ·omega
 ·simp; omega
def PR (l : List UInt8) (r : Int × Int × Int) : Prop := (r.2.2 = 0 ∧ VF r.1 r.2.1 ∧ textL r.1 r.2.1 = l) ∨ (r = (0, 0, 12) ∧ ∀ n d, VF n d → textL n d ≠ l)
theorem text_inj {n d m k : Int} (v : VF n d) (u : VF m k) (h : textL n d = textL m k) : n = m ∧ d = k := by
 have c := congrArg (fun l => Lib.cut l [47]) h
 simp only [cut_text, Prod.mk.injEq] at c
 obtain ⟨c1, c2, c3⟩ := c
 have vn := parseI_itoa (n := n) (by have := v.n1; omega) (by have := v.n2; omega)
 have um := parseI_itoa (n := m) (by have := u.n1; omega) (by have := u.n2; omega)
 have vd := parseI_itoa (n := d) (by have := v.d1; omega) (by have := v.d2; omega)
 have uk := parseI_itoa (n := k) (by have := u.d1; omega) (by have := u.d2; omega)
 rw [c1, um] at vn
 refine ⟨by cases vn; rfl, ?_⟩
 by_cases h1 : d = 1
 ·by_cases h2 : k = 1
  ·omega
  ·simp [h1, h2] at c3
 ·by_cases h2 : k = 1
  ·simp [h1, h2] at c3
  ·rw [if_neg h1, if_neg h2] at c2
   rw [c2, uk] at vd
   cases vd; rfl
theorem PR.unique {l : List UInt8} {r r' : Int × Int × Int} (h : PR l r) (h' : PR l r') : r = r' := by
 obtain ⟨a, b, c⟩ := r
 obtain ⟨a', b', c'⟩ := r'
 rcases h with ⟨h1, h2, h3⟩ | ⟨h1, h2⟩
 ·rcases h' with ⟨k1, k2, k3⟩ | ⟨k1, k2⟩
  ·obtain ⟨e1, e2⟩ := text_inj h2 k2 (h3.trans k3.symm)
   simp only at h1 k1 e1 e2
   rw [h1, k1, e1, e2]
  ·exact absurd h3 (k2 _ _ h2)
 ·rcases h' with ⟨k1, k2, k3⟩ | ⟨k1, k2⟩
  ·exact absurd k3 (h2 _ _ k2)
  ·rw [h1, k1]
end Go.Proofs.YtfangplfbbgphaaGreatDoor
namespace Go.Proofs.YtfangplfbbgphaaGreatDoor
open Go.ChangeShapes Go.WideShapes Go.ChangeAt Go.RowKit
set_option linter.unusedVariables false
attribute [local go_sem ↓] Go.wp_at_zero Go.wp_at_succ
theorem var_keep {P : Program} {w w' : World} {n : String} {cs : Array Value} (h : w.var? P n = some cs) (hb : Below w.heap.size w w') : w'.var? P n = some cs := by
 unfold World.var? at h ⊢
 cases hg : P.globalNamed n with
 | none => rw [hg] at h; cases h
 | some g =>
  rw [hg] at h
  simp only [Option.bind_some] at h ⊢
  cases hh : w.heap[g]? with
  | none => rw [hh] at h; cases h
  | some o =>
   rw [hh] at h
   rw [blk_next hb hh]
   exact h
structure GL (w : World) : Prop where
 tab : Lib.TabIs Tryz.prog w "internal/strconv.uint64pow10" .u64 Lib.pow10Tab
 syn : ∃ tp p, w.var? Tryz.prog "strconv.ErrSyntax" = some #[.iface tp p]
 ran : ∃ tp p, w.var? Tryz.prog "strconv.ErrRange" = some #[.iface tp p]
 max : ∃ m, w.cell? ⟨2, 0, none⟩ = some (.int .i64 m)
theorem cell_keep {w w' : World} {a : Addr} {v : Value} (h : w.cell? a = some v) (hb : Below w.heap.size w w') : w'.cell? a = some v := by
 have : a.block < w.heap.size := by
  unfold World.cell? at h
  cases hh : w.heap[a.block]? with
  | none => rw [hh] at h; cases h
  | some o => exact blk_lt hh
 exact (hb.cell this).trans h
theorem GL.next {w w' : World} (h : GL w) (hb : Below w.heap.size w w') : GL w' :=
 ⟨var_keep h.tab hb, by obtain ⟨t, p, e⟩ := h.syn; exact ⟨t, p, var_keep e hb⟩, by obtain ⟨t, p, e⟩ := h.ran; exact ⟨t, p, var_keep e hb⟩, by obtain ⟨m, e⟩ := h.max; exact ⟨m, cell_keep e hb⟩⟩
structure GT (w : World) : Prop where
 tab : Lib.TabIs Tryz.prog w "internal/strconv.uint64pow10" .u64 Lib.pow10Tab
theorem GT.next {w w' : World} (h : GT w) (hb : Below w.heap.size w w') : GT w' := ⟨var_keep h.tab hb⟩
theorem GL.gt {w : World} (h : GL w) : GT w := ⟨h.tab⟩
abbrev Str (l : List UInt8) : Value := .string ⟨l.toArray⟩
theorem fmt_calls (n : Int) (w : World) (h1 : -9223372036854775808 ≤ n) (h2 : n ≤ 9223372036854775807) (g : GT w) :
  Calls Tryz.prog 76 #[.int .i64 n, .int .i64 10] w fun e w' => e = .returned (Str (Lib.itoa n)) ∧ Below w.heap.size w w' :=
 (Tryz.strconv_FormatInt_10 n h1 h2 w g.tab).mono fun e w' ⟨h, k, os, hw⟩ => ⟨h, by rw [hw]; exact Lib.below_grow _ _ (Nat.le_refl _) k os⟩
theorem cutS_calls (s : ByteArray) (w : World) (hs : s.size < 4294967281) (g : GL w) :
  Calls Tryz.prog 56 #[.string s, .string ⟨#[47]⟩] w fun e w' => e = .returned (.tuple #[Str (Lib.cut s.data.toList [47]).1, Str (Lib.cut s.data.toList [47]).2.1, .bool (Lib.cut s.data.toList [47]).2.2]) ∧ Below w.heap.size w w' := by
 obtain ⟨m, hm⟩ := g.max
 exact (Tryz.strings_Cut s ⟨#[47]⟩ m w hs hm).mono fun e w' ⟨h, k, hw⟩ => ⟨h, by rw [hw]; exact below_drewN (Below.refl _ _) k⟩
theorem parse_bounds {l : List UInt8} {v : Int} (h : Lib.parseIntB 64 l = .ok v) : -9223372036854775808 ≤ v ∧ v ≤ 9223372036854775807 := by
 have := Lib.parseIntB_bounds h
 rw [show ((2 ^ (64 - 1) : Nat) : Int) = 9223372036854775808 from rfl] at this
 omega
def PI (l : List UInt8) (w : World) (e : Ending) (w' : World) : Prop :=
 (∃ v, Lib.parseIntB 64 l = .ok v ∧ -9223372036854775808 ≤ v ∧ v ≤ 9223372036854775807 ∧ e = .returned (.tuple #[.int .i64 v, .nilIface]) ∧ Below w.heap.size w w') ∨ ((∀ v, Lib.parseIntB 64 l ≠ .ok v) ∧ ∃ v t p, e = .returned (.tuple #[.int .i64 v, .iface t p]) ∧ Below w.heap.size w w')
theorem parse_calls (s : ByteArray) (w : World) (hs : s.size ≤ 4294967281) (g : GL w) :
  Calls Tryz.prog 117 #[.string s, .int .i64 10, .int .i64 64] w (PI s.data.toList w) := by
 cases h : Lib.parseIntB 64 s.data.toList with
 | ok v =>
  refine (Tryz.strconv_ParseInt_10_at64_ok s (by omega) v h w).mono fun e w' ⟨h1, h2⟩ => .inl ⟨v, h, ?_, ?_, h1, ?_⟩
  ·exact (parse_bounds h).1
  ·exact (parse_bounds h).2
  ·rcases h2 with rfl | ⟨t, rfl⟩
   ·exact Below.refl _ _
   ·exact Lib.bytesWorld_below _ _ _
 | range =>
  obtain ⟨tp, p, hv⟩ := g.ran
  exact (Tryz.strconv_ParseInt_10_at64_range_var s (by omega) h tp p w hv).mono fun e w' ⟨N, h1, h2, h3, h4⟩ => .inr ⟨fun v => (by rw [h]; intro k; cases k), _, _, _, h1, h4⟩
 | _ =>
  obtain ⟨tp, p, hv⟩ := g.syn
  exact (Tryz.strconv_ParseInt_10_at64_syntax_var s (by omega) ⟨fun v => (by rw [h]; intro k; cases k), by rw [h]; intro k; cases k⟩ tp p w hv).mono fun e w' ⟨N, h1, h2, h3, h4⟩ => .inr ⟨fun v => (by rw [h]; intro k; cases k), _, _, _, h1, h4⟩
theorem cat2 (a b : List UInt8) : (⟨a.toArray⟩ : ByteArray) ++ ⟨b.toArray⟩ = ⟨(a ++ b).toArray⟩ := by
 rw [ByteArray.ext_iff, ByteArray.data_append]
 simp
theorem cat3 (a b : List UInt8) : (⟨a.toArray⟩ : ByteArray) ++ ((⟨#[47]⟩ : ByteArray) ++ ⟨b.toArray⟩) = ⟨(a ++ 47 :: b).toArray⟩ := by
 rw [show (⟨#[47]⟩ : ByteArray) = ⟨[47].toArray⟩ from rfl, cat2, cat2]
 rfl
def txR (n d : Int) : List UInt8 := if errF n d = 0 then textL n d else []
set_option maxRecDepth 100000 in
set_option maxHeartbeats 4000000 in
theorem text_calls (n d : Int) (w : World) (g : GT w) :
  Calls Tryz.prog 51 #[Fv n d] w fun e w' => e = .returned (.tuple #[Str (txR n d), .int .i64 (errF n d)]) ∧ Below w.heap.size w w' := by
 have C1 := Lib.hid (fun W => check_calls n d W)
 have G := Lib.hid g
 clear g
 by_cases ck : errF n d = 0
 rotate_left
 ·have F : Hid (txR n d = []) := Lib.hid (by unfold txR; rw [if_neg ck])
  have ck' : (errF n d != 0) = true := by rw [bne_iff_ne]; exact ck
  generalize txR n d = res at *
  generalize errF n d = er at *
  clear ck
  go_enter Tryz.func51, Tryz.ntmps51
  go_wp2_with fail
  refine (C1.out _).mono ?_
  rintro e w1 ⟨rfl, hb⟩
  have NN := Lib.hid (Bgo (Bal (Below.refl _ _) _) hb)
  clear hb
  go_wp2_with fail
  go_ret2
  exact ⟨by rw [F.out]; rfl, NN.out⟩
 have v := errF_ok ck
 have F : Hid (txR n d = textL n d) := Lib.hid (by unfold txR; rw [if_pos ck])
 rw [ck] at C1 ⊢
 generalize txR n d = res at *
 have n1 := v.n1
 have n2 := v.n2
 have d1 := v.d1
 have d2 := v.d2
 have T1 := Lib.hid (fun W (h : GT W) => fmt_calls n W (by omega) (by omega) h)
 have T2 := Lib.hid (fun W (h : GT W) => fmt_calls d W (by omega) (by omega) h)
 have FT : Hid (textL n d = if d = 1 then Lib.itoa n else Lib.itoa n ++ 47 :: Lib.itoa d) := Lib.hid rfl
 have ln := Lib.itoa_length_le n (by omega) (by omega)
 have ld := Lib.itoa_length_le d (by omega) (by omega)
 generalize Lib.itoa n = tn at *
 generalize Lib.itoa d = td at *
 clear ck v
 by_cases hd : d = 1
 ·have F2 := Lib.hid (F.out.trans (FT.out.trans (if_pos hd)))
  clear F FT
  subst hd
  go_enter Tryz.func51, Tryz.ntmps51
  go_wp2_with fail
  refine (C1.out _).mono ?_
  rintro e w1 ⟨rfl, hb⟩
  have NN := Lib.hid (Bgo (Bal (Below.refl _ _) _) hb)
  have K := Lib.hid (blk_next hb (blk_new w (.cells #[.int .i64 n, .int .i64 1] 36)))
  replace G := Lib.hid (G.out.next NN.out)
  clear hb
  have a0 := blk_cell K.out 0 _ rfl
  have a1 := blk_cell K.out 1 _ rfl
  have al := blk_lt K.out
  go_wp2_with fail
  refine (T1.out _ G.out).mono ?_
  rintro e w2 ⟨rfl, hb⟩
  clear a0 a1 al
  replace NN := Lib.hid (Bgo NN.out hb)
  replace K := Lib.hid (blk_next hb K.out)
  replace G := Lib.hid (G.out.next hb)
  clear hb
  have a0 := blk_cell K.out 0 _ rfl
  have a1 := blk_cell K.out 1 _ rfl
  have al := blk_lt K.out
  go_wp2_with fail
  go_ret2
  exact ⟨by rw [F2.out]; rfl, NN.out⟩
 ·have F2 := Lib.hid (F.out.trans (FT.out.trans (if_neg hd)))
  clear F FT
  have hd' : (d != 1) = true := by rw [bne_iff_ne]; exact hd
  clear hd
  go_enter Tryz.func51, Tryz.ntmps51
  go_wp2_with fail
  refine (C1.out _).mono ?_
  rintro e w1 ⟨rfl, hb⟩
  have NN := Lib.hid (Bgo (Bal (Below.refl _ _) _) hb)
  have K := Lib.hid (blk_next hb (blk_new w (.cells #[.int .i64 n, .int .i64 d] 36)))
  replace G := Lib.hid (G.out.next NN.out)
  clear hb
  have a0 := blk_cell K.out 0 _ rfl
  have a1 := blk_cell K.out 1 _ rfl
  have al := blk_lt K.out
  go_wp2_with fail
  refine (T1.out _ G.out).mono ?_
  rintro e w2 ⟨rfl, hb⟩
  clear a0 a1 al
  replace NN := Lib.hid (Bgo NN.out hb)
  replace K := Lib.hid (blk_next hb K.out)
  replace G := Lib.hid (G.out.next hb)
  clear hb
  have a0 := blk_cell K.out 0 _ rfl
  have a1 := blk_cell K.out 1 _ rfl
  have al := blk_lt K.out
  go_wp2_with fail
  refine (T2.out _ G.out).mono ?_
  rintro e w3 ⟨rfl, hb⟩
  replace NN := Lib.hid (Bgo NN.out hb)
  clear hb a0 a1 al
  go_wp2_with fail
  rw [cat3 tn td, ← F2.out]
  go_ret2
  exact ⟨rfl, NN.out⟩
end Go.Proofs.YtfangplfbbgphaaGreatDoor
namespace Go.Proofs.YtfangplfbbgphaaGreatDoor
open Go.ChangeShapes Go.WideShapes Go.ChangeAt Go.RowKit
set_option linter.unusedVariables false
set_option maxRecDepth 100000
set_option linter.unusedSimpArgs false
attribute [local go_sem ↓] Go.wp_at_zero Go.wp_at_succ
theorem SB.next {B b : Nat} {bs : List Value} {W W' : World} (h : SB B b bs W) (hb : Below W.heap.size W W') : SB B b bs W' := by
 rcases h with ⟨h1, v, h2, h3, h4⟩ | ⟨h1, v, h2, h3, h4⟩
 ·exact .inl ⟨h1, v, blk_next hb h2, own_next hb h3, h4⟩
 ·exact .inr ⟨h1, v, blk_next hb h2, own_next hb h3, h4⟩
theorem SBU.sb {B b : Nat} {bs : List Value} {W : World} (h : SBU B b bs W) : SB B b bs W := .inr h
def lineL (s : St) : List UInt8 := s.nm.data.toList ++ [32] ++ textL s.sn s.sd ++ [32] ++ textL s.tn s.td ++ [10]
def textA (l : List St) : List UInt8 := l.flatMap lineL
def txA (l : List St) : List UInt8 := if stsE l = 0 then textA l else []
theorem line_cells (nm : ByteArray) (a b : List UInt8) : Lib.strCells (nm ++ ⟨#[32]⟩ ++ ⟨a.toArray⟩ ++ ⟨#[32]⟩ ++ ⟨b.toArray⟩ ++ ⟨#[10]⟩) = Lib.byteCells (nm.data.toList ++ [32] ++ a ++ [32] ++ b ++ [10]) := by
 rw [Lib.strCells_eq]
 simp [ByteArray.data_append]
theorem line_size (nm : ByteArray) (a b : List UInt8) : (nm ++ ⟨#[32]⟩ ++ ⟨a.toArray⟩ ++ ⟨#[32]⟩ ++ ⟨b.toArray⟩ ++ ⟨#[10]⟩ : ByteArray).size = nm.size + a.length + b.length + 3 := by
 simp only [ByteArray.size_append]
 show nm.size + 1 + a.length + 1 + b.length + 1 = _
 omega
theorem bytes_app (a b : List UInt8) : Lib.byteCells (a ++ b) = Lib.byteCells a ++ Lib.byteCells b := by unfold Lib.byteCells; rw [List.map_append]
theorem textL_len {n d : Int} (h : prmB n d = true) : (textL n d).length ≤ 60 := by
 obtain ⟨h1, h2, h3, h4, h5⟩ := prm_facts h
 have ln := Lib.itoa_length_le n (by omega) (by omega)
 have ld := Lib.itoa_length_le d (by omega) (by omega)
 unfold textL
 split
 ·omega
 ·rw [List.length_append, List.length_cons]; omega
theorem txR_ok {n d : Int} (h : prmB n d = true) : errF n d = 0 ∧ txR n d = textL n d := by
 have h1 : errF n d = 0 := by unfold errF; rw [(prm_facts h).1]; rfl
 exact ⟨h1, by unfold txR; rw [if_pos h1]⟩
theorem valS_size {s : St} (h : valS s = true) : s.nm.size ≤ 40 := by
 unfold valS at h
 simp only [Bool.and_eq_true] at h
 have h1 := h.1
 unfold namB at h1
 rw [Bool.and_eq_true] at h1
 have := (of_decide_eq_true h1.1).2
 show s.nm.data.size ≤ 40
 simpa using this
theorem text_ok {n d : Int} (h : prmB n d = true) (W : World) (g : GT W) : Calls Tryz.prog 51 #[Fv n d] W fun e w' => e = .returned (.tuple #[Str (textL n d), .int .i64 0]) ∧ Below W.heap.size W w' := by
 have := text_calls n d W g
 rw [(txR_ok h).1, (txR_ok h).2] at this
 exact this
theorem textA_len {l : List St} (h : ∀ x ∈ l, valS x = true) : (textA l).length ≤ l.length * 200 := by
 unfold textA
 induction l with
 | nil => simp
 | cons x l ih =>
  rw [List.flatMap_cons, List.length_append, List.length_cons]
  have h1 := ih (fun y hy => h y (List.mem_cons_of_mem _ hy))
  have hx := h x (List.mem_cons_self ..)
  have h2 := valS_size hx
  have h3 := textL_len (plB_prm (valS_pl hx)).1
  have h4 := textL_len (plB_prm (valS_pl hx)).2
  have h5 : (lineL x).length = x.nm.size + (textL x.sn x.sd).length + (textL x.tn x.td).length + 3 := by
   unfold lineL
   simp only [List.length_append, List.length_cons, List.length_nil, Array.length_toList]
   show x.nm.size + 1 + _ + 1 + _ + 1 = _
   omega
  omega
set_option maxRecDepth 100000 in
set_option maxHeartbeats 8000000 in
theorem atext_calls {a : Option Addr} {c : Nat} {l : List St} {w : World} (hl : RSt w a l) (hc : l.length ≤ c) (hc' : c ≤ 9223372036854775807) (hn : ∀ x ∈ l, x.nm.size ≤ 9223372036854775807) (g : GT w) : Calls Tryz.prog 18 #[.slice a l.length c] w fun e w' =>
  e = .returned (.tuple #[Str (txA l), .int .i64 (stsE l)]) ∧ Below w.heap.size w w' := by
 have NN := Lib.hid (Below.refl w.heap.size w)
 have HL := Lib.hid hl
 have GG := Lib.hid g
 have SC := Lib.hid (fun (W : World) (hb : Below w.heap.size w W) => stations_calls a c l W (hl.next hb) hc hc' hn)
 have VV := Lib.hid (fun (h : stsE l = 0) => stsE_ok h)
 have TX : Hid (txA l = if stsE l = 0 then textA l else []) := Lib.hid rfl
 obtain ⟨pe, hpe⟩ : ∃ pe, stsE l = pe := ⟨_, rfl⟩
 simp only [hpe] at SC VV TX ⊢
 generalize txA l = tx at *
 clear hl hn g hpe
 go_enter Tryz.func18, Tryz.ntmps18
 go_wp2_with fail
 refine (SC.out _ NN.out).mono ?_
 rintro e w1 ⟨rfl, hb⟩
 replace NN := Lib.hid (Bgo NN.out hb)
 clear hb
 by_cases he : pe ≠ 0
 ·have q1 : (pe != 0) = true := by simpa using he
  have HX : Hid (tx = []) := Lib.hid (by rw [TX.out, if_neg he])
  clear he VV TX SC
  go_wp2_with fail
  go_ret2
  exact ⟨by rw [HX.out]; rfl, NN.out⟩
 have he0 : pe = 0 := by omega
 subst he0
 clear he SC
 have HX : Hid (tx = textA l) := Lib.hid (by rw [TX.out, if_pos rfl])
 obtain ⟨h8, hv⟩ := VV.out rfl
 have HV := Lib.hid hv
 have H8 := Lib.hid h8
 clear VV TX hv h8
 go_wp2_with fail
 have LB : Hid (w.heap.size ≤ w1.heap.size) := Lib.hid NN.out.size
 have SX : Hid (SB w1.heap.size w1.heap.size (Lib.byteCells (textA (l.take 0))) (w1.alloc (.cells #[.pointer none, .slice none 0 0] 110))) := Lib.hid (SB.new w1)
 replace NN := Lib.hid (Bal NN.out (.cells #[.pointer none, .slice none 0 0] 110))
 have LG : Hid (w1.heap.size ≤ (w1.alloc (.cells #[.pointer none, .slice none 0 0] 110)).heap.size) := Lib.hid (by simp)
 generalize w1.alloc (.cells #[.pointer none, .slice none 0 0] 110) = W0 at *
 generalize w1.heap.size = gb at *
 go_loopw [18] (fun i wr => ∃ k : Nat, k ≤ l.length ∧ i = .int .i64 k ∧ Hid (Below w.heap.size w wr) ∧ Hid (gb ≤ wr.heap.size) ∧ Hid (SB gb gb (Lib.byteCells (textA (l.take k))) wr)) (fun i _ => l.length - (intOf i).toNat)
 case atStart => exact ⟨0, by omega, rfl, NN, LG, SX⟩
 case round =>
  clear NN LG SX W0
  obtain ⟨k, hk, rfl, NN, LG, SX⟩ := hrel
  by_cases hlt : k < l.length
  ·obtain ⟨x, hx⟩ := get_some hlt
   obtain ⟨b, off, e, hb, hc0⟩ := Rd.rec_ HL.out (Nat.le_refl _) st5_len hx
   subst e
   have c0 := (NN.out.cell (p := ⟨b, off + k * 5, none⟩) hb).trans (hc0 0 _ rfl)
   have c1 := (NN.out.cell (p := ⟨b, off + k * 5 + 1, none⟩) hb).trans (hc0 1 _ rfl)
   have c2 := (NN.out.cell (p := ⟨b, off + k * 5 + 2, none⟩) hb).trans (hc0 2 _ rfl)
   have c3 := (NN.out.cell (p := ⟨b, off + k * 5 + 3, none⟩) hb).trans (hc0 3 _ rfl)
   have c4 := (NN.out.cell (p := ⟨b, off + k * 5 + 4, none⟩) hb).trans (hc0 4 _ rfl)
   have hbr : b < wr.heap.size := Nat.lt_of_lt_of_le hb NN.out.size
   have kk : k + 1 ≤ l.length := hlt
   have hm := List.mem_of_getElem? hx
   have hvx := HV.out x hm
   have P1 := Lib.hid (plB_prm (valS_pl hvx)).1
   have P2 := Lib.hid (plB_prm (valS_pl hvx)).2
   have hsz := valS_size hvx
   have t1 := textL_len P1.out
   have t2 := textL_len P2.out
   have T1 := Lib.hid (fun W g => text_ok P1.out W g)
   have T2 := Lib.hid (fun W g => text_ok P2.out W g)
   have LE : Hid (textA (l.take (k + 1)) = textA (l.take k) ++ lineL x) := Lib.hid (by
     unfold textA
     rw [List.take_succ_eq_append_getElem hlt, List.flatMap_append]
     have e : l[k] = x := by rw [List.getElem?_eq_getElem hlt] at hx; exact Option.some.inj hx
     rw [e]; simp)
   have LN : Hid ((textA (l.take k)).length ≤ 1600) := Lib.hid (by
     have h1 := textA_len (l := l.take k) (fun y hy => HV.out y (List.mem_of_mem_take hy))
     have h2 : (l.take k).length ≤ 8 := by rw [List.length_take]; have := H8.out; omega
     omega)
   have LX : Hid (lineL x = x.nm.data.toList ++ [32] ++ textL x.sn x.sd ++ [32] ++ textL x.tn x.td ++ [10]) := Lib.hid rfl
   clear hc0 hx hb hm hvx P1 P2
   generalize textL x.sn x.sd = ta at *
   generalize textL x.tn x.td = tb at *
   go_wp2_with fail
   clear c0 c1 c2 c3 c4 hbr
   have HB := Lib.hid (Bal (Below.refl wr.heap.size wr) (.cells #[.string x.nm, .int .i64 x.sn, .int .i64 x.sd, .int .i64 x.tn, .int .i64 x.td] 69))
   have X : Hid ((wr.alloc (.cells #[.string x.nm, .int .i64 x.sn, .int .i64 x.sd, .int .i64 x.tn, .int .i64 x.td] 69)).heap[wr.heap.size]? = some (.cells #[.string x.nm, .int .i64 x.sn, .int .i64 x.sd, .int .i64 x.tn, .int .i64 x.td] 69)) := Lib.hid (blk_new wr _)
   replace NN := Lib.hid (Bgo NN.out HB.out)
   replace LG := Lib.hid (Nat.le_trans LG.out HB.out.size)
   replace SX := Lib.hid (SB.next SX.out HB.out)
   clear HB
   refine (T1.out _ (GG.out.next NN.out)).mono ?_
   rintro e w2 ⟨rfl, hb⟩
   replace NN := Lib.hid (Bgo NN.out hb)
   replace LG := Lib.hid (Nat.le_trans LG.out hb.size)
   replace SX := Lib.hid (SB.next SX.out hb)
   replace X := Lib.hid (blk_next hb X.out)
   clear hb
   have c_X_0 := blk_cell X.out 0 _ rfl
   have f_X_0 := blk_frozen X.out 0
   have c_X_1 := blk_cell X.out 1 _ rfl
   have f_X_1 := blk_frozen X.out 1
   have c_X_2 := blk_cell X.out 2 _ rfl
   have f_X_2 := blk_frozen X.out 2
   have c_X_3 := blk_cell X.out 3 _ rfl
   have f_X_3 := blk_frozen X.out 3
   have c_X_4 := blk_cell X.out 4 _ rfl
   have f_X_4 := blk_frozen X.out 4
   have l_X := blk_lt X.out
   go_wp2_with fail
   clear c_X_0 f_X_0 c_X_1 f_X_1 c_X_2 f_X_2 c_X_3 f_X_3 c_X_4 f_X_4 l_X
   refine (T2.out _ (GG.out.next NN.out)).mono ?_
   rintro e w3 ⟨rfl, hb⟩
   replace NN := Lib.hid (Bgo NN.out hb)
   replace LG := Lib.hid (Nat.le_trans LG.out hb.size)
   replace SX := Lib.hid (SB.next SX.out hb)
   replace X := Lib.hid (blk_next hb X.out)
   clear hb
   have c_X_0 := blk_cell X.out 0 _ rfl
   have f_X_0 := blk_frozen X.out 0
   have c_X_1 := blk_cell X.out 1 _ rfl
   have f_X_1 := blk_frozen X.out 1
   have c_X_2 := blk_cell X.out 2 _ rfl
   have f_X_2 := blk_frozen X.out 2
   have c_X_3 := blk_cell X.out 3 _ rfl
   have f_X_3 := blk_frozen X.out 3
   have c_X_4 := blk_cell X.out 4 _ rfl
   have f_X_4 := blk_frozen X.out 4
   have l_X := blk_lt X.out
   go_wp2_with fail
   clear c_X_0 f_X_0 c_X_1 f_X_1 c_X_2 f_X_2 c_X_3 f_X_3 c_X_4 f_X_4 l_X
   refine (sb_write gb gb _ _ _ SX.out ?_ LG.out).mono ?_
   ·have h1 := LN.out
    have h2 := line_size x.nm ta tb
    simp only [Lib.byteCells, List.length_map]
    omega
   rintro e w9 ⟨rfl, hs9, hb9⟩
   have S9 := Lib.hid hs9
   have N9 := Lib.hid (NN.out.trans (hb9.mono LB.out))
   have L9 := Lib.hid (Nat.le_trans LG.out hb9.size)
   clear hs9 hb9 SX NN LG X
   go_wp2_with fail
   go_roundw
   case rel => exact ⟨k + 1, kk, by go_num, N9, L9, Lib.hid (by rw [LE.out, bytes_app, LX.out, ← line_cells]; exact S9.out.sb)⟩
   case measure => simp [intOf]; omega
  ·obtain rfl : k = l.length := by omega
   rw [List.take_length] at SX
   go_wp2_with fail
   refine (Tryz.Builder_String_any gb gb _ _ SX.out LG.out).mono ?_
   rintro e w9 ⟨rfl, hb9⟩
   have N9 := Lib.hid (NN.out.trans (hb9.mono LB.out))
   clear hb9
   go_wp2_with fail
   go_ret2
   exact ⟨by rw [HX.out]; rfl, N9.out⟩
end Go.Proofs.YtfangplfbbgphaaGreatDoor
