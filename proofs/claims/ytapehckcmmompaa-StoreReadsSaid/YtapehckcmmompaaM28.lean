/- Several texts in one. -/
import Derived.Test.YtapehckcmmompaaM27
namespace Go.Proofs.Ytapehckcmmompaa
open Go.ChangeShapes Go.WideShapes Go.ChangeAt Go.RowKit
set_option linter.unusedVariables false
set_option maxRecDepth 100000
def nmK : Nat → ByteArray
 | 0 => ⟨#[97]⟩ | 1 => ⟨#[98]⟩ | 2 => ⟨#[99]⟩ | 3 => ⟨#[100]⟩ | _ => ⟨#[101]⟩
theorem nmK_ok {k : Nat} (h : k < 5) : namB (nmK k).data.toList = true := by
 have : k = 0 ∨ k = 1 ∨ k = 2 ∨ k = 3 ∨ k = 4 := by omega
 rcases this with rfl | rfl | rfl | rfl | rfl <;> decide
theorem nmK_size (k : Nat) : (nmK k).size ≤ 100 := by
 match k with
 | 0 => decide | 1 => decide | 2 => decide | 3 => decide | k + 4 => show (⟨#[101]⟩ : ByteArray).size ≤ 100; decide
theorem nmK_all : ((List.range 5).all fun j => (List.range 5).all fun k => decide (j = k) || !((nmK k).toList == (nmK j).toList)) = true := by kernel_rfl
theorem nmK_ne {j k : Nat} (hj : j < 5) (hk : k < 5) (h : j ≠ k) : ((nmK k).toList == (nmK j).toList) = false := by
 have h1 := List.all_eq_true.1 (List.all_eq_true.1 nmK_all j (List.mem_range.2 hj)) k (List.mem_range.2 hk)
 rw [decide_eq_false h, Bool.false_or] at h1
 simpa using h1
def trues (pl : List Bool) : Nat := (pl.filter id).length
theorem trues_le (pl : List Bool) : trues pl ≤ pl.length := List.length_filter_le _ _
theorem trues_set {pl : List Bool} {k : Nat} (h : pl[k]? = some false) : trues (pl.set k true) = trues pl + 1 := by
 induction pl generalizing k with
 | nil => simp at h
 | cons a pl ih =>
  cases k with
  | zero => simp at h; subst h; simp [trues]
  | succ k =>
   simp at h
   have := ih h
   unfold trues at this ⊢
   simp only [List.set_cons_succ, List.filter_cons]
   cases a <;> simp at this ⊢ <;> omega
theorem trues_false {pl : List Bool} {k : Nat} (h : pl[k]? = some false) : trues pl < pl.length := by
 have h1 := trues_set h
 have h2 := trues_le (pl.set k true)
 rw [List.length_set] at h2
 omega
structure Rst (D P : Nat) (obs : List (List Nat)) (pl : List Bool) (ds : List Dk) (os : List Ob) : Prop where
 ex : ∃ (n : Nat) (T : Nat → List (List Nat)), Gd D P n T ds os ∧ (∀ k, pl[k]? = some true → ∃ b, obs[k]? = some b ∧ Hold n T os (nmK k) b)
 fa : faN ds ≤ P
 five : pl.length = 5
 cnt : os.length = trues pl
 none : ∀ k, pl[k]? = some false → findL os (nmK k).toList = -1
 small : ∀ o ∈ os, Lh o.name
theorem Rst.ok {D P : Nat} {obs : List (List Nat)} {pl : List Bool} {ds : List Dk} {os : List Ob} (h : Rst D P obs pl ds os) : chS D P ds os = 0 ∧ ds.length = D + P ∧ 1 ≤ D ∧ D ≤ 8 ∧ P ≤ 4 ∧ os.length ≤ 5 := by
 obtain ⟨n, T, g, _⟩ := h.ex
 exact ⟨g.chk, g.wh.len, g.d1, g.d8, g.wh.p4, by rw [h.cnt, ← h.five]; exact trues_le pl⟩
theorem Rst.new {D P : Nat} (h1 : 1 ≤ D) (h8 : D ≤ 8) (hp : P ≤ 4) (obs : List (List Nat)) : Rst D P obs [false, false, false, false, false] (List.replicate (D + P) ⟨false, []⟩) [] := by
 refine ⟨⟨0, fun _ => [], Gd.new h1 h8 hp _, fun k hk => ?_⟩, by rw [faN_new]; omega, rfl, rfl, fun k _ => rfl, fun o ho => by cases ho⟩
 match k with
 | 0 => cases hk | 1 => cases hk | 2 => cases hk | 3 => cases hk | 4 => cases hk
 | k + 5 => simp at hk
theorem Rst.put {D P : Nat} {obs : List (List Nat)} {pl : List Bool} {ds : List Dk} {os : List Ob} (h : Rst D P obs pl ds os) {k : Nat} {b : List Nat} (hk : pl[k]? = some false) (hb : obs[k]? = some b) (hl : b.length ≤ 256) (hy : Byt b) :
  ∃ ps po, putE D P ds os (nmK k) b = 0 ∧ putS D P ds os (nmK k) b = ((D : Int), (P : Int), ps, po) ∧ Rst D P obs (pl.set k true) ps po := by
 obtain ⟨n, T, g, hh⟩ := h.ex
 have k5 : k < 5 := by rw [← h.five]; exact get_lt hk
 have ht := trues_false hk
 have hc := h.cnt
 have h5 := h.five
 have hf := h.none k hk
 have he : putE D P ds os (nmK k) b = 0 := put_ok g (nmK_ok k5) hf (by omega) hl h.fa
 have g2 := g.put hy he
 refine ⟨_, _, he, g.putS he, ⟨⟨_, _, g2, fun j hj => ?_⟩, by rw [putDs_fa]; exact h.fa, by rw [List.length_set]; exact h5, by rw [trues_set hk]; simp; omega, fun j hj => ?_, fun o ho => ?_⟩⟩
 ·rcases set_get hj with ⟨e, _, _⟩ | ⟨_, hz⟩
  ·subst e; exact ⟨b, hb, Hold.new g.d1 g.d8 hl hf g.str⟩
  ·obtain ⟨b', e1, e2⟩ := hh j hz
   exact ⟨b', e1, e2.old _ _ _ _⟩
 ·rcases set_get hj with ⟨_, e, _⟩ | ⟨ne, hz⟩
  ·cases e
  ·exact findL_else (h.none j hz) (by rw [nmE_new]; exact nmK_ne (by rw [← h5]; exact get_lt hz) k5 (by omega))
 ·rcases List.mem_append.1 ho with h1 | h1
  ·exact h.small o h1
  ·simp at h1; subst h1; have := nmK_size k; show (nmK k).size ≤ _; omega
theorem Rst.back {D P : Nat} {obs : List (List Nat)} {pl : List Bool} {ds : List Dk} {os : List Ob} (h : Rst D P obs pl ds os) {k : Nat} {x : Dk} (hk : ds[k]? = some x) (hx : x.failed = true) :
  ∃ ps, repE D P ds os (k : Int) = 0 ∧ repS D P ds os (k : Int) = ((D : Int), (P : Int), ps, os) ∧ Rst D P obs pl ps os := by
 obtain ⟨n, T, g, hh⟩ := h.ex
 have g2 := g.back hk hx h.fa
 have e0 : repE D P ds os (k : Int) = 0 := by
  unfold repE
  rw [if_pos g.chk, Int.toNat_natCast, hk, decide_eq_true (by omega), g.str]
  simp only [hx, if_true]
  rw [Int.toNat_natCast, g.wh.rep h.fa n (Nat.le_refl _)]
 have fa := faN_set (y := ⟨false, (repTo D P ds k n).1⟩) hk
 rw [hx] at fa; simp at fa
 have hfa := h.fa
 refine ⟨_, e0, by unfold repS; rw [if_pos e0, g.str, Int.toNat_natCast, Int.toNat_natCast], ⟨⟨n, T, g2, hh⟩, by omega, h.five, h.cnt, h.none, h.small⟩⟩
theorem Rst.fail {D P : Nat} {obs : List (List Nat)} {pl : List Bool} {ds : List Dk} {os : List Ob} (h : Rst D P obs pl ds os) {k : Nat} {x : Dk} (hk : ds[k]? = some x) (hx : x.failed = false) (hp : faN ds < P) :
  ∃ ps, faiE D P ds os (k : Int) = 0 ∧ faiS D P ds os (k : Int) = ((D : Int), (P : Int), ps, os) ∧ Rst D P obs pl ps os := by
 obtain ⟨n, T, g, hh⟩ := h.ex
 have hl := g.wh.len
 have d1 := g.d1
 have g2 := g.fail hk hx (fun _ => by omega)
 have e0 : faiE D P ds os (k : Int) = 0 := by
  unfold faiE
  rw [if_pos g.chk, Int.toNat_natCast, hk, decide_eq_true (by omega)]
  simp only [hx, Bool.false_eq_true, if_false]
  rw [if_neg (by omega)]
 have fa := faN_set (y := ⟨true, []⟩) hk
 rw [hx] at fa; simp at fa
 refine ⟨_, e0, by unfold faiS; rw [if_pos e0, Int.toNat_natCast], ⟨⟨n, T, g2, hh⟩, by omega, h.five, h.cnt, h.none, h.small⟩⟩
theorem Rst.get {D P : Nat} {obs : List (List Nat)} {pl : List Bool} {ds : List Dk} {os : List Ob} (h : Rst D P obs pl ds os) {k : Nat} {b : List Nat} (hb : obs[k]? = some b) : (pl[k]? = some true → getR D P ds os (nmK k) = (b, 0)) ∧ (pl[k]? = some false → getR D P ds os (nmK k) = ([], 6)) := by
 obtain ⟨n, T, g, hh⟩ := h.ex
 refine ⟨fun hk => ?_, fun hk => get_none g.chk (h.none k hk)⟩
 obtain ⟨b', e1, e2⟩ := hh k hk
 rw [hb] at e1; cases e1
 exact e2.get g.wh h.fa g.chk
end Go.Proofs.Ytapehckcmmompaa
