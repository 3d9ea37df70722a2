/- Several texts in one. -/
import Derived.Deep.Slices
import Derived.Deep.Fields
import Derived.ChangeSame
import Derived.ChangeArms
import Derived.Lib.SmallJoins
import Derived.Test.YtapehckcmmompaaM06
import Derived.Test.YtapehckcmmompaaM09
import Derived.Test.YtapehckcmmompaaM11
import Derived.Test.YtapehckcmmompaaM18
namespace Go.Proofs.Ytapehckcmmompaa
open Go.ChangeShapes Go.WideShapes Go.ChangeAt Go.RowKit Go.Deep Go.Joins
set_option linter.unusedVariables false
instance : Inhabited Dk := ⟨⟨false, []⟩⟩
instance : Inhabited Ob := ⟨⟨.empty, 0, 0, 0, 0⟩⟩
section
variable {H : Type} {enc : TypeId × Value → H} {P : Program} {w : World} {base : Nat} {spare : Nat → Bool} {held : Bool}
end
section
variable {H : Type} {enc : TypeId × Value → H} {w : World} {base : Nat} {held : Bool}
end
theorem same_self (d p : Int) (D A : Option Addr) (cd ca B : Nat) (ds : List Dk) (os : List Ob) (D' A' : Option Addr) (cd' ca' B' : Nat) (w : World)
  (hnd : ds.length ≤ cd) (hcd : cd ≤ 9223372036854775807) (hna : os.length ≤ ca) (hca : ca ≤ 9223372036854775807) (hd : RD B w D ds) (hs : RO B w A os)
  (hnd' : ds.length ≤ cd') (hcd' : cd' ≤ 9223372036854775807) (hna' : os.length ≤ ca') (hca' : ca' ≤ 9223372036854775807) (hd' : RD B' w D' ds) (hs' : RO B' w A' os) :
  Calls Try.prog 20 #[Tv d p (.slice D ds.length cd) (.slice A os.length ca), Tv d p (.slice D' ds.length cd') (.slice A' os.length ca')] w fun e w' => e = .returned (.bool true) ∧ Below w.heap.size w w' := by
 have := sameT_calls d p D A cd ca B ds os d p D' A' cd' ca' B' ds os w hnd hcd hna hca hd hs hnd' hcd' hna' hca' hd' hs'
 rw [smB_iff.2 ⟨rfl, rfl, rfl, rfl⟩] at this
 exact this
theorem ints_self (A A' : Option Addr) (c c' B B' : Nat) (l : List Int) (w : World) (hn : l.length ≤ c) (hc : c ≤ 9223372036854775807) (hs : RI B w A l) (hn' : l.length ≤ c') (hc' : c' ≤ 9223372036854775807) (hs' : RI B' w A' l) :
  Calls Try.prog 37 #[.slice A l.length c, .slice A' l.length c'] w fun e w' => e = .returned (.bool true) ∧ Below w.heap.size w w' := by
 have := refSameInts_calls A A' c c' B B' l l w hn hc hs hn' hc' hs'
 rw [decide_eq_true rfl] at this
 exact this
end Go.Proofs.Ytapehckcmmompaa
namespace Go.Proofs.Ytapehckcmmompaa
open Go.ChangeShapes Go.WideShapes Go.ChangeAt Go.RowKit
set_option linter.unusedVariables false
set_option maxRecDepth 100000
theorem set_same {α : Type} {l : List α} {i : Nat} {a : α} (h : l[i]? = some a) : l.set i a = l := List.ext_getElem? fun j => by
 rw [List.getElem?_set]
 by_cases e : i = j
 ·subst e
  rw [if_pos rfl, if_pos (get_lt h), h]
 ·rw [if_neg e]
theorem OS.block {B : Nat} {W0 W : World} {v : Value} {gt n cap i s : Nat} {r : Value} {hs : List Value} {us : List (List Value)} {ds : List Dk} {d : Dk} {u : List Value} {l : List Nat} (h : OS B W0 v hs us ds) (hb : Below W0.heap.size W0 W) (hB : B ≤ W0.heap.size)
  (hd : ds[i]? = some d) (hh : hs[i]? = some (.slice (some ⟨gt, 0, none⟩) n cap)) (hu : us[i]? = some u) (hn : d.blocks.length = n) (hr : OB W0.heap.size W r l) (hl : Byt l) :
  OS B (W.setCell ⟨gt, s, none⟩ r) v hs (us.set i (u.set s r)) (ds.set i ⟨d.failed, d.blocks.set s l⟩) := by
 have hi := h.row i d _ u hd hh hu
 have hiW := hi.next hb
 have tW := hiW.top
 rw [hn] at tW
 have st := tW.stored s r
 have mine := OMx.setRow (k := s) hi hn hb hr hl hB
 have ht := (own_next hb h.top).kept st.2 (own_own tW (own_next hb h.top) (by decide))
 have eh : hs.set i (.slice (some ⟨gt, 0, none⟩) n cap) = hs := set_same hh
 have oldu : ∀ {i : Nat} {q : List Value}, us[i]? = some q → ∃ (d : Dk) (y : Value), OMx B W0 y q d.blocks := fun {i q} hq => by
  obtain ⟨y, hy⟩ := get_some (show i < hs.length by rw [h.lenH, ← h.lenU]; exact get_lt hq)
  obtain ⟨d, hd⟩ := get_some (show i < ds.length by rw [← h.lenU]; exact get_lt hq)
  exact ⟨d, y, h.row i d y q hd hy hq⟩
 refine ⟨?_, by simp [h.lenH], by simp [h.lenU], fun j e y q he hy hq => ?_, h.tops, fun j k a b q q' y y' hij hq hq' hy hy' => ?_⟩
 ·have e0 : flatD (ds.set i ⟨d.failed, d.blocks.set s l⟩) hs = flatD ds hs := by
   obtain ⟨f1, f2⟩ := flatD_get hd hh
   have e1 := flatD_set (ds := ds) (hs := hs) i ⟨d.failed, d.blocks.set s l⟩ (.slice (some ⟨gt, 0, none⟩) n cap)
   rw [eh] at e1
   rw [e1, show (flatD ds hs).set (i * 2) (Value.bool d.failed) = flatD ds hs from set_same f1, set_same f2]
  rw [e0]
  simpa using ht
 ·rcases set_get he with ⟨e1, rfl, _⟩ | ⟨e1, he⟩
  ·rcases set_get hq with ⟨_, rfl, _⟩ | ⟨e3, _⟩
   ·rw [e1] at hy
    rw [hh] at hy; cases hy
    exact mine
   ·omega
  ·rcases set_get hq with ⟨e3, _⟩ | ⟨_, hq⟩
   ·omega
   ·exact ((h.row j e y q he hy hq).next hb).kept2 tW (h.tops j i y _ (by omega) hy hh) st.2
 ·have rw1 : ∀ {j : Nat} {q : List Value} {a b : Nat} {y z : Value}, i ≠ j → us[j]? = some q → q[a]? = some y → (u.set s r)[b]? = some z → ∀ t, y.ownBlock = some t → z.ownBlock = some t → False := fun {j q a b y z} hij hq hy hz t e e' => by
   obtain ⟨_, _, ho⟩ := oldu hq
   have lt := (ho.lt_row hy e).2
   rcases set_get hz with ⟨_, rfl, _⟩ | ⟨_, h1⟩
   ·have := (hr.lt t e').1
    omega
   ·rcases h.rows i j b a u q z y hij hu hq h1 hy with hn | hn
    ·rw [hn] at e'; cases e'
    ·exact hn (by rw [e, e'])
  rcases set_get hq with ⟨e1, rfl, _⟩ | ⟨e1, hz⟩
  ·rcases set_get hq' with ⟨e2, _, _⟩ | ⟨_, hz'⟩
   ·omega
   ·cases e : y.ownBlock with
    | none => exact .inl rfl
    | some t => exact .inr fun e' => rw1 (by omega) hz' hy' hy t e'.symm e
  ·rcases set_get hq' with ⟨e2, rfl, _⟩ | ⟨_, hz'⟩
   ·cases e : y.ownBlock with
    | none => exact .inl rfl
    | some t => exact .inr fun e' => rw1 (by omega) hz hy hy' t e e'.symm
   ·exact h.rows j k a b q q' y y' hij hz hz' hy hy'
end Go.Proofs.Ytapehckcmmompaa
