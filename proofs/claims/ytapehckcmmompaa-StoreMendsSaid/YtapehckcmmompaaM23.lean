/- Several texts in one. -/
import Derived.Deep.Slices
import Derived.Deep.Fields
import Derived.ChangeSame
import Derived.ChangeArms
import Derived.Lib.SmallJoins
import Derived.Test.YtapehckcmmompaaM08
import Derived.Test.YtapehckcmmompaaM13
import Derived.Test.YtapehckcmmompaaM21
import Derived.Test.YtapehckcmmompaaM22
namespace Go.Proofs.Ytapehckcmmompaa
open Go.ChangeShapes Go.WideShapes Go.ChangeAt Go.RowKit Go.Deep Go.Joins
set_option linter.unusedVariables false
instance : Inhabited Dk := ⟨⟨false, []⟩⟩
instance : Inhabited Ob := ⟨⟨.empty, 0, 0, 0, 0⟩⟩
section
variable {H : Type} {enc : TypeId × Value → H} {P : Program} {w : World} {base : Nat} {spare : Nat → Bool} {held : Bool}
theorem open_rows {t e : TypeId} {fs : Array Field} {fuel : Nat} {cs : List Value} {x : DataW H × List MemPlace} (ht : P.underlying t = some (.slice e)) (he : P.underlying e = some (.struct fs))
  (hone : oneCellFields P fs = true) (hC : P.cellsOf e = fs.size) (h : DataW.trod enc P w base spare held fuel t cs = some x) :
  cs = [.slice none 0 0] ∨ ∃ (a : Addr) (len cap : Nat), cs = [.slice (some a) len cap] ∧ len ≤ cap ∧ cap ≤ maxLen ∧
   ∀ i, i < len → ∃ n : Nat, ∀ (j : Nat) (f : Field), fs[j]? = some f → ∃ (v : Value) (y : DataW H × List MemPlace), w.cell? (a.add (i * fs.size + j)) = some v ∧ DataW.trod enc P w base spare held n f.type [v] = some y := by
 rcases open_slice ht h with h0 | ⟨a, len, cap, m, n, D, Pl, hcs, hb, hl, hm, hmm, hx, hi⟩
 ·exact .inl h0.1
 ·refine .inr ⟨a, len, cap, hcs, hl, hm, fun i him => ?_⟩
  have hlm : len ≤ m := by rw [hmm]; split <;> omega
  obtain ⟨cs', hc, ht'⟩ := hi i (by omega)
  rw [hC] at hc
  obtain ⟨ys, n', hn', hy, hlen, hyl, hf⟩ := DataW.trod_struct he ht'
  obtain ⟨_, hcl, hat⟩ := World.cells?_some hc
  refine ⟨n', fun j f hj => ?_⟩
  obtain ⟨ho, hk⟩ := hone_of hone j f hj
  have hjl : j < fs.size := (Array.getElem?_eq_some_iff.1 hj).1
  have hcell := hat j hjl
  have hv : cs'[j]? = some (cs'[j]'(by omega)) := List.getElem?_eq_getElem (by omega)
  have h1 := hf j f hj
  rw [ho, hk] at h1
  have hone' : (cs'.drop j).take 1 = [cs'[j]'(by omega)] := by
   rw [List.drop_eq_getElem_cons (by omega)]; rfl
  rw [hone'] at h1
  have hys : ys[j]? = some (ys[j]'(by omega)) := List.getElem?_eq_getElem (by omega)
  exact ⟨_, _, by rw [← Go.Deep.add_add, hcell, hv], h1.trans hys⟩
end
section
variable {H : Type} {enc : TypeId × Value → H} {w : World} {base : Nat} {held : Bool}
theorem open_dks {fuel : Nat} {cs : List Value} {x : DataW H × List MemPlace} (h : DataW.trod enc Try.prog w base (fun _ => true) held fuel 22 cs = some x) :
  ∃ (a : Option Addr) (l : List Dk) (cap : Nat), cs = [.slice a l.length cap] ∧ l.length ≤ cap ∧ cap ≤ 9223372036854775807 ∧ RD 0 w a l := by
 rcases open_rows Try.underlying22 Try.underlying46 (by kernel_rfl) (by kernel_rfl) h with rfl | ⟨a, len, cap, rfl, h1, h2, h3⟩
 ·exact ⟨none, [], 0, rfl, by simp, by omega, fun i d hi => by simp at hi⟩
 ·have key : ∀ i, i < len → ∃ s : Dk, ∃ b off u, some a = some ⟨b, off, none⟩ ∧ b < w.heap.size ∧ w.cell? ⟨b, off + i * 2, none⟩ = some (.bool s.failed) ∧ w.cell? ⟨b, off + i * 2 + 1, none⟩ = some u ∧ RM 0 w u s.blocks := by
   intro i hi
   obtain ⟨n0, g0⟩ := h3 0 (by omega)
   obtain ⟨v0, y0, hc0, _⟩ := g0 0 _ rfl
   have ha : a = ⟨a.block, a.off, none⟩ := plain_addr (by simpa [Addr.add] using hc0)
   obtain ⟨n, g⟩ := h3 i hi
   obtain ⟨u0, z0, c0, t0⟩ := g 0 _ rfl
   obtain ⟨u1, z1, c1, t1⟩ := g 1 _ rfl
   obtain ⟨s0, e0, _⟩ := DataW.trod_bool Try.underlying4 t0
   obtain ⟨Ai, m, ci, e1, m1, m2, m3⟩ := open_blocks t1
   simp only [List.cons.injEq, and_true] at e0 e1
   subst e0 e1
   have hlt := World.block_lt_of_cell? w (a.add (i * 2 + 0)) c0
   rw [ha, add_plain] at c0 c1 hlt
   refine ⟨⟨s0, m⟩, a.block, a.off, _, by rw [← ha], hlt, by simpa using c0, by simpa [Nat.add_assoc] using c1, Ai, ci, rfl, m1, m2, m3⟩
  obtain ⟨f, hf⟩ := choose_lt key
  refine ⟨some a, (List.range len).map f, cap, by simp, by simpa using h1, by simpa [maxLen] using h2, fun i d hi => ?_⟩
  have hi' : i < len := by have := get_lt hi; simpa using this
  rw [List.getElem?_map, List.getElem?_range hi'] at hi
  injection hi with hi
  subst hi
  obtain ⟨b, off, u, e, hb, k0, k1, k2⟩ := hf i hi'
  exact ⟨b, off, u, e, Nat.zero_le _, hb, k0, k1, k2⟩
theorem open_obs {fuel : Nat} {cs : List Value} {x : DataW H × List MemPlace} (h : DataW.trod enc Try.prog w base (fun _ => true) held fuel 23 cs = some x) :
  ∃ (a : Option Addr) (l : List Ob) (cap : Nat), cs = [.slice a l.length cap] ∧ l.length ≤ cap ∧ cap ≤ 9223372036854775807 ∧ RO 0 w a l := by
 rcases open_rows Try.underlying23 Try.underlying50 (by kernel_rfl) (by kernel_rfl) h with rfl | ⟨a, len, cap, rfl, h1, h2, h3⟩
 ·exact ⟨none, [], 0, rfl, by simp, by omega, fun i d hi => by simp at hi⟩
 ·have key : ∀ i, i < len → ∃ s : Ob, ∃ b off, some a = some ⟨b, off, none⟩ ∧ b < w.heap.size ∧ ∀ (j : Nat) (v : Value), (obL s)[j]? = some v → w.cell? ⟨b, off + i * 5 + j, none⟩ = some v := by
   intro i hi
   obtain ⟨n0, g0⟩ := h3 0 (by omega)
   obtain ⟨v0, y0, hc0, _⟩ := g0 0 _ rfl
   have ha : a = ⟨a.block, a.off, none⟩ := plain_addr (by simpa [Addr.add] using hc0)
   obtain ⟨n, g⟩ := h3 i hi
   obtain ⟨u0, z0, c0, t0⟩ := g 0 _ rfl
   obtain ⟨u1, z1, c1, t1⟩ := g 1 _ rfl
   obtain ⟨u2, z2, c2, t2⟩ := g 2 _ rfl
   obtain ⟨u3, z3, c3, t3⟩ := g 3 _ rfl
   obtain ⟨u4, z4, c4, t4⟩ := g 4 _ rfl
   obtain ⟨s0, e0, _, _⟩ := DataW.trod_string Try.underlying9 t0
   obtain ⟨s1, e1, _, _⟩ := DataW.trod_int Try.underlying3 t1
   obtain ⟨s2, e2, _, _⟩ := DataW.trod_int Try.underlying3 t2
   obtain ⟨s3, e3, _, _⟩ := DataW.trod_int Try.underlying3 t3
   obtain ⟨s4, e4, _, _⟩ := DataW.trod_int Try.underlying3 t4
   simp only [List.cons.injEq, and_true] at e0 e1 e2 e3 e4
   subst e0 e1 e2 e3 e4
   have hlt := World.block_lt_of_cell? w (a.add (i * 5 + 0)) c0
   rw [ha, add_plain] at c0 c1 c2 c3 c4 hlt
   refine ⟨⟨s0, s1, s2, s3, s4⟩, a.block, a.off, by rw [← ha], hlt, fun j v hv => ?_⟩
   rcases j with _ | _ | _ | _ | _ | j
   ·simp only [obL, List.getElem?_cons_zero, Option.some.injEq] at hv; subst hv; simpa [Nat.add_assoc] using c0
   ·simp only [obL, List.getElem?_cons_succ, List.getElem?_cons_zero, Option.some.injEq] at hv; subst hv; simpa [Nat.add_assoc] using c1
   ·simp only [obL, List.getElem?_cons_succ, List.getElem?_cons_zero, Option.some.injEq] at hv; subst hv; simpa [Nat.add_assoc] using c2
   ·simp only [obL, List.getElem?_cons_succ, List.getElem?_cons_zero, Option.some.injEq] at hv; subst hv; simpa [Nat.add_assoc] using c3
   ·simp only [obL, List.getElem?_cons_succ, List.getElem?_cons_zero, Option.some.injEq] at hv; subst hv; simpa [Nat.add_assoc] using c4
   ·simp [obL] at hv
  obtain ⟨f, hf⟩ := choose_lt key
  refine ⟨some a, (List.range len).map f, cap, by simp, by simpa using h1, by simpa [maxLen] using h2, fun i d hi => ?_⟩
  have hi' : i < len := by have := get_lt hi; simpa using this
  rw [List.getElem?_map, List.getElem?_range hi'] at hi
  injection hi with hi
  subst hi
  obtain ⟨b, off, e, hb, k0⟩ := hf i hi'
  exact ⟨b, off, e, Nat.zero_le _, hb, k0⟩
end
theorem same_self (d p : Int) (D A : Option Addr) (cd ca B : Nat) (ds : List Dk) (os : List Ob) (D' A' : Option Addr) (cd' ca' B' : Nat) (w : World)
  (hnd : ds.length ≤ cd) (hcd : cd ≤ 9223372036854775807) (hna : os.length ≤ ca) (hca : ca ≤ 9223372036854775807) (hd : RD B w D ds) (hs : RO B w A os)
  (hnd' : ds.length ≤ cd') (hcd' : cd' ≤ 9223372036854775807) (hna' : os.length ≤ ca') (hca' : ca' ≤ 9223372036854775807) (hd' : RD B' w D' ds) (hs' : RO B' w A' os) :
  Calls Try.prog 20 #[Tv d p (.slice D ds.length cd) (.slice A os.length ca), Tv d p (.slice D' ds.length cd') (.slice A' os.length ca')] w fun e w' => e = .returned (.bool true) ∧ Below w.heap.size w w' := by
 have := sameT_calls d p D A cd ca B ds os d p D' A' cd' ca' B' ds os w hnd hcd hna hca hd hs hnd' hcd' hna' hca' hd' hs'
 rw [smB_iff.2 ⟨rfl, rfl, rfl, rfl⟩] at this
 exact this
theorem ints_self (A A' : Option Addr) (c c' B B' : Nat) (l : List Int) (w : World) (hn : l.length ≤ c) (hc : c ≤ 9223372036854775807) (hs : RI B w A l) (hn' : l.length ≤ c') (hc' : c' ≤ 9223372036854775807) (hs' : RI B' w A' l) :
  Calls Try.prog 37 #[.slice A l.length c, .slice A' l.length c'] w fun e w' => e = .returned (.bool true) ∧ Below w.heap.size w w' := by
 have := refSameInts_calls A A' c c' B B' l l w hn hc hs hn' hc' hs'
 rw [decide_eq_true rfl] at this
 exact this
end Go.Proofs.Ytapehckcmmompaa
namespace Go.Proofs.Ytapehckcmmompaa
open Go.ChangeShapes Go.WideShapes Go.ChangeAt Go.RowKit
set_option linter.unusedVariables false
set_option maxRecDepth 100000
theorem set_same {α : Type} {l : List α} {i : Nat} {a : α} (h : l[i]? = some a) : l.set i a = l := List.ext_getElem? fun j => by
 rw [List.getElem?_set]
 by_cases e : i = j
 ·subst e
  rw [if_pos rfl, if_pos (get_lt h), h]
 ·rw [if_neg e]
theorem OS.block {B : Nat} {W0 W : World} {v : Value} {gt n cap i s : Nat} {r : Value} {hs : List Value} {us : List (List Value)} {ds : List Dk} {d : Dk} {u : List Value} {l : List Nat} (h : OS B W0 v hs us ds) (hb : Below W0.heap.size W0 W) (hB : B ≤ W0.heap.size)
  (hd : ds[i]? = some d) (hh : hs[i]? = some (.slice (some ⟨gt, 0, none⟩) n cap)) (hu : us[i]? = some u) (hn : d.blocks.length = n) (hr : OB W0.heap.size W r l) (hl : Byt l) :
  OS B (W.setCell ⟨gt, s, none⟩ r) v hs (us.set i (u.set s r)) (ds.set i ⟨d.failed, d.blocks.set s l⟩) := by
 have hi := h.row i d _ u hd hh hu
 have hiW := hi.next hb
 have tW := hiW.top
 rw [hn] at tW
 have st := tW.stored s r
 have mine := OMx.setRow (k := s) hi hn hb hr hl hB
 have ht := (own_next hb h.top).kept st.2 (own_own tW (own_next hb h.top) (by decide))
 have eh : hs.set i (.slice (some ⟨gt, 0, none⟩) n cap) = hs := set_same hh
 have oldu : ∀ {i : Nat} {q : List Value}, us[i]? = some q → ∃ (d : Dk) (y : Value), OMx B W0 y q d.blocks := fun {i q} hq => by
  obtain ⟨y, hy⟩ := get_some (show i < hs.length by rw [h.lenH, ← h.lenU]; exact get_lt hq)
  obtain ⟨d, hd⟩ := get_some (show i < ds.length by rw [← h.lenU]; exact get_lt hq)
  exact ⟨d, y, h.row i d y q hd hy hq⟩
 refine ⟨?_, by simp [h.lenH], by simp [h.lenU], fun j e y q he hy hq => ?_, h.tops, fun j k a b q q' y y' hij hq hq' hy hy' => ?_⟩
 ·have e0 : flatD (ds.set i ⟨d.failed, d.blocks.set s l⟩) hs = flatD ds hs := by
   obtain ⟨f1, f2⟩ := flatD_get hd hh
   have e1 := flatD_set (ds := ds) (hs := hs) i ⟨d.failed, d.blocks.set s l⟩ (.slice (some ⟨gt, 0, none⟩) n cap)
   rw [eh] at e1
   rw [e1, show (flatD ds hs).set (i * 2) (Value.bool d.failed) = flatD ds hs from set_same f1, set_same f2]
  rw [e0]
  simpa using ht
 ·rcases set_get he with ⟨e1, rfl, _⟩ | ⟨e1, he⟩
  ·rcases set_get hq with ⟨_, rfl, _⟩ | ⟨e3, _⟩
   ·rw [e1] at hy
    rw [hh] at hy; cases hy
    exact mine
   ·omega
  ·rcases set_get hq with ⟨e3, _⟩ | ⟨_, hq⟩
   ·omega
   ·exact ((h.row j e y q he hy hq).next hb).kept2 tW (h.tops j i y _ (by omega) hy hh) st.2
 ·have rw1 : ∀ {j : Nat} {q : List Value} {a b : Nat} {y z : Value}, i ≠ j → us[j]? = some q → q[a]? = some y → (u.set s r)[b]? = some z → ∀ t, y.ownBlock = some t → z.ownBlock = some t → False := fun {j q a b y z} hij hq hy hz t e e' => by
   obtain ⟨_, _, ho⟩ := oldu hq
   have lt := (ho.lt_row hy e).2
   rcases set_get hz with ⟨_, rfl, _⟩ | ⟨_, h1⟩
   ·have := (hr.lt t e').1
    omega
   ·rcases h.rows i j b a u q z y hij hu hq h1 hy with hn | hn
    ·rw [hn] at e'; cases e'
    ·exact hn (by rw [e, e'])
  rcases set_get hq with ⟨e1, rfl, _⟩ | ⟨e1, hz⟩
  ·rcases set_get hq' with ⟨e2, _, _⟩ | ⟨_, hz'⟩
   ·omega
   ·cases e : y.ownBlock with
    | none => exact .inl rfl
    | some t => exact .inr fun e' => rw1 (by omega) hz' hy' hy t e'.symm e
  ·rcases set_get hq' with ⟨e2, rfl, _⟩ | ⟨_, hz'⟩
   ·cases e : y.ownBlock with
    | none => exact .inl rfl
    | some t => exact .inr fun e' => rw1 (by omega) hz hy hy' t e e'.symm
   ·exact h.rows j k a b q q' y y' hij hz hz' hy hy'
end Go.Proofs.Ytapehckcmmompaa
