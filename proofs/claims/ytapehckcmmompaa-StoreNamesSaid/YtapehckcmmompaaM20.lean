/- Several texts in one. -/
import Derived.Test.YtapehckcmmompaaM02
import Derived.Test.YtapehckcmmompaaM05
import Derived.Test.YtapehckcmmompaaM19
namespace Go.Proofs.Ytapehckcmmompaa
open Go.ChangeShapes Go.WideShapes Go.ChangeAt Go.RowKit
set_option linter.unusedVariables false
set_option maxRecDepth 100000
theorem bv_set' (l : List Nat) (a x : Nat) : bv (l.set a x) = (bv l).set a (.int .u8 (x : Int)) := by simp [bv, List.map_set]
theorem Byt.setb {l : List Nat} {a x : Nat} (h : Byt l) (hx : x < 256) : Byt (l.set a x) := fun y hy => by
 rcases List.mem_or_eq_of_mem_set hy with h1 | rfl
 ·exact h y h1
 ·exact hx
theorem OS.byte {B : Nat} {W : World} {v : Value} {gr n cap i s a x : Nat} {hs : List Value} {us : List (List Value)} {ds : List Dk} {d : Dk} {u : List Value} {l : List Nat} (h : OS B W v hs us ds)
  (hd : ds[i]? = some d) (hu : us[i]? = some u) (hr : u[s]? = some (.slice (some ⟨gr, 0, none⟩) n cap)) (hl : d.blocks[s]? = some l) (hx : x < 256) :
  OS B (W.setCell ⟨gr, a, none⟩ (.int .u8 (x : Int))) v hs us (ds.set i ⟨d.failed, d.blocks.set s (l.set a x)⟩) := by
 obtain ⟨y, hh⟩ := get_some (show i < hs.length by rw [h.lenH]; exact get_lt hd)
 have hi := h.row i d y u hd hh hu
 have ho := hi.row s _ l hr hl
 have hn : l.length = n := by
  obtain ⟨A', c', e, _⟩ := own_form2 ho
  simp only [Value.slice.injEq] at e; exact e.2.1.symm
 have hb := hi.byt l (List.mem_of_getElem? hl)
 subst hn
 have st := World.ownsRow.stored ho a (.int .u8 (x : Int))
 have fam := Fam.write (hi.fam) hr st.2 (l' := l.set a x) (by rw [bv_set']; exact st.1) (by simp) (hb.setb hx)
 have keepT : ∀ {base k size : Nat} {e : TypeId} {z : Value} {xs : List Value}, W.ownsRow base e size z k xs → e ≠ 5 → (W.setCell ⟨gr, a, none⟩ (.int .u8 (x : Int))).ownsRow base e size z k xs := fun ht he => ht.kept st.2 (own_own ho ht (fun e' => he e'.symm))
 refine ⟨?_, by simp [h.lenH], by simp [h.lenU], fun j e z q he hz hq => ?_, h.tops, h.rows⟩
 ·have e0 : flatD (ds.set i ⟨d.failed, d.blocks.set s (l.set a x)⟩) hs = flatD ds hs := by
   obtain ⟨f1, f2⟩ := flatD_get hd hh
   have e1 := flatD_set (ds := ds) (hs := hs) i ⟨d.failed, d.blocks.set s (l.set a x)⟩ y
   rw [set_same hh] at e1
   rw [e1, show (flatD ds hs).set (i * 2) (Value.bool d.failed) = flatD ds hs from set_same f1, set_same f2]
  rw [e0]
  simpa using keepT h.top ne_dk_u8
 ·rcases set_get he with ⟨e1, rfl, _⟩ | ⟨e1, he⟩
  ·rw [e1] at hz hq
   rw [hh] at hz; cases hz
   rw [hu] at hq; cases hq
   refine fam.omx ?_
   simpa using keepT hi.top ne_sl_u8
  ·have hj := h.row j e z q he hz hq
   refine ⟨keepT hj.top ne_sl_u8, fun k t m ht hm => (hj.row k t m ht hm).kept st.2 ?_, hj.byt, hj.apart⟩
   exact h.rows j i k s q u t _ e1 hq hu ht hr
end Go.Proofs.Ytapehckcmmompaa
namespace Go.Proofs.Ytapehckcmmompaa
open Go.ChangeShapes Go.WideShapes Go.ChangeAt Go.RowKit Go.Deep Go.Joins
set_option linter.unusedVariables false
set_option maxRecDepth 100000
def SX (L : List (Nat × Nat × Obj)) (n n' : Nat) (A A' : Option Addr) (l l' : List Nat) (k : Nat) (X : World) : Prop := SK L k X ∧ (k = n ∨ k = n' → RBA 0 X A l ∧ RBA 0 X A' l')
theorem SX.next {L : List (Nat × Nat × Obj)} {n n' : Nat} {A A' : Option Addr} {l l' : List Nat} {k : Nat} {X Y : World} (h : SX L n n' A A' l l' k X) (hb : Below X.heap.size X Y) : SX L n n' A A' l l' k Y :=
 ⟨h.1.next hb, fun e => ⟨RBA.next hb (h.2 e).1, RBA.next hb (h.2 e).2⟩⟩
theorem SX.drop {L : List (Nat × Nat × Obj)} {n n' : Nat} {A A' : Option Addr} {l l' : List Nat} {k : Nat} {Y : World} (h : ∀ p ∈ L, p.1 ≠ k) (h1 : k ≠ n) (h2 : k ≠ n') : SX L n n' A A' l l' k Y :=
 ⟨SK.drop h, fun e => by rcases e with e | e; exact absurd e h1; exact absurd e h2⟩
theorem os_head {B : Nat} {W : World} {A3 : Option Addr} {np c3 k : Nat} {hs : List Value} {us : List (List Value)} {ps : List Dk} (O : OS B W (.slice A3 np c3) hs us ps) (hk : k < np) :
  ∃ g Ay nk cy u, A3 = some ⟨g, 0, none⟩ ∧ hs[k]? = some (.slice Ay nk cy) ∧ us[k]? = some u ∧ nk ≤ 9223372036854775807 := by
 have hn : np = ps.length := by
  obtain ⟨A', c', e, _⟩ := own_form2 O.top
  simp only [Value.slice.injEq] at e; exact e.2.1
 subst hn
 obtain ⟨d, hd⟩ := get_some hk
 obtain ⟨y, hy⟩ := get_some (show k < hs.length by rw [O.lenH]; exact hk)
 obtain ⟨u, hu⟩ := get_some (show k < us.length by rw [O.lenU]; exact hk)
 have R := O.row k d y u hd hy hu
 obtain ⟨Ay, cy, rfl, b1, b2, _⟩ := own_form R.top
 obtain ⟨g, rfl, _⟩ := own_cell2 O.top (flatD_get hd hy).1
 exact ⟨g, Ay, d.blocks.length, cy, u, rfl, hy, hu, by omega⟩
theorem os_cell {B : Nat} {W : World} {g np c3 k : Nat} {hs : List Value} {us : List (List Value)} {ps : List Dk} {y : Value} (O : OS B W (.slice (some ⟨g, 0, none⟩) np c3) hs us ps) (hy : hs[k]? = some y) : W.cell? ⟨g, k * 2 + 1, none⟩ = some y ∧ g < W.heap.size := by
 have hn : np = ps.length := by
  obtain ⟨A', c', e, _⟩ := own_form2 O.top
  simp only [Value.slice.injEq] at e; exact e.2.1
 subst hn
 have hk : k < ps.length := by rw [← O.lenH]; exact get_lt hy
 obtain ⟨d, hd⟩ := get_some hk
 exact ⟨(O.top.cellAt (k * 2 + 1) (by omega)).trans (flatD_get hd hy).2, (O.top.lt g rfl).2⟩
theorem os_row {B : Nat} {W : World} {v : Value} {k l nk cy : Nat} {Ay : Option Addr} {hs u : List Value} {us : List (List Value)} {ps : List Dk} (O : OS B W v hs us ps) (hy : hs[k]? = some (.slice Ay nk cy)) (hu : us[k]? = some u) (hl : l < nk) :
  ∃ gt Ar nr cr, Ay = some ⟨gt, 0, none⟩ ∧ u[l]? = some (.slice Ar nr cr) ∧ W.cell? ⟨gt, l, none⟩ = some (.slice Ar nr cr) ∧ gt < W.heap.size ∧ nr ≤ 9223372036854775807 := by
 obtain ⟨d, hd⟩ := get_some (show k < ps.length by rw [← O.lenH]; exact get_lt hy)
 have R := O.row k d _ u hd hy hu
 obtain ⟨A', c', e, _⟩ := own_form R.top
 simp only [Value.slice.injEq] at e
 obtain ⟨-, rfl, -⟩ := e
 obtain ⟨lb, hlb⟩ := get_some hl
 obtain ⟨r, hr⟩ := get_some (show l < u.length by rw [R.len]; exact hl)
 obtain ⟨Ar, cr, rfl, b1, b2, _⟩ := own_form (R.row l r lb hr hlb)
 obtain ⟨gt, rfl, h1, h2, _⟩ := own_cell2 R.top hr
 exact ⟨gt, Ar, lb.length, cr, rfl, hr, h1, h2, by omega⟩
theorem os_byte {B : Nat} {W : World} {v : Value} {k l c nk cy nr cr : Nat} {Ay Ar : Option Addr} {hs u : List Value} {us : List (List Value)} {ps : List Dk} (O : OS B W v hs us ps) (hy : hs[k]? = some (.slice Ay nk cy)) (hu : us[k]? = some u) (hr : u[l]? = some (.slice Ar nr cr)) (hc : c < nr) :
  ∃ (gr x : Nat), Ar = some ⟨gr, 0, none⟩ ∧ x < 256 ∧ W.cell? ⟨gr, c, none⟩ = some (.int .u8 (x : Int)) ∧ W.frozen? ⟨gr, c, none⟩ = false ∧ gr < W.heap.size ∧ B ≤ gr ∧
   (∀ z : Nat, z < 256 → ∃ ps', OS B (W.setCell ⟨gr, c, none⟩ (.int .u8 (z : Int))) v hs us ps') ∧ (∀ (b : Nat) (cs : Array Value) (t : TypeId), W.heap[b]? = some (.cells cs t) → 5 ≠ t → gr ≠ b) := by
 obtain ⟨d, hd⟩ := get_some (show k < ps.length by rw [← O.lenH]; exact get_lt hy)
 have R := O.row k d _ u hd hy hu
 obtain ⟨lb, hlb⟩ := get_some (show l < d.blocks.length by rw [← R.len]; exact get_lt hr)
 have ro := R.row l _ lb hr hlb
 obtain ⟨A', c', e, _⟩ := own_form ro
 simp only [Value.slice.injEq] at e
 obtain ⟨-, rfl, -⟩ := e
 obtain ⟨x, hx⟩ := get_some hc
 obtain ⟨gr, rfl, h1, h2, h3⟩ := own_cell2 ro (bv_get hx)
 exact ⟨gr, x, rfl, R.byt lb (List.mem_of_getElem? hlb) x (List.mem_of_getElem? hx), h1, ro.frozenAt _, h2, h3, fun z hz => ⟨_, OS.byte (a := c) O hd hu hr hlb hz⟩, fun b cs t hb hne e => own_ne ro hb hne (by rw [← e]; rfl)⟩
section
variable {H : Type} {enc : TypeId × Value → H} {w : World} {base : Nat} {held : Bool}
end
end Go.Proofs.Ytapehckcmmompaa
namespace Go.Proofs.Ytapehckcmmompaa
open Go.ChangeShapes Go.WideShapes Go.ChangeAt Go.RowKit
set_option linter.unusedVariables false
def SZ (L : List (Nat × Addr × Value)) (C : List (Nat × Option Addr × List Nat)) (k : Nat) (X : World) : Prop := (∀ p ∈ L, p.1 = k → p.2.1.block < X.heap.size ∧ X.cell? p.2.1 = some p.2.2) ∧ ∀ p ∈ C, p.1 = k → RBA 0 X p.2.1 p.2.2
theorem SZ.next {L : List (Nat × Addr × Value)} {C : List (Nat × Option Addr × List Nat)} {k : Nat} {X Y : World} (h : SZ L C k X) (hb : Below X.heap.size X Y) : SZ L C k Y := by
 refine ⟨fun p hp e => ?_, fun p hp e => RBA.next hb (h.2 p hp e)⟩
 obtain ⟨h1, h2⟩ := h.1 p hp e
 exact ⟨Nat.lt_of_lt_of_le h1 hb.size, (hb.cell h1).trans h2⟩
theorem SZ.drop {L : List (Nat × Addr × Value)} {C : List (Nat × Option Addr × List Nat)} {k : Nat} {X : World} (h : ∀ p ∈ L, p.1 ≠ k) (h2 : ∀ p ∈ C, p.1 ≠ k) : SZ L C k X := ⟨fun p hp e => absurd e (h p hp), fun p hp e => absurd e (h2 p hp)⟩
end Go.Proofs.Ytapehckcmmompaa
