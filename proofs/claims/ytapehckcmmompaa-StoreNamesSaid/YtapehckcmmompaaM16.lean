/- Several texts in one. -/
import Derived.Laws.CopyOwn
import Derived.Test.YtapehckcmmompaaM15
namespace Go.Proofs.Ytapehckcmmompaa
open Go.ChangeShapes Go.WideShapes Go.ChangeAt Go.RowKit
set_option linter.unusedVariables false
set_option maxRecDepth 100000
def hdl (gp k dn tot j : Nat) : List Value := (List.range dn).map fun i => if i < j then .slice (some ⟨gp, (k * dn + i) * 8, none⟩) 8 (tot - (k * dn + i) * 8) else .slice none 0 0
theorem hdl_len (gp k dn tot j : Nat) : (hdl gp k dn tot j).length = dn := by simp [hdl]
theorem hdl_zero (gp k dn tot : Nat) : hdl gp k dn tot 0 = List.replicate dn (.slice none 0 0) := by
 refine List.ext_getElem? fun i => ?_
 simp only [hdl, List.getElem?_map, List.getElem?_replicate]
 by_cases h : i < dn
 ·rw [List.getElem?_range h, if_pos h]; simp
 ·rw [List.getElem?_eq_none (by simpa using h), if_neg h]; rfl
theorem hdl_at {gp k dn tot j : Nat} (h : j < dn) : (hdl gp k dn tot j)[j]? = some (.slice none 0 0) := by simp [hdl, h]
theorem hdl_step {gp k dn tot j : Nat} (h : j < dn) : (hdl gp k dn tot j).set j (.slice (some ⟨gp, (k * dn + j) * 8, none⟩) 8 (tot - (k * dn + j) * 8)) = hdl gp k dn tot (j + 1) := by
 refine List.ext_getElem? fun i => ?_
 rw [List.getElem?_set, hdl_len]
 by_cases e : j = i
 ·subst e
  rw [if_pos rfl, if_pos h]
  simp [hdl, h]
 ·rw [if_neg e]
  simp only [hdl, List.getElem?_map]
  by_cases hi : i < dn
  ·rw [List.getElem?_range hi]
   have : i < j + 1 ↔ i < j := by omega
   simp only [Option.map_some, this]
  ·rw [List.getElem?_eq_none (by simpa using hi)]; rfl
theorem rma_hdl {W : World} {B gp gd k dn mn : Nat} {q : List Nat} (h : W.ownsRow B 26 1 (.slice (some ⟨gd, 0, none⟩) dn dn) dn (hdl gp k dn (mn * 8 * dn) dn)) (hp : W.heap[gp]? = some (.cells (bv q).toArray 5)) (hq : q.length = mn * 8 * dn) (hb : Byt q) (hk : k < mn) (hm : mn * 8 * dn ≤ 100000) :
  RMA 0 W (some ⟨gd, 0, none⟩) (rowsL dn q k) := by
 refine ⟨hdl gp k dn (mn * 8 * dn) dn, by rw [hdl_len, rowsL_len], (Hd.of_own h).mono (Nat.zero_le _), fun i u l hu hl => ?_⟩
 have hi : i < dn := by have := get_lt hl; rwa [rowsL_len] at this
 rw [rowsL_get hi] at hl
 injection hl with hl
 have hf := row_fit hk hi
 have h8 : l.length = 8 := by rw [← hl, List.length_take, List.length_drop]; omega
 simp only [hdl, List.getElem?_map, List.getElem?_range hi, Option.map_some, Option.some.injEq] at hu
 rw [if_pos hi] at hu
 refine ⟨some ⟨gp, (k * dn + i) * 8, none⟩, mn * 8 * dn - (k * dn + i) * 8, by rw [h8]; exact hu.symm, by rw [h8]; omega, by omega, fun x hx => ?_, fun j v hv => ⟨gp, (k * dn + i) * 8, rfl, Nat.zero_le _, blk_lt hp, ?_⟩⟩
 ·rw [← hl] at hx
  exact hb x (List.mem_of_mem_drop (List.mem_of_mem_take hx))
 ·refine blk_cell hp _ _ ?_
  have hj : j < 8 := by have := get_lt hv; simp [bv, h8] at this; exact this
  rw [← hl] at hv
  simp only [bv, List.getElem?_map, List.getElem?_take, if_pos hj, List.getElem?_drop] at hv
  simpa [bv] using hv
theorem bv_zeros (n : Nat) : madeCells #[.int .u8 0] n = (bv (List.replicate n 0)).toArray := by
 have : (madeCells #[.int .u8 0] n).toList = bv (List.replicate n 0) := by rw [toList_madeCells_one]; simp [bv]
 rw [← this]
theorem splice_pad {b : List Nat} {n : Nat} (h : b.length ≤ n) : splice (bv (List.replicate n 0)) 0 (bv b) = bv (padL b n) := by
 unfold splice padL bv
 simp
theorem addP (b o j : Nat) : (⟨b, o, none⟩ : Addr).add j = ⟨b, o + j, none⟩ := by
 unfold Addr.add; split
 ·rename_i h; subst h; rfl
 ·rfl
theorem hd_addr {B : Nat} {w : World} {A : Option Addr} {xs : List Value} (h : Hd B w A xs) (h0 : 0 < xs.length) : ∃ ad, A = some ad ∧ ∀ (j : Nat) (v : Value), xs[j]? = some v → w.cell? (ad.add j) = some v := by
 obtain ⟨u, hu⟩ := get_some h0
 obtain ⟨b, off, rfl, _, _, _⟩ := h 0 u hu
 refine ⟨⟨b, off, none⟩, rfl, fun j v hv => ?_⟩
 obtain ⟨b', off', e, _, _, h3⟩ := h j v hv
 injection e with e
 injection e with e1 e2 _
 subst e1 e2
 rw [addP]; exact h3
theorem put_okd {dn mn k : Nat} {q : List Nat} (h1 : 1 ≤ dn) (h8 : dn ≤ 8) (hq : q.length = mn * 8 * dn) (hk : k < mn) : OkD (rowsL dn q k) 8 :=
 ⟨by rw [rowsL_len]; exact h1, by rw [rowsL_len]; exact h8, by omega, by omega, rowsL_each hq hk⟩
theorem put_enc {dn mn k pn : Nat} {q : List Nat} (h1 : 1 ≤ dn) (h8 : dn ≤ 8) (hq : q.length = mn * 8 * dn) (hk : k < mn) (hp : pn ≤ 4) :
  encE (rowsL dn q k) (pn : Int) = 0 ∧ encS (rowsL dn q k) (pn : Int) = ((dn : Int), (pn : Int), enc (rowsL dn q k) pn) := by
 have e := encE_zero (put_okd h1 h8 hq hk) (show (0 : Int) ≤ (pn : Int) by omega) (show (pn : Int) ≤ 4 by omega)
 refine ⟨e, ?_⟩
 unfold encS
 rw [e, if_pos rfl, rowsL_len, Int.toNat_natCast]
theorem PT.alloc {B nb nb2 i : Nat} {W : World} {g n cap : Nat} {ru hs : List Value} {us : List (List Value)} {ds : List Dk} (h : PT B nb nb2 W g n cap ru hs us ds i) (o : Obj) : PT B nb nb2 (W.alloc o) g n cap ru hs us ds i := h.next (Bal (Below.refl _ _) o)
theorem dk_one_other {B : Nat} {W : World} {g b n cap i : Nat} {x : Value} {cs : Array Value} {t : TypeId} {xs : List Value} (h : W.heap[b]? = some (.cells cs t)) (ht : W.ownsRow B 46 2 (.slice (some ⟨g, 0, none⟩) n cap) n xs) (hne : 46 ≠ t) : (W.setCell ⟨g, i, none⟩ x).heap[b]? = some (.cells cs t) := by
 have ne : g ≠ b := fun e => own_ne ht h hne (by rw [e]; rfl)
 exact blk_set_other h ne _ _
theorem lay_other {B b : Nat} {W w2 : World} {g n m cap i : Nat} {x x' : Value} {hs u : List Value} {us : List (List Value)} {ds : List Dk} {cs : Array Value} {t : TypeId} (h : W.heap[b]? = some (.cells cs t)) (ho : OS B W (.slice (some ⟨g, 0, none⟩) n cap) hs us ds) (hx : W.ownsRow B 26 1 x m u) (hg : W.grownBy w2 x.ownBlock)
  (h1 : 46 ≠ t) (h2 : 26 ≠ t) : (w2.setCell ⟨g, i, none⟩ x').heap[b]? = some (.cells cs t) := by
 have hn : n = ds.length := by
  obtain ⟨A', c', e, _⟩ := own_form2 ho.top
  simp only [Value.slice.injEq] at e; exact e.2.1
 subst hn
 exact dk_one_other (gblk_ty hg hx h h2) (ho.top.kept hg (own_own hx ho.top (by decide))) h1
theorem lay_objs {B B' : Nat} {W w2 : World} {g n m cap i : Nat} {x x' v : Value} {hs u : List Value} {us : List (List Value)} {ds : List Dk} {os : List Ob} (h : OO B' W v os) (ho : OS B W (.slice (some ⟨g, 0, none⟩) n cap) hs us ds) (hx : W.ownsRow B 26 1 x m u) (hg : W.grownBy w2 x.ownBlock) : OO B' (w2.setCell ⟨g, i, none⟩ x') v os :=
 own_same h fun g' cs _ hh => (lay_other hh ho hx hg ne_dk_ob ne_sl_ob).trans hh.symm
def SC (L : List (Nat × Addr × Value)) (k : Nat) (X : World) : Prop := ∀ p ∈ L, p.1 = k → p.2.1.block < X.heap.size ∧ X.cell? p.2.1 = some p.2.2
theorem SC.next {L : List (Nat × Addr × Value)} {k : Nat} {X Y : World} (h : SC L k X) (hb : Below X.heap.size X Y) : SC L k Y := fun p hp e => by
 obtain ⟨h1, h2⟩ := h p hp e
 exact ⟨Nat.lt_of_lt_of_le h1 hb.size, (hb.cell h1).trans h2⟩
theorem cell_heap {X Y : World} {a : Addr} (h : Y.heap[a.block]? = X.heap[a.block]?) : Y.cell? a = X.cell? a := by
 unfold World.cell?; rw [h]
theorem SC.grown {L : List (Nat × Addr × Value)} {k : Nat} {X Y : World} {row : Option Nat} (h : SC L k X) (hg : X.grownBy Y row) (hne : ∀ p ∈ L, some p.2.1.block ≠ row) : SC L k Y := fun p hp e => by
 obtain ⟨h1, h2⟩ := h p hp e
 exact ⟨Nat.lt_of_lt_of_le h1 hg.size, (cell_heap (hg.block _ h1 (hne p hp))).trans h2⟩
theorem SC.none {L : List (Nat × Addr × Value)} {k : Nat} {X : World} (h : ∀ p ∈ L, p.1 ≠ k) : SC L k X := fun p hp e => absurd e (h p hp)
theorem own_blk2 {W : World} {base n size g m cap : Nat} {e : TypeId} {xs : List Value} (h : W.ownsRow base e size (.slice (some ⟨g, 0, none⟩) m cap) n xs) : ∃ cs, W.heap[g]? = some (.cells cs e) := by
 rcases h.2 with ⟨h1, _⟩ | ⟨g', cap', cur, e1, _, e3, _⟩
 ·cases h1
 ·injection e1 with e1 _ _
  injection e1 with e1
  injection e1 with e1 _ _
  subst e1
  exact ⟨cur, e3⟩
end Go.Proofs.Ytapehckcmmompaa
