/- Closed facts of layer 45 for ParityNames: contracts at the law's own small stripes. -/
import Derived.Test.YtmpmeeacdllomaaPcg
namespace Go.Proofs.Ytmpmeeacdllomaa
open Go.ChangeShapes Go.WideShapes Go.ChangeAt Go.RowKit Gf
set_option linter.unusedVariables false
set_option maxRecDepth 100000

theorem rma1 {W : World} {g g' n : Nat} {cs : Array Value} (l : List Nat) (h : W.heap[g]? = some (.cells cs 5)) (e : cs.toList = bv l) (hn : l.length = n) (hl : Byt l) (hm : n ≤ 1000) (h' : W.heap[g']? = some (.cells #[.slice (some ⟨g, 0, none⟩) n n] 57)) : RMA 0 W (some ⟨g', 0, none⟩) [l] :=
  rma_blk [l] h' rfl (by simp) (fun i u x hu hx => by
    match i, hu, hx with
    | 0, hu, hx => cases hu; cases hx; exact rb_blk l h e hn hl hm
    | n + 1, hu, hx => cases hu)
theorem rma2 {W : World} {g1 g2 g' n1 n2 : Nat} {c1 c2 : Array Value} (l1 l2 : List Nat) (h1 : W.heap[g1]? = some (.cells c1 5)) (e1 : c1.toList = bv l1) (hn1 : l1.length = n1) (hl1 : Byt l1) (hm1 : n1 ≤ 1000)
    (h2 : W.heap[g2]? = some (.cells c2 5)) (e2 : c2.toList = bv l2) (hn2 : l2.length = n2) (hl2 : Byt l2) (hm2 : n2 ≤ 1000) (h' : W.heap[g']? = some (.cells #[.slice (some ⟨g1, 0, none⟩) n1 n1, .slice (some ⟨g2, 0, none⟩) n2 n2] 57)) : RMA 0 W (some ⟨g', 0, none⟩) [l1, l2] :=
  rma_blk [l1, l2] h' rfl (by simp) (fun i u x hu hx => by
    match i, hu, hx with
    | 0, hu, hx => cases hu; cases hx; exact rb_blk l1 h1 e1 hn1 hl1 hm1
    | 1, hu, hx => cases hu; cases hx; exact rb_blk l2 h2 e2 hn2 hl2 hm2
    | n + 2, hu, hx => cases hu)
theorem bytD (l : List Nat) (h : l.all (fun x => decide (x < 256)) = true) : Byt l := fun x hx => of_decide_eq_true (List.all_eq_true.1 h x hx)
theorem rma_made {W : World} {g n : Nat} (h : W.heap[g]? = some (.cells (madeCells #[.slice none 0 0] n) 57)) (hn : n ≤ 1000) : RMA 0 W (some ⟨g, 0, none⟩) (List.replicate n []) := by
  have e := rma_blk (List.replicate n []) h (by rw [size_madeCells]; simp) (by simpa using hn) (fun i u l hu hl => by
    rw [toList_madeCells_one] at hu
    have e1 := List.eq_of_mem_replicate (List.mem_of_getElem? hu)
    have e2 := List.eq_of_mem_replicate (List.mem_of_getElem? hl)
    subst e1 e2
    exact ⟨none, 0, rfl, by simp, by omega, Byt.nil, Hd.nil _ _ _⟩)
  exact e
theorem bv_zero (n : Nat) : (madeCells #[.int .u8 0] n).toList = bv (List.replicate n 0) := by rw [toList_madeCells_one]; simp [bv]
/- a row of an owned matrix replaced -/
theorem OMx.swap {B : Nat} {w : World} {us : List Value} {m : List (List Nat)} {gh cap k g n : Nat} {cs : Array Value} (h : OMx B w (.slice (some ⟨gh, 0, none⟩) m.length cap) us m) (hB : B ≤ w.heap.size) (l : List Nat) (hg : w.heap[g]? = some (.cells cs 5)) (e : cs.toList = bv l) (hn : l.length = n) (hl : Byt l) (hm : n ≤ 1000) (hk : k < m.length) :
    RMA 0 (w.setCell ⟨gh, k, none⟩ (.slice (some ⟨g, 0, none⟩) n n)) (some ⟨gh, 0, none⟩) (m.set k l) ∧ Below B w (w.setCell ⟨gh, k, none⟩ (.slice (some ⟨g, 0, none⟩) n n)) := by
  have st := World.ownsRow.stored h.top k (.slice (some ⟨g, 0, none⟩) n n)
  have ub : ∀ {b : Nat} {c : Array Value}, w.heap[b]? = some (.cells c 5) → (w.setCell ⟨gh, k, none⟩ (.slice (some ⟨g, 0, none⟩) n n)).heap[b]? = some (.cells c 5) := fun hb => blk_set_other hb (fun e => own_ne h.top hb ne_sl_u8 (by rw [← e]; rfl)) k _
  refine ⟨⟨us.set k (.slice (some ⟨g, 0, none⟩) n n), by rw [List.length_set, List.length_set, h.len], (Hd.of_own st.1).mono (Nat.zero_le _), fun i u x hu hx => ?_⟩, (Below.refl B w).setCell (h.top.lt gh rfl).1 _⟩
  rw [List.getElem?_set] at hu hx
  by_cases c : k = i
  · rw [if_pos c] at hu hx
    rw [if_pos (by rw [h.len]; exact hk)] at hu
    rw [if_pos hk] at hx
    cases hu; cases hx
    exact rb_blk l (ub hg) e hn hl hm
  · rw [if_neg c] at hu hx
    have ho := own_same (w1 := w.setCell ⟨gh, k, none⟩ (.slice (some ⟨g, 0, none⟩) n n)) (h.row i u x hu hx) (fun b cs _ hh => (ub hh).trans hh.symm)
    exact (OB.rb ho (h.byt x (List.mem_of_getElem? hx))).mono (Nat.zero_le _)
/- a row of an owned matrix replaced, in a world that may have more -/
theorem OMx.swapE {B : Nat} {w E : World} {us : List Value} {m : List (List Nat)} {gh cap k g n : Nat} {cs : Array Value} (h : OMx B w (.slice (some ⟨gh, 0, none⟩) m.length cap) us m) (l : List Nat) (hg : E.heap[g]? = some (.cells cs 5)) (e : cs.toList = bv l) (hn : l.length = n) (hl : Byt l) (hm : n ≤ 1000) (hk : k < m.length)
    (hH : ∀ cur : Array Value, w.heap[gh]? = some (.cells cur 57) → E.heap[gh]? = some (.cells (cur.setIfInBounds k (.slice (some ⟨g, 0, none⟩) n n)) 57)) (hU : ∀ (b : Nat) (c : Array Value), w.heap[b]? = some (.cells c 5) → E.heap[b]? = some (.cells c 5)) :
    RMA 0 E (some ⟨gh, 0, none⟩) (m.set k l) := by
  refine ⟨us.set k (.slice (some ⟨g, 0, none⟩) n n), by rw [List.length_set, List.length_set, h.len], fun j u hu => ?_, fun i u x hu hx => ?_⟩
  · rcases h.top.2 with ⟨h1, _⟩ | ⟨g', cap', cur, e1, e2, e3, e4, e5, e6, e7⟩
    · cases h1
    · simp only [Value.slice.injEq, Option.some.injEq, Addr.mk.injEq, and_true, true_and] at e1
      obtain ⟨rfl, rfl⟩ := e1
      have hE := hH cur e3
      refine ⟨gh, 0, rfl, Nat.zero_le _, blk_lt hE, blk_cell hE (0 + j) u ?_⟩
      rw [Nat.zero_add]
      rw [List.getElem?_set] at hu
      have hin : ∀ (j : Nat) (u : Value), us[j]? = some u → cur[j]? = some u := fun j u hu => by
        rw [← e7, List.getElem?_take] at hu
        split at hu
        · simpa using hu
        · cases hu
      by_cases c : k = j
      · subst c
        rw [if_pos rfl, if_pos (by rw [h.len]; exact hk)] at hu
        cases hu
        obtain ⟨u0, hu0⟩ := get_some (show k < us.length by rw [h.len]; exact hk)
        have := (Array.getElem?_eq_some_iff.1 (hin k u0 hu0)).1
        simp [this]
      · rw [if_neg c] at hu
        rw [Array.getElem?_setIfInBounds_ne c]
        exact hin j u hu
  · rw [List.getElem?_set] at hu hx
    by_cases c : k = i
    · rw [if_pos c] at hu hx
      rw [if_pos (by rw [h.len]; exact hk)] at hu
      rw [if_pos hk] at hx
      cases hu; cases hx
      exact rb_blk l hg e hn hl hm
    · rw [if_neg c] at hu hx
      have ho := own_same (w1 := E) (h.row i u x hu hx) (fun b cs _ hh => (hU b cs hh).trans hh.symm)
      exact (OB.rb ho (h.byt x (List.mem_of_getElem? hx))).mono (Nat.zero_le _)
structure NM (w wx : World) (z zq zr zs zu gr : Nat) (Aq : Option Addr) (cq cr : Nat) : Prop where
  n : Below w.heap.size w wx
  vp : wx.heap[z]? = some (.cells #[.int .i64 2, .int .i64 1, .slice (some ⟨zu, 0, none⟩) 13 13] 31)
  vq : wx.heap[zq]? = some (.cells #[.int .i64 3, .int .i64 1, .slice Aq 3 cq] 31)
  vr : wx.heap[zr]? = some (.cells #[.int .i64 2, .int .i64 1, .slice (some ⟨gr, 0, none⟩) 3 cr] 31)
  vs : ∃ g, wx.heap[zs]? = some (.cells #[.int .i64 2, .int .i64 1, .slice (some ⟨g, 0, none⟩) 3 3] 31) ∧ RMA 0 wx (some ⟨g, 0, none⟩) (List.replicate 3 [])
  rp : RMA 0 wx (some ⟨zu, 0, none⟩) (List.replicate 13 [])
  rq : RMA 0 wx Aq [[1], [2], [123]]
  rr : RMA 0 wx (some ⟨gr, 0, none⟩) [[1, 2], [2], [123]]
theorem nm_of {w base W E : World} {z zq zr zs zu gr cq cr g1 g2 B : Nat} {Aq : Option Addr} {x : Value} {ur : List Value} (FN : Below w.heap.size w base) (BC : Below base.heap.size base W) (FRq : RMA 0 base Aq [[1], [2], [123]])
    (VP : W.heap[z]? = some (.cells #[.int .i64 2, .int .i64 1, .slice (some ⟨zu, 0, none⟩) 13 13] 31)) (VQ : W.heap[zq]? = some (.cells #[.int .i64 2, .int .i64 1, .slice Aq 3 cq] 31))
    (VR : W.heap[zr]? = some (.cells #[.int .i64 2, .int .i64 1, .slice (some ⟨gr, 0, none⟩) 3 cr] 31)) (VS : W.heap[zs]? = some (.cells #[.int .i64 2, .int .i64 1, x] 31))
    (P13 : W.heap[zu]? = some (.cells (madeCells #[.slice none 0 0] 13) 57)) (Xr : OMx B W (.slice (some ⟨gr, 0, none⟩) 3 cr) ur [[1], [2], [123]])
    (hb : base.heap.size ≤ zq ∧ base.heap.size ≤ zs ∧ base.heap.size ≤ gr) (nm : gr ≠ zu ∧ gr ≠ z ∧ zq ≠ z ∧ zs ≠ z ∧ zs ≠ zr ∧ zq ≠ zr ∧ zq ≠ zu ∧ zs ≠ zu ∧ gr ≠ zr) (n1 : gr ≠ zq) (n2 : gr ≠ zs) (n5 : zq ≠ zs)
    (hE : Below W.heap.size (((W.setCell ⟨zq, 0, none⟩ (.int .i64 3)).setCell ⟨gr, 0, none⟩ (.slice (some ⟨g1, 0, none⟩) 2 2)).setCell ⟨zs, 2, none⟩ (.slice (some ⟨g2, 0, none⟩) 3 3)) E)
    (h1 : E.heap[g1]? = some (.cells #[.int .u8 1, .int .u8 2] 5)) (h2 : E.heap[g2]? = some (.cells (madeCells #[.slice none 0 0] 3) 57)) : NM w E z zq zr zs zu gr Aq cq cr := by
  obtain ⟨a1, a2, a3, a4, a5, a6, a7, a8, a9⟩ := nm
  have s3 : (((W.setCell ⟨zq, 0, none⟩ (.int .i64 3)).setCell ⟨gr, 0, none⟩ (.slice (some ⟨g1, 0, none⟩) 2 2)).setCell ⟨zs, 2, none⟩ (.slice (some ⟨g2, 0, none⟩) 3 3)).heap.size = W.heap.size := by simp [World.setCell]
  rw [← s3] at hE
  have bS := ((BC.setCell (p := ⟨zq, 0, none⟩) hb.1 (.int .i64 3)).setCell (p := ⟨gr, 0, none⟩) hb.2.2 (.slice (some ⟨g1, 0, none⟩) 2 2)).setCell (p := ⟨zs, 2, none⟩) hb.2.1 (.slice (some ⟨g2, 0, none⟩) 3 3)
  have bE := bS.trans (hE.mono bS.size)
  have keep : ∀ (b : Nat) (o : Obj), W.heap[b]? = some o → zq ≠ b → gr ≠ b → zs ≠ b → E.heap[b]? = some o := fun b o h k1 k2 k3 => blk_next hE (blk_set_other (blk_set_other (blk_set_other h k1 0 _) k2 0 _) k3 2 _)
  refine ⟨Bgo FN bE, keep z _ VP a3 a2 a4, blk_next hE (blk_set_other (blk_set_other (blk_set VQ 0 _) n1 0 _) (fun e => n5 e.symm) 2 _), keep zr _ VR a6 a9 a5, ⟨g2, blk_next hE (blk_set (blk_set_other (blk_set_other VS n5 0 _) n2 0 _) 2 _), rma_made h2 (by omega)⟩, rma_made (keep zu _ P13 a7 a1 a8) (by omega), FRq.next bE, ?_⟩
  refine OMx.swapE (m := [[1], [2], [123]]) (k := 0) (n := 2) Xr [1, 2] h1 rfl rfl (bytD _ (by decide)) (by decide) (by decide) (fun cur hc => blk_next hE (blk_set_other (blk_set (blk_set_other hc (fun e => n1 e.symm) 0 _) 0 _) (fun e => n2 e.symm) 2 _)) (fun b c hc => ?_)
  have ty : ∀ {b' : Nat} {cs : Array Value}, W.heap[b']? = some (.cells cs 31) → b' ≠ b := fun h e => by
    subst e; rw [h] at hc; injection hc with hc; injection hc with _ hc _; exact ne_st_u8 hc
  exact keep b _ hc (ty VQ) (fun e => own_ne Xr.top hc ne_sl_u8 (by rw [e]; rfl)) (ty VS)
theorem ce1f : encE [[5, 6]] 0 = 0 ∧ encS [[5, 6]] 0 = (1, 0, [[5, 6]]) := by decide +kernel
theorem ce1 (W : World) (A : Option Addr) (c : Nat) (h1 : 1 ≤ c) (h2 : c ≤ 9223372036854775807) (h : RMA 0 W A [[5, 6]]) : Calls Try.prog 24 #[.slice A 1 c, .int .i64 0] W (SEPost W (1, 0, [[5, 6]]) 0) := by
  have := encode_calls A c 0 [[5, 6]] 0 W h1 h2 h
  rw [ce1f.1, ce1f.2] at this
  exact this
theorem ce2f : encE [[9]] 1 = 0 ∧ encS [[9]] 1 = (1, 1, [[9], [9]]) := by decide +kernel
theorem ce2 (W : World) (A : Option Addr) (c : Nat) (h1 : 1 ≤ c) (h2 : c ≤ 9223372036854775807) (h : RMA 0 W A [[9]]) : Calls Try.prog 24 #[.slice A 1 c, .int .i64 1] W (SEPost W (1, 1, [[9], [9]]) 0) := by
  have := encode_calls A c 0 [[9]] 1 W h1 h2 h
  rw [ce2f.1, ce2f.2] at this
  exact this
theorem ce3f : encE (List.replicate 9 []) 0 = 4 ∧ encS (List.replicate 9 []) 0 = (0, 0, []) := by decide +kernel
theorem ce3 (W : World) (A : Option Addr) (c : Nat) (h1 : 9 ≤ c) (h2 : c ≤ 9223372036854775807) (h : RMA 0 W A (List.replicate 9 [])) : Calls Try.prog 24 #[.slice A 9 c, .int .i64 0] W (SEPost W (0, 0, []) 4) := by
  have := encode_calls A c 0 (List.replicate 9 []) 0 W h1 h2 h
  rw [ce3f.1, ce3f.2] at this
  exact this
theorem ce4f : encE [[1]] 5 = 4 ∧ encS [[1]] 5 = (0, 0, []) := by decide +kernel
theorem ce4 (W : World) (A : Option Addr) (c : Nat) (h1 : 1 ≤ c) (h2 : c ≤ 9223372036854775807) (h : RMA 0 W A [[1]]) : Calls Try.prog 24 #[.slice A 1 c, .int .i64 5] W (SEPost W (0, 0, []) 4) := by
  have := encode_calls A c 0 [[1]] 5 W h1 h2 h
  rw [ce4f.1, ce4f.2] at this
  exact this
theorem ce5f : encE [[1]] (-1) = 8 ∧ encS [[1]] (-1) = (0, 0, []) := by decide +kernel
theorem ce5 (W : World) (A : Option Addr) (c : Nat) (h1 : 1 ≤ c) (h2 : c ≤ 9223372036854775807) (h : RMA 0 W A [[1]]) : Calls Try.prog 24 #[.slice A 1 c, .int .i64 (-1)] W (SEPost W (0, 0, []) 8) := by
  have := encode_calls A c 0 [[1]] (-1) W h1 h2 h
  rw [ce5f.1, ce5f.2] at this
  exact this
theorem ce6f : encE [] 1 = 8 ∧ encS [] 1 = (0, 0, []) := by decide +kernel
theorem ce6 (W : World) (A : Option Addr) (c : Nat) (h1 : 0 ≤ c) (h2 : c ≤ 9223372036854775807) (h : RMA 0 W A []) : Calls Try.prog 24 #[.slice A 0 c, .int .i64 1] W (SEPost W (0, 0, []) 8) := by
  have := encode_calls A c 0 [] 1 W h1 h2 h
  rw [ce6f.1, ce6f.2] at this
  exact this
theorem ce7f : encE [[1], [1, 2]] 1 = 8 ∧ encS [[1], [1, 2]] 1 = (0, 0, []) := by decide +kernel
theorem ce7 (W : World) (A : Option Addr) (c : Nat) (h1 : 2 ≤ c) (h2 : c ≤ 9223372036854775807) (h : RMA 0 W A [[1], [1, 2]]) : Calls Try.prog 24 #[.slice A 2 c, .int .i64 1] W (SEPost W (0, 0, []) 8) := by
  have := encode_calls A c 0 [[1], [1, 2]] 1 W h1 h2 h
  rw [ce7f.1, ce7f.2] at this
  exact this
theorem ce8f : encE [[]] 1 = 8 ∧ encS [[]] 1 = (0, 0, []) := by decide +kernel
theorem ce8 (W : World) (A : Option Addr) (c : Nat) (h1 : 1 ≤ c) (h2 : c ≤ 9223372036854775807) (h : RMA 0 W A [[]]) : Calls Try.prog 24 #[.slice A 1 c, .int .i64 1] W (SEPost W (0, 0, []) 8) := by
  have := encode_calls A c 0 [[]] 1 W h1 h2 h
  rw [ce8f.1, ce8f.2] at this
  exact this
theorem ce9f : encE [List.replicate 65 0] 1 = 8 ∧ encS [List.replicate 65 0] 1 = (0, 0, []) := by decide +kernel
theorem ce9 (W : World) (A : Option Addr) (c : Nat) (h1 : 1 ≤ c) (h2 : c ≤ 9223372036854775807) (h : RMA 0 W A [List.replicate 65 0]) : Calls Try.prog 24 #[.slice A 1 c, .int .i64 1] W (SEPost W (0, 0, []) 8) := by
  have := encode_calls A c 0 [List.replicate 65 0] 1 W h1 h2 h
  rw [ce9f.1, ce9f.2] at this
  exact this
theorem ce10f : encE [List.replicate 64 0] 4 = 0 ∧ encS [List.replicate 64 0] 4 = (1, 4, List.replicate 5 (List.replicate 64 0)) := by decide +kernel
theorem ce10 (W : World) (A : Option Addr) (c : Nat) (h1 : 1 ≤ c) (h2 : c ≤ 9223372036854775807) (h : RMA 0 W A [List.replicate 64 0]) : Calls Try.prog 24 #[.slice A 1 c, .int .i64 4] W (SEPost W (1, 4, List.replicate 5 (List.replicate 64 0)) 0) := by
  have := encode_calls A c 0 [List.replicate 64 0] 4 W h1 h2 h
  rw [ce10f.1, ce10f.2] at this
  exact this
theorem cl1f : loseE 1 0 [[5, 6]] [0] = 32 ∧ loseS 1 0 [[5, 6]] [0] = (0, 0, []) := by decide +kernel
theorem cl1 (W : World) (A : Option Addr) (c : Nat) (Ad : Option Addr) (h1 : 1 ≤ c) (h2 : c ≤ 9223372036854775807) (h : RMA 0 W A [[5, 6]]) (hd : RI 0 W Ad [0]) : Calls Try.prog 26 #[Sv 1 0 (.slice A 1 c), .slice Ad 1 1] W (SEPost W (0, 0, []) 32) := by
  have := lose_calls 1 0 A c 0 [[5, 6]] Ad 1 0 [0] W h1 h2 h (by simp) (by omega) hd
  rw [cl1f.1, cl1f.2] at this
  exact this
theorem cl2f : loseE 2 1 [[1], [2], [123]] [3] = 2 ∧ loseS 2 1 [[1], [2], [123]] [3] = (0, 0, []) := by decide +kernel
theorem cl2 (W : World) (A : Option Addr) (c : Nat) (Ad : Option Addr) (h1 : 3 ≤ c) (h2 : c ≤ 9223372036854775807) (h : RMA 0 W A [[1], [2], [123]]) (hd : RI 0 W Ad [3]) : Calls Try.prog 26 #[Sv 2 1 (.slice A 3 c), .slice Ad 1 1] W (SEPost W (0, 0, []) 2) := by
  have := lose_calls 2 1 A c 0 [[1], [2], [123]] Ad 1 0 [3] W h1 h2 h (by simp) (by omega) hd
  rw [cl2f.1, cl2f.2] at this
  exact this
theorem cl3f : loseE 2 1 [[1], [2], [123]] [-1] = 2 ∧ loseS 2 1 [[1], [2], [123]] [-1] = (0, 0, []) := by decide +kernel
theorem cl3 (W : World) (A : Option Addr) (c : Nat) (Ad : Option Addr) (h1 : 3 ≤ c) (h2 : c ≤ 9223372036854775807) (h : RMA 0 W A [[1], [2], [123]]) (hd : RI 0 W Ad [-1]) : Calls Try.prog 26 #[Sv 2 1 (.slice A 3 c), .slice Ad 1 1] W (SEPost W (0, 0, []) 2) := by
  have := lose_calls 2 1 A c 0 [[1], [2], [123]] Ad 1 0 [-1] W h1 h2 h (by simp) (by omega) hd
  rw [cl3f.1, cl3f.2] at this
  exact this
theorem cl4f : loseE 2 1 [[1], [2], [123]] [1, 1] = 14 ∧ loseS 2 1 [[1], [2], [123]] [1, 1] = (0, 0, []) := by decide +kernel
theorem cl4 (W : World) (A : Option Addr) (c : Nat) (Ad : Option Addr) (h1 : 3 ≤ c) (h2 : c ≤ 9223372036854775807) (h : RMA 0 W A [[1], [2], [123]]) (hd : RI 0 W Ad [1, 1]) : Calls Try.prog 26 #[Sv 2 1 (.slice A 3 c), .slice Ad 2 2] W (SEPost W (0, 0, []) 14) := by
  have := lose_calls 2 1 A c 0 [[1], [2], [123]] Ad 2 0 [1, 1] W h1 h2 h (by simp) (by omega) hd
  rw [cl4f.1, cl4f.2] at this
  exact this
theorem cl5f : loseE 2 1 [[1], [2], [123]] [0, 1, 2] = 32 ∧ loseS 2 1 [[1], [2], [123]] [0, 1, 2] = (0, 0, []) := by decide +kernel
theorem cl5 (W : World) (A : Option Addr) (c : Nat) (Ad : Option Addr) (h1 : 3 ≤ c) (h2 : c ≤ 9223372036854775807) (h : RMA 0 W A [[1], [2], [123]]) (hd : RI 0 W Ad [0, 1, 2]) : Calls Try.prog 26 #[Sv 2 1 (.slice A 3 c), .slice Ad 3 3] W (SEPost W (0, 0, []) 32) := by
  have := lose_calls 2 1 A c 0 [[1], [2], [123]] Ad 3 0 [0, 1, 2] W h1 h2 h (by simp) (by omega) hd
  rw [cl5f.1, cl5f.2] at this
  exact this
theorem cl6f : loseE 2 1 [[1], [2], [123]] [0, 2] = 0 ∧ loseS 2 1 [[1], [2], [123]] [0, 2] = (2, 1, [[], [2], []]) := by decide +kernel
theorem cl6 (W : World) (A : Option Addr) (c : Nat) (Ad : Option Addr) (h1 : 3 ≤ c) (h2 : c ≤ 9223372036854775807) (h : RMA 0 W A [[1], [2], [123]]) (hd : RI 0 W Ad [0, 2]) : Calls Try.prog 26 #[Sv 2 1 (.slice A 3 c), .slice Ad 2 2] W (SEPost W (2, 1, [[], [2], []]) 0) := by
  have := lose_calls 2 1 A c 0 [[1], [2], [123]] Ad 2 0 [0, 2] W h1 h2 h (by simp) (by omega) hd
  rw [cl6f.1, cl6f.2] at this
  exact this
theorem cs1f : sdB 1 0 [[5, 6]] = true ∧ chkE 1 0 [[5, 6]] = 0 := by decide +kernel
theorem cs1 (W : World) (A : Option Addr) (c : Nat) (h1 : 1 ≤ c) (h2 : c ≤ 9223372036854775807) (h : RMA 0 W A [[5, 6]]) : Calls Try.prog 28 #[Sv 1 0 (.slice A 1 c)] W fun e w' => e = .returned (.tuple #[.bool true, .int .i64 0]) ∧ Below W.heap.size W w' := by
  have := soundX_calls 1 0 A c 0 [[5, 6]] W h1 h2 h
  rw [cs1f.1, cs1f.2] at this
  exact this
theorem cf1f : fndV 1 0 [[5, 6]] = ((-1), 0) := by decide +kernel
theorem cf1 (W : World) (A : Option Addr) (c : Nat) (h1 : 1 ≤ c) (h2 : c ≤ 9223372036854775807) (h : RMA 0 W A [[5, 6]]) : Calls Try.prog 18 #[Sv 1 0 (.slice A 1 c)] W fun e w' => e = .returned (.tuple #[.int .i64 (-1), .int .i64 0]) ∧ Below W.heap.size W w' := by
  have := find_calls 1 0 A c 0 [[5, 6]] W h1 h2 h
  rw [cf1f] at this
  exact this
theorem cf2f : fndV 2 1 [[], [2], []] = (0, 2) := by decide +kernel
theorem cf2 (W : World) (A : Option Addr) (c : Nat) (h1 : 3 ≤ c) (h2 : c ≤ 9223372036854775807) (h : RMA 0 W A [[], [2], []]) : Calls Try.prog 18 #[Sv 2 1 (.slice A 3 c)] W fun e w' => e = .returned (.tuple #[.int .i64 0, .int .i64 2]) ∧ Below W.heap.size W w' := by
  have := find_calls 2 1 A c 0 [[], [2], []] W h1 h2 h
  rw [cf2f] at this
  exact this
theorem cf3f : fndV 2 1 [[1], [3], [123]] = (0, 6) := by decide +kernel
theorem cf3 (W : World) (A : Option Addr) (c : Nat) (h1 : 3 ≤ c) (h2 : c ≤ 9223372036854775807) (h : RMA 0 W A [[1], [3], [123]]) : Calls Try.prog 18 #[Sv 2 1 (.slice A 3 c)] W fun e w' => e = .returned (.tuple #[.int .i64 0, .int .i64 6]) ∧ Below W.heap.size W w' := by
  have := find_calls 2 1 A c 0 [[1], [3], [123]] W h1 h2 h
  rw [cf3f] at this
  exact this
theorem cr1f : resE 2 1 [[], [2], []] = 32 := by decide +kernel
theorem cr1 (W : World) (A : Option Addr) (c : Nat) (h1 : 3 ≤ c) (h2 : c ≤ 9223372036854775807) (h : RMA 0 W A [[], [2], []]) : Calls Try.prog 16 #[Sv 2 1 (.slice A 3 c)] W (SEPost W (0, 0, []) 32) := by
  have := restore_calls 2 1 A c 0 [[], [2], []] W h1 h2 h
  rw [resS_err cr1f (by decide), cr1f] at this
  exact this
theorem cr2f : resE 2 1 [[1], [3], [123]] = 30 := by decide +kernel
theorem cr2 (W : World) (A : Option Addr) (c : Nat) (h1 : 3 ≤ c) (h2 : c ≤ 9223372036854775807) (h : RMA 0 W A [[1], [3], [123]]) : Calls Try.prog 16 #[Sv 2 1 (.slice A 3 c)] W (SEPost W (0, 0, []) 30) := by
  have := restore_calls 2 1 A c 0 [[1], [3], [123]] W h1 h2 h
  rw [resS_err cr2f (by decide), cr2f] at this
  exact this
theorem ck1f : chkE 2 1 [[1], [2], [123]] = 0 := by decide +kernel
theorem ck1 (W : World) (A : Option Addr) (c : Nat) (h1 : 3 ≤ c) (h2 : c ≤ 9223372036854775807) (h : RMA 0 W A [[1], [2], [123]]) : Calls Try.prog 30 #[Sv 2 1 (.slice A 3 c)] W fun e w' => e = .returned (.int .i64 0) ∧ Below W.heap.size W w' := by
  have := check_calls 2 1 A c 0 [[1], [2], [123]] W h1 h2 h
  rw [ck1f] at this
  exact this
theorem ck2f : chkE 2 1 (List.replicate 13 []) = 4 := by decide +kernel
theorem ck2 (W : World) (A : Option Addr) (c : Nat) (h1 : 13 ≤ c) (h2 : c ≤ 9223372036854775807) (h : RMA 0 W A (List.replicate 13 [])) : Calls Try.prog 30 #[Sv 2 1 (.slice A 13 c)] W fun e w' => e = .returned (.int .i64 4) ∧ Below W.heap.size W w' := by
  have := check_calls 2 1 A c 0 (List.replicate 13 []) W h1 h2 h
  rw [ck2f] at this
  exact this
theorem ck3f : chkE 3 1 [[1], [2], [123]] = 8 := by decide +kernel
theorem ck3 (W : World) (A : Option Addr) (c : Nat) (h1 : 3 ≤ c) (h2 : c ≤ 9223372036854775807) (h : RMA 0 W A [[1], [2], [123]]) : Calls Try.prog 30 #[Sv 3 1 (.slice A 3 c)] W fun e w' => e = .returned (.int .i64 8) ∧ Below W.heap.size W w' := by
  have := check_calls 3 1 A c 0 [[1], [2], [123]] W h1 h2 h
  rw [ck3f] at this
  exact this
theorem ck4f : chkE 2 1 [[1, 2], [2], [123]] = 8 := by decide +kernel
theorem ck4 (W : World) (A : Option Addr) (c : Nat) (h1 : 3 ≤ c) (h2 : c ≤ 9223372036854775807) (h : RMA 0 W A [[1, 2], [2], [123]]) : Calls Try.prog 30 #[Sv 2 1 (.slice A 3 c)] W fun e w' => e = .returned (.int .i64 8) ∧ Below W.heap.size W w' := by
  have := check_calls 2 1 A c 0 [[1, 2], [2], [123]] W h1 h2 h
  rw [ck4f] at this
  exact this
theorem ck5f : chkE 2 1 (List.replicate 3 []) = 8 := by decide +kernel
theorem ck5 (W : World) (A : Option Addr) (c : Nat) (h1 : 3 ≤ c) (h2 : c ≤ 9223372036854775807) (h : RMA 0 W A (List.replicate 3 [])) : Calls Try.prog 30 #[Sv 2 1 (.slice A 3 c)] W fun e w' => e = .returned (.int .i64 8) ∧ Below W.heap.size W w' := by
  have := check_calls 2 1 A c 0 (List.replicate 3 []) W h1 h2 h
  rw [ck5f] at this
  exact this
theorem ck6f : chkE 0 0 [] = 8 := by decide +kernel
theorem ck6 (W : World) (A : Option Addr) (c : Nat) (h1 : 0 ≤ c) (h2 : c ≤ 9223372036854775807) (h : RMA 0 W A []) : Calls Try.prog 30 #[Sv 0 0 (.slice A 0 c)] W fun e w' => e = .returned (.int .i64 8) ∧ Below W.heap.size W w' := by
  have := check_calls 0 0 A c 0 [] W h1 h2 h
  rw [ck6f] at this
  exact this
theorem cm1 (W : World) : Calls Try.prog 13 #[.int .u8 0, .int .u8 77] W fun e w' => e = .returned (.int .u8 0) ∧ W = w' := by
  have := mul_calls 0 77 (by omega) (by omega) W
  rw [show gm 0 77 = 0 by decide +kernel] at this
  exact this
theorem cm2 (W : World) : Calls Try.prog 13 #[.int .u8 1, .int .u8 77] W fun e w' => e = .returned (.int .u8 77) ∧ W = w' := by
  have := mul_calls 1 77 (by omega) (by omega) W
  rw [show gm 1 77 = 77 by decide +kernel] at this
  exact this
theorem cm3 (W : World) : Calls Try.prog 13 #[.int .u8 3, .int .u8 3] W fun e w' => e = .returned (.int .u8 5) ∧ W = w' := by
  have := mul_calls 3 3 (by omega) (by omega) W
  rw [show gm 3 3 = 5 by decide +kernel] at this
  exact this
theorem cm4 (W : World) : Calls Try.prog 13 #[.int .u8 16, .int .u8 16] W fun e w' => e = .returned (.int .u8 29) ∧ W = w' := by
  have := mul_calls 16 16 (by omega) (by omega) W
  rw [show gm 16 16 = 29 by decide +kernel] at this
  exact this
theorem cm5 (W : World) : Calls Try.prog 13 #[.int .u8 255, .int .u8 2] W fun e w' => e = .returned (.int .u8 227) ∧ W = w' := by
  have := mul_calls 255 2 (by omega) (by omega) W
  rw [show gm 255 2 = 227 by decide +kernel] at this
  exact this
theorem ci1 (W : World) : Calls Try.prog 11 #[.int .u8 1] W fun e w' => e = .returned (.tuple #[.int .u8 1, .int .i64 0]) ∧ W = w' := by
  have := inv_calls 1 (by omega) W
  rw [show invVal 1 = 1 by decide +kernel, show invErr 1 = 0 by decide +kernel] at this
  exact this
theorem ci0 (W : World) : Calls Try.prog 11 #[.int .u8 0] W fun e w' => e = .returned (.tuple #[.int .u8 0, .int .i64 18]) ∧ W = w' := by
  have := inv_calls 0 (by omega) W
  rw [show invVal 0 = 0 by decide +kernel, show invErr 0 = 18 by decide +kernel] at this
  exact this
end Go.Proofs.Ytmpmeeacdllomaa
