/- Several texts in one. -/
import Derived.StillTailTactics
import Derived.Deep.DeepCutAuto
import Derived.Deep.CutBlock
import Derived.Test.YtapehckcmmompaaM06
import Derived.Test.YtapehckcmmompaaM07
namespace Go.Proofs.Ytapehckcmmompaa
open Go.ChangeShapes Go.WideShapes Go.ChangeAt Go.RowKit Gf
set_option linter.unusedVariables false
set_option maxRecDepth 100000
attribute [local go_sem ↓] Go.wp_at_zero Go.wp_at_succ
theorem lostL_pre {m : List (List Nat)} {D k : Nat} (hk : k < (lostL m D).length) : ∀ {n : Nat}, D ≤ n → (lostL m n)[k]? = (lostL m D)[k]?
 | 0, h => by rw [Nat.le_zero.1 h]
 | n + 1, h => by
  by_cases e : D = n + 1
  ·rw [e]
  ·have ih := lostL_pre hk (n := n) (by omega)
   have hl : k < (lostL m n).length := by
    obtain ⟨x, hx⟩ := get_some hk
    rw [hx] at ih
    exact get_lt ih
   rw [lostL_more, List.getElem?_append_left hl, ih]
theorem lostL_post {m : List (List Nat)} {D n k x : Nat} (hk : (lostL m D).length ≤ k) (hx : (lostL m n)[k]? = some x) : D ≤ x := by
 obtain ⟨h1, h2, h3⟩ := lostL_rank n hx
 rcases Nat.lt_or_ge x D with h | h
 ·have := lostL_lt h h2; omega
 ·exact h
theorem iv_take (l : List Nat) (k : Nat) {x : Nat} (h : l[k]? = some x) : iv (l.take (k + 1)) = iv (l.take k) ++ [.int .i64 (x : Int)] := by rw [take_snoc' h, iv_append]; rfl
theorem OMx.fresh {B : Nat} {w : World} {us : List Value} {m : List (List Nat)} {gh cap k n : Nat} {cs : Array Value} (h : OMx B w (.slice (some ⟨gh, 0, none⟩) m.length cap) us m) (hB : B ≤ w.heap.size) (l : List Nat) (e : cs.toList = bv l) (hn : l.length = n) (hl : Byt l) (hm : n ≤ 1000) (hk : k < m.length) :
  OMx B ((w.setCell ⟨gh, k, none⟩ (.slice (some ⟨w.heap.size, 0, none⟩) n n)).alloc (.cells cs 5)) (.slice (some ⟨gh, 0, none⟩) m.length cap) (us.set k (.slice (some ⟨w.heap.size, 0, none⟩) n n)) (m.set k l) ∧
  Below B w ((w.setCell ⟨gh, k, none⟩ (.slice (some ⟨w.heap.size, 0, none⟩) n n)).alloc (.cells cs 5)) := by
 subst hn
 have hs : cs.size = l.length := by have := congrArg List.length e; rw [bv_len] at this; simpa using this
 have st := World.ownsRow.stored h.top k (.slice (some ⟨w.heap.size, 0, none⟩) l.length l.length)
 have sz : (w.setCell ⟨gh, k, none⟩ (.slice (some ⟨w.heap.size, 0, none⟩) l.length l.length)).heap.size = w.heap.size := by simp [World.setCell]
 have nb : Below (w.setCell ⟨gh, k, none⟩ (.slice (some ⟨w.heap.size, 0, none⟩) l.length l.length)).heap.size (w.setCell ⟨gh, k, none⟩ (.slice (some ⟨w.heap.size, 0, none⟩) l.length l.length)) ((w.setCell ⟨gh, k, none⟩ (.slice (some ⟨w.heap.size, 0, none⟩) l.length l.length)).alloc (.cells cs 5)) := Bal (Below.refl _ _) _
 have ub : ∀ {b : Nat} {c : Array Value}, w.heap[b]? = some (.cells c 5) → (w.setCell ⟨gh, k, none⟩ (.slice (some ⟨w.heap.size, 0, none⟩) l.length l.length)).heap[b]? = some (.cells c 5) := fun hb => blk_set_other hb (fun e => own_ne h.top hb ne_sl_u8 (by rw [← e]; rfl)) k _
 have old : ∀ {i : Nat} {x : Value}, us[i]? = some x → ∀ g, x.ownBlock = some g → g < w.heap.size := fun {i x} h1 g hg' => by
  obtain ⟨y, hy⟩ := get_some (show i < m.length by have := get_lt h1; rw [h.len] at this; exact this)
  exact ((h.row i x y h1 hy).lt g hg').2
 refine ⟨⟨by rw [List.length_set]; exact own_next nb st.1, fun i u x hu hx => ?_, fun x hx => ?_, fun i j u u' hu hu' hij => ?_⟩, ((Below.refl B w).setCell (h.top.lt gh rfl).1 _).alloc (by rw [sz]; exact hB) _⟩
 ·rw [List.getElem?_set] at hu hx
  by_cases c : k = i
  ·rw [if_pos c] at hu hx
   rw [if_pos (by rw [h.len]; exact hk)] at hu
   rw [if_pos hk] at hx
   cases hu; cases hx
   have hb : ((w.setCell ⟨gh, k, none⟩ (.slice (some ⟨w.heap.size, 0, none⟩) l.length l.length)).alloc (.cells cs 5)).heap[w.heap.size]? = some (.cells cs 5) := blk_at _ sz.symm
   have := own_blk hb hB hs hm
   rw [e] at this
   exact this
  ·rw [if_neg c] at hu hx
   exact own_next nb (own_same (h.row i u x hu hx) (fun b cs _ hh => (ub hh).trans hh.symm))
 ·rcases List.mem_or_eq_of_mem_set hx with h1 | rfl
  ·exact h.byt x h1
  ·exact hl
 ·rw [List.getElem?_set] at hu hu'
  by_cases c : k = i
  ·rw [if_pos c, if_pos (by rw [h.len]; exact hk)] at hu
   rw [if_neg (by omega)] at hu'
   cases hu
   refine .inr fun e' => ?_
   have := old hu' w.heap.size e'.symm
   omega
  ·rw [if_neg c] at hu
   by_cases c' : k = j
   ·rw [if_pos c', if_pos (by rw [h.len]; exact hk)] at hu'
    cases hu'
    cases eo : u.ownBlock with
    | none => exact .inl rfl
    | some g =>
     refine .inr fun e' => ?_
     have := old hu g eo
     simp only [Value.ownBlock, Option.some.injEq] at e'
     omega
   ·rw [if_neg c'] at hu'
    exact h.apart i j u u' hu hu' hij
def zK (d : Nat) (m : List (List Nat)) (n k : Nat) : List (List Nat) := (List.range m.length).map fun i => if i < d ∧ (m.getD i []).length = 0 ∧ (lostL m i).length < k then List.replicate n 0 else m.getD i []
theorem zK_len (d : Nat) (m : List (List Nat)) (n k : Nat) : (zK d m n k).length = m.length := by simp [zK]
theorem zK_get {d n k i : Nat} {m : List (List Nat)} (hi : i < m.length) : (zK d m n k)[i]? = some (if i < d ∧ (m.getD i []).length = 0 ∧ (lostL m i).length < k then List.replicate n 0 else m.getD i []) := by
 simp only [zK, List.getElem?_map, List.getElem?_range hi, Option.map_some]
theorem zK_zero (d : Nat) (m : List (List Nat)) (n : Nat) : zK d m n 0 = m := by
 apply List.ext_getElem?
 intro i
 by_cases hi : i < m.length
 ·rw [zK_get hi, if_neg (by omega), getD_get hi]
 ·rw [List.getElem?_eq_none (by rw [zK_len]; omega), List.getElem?_eq_none (by omega)]
theorem zK_succ {d n k x : Nat} {m : List (List Nat)} (hd : d ≤ m.length) (hx : (goneL d m)[k]? = some x) : zK d m n (k + 1) = (zK d m n k).set x (List.replicate n 0) := by
 obtain ⟨h1, h2, h3⟩ := lostL_rank d hx
 apply List.ext_getElem?
 intro i
 rw [List.getElem?_set]
 by_cases hi : i < m.length
 ·rw [zK_get hi, zK_get hi]
  by_cases c : x = i
  ·subst c
   rw [if_pos rfl, if_pos ⟨h1, h2, by omega⟩, if_pos (by rw [zK_len]; exact hi)]
  ·rw [if_neg c]
   congr 1
   by_cases c1 : i < d ∧ (m.getD i []).length = 0 ∧ (lostL m i).length < k
   ·rw [if_pos c1, if_pos ⟨c1.1, c1.2.1, by omega⟩]
   ·rw [if_neg c1, if_neg (fun c2 => c1 ⟨c2.1, c2.2.1, by
     have : (lostL m i).length ≠ k := fun e => c (lostL_inj h2 c2.2.1 (by omega))
     omega⟩)]
 ·rw [List.getElem?_eq_none (by rw [zK_len]; omega)]
  by_cases c : x = i
  ·omega
  ·rw [if_neg c, List.getElem?_eq_none (by rw [zK_len]; omega)]
theorem zK_all {d n : Nat} {m sol : List (List Nat)} : zK d m n (goneL d m).length = wK d m n sol 0 0 := by
 unfold zK wK
 refine List.map_congr_left fun i _ => ?_
 by_cases c : i < d ∧ (m.getD i []).length = 0
 ·rw [if_pos ⟨c.1, c.2, show (lostL m i).length < (goneL d m).length from lostL_lt c.1 c.2⟩, if_pos c, if_neg (by omega), mixZ_zero]
 ·rw [if_neg (fun h => c ⟨h.1, h.2.1⟩), if_neg c]
def synB (D : Nat) (m : List (List Nat)) (j t k : Nat) : Nat := (synTo D m j t).getD k 0
set_option maxRecDepth 100000 in
set_option maxHeartbeats 8000000 in
theorem refRestore_calls (D M : Int) (A : Option Addr) (c B : Nat) (m : List (List Nat)) (w : World) (hn : m.length ≤ c) (hc : c ≤ 9223372036854775807) (hs : RMA B w A m) :
  Calls Try.prog 53 #[Sv D M (.slice A m.length c)] w (SEPost w (resS D M m) (resE D M m)) := by
 have HS := Lib.hid hs
 have HBY := Lib.hid hs.byt
 clear hs
 have CC := Lib.hid (fun W (h : RMA B W A m) => refCheck_calls D M A c B m W hn hc h)
 by_cases ck : chkE D M m = 0
 ·obtain ⟨OKS, hD, hM⟩ := chkE_ok ck
  have hmn : m.length ≤ 12 := by have := OKS.len; have := OKS.d8; have := OKS.m4; omega
  have RE : Hid (resE D M m = rstE D.toNat M.toNat m) := Lib.hid (by unfold resE; rw [if_pos ck])
  have RS : Hid (resS D M m = if rstE D.toNat M.toNat m = 0 then (D, M, enc (dataL D.toNat M.toNat m) M.toNat) else (0, 0, [])) := Lib.hid (by unfold resS; rw [RE.out])
  rw [ck] at CC
  have OK := Lib.hid OKS
  generalize D.toNat = d at *
  generalize M.toNat = e at *
  subst hD hM
  have hd1 := OKS.d1
  have hd8 := OKS.d8
  have he4 := OKS.m4
  have hs64 := OKS.s64
  have HLEN := Lib.hid OKS.len
  clear ck OKS
  have LC := Lib.hid (fun W (h : RMA B W A m) => refLost_calls d e A c B m W hn hc (by omega) h)
  have LN : Hid ((lostL m m.length).length = lostN m) := Lib.hid (by have := lostL_count (m := m) m.length (Nat.le_refl _); rw [List.take_length] at this; exact this)
  rw [LN.out] at LC
  go_enter Try.func53, Try.ntmps53
  go_wp2_with fail
  refine (CC.out _ (HS.out.next (Bal (Bal (Below.refl _ _) _) _))).mono ?_
  rintro ex w1 ⟨rfl, hb1⟩
  have N1 : Hid (Below w.heap.size w w1) := Lib.hid (Bgo (Bal (Bal (Below.refl _ _) _) _) hb1)
  have SB1 : Hid (w1.heap[w.heap.size]? = some (.cells #[.int .i64 d, .int .i64 e, .slice A m.length c] 54)) := Lib.hid (blk_next hb1 (blk_alloc (blk_new w _) _))
  have X1 : Hid (w1.heap[w.heap.size + 1]? = some (.cells #[.int .i64 0, .int .i64 0, .slice none 0 0] 54)) := Lib.hid (blk_next hb1 (blk_at _ (by simp)))
  clear hb1
  have s0 := blk_cell SB1.out 0 _ rfl
  have s1 := blk_cell SB1.out 1 _ rfl
  have s2 := blk_cell SB1.out 2 _ rfl
  have sl := blk_lt X1.out
  go_wp2_with fail
  clear s0 s1 s2 sl
  refine (LC.out _ (HS.out.next N1.out)).mono ?_
  rintro ex w2 ⟨vl, rfl, ol, hb2⟩
  obtain ⟨Al, cl, rfl, hl1, hl2, _⟩ := own_form ol
  have N2 := Lib.hid (Bgo N1.out hb2)
  have SB2 := Lib.hid (blk_next hb2 SB1.out)
  have X2 := Lib.hid (blk_next hb2 X1.out)
  have OL := Lib.hid ol
  clear hb2 SB1 X1 N1 ol
  have s0 := blk_cell SB2.out 0 _ rfl
  have s1 := blk_cell SB2.out 1 _ rfl
  have s2 := blk_cell SB2.out 2 _ rfl
  by_cases hlo : e < lostN m
  ·have x0 := blk_cell X2.out 0 _ rfl
   have x1 := blk_cell X2.out 1 _ rfl
   have x2 := blk_cell X2.out 2 _ rfl
   have f0 := blk_frozen X2.out 0
   have f1 := blk_frozen X2.out 1
   have f2 := blk_frozen X2.out 2
   have FE : Hid (rstE d e m = 32) := Lib.hid (by unfold rstE; rw [if_pos hlo])
   go_wp2_with fail
   have Z := blk_set3 X2.out (.int .i64 0) (.int .i64 0) (.slice none 0 0)
   have e0 := blk_cell Z 0 _ rfl
   have e1 := blk_cell Z 1 _ rfl
   have e2 := blk_cell Z 2 _ rfl
   rw [RS.out, RE.out, FE.out, if_neg (by decide)]
   refine bodyPost_ret (v := .tuple #[Sv 0 0 (.slice none 0 0), .int .i64 32]) (by simp [results, Try.results53, go_sem, e0, e1, e2]) rfl (SEPost.none_ ?_)
   exact Bset3 N2.out (by omega) _ _ _
  ·have GE := Lib.hid (cho_enough OK.out.len (show lostN m ≤ e by omega))
   obtain ⟨i0, hi0, hz0, hz1, hz2⟩ := info_parts int_info
   have HI := Lib.hid (And.intro hi0 (And.intro hz0 (And.intro hz1 hz2)))
   obtain ⟨i1, hj0, hy0, hy1, hy2⟩ := info_parts u8_info
   have HJ1 := Lib.hid (And.intro hj0 (And.intro hy0 (And.intro hy1 hy2)))
   obtain ⟨i2, hk0, hx0, hx1, hx2⟩ := info_parts sl_info
   have HK1 := Lib.hid (And.intro hk0 (And.intro hx0 (And.intro hx1 hx2)))
   clear hi0 hz0 hz1 hz2 hj0 hy0 hy1 hy2 hk0 hx0 hx1 hx2
   obtain ⟨GO, hGO⟩ : ∃ GO, GO = goneL d m := ⟨_, rfl⟩
   have GP : Hid (∀ (k x : Nat), GO[k]? = some x → (lostL m m.length)[k]? = some x ∧ x < d) := Lib.hid (fun k x hx => by
    rw [hGO] at hx
    have e := lostL_pre (n := m.length) (get_lt hx) (by have := HLEN.out; omega)
    unfold goneL at hx
    rw [hx] at e
    exact ⟨e, (lostL_rank _ hx).1⟩)
   have GQ : Hid (∀ x : Nat, (lostL m m.length)[GO.length]? = some x → d ≤ x) := Lib.hid (fun x hx => lostL_post (by rw [hGO]; exact Nat.le_refl _) hx)
   have gle : GO.length ≤ lostN m := by
    rw [← LN.out, hGO]; exact lostL_mono m (by have := HLEN.out; omega)
   have HGO := Lib.hid hGO
   clear hGO
   go_upto_block 0 with fail
   clear s0 s1 s2
   go_cut [6] from 37 to 58 (fun s6 wx => Hid (wx.ownsRow w2.heap.size 3 1 s6 GO.length (iv GO)) ∧ Hid (Below w2.heap.size w2 wx))
   case first =>
    go_wp2_with fail
    go_loopw [6, 8] (fun v i wr => ∃ k : Nat, k ≤ GO.length ∧ i = .int .i64 k ∧ Hid (wr.ownsRow w2.heap.size 3 1 v k (iv (GO.take k))) ∧ Hid (Below w2.heap.size w2 wr)) (fun _ i _ => GO.length - (intOf i).toNat)
    case atStart => exact ⟨0, by omega, rfl, Lib.hid (World.ownsRow_nil _ _ _ _), Lib.hid (Below.refl _ _)⟩
    case round =>
     obtain ⟨k, hk, rfl, O, N⟩ := hrel
     have s0 := blk_cell (blk_next N.out SB2.out) 0 _ rfl
     have k1 : (0 : Int) ≤ (k : Int) := by omega
     by_cases hlt : k < GO.length
     ·obtain ⟨x, hx⟩ := get_some hlt
      obtain ⟨hx1, hx2⟩ := GP.out k x hx
      obtain ⟨b, off, rfl, _, hbl, hcell⟩ := Hd.of_own (own_next N.out OL.out) k _ (iv_get hx1)
      have HX := Lib.hid hx
      have k2 : (k : Int) < (lostN m : Int) := by omega
      have k3 : decide ((k : Int) < (lostN m : Int)) = true := decide_eq_true k2
      have k4 : k < lostN m := by omega
      clear hx hx1
      go_wp2_with fail
      go_quiet (fail)
      have N' := Lib.hid (below_drewN N.out nq)
      have O' := Lib.hid (own_next (below_drewN (Below.refl wr.heap.size wr) nq) O.out)
      replace hcell : (wr.drewN nq).cell? ⟨b, off + k, none⟩ = some (.int .i64 (x : Int)) := hcell
      replace hbl : b < (wr.drewN nq).heap.size := hbl
      clear s0 N O
      generalize wr.drewN nq = W at *
      go_wp2_with (at_builtin; refine wpList_append_rd _ rfl (.tmp 52) (.tmp 57) _ rfl w2.heap.size 3 i0 _ 1 8 Try.underlying59 HI.out.1 HI.out.2.1 HI.out.2.2.1 HI.out.2.2.2 rfl (by omega) _ k _ rfl (O'.out.alloc _) (some ⟨W.heap.size, 0, none⟩) 1 1 [.int .i64 (x : Int)] rfl (rd_one (t := 3) (blk_new _ _)) (int_one _ _) (by simp only [maxLen]; omega) (by omega) (by have q := N'.out.size; simp; omega) ?_; intro v1 w3 hown1 hg1 hat1; have O1 := Lib.hid hown1; have N3 : Hid (Below w2.heap.size w2 w3) := Lib.hid (gbel hg1 (Bal N'.out _) (fun g hg => (O'.out.lt g hg).1)); clear hown1 hg1 hat1)
      refine ⟨⟨k + 1, by omega, by go_num, Lib.hid (by rw [iv_take GO k HX.out]; exact O1.out), N3⟩, by simp [intOf]; omega⟩
     ·have hkg : k = GO.length := by omega
      subst hkg
      have O2 : Hid (wr.ownsRow w2.heap.size 3 1 u6 GO.length (iv GO)) := Lib.hid (by have := O.out; rw [List.take_length] at this; exact this)
      clear O
      by_cases hlt2 : GO.length < lostN m
      ·obtain ⟨x, hx⟩ := get_some (show GO.length < (lostL m m.length).length by rw [LN.out]; exact hlt2)
       have hx2 := GQ.out x hx
       obtain ⟨b, off, rfl, _, hbl, hcell⟩ := Hd.of_own (own_next N.out OL.out) GO.length _ (iv_get hx)
       have k2 : (GO.length : Int) < (lostN m : Int) := by omega
       have k3 : decide ((GO.length : Int) < (lostN m : Int)) = true := decide_eq_true k2
       clear hx
       go_wp2_with fail
       go_quiet (fail)
       go_wp2_with fail
       go_meet
       exact ⟨Lib.hid (own_next (below_drewN (Below.refl wr.heap.size wr) nq) O2.out), Lib.hid (below_drewN N.out nq)⟩
      ·have k3 : decide ((GO.length : Int) < (lostN m : Int)) = false := decide_eq_false (by omega)
       go_wp2_with fail
       go_quiet (fail)
       go_wp2_with fail
       go_meet
       exact ⟨Lib.hid (own_next (below_drewN (Below.refl wr.heap.size wr) nq) O2.out), Lib.hid (below_drewN N.out nq)⟩
   case rest =>
    obtain ⟨OG, NB⟩ := hcut
    obtain ⟨Ag, cg, rfl, hg1, hg2, _⟩ := own_form OG.out
    have N3 := Lib.hid (Bgo N2.out NB.out)
    have SB3 := Lib.hid (blk_next NB.out SB2.out)
    have X3 := Lib.hid (blk_next NB.out X2.out)
    have GM := Lib.hid (own_mono OG.out N2.out.size)
    clear N2 NB SB2 X2 OL GP GQ LC CC OG
    have gd : GO.length ≤ d := by
     rw [HGO.out]
     have := lostL_count (m := m) d (by have := HLEN.out; omega)
     unfold goneL
     rw [this]
     exact Nat.le_trans (lostN_le _) (by simp; omega)
    have CB : Hid (∀ j, j ≤ e → (choTo d m GO.length j).length ≤ GO.length ∧ (choTo d m GO.length j).length ≤ j) := Lib.hid (fun j _ => ⟨(choTo_le d m GO.length j).1, (choTo_le d m GO.length j).2.1⟩)
    have CE : Hid ((choTo d m GO.length e).length = GO.length) := Lib.hid (by rw [HGO.out]; exact GE.out)
    go_wp2_with fail
    go_loopw [7, 9] (fun v i wr => ∃ j : Nat, j ≤ e ∧ i = .int .i64 j ∧ Hid (wr.ownsRow wc.heap.size 3 1 v (choTo d m GO.length j).length (iv (choTo d m GO.length j))) ∧ Hid (Below wc.heap.size wc wr)) (fun _ i _ => e - (intOf i).toNat)
    case atStart => exact ⟨0, by omega, rfl, Lib.hid (World.ownsRow_nil _ _ _ _), Lib.hid (Below.refl _ _)⟩
    case round =>
     obtain ⟨j, hj, rfl, O, N⟩ := hrel
     obtain ⟨cb1, cb2⟩ := CB.out j hj
     obtain ⟨Ac, cc, rfl, hc1, hc2, _⟩ := own_form O.out
     have s0 := blk_cell (blk_next N.out SB3.out) 0 _ rfl
     have s2 := blk_cell (blk_next N.out SB3.out) 2 _ rfl
     by_cases hlt : (choTo d m GO.length j).length < GO.length
     ·have hje : j < e := by
       rcases Nat.lt_or_ge j e with h | h
       ·exact h
       ·have : j = e := by omega
        subst this; have := CE.out; omega
      obtain ⟨l, hl⟩ := get_some (show d + j < m.length by rw [HLEN.out]; omega)
      obtain ⟨b, off, Ai, ci, rfl, hb, h1, h2, h3, _⟩ := (HS.out.next (Bgo N3.out N.out)).at_ hl
      have j1 : (0 : Int) ≤ (d : Int) + (j : Int) := by omega
      have j2 : (d : Int) + (j : Int) < (m.length : Int) := by have := HLEN.out; omega
      have HL := Lib.hid hl
      clear hl
      generalize hT : (choTo d m GO.length j).length = T at *
      have HT := Lib.hid hT
      clear hT
      by_cases h0 : l.length = 0
      ·have q : ¬ 0 < l.length := by omega
       have C1 : Hid (choTo d m GO.length (j + 1) = choTo d m GO.length j) := Lib.hid (by rw [choTo, getD_of HL.out, if_neg (fun h => h.2 h0)])
       clear h0
       go_wp2_with fail
       refine ⟨⟨j + 1, by omega, by go_num, ?_, N⟩, by simp [intOf]; omega⟩
       rw [C1.out, HT.out]
       exact O
      ·have q : 0 < l.length := by omega
       have C1 : Hid (choTo d m GO.length (j + 1) = choTo d m GO.length j ++ [j]) := Lib.hid (by rw [choTo, getD_of HL.out, if_pos ⟨by rw [HT.out]; exact hlt, h0⟩])
       clear h0
       go_wp2_with (at_builtin; refine wpList_append_rd _ rfl (.tmp 76) (.tmp 78) _ rfl wc.heap.size 3 i0 _ 1 8 Try.underlying59 HI.out.1 HI.out.2.1 HI.out.2.2.1 HI.out.2.2.2 rfl (by omega) _ T _ rfl (O.out.alloc _) (some ⟨wr.heap.size, 0, none⟩) 1 1 [.int .i64 (j : Int)] rfl (rd_one (t := 3) (blk_new _ _)) (int_one _ _) (by simp only [maxLen]; omega) (by omega) (by have q := N.out.size; simp; omega) ?_; intro v1 w3 hown1 hg1 hat1; have O1 := Lib.hid hown1; have N4 : Hid (Below wc.heap.size wc w3) := Lib.hid (gbel hg1 (Bal N.out _) (fun g hg => (O.out.lt g hg).1)); clear hown1 hg1 hat1)
       refine ⟨⟨j + 1, by omega, by go_num, ?_, N4⟩, by simp [intOf]; omega⟩
       rw [C1.out, List.length_append, HT.out, iv_append]
       exact O1
     ·have hfull : (choTo d m GO.length j).length = GO.length := by omega
      have CF : Hid (choTo d m GO.length e = choTo d m GO.length j) := Lib.hid (by have := choTo_full hfull (e - j); rw [show j + (e - j) = e by omega] at this; exact this)
      rw [← CF.out] at O
      obtain ⟨CH, hCH⟩ : ∃ CH, CH = choTo d m GO.length e := ⟨_, rfl⟩
      rw [hfull]
      rw [← hCH, show CH.length = GO.length by rw [hCH]; exact CE.out] at O
      have HCH := Lib.hid hCH
      clear hCH hfull hlt cb1 cb2 CB
      have q : ¬ GO.length < GO.length := by omega
      have s1 := blk_cell (blk_next N.out SB3.out) 1 _ rfl
      have N4 := Lib.hid (Bgo N3.out N.out)
      have SB4 := Lib.hid (blk_next N.out SB3.out)
      have X4 := Lib.hid (blk_next N.out X3.out)
      have G4 := Lib.hid (own_next N.out GM.out)
      have C4 := Lib.hid (own_mono O.out (show w.heap.size ≤ wc.heap.size from N3.out.size))
      clear N3 SB3 X3 GM O N CF
      go_wp2_with fail
      clear s0 s1 s2
      refine (refLength_calls d e A c B m _ hn hc (HS.out.next N4.out)).mono ?_
      rintro ex w4 ⟨rfl, hb⟩
      replace N4 := Lib.hid (Bgo N4.out hb)
      replace SB4 := Lib.hid (blk_next hb SB4.out)
      replace X4 := Lib.hid (blk_next hb X4.out)
      replace G4 := Lib.hid (own_next hb G4.out)
      replace C4 := Lib.hid (own_next hb C4.out)
      clear hb
      have s0 := blk_cell SB4.out 0 _ rfl
      have s1 := blk_cell SB4.out 1 _ rfl
      have s2 := blk_cell SB4.out 2 _ rfl
      have sl := blk_lt X4.out
      go_wp2_with fail
      clear s0 s1 s2 sl
      refine (refTwin_calls d e A c B m _ hn hc (by omega) (HS.out.next N4.out) (fun l hl => by rcases OK.out.each l hl with h | h <;> omega)).mono ?_
      rintro ex w5 ⟨vw, rfl, ⟨uw, ow⟩, hb⟩
      obtain ⟨Aw, cw, rfl, hw1, hw2, _⟩ := own_form ow.top
      have HB : Hid (Below w4.heap.size w4 (w5.alloc (.cells #[.int .i64 d, .int .i64 e, .slice Aw m.length cw] 54))) := Lib.hid (Bal hb _)
      have VW : Hid ((w5.alloc (.cells #[.int .i64 d, .int .i64 e, .slice Aw m.length cw] 54)).heap[w5.heap.size]? = some (.cells #[.int .i64 d, .int .i64 e, .slice Aw m.length cw] 54)) := Lib.hid (blk_new w5 _)
      have XW : Hid (OMx w4.heap.size (w5.alloc (.cells #[.int .i64 d, .int .i64 e, .slice Aw m.length cw] 54)) (.slice Aw m.length cw) uw m) := Lib.hid (ow.next (Bal (Below.refl _ _) _))
      clear ow hb
      go_wp2_with fail
      generalize w5.alloc (.cells #[.int .i64 d, .int .i64 e, .slice Aw m.length cw] 54) = W5 at *
      generalize w5.heap.size = gw at *
      have m0 : 0 < m.length := by have := HLEN.out; omega
      obtain ⟨gh, cp, ev, hghB, hghl⟩ := XW.out.top.form m0
      simp only [Value.slice.injEq, true_and] at ev
      obtain ⟨ev, rfl⟩ := ev
      subst ev
      have mk := fun W => make_row W (szL m) (by omega)
      have zl : Hid (∀ k x : Nat, GO[k]? = some x → x < d) := Lib.hid (fun k x hx => by rw [HGO.out] at hx; exact (lostL_rank d hx).1)
      go_loopw [12] (fun i wr => ∃ (k : Nat) (us : List Value), k ≤ GO.length ∧ i = .int .i64 k ∧ Hid (Below w4.heap.size w4 wr) ∧ Hid (wr.heap[gw]? = some (.cells #[.int .i64 d, .int .i64 e, .slice (some ⟨gh, 0, none⟩) m.length cw] 54)) ∧ Hid (OMx w4.heap.size wr (.slice (some ⟨gh, 0, none⟩) m.length cw) us (zK d m (szL m) k))) (fun i _ => GO.length - (intOf i).toNat)
      case atStart => exact ⟨0, uw, by omega, rfl, HB, VW, by rw [zK_zero]; exact XW⟩
      case round =>
       clear HB VW XW
       obtain ⟨k, us, hk, rfl, N, V, X⟩ := hrel
       have v2 := blk_cell V.out 2 _ rfl
       have vl := blk_lt V.out
       by_cases hlt : k < GO.length
       ·obtain ⟨x, hx⟩ := get_some hlt
        have hxd := zl.out k x hx
        obtain ⟨b, off, rfl, _, hbl, hcell⟩ := Hd.of_own (own_next N.out G4.out) k _ (iv_get hx)
        have hxm : x < m.length := by have := HLEN.out; omega
        have top : wr.ownsRow w4.heap.size 26 1 (.slice (some ⟨gh, 0, none⟩) m.length cw) m.length us := by have := X.out.top; rw [zK_len] at this; exact this
        obtain ⟨u, hu⟩ := get_some (show x < us.length by rw [X.out.len, zK_len]; exact hxm)
        have h1 : wr.cell? ⟨gh, x, none⟩ = some u := by rw [top.cellAt x (by omega)]; exact hu
        have h2 : wr.frozen? ⟨gh, x, none⟩ = false := top.frozenAt x
        have h3 : gh < wr.heap.size := (top.lt gh rfl).2
        have NG : Hid (gh ≠ gw) := Lib.hid (fun e => own_ne top V.out ne_sl_st (by rw [e]; rfl))
        have HX := Lib.hid hx
        have k1 : (0 : Int) ≤ (k : Int) := by omega
        have k2 : (k : Int) < (GO.length : Int) := by omega
        have k3 : (0 : Int) ≤ (x : Int) := by omega
        have k4 : (x : Int) < (m.length : Int) := by omega
        clear hx hu top
        go_wp2_with fail
        have FR := Lib.hid (OMx.fresh (k := x) (n := szL m) (cs := madeCells #[.int .u8 0] (szL m)) (show OMx w4.heap.size wr (.slice (some ⟨gh, 0, none⟩) (zK d m (szL m) k).length cw) us (zK d m (szL m) k) by rw [zK_len]; exact X.out) N.out.size (List.replicate (szL m) 0) (by rw [toList_madeCells_one]; simp [bv]) (by simp) (rep_byt _) (by omega) (by rw [zK_len]; exact hxm))
        go_region
        go_wp2_with fail
        refine ⟨⟨k + 1, us.set x (.slice (some ⟨wr.heap.size, 0, none⟩) (szL m) (szL m)), by omega, by go_num, Lib.hid (N.out.trans FR.out.2).drew, Lib.hid (blk_drew (blk_alloc (blk_set_other V.out NG.out x _) _)), Lib.hid ?_⟩, by simp [intOf]; omega⟩
        have FX := FR.out.1.next (Below.refl _ _).drew
        rw [zK_len] at FX
        refine FX.ext ?_
        rw [zK_succ (by have := HLEN.out; omega) (by rw [← HGO.out]; exact HX.out)]
       ·have hkg : k = GO.length := by omega
        subst hkg
        obtain ⟨SOL, hSOL⟩ : ∃ S, S = solR d e m := ⟨_, rfl⟩
        have SR : Hid (∀ k, k < szL m → (∀ l ∈ CH.map (rowJ d m k), l.length = GO.length + 1) ∧ (∀ l ∈ CH.map (rowJ d m k), Byt l) ∧ (∀ p, p < GO.length → ((gjTo (CH.map (rowJ d m k)) [] p).1.getD p []).getD p 0 ≠ 0) ∧ lastC (gjTo (CH.map (rowJ d m k)) [] GO.length).1 GO.length GO.length = (List.range GO.length).map fun i => (SOL.getD i []).getD k 0) := Lib.hid (fun k hk => by
         have := ref_sol OK.out HBY.out (show lostN m ≤ e by omega) hk
         rw [HCH.out, hSOL, HGO.out]; exact this)
        have HSOL := Lib.hid hSOL
        have SBT : Hid (∀ l ∈ SOL, Byt l) := Lib.hid (by rw [hSOL]; exact solR_byt OK.out HBY.out)
        have CL : Hid (CH.length = GO.length) := Lib.hid (by rw [HCH.out]; exact CE.out)
        have CJ : Hid (∀ r j : Nat, CH[r]? = some j → j < e ∧ (m.getD (d + j) []).length ≠ 0) := Lib.hid (fun r j hj => by
         have := (choTo_le d m GO.length e).2.2 j (by rw [← HCH.out]; exact List.mem_of_getElem? hj)
         exact this)
        have X6 : Hid (OMx w4.heap.size wr (.slice (some ⟨gh, 0, none⟩) m.length cw) us (wK d m (szL m) SOL 0 0)) := Lib.hid (X.out.ext (by rw [HGO.out, HSOL.out]; exact zK_all))
        have WX : Hid ((wK d m (szL m) SOL (szL m) 0).take d = dataL d e m) := Lib.hid (by rw [HSOL.out]; exact wK_end OK.out (by omega))
        have ZE : Hid (∀ l ∈ m, l.length = 0 ∨ l.length = szL m) := Lib.hid OK.out.each
        obtain ⟨n, hn'⟩ : ∃ n, n = szL m := ⟨_, rfl⟩
        rw [← hn'] at hs64 SR X6 WX ZE
        have HNN := Lib.hid hn'
        rw [← hn']
        clear X hSOL hn' mk v2 vl CE zl
        obtain ⟨w6, rfl⟩ : ∃ w6 : World, w6 = wr := ⟨_, rfl⟩
        go_upto_block 6 with fail
        go_cut [] from 99 to 194 (fun wx => Hid (Below w4.heap.size w4 wx) ∧ Hid (wx.heap[gw]? = some (.cells #[.int .i64 d, .int .i64 e, .slice (some ⟨gh, 0, none⟩) m.length cw] 54)) ∧ Hid (OMx w4.heap.size wx (.slice (some ⟨gh, 0, none⟩) m.length cw) us (wK d m n SOL n 0)))
        case first =>
         go_wp2_with fail
         go_loopw [13] (fun i wr => ∃ k : Nat, k ≤ n ∧ i = .int .i64 k ∧ Hid (Below w4.heap.size w4 wr) ∧ Hid (wr.heap[gw]? = some (.cells #[.int .i64 d, .int .i64 e, .slice (some ⟨gh, 0, none⟩) m.length cw] 54)) ∧ Hid (OMx w4.heap.size wr (.slice (some ⟨gh, 0, none⟩) m.length cw) us (wK d m n SOL k 0))) (fun i _ => n - (intOf i).toNat)
         case atStart => exact ⟨0, by omega, rfl, N, V, X6⟩
         case round =>
          clear N V X6
          obtain ⟨k, hk, rfl, N, V, X⟩ := hrel
          by_cases hlt : k < n
          ·obtain ⟨wo, rfl⟩ : ∃ wo : World, wo = wr := ⟨_, rfl⟩
           have SRK := Lib.hid (SR.out k hlt)
           have k1 : (0 : Int) ≤ (k : Int) := by omega
           have k2 : (k : Int) < (n : Int) := by omega
           go_wp2_with fail
           go_loopw [14, 15] (fun v i wr => ∃ (r : Nat) (vs : List Value), r ≤ GO.length ∧ i = .int .i64 r ∧ Hid (OMx wo.heap.size wr v vs ((CH.take r).map (rowJ d m k))) ∧ Hid (Below wo.heap.size wo wr)) (fun _ i _ => GO.length - (intOf i).toNat)
           case atStart => exact ⟨0, [], by omega, rfl, Lib.hid (by rw [List.take_zero]; exact OMx.nil _ _), Lib.hid (Below.refl _ _)⟩
           case round =>
            obtain ⟨r, vs, hr, rfl, O, NB⟩ := hrel
            by_cases hlt2 : r < GO.length
            ·obtain ⟨j, hj⟩ := get_some (show r < CH.length by rw [CL.out]; exact hlt2)
             obtain ⟨hje, hj0⟩ := CJ.out r j hj
             obtain ⟨l, hl⟩ := get_some (show d + j < m.length by rw [HLEN.out]; omega)
             have hln : l.length = n := by
              rw [getD_of hl] at hj0
              rcases ZE.out l (List.mem_of_getElem? hl) with h | h
              ·exact absurd h hj0
              ·exact h
             obtain ⟨y, hy⟩ := get_some (show k < l.length by omega)
             obtain ⟨wp, rfl⟩ : ∃ wp : World, wp = wr := ⟨_, rfl⟩
             have NW := Lib.hid (Bgo N.out NB.out)
             obtain ⟨bc, oc, rfl, _, hbl, hcell⟩ := Hd.of_own (own_next NW.out C4.out) r _ (iv_get hj)
             have s0 := blk_cell (blk_next NW.out SB4.out) 0 _ rfl
             have r1 : (0 : Int) ≤ (r : Int) := by omega
             have r2 : (r : Int) < (GO.length : Int) := by omega
             have HJ := Lib.hid hj
             have HL := Lib.hid hl
             have HY := Lib.hid hy
             have HLN := Lib.hid hln
             have E0 : Hid (synB d m j 0 k = y) := Lib.hid (by unfold synB; rw [synTo, getD_of hl, List.getD_eq_getElem?_getD, hy]; rfl)
             have KM : Hid (k < (m.getD (d + j) []).length) := Lib.hid (by rw [getD_of hl, hln]; exact hlt)
             have SBY : Hid (∀ t, t ≤ d → synB d m j t k < 256) := Lib.hid (fun t ht => Byt.getD_ (synTo_byt HBY.out hd8 (by omega) (by rw [HLEN.out]; omega) t ht) k)
             have TL : Hid (((CH.take r).map (rowJ d m k)).length = r) := Lib.hid (by rw [List.length_map, List.length_take, CL.out]; omega)
             clear hj hj0 hl hy hln
             go_wp2_with fail
             refine wp_region_still_tail 6 (by kernel_rfl) (by kernel_rfl) ?_
             simp only [List.take_succ_cons, List.take_zero, List.drop_succ_cons, List.drop_zero]
             repeat still_step
             refine wpStill_nil ?_
             go_wp2_with fail
             refine (refFactors_calls d j _ (by omega) (by omega)).mono ?_
             rintro ex w7 ⟨vf, rfl, of, hb7⟩
             obtain ⟨Af, cf, rfl, hf1, hf2, _⟩ := own_form of
             rw [facs_len] at hf1
             have N7 : Hid (Below wp.heap.size wp w7) := Lib.hid (by first | exact hb7 | exact (Below.refl _ _).drew.trans hb7)
             have FR : Hid (RBA 0 w7 Af (facs d j)) := Lib.hid ⟨facs_byt (by omega) (Nat.le_refl _), (Hd.of_own of).mono (Nat.zero_le _)⟩
             rw [facs_len]
             have s0' := blk_cell (blk_next (Bgo NW.out N7.out) SB4.out) 0 _ rfl
             have s2' := blk_cell (blk_next (Bgo NW.out N7.out) SB4.out) 2 _ rfl
             have hcell' : w7.cell? ⟨bc, oc + r, none⟩ = some (.int .i64 (j : Int)) := (N7.out.cell hbl).trans hcell
             have hbl' : bc < w7.heap.size := Nat.lt_of_lt_of_le hbl N7.out.size
             obtain ⟨bb, ob, Ai, ci, rfl, hb', h1, h2, h3, h4⟩ := (HS.out.next (Bgo N4.out (Bgo NW.out N7.out))).at_ HL.out
             obtain ⟨bi, oi, rfl, hbi, hci, hy2⟩ := h4.at_ HY.out
             rw [HLN.out] at h1 h2
             have j1 : (0 : Int) ≤ (d : Int) + (j : Int) := by omega
             have j2 : (d : Int) + (j : Int) < (m.length : Int) := by have := HLEN.out; omega
             have j4 : ((d : Int) + (j : Int)).toNat = d + j := by omega
             have j3 : IntKind.i64.wrap ((d : Int) + (j : Int)) = (d : Int) + (j : Int) := IntWalk.i64_in _ (by omega)
             clear of hb7 s0 hcell h4 hbl
             go_wp2_with fail
             go_quiet (fail)
             clear j3 j4
             have N8 : Hid (Below wp.heap.size wp (w7.drewN nq)) := Lib.hid (below_drewN N7.out nq)
             have FR8 : Hid (RBA 0 (w7.drewN nq) Af (facs d j)) := Lib.hid (FR.out.next (below_drewN (Below.refl _ _) nq))
             clear N7 FR s0' s2' hcell' hb' h1 h2 h3 hbi hci hbl'
             generalize w7.drewN nq = w8 at *
             go_wp2_with fail
             go_loopw [17, 18, 19] (fun x v i W => ∃ (t : Nat), t ≤ d ∧ i = .int .i64 t ∧ x = .int .u8 ((synB d m j t k : Nat) : Int) ∧ Hid (W.ownsRow w8.heap.size 5 1 v (lostL m t).length (bv ((lostL m t).map (fac d j)))) ∧ Hid (Below w8.heap.size w8 W)) (fun _ _ i _ => d - (intOf i).toNat)
             case atStart => exact ⟨0, by omega, rfl, by rw [E0.out], Lib.hid (World.ownsRow_nil _ _ _ _), Lib.hid (Below.refl _ _)⟩
             case round =>
              clear E0
              obtain ⟨t, ht, rfl, rfl, OR, NR⟩ := hrel
              have NT := Lib.hid (Bgo NW.out (Bgo N8.out NR.out))
              have s0 := blk_cell (blk_next NT.out SB4.out) 0 _ rfl
              have hxb := SBY.out t ht
              have lle : (lostL m t).length ≤ t := by unfold lostL; exact Nat.le_trans (List.length_filter_le _ _) (by simp)
              by_cases hlt3 : t < d
              ·obtain ⟨lt, hlm⟩ := get_some (show t < m.length by have := HLEN.out; omega)
               have s2 := blk_cell (blk_next NT.out SB4.out) 2 _ rfl
               obtain ⟨b'', off'', Ai, ci', e'', hb', h1, h2, h3, h4⟩ := (HS.out.next (Bgo N4.out NT.out)).at_ hlm
               injection e'' with e''
               injection e'' with e1 e2
               subst e1 e2
               obtain ⟨bf, of, rfl, hbf, hcf, hff⟩ := (FR8.out.next NR.out).at_ (facs_at hlt3)
               have t1 : (0 : Int) ≤ (t : Int) := by omega
               have t2 : (t : Int) < (d : Int) := by omega
               have t3 : (t : Int) < (m.length : Int) := by have := HLEN.out; omega
               have HLM := Lib.hid hlm
               clear hlm
               by_cases h0 : lt.length = 0
               ·have q : ((lt.length : Int) == 0) = true := by rw [h0]; rfl
                have H0 := Lib.hid h0
                clear h0 h4
                go_wp2_with (at_builtin; refine wpList_append_rd _ rfl (.tmp 144) (.tmp 149) _ rfl w8.heap.size 5 i1 _ 1 1 Try.underlying26 HJ1.out.1 HJ1.out.2.1 HJ1.out.2.2.1 HJ1.out.2.2.2 rfl (by omega) _ (lostL m t).length _ rfl (OR.out.alloc _) (some ⟨wr.heap.size, 0, none⟩) 1 1 [.int .u8 ((fac d j t : Nat) : Int)] rfl (rd_one (t := 5) (blk_new _ _)) (int_one _ _) (by simp only [maxLen]; omega) (by omega) (by have q := NR.out.size; simp; omega) ?_; intro v1 w9 hown1 hg1 hat1; have O1 := Lib.hid hown1; have N9 : Hid (Below w8.heap.size w8 w9) := Lib.hid (gbel hg1 (Bal NR.out _) (fun g hg => (OR.out.lt g hg).1)); clear hown1 hg1 hat1)
                refine ⟨⟨t + 1, by omega, by go_num, ?_, Lib.hid ?_, N9⟩, by simp [intOf]; omega⟩
                ·unfold synB; rw [right_lost KM.out (by rw [getD_of HLM.out]; exact H0.out)]
                ·rw [lostL_more, getD_of HLM.out, if_pos H0.out, List.length_append, List.map_append, bv_append]
                 exact O1.out
               ·have q : ((lt.length : Int) == 0) = false := by rw [beq_eq_false_iff_ne]; omega
                have hltn : lt.length = n := by
                 rcases ZE.out lt (List.mem_of_getElem? HLM.out) with h | h
                 ·exact absurd h h0
                 ·exact h
                obtain ⟨z, hz⟩ := get_some (show k < lt.length by omega)
                obtain ⟨bz, oz, rfl, hbz, hcz, hz2⟩ := h4.at_ hz
                rw [hltn] at h1 h2 q
                have H0 := Lib.hid h0
                have HZ := Lib.hid hz
                have XR : Hid (bits BinOp.xor IntKind.u8 ((synB d m j t k : Nat) : Int) ((gm (fac d j t) z : Nat) : Int) = ((synB d m j t k ^^^ gm (fac d j t) z : Nat) : Int)) := Lib.hid (u8_xor_nat _ _ hxb (gm_lt hff))
                clear h0 h4 hz hltn
                go_wp2_with fail
                go_quiet ((go_at_call 72; exact Calls.quiet_of_same (refMul_still (fac d j t) z hff hz2 _)))
                go_wp2_with fail
                rw [XR.out]
                refine ⟨⟨t + 1, by omega, by go_num, ?_, Lib.hid ?_, Lib.hid (below_drewN NR.out nq)⟩, by simp [intOf]; omega⟩
                ·unfold synB; rw [right_here KM.out HLM.out HZ.out]
                ·rw [lostL_more, getD_of HLM.out, if_neg H0.out, List.append_nil]
                 exact own_next (below_drewN (Below.refl _ _) nq) OR.out
              ·obtain rfl : d = t := by omega
               have TOP : Hid (wp.ownsRow wo.heap.size 26 1 u14 r vs) := Lib.hid (by have := O.out.top; rw [TL.out] at this; exact this)
               go_wp2_with (first
                | (at_builtin; refine wpList_append_rd _ rfl (.tmp 167) (.tmp 169) _ rfl w8.heap.size 5 i1 _ 1 1 Try.underlying26 HJ1.out.1 HJ1.out.2.1 HJ1.out.2.2.1 HJ1.out.2.2.2 rfl (by omega) _ (lostL m d).length _ rfl (OR.out.alloc _) (some ⟨wr.heap.size, 0, none⟩) 1 1 [.int .u8 ((synB d m j d k : Nat) : Int)] rfl (rd_one (t := 5) (blk_new _ _)) (int_one _ _) (by simp only [maxLen]; omega) (by omega) (by have q := NR.out.size; simp; omega) ?_; intro v1 w9 hown1 hg1 hat1; obtain ⟨A1, c1, rfl, h11, h12, _⟩ := own_form hown1; have O1 := Lib.hid hown1; have N9 : Hid (Below w8.heap.size w8 w9) := Lib.hid (gbel hg1 (Bal NR.out _) (fun g hg => (OR.out.lt g hg).1)); have NX := Lib.hid (Bgo N8.out N9.out); clear hown1 hg1 hat1)
                | (at_builtin; refine wpList_append_rd _ rfl (.tmp 166) (.tmp 171) _ rfl wo.heap.size 26 i2 _ 1 24 Try.underlying44 HK1.out.1 HK1.out.2.1 HK1.out.2.2.1 HK1.out.2.2.2 rfl (by omega) _ r _ rfl ((own_next NX.out TOP.out).alloc _) (some ⟨w9.heap.size, 0, none⟩) 1 1 [.slice A1 ((lostL m d).length + 1) c1] rfl (rd_one (t := 26) (blk_new _ _)) (slice_one _ _ _) (by simp only [maxLen]; omega) (by omega) (by have q1 := NB.out.size; have q2 := NX.out.size; simp; omega) ?_; intro v2 w10 hown2 hg2 hat2; have O2 := Lib.hid hown2; have G2 := Lib.hid hg2; clear hown2 hg2 hat2))
               refine ⟨⟨r + 1, vs ++ [.slice A1 ((lostL m d).length + 1) c1], by omega, by go_num, Lib.hid ?_, Lib.hid ?_⟩, by simp [intOf]; omega⟩
               ·rw [take_snoc' HJ.out, List.map_append]
                refine OMx.push O.out (Bal NX.out _) (l := rowJ d m k j) ?_ (SRK.out.2.1 _ (List.mem_map.2 ⟨j, List.mem_of_getElem? HJ.out, rfl⟩)) NB.out.size (by rw [TL.out]; exact O2.out) G2.out
                unfold OB rowJ goneL syn
                have O1' := O1.out
                unfold synB at O1'
                rw [List.length_append, List.length_map, bv_append]
                exact own_mono (World.ownsRow.alloc O1' _) N8.out.size
               ·exact gbel G2.out (Bal (Bgo NB.out NX.out) _) (fun g hg => (TOP.out.lt g hg).1)
            ·obtain rfl : r = GO.length := by omega
             have OA : Hid (OMx wo.heap.size wr u14 vs (CH.map (rowJ d m k))) := Lib.hid (by have := O.out; rw [← CL.out, List.take_length] at this; exact this)
             have AL : (CH.map (rowJ d m k)).length = GO.length := by rw [List.length_map, CL.out]
             obtain ⟨Aq, cq, hq, _, _, _⟩ := own_form OA.out.top
             rw [AL] at hq
             subst hq
             have SV := Lib.hid (refSolve_calls Aq cq wo.heap.size GO.length vs (CH.map (rowJ d m k)) wr AL (by omega) SRK.out.1 (by have := OA.out.top; rw [AL] at this; exact this) OA.out.fam NB.out.size SRK.out.2.2.1)
             rw [SRK.out.2.2.2] at SV
             obtain ⟨LX, hLX⟩ : ∃ LX, LX = (List.range GO.length).map fun i => (SOL.getD i []).getD k 0 := ⟨_, rfl⟩
             rw [← hLX] at SV
             have LXL : LX.length = GO.length := by rw [hLX]; simp
             have LXA : Hid (∀ t, t < GO.length → LX[t]? = some ((SOL.getD t []).getD k 0)) := Lib.hid (fun t ht => by rw [hLX]; simp [ht])
             have HXL := Lib.hid LXL
             clear hLX AL LXL
             go_wp2_with fail
             refine SV.out.mono ?_
             rintro ex w11 ⟨vx, rfl, ox, hb11⟩
             unfold OB at ox
             rw [HXL.out] at ox
             obtain ⟨Ax, cx, rfl, hx1, hx2, _⟩ := own_form ox
             have N11 : Hid (Below wo.heap.size wo w11) := Lib.hid (NB.out.trans hb11)
             have OX : Hid (w11.ownsRow wo.heap.size 5 1 (.slice Ax GO.length cx) GO.length (bv LX)) := Lib.hid (own_mono ox NB.out.size)
             clear ox hb11 SV OA O NB SRK
             go_wp2_with fail
             go_loopw [21] (fun i W => ∃ t : Nat, t ≤ GO.length ∧ i = .int .i64 t ∧ Hid (Below w4.heap.size w4 W) ∧ Hid (W.heap[gw]? = some (.cells #[.int .i64 d, .int .i64 e, .slice (some ⟨gh, 0, none⟩) m.length cw] 54)) ∧ Hid (OMx w4.heap.size W (.slice (some ⟨gh, 0, none⟩) m.length cw) us (wK d m n SOL k t)) ∧ Hid (∀ b : Nat, wo.heap.size ≤ b → W.heap[b]? = w11.heap[b]?)) (fun i _ => GO.length - (intOf i).toNat)
             case atStart => exact ⟨0, by omega, rfl, Lib.hid (Bgo N.out N11.out), Lib.hid (blk_next N11.out V.out), Lib.hid (X.out.next N11.out), Lib.hid (fun _ _ => rfl)⟩
             case round =>
              obtain ⟨t, ht, rfl, NS, VS, XS, FS⟩ := hrel
              have hdm : d ≤ m.length := by have := HLEN.out; omega
              by_cases hlt3 : t < GO.length
              ·obtain ⟨x, hx⟩ := get_some hlt3
               have hgx : (goneL d m)[t]? = some x := by rw [← HGO.out]; exact hx
               have hxm : x < m.length := by have := (lostL_rank d hgx).1; omega
               have hat := wK_at (n := n) (k := k) (sol := SOL) hdm hgx
               obtain ⟨g, cap, ux, hg1, hg2, hcap, hcap2, hox, hbx⟩ := XS.out.fam.form hat (by rw [mixZ_len]; omega)
               have hgo : g < wo.heap.size := by
                obtain ⟨l0, hl0⟩ := get_some (show x < (wK d m n SOL k 0).length by rw [wK_len]; exact hxm)
                exact ((X.out.row x _ l0 ux hl0).lt g rfl).2
               have hb256 : (SOL.getD t []).getD k 0 < 256 := Byt.getD_ (rows_getD SBT.out Byt.nil _) k
               have WN : Hid (wK d m n SOL k (t + 1) = (wK d m n SOL k t).set x ((mixZ (SOL.getD t []) n k).set k ((SOL.getD t []).getD k 0))) := Lib.hid (wK_succ hdm hlt hgx)
               have PT := Lib.hid (XS.out.put (k := x) (a := k) hat ux hb256 NS.out.size)
               rw [mixZ_len] at ux hcap
               have top : wr.ownsRow w4.heap.size 26 1 (.slice (some ⟨gh, 0, none⟩) m.length cw) m.length us := by have := XS.out.top; rw [wK_len] at this; exact this
               obtain ⟨c1, c2⟩ := fam_at top XS.out.fam hat ux (mixZ_len _ _ _)
               obtain ⟨y0, hy0⟩ := get_some (show k < (mixZ (SOL.getD t []) n k).length by rw [mixZ_len]; exact hlt)
               obtain ⟨c3, c4, _⟩ := c2 k y0 hy0
               have hghl' : gh < wr.heap.size := (top.lt gh rfl).2
               obtain ⟨bx, ox', rfl, hbx1, hbx2, hcx⟩ := Hd.of_own (own_same OX.out (fun b cs hb _ => FS.out b hb)) t _ (bv_get (LXA.out t hlt3))
               obtain ⟨bo, oo, rfl, _, hbl, hcell⟩ := Hd.of_own (own_next NS.out G4.out) t _ (iv_get hx)
               have v2 := blk_cell VS.out 2 _ rfl
               have vl := blk_lt VS.out
               have t1 : (0 : Int) ≤ (t : Int) := by omega
               have t2 : (t : Int) < (GO.length : Int) := by omega
               have t3 : (0 : Int) ≤ (x : Int) := by omega
               have t4 : (x : Int) < (m.length : Int) := by omega
               generalize (SOL.getD t []).getD k 0 = y1 at *
               clear hat hgx hx ux c2 hy0 hox hbx top
               go_wp2_with fail
               refine wp_region_still_tail 14 (by kernel_rfl) (by kernel_rfl) ?_
               simp only [List.take_succ_cons, List.take_zero, List.drop_succ_cons, List.drop_zero]
               repeat still_step
               refine wpStill_nil ?_
               go_wp2_with fail
               refine ⟨⟨t + 1, by omega, by go_num, Lib.hid (NS.out.trans PT.out.2.bel).drew, Lib.hid (PT.out.2.oth _ _ _ _ VS.out ne_st_u8), Lib.hid ((PT.out.1.next (Below.refl _ _).drew).ext WN.out.symm), Lib.hid (fun b hb => ?_)⟩, by simp [intOf]; omega⟩
               exact (Below.heap_setCell _ _ _ _ (by show b ≠ g; omega)).trans (FS.out b hb)
              ·obtain rfl : t = GO.length := by omega
               have XN : Hid (OMx w4.heap.size wr (.slice (some ⟨gh, 0, none⟩) m.length cw) us (wK d m n SOL (k + 1) 0)) := Lib.hid (XS.out.ext (by rw [HGO.out]; exact wK_next hdm))
               clear XS
               go_wp2_with fail
               go_roundw
               case rel => exact ⟨k + 1, by omega, by go_num, NS, VS, XN⟩
               case measure => simp [intOf]; omega
          ·obtain rfl : n = k := by omega
           go_wp2_with fail
           go_meet
           exact ⟨N, V, X⟩
        case rest =>
         obtain ⟨N9, V9, X9⟩ := hcut
         have NC := Lib.hid (Bgo N4.out N9.out)
         have SB9 := Lib.hid (blk_next N9.out SB4.out)
         have ZX9 := Lib.hid (blk_next N9.out X4.out)
         obtain ⟨dl, hdl⟩ : ∃ dl, dl = dataL d e m := ⟨_, rfl⟩
         have DLN : Hid (dl.length = d) := Lib.hid (by rw [hdl]; exact dataL_len d e m)
         have RW : Hid (RMA 0 wc (some ⟨gh, 0, none⟩) dl) := Lib.hid (by
          have := (X9.out.rma.mono (B' := 0) (Nat.zero_le _)).take_ d
          rw [WX.out, ← hdl] at this
          exact this)
         have DR : Hid (∀ l ∈ dl, l.length = n) := Lib.hid (by rw [hdl, HNN.out]; exact dataL_rows OK.out (by omega))
         have MC := Lib.hid (fun W (h : RMA 0 W (some ⟨gh, 0, none⟩) dl) => refMade_calls (some ⟨gh, 0, none⟩) cw 0 dl e n W (by rw [DLN.out]; have := HLEN.out; omega) hw2 h (by rw [DLN.out]; exact hd1) (by rw [DLN.out]; exact hd8) he4 hs64 DR.out)
         unfold EncPost at MC
         simp only [DLN.out] at MC
         have FF : Hid (rstE d e m = if fitB m (enc dl e) then 0 else 30) := Lib.hid (by unfold rstE; rw [if_neg hlo, hdl])
         rw [← hdl] at RS
         have HW1 := Lib.hid (show m.length ≤ cw from hw1)
         clear hdl WX SR SBT HSOL HNN ZE CJ CL C4 G4 HCH HGO X6 N V
         go_upto_region 45 with fail
         go_cut [22] (fun s22 wx => ∃ (rb : Nat) (v : Value), s22 = .pointer (some ⟨rb, 0, none⟩) ∧ w.heap.size + 1 < rb ∧ Hid (Below w.heap.size w wx) ∧ Hid (wx.heap[w.heap.size]? = some (.cells #[.int .i64 d, .int .i64 e, .slice A m.length c] 54)) ∧ Hid (wx.heap[w.heap.size + 1]? = some (.cells #[.int .i64 0, .int .i64 0, .slice none 0 0] 54)) ∧ Hid (wx.heap[rb]? = some (.cells #[.int .i64 d, .int .i64 e, v] 54)) ∧ Hid (OM w.heap.size wx v (enc dl e)))
         case first =>
          have KEEP : Hid (∀ X : World, Below wc.heap.size wc X → X.cell? ⟨gw, 2, none⟩ = some (.slice (some ⟨gh, 0, none⟩) m.length cw) ∧ X.cell? ⟨w.heap.size, 0, none⟩ = some (.int .i64 d) ∧ X.cell? ⟨w.heap.size, 1, none⟩ = some (.int .i64 e)) := Lib.hid (fun X hX => ⟨blk_cell (blk_next hX V9.out) 2 _ rfl, blk_cell (blk_next hX SB9.out) 0 _ rfl, blk_cell (blk_next hX SB9.out) 1 _ rfl⟩)
          obtain ⟨k1, k2, k3⟩ := KEEP.out wc (Below.refl _ _)
          have hz1 : w.heap.size + 1 < wc.heap.size := blk_lt ZX9.out
          have HZ1 := Lib.hid hz1
          have d1 : (0 : Int) ≤ (d : Int) := by omega
          have d2 : (d : Int) ≤ (cw : Int) := by have := HW1.out; have := HLEN.out; omega
          go_region_held3 (fun X => X.cell? ⟨gw, 2, none⟩ = some (.slice (some ⟨gh, 0, none⟩) m.length cw) ∧ X.cell? ⟨w.heap.size, 0, none⟩ = some (.int .i64 d) ∧ X.cell? ⟨w.heap.size, 1, none⟩ = some (.int .i64 e))
           (first | (with_reducible exact KEEP.out _ BM.out) | (with_reducible exact KEEP.out _ BM.out.drew) | (with_reducible exact KEEP.out _ (Bal BM.out _)) | (with_reducible exact KEEP.out _ (Bal BM.out _).drew) | (with_reducible exact KEEP.out _ (Below.refl _ _)) | (with_reducible exact KEEP.out _ (Below.refl _ _).drew) | (with_reducible exact KEEP.out _ (Bal (Below.refl _ _) _)) | (with_reducible exact KEEP.out _ (Bal (Below.refl _ _) _).drew) | (with_reducible exact KEEP.out _ (Bset3 BM.out (Nat.le_refl _) _ _ _)) | (with_reducible exact KEEP.out _ (Bset3 BM.out (Nat.le_refl _) _ _ _).drew))
           ((go_at_call 65; refine (MC.out _ ?_).mono ?_; (refine RW.out.next ?_); (repeat (first | (with_reducible exact Below.refl _ _) | (with_reducible refine Below.drew ?_) | (with_reducible refine Bal ?_ _))); rintro ex wm ⟨vm, rfl, ⟨um, om⟩, bm⟩; obtain ⟨Am, cm, rfl, hm1, hm2, _⟩ := own_form om.top; have BM : Hid (Below wc.heap.size wc wm) := Lib.hid (by first | (with_reducible exact bm) | (with_reducible exact undrewB bm) | (with_reducible exact Bgo (Bal (Below.refl _ _) _) bm) | (with_reducible exact Bgo (Bal (Below.refl _ _) _) (undrewB bm))); have OM3 : Hid (OMx w.heap.size wm (.slice Am (enc dl e).length cm) um (enc dl e)) := Lib.hid (om.mono (Nat.le_trans NC.out.size (by first | exact Nat.le_refl _ | exact (Bal (Below.refl _ _) _).size))); (first | (have R3 : Hid (wm.heap[wc.heap.size]? = some (.cells #[.int .i64 0, .int .i64 0, .slice none 0 0] 54)) := Lib.hid (by first | (with_reducible exact blk_next bm (blk_new wc _)) | (with_reducible exact blk_next (undrewB bm) (blk_new wc _))); have r0 := blk_cell R3.out 0 _ rfl; have r1 := blk_cell R3.out 1 _ rfl; have r2 := blk_cell R3.out 2 _ rfl; have q0 := blk_frozen R3.out 0; have q1 := blk_frozen R3.out 1; have q2 := blk_frozen R3.out 2) | skip); clear bm om))
          all_goals go_wp2_with fail
          ·go_meet
           refine ⟨wm.heap.size, .slice Am (enc dl e).length cm, rfl, by have := HZ1.out; have := BM.out.size; omega, Lib.hid (Bal (Bgo NC.out BM.out) _), Lib.hid (blk_alloc (blk_next BM.out SB9.out) _), Lib.hid (blk_alloc (blk_next BM.out ZX9.out) _), Lib.hid (blk_new wm _), Lib.hid ⟨um, OM3.out.next (Bal (Below.refl _ _) _)⟩⟩
          ·go_meet
           have H31 : wc.heap.size ≠ w.heap.size := by have := HZ1.out; omega
           have H33 : wc.heap.size ≠ w.heap.size + 1 := by have := HZ1.out; omega
           have LW : w.heap.size ≤ wc.heap.size := by have := HZ1.out; omega
           refine ⟨wc.heap.size, .slice Am (enc dl e).length cm, rfl, by have := HZ1.out; omega, Lib.hid (Bset3 (Bgo NC.out BM.out) LW _ _ _), Lib.hid (blk_set3_other (blk_next BM.out SB9.out) H31 _ _ _), Lib.hid (blk_set3_other (blk_next BM.out ZX9.out) H33 _ _ _), Lib.hid (blk_set3 R3.out _ _ _), Lib.hid ⟨um, OM3.out.set3_ R3.out _ _ _⟩⟩
         case rest =>
          obtain ⟨rb, v, rfl, hrb, NQ, SQ, ZQ, YQ, OQ⟩ := hcut
          obtain ⟨uq, ho⟩ := OQ.out
          obtain ⟨Av, cv, rfl, hv1, hv2, _⟩ := own_form ho.top
          have EL : Hid ((enc dl e).length = m.length) := Lib.hid (by rw [enc_len, DLN.out, HLEN.out])
          have RV := Lib.hid (ho.rma.mono (B' := 0) (Nat.zero_le _))
          have OF := Lib.hid ho
          have FC := Lib.hid (fun W (h : RMA B W A m) (h' : RMA 0 W Av (enc dl e)) => refFits_calls d e A c B m d e Av cv 0 (enc dl e) W hn hc h hv1 hv2 h' EL.out.symm)
          rw [EL.out] at hv1 YQ FC
          have s0 := blk_cell SQ.out 0 _ rfl
          have s1 := blk_cell SQ.out 1 _ rfl
          have s2 := blk_cell SQ.out 2 _ rfl
          have y0 := blk_cell YQ.out 0 _ rfl
          have y1 := blk_cell YQ.out 1 _ rfl
          have y2 := blk_cell YQ.out 2 _ rfl
          have hrl := blk_lt YQ.out
          clear ho OQ
          go_wp2_with fail
          clear s0 s1 s2 y0 y1 y2 hrl
          refine (FC.out _ (HS.out.next NQ.out) RV.out).mono ?_
          rintro ex wf ⟨rfl, hbf⟩
          have NF := Lib.hid (Bgo NQ.out hbf)
          have ZF := Lib.hid (blk_next hbf ZQ.out)
          have YF := Lib.hid (blk_next hbf YQ.out)
          have OFF := Lib.hid (OF.out.next hbf)
          clear hbf
          have x0 := blk_cell ZF.out 0 _ rfl
          have x1 := blk_cell ZF.out 1 _ rfl
          have x2 := blk_cell ZF.out 2 _ rfl
          have f0 := blk_frozen ZF.out 0
          have f1 := blk_frozen ZF.out 1
          have f2 := blk_frozen ZF.out 2
          cases hft : fitB m (enc dl e)
          ·have FE : Hid (rstE d e m = 30) := Lib.hid (by rw [FF.out, hft]; rfl)
           clear hft
           go_wp2_with fail
           have Z := blk_set3 ZF.out (.int .i64 0) (.int .i64 0) (.slice none 0 0)
           have e0 := blk_cell Z 0 _ rfl
           have e1 := blk_cell Z 1 _ rfl
           have e2 := blk_cell Z 2 _ rfl
           rw [RS.out, RE.out, FE.out, if_neg (by decide)]
           refine bodyPost_ret (v := .tuple #[Sv 0 0 (.slice none 0 0), .int .i64 30]) (by simp [results, Try.results53, go_sem, e0, e1, e2]) rfl (SEPost.none_ ?_)
           exact Bset3 NF.out (by omega) _ _ _
          ·have FE : Hid (rstE d e m = 0) := Lib.hid (by rw [FF.out, hft]; rfl)
           clear hft
           have y0 := blk_cell YF.out 0 _ rfl
           have y1 := blk_cell YF.out 1 _ rfl
           have y2 := blk_cell YF.out 2 _ rfl
           have hrl := blk_lt YF.out
           go_wp2_with fail
           have Z := blk_set3 ZF.out (.int .i64 d) (.int .i64 e) (.slice Av m.length cv)
           have e0 := blk_cell Z 0 _ rfl
           have e1 := blk_cell Z 1 _ rfl
           have e2 := blk_cell Z 2 _ rfl
           rw [RS.out, RE.out, FE.out, if_pos rfl]
           refine bodyPost_ret (v := .tuple #[Sv d e (.slice Av m.length cv), .int .i64 0]) (by simp [results, Try.results53, go_sem, e0, e1, e2]) rfl ⟨_, rfl, ⟨uq, ?_⟩, Bset3 NF.out (by omega) _ _ _⟩
           have OG := OFF.out
           rw [EL.out] at OG
           exact OG.set3_ ZF.out _ _ _
 ·have RE : Hid (resE D M m = chkE D M m) := Lib.hid (by unfold resE; rw [if_neg ck])
  generalize chkE D M m = ce at *
  have ck' : (ce != 0) = true := by rw [bne_iff_ne]; exact ck
  have RS := Lib.hid (resS_err RE.out ck)
  clear ck
  go_enter Try.func53, Try.ntmps53
  go_wp2_with fail
  refine (CC.out _ (HS.out.next (Bal (Bal (Below.refl _ _) _) _))).mono ?_
  rintro ex w1 ⟨rfl, hb1⟩
  have N1 : Hid (Below w.heap.size w w1) := Lib.hid (Bgo (Bal (Bal (Below.refl _ _) _) _) hb1)
  have X1 : Hid (w1.heap[w.heap.size + 1]? = some (.cells #[.int .i64 0, .int .i64 0, .slice none 0 0] 54)) := Lib.hid (blk_next hb1 (blk_at _ (by simp)))
  have x0 := blk_cell X1.out 0 _ rfl
  have x1 := blk_cell X1.out 1 _ rfl
  have x2 := blk_cell X1.out 2 _ rfl
  have f0 := blk_frozen X1.out 0
  have f1 := blk_frozen X1.out 1
  have f2 := blk_frozen X1.out 2
  clear hb1
  go_wp2_with fail
  have Z := blk_set3 X1.out (.int .i64 0) (.int .i64 0) (.slice none 0 0)
  have e0 := blk_cell Z 0 _ rfl
  have e1 := blk_cell Z 1 _ rfl
  have e2 := blk_cell Z 2 _ rfl
  rw [RS.out, RE.out]
  refine bodyPost_ret (v := .tuple #[Sv 0 0 (.slice none 0 0), .int .i64 ce]) (by simp [results, Try.results53, go_sem, e0, e1, e2]) rfl (SEPost.none_ ?_)
  exact Bset3 N1.out (by omega) _ _ _
end Go.Proofs.Ytapehckcmmompaa
