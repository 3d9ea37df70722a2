/- Several texts in one. -/
import Derived.Test.YtfangplfbbgphaaGreatDoorMF19
import Derived.Test.YtfangplfbbgphaaGreatDoorMF20
namespace Go.Proofs.YtfangplfbbgphaaGreatDoor
open Go.ChangeShapes Go.WideShapes Go.ChangeAt Go.RowKit
set_option linter.unusedVariables false
set_option linter.unusedSimpArgs false
attribute [local go_sem ↓] Go.wp_at_zero Go.wp_at_succ
attribute [local go_sem ↓] eqVe
theorem OC.same {B : Nat} {W W' : World} {v : Value} {cs : List Cl} {hs : List Value} (h : OC B W v cs hs) (hk : ∀ g o, B ≤ g → W.heap[g]? = some o → W'.heap[g]? = some o) : OC B W' v cs hs :=
 ⟨h.len, own_same h.row (fun g cs hg he => (hk g _ hg he).trans he.symm), fun k c u hc hu => own_same (h.inn k c u hc hu) (fun g cs hg he => (hk g _ hg he).trans he.symm), h.sep⟩
theorem rplaces_ok {A B : Int} {a : Option Addr} {c : Nat} {l : List St} {w : World} (h : plE A B l = 0) (hl : RSt w a l) (hc : l.length ≤ c) (hc' : c ≤ 9223372036854775807) (hn : ∀ x ∈ l, x.nm.size ≤ 9223372036854775807) : Calls Tryz.prog 47 #[Gv A B, .slice a l.length c] w fun e w' =>
  ∃ Ax cx, e = .returned (.tuple #[.slice Ax l.length cx, .int .i64 0]) ∧ Below w.heap.size w w' ∧ l.length ≤ cx ∧ cx ≤ 9223372036854775807 ∧ Rd w' 6 Ax l.length ((l.map (plV A B)).flatMap v6) := by
 refine (rplaces_calls hl hc hc' hn).mono ?_
 rintro e w' ⟨v, rfl, hb, -, h1⟩
 rw [h] at h1 ⊢
 have h2 := h1 rfl
 unfold OVe at h2
 rw [List.length_map] at h2
 obtain ⟨A1, c1, rfl, h3, h4, h5⟩ := Rd.of_own h2
 exact ⟨A1, c1, rfl, hb, h3, h4, h5⟩
theorem rpairs_ok {n : Nat} (h : n < 9) (w : World) : Calls Tryz.prog 48 #[.int .i64 (n : Int)] w fun e w' =>
  ∃ Ax cx, e = .returned (.tuple #[.slice Ax (prs n).length cx, .int .i64 0]) ∧ Below w.heap.size w w' ∧ (prs n).length ≤ cx ∧ cx ≤ 9223372036854775807 ∧ RPr w' Ax (prs n) := by
 have e0 : prE (n : Int) = 0 := by unfold prE; rw [if_neg (by omega)]
 refine (rpairs_calls n w).mono ?_
 rintro e w' ⟨v, rfl, hb, h0, h1⟩
 rw [e0] at *
 have h2 := h1 rfl
 rw [Int.toNat_natCast] at h2
 obtain ⟨A1, c1, rfl, h2, h3, h4⟩ := Rd.of_own h2
 exact ⟨A1, c1, rfl, hb, h2, h3, h4⟩
theorem rec_ob {w : World} {sz n : Nat} {A : Option Addr} {xs : List Value} (h : Rd w sz A n xs) (hn : 0 < n) : ∃ b off ob, A = some ⟨b, off, none⟩ ∧ w.heap[b]? = some ob ∧ ∀ X : World, X.heap[b]? = some ob → ∀ j u, xs[j]? = some u → X.cell? ⟨b, off + j, none⟩ = some u := by
 obtain ⟨b, off, e, hl, hc⟩ := h.2 hn
 exact ⟨b, off, w.heap[b]'hl, e, Array.getElem?_eq_getElem _, fun X hX j u hu => (cell_same (hX.trans (Array.getElem?_eq_getElem hl).symm) _).trans (hc j u hu)⟩
theorem rec_at {α : Type} {f : α → List Value} {sz : Nat} (hf : ∀ x, (f x).length = sz) {l : List α} {b off : Nat} {ob : Obj} (h : ∀ X : World, X.heap[b]? = some ob → ∀ j u, (l.flatMap f)[j]? = some u → X.cell? ⟨b, off + j, none⟩ = some u) {k : Nat} {x : α} (hx : l[k]? = some x) :
  ∀ X : World, X.heap[b]? = some ob → ∀ j u, (f x)[j]? = some u → X.cell? ⟨b, off + k * sz + j, none⟩ = some u := fun X hX j u hu => by
 have hj : j < sz := by rw [← hf x]; exact get_lt hu
 rw [Nat.add_assoc]
 exact h X hX (k * sz + j) u (by rw [fm_get f sz hf l k j x hx hj]; exact hu)
def blv (l : List Bool) : List Value := l.map Value.bool
theorem blv_get {l : List Bool} {k : Nat} {b : Bool} (h : l[k]? = some b) : (blv l)[k]? = some (.bool b) := by unfold blv; rw [List.getElem?_map, h]; rfl
theorem blv_set (l : List Bool) (k : Nat) (b : Bool) : blv (l.set k b) = (blv l).set k (.bool b) := by unfold blv; rw [List.map_set]
theorem blv_none (L : Nat × Nat → V6) (P : List (Nat × Nat)) : blv (P.map (hitB L [])) = List.replicate P.length (.bool false) := by
 unfold blv
 rw [List.map_map]
 rw [show (Value.bool ∘ hitB L []) = fun _ => Value.bool false from rfl]
 exact List.map_const' ..
theorem own_set_fresh {W : World} {B z b : Nat} {e : TypeId} {sz n : Nat} {v : Value} {xs : List Value} (h : W.ownsRow B e sz v n xs) (hlo : ∀ g, v.ownBlock = some g → g < z) (hb : z ≤ b) (off : Nat) (x : Value) : (W.setCell ⟨b, off, none⟩ x).ownsRow B e sz v n xs := by
 obtain ⟨h1, h2 | ⟨g, cap, cur, e1, e2, e3, e4⟩⟩ := h
 ·exact ⟨h1, .inl h2⟩
 ·refine ⟨h1, .inr ⟨g, cap, cur, e1, e2, blk_set_other (b' := b) e3 (by have := hlo g (by rw [e1]; rfl); omega) _ _, e4⟩⟩
def KX (z : Nat) (w0 X : World) : Prop := ∀ g o, z < g → w0.heap[g]? = some o → X.heap[g]? = some o
theorem KX.next {z : Nat} {w0 X Y : World} (h : KX z w0 X) (hb : Below X.heap.size X Y) : KX z w0 Y := fun g o hg ho => blk_next hb (h g o hg ho)
theorem KX.set {z : Nat} {w0 X : World} (h : KX z w0 X) {b : Nat} (hb : b = z ∨ w0.heap.size ≤ b) (off : Nat) (x : Value) : KX z w0 (X.setCell ⟨b, off, none⟩ x) := fun g o hg ho => blk_set_other (h g o hg ho) (by have := blk_lt ho; omega) off x
theorem KX.low {z B : Nat} {w0 X Y : World} (h : KX z w0 X) (hb : Below B X Y) (hB : w0.heap.size ≤ B) : KX z w0 Y := fun g o hg ho => (hb.block g (by have := blk_lt ho; omega)).trans (h g o hg ho)
theorem oc_mono {B B' : Nat} {W : World} {v : Value} {cs : List Cl} {hs : List Value} (h : OC B W v cs hs) (hB : B' ≤ B) : OC B' W v cs hs := ⟨h.len, own_mono h.row hB, fun k c u h1 h2 => own_mono (h.inn k c u h1 h2) hB, h.sep⟩
theorem opr_next {B : Nat} {W W' : World} {v : Value} {l : List (Nat × Nat)} (h : OPr B W v l) (hb : Below W.heap.size W W') : OPr B W' v l := own_next hb h
theorem opr_set {B : Nat} {W : World} {v : Value} {l : List (Nat × Nat)} (h : OPr B W v l) {b : Nat} (hb : b < B) (off : Nat) (x : Value) : OPr B (W.setCell ⟨b, off, none⟩ x) v l := own_set_other h hb off x
set_option maxRecDepth 100000 in
set_option maxHeartbeats 16000000 in
theorem rclasses_calls {A B : Int} {a : Option Addr} {c : Nat} {l : List St} {w : World} (hl : RSt w a l) (hc : l.length ≤ c) (hc' : c ≤ 9223372036854775807) (hn : ∀ x ∈ l, x.nm.size ≤ 9223372036854775807) : Calls Tryz.prog 17 #[Gv A B, .slice a l.length c] w fun e w' =>
  ∃ v, e = .returned (.tuple #[v, .int .i64 (plE A B l)]) ∧ Below w.heap.size w w' ∧ (plE A B l ≠ 0 → v = .slice none 0 0) ∧ (plE A B l = 0 → ∃ hs, OC w.heap.size w' v (clsL A B l) hs) := by
 have NN := Lib.hid (Below.refl w.heap.size w)
 by_cases hp : plE A B l = 0
 rotate_left
 ·have PC := Lib.hid (fun (W : World) (hb : Below w.heap.size w W) => rplaces_calls (A := A) (B := B) (hl.next hb) hc hc' hn)
  have q1 : (plE A B l != 0) = true := by rw [bne_iff_ne]; exact hp
  have HP := Lib.hid hp
  clear hl hn hp
  generalize plE A B l = pe at *
  generalize clsL A B l = cs0 at *
  go_enter Tryz.func17, Tryz.ntmps17
  go_wp2_with fail
  have G : Hid ((w.alloc (.cells #[.int .i64 A, .int .i64 B] 23)).heap[w.heap.size]? = some (.cells #[.int .i64 A, .int .i64 B] 23)) := Lib.hid (blk_new w _)
  replace NN : Hid (Below w.heap.size w (w.alloc (.cells #[.int .i64 A, .int .i64 B] 23))) := Lib.hid (Bal NN.out _)
  generalize (w.alloc (.cells #[.int .i64 A, .int .i64 B] 23)) = W1 at *
  refine (PC.out _ NN.out).mono ?_
  rintro e w2 ⟨v, rfl, hb, hv0, -⟩
  obtain rfl := hv0 HP.out
  clear hv0
  replace NN := Lib.hid (Bgo NN.out hb)
  replace G := Lib.hid (blk_next hb G.out)
  clear hb
  go_wp2_with fail
  refine bodyPost_ret (v := .tuple #[.slice none 0 0, .int .i64 pe]) (by simp [results, Tryz.results17, go_sem]) rfl ⟨_, rfl, NN.out, fun _ => rfl, fun h => absurd h HP.out⟩
 have N9 := Lib.hid (plE_len hp)
 have PC := Lib.hid (fun (W : World) (hb : Below w.heap.size w W) => rplaces_ok hp (hl.next hb) hc hc' hn)
 have RC := Lib.hid (fun W => rpairs_ok N9.out W)
 have CE := Lib.hid (clsL_grp hp)
 have P8 := Lib.hid (prs_len8 N9.out)
 have LS := Lib.hid (fun k p (hk : (prs l.length)[k]? = some p) => by obtain ⟨s, t, hs, ht, ms, mt, e⟩ := lnOf_at (ln := lnS A B) (plE_len hp) (List.mem_of_getElem? hk); exact (⟨s, t, hs, ht, line_ok hp ms mt, e⟩ : ∃ s t, l[p.1]? = some s ∧ l[p.2]? = some t ∧ SubOk (plV A B t) (plV A B s) ∧ lnOf (lnS A B) l p = lnS A B s t))
 have MK := Lib.hid (fun W => make_bools (prs l.length).length (Nat.le_trans P8.out (by decide)) W)
 rw [hp]
 clear hl hn hp
 generalize clsL A B l = cs0 at *
 generalize hL : lnOf (lnS A B) l = L at *
 clear hL
 obtain ⟨P, hP⟩ : ∃ P, prs l.length = P := ⟨_, rfl⟩
 simp only [hP] at RC CE P8 LS MK
 clear hP
 go_enter Tryz.func17, Tryz.ntmps17
 go_wp2_with fail
 have G : Hid ((w.alloc (.cells #[.int .i64 A, .int .i64 B] 23)).heap[w.heap.size]? = some (.cells #[.int .i64 A, .int .i64 B] 23)) := Lib.hid (blk_new w _)
 replace NN : Hid (Below w.heap.size w (w.alloc (.cells #[.int .i64 A, .int .i64 B] 23))) := Lib.hid (Bal NN.out _)
 generalize (w.alloc (.cells #[.int .i64 A, .int .i64 B] 23)) = W3 at *
 refine (PC.out _ NN.out).mono ?_
 rintro e w4 ⟨A1, c1, rfl, hb, k1, k2, hr⟩
 replace NN := Lib.hid (Bgo NN.out hb)
 replace G := Lib.hid (blk_next hb G.out)
 clear hb
 have RV := Lib.hid hr
 have K1 := Lib.hid k1
 have K2 := Lib.hid k2
 clear hr k1 k2
 go_wp2_with fail
 refine (RC.out _).mono ?_
 rintro e w5 ⟨A2, c2, rfl, hb, k1, k2, hr⟩
 replace NN := Lib.hid (Bgo NN.out hb)
 replace RV := Lib.hid (Rd.next hb RV.out)
 replace G := Lib.hid (blk_next hb G.out)
 clear hb
 have RP := Lib.hid hr
 have J1 := Lib.hid k1
 have J2 := Lib.hid k2
 clear hr k1 k2
 go_wp2_with fail
 clear G
 have NNb := NN
 have SZB : Hid (w.heap.size ≤ w5.heap.size) := Lib.hid NN.out.size
 have RV0 := RV
 have RP0 := RP
 clear NN RV RP
 have NN : Hid (Below w5.heap.size w5 w5) := Lib.hid (Below.refl _ _)
 have OV : Hid (OVe w5.heap.size w5 (.slice none 0 0) ((P.take 0).map L)) := Lib.hid (by rw [List.take_zero]; exact World.ownsRow_nil _ _ _ _)
 have hpl : P.length ≤ 28 := P8.out
 obtain ⟨iv, hi, hz, hs0, hb0⟩ := info_parts infoV
 have HIV := Lib.hid (And.intro hi (And.intro hz (And.intro hs0 hb0)))
 clear hi hz hs0 hb0
 go_loopw [10, 11] (fun v i wr => ∃ k : Nat, k ≤ P.length ∧ i = .int .i64 k ∧ Hid (Below w5.heap.size w5 wr) ∧ Hid (OVe w5.heap.size wr v ((P.take k).map L))) (fun v i _ => P.length - (intOf i).toNat)
 case atStart => exact ⟨0, by omega, rfl, NN, OV⟩
 case round =>
  clear NN OV
  obtain ⟨k, hk, rfl, NN, OV⟩ := hrel
  by_cases hlt : k < P.length
  ·obtain ⟨p, hpk⟩ := get_some hlt
   have HPK := Lib.hid hpk
   obtain ⟨s, t, hs, ht, hso, hln⟩ := LS.out k p hpk
   have hs9 := get_lt hs
   have ht9 := get_lt ht
   have hl0 : 0 < l.length := by omega
   obtain ⟨bp, op, obp, e9, BP0, RPac⟩ := rec_ob RP0.out (by omega)
   subst e9
   have BP := Lib.hid (blk_next NN.out BP0)
   have RPa := Lib.hid RPac
   clear BP0 RPac
   obtain ⟨bv, ov, obv, e9, BV0, RVac⟩ := rec_ob RV0.out (by omega)
   subst e9
   have BV := Lib.hid (blk_next NN.out BV0)
   have RVa := Lib.hid RVac
   clear BV0 RVac
   have RPx := Lib.hid (rec_at pr2_len RPa.out hpk)
   have RS := Lib.hid (rec_at v6_len RVa.out (show (l.map (plV A B))[p.1]? = some (plV A B s) by rw [List.getElem?_map, hs]; rfl))
   have RT := Lib.hid (rec_at v6_len RVa.out (show (l.map (plV A B))[p.2]? = some (plV A B t) by rw [List.getElem?_map, ht]; rfl))
   have kk : k + 1 ≤ P.length := hlt
   have k1 : (k : Int) < (P.length : Int) := by omega
   have p1 : p.1 < l.length := hs9
   have p2 : p.2 < l.length := ht9
   have p1' : (p.1 : Int) < (l.length : Int) := by omega
   have p2' : (p.2 : Int) < (l.length : Int) := by omega
   have CS := Lib.hid (fun W => rvsub_calls (plV A B t) (plV A B s) hso W)
   have HLN : Hid (L p = subV (plV A B t) (plV A B s)) := Lib.hid hln
   clear hs ht hso hln hpk RVa RPa
   generalize plV A B s = sv at *
   generalize plV A B t = tv at *
   generalize subV tv sv = rv at *
   obtain ⟨A0, c0, hv0, hn0, hc1, -⟩ := Rd.of_own OV.out
   have kl : ((P.take k).map L).length = k := by simp; omega
   rw [kl] at hv0 hn0
   subst hv0
   clear hn0 hc1
   go_upto_region 9 with fail
   have LBP := Lib.hid (blk_lt BP.out)
   have LBV := Lib.hid (blk_lt BV.out)
   have OVL := Lib.hid (fun g (hg : (Value.slice A0 k c0).ownBlock = some g) => (OV.out.lt g hg).2)
   have NNo := NN
   replace NN : Hid (Below wr.heap.size wr wr) := Lib.hid (Below.refl _ _)
   have HDRW := Lib.hid (Below.drew (Below.refl wr.heap.size wr))
   replace NN := Lib.hid (Bgo NN.out HDRW.out)
   replace OV := Lib.hid (own_next HDRW.out OV.out)
   replace BP := Lib.hid (blk_next HDRW.out BP.out)
   replace BV := Lib.hid (blk_next HDRW.out BV.out)
   clear HDRW
   have HAL : Hid (∀ kx9 : Nat, GK [(5, bp, obp), (7, bv, obv), (13, bp, obp), (15, bv, obv)] kx9 wr.drew) := Lib.hid (fun kx9 => fun px9 hp e => by
    simp only [List.mem_cons, List.not_mem_nil, or_false] at hp
    rcases hp with rfl | rfl | rfl | rfl
    ·exact BP.out
    ·exact BV.out
    ·exact BP.out
    ·exact BV.out
   )
   refine region_G (S := GK [(5, bp, obp), (7, bv, obv), (13, bp, obp), (15, bv, obv)]) (by kernel_rfl) ?_
   refine tG 0 (.slice (some ⟨bv, ov, none⟩) l.length c1) (some 41) (GK.grow _) rfl (YieldsIf.toG (Or.inl ⟨by rfl, ?_⟩)) (GK.drop (by simp)) ?_
   ·intro X hX
    clear hX
    go_simp
   try simp only [Act.put, zA, zB, zC]
   refine tG 1 (.slice (some ⟨bp, op, none⟩) P.length c2) (some 42) (GK.grow _) rfl (YieldsIf.toG (Or.inl ⟨by rfl, ?_⟩)) (GK.drop (by simp)) ?_
   ·intro X hX
    clear hX
    go_simp
   try simp only [Act.put, zA, zB, zC]
   refine tG 2 (.int .i64 (k : Int)) (some 43) (GK.grow _) rfl (YieldsIf.toG (Or.inl ⟨by rfl, ?_⟩)) (GK.drop (by simp)) ?_
   ·intro X hX
    clear hX
    go_simp
   try simp only [Act.put, zA, zB, zC]
   refine tG 3 (.pointer (some ⟨bp, op + k * 2, none⟩)) (some 44) (GK.grow _) rfl (YieldsIf.toG (Or.inl ⟨by rfl, ?_⟩)) (GK.drop (by simp)) ?_
   ·intro X hX
    clear hX
    go_simp
   try simp only [Act.put, zA, zB, zC]
   refine tG 4 (.pointer (some ⟨bp, op + k * 2 + 1, none⟩)) (some 45) (GK.grow _) rfl (YieldsIf.toG (Or.inl ⟨by rfl, ?_⟩)) (GK.drop (by simp)) ?_
   ·intro X hX
    clear hX
    go_simp
   try simp only [Act.put, zA, zB, zC]
   refine tG 5 (.int .i64 (p.2 : Int)) (some 46) (GK.grow _) rfl (YieldsIf.toG (Or.inl ⟨by rfl, ?_⟩)) (HAL.out 5) ?_
   ·intro X hX
    have hh := hX (5, bp, obp) (List.Mem.head _) rfl
    have hh0 := RPx.out _ hh 1 _ rfl
    have hhl := blk_lt hh
    clear hh
    clear hX
    go_simp
   try simp only [Act.put, zA, zB, zC]
   refine tG 6 (.pointer (some ⟨bv, ov + p.2 * 6, none⟩)) (some 47) (GK.grow _) rfl (YieldsIf.toG (Or.inl ⟨by rfl, ?_⟩)) (GK.drop (by simp)) ?_
   ·intro X hX
    clear hX
    go_simp
   try simp only [Act.put, zA, zB, zC]
   refine tG 7 (.agg #[.int .i64 tv.x1, .int .i64 tv.x2, .int .i64 tv.y1, .int .i64 tv.y2, .int .i64 tv.z1, .int .i64 tv.z2]) (some 48) (GK.grow _) rfl (YieldsIf.toG (Or.inl ⟨by rfl, ?_⟩)) (HAL.out 7) ?_
   ·intro X hX
    have hh := hX (7, bv, obv) (List.Mem.tail _ (List.Mem.head _)) rfl
    have hh0 := RT.out _ hh 0 _ rfl
    simp only [Nat.add_zero] at hh0
    have hh1 := RT.out _ hh 1 _ rfl
    have hh2 := RT.out _ hh 2 _ rfl
    have hh3 := RT.out _ hh 3 _ rfl
    have hh4 := RT.out _ hh 4 _ rfl
    have hh5 := RT.out _ hh 5 _ rfl
    have hhl := blk_lt hh
    clear hh
    clear hX
    go_simp
   try simp only [Act.put, zA, zB, zC]
   refine tG 8 (.slice (some ⟨bv, ov, none⟩) l.length c1) (some 49) (GK.grow _) rfl (YieldsIf.toG (Or.inl ⟨by rfl, ?_⟩)) (GK.drop (by simp)) ?_
   ·intro X hX
    clear hX
    go_simp
   try simp only [Act.put, zA, zB, zC]
   refine tG 9 (.slice (some ⟨bp, op, none⟩) P.length c2) (some 50) (GK.grow _) rfl (YieldsIf.toG (Or.inl ⟨by rfl, ?_⟩)) (GK.drop (by simp)) ?_
   ·intro X hX
    clear hX
    go_simp
   try simp only [Act.put, zA, zB, zC]
   refine tG 10 (.int .i64 (k : Int)) (some 51) (GK.grow _) rfl (YieldsIf.toG (Or.inl ⟨by rfl, ?_⟩)) (GK.drop (by simp)) ?_
   ·intro X hX
    clear hX
    go_simp
   try simp only [Act.put, zA, zB, zC]
   refine tG 11 (.pointer (some ⟨bp, op + k * 2, none⟩)) (some 52) (GK.grow _) rfl (YieldsIf.toG (Or.inl ⟨by rfl, ?_⟩)) (GK.drop (by simp)) ?_
   ·intro X hX
    clear hX
    go_simp
   try simp only [Act.put, zA, zB, zC]
   refine tG 12 (.pointer (some ⟨bp, op + k * 2, none⟩)) (some 53) (GK.grow _) rfl (YieldsIf.toG (Or.inl ⟨by rfl, ?_⟩)) (GK.drop (by simp)) ?_
   ·intro X hX
    clear hX
    go_simp
   try simp only [Act.put, zA, zB, zC]
   refine tG 13 (.int .i64 (p.1 : Int)) (some 54) (GK.grow _) rfl (YieldsIf.toG (Or.inl ⟨by rfl, ?_⟩)) (HAL.out 13) ?_
   ·intro X hX
    have hh := hX (13, bp, obp) (List.Mem.tail _ (List.Mem.tail _ (List.Mem.head _))) rfl
    have hh0 := RPx.out _ hh 0 _ rfl
    simp only [Nat.add_zero] at hh0
    have hhl := blk_lt hh
    clear hh
    clear hX
    go_simp
   try simp only [Act.put, zA, zB, zC]
   refine tG 14 (.pointer (some ⟨bv, ov + p.1 * 6, none⟩)) (some 55) (GK.grow _) rfl (YieldsIf.toG (Or.inl ⟨by rfl, ?_⟩)) (GK.drop (by simp)) ?_
   ·intro X hX
    clear hX
    go_simp
   try simp only [Act.put, zA, zB, zC]
   refine tG 15 (.agg #[.int .i64 sv.x1, .int .i64 sv.x2, .int .i64 sv.y1, .int .i64 sv.y2, .int .i64 sv.z1, .int .i64 sv.z2]) (some 56) (GK.grow _) rfl (YieldsIf.toG (Or.inl ⟨by rfl, ?_⟩)) (HAL.out 15) ?_
   ·intro X hX
    have hh := hX (15, bv, obv) (List.Mem.tail _ (List.Mem.tail _ (List.Mem.tail _ (List.Mem.head _)))) rfl
    have hh0 := RS.out _ hh 0 _ rfl
    simp only [Nat.add_zero] at hh0
    have hh1 := RS.out _ hh 1 _ rfl
    have hh2 := RS.out _ hh 2 _ rfl
    have hh3 := RS.out _ hh 3 _ rfl
    have hh4 := RS.out _ hh 4 _ rfl
    have hh5 := RS.out _ hh 5 _ rfl
    have hhl := blk_lt hh
    clear hh
    clear hX
    go_simp
   try simp only [Act.put, zA, zB, zC]
   have CFn : ∀ (args : Array Value) (W : World), Sem.run Tryz.prog (callFunc 49 args) W = .ok (.enter 49 args) W := fun _ _ => by kernel_rfl
   refine tG 16 (.tuple #[.agg #[.int .i64 rv.x1, .int .i64 rv.x2, .int .i64 rv.y1, .int .i64 rv.y2, .int .i64 rv.z1, .int .i64 rv.z2], .int .i64 0]) (some 57) (GK.grow _) rfl (yieldsG_call 49 #[.agg #[.int .i64 tv.x1, .int .i64 tv.x2, .int .i64 tv.y1, .int .i64 tv.y2, .int .i64 tv.z1, .int .i64 tv.z2], .agg #[.int .i64 sv.x1, .int .i64 sv.x2, .int .i64 sv.y1, .int .i64 sv.y2, .int .i64 sv.z1, .int .i64 sv.z2]] (by rfl) ?_ (fun X hS => CS.out X)) (GK.drop (by simp)) ?_
   ·intro X hX
    clear hX
    go_simp
   clear CFn
   try simp only [Act.put, zA, zB, zC]
   refine tG 17 (.tuple #[.agg #[.int .i64 rv.x1, .int .i64 rv.x2, .int .i64 rv.y1, .int .i64 rv.y2, .int .i64 rv.z1, .int .i64 rv.z2], .int .i64 0]) (some 40) (GK.grow _) rfl (YieldsIf.toG (Or.inl ⟨by rfl, ?_⟩)) (GK.drop (by simp)) ?_
   ·intro X hX
    clear hX
    go_simp
   try simp only [Act.put, zA, zB, zC]
   refine tG 18 (.agg #[.int .i64 rv.x1, .int .i64 rv.x2, .int .i64 rv.y1, .int .i64 rv.y2, .int .i64 rv.z1, .int .i64 rv.z2]) (some 58) (GK.grow _) rfl (YieldsIf.toG (Or.inl ⟨by rfl, ?_⟩)) (GK.drop (by simp)) ?_
   ·intro X hX
    clear hX
    go_simp
   try simp only [Act.put, zA, zB, zC]
   refine tG 19 (.int .i64 0) (some 59) (GK.grow _) rfl (YieldsIf.toG (Or.inl ⟨by rfl, ?_⟩)) (GK.drop (by simp)) ?_
   ·intro X hX
    clear hX
    go_simp
   try simp only [Act.put, zA, zB, zC]
   refine only_G 20 (by kernel_rfl) rfl (fun X6 hX K' hK' => ?_)
   replace NN := Lib.hid (Bgo NN.out hX)
   replace OV := Lib.hid (own_next hX OV.out)
   replace BP := Lib.hid (blk_next hX BP.out)
   replace BV := Lib.hid (blk_next hX BV.out)
   replace HAL := Lib.hid (fun kx9 => GK.grow _ _ _ _ (HAL.out kx9) hX)
   clear hX
   go_simp
   refine hK'.out _ _ (fun _ _ h => h.alloc _) ?_
   clear hK' K'
   try simp only [Act.put, zA, zB, zC]
   have HB := Lib.hid (Bal (Below.refl X6.heap.size X6) (.cells #[.int .i64 0, .int .i64 0, .int .i64 0, .int .i64 0, .int .i64 0, .int .i64 0] 38))
   have LV : Hid ((X6.alloc (.cells #[.int .i64 0, .int .i64 0, .int .i64 0, .int .i64 0, .int .i64 0, .int .i64 0] 38)).heap[X6.heap.size]? = some (.cells #[.int .i64 0, .int .i64 0, .int .i64 0, .int .i64 0, .int .i64 0, .int .i64 0] 38)) := Lib.hid (blk_new X6 (.cells #[.int .i64 0, .int .i64 0, .int .i64 0, .int .i64 0, .int .i64 0, .int .i64 0] 38))
   have LT_LV : Hid (wr.heap.size ≤ X6.heap.size) := Lib.hid NN.out.size
   replace NN := Lib.hid (Bgo NN.out HB.out)
   replace OV := Lib.hid (own_next HB.out OV.out)
   replace BP := Lib.hid (blk_next HB.out BP.out)
   replace BV := Lib.hid (blk_next HB.out BV.out)
   replace HAL := Lib.hid (fun kx9 => GK.grow _ _ _ _ (HAL.out kx9) HB.out)
   clear HB
   generalize X6.alloc (.cells #[.int .i64 0, .int .i64 0, .int .i64 0, .int .i64 0, .int .i64 0, .int .i64 0] 38) = W7 at *
   generalize X6.heap.size = gLV at *
   refine only_G 21 (by kernel_rfl) rfl (fun X8 hX K' hK' => ?_)
   replace NN := Lib.hid (Bgo NN.out hX)
   replace OV := Lib.hid (own_next hX OV.out)
   replace BP := Lib.hid (blk_next hX BP.out)
   replace BV := Lib.hid (blk_next hX BV.out)
   replace LV := Lib.hid (blk_next hX LV.out)
   replace HAL := Lib.hid (fun kx9 => GK.grow _ _ _ _ (HAL.out kx9) hX)
   clear hX
   have c_LV_0 := blk_cell LV.out 0 _ rfl
   have f_LV_0 := blk_frozen LV.out 0
   have c_LV_1 := blk_cell LV.out 1 _ rfl
   have f_LV_1 := blk_frozen LV.out 1
   have c_LV_2 := blk_cell LV.out 2 _ rfl
   have f_LV_2 := blk_frozen LV.out 2
   have c_LV_3 := blk_cell LV.out 3 _ rfl
   have f_LV_3 := blk_frozen LV.out 3
   have c_LV_4 := blk_cell LV.out 4 _ rfl
   have f_LV_4 := blk_frozen LV.out 4
   have c_LV_5 := blk_cell LV.out 5 _ rfl
   have f_LV_5 := blk_frozen LV.out 5
   have l_LV := blk_lt LV.out
   go_simp
   clear c_LV_0 f_LV_0 c_LV_1 f_LV_1 c_LV_2 f_LV_2 c_LV_3 f_LV_3 c_LV_4 f_LV_4 c_LV_5 f_LV_5 l_LV
   refine hK'.out _ _ (fun kk hk hS => ?_) ?_
   ·have HN : ∀ px9 ∈ ([(5, bp, obp), (7, bv, obv), (13, bp, obp), (15, bv, obv)] : List (Nat × Nat × Obj)), px9.1 = kk → px9.2.1 ≠ gLV := fun px9 hp e => by
     simp only [List.mem_cons, List.not_mem_nil, or_false] at hp
     rcases hp with rfl | rfl | rfl | rfl
     ·subst e
      exact bfl (by kernel_rfl) hk
     ·subst e
      exact bfl (by kernel_rfl) hk
     ·subst e
      exact bfl (by kernel_rfl) hk
     ·subst e
      exact bfl (by kernel_rfl) hk
    exact GK.set (GK.set (GK.set (GK.set (GK.set (GK.set hS HN) HN) HN) HN) HN) HN
   clear hK' K'
   try simp only [Act.put, zA, zB, zC]
   clear HAL
   replace OV := Lib.hid (own_set_fresh (own_set_fresh (own_set_fresh (own_set_fresh (own_set_fresh (own_set_fresh (OV.out) OVL.out (by have := LT_LV.out; omega) 0 (.int .i64 rv.x1)) OVL.out (by have := LT_LV.out; omega) 1 (.int .i64 rv.x2)) OVL.out (by have := LT_LV.out; omega) 2 (.int .i64 rv.y1)) OVL.out (by have := LT_LV.out; omega) 3 (.int .i64 rv.y2)) OVL.out (by have := LT_LV.out; omega) 4 (.int .i64 rv.z1)) OVL.out (by have := LT_LV.out; omega) 5 (.int .i64 rv.z2))
   replace BP := Lib.hid (blk_set_other (b' := gLV) (blk_set_other (b' := gLV) (blk_set_other (b' := gLV) (blk_set_other (b' := gLV) (blk_set_other (b' := gLV) (blk_set_other (b' := gLV) (BP.out) (by have := LT_LV.out; have := LBP.out; omega) 0 (.int .i64 rv.x1)) (by have := LT_LV.out; have := LBP.out; omega) 1 (.int .i64 rv.x2)) (by have := LT_LV.out; have := LBP.out; omega) 2 (.int .i64 rv.y1)) (by have := LT_LV.out; have := LBP.out; omega) 3 (.int .i64 rv.y2)) (by have := LT_LV.out; have := LBP.out; omega) 4 (.int .i64 rv.z1)) (by have := LT_LV.out; have := LBP.out; omega) 5 (.int .i64 rv.z2))
   replace BV := Lib.hid (blk_set_other (b' := gLV) (blk_set_other (b' := gLV) (blk_set_other (b' := gLV) (blk_set_other (b' := gLV) (blk_set_other (b' := gLV) (blk_set_other (b' := gLV) (BV.out) (by have := LT_LV.out; have := LBV.out; omega) 0 (.int .i64 rv.x1)) (by have := LT_LV.out; have := LBV.out; omega) 1 (.int .i64 rv.x2)) (by have := LT_LV.out; have := LBV.out; omega) 2 (.int .i64 rv.y1)) (by have := LT_LV.out; have := LBV.out; omega) 3 (.int .i64 rv.y2)) (by have := LT_LV.out; have := LBV.out; omega) 4 (.int .i64 rv.z1)) (by have := LT_LV.out; have := LBV.out; omega) 5 (.int .i64 rv.z2))
   replace LV : Hid (((((((X8.setCell ⟨gLV, 0, none⟩ (.int .i64 rv.x1)).setCell ⟨gLV, 1, none⟩ (.int .i64 rv.x2)).setCell ⟨gLV, 2, none⟩ (.int .i64 rv.y1)).setCell ⟨gLV, 3, none⟩ (.int .i64 rv.y2)).setCell ⟨gLV, 4, none⟩ (.int .i64 rv.z1)).setCell ⟨gLV, 5, none⟩ (.int .i64 rv.z2)).heap[gLV]? = some (.cells #[.int .i64 rv.x1, .int .i64 rv.x2, .int .i64 rv.y1, .int .i64 rv.y2, .int .i64 rv.z1, .int .i64 rv.z2] 38)) := Lib.hid (blk_set (blk_set (blk_set (blk_set (blk_set (blk_set (LV.out) 0 (.int .i64 rv.x1)) 1 (.int .i64 rv.x2)) 2 (.int .i64 rv.y1)) 3 (.int .i64 rv.y2)) 4 (.int .i64 rv.z1)) 5 (.int .i64 rv.z2))
   replace NN := Lib.hid (Bset1 (Bset1 (Bset1 (Bset1 (Bset1 (Bset1 (NN.out) (show wr.heap.size ≤ gLV by have := LT_LV.out; omega) 0 (.int .i64 rv.x1)) (show wr.heap.size ≤ gLV by have := LT_LV.out; omega) 1 (.int .i64 rv.x2)) (show wr.heap.size ≤ gLV by have := LT_LV.out; omega) 2 (.int .i64 rv.y1)) (show wr.heap.size ≤ gLV by have := LT_LV.out; omega) 3 (.int .i64 rv.y2)) (show wr.heap.size ≤ gLV by have := LT_LV.out; omega) 4 (.int .i64 rv.z1)) (show wr.heap.size ≤ gLV by have := LT_LV.out; omega) 5 (.int .i64 rv.z2))
   generalize ((((((X8.setCell ⟨gLV, 0, none⟩ (.int .i64 rv.x1)).setCell ⟨gLV, 1, none⟩ (.int .i64 rv.x2)).setCell ⟨gLV, 2, none⟩ (.int .i64 rv.y1)).setCell ⟨gLV, 3, none⟩ (.int .i64 rv.y2)).setCell ⟨gLV, 4, none⟩ (.int .i64 rv.z1)).setCell ⟨gLV, 5, none⟩ (.int .i64 rv.z2)) = W9 at *
   refine tG 22 (.int .i64 0) (some 13) (GK.grow _) rfl (YieldsIf.toG (Or.inl ⟨by rfl, ?_⟩)) (GK.drop (by simp)) ?_
   ·intro X hX
    clear hX
    go_simp
   try simp only [Act.put, zA, zB, zC]
   refine done_G (by kernel_rfl) (fun X10 hX => ?_) _
   replace NN := Lib.hid (Bgo NN.out hX)
   replace OV := Lib.hid (own_next hX OV.out)
   replace BP := Lib.hid (blk_next hX BP.out)
   replace BV := Lib.hid (blk_next hX BV.out)
   replace LV := Lib.hid (blk_next hX LV.out)
   clear hX
   replace NN := Lib.hid (NNo.out.trans (NN.out.mono NNo.out.size))
   clear NNo OVL LBP LBV BP BV
   go_upto_region 10 with fail
   have H63 : Hid (((P.take k).map L).length + 1 ≤ maxLen) := Lib.hid (by rw [kl]; simp [maxLen]; omega)
   have H64 : Hid ((((P.take k).map L).length + 1) * 48 ≤ 140737488355328) := Lib.hid (by rw [kl]; omega)
   have H5 : Hid (w5.heap.size ≤ (X10.alloc (.cells #[.int .i64 rv.x1, .int .i64 rv.x2, .int .i64 rv.y1, .int .i64 rv.y2, .int .i64 rv.z1, .int .i64 rv.z2] 38)).heap.size) := Lib.hid (by rw [World.size_alloc]; have := NN.out.size; omega)
   have OW := Lib.hid (World.ownsRow.alloc OV.out (.cells #[.int .i64 rv.x1, .int .i64 rv.x2, .int .i64 rv.y1, .int .i64 rv.y2, .int .i64 rv.z1, .int .i64 rv.z2] 38))
   have TK : Hid ((P.take (k + 1)).map L = (P.take k).map L ++ [rv]) := Lib.hid (by obtain ⟨q1, q2⟩ := List.getElem?_eq_some_iff.1 HPK.out; rw [← List.take_append_getElem q1, q2, List.map_append, ← HLN.out]; rfl)
   have c_LV_0 := blk_cell LV.out 0 _ rfl
   have f_LV_0 := blk_frozen LV.out 0
   have c_LV_1 := blk_cell LV.out 1 _ rfl
   have f_LV_1 := blk_frozen LV.out 1
   have c_LV_2 := blk_cell LV.out 2 _ rfl
   have f_LV_2 := blk_frozen LV.out 2
   have c_LV_3 := blk_cell LV.out 3 _ rfl
   have f_LV_3 := blk_frozen LV.out 3
   have c_LV_4 := blk_cell LV.out 4 _ rfl
   have f_LV_4 := blk_frozen LV.out 4
   have c_LV_5 := blk_cell LV.out 5 _ rfl
   have f_LV_5 := blk_frozen LV.out 5
   have l_LV := blk_lt LV.out
   go_wp2_with (at_builtin; refine wpList_append_rd _ rfl _ _ 65 rfl w5.heap.size 38 iv (.agg #[.int .i64 0, .int .i64 0, .int .i64 0, .int .i64 0, .int .i64 0, .int .i64 0]) 6 48 und_vecs HIV.out.1 HIV.out.2.1 HIV.out.2.2.1 HIV.out.2.2.2 rfl (by decide) (.slice A0 k c0) _ _ rfl OW.out (some ⟨X10.heap.size, 0, none⟩) 1 1 (v6 rv) rfl (Rd.blk (T := 38) (blk_new X10 _) rfl) (v6_one rv) H63.out H64.out H5.out ?_; intro v9 w9 o9 g9 hat9)
   clear c_LV_0 f_LV_0 c_LV_1 f_LV_1 c_LV_2 f_LV_2 c_LV_3 f_LV_3 c_LV_4 f_LV_4 c_LV_5 f_LV_5 l_LV
   have BG := Lib.hid (own_grown OW.out g9 H5.out)
   have O9 : Hid (OVe w5.heap.size w9 v9 ((P.take (k + 1)).map L)) := Lib.hid (by unfold OVe; rw [TK.out, List.flatMap_append, List.length_append]; simpa using o9)
   have N9 := Lib.hid ((Bal NN.out _).trans BG.out)
   go_roundw
   case rel => exact ⟨k + 1, kk, by go_num, N9, O9⟩
   case measure => simp [intOf]; omega
  ·obtain rfl : k = P.length := by omega
   clear hlt hk
   rw [List.take_length] at OV
   obtain ⟨A3, c3, hv3, hn3, hc3, hr3⟩ := Rd.of_own OV.out
   rw [List.length_map] at hv3 hn3 hr3
   subst hv3
   have RL0 := Lib.hid hr3
   clear hn3 hc3 hr3
   have mk := MK.out
   skip
   go_wp2_with fail
   clear mk
   have NNc := Lib.hid (NNb.out.trans (NN.out.mono SZB.out))
   have RP1 := Lib.hid (RP0.out.next NN.out)
   clear NN OV
   obtain ⟨w7, hw7⟩ : ∃ z, z = wr := ⟨_, rfl⟩
   subst hw7
   have NN : Hid (Below w7.heap.size w7 (w7.alloc (.cells (madeCells #[.bool false] P.length) 4))) := Lib.hid (Bal (Below.refl _ _) _)
   have DN : Hid ((w7.alloc (.cells (madeCells #[.bool false] P.length) 4)).heap[w7.heap.size]? = some (.cells (blv (P.map (hitB L []))).toArray 4)) := Lib.hid (by rw [blv_none, ← made_bools]; exact blk_new w7 _)
   have OO : Hid (OC (w7.heap.size + 1) (w7.alloc (.cells (madeCells #[.bool false] P.length) 4)) (.slice none 0 0) [] []) := Lib.hid (OC.nil _ _)
   have RI0 : Hid (RI L P [] 0) := Lib.hid (RI.start L P)
   generalize w7.alloc (.cells (madeCells #[.bool false] P.length) 4) = w8 at *
   obtain ⟨ic, hi, hz, hs0, hb0⟩ := info_parts infoC
   have HIC := Lib.hid (And.intro hi (And.intro hz (And.intro hs0 hb0)))
   clear hi hz hs0 hb0
   obtain ⟨iR, hi, hz, hs0, hb0⟩ := info_parts infoR
   have HIR := Lib.hid (And.intro hi (And.intro hz (And.intro hs0 hb0)))
   clear hi hz hs0 hb0
   go_loopw [15, 16] (fun v i wr => ∃ (k : Nat) (out : List Cl) (hs : List Value), k ≤ P.length ∧ i = .int .i64 k ∧ Hid (RI L P out k) ∧ Hid (Below w7.heap.size w7 wr) ∧ Hid (wr.heap[w7.heap.size]? = some (.cells (blv (P.map (hitB L out))).toArray 4)) ∧ Hid (OC (w7.heap.size + 1) wr v out hs)) (fun v i _ => P.length - (intOf i).toNat)
   case atStart => exact ⟨0, [], [], by omega, rfl, RI0, NN, DN, OO⟩
   case round =>
    clear NN DN OO RI0
    obtain ⟨k, out, hs, hk, rfl, RI0, NN, DN, OO⟩ := hrel
    by_cases hlt : k < P.length
    ·obtain ⟨p, hpk⟩ := get_some hlt
     have HPK := Lib.hid hpk
     have DK := Lib.hid (show (blv (P.map (hitB L out)))[k]? = some (.bool (hitB L out p)) from blv_get (by rw [List.getElem?_map, hpk]; rfl))
     have kk : k + 1 ≤ P.length := hlt
     have k1 : (k : Int) < (P.length : Int) := by omega
     clear hpk
     by_cases hh : hitB L out p = true
     ·rw [hh] at DK
      have cd := blk_cell DN.out k _ (by rw [List.getElem?_toArray]; exact DK.out)
      have ld := blk_lt DN.out
      go_wp2_with fail
      go_roundw
      case rel => exact ⟨k + 1, out, hs, kk, by go_num, Lib.hid (RI0.out.skip HPK.out hh), NN, DN, OO⟩
      case measure => simp [intOf]; omega
     ·replace hh : hitB L out p = false := by simpa using hh
      rw [hh] at DK
      obtain ⟨s, t, hs, ht, hso, hln⟩ := LS.out k p HPK.out
      have OKV : Hid (okV (L p) = true) := Lib.hid (by rw [hln]; exact subV_ok hso)
      clear hs ht hso hln s t
      obtain ⟨bl, ol, obl, e9, BL0, RLc⟩ := rec_ob RL0.out (by omega)
      subst e9
      have BL7 := Lib.hid BL0
      have RLa := Lib.hid RLc
      have BL := Lib.hid (blk_next NN.out BL0)
      clear BL0 RLc
      obtain ⟨bp, op, obp, e9, BP0, RPc⟩ := rec_ob RP1.out (by omega)
      subst e9
      have BP7 := Lib.hid BP0
      have RPa := Lib.hid RPc
      clear BP0 RPc
      have RLk := Lib.hid (rec_at v6_len RLa.out (show (P.map L)[k]? = some (L p) by rw [List.getElem?_map, HPK.out]; rfl))
      have cd := blk_cell DN.out k _ (by rw [List.getElem?_toArray]; exact DK.out)
      have ld := blk_lt DN.out
      have c0 := RLk.out _ BL.out 0 _ rfl
      simp only [Nat.add_zero] at c0
      have c1 := RLk.out _ BL.out 1 _ rfl
      have c2 := RLk.out _ BL.out 2 _ rfl
      have c3 := RLk.out _ BL.out 3 _ rfl
      have c4 := RLk.out _ BL.out 4 _ rfl
      have c5 := RLk.out _ BL.out 5 _ rfl
      have bl9 := blk_lt BL.out
      go_upto_region 18 with fail
      clear cd ld c0 c1 c2 c3 c4 c5 bl9 BL
      obtain ⟨w0, hw0⟩ : ∃ z, z = wr := ⟨_, rfl⟩
      subst hw0
      generalize hv : L p = v at *
      have HV := Lib.hid hv
      clear hv
      have NG := Lib.hid (fun W => rvneg_calls v OKV.out W)
      have NNo := NN
      have LTC : Hid (w7.heap.size < w0.heap.size) := Lib.hid (blk_lt DN.out)
      have HB : Hid (Below w0.heap.size w0 (w0.alloc (.cells #[.int .i64 v.x1, .int .i64 v.x2, .int .i64 v.y1, .int .i64 v.y2, .int .i64 v.z1, .int .i64 v.z2, .slice none 0 0] 40))) := Lib.hid (Bal (Below.refl _ _) _)
      have CV : Hid ((w0.alloc (.cells #[.int .i64 v.x1, .int .i64 v.x2, .int .i64 v.y1, .int .i64 v.y2, .int .i64 v.z1, .int .i64 v.z2, .slice none 0 0] 40)).heap[w0.heap.size]? = some (.cells #[.int .i64 v.x1, .int .i64 v.x2, .int .i64 v.y1, .int .i64 v.y2, .int .i64 v.z1, .int .i64 v.z2, .slice none 0 0] 40)) := Lib.hid (blk_new w0 _)
      have KX0 : Hid (KX w7.heap.size w0 w0) := Lib.hid (fun g o _ ho => ho)
      have KXF := Lib.hid (KX0.out.next HB.out)
      have DNo : Hid ((w0.alloc (.cells #[.int .i64 v.x1, .int .i64 v.x2, .int .i64 v.y1, .int .i64 v.y2, .int .i64 v.z1, .int .i64 v.z2, .slice none 0 0] 40)).heap[w7.heap.size]? = some (.cells (blv (dnB L P out v k)).toArray 4)) := Lib.hid (by rw [dnB_start RI0.out v]; exact blk_next HB.out DN.out)
      have PO : Hid (OPr (w0.heap.size + 1) (w0.alloc (.cells #[.int .i64 v.x1, .int .i64 v.x2, .int .i64 v.y1, .int .i64 v.y2, .int .i64 v.z1, .int .i64 v.z2, .slice none 0 0] 40)) (.slice none 0 0) (newP L P v k k)) := Lib.hid (by rw [newP_zero]; exact World.ownsRow_nil _ _ _ _)
      replace NN := Lib.hid (Bgo NN.out HB.out)
      clear HB KX0 DN
      generalize w0.alloc (.cells #[.int .i64 v.x1, .int .i64 v.x2, .int .i64 v.y1, .int .i64 v.y2, .int .i64 v.z1, .int .i64 v.z2, .slice none 0 0] 40) = w9 at *
      go_wp2_with fail
      go_loopw [18] (fun i wr => ∃ (b : Nat) (u : Value), k ≤ b ∧ b ≤ P.length ∧ i = .int .i64 b ∧ Hid (Below w7.heap.size w7 wr) ∧ Hid (KX w7.heap.size w0 wr) ∧ Hid (wr.heap[w7.heap.size]? = some (.cells (blv (dnB L P out v b)).toArray 4)) ∧ Hid (wr.heap[w0.heap.size]? = some (.cells #[.int .i64 v.x1, .int .i64 v.x2, .int .i64 v.y1, .int .i64 v.y2, .int .i64 v.z1, .int .i64 v.z2, u] 40)) ∧ Hid (OPr (w0.heap.size + 1) wr u (newP L P v k b))) (fun i _ => P.length - (intOf i).toNat)
      case atStart => exact ⟨k, .slice none 0 0, Nat.le_refl _, by omega, rfl, NN, KXF, DNo, CV, PO⟩
      case round =>
       clear NN KXF DNo CV PO
       obtain ⟨b, u, hkb, hb0, rfl, NN, KXF, DN, CV, PO⟩ := hrel
       obtain ⟨Au, cu, hu0, hun, huc, -⟩ := Rd.of_own PO.out
       subst hu0
       clear hun huc
       by_cases hlt2 : b < P.length
       ·obtain ⟨q, hqk⟩ := get_some hlt2
        have HQK := Lib.hid hqk
        have NXB := Lib.hid (newP_step (L := L) (v := v) hkb hqk)
        have DQ := Lib.hid (blv_get (dnB_get (L := L) (out := out) (v := v) hqk))
        have b2 : b + 1 ≤ P.length := hlt2
        have kb1 : k ≤ b + 1 := by omega
        have b1 : (b : Int) < (P.length : Int) := by omega
        clear hqk
        have BL := Lib.hid (blk_next NN.out BL7.out)
        have BP := Lib.hid (blk_next NN.out BP7.out)
        have RLb := Lib.hid (rec_at v6_len RLa.out (show (P.map L)[b]? = some (L q) by rw [List.getElem?_map, HQK.out]; rfl))
        have RPb := Lib.hid (rec_at pr2_len RPa.out HQK.out)
        generalize hlq : L q = lv at *
        have HLQ := Lib.hid hlq
        clear hlq
        go_upto_region 21 with fail
        by_cases h1 : lv = v
        ·have d1 : decide (lv = v) = true := decide_eq_true h1
         have HIT : Hid (isPM (L q) v = true) := Lib.hid (by rw [HLQ.out]; unfold isPM; rw [d1]; rfl)
         clear h1
         skip
         have HDRW := Lib.hid (Below.drew (Below.refl wr.heap.size wr))
         replace NN := Lib.hid (Bgo NN.out HDRW.out)
         replace KXF := Lib.hid (KX.next KXF.out HDRW.out)
         replace DN := Lib.hid (blk_next HDRW.out DN.out)
         replace PO := Lib.hid (opr_next PO.out HDRW.out)
         replace BL := Lib.hid (blk_next HDRW.out BL.out)
         replace BP := Lib.hid (blk_next HDRW.out BP.out)
         replace CV := Lib.hid (blk_next HDRW.out CV.out)
         clear HDRW
         have HAL : Hid (∀ kx9 : Nat, GK [(3, bl, obl), (7, bl, obl)] kx9 wr.drew) := Lib.hid (fun kx9 => fun px9 hp e => by
          simp only [List.mem_cons, List.not_mem_nil, or_false] at hp
          rcases hp with rfl | rfl
          ·exact BL.out
          ·exact BL.out
         )
         refine region_G (S := GK [(3, bl, obl), (7, bl, obl)]) (by kernel_rfl) ?_
         refine tG 0 (.slice (some ⟨bl, ol, none⟩) P.length c3) (some 89) (GK.grow _) rfl (YieldsIf.toG (Or.inl ⟨by rfl, ?_⟩)) (GK.drop (by simp)) ?_
         ·intro X hX
          clear hX
          go_simp
         try simp only [Act.put, zA, zB, zC]
         refine tG 1 (.int .i64 (b : Int)) (some 90) (GK.grow _) rfl (YieldsIf.toG (Or.inl ⟨by rfl, ?_⟩)) (GK.drop (by simp)) ?_
         ·intro X hX
          clear hX
          go_simp
         try simp only [Act.put, zA, zB, zC]
         refine tG 2 (.pointer (some ⟨bl, ol + b * 6, none⟩)) (some 91) (GK.grow _) rfl (YieldsIf.toG (Or.inl ⟨by rfl, ?_⟩)) (GK.drop (by simp)) ?_
         ·intro X hX
          clear hX
          go_simp
         try simp only [Act.put, zA, zB, zC]
         refine tG 3 (.agg #[.int .i64 lv.x1, .int .i64 lv.x2, .int .i64 lv.y1, .int .i64 lv.y2, .int .i64 lv.z1, .int .i64 lv.z2]) (some 92) (GK.grow _) rfl (YieldsIf.toG (Or.inl ⟨by rfl, ?_⟩)) (HAL.out 3) ?_
         ·intro X hX
          have hh := hX (3, bl, obl) (List.Mem.head _) rfl
          have hh0 := RLb.out _ hh 0 _ rfl
          simp only [Nat.add_zero] at hh0
          have hh1 := RLb.out _ hh 1 _ rfl
          have hh2 := RLb.out _ hh 2 _ rfl
          have hh3 := RLb.out _ hh 3 _ rfl
          have hh4 := RLb.out _ hh 4 _ rfl
          have hh5 := RLb.out _ hh 5 _ rfl
          have hhl := blk_lt hh
          clear hh
          clear hX
          go_simp
         try simp only [Act.put, zA, zB, zC]
         refine tG 4 (.slice (some ⟨bl, ol, none⟩) P.length c3) (some 93) (GK.grow _) rfl (YieldsIf.toG (Or.inl ⟨by rfl, ?_⟩)) (GK.drop (by simp)) ?_
         ·intro X hX
          clear hX
          go_simp
         try simp only [Act.put, zA, zB, zC]
         refine tG 5 (.int .i64 (k : Int)) (some 94) (GK.grow _) rfl (YieldsIf.toG (Or.inl ⟨by rfl, ?_⟩)) (GK.drop (by simp)) ?_
         ·intro X hX
          clear hX
          go_simp
         try simp only [Act.put, zA, zB, zC]
         refine tG 6 (.pointer (some ⟨bl, ol + k * 6, none⟩)) (some 95) (GK.grow _) rfl (YieldsIf.toG (Or.inl ⟨by rfl, ?_⟩)) (GK.drop (by simp)) ?_
         ·intro X hX
          clear hX
          go_simp
         try simp only [Act.put, zA, zB, zC]
         refine tG 7 (.agg #[.int .i64 v.x1, .int .i64 v.x2, .int .i64 v.y1, .int .i64 v.y2, .int .i64 v.z1, .int .i64 v.z2]) (some 96) (GK.grow _) rfl (YieldsIf.toG (Or.inl ⟨by rfl, ?_⟩)) (HAL.out 7) ?_
         ·intro X hX
          have hh := hX (7, bl, obl) (List.Mem.tail _ (List.Mem.head _)) rfl
          have hh0 := RLk.out _ hh 0 _ rfl
          simp only [Nat.add_zero] at hh0
          have hh1 := RLk.out _ hh 1 _ rfl
          have hh2 := RLk.out _ hh 2 _ rfl
          have hh3 := RLk.out _ hh 3 _ rfl
          have hh4 := RLk.out _ hh 4 _ rfl
          have hh5 := RLk.out _ hh 5 _ rfl
          have hhl := blk_lt hh
          clear hh
          clear hX
          go_simp
         try simp only [Act.put, zA, zB, zC]
         refine tG 8 (.bool true) (some 97) (GK.grow _) rfl (YieldsIf.toG (Or.inl ⟨by rfl, ?_⟩)) (GK.drop (by simp)) ?_
         ·intro X hX
          clear hX
          go_simp
         try simp only [Act.put, zA, zB, zC]
         refine tG 9 (.bool true) (some 98) (GK.grow _) rfl (YieldsIf.toG (Or.inl ⟨by rfl, ?_⟩)) (GK.drop (by simp)) ?_
         ·intro X hX
          clear hX
          go_simp
         try simp only [Act.put, zA, zB, zC]
         refine tG 10 (undef) (some 99) (GK.grow _) rfl (YieldsIf.toG (Or.inr ⟨by rfl, rfl⟩)) (GK.drop (by simp)) ?_
         try simp only [Act.put, zA, zB, zC]
         refine tG 11 (undef) (some 100) (GK.grow _) rfl (YieldsIf.toG (Or.inr ⟨by rfl, rfl⟩)) (GK.drop (by simp)) ?_
         try simp only [Act.put, zA, zB, zC]
         refine tG 12 (undef) (some 101) (GK.grow _) rfl (YieldsIf.toG (Or.inr ⟨by rfl, rfl⟩)) (GK.drop (by simp)) ?_
         try simp only [Act.put, zA, zB, zC]
         refine tG 13 (undef) (some 102) (GK.grow _) rfl (YieldsIf.toG (Or.inr ⟨by rfl, rfl⟩)) (GK.drop (by simp)) ?_
         try simp only [Act.put, zA, zB, zC]
         refine tG 14 (undef) (some 103) (GK.grow _) rfl (YieldsIf.toG (Or.inr ⟨by rfl, rfl⟩)) (GK.drop (by simp)) ?_
         try simp only [Act.put, zA, zB, zC]
         refine tG 15 (undef) (some 104) (GK.grow _) rfl (YieldsIf.toG (Or.inr ⟨by rfl, rfl⟩)) (GK.drop (by simp)) ?_
         try simp only [Act.put, zA, zB, zC]
         refine tG 16 (undef) (some 105) (GK.grow _) rfl (YieldsIf.toG (Or.inr ⟨by rfl, rfl⟩)) (GK.drop (by simp)) ?_
         try simp only [Act.put, zA, zB, zC]
         refine tG 17 (undef) (some 106) (GK.grow _) rfl (YieldsIf.toG (Or.inr ⟨by rfl, rfl⟩)) (GK.drop (by simp)) ?_
         try simp only [Act.put, zA, zB, zC]
         refine tG 18 (undef) (some 107) (GK.grow _) rfl (YieldsIf.toG (Or.inr ⟨by rfl, rfl⟩)) (GK.drop (by simp)) ?_
         try simp only [Act.put, zA, zB, zC]
         refine tG 19 (undef) (some 108) (GK.grow _) rfl (YieldsIf.toG (Or.inr ⟨by rfl, rfl⟩)) (GK.drop (by simp)) ?_
         try simp only [Act.put, zA, zB, zC]
         refine tG 20 (.bool true) (some 109) (GK.grow _) rfl (YieldsIf.toG (Or.inl ⟨by rfl, ?_⟩)) (GK.drop (by simp)) ?_
         ·intro X hX
          clear hX
          go_simp
         try simp only [Act.put, zA, zB, zC]
         clear HAL
         refine done_G (by kernel_rfl) (fun X11 hX => ?_) _
         replace NN := Lib.hid (Bgo NN.out hX)
         replace KXF := Lib.hid (KX.next KXF.out hX)
         replace DN := Lib.hid (blk_next hX DN.out)
         replace PO := Lib.hid (opr_next PO.out hX)
         replace BL := Lib.hid (blk_next hX BL.out)
         replace BP := Lib.hid (blk_next hX BP.out)
         replace CV := Lib.hid (blk_next hX CV.out)
         clear hX
         go_upto_region 22 with fail
         have LB : Hid (w0.heap.size + 1 ≤ X11.heap.size) := Lib.hid (Nat.succ_le_of_lt (blk_lt CV.out))
         have HDRW := Lib.hid (Below.drew (Below.refl X11.heap.size X11))
         replace NN := Lib.hid (Bgo NN.out HDRW.out)
         replace KXF := Lib.hid (KX.next KXF.out HDRW.out)
         replace DN := Lib.hid (blk_next HDRW.out DN.out)
         replace PO := Lib.hid (opr_next PO.out HDRW.out)
         replace BL := Lib.hid (blk_next HDRW.out BL.out)
         replace BP := Lib.hid (blk_next HDRW.out BP.out)
         replace LB := Lib.hid (Nat.le_trans LB.out HDRW.out.size)
         replace CV := Lib.hid (blk_next HDRW.out CV.out)
         clear HDRW
         have HAL : Hid (∀ kx9 : Nat, GK [(1, w0.heap.size, .cells #[.int .i64 v.x1, .int .i64 v.x2, .int .i64 v.y1, .int .i64 v.y2, .int .i64 v.z1, .int .i64 v.z2, .slice Au (newP L P v k b).length cu] 40), (5, bp, obp)] kx9 X11.drew) := Lib.hid (fun kx9 => fun px9 hp e => by
          simp only [List.mem_cons, List.not_mem_nil, or_false] at hp
          rcases hp with rfl | rfl
          ·exact CV.out
          ·exact BP.out
         )
         refine region_G (S := GK [(1, w0.heap.size, .cells #[.int .i64 v.x1, .int .i64 v.x2, .int .i64 v.y1, .int .i64 v.y2, .int .i64 v.z1, .int .i64 v.z2, .slice Au (newP L P v k b).length cu] 40), (5, bp, obp)]) (by kernel_rfl) ?_
         refine tG 0 (.pointer (some ⟨w0.heap.size, 6, none⟩)) (some 110) (GK.grow _) rfl (YieldsIf.toG (Or.inl ⟨by rfl, ?_⟩)) (GK.drop (by simp)) ?_
         ·intro X hX
          clear hX
          go_simp
         try simp only [Act.put, zA, zB, zC]
         refine tG 1 (.slice Au (newP L P v k b).length cu) (some 111) (GK.grow _) rfl (YieldsIf.toG (Or.inl ⟨by rfl, ?_⟩)) (HAL.out 1) ?_
         ·intro X hX
          have hh := hX (1, w0.heap.size, .cells #[.int .i64 v.x1, .int .i64 v.x2, .int .i64 v.y1, .int .i64 v.y2, .int .i64 v.z1, .int .i64 v.z2, .slice Au (newP L P v k b).length cu] 40) (List.Mem.head _) rfl
          have hh0 := blk_cell hh 6 _ rfl
          have hhl := blk_lt hh
          clear hh
          clear hX
          go_simp
         try simp only [Act.put, zA, zB, zC]
         refine tG 2 (.slice (some ⟨bp, op, none⟩) P.length c2) (some 112) (GK.grow _) rfl (YieldsIf.toG (Or.inl ⟨by rfl, ?_⟩)) (GK.drop (by simp)) ?_
         ·intro X hX
          clear hX
          go_simp
         try simp only [Act.put, zA, zB, zC]
         refine tG 3 (.int .i64 (b : Int)) (some 113) (GK.grow _) rfl (YieldsIf.toG (Or.inl ⟨by rfl, ?_⟩)) (GK.drop (by simp)) ?_
         ·intro X hX
          clear hX
          go_simp
         try simp only [Act.put, zA, zB, zC]
         refine tG 4 (.pointer (some ⟨bp, op + b * 2, none⟩)) (some 114) (GK.grow _) rfl (YieldsIf.toG (Or.inl ⟨by rfl, ?_⟩)) (GK.drop (by simp)) ?_
         ·intro X hX
          clear hX
          go_simp
         try simp only [Act.put, zA, zB, zC]
         refine tG 5 (.agg #[.int .i64 (q.1 : Int), .int .i64 (q.2 : Int)]) (some 115) (GK.grow _) rfl (YieldsIf.toG (Or.inl ⟨by rfl, ?_⟩)) (HAL.out 5) ?_
         ·intro X hX
          have hh := hX (5, bp, obp) (List.Mem.tail _ (List.Mem.head _)) rfl
          have hh0 := RPb.out _ hh 0 _ rfl
          simp only [Nat.add_zero] at hh0
          have hh1 := RPb.out _ hh 1 _ rfl
          have hhl := blk_lt hh
          clear hh
          clear hX
          go_simp
         try simp only [Act.put, zA, zB, zC]
         refine only_G 6 (by kernel_rfl) rfl (fun X12 hX K' hK' => ?_)
         replace NN := Lib.hid (Bgo NN.out hX)
         replace KXF := Lib.hid (KX.next KXF.out hX)
         replace DN := Lib.hid (blk_next hX DN.out)
         replace PO := Lib.hid (opr_next PO.out hX)
         replace BL := Lib.hid (blk_next hX BL.out)
         replace BP := Lib.hid (blk_next hX BP.out)
         replace LB := Lib.hid (Nat.le_trans LB.out hX.size)
         replace CV := Lib.hid (blk_next hX CV.out)
         replace HAL := Lib.hid (fun kx9 => GK.grow _ _ _ _ (HAL.out kx9) hX)
         clear hX
         go_simp
         refine hK'.out _ _ (fun _ _ h => h.alloc _) ?_
         clear hK' K'
         try simp only [Act.put, zA, zB, zC]
         have HB := Lib.hid (Bal (Below.refl X12.heap.size X12) (.cells #[.int .i64 (q.1 : Int), .int .i64 (q.2 : Int)] 43))
         have SL : Hid ((X12.alloc (.cells #[.int .i64 (q.1 : Int), .int .i64 (q.2 : Int)] 43)).heap[X12.heap.size]? = some (.cells #[.int .i64 (q.1 : Int), .int .i64 (q.2 : Int)] 43)) := Lib.hid (blk_new X12 (.cells #[.int .i64 (q.1 : Int), .int .i64 (q.2 : Int)] 43))
         replace NN := Lib.hid (Bgo NN.out HB.out)
         replace KXF := Lib.hid (KX.next KXF.out HB.out)
         replace DN := Lib.hid (blk_next HB.out DN.out)
         replace PO := Lib.hid (opr_next PO.out HB.out)
         replace BL := Lib.hid (blk_next HB.out BL.out)
         replace BP := Lib.hid (blk_next HB.out BP.out)
         replace LB := Lib.hid (Nat.le_trans LB.out HB.out.size)
         replace CV := Lib.hid (blk_next HB.out CV.out)
         replace HAL := Lib.hid (fun kx9 => GK.grow _ _ _ _ (HAL.out kx9) HB.out)
         clear HB
         generalize X12.alloc (.cells #[.int .i64 (q.1 : Int), .int .i64 (q.2 : Int)] 43) = W13 at *
         generalize X12.heap.size = gSL at *
         refine only_G 7 (by kernel_rfl) rfl (fun X14 hX K' hK' => ?_)
         replace NN := Lib.hid (Bgo NN.out hX)
         replace KXF := Lib.hid (KX.next KXF.out hX)
         replace DN := Lib.hid (blk_next hX DN.out)
         replace PO := Lib.hid (opr_next PO.out hX)
         replace BL := Lib.hid (blk_next hX BL.out)
         replace BP := Lib.hid (blk_next hX BP.out)
         replace LB := Lib.hid (Nat.le_trans LB.out hX.size)
         replace CV := Lib.hid (blk_next hX CV.out)
         replace SL := Lib.hid (blk_next hX SL.out)
         replace HAL := Lib.hid (fun kx9 => GK.grow _ _ _ _ (HAL.out kx9) hX)
         clear hX
         refine step_append_rd (P := Tryz.prog) X14 rfl _ _ 31 rfl (w0.heap.size + 1) 43 iR (.agg #[.int .i64 0, .int .i64 0]) 2 16 und_prs HIR.out.1 HIR.out.2.1 HIR.out.2.2.1 HIR.out.2.2.2 rfl (by decide) (.slice Au (newP L P v k b).length cu) _ _ rfl PO.out (some ⟨gSL, 0, none⟩) 1 1 (pr2 q) rfl (Rd.blk SL.out rfl) (pr2_one q) ?_ ?_ LB.out ?_
         ·have := newP_len L P v k b; have := P8.out; simp [maxLen]; omega
         ·have := newP_len L P v k b; have := P8.out; omega
         intro v9 wz o9 g9 t9
         obtain ⟨A9, c9, hv9, -, -, -⟩ := Rd.of_own o9
         subst hv9
         have BG := Lib.hid (own_grown PO.out g9 LB.out)
         refine hK'.out _ _ (fun kk hk hS => ?_) ?_
         ·intro px9 hp e
          simp only [List.mem_cons, List.not_mem_nil, or_false] at hp
          rcases hp with rfl | rfl <;> (subst e; exact bfl (by kernel_rfl) hk)
         clear hK' K' HAL
         try simp only [Act.put, zA, zB, zC]
         have PO9 : Hid (OPr (w0.heap.size + 1) wz (.slice A9 ((newP L P v k b).length + 1) c9) (newP L P v k b ++ [q])) := Lib.hid (by unfold OPr; rw [List.length_append, List.flatMap_append]; simpa using o9)
         replace NN := Lib.hid (NN.out.trans (BG.out.mono (show w7.heap.size ≤ w0.heap.size + 1 by have := LTC.out; omega)))
         replace KXF := Lib.hid (KXF.out.low BG.out (Nat.le_succ _))
         replace DN := Lib.hid (blk_B BG.out DN.out (by have := LTC.out; omega))
         replace CV := Lib.hid (blk_B BG.out CV.out (Nat.lt_succ_self _))
         clear SL BL BP PO LB o9 g9 t9 BG
         refine tG 8 (.pointer (some ⟨w0.heap.size, 6, none⟩)) (some 118) (GK.grow _) rfl (YieldsIf.toG (Or.inl ⟨by rfl, ?_⟩)) (GK.drop (by simp)) ?_
         ·intro X hX
          clear hX
          go_simp
         try simp only [Act.put, zA, zB, zC]
         refine only_G 9 (by kernel_rfl) rfl (fun X15 hX K' hK' => ?_)
         replace NN := Lib.hid (Bgo NN.out hX)
         replace KXF := Lib.hid (KX.next KXF.out hX)
         replace DN := Lib.hid (blk_next hX DN.out)
         replace PO9 := Lib.hid (opr_next PO9.out hX)
         replace CV := Lib.hid (blk_next hX CV.out)
         skip
         clear hX
         have c_CV_0 := blk_cell CV.out 0 _ rfl
         have f_CV_0 := blk_frozen CV.out 0
         have c_CV_1 := blk_cell CV.out 1 _ rfl
         have f_CV_1 := blk_frozen CV.out 1
         have c_CV_2 := blk_cell CV.out 2 _ rfl
         have f_CV_2 := blk_frozen CV.out 2
         have c_CV_3 := blk_cell CV.out 3 _ rfl
         have f_CV_3 := blk_frozen CV.out 3
         have c_CV_4 := blk_cell CV.out 4 _ rfl
         have f_CV_4 := blk_frozen CV.out 4
         have c_CV_5 := blk_cell CV.out 5 _ rfl
         have f_CV_5 := blk_frozen CV.out 5
         have c_CV_6 := blk_cell CV.out 6 _ rfl
         have f_CV_6 := blk_frozen CV.out 6
         have l_CV := blk_lt CV.out
         go_simp
         clear c_CV_0 f_CV_0 c_CV_1 f_CV_1 c_CV_2 f_CV_2 c_CV_3 f_CV_3 c_CV_4 f_CV_4 c_CV_5 f_CV_5 c_CV_6 f_CV_6 l_CV
         refine hK'.out _ _ (fun kk hk hS => ?_) ?_
         ·have HN : ∀ px9 ∈ ([(1, w0.heap.size, .cells #[.int .i64 v.x1, .int .i64 v.x2, .int .i64 v.y1, .int .i64 v.y2, .int .i64 v.z1, .int .i64 v.z2, .slice Au (newP L P v k b).length cu] 40), (5, bp, obp)] : List (Nat × Nat × Obj)), px9.1 = kk → px9.2.1 ≠ w0.heap.size := fun px9 hp e => by
           simp only [List.mem_cons, List.not_mem_nil, or_false] at hp
           rcases hp with rfl | rfl
           ·subst e
            exact bfl (by kernel_rfl) hk
           ·subst e
            exact bfl (by kernel_rfl) hk
          exact GK.set hS HN
         clear hK' K'
         try simp only [Act.put, zA, zB, zC]
         replace KXF := Lib.hid (KX.set (KXF.out) (Or.inr (Nat.le_refl _)) 6 (.slice A9 ((newP L P v k b).length + 1) c9))
         replace DN := Lib.hid (blk_set_other (b' := w0.heap.size) (DN.out) (by have := LTC.out; omega) 6 (.slice A9 ((newP L P v k b).length + 1) c9))
         replace PO9 := Lib.hid (opr_set (PO9.out) (Nat.lt_succ_self _) 6 (.slice A9 ((newP L P v k b).length + 1) c9))
         replace CV : Hid ((X15.setCell ⟨w0.heap.size, 6, none⟩ (.slice A9 ((newP L P v k b).length + 1) c9)).heap[w0.heap.size]? = some (.cells #[.int .i64 v.x1, .int .i64 v.x2, .int .i64 v.y1, .int .i64 v.y2, .int .i64 v.z1, .int .i64 v.z2, .slice A9 ((newP L P v k b).length + 1) c9] 40)) := Lib.hid (blk_set (CV.out) 6 (.slice A9 ((newP L P v k b).length + 1) c9))
         replace NN := Lib.hid (Bset1 (NN.out) (show w7.heap.size ≤ w0.heap.size by have := LTC.out; omega) 6 (.slice A9 ((newP L P v k b).length + 1) c9))
         generalize (X15.setCell ⟨w0.heap.size, 6, none⟩ (.slice A9 ((newP L P v k b).length + 1) c9)) = W16 at *
         refine done_G (by kernel_rfl) (fun X17 hX => ?_) _
         replace NN := Lib.hid (Bgo NN.out hX)
         replace KXF := Lib.hid (KX.next KXF.out hX)
         replace DN := Lib.hid (blk_next hX DN.out)
         replace PO9 := Lib.hid (opr_next PO9.out hX)
         replace CV := Lib.hid (blk_next hX CV.out)
         clear hX
         go_upto_region 23 with fail
         have cu9 := blk_cell DN.out b _ (by rw [List.getElem?_toArray]; exact DQ.out)
         have lu9 := blk_lt DN.out
         have fu9 := blk_frozen DN.out b
         go_wp2_with fail
         clear cu9 lu9 fu9
         have DN9 : Hid ((X17.setCell ⟨w7.heap.size, b, none⟩ (.bool true)).heap[w7.heap.size]? = some (.cells (blv (dnB L P out v (b + 1))).toArray 4)) := Lib.hid (by have h := blk_set DN.out b (.bool true); rw [List.setIfInBounds_toArray, ← blv_set, ← dnB_hit HQK.out HIT.out] at h; exact h)
         have e9 : newP L P v k (b + 1) = newP L P v k b ++ [q] := by rw [NXB.out, if_pos (by rw [← HLQ.out]; exact HIT.out)]
         go_roundw
         case rel => exact ⟨b + 1, _, kb1, b2, by go_num, Lib.hid (Bset1 NN.out (Nat.le_refl _) b (.bool true)), Lib.hid (KX.set KXF.out (Or.inl rfl) b (.bool true)), DN9, Lib.hid (blk_set_other (b' := w7.heap.size) CV.out (by have := LTC.out; omega) b (.bool true)), by rw [e9]; exact Lib.hid (opr_set PO9.out (by have := LTC.out; omega) b (.bool true))⟩
         case measure => simp [intOf]; omega
        by_cases h2 : lv = negV v
        ·have d1 : decide (lv = v) = false := decide_eq_false h1
         have d2 : decide (lv = negV v) = true := decide_eq_true h2
         have HIT : Hid (isPM (L q) v = true) := Lib.hid (by rw [HLQ.out]; unfold isPM; rw [d2]; simp)
         clear h1 h2
         skip
         have HDRW := Lib.hid (Below.drew (Below.refl wr.heap.size wr))
         replace NN := Lib.hid (Bgo NN.out HDRW.out)
         replace KXF := Lib.hid (KX.next KXF.out HDRW.out)
         replace DN := Lib.hid (blk_next HDRW.out DN.out)
         replace PO := Lib.hid (opr_next PO.out HDRW.out)
         replace BL := Lib.hid (blk_next HDRW.out BL.out)
         replace BP := Lib.hid (blk_next HDRW.out BP.out)
         replace CV := Lib.hid (blk_next HDRW.out CV.out)
         clear HDRW
         have HAL : Hid (∀ kx9 : Nat, GK [(3, bl, obl), (7, bl, obl), (13, bl, obl), (17, bl, obl)] kx9 wr.drew) := Lib.hid (fun kx9 => fun px9 hp e => by
          simp only [List.mem_cons, List.not_mem_nil, or_false] at hp
          rcases hp with rfl | rfl | rfl | rfl
          ·exact BL.out
          ·exact BL.out
          ·exact BL.out
          ·exact BL.out
         )
         refine region_G (S := GK [(3, bl, obl), (7, bl, obl), (13, bl, obl), (17, bl, obl)]) (by kernel_rfl) ?_
         refine tG 0 (.slice (some ⟨bl, ol, none⟩) P.length c3) (some 89) (GK.grow _) rfl (YieldsIf.toG (Or.inl ⟨by rfl, ?_⟩)) (GK.drop (by simp)) ?_
         ·intro X hX
          clear hX
          go_simp
         try simp only [Act.put, zA, zB, zC]
         refine tG 1 (.int .i64 (b : Int)) (some 90) (GK.grow _) rfl (YieldsIf.toG (Or.inl ⟨by rfl, ?_⟩)) (GK.drop (by simp)) ?_
         ·intro X hX
          clear hX
          go_simp
         try simp only [Act.put, zA, zB, zC]
         refine tG 2 (.pointer (some ⟨bl, ol + b * 6, none⟩)) (some 91) (GK.grow _) rfl (YieldsIf.toG (Or.inl ⟨by rfl, ?_⟩)) (GK.drop (by simp)) ?_
         ·intro X hX
          clear hX
          go_simp
         try simp only [Act.put, zA, zB, zC]
         refine tG 3 (.agg #[.int .i64 lv.x1, .int .i64 lv.x2, .int .i64 lv.y1, .int .i64 lv.y2, .int .i64 lv.z1, .int .i64 lv.z2]) (some 92) (GK.grow _) rfl (YieldsIf.toG (Or.inl ⟨by rfl, ?_⟩)) (HAL.out 3) ?_
         ·intro X hX
          have hh := hX (3, bl, obl) (List.Mem.head _) rfl
          have hh0 := RLb.out _ hh 0 _ rfl
          simp only [Nat.add_zero] at hh0
          have hh1 := RLb.out _ hh 1 _ rfl
          have hh2 := RLb.out _ hh 2 _ rfl
          have hh3 := RLb.out _ hh 3 _ rfl
          have hh4 := RLb.out _ hh 4 _ rfl
          have hh5 := RLb.out _ hh 5 _ rfl
          have hhl := blk_lt hh
          clear hh
          clear hX
          go_simp
         try simp only [Act.put, zA, zB, zC]
         refine tG 4 (.slice (some ⟨bl, ol, none⟩) P.length c3) (some 93) (GK.grow _) rfl (YieldsIf.toG (Or.inl ⟨by rfl, ?_⟩)) (GK.drop (by simp)) ?_
         ·intro X hX
          clear hX
          go_simp
         try simp only [Act.put, zA, zB, zC]
         refine tG 5 (.int .i64 (k : Int)) (some 94) (GK.grow _) rfl (YieldsIf.toG (Or.inl ⟨by rfl, ?_⟩)) (GK.drop (by simp)) ?_
         ·intro X hX
          clear hX
          go_simp
         try simp only [Act.put, zA, zB, zC]
         refine tG 6 (.pointer (some ⟨bl, ol + k * 6, none⟩)) (some 95) (GK.grow _) rfl (YieldsIf.toG (Or.inl ⟨by rfl, ?_⟩)) (GK.drop (by simp)) ?_
         ·intro X hX
          clear hX
          go_simp
         try simp only [Act.put, zA, zB, zC]
         refine tG 7 (.agg #[.int .i64 v.x1, .int .i64 v.x2, .int .i64 v.y1, .int .i64 v.y2, .int .i64 v.z1, .int .i64 v.z2]) (some 96) (GK.grow _) rfl (YieldsIf.toG (Or.inl ⟨by rfl, ?_⟩)) (HAL.out 7) ?_
         ·intro X hX
          have hh := hX (7, bl, obl) (List.Mem.tail _ (List.Mem.head _)) rfl
          have hh0 := RLk.out _ hh 0 _ rfl
          simp only [Nat.add_zero] at hh0
          have hh1 := RLk.out _ hh 1 _ rfl
          have hh2 := RLk.out _ hh 2 _ rfl
          have hh3 := RLk.out _ hh 3 _ rfl
          have hh4 := RLk.out _ hh 4 _ rfl
          have hh5 := RLk.out _ hh 5 _ rfl
          have hhl := blk_lt hh
          clear hh
          clear hX
          go_simp
         try simp only [Act.put, zA, zB, zC]
         refine tG 8 (.bool false) (some 97) (GK.grow _) rfl (YieldsIf.toG (Or.inl ⟨by rfl, ?_⟩)) (GK.drop (by simp)) ?_
         ·intro X hX
          clear hX
          go_simp
         try simp only [Act.put, zA, zB, zC]
         refine tG 9 (.bool false) (some 98) (GK.grow _) rfl (YieldsIf.toG (Or.inl ⟨by rfl, ?_⟩)) (GK.drop (by simp)) ?_
         ·intro X hX
          clear hX
          go_simp
         try simp only [Act.put, zA, zB, zC]
         refine tG 10 (.slice (some ⟨bl, ol, none⟩) P.length c3) (some 99) (GK.grow _) rfl (YieldsIf.toG (Or.inl ⟨by rfl, ?_⟩)) (GK.drop (by simp)) ?_
         ·intro X hX
          clear hX
          go_simp
         try simp only [Act.put, zA, zB, zC]
         refine tG 11 (.int .i64 (b : Int)) (some 100) (GK.grow _) rfl (YieldsIf.toG (Or.inl ⟨by rfl, ?_⟩)) (GK.drop (by simp)) ?_
         ·intro X hX
          clear hX
          go_simp
         try simp only [Act.put, zA, zB, zC]
         refine tG 12 (.pointer (some ⟨bl, ol + b * 6, none⟩)) (some 101) (GK.grow _) rfl (YieldsIf.toG (Or.inl ⟨by rfl, ?_⟩)) (GK.drop (by simp)) ?_
         ·intro X hX
          clear hX
          go_simp
         try simp only [Act.put, zA, zB, zC]
         refine tG 13 (.agg #[.int .i64 lv.x1, .int .i64 lv.x2, .int .i64 lv.y1, .int .i64 lv.y2, .int .i64 lv.z1, .int .i64 lv.z2]) (some 102) (GK.grow _) rfl (YieldsIf.toG (Or.inl ⟨by rfl, ?_⟩)) (HAL.out 13) ?_
         ·intro X hX
          have hh := hX (13, bl, obl) (List.Mem.tail _ (List.Mem.tail _ (List.Mem.head _))) rfl
          have hh0 := RLb.out _ hh 0 _ rfl
          simp only [Nat.add_zero] at hh0
          have hh1 := RLb.out _ hh 1 _ rfl
          have hh2 := RLb.out _ hh 2 _ rfl
          have hh3 := RLb.out _ hh 3 _ rfl
          have hh4 := RLb.out _ hh 4 _ rfl
          have hh5 := RLb.out _ hh 5 _ rfl
          have hhl := blk_lt hh
          clear hh
          clear hX
          go_simp
         try simp only [Act.put, zA, zB, zC]
         refine tG 14 (.slice (some ⟨bl, ol, none⟩) P.length c3) (some 103) (GK.grow _) rfl (YieldsIf.toG (Or.inl ⟨by rfl, ?_⟩)) (GK.drop (by simp)) ?_
         ·intro X hX
          clear hX
          go_simp
         try simp only [Act.put, zA, zB, zC]
         refine tG 15 (.int .i64 (k : Int)) (some 104) (GK.grow _) rfl (YieldsIf.toG (Or.inl ⟨by rfl, ?_⟩)) (GK.drop (by simp)) ?_
         ·intro X hX
          clear hX
          go_simp
         try simp only [Act.put, zA, zB, zC]
         refine tG 16 (.pointer (some ⟨bl, ol + k * 6, none⟩)) (some 105) (GK.grow _) rfl (YieldsIf.toG (Or.inl ⟨by rfl, ?_⟩)) (GK.drop (by simp)) ?_
         ·intro X hX
          clear hX
          go_simp
         try simp only [Act.put, zA, zB, zC]
         refine tG 17 (.agg #[.int .i64 v.x1, .int .i64 v.x2, .int .i64 v.y1, .int .i64 v.y2, .int .i64 v.z1, .int .i64 v.z2]) (some 106) (GK.grow _) rfl (YieldsIf.toG (Or.inl ⟨by rfl, ?_⟩)) (HAL.out 17) ?_
         ·intro X hX
          have hh := hX (17, bl, obl) (List.Mem.tail _ (List.Mem.tail _ (List.Mem.tail _ (List.Mem.head _)))) rfl
          have hh0 := RLk.out _ hh 0 _ rfl
          simp only [Nat.add_zero] at hh0
          have hh1 := RLk.out _ hh 1 _ rfl
          have hh2 := RLk.out _ hh 2 _ rfl
          have hh3 := RLk.out _ hh 3 _ rfl
          have hh4 := RLk.out _ hh 4 _ rfl
          have hh5 := RLk.out _ hh 5 _ rfl
          have hhl := blk_lt hh
          clear hh
          clear hX
          go_simp
         try simp only [Act.put, zA, zB, zC]
         have CFn : ∀ (args : Array Value) (W : World), Sem.run Tryz.prog (callFunc 12 args) W = .ok (.enter 12 args) W := fun _ _ => by kernel_rfl
         refine tG 18 (.agg #[.int .i64 (negV v).x1, .int .i64 (negV v).x2, .int .i64 (negV v).y1, .int .i64 (negV v).y2, .int .i64 (negV v).z1, .int .i64 (negV v).z2]) (some 107) (GK.grow _) rfl (yieldsG_call 12 #[.agg #[.int .i64 v.x1, .int .i64 v.x2, .int .i64 v.y1, .int .i64 v.y2, .int .i64 v.z1, .int .i64 v.z2]] (by rfl) ?_ (fun X hS => NG.out X)) (GK.drop (by simp)) ?_
         ·intro X hX
          clear hX
          go_simp
         clear CFn
         try simp only [Act.put, zA, zB, zC]
         refine tG 19 (.bool true) (some 108) (GK.grow _) rfl (YieldsIf.toG (Or.inl ⟨by rfl, ?_⟩)) (GK.drop (by simp)) ?_
         ·intro X hX
          clear hX
          go_simp
         try simp only [Act.put, zA, zB, zC]
         refine tG 20 (.bool true) (some 109) (GK.grow _) rfl (YieldsIf.toG (Or.inl ⟨by rfl, ?_⟩)) (GK.drop (by simp)) ?_
         ·intro X hX
          clear hX
          go_simp
         try simp only [Act.put, zA, zB, zC]
         clear HAL
         refine done_G (by kernel_rfl) (fun X18 hX => ?_) _
         replace NN := Lib.hid (Bgo NN.out hX)
         replace KXF := Lib.hid (KX.next KXF.out hX)
         replace DN := Lib.hid (blk_next hX DN.out)
         replace PO := Lib.hid (opr_next PO.out hX)
         replace BL := Lib.hid (blk_next hX BL.out)
         replace BP := Lib.hid (blk_next hX BP.out)
         replace CV := Lib.hid (blk_next hX CV.out)
         clear hX
         go_upto_region 22 with fail
         have LB : Hid (w0.heap.size + 1 ≤ X18.heap.size) := Lib.hid (Nat.succ_le_of_lt (blk_lt CV.out))
         have HDRW := Lib.hid (Below.drew (Below.refl X18.heap.size X18))
         replace NN := Lib.hid (Bgo NN.out HDRW.out)
         replace KXF := Lib.hid (KX.next KXF.out HDRW.out)
         replace DN := Lib.hid (blk_next HDRW.out DN.out)
         replace PO := Lib.hid (opr_next PO.out HDRW.out)
         replace BL := Lib.hid (blk_next HDRW.out BL.out)
         replace BP := Lib.hid (blk_next HDRW.out BP.out)
         replace LB := Lib.hid (Nat.le_trans LB.out HDRW.out.size)
         replace CV := Lib.hid (blk_next HDRW.out CV.out)
         clear HDRW
         have HAL : Hid (∀ kx9 : Nat, GK [(1, w0.heap.size, .cells #[.int .i64 v.x1, .int .i64 v.x2, .int .i64 v.y1, .int .i64 v.y2, .int .i64 v.z1, .int .i64 v.z2, .slice Au (newP L P v k b).length cu] 40), (5, bp, obp)] kx9 X18.drew) := Lib.hid (fun kx9 => fun px9 hp e => by
          simp only [List.mem_cons, List.not_mem_nil, or_false] at hp
          rcases hp with rfl | rfl
          ·exact CV.out
          ·exact BP.out
         )
         refine region_G (S := GK [(1, w0.heap.size, .cells #[.int .i64 v.x1, .int .i64 v.x2, .int .i64 v.y1, .int .i64 v.y2, .int .i64 v.z1, .int .i64 v.z2, .slice Au (newP L P v k b).length cu] 40), (5, bp, obp)]) (by kernel_rfl) ?_
         refine tG 0 (.pointer (some ⟨w0.heap.size, 6, none⟩)) (some 110) (GK.grow _) rfl (YieldsIf.toG (Or.inl ⟨by rfl, ?_⟩)) (GK.drop (by simp)) ?_
         ·intro X hX
          clear hX
          go_simp
         try simp only [Act.put, zA, zB, zC]
         refine tG 1 (.slice Au (newP L P v k b).length cu) (some 111) (GK.grow _) rfl (YieldsIf.toG (Or.inl ⟨by rfl, ?_⟩)) (HAL.out 1) ?_
         ·intro X hX
          have hh := hX (1, w0.heap.size, .cells #[.int .i64 v.x1, .int .i64 v.x2, .int .i64 v.y1, .int .i64 v.y2, .int .i64 v.z1, .int .i64 v.z2, .slice Au (newP L P v k b).length cu] 40) (List.Mem.head _) rfl
          have hh0 := blk_cell hh 6 _ rfl
          have hhl := blk_lt hh
          clear hh
          clear hX
          go_simp
         try simp only [Act.put, zA, zB, zC]
         refine tG 2 (.slice (some ⟨bp, op, none⟩) P.length c2) (some 112) (GK.grow _) rfl (YieldsIf.toG (Or.inl ⟨by rfl, ?_⟩)) (GK.drop (by simp)) ?_
         ·intro X hX
          clear hX
          go_simp
         try simp only [Act.put, zA, zB, zC]
         refine tG 3 (.int .i64 (b : Int)) (some 113) (GK.grow _) rfl (YieldsIf.toG (Or.inl ⟨by rfl, ?_⟩)) (GK.drop (by simp)) ?_
         ·intro X hX
          clear hX
          go_simp
         try simp only [Act.put, zA, zB, zC]
         refine tG 4 (.pointer (some ⟨bp, op + b * 2, none⟩)) (some 114) (GK.grow _) rfl (YieldsIf.toG (Or.inl ⟨by rfl, ?_⟩)) (GK.drop (by simp)) ?_
         ·intro X hX
          clear hX
          go_simp
         try simp only [Act.put, zA, zB, zC]
         refine tG 5 (.agg #[.int .i64 (q.1 : Int), .int .i64 (q.2 : Int)]) (some 115) (GK.grow _) rfl (YieldsIf.toG (Or.inl ⟨by rfl, ?_⟩)) (HAL.out 5) ?_
         ·intro X hX
          have hh := hX (5, bp, obp) (List.Mem.tail _ (List.Mem.head _)) rfl
          have hh0 := RPb.out _ hh 0 _ rfl
          simp only [Nat.add_zero] at hh0
          have hh1 := RPb.out _ hh 1 _ rfl
          have hhl := blk_lt hh
          clear hh
          clear hX
          go_simp
         try simp only [Act.put, zA, zB, zC]
         refine only_G 6 (by kernel_rfl) rfl (fun X19 hX K' hK' => ?_)
         replace NN := Lib.hid (Bgo NN.out hX)
         replace KXF := Lib.hid (KX.next KXF.out hX)
         replace DN := Lib.hid (blk_next hX DN.out)
         replace PO := Lib.hid (opr_next PO.out hX)
         replace BL := Lib.hid (blk_next hX BL.out)
         replace BP := Lib.hid (blk_next hX BP.out)
         replace LB := Lib.hid (Nat.le_trans LB.out hX.size)
         replace CV := Lib.hid (blk_next hX CV.out)
         replace HAL := Lib.hid (fun kx9 => GK.grow _ _ _ _ (HAL.out kx9) hX)
         clear hX
         go_simp
         refine hK'.out _ _ (fun _ _ h => h.alloc _) ?_
         clear hK' K'
         try simp only [Act.put, zA, zB, zC]
         have HB := Lib.hid (Bal (Below.refl X19.heap.size X19) (.cells #[.int .i64 (q.1 : Int), .int .i64 (q.2 : Int)] 43))
         have SL : Hid ((X19.alloc (.cells #[.int .i64 (q.1 : Int), .int .i64 (q.2 : Int)] 43)).heap[X19.heap.size]? = some (.cells #[.int .i64 (q.1 : Int), .int .i64 (q.2 : Int)] 43)) := Lib.hid (blk_new X19 (.cells #[.int .i64 (q.1 : Int), .int .i64 (q.2 : Int)] 43))
         replace NN := Lib.hid (Bgo NN.out HB.out)
         replace KXF := Lib.hid (KX.next KXF.out HB.out)
         replace DN := Lib.hid (blk_next HB.out DN.out)
         replace PO := Lib.hid (opr_next PO.out HB.out)
         replace BL := Lib.hid (blk_next HB.out BL.out)
         replace BP := Lib.hid (blk_next HB.out BP.out)
         replace LB := Lib.hid (Nat.le_trans LB.out HB.out.size)
         replace CV := Lib.hid (blk_next HB.out CV.out)
         replace HAL := Lib.hid (fun kx9 => GK.grow _ _ _ _ (HAL.out kx9) HB.out)
         clear HB
         generalize X19.alloc (.cells #[.int .i64 (q.1 : Int), .int .i64 (q.2 : Int)] 43) = W20 at *
         generalize X19.heap.size = gSL at *
         refine only_G 7 (by kernel_rfl) rfl (fun X21 hX K' hK' => ?_)
         replace NN := Lib.hid (Bgo NN.out hX)
         replace KXF := Lib.hid (KX.next KXF.out hX)
         replace DN := Lib.hid (blk_next hX DN.out)
         replace PO := Lib.hid (opr_next PO.out hX)
         replace BL := Lib.hid (blk_next hX BL.out)
         replace BP := Lib.hid (blk_next hX BP.out)
         replace LB := Lib.hid (Nat.le_trans LB.out hX.size)
         replace CV := Lib.hid (blk_next hX CV.out)
         replace SL := Lib.hid (blk_next hX SL.out)
         replace HAL := Lib.hid (fun kx9 => GK.grow _ _ _ _ (HAL.out kx9) hX)
         clear hX
         refine step_append_rd (P := Tryz.prog) X21 rfl _ _ 31 rfl (w0.heap.size + 1) 43 iR (.agg #[.int .i64 0, .int .i64 0]) 2 16 und_prs HIR.out.1 HIR.out.2.1 HIR.out.2.2.1 HIR.out.2.2.2 rfl (by decide) (.slice Au (newP L P v k b).length cu) _ _ rfl PO.out (some ⟨gSL, 0, none⟩) 1 1 (pr2 q) rfl (Rd.blk SL.out rfl) (pr2_one q) ?_ ?_ LB.out ?_
         ·have := newP_len L P v k b; have := P8.out; simp [maxLen]; omega
         ·have := newP_len L P v k b; have := P8.out; omega
         intro v9 wz o9 g9 t9
         obtain ⟨A9, c9, hv9, -, -, -⟩ := Rd.of_own o9
         subst hv9
         have BG := Lib.hid (own_grown PO.out g9 LB.out)
         refine hK'.out _ _ (fun kk hk hS => ?_) ?_
         ·intro px9 hp e
          simp only [List.mem_cons, List.not_mem_nil, or_false] at hp
          rcases hp with rfl | rfl <;> (subst e; exact bfl (by kernel_rfl) hk)
         clear hK' K' HAL
         try simp only [Act.put, zA, zB, zC]
         have PO9 : Hid (OPr (w0.heap.size + 1) wz (.slice A9 ((newP L P v k b).length + 1) c9) (newP L P v k b ++ [q])) := Lib.hid (by unfold OPr; rw [List.length_append, List.flatMap_append]; simpa using o9)
         replace NN := Lib.hid (NN.out.trans (BG.out.mono (show w7.heap.size ≤ w0.heap.size + 1 by have := LTC.out; omega)))
         replace KXF := Lib.hid (KXF.out.low BG.out (Nat.le_succ _))
         replace DN := Lib.hid (blk_B BG.out DN.out (by have := LTC.out; omega))
         replace CV := Lib.hid (blk_B BG.out CV.out (Nat.lt_succ_self _))
         clear SL BL BP PO LB o9 g9 t9 BG
         refine tG 8 (.pointer (some ⟨w0.heap.size, 6, none⟩)) (some 118) (GK.grow _) rfl (YieldsIf.toG (Or.inl ⟨by rfl, ?_⟩)) (GK.drop (by simp)) ?_
         ·intro X hX
          clear hX
          go_simp
         try simp only [Act.put, zA, zB, zC]
         refine only_G 9 (by kernel_rfl) rfl (fun X22 hX K' hK' => ?_)
         replace NN := Lib.hid (Bgo NN.out hX)
         replace KXF := Lib.hid (KX.next KXF.out hX)
         replace DN := Lib.hid (blk_next hX DN.out)
         replace PO9 := Lib.hid (opr_next PO9.out hX)
         replace CV := Lib.hid (blk_next hX CV.out)
         skip
         clear hX
         have c_CV_0 := blk_cell CV.out 0 _ rfl
         have f_CV_0 := blk_frozen CV.out 0
         have c_CV_1 := blk_cell CV.out 1 _ rfl
         have f_CV_1 := blk_frozen CV.out 1
         have c_CV_2 := blk_cell CV.out 2 _ rfl
         have f_CV_2 := blk_frozen CV.out 2
         have c_CV_3 := blk_cell CV.out 3 _ rfl
         have f_CV_3 := blk_frozen CV.out 3
         have c_CV_4 := blk_cell CV.out 4 _ rfl
         have f_CV_4 := blk_frozen CV.out 4
         have c_CV_5 := blk_cell CV.out 5 _ rfl
         have f_CV_5 := blk_frozen CV.out 5
         have c_CV_6 := blk_cell CV.out 6 _ rfl
         have f_CV_6 := blk_frozen CV.out 6
         have l_CV := blk_lt CV.out
         go_simp
         clear c_CV_0 f_CV_0 c_CV_1 f_CV_1 c_CV_2 f_CV_2 c_CV_3 f_CV_3 c_CV_4 f_CV_4 c_CV_5 f_CV_5 c_CV_6 f_CV_6 l_CV
         refine hK'.out _ _ (fun kk hk hS => ?_) ?_
         ·have HN : ∀ px9 ∈ ([(1, w0.heap.size, .cells #[.int .i64 v.x1, .int .i64 v.x2, .int .i64 v.y1, .int .i64 v.y2, .int .i64 v.z1, .int .i64 v.z2, .slice Au (newP L P v k b).length cu] 40), (5, bp, obp)] : List (Nat × Nat × Obj)), px9.1 = kk → px9.2.1 ≠ w0.heap.size := fun px9 hp e => by
           simp only [List.mem_cons, List.not_mem_nil, or_false] at hp
           rcases hp with rfl | rfl
           ·subst e
            exact bfl (by kernel_rfl) hk
           ·subst e
            exact bfl (by kernel_rfl) hk
          exact GK.set hS HN
         clear hK' K'
         try simp only [Act.put, zA, zB, zC]
         replace KXF := Lib.hid (KX.set (KXF.out) (Or.inr (Nat.le_refl _)) 6 (.slice A9 ((newP L P v k b).length + 1) c9))
         replace DN := Lib.hid (blk_set_other (b' := w0.heap.size) (DN.out) (by have := LTC.out; omega) 6 (.slice A9 ((newP L P v k b).length + 1) c9))
         replace PO9 := Lib.hid (opr_set (PO9.out) (Nat.lt_succ_self _) 6 (.slice A9 ((newP L P v k b).length + 1) c9))
         replace CV : Hid ((X22.setCell ⟨w0.heap.size, 6, none⟩ (.slice A9 ((newP L P v k b).length + 1) c9)).heap[w0.heap.size]? = some (.cells #[.int .i64 v.x1, .int .i64 v.x2, .int .i64 v.y1, .int .i64 v.y2, .int .i64 v.z1, .int .i64 v.z2, .slice A9 ((newP L P v k b).length + 1) c9] 40)) := Lib.hid (blk_set (CV.out) 6 (.slice A9 ((newP L P v k b).length + 1) c9))
         replace NN := Lib.hid (Bset1 (NN.out) (show w7.heap.size ≤ w0.heap.size by have := LTC.out; omega) 6 (.slice A9 ((newP L P v k b).length + 1) c9))
         generalize (X22.setCell ⟨w0.heap.size, 6, none⟩ (.slice A9 ((newP L P v k b).length + 1) c9)) = W23 at *
         refine done_G (by kernel_rfl) (fun X24 hX => ?_) _
         replace NN := Lib.hid (Bgo NN.out hX)
         replace KXF := Lib.hid (KX.next KXF.out hX)
         replace DN := Lib.hid (blk_next hX DN.out)
         replace PO9 := Lib.hid (opr_next PO9.out hX)
         replace CV := Lib.hid (blk_next hX CV.out)
         clear hX
         go_upto_region 23 with fail
         have cu9 := blk_cell DN.out b _ (by rw [List.getElem?_toArray]; exact DQ.out)
         have lu9 := blk_lt DN.out
         have fu9 := blk_frozen DN.out b
         go_wp2_with fail
         clear cu9 lu9 fu9
         have DN9 : Hid ((X24.setCell ⟨w7.heap.size, b, none⟩ (.bool true)).heap[w7.heap.size]? = some (.cells (blv (dnB L P out v (b + 1))).toArray 4)) := Lib.hid (by have h := blk_set DN.out b (.bool true); rw [List.setIfInBounds_toArray, ← blv_set, ← dnB_hit HQK.out HIT.out] at h; exact h)
         have e9 : newP L P v k (b + 1) = newP L P v k b ++ [q] := by rw [NXB.out, if_pos (by rw [← HLQ.out]; exact HIT.out)]
         go_roundw
         case rel => exact ⟨b + 1, _, kb1, b2, by go_num, Lib.hid (Bset1 NN.out (Nat.le_refl _) b (.bool true)), Lib.hid (KX.set KXF.out (Or.inl rfl) b (.bool true)), DN9, Lib.hid (blk_set_other (b' := w7.heap.size) CV.out (by have := LTC.out; omega) b (.bool true)), by rw [e9]; exact Lib.hid (opr_set PO9.out (by have := LTC.out; omega) b (.bool true))⟩
         case measure => simp [intOf]; omega
        ·have d1 : decide (lv = v) = false := decide_eq_false h1
         have d2 : decide (lv = negV v) = false := decide_eq_false h2
         have MIS : Hid (isPM (L q) v = false) := Lib.hid (by rw [HLQ.out]; unfold isPM; rw [d1, d2]; rfl)
         clear h1 h2
         skip
         have HDRW := Lib.hid (Below.drew (Below.refl wr.heap.size wr))
         replace NN := Lib.hid (Bgo NN.out HDRW.out)
         replace KXF := Lib.hid (KX.next KXF.out HDRW.out)
         replace DN := Lib.hid (blk_next HDRW.out DN.out)
         replace PO := Lib.hid (opr_next PO.out HDRW.out)
         replace BL := Lib.hid (blk_next HDRW.out BL.out)
         replace BP := Lib.hid (blk_next HDRW.out BP.out)
         replace CV := Lib.hid (blk_next HDRW.out CV.out)
         clear HDRW
         have HAL : Hid (∀ kx9 : Nat, GK [(3, bl, obl), (7, bl, obl), (13, bl, obl), (17, bl, obl)] kx9 wr.drew) := Lib.hid (fun kx9 => fun px9 hp e => by
          simp only [List.mem_cons, List.not_mem_nil, or_false] at hp
          rcases hp with rfl | rfl | rfl | rfl
          ·exact BL.out
          ·exact BL.out
          ·exact BL.out
          ·exact BL.out
         )
         refine region_G (S := GK [(3, bl, obl), (7, bl, obl), (13, bl, obl), (17, bl, obl)]) (by kernel_rfl) ?_
         refine tG 0 (.slice (some ⟨bl, ol, none⟩) P.length c3) (some 89) (GK.grow _) rfl (YieldsIf.toG (Or.inl ⟨by rfl, ?_⟩)) (GK.drop (by simp)) ?_
         ·intro X hX
          clear hX
          go_simp
         try simp only [Act.put, zA, zB, zC]
         refine tG 1 (.int .i64 (b : Int)) (some 90) (GK.grow _) rfl (YieldsIf.toG (Or.inl ⟨by rfl, ?_⟩)) (GK.drop (by simp)) ?_
         ·intro X hX
          clear hX
          go_simp
         try simp only [Act.put, zA, zB, zC]
         refine tG 2 (.pointer (some ⟨bl, ol + b * 6, none⟩)) (some 91) (GK.grow _) rfl (YieldsIf.toG (Or.inl ⟨by rfl, ?_⟩)) (GK.drop (by simp)) ?_
         ·intro X hX
          clear hX
          go_simp
         try simp only [Act.put, zA, zB, zC]
         refine tG 3 (.agg #[.int .i64 lv.x1, .int .i64 lv.x2, .int .i64 lv.y1, .int .i64 lv.y2, .int .i64 lv.z1, .int .i64 lv.z2]) (some 92) (GK.grow _) rfl (YieldsIf.toG (Or.inl ⟨by rfl, ?_⟩)) (HAL.out 3) ?_
         ·intro X hX
          have hh := hX (3, bl, obl) (List.Mem.head _) rfl
          have hh0 := RLb.out _ hh 0 _ rfl
          simp only [Nat.add_zero] at hh0
          have hh1 := RLb.out _ hh 1 _ rfl
          have hh2 := RLb.out _ hh 2 _ rfl
          have hh3 := RLb.out _ hh 3 _ rfl
          have hh4 := RLb.out _ hh 4 _ rfl
          have hh5 := RLb.out _ hh 5 _ rfl
          have hhl := blk_lt hh
          clear hh
          clear hX
          go_simp
         try simp only [Act.put, zA, zB, zC]
         refine tG 4 (.slice (some ⟨bl, ol, none⟩) P.length c3) (some 93) (GK.grow _) rfl (YieldsIf.toG (Or.inl ⟨by rfl, ?_⟩)) (GK.drop (by simp)) ?_
         ·intro X hX
          clear hX
          go_simp
         try simp only [Act.put, zA, zB, zC]
         refine tG 5 (.int .i64 (k : Int)) (some 94) (GK.grow _) rfl (YieldsIf.toG (Or.inl ⟨by rfl, ?_⟩)) (GK.drop (by simp)) ?_
         ·intro X hX
          clear hX
          go_simp
         try simp only [Act.put, zA, zB, zC]
         refine tG 6 (.pointer (some ⟨bl, ol + k * 6, none⟩)) (some 95) (GK.grow _) rfl (YieldsIf.toG (Or.inl ⟨by rfl, ?_⟩)) (GK.drop (by simp)) ?_
         ·intro X hX
          clear hX
          go_simp
         try simp only [Act.put, zA, zB, zC]
         refine tG 7 (.agg #[.int .i64 v.x1, .int .i64 v.x2, .int .i64 v.y1, .int .i64 v.y2, .int .i64 v.z1, .int .i64 v.z2]) (some 96) (GK.grow _) rfl (YieldsIf.toG (Or.inl ⟨by rfl, ?_⟩)) (HAL.out 7) ?_
         ·intro X hX
          have hh := hX (7, bl, obl) (List.Mem.tail _ (List.Mem.head _)) rfl
          have hh0 := RLk.out _ hh 0 _ rfl
          simp only [Nat.add_zero] at hh0
          have hh1 := RLk.out _ hh 1 _ rfl
          have hh2 := RLk.out _ hh 2 _ rfl
          have hh3 := RLk.out _ hh 3 _ rfl
          have hh4 := RLk.out _ hh 4 _ rfl
          have hh5 := RLk.out _ hh 5 _ rfl
          have hhl := blk_lt hh
          clear hh
          clear hX
          go_simp
         try simp only [Act.put, zA, zB, zC]
         refine tG 8 (.bool false) (some 97) (GK.grow _) rfl (YieldsIf.toG (Or.inl ⟨by rfl, ?_⟩)) (GK.drop (by simp)) ?_
         ·intro X hX
          clear hX
          go_simp
         try simp only [Act.put, zA, zB, zC]
         refine tG 9 (.bool false) (some 98) (GK.grow _) rfl (YieldsIf.toG (Or.inl ⟨by rfl, ?_⟩)) (GK.drop (by simp)) ?_
         ·intro X hX
          clear hX
          go_simp
         try simp only [Act.put, zA, zB, zC]
         refine tG 10 (.slice (some ⟨bl, ol, none⟩) P.length c3) (some 99) (GK.grow _) rfl (YieldsIf.toG (Or.inl ⟨by rfl, ?_⟩)) (GK.drop (by simp)) ?_
         ·intro X hX
          clear hX
          go_simp
         try simp only [Act.put, zA, zB, zC]
         refine tG 11 (.int .i64 (b : Int)) (some 100) (GK.grow _) rfl (YieldsIf.toG (Or.inl ⟨by rfl, ?_⟩)) (GK.drop (by simp)) ?_
         ·intro X hX
          clear hX
          go_simp
         try simp only [Act.put, zA, zB, zC]
         refine tG 12 (.pointer (some ⟨bl, ol + b * 6, none⟩)) (some 101) (GK.grow _) rfl (YieldsIf.toG (Or.inl ⟨by rfl, ?_⟩)) (GK.drop (by simp)) ?_
         ·intro X hX
          clear hX
          go_simp
         try simp only [Act.put, zA, zB, zC]
         refine tG 13 (.agg #[.int .i64 lv.x1, .int .i64 lv.x2, .int .i64 lv.y1, .int .i64 lv.y2, .int .i64 lv.z1, .int .i64 lv.z2]) (some 102) (GK.grow _) rfl (YieldsIf.toG (Or.inl ⟨by rfl, ?_⟩)) (HAL.out 13) ?_
         ·intro X hX
          have hh := hX (13, bl, obl) (List.Mem.tail _ (List.Mem.tail _ (List.Mem.head _))) rfl
          have hh0 := RLb.out _ hh 0 _ rfl
          simp only [Nat.add_zero] at hh0
          have hh1 := RLb.out _ hh 1 _ rfl
          have hh2 := RLb.out _ hh 2 _ rfl
          have hh3 := RLb.out _ hh 3 _ rfl
          have hh4 := RLb.out _ hh 4 _ rfl
          have hh5 := RLb.out _ hh 5 _ rfl
          have hhl := blk_lt hh
          clear hh
          clear hX
          go_simp
         try simp only [Act.put, zA, zB, zC]
         refine tG 14 (.slice (some ⟨bl, ol, none⟩) P.length c3) (some 103) (GK.grow _) rfl (YieldsIf.toG (Or.inl ⟨by rfl, ?_⟩)) (GK.drop (by simp)) ?_
         ·intro X hX
          clear hX
          go_simp
         try simp only [Act.put, zA, zB, zC]
         refine tG 15 (.int .i64 (k : Int)) (some 104) (GK.grow _) rfl (YieldsIf.toG (Or.inl ⟨by rfl, ?_⟩)) (GK.drop (by simp)) ?_
         ·intro X hX
          clear hX
          go_simp
         try simp only [Act.put, zA, zB, zC]
         refine tG 16 (.pointer (some ⟨bl, ol + k * 6, none⟩)) (some 105) (GK.grow _) rfl (YieldsIf.toG (Or.inl ⟨by rfl, ?_⟩)) (GK.drop (by simp)) ?_
         ·intro X hX
          clear hX
          go_simp
         try simp only [Act.put, zA, zB, zC]
         refine tG 17 (.agg #[.int .i64 v.x1, .int .i64 v.x2, .int .i64 v.y1, .int .i64 v.y2, .int .i64 v.z1, .int .i64 v.z2]) (some 106) (GK.grow _) rfl (YieldsIf.toG (Or.inl ⟨by rfl, ?_⟩)) (HAL.out 17) ?_
         ·intro X hX
          have hh := hX (17, bl, obl) (List.Mem.tail _ (List.Mem.tail _ (List.Mem.tail _ (List.Mem.head _)))) rfl
          have hh0 := RLk.out _ hh 0 _ rfl
          simp only [Nat.add_zero] at hh0
          have hh1 := RLk.out _ hh 1 _ rfl
          have hh2 := RLk.out _ hh 2 _ rfl
          have hh3 := RLk.out _ hh 3 _ rfl
          have hh4 := RLk.out _ hh 4 _ rfl
          have hh5 := RLk.out _ hh 5 _ rfl
          have hhl := blk_lt hh
          clear hh
          clear hX
          go_simp
         try simp only [Act.put, zA, zB, zC]
         have CFn : ∀ (args : Array Value) (W : World), Sem.run Tryz.prog (callFunc 12 args) W = .ok (.enter 12 args) W := fun _ _ => by kernel_rfl
         refine tG 18 (.agg #[.int .i64 (negV v).x1, .int .i64 (negV v).x2, .int .i64 (negV v).y1, .int .i64 (negV v).y2, .int .i64 (negV v).z1, .int .i64 (negV v).z2]) (some 107) (GK.grow _) rfl (yieldsG_call 12 #[.agg #[.int .i64 v.x1, .int .i64 v.x2, .int .i64 v.y1, .int .i64 v.y2, .int .i64 v.z1, .int .i64 v.z2]] (by rfl) ?_ (fun X hS => NG.out X)) (GK.drop (by simp)) ?_
         ·intro X hX
          clear hX
          go_simp
         clear CFn
         try simp only [Act.put, zA, zB, zC]
         refine tG 19 (.bool false) (some 108) (GK.grow _) rfl (YieldsIf.toG (Or.inl ⟨by rfl, ?_⟩)) (GK.drop (by simp)) ?_
         ·intro X hX
          clear hX
          go_simp
         try simp only [Act.put, zA, zB, zC]
         refine tG 20 (.bool false) (some 109) (GK.grow _) rfl (YieldsIf.toG (Or.inl ⟨by rfl, ?_⟩)) (GK.drop (by simp)) ?_
         ·intro X hX
          clear hX
          go_simp
         try simp only [Act.put, zA, zB, zC]
         clear HAL
         refine done_G (by kernel_rfl) (fun X25 hX => ?_) _
         replace NN := Lib.hid (Bgo NN.out hX)
         replace KXF := Lib.hid (KX.next KXF.out hX)
         replace DN := Lib.hid (blk_next hX DN.out)
         replace PO := Lib.hid (opr_next PO.out hX)
         replace BL := Lib.hid (blk_next hX BL.out)
         replace BP := Lib.hid (blk_next hX BP.out)
         replace CV := Lib.hid (blk_next hX CV.out)
         clear hX
         go_wp2_with fail
         go_roundw
         case rel => exact ⟨b + 1, _, kb1, b2, by go_num, NN, KXF, by rw [dnB_same HQK.out MIS.out]; exact DN, CV, by rw [NXB.out, if_neg (by rw [← HLQ.out, MIS.out]; simp), List.append_nil]; exact PO⟩
         case measure => simp [intOf]; omega
       ·obtain rfl : b = P.length := by omega
        obtain ⟨A0, c0, hv0, hn0, hc1, -⟩ := Rd.of_own OO.out.row
        subst hv0
        clear hn0 hc1 hlt2
        rw [dnB_all L P out (v, newP L P v k P.length)] at DN
        have OX := Lib.hid (OC.same OO.out KXF.out)
        have LO := Lib.hid (OO.out.lo)
        clear OO
        go_upto_region 24 with fail
        have BB : Hid (Below wr.heap.size wr (wr.alloc (.cells #[.int .i64 v.x1, .int .i64 v.x2, .int .i64 v.y1, .int .i64 v.y2, .int .i64 v.z1, .int .i64 v.z2, .slice Au (newP L P v k P.length).length cu] 40))) := Lib.hid (Bal (Below.refl _ _) _)
        have OXB := Lib.hid (OX.out.next BB.out)
        have SM : Hid ((wr.alloc (.cells #[.int .i64 v.x1, .int .i64 v.x2, .int .i64 v.y1, .int .i64 v.y2, .int .i64 v.z1, .int .i64 v.z2, .slice Au (newP L P v k P.length).length cu] 40)).heap[wr.heap.size]? = some (.cells #[.int .i64 v.x1, .int .i64 v.x2, .int .i64 v.y1, .int .i64 v.y2, .int .i64 v.z1, .int .i64 v.z2, .slice Au (newP L P v k P.length).length cu] 40)) := Lib.hid (blk_new wr _)
        have LBB : Hid (w7.heap.size + 1 ≤ (wr.alloc (.cells #[.int .i64 v.x1, .int .i64 v.x2, .int .i64 v.y1, .int .i64 v.y2, .int .i64 v.z1, .int .i64 v.z2, .slice Au (newP L P v k P.length).length cu] 40)).heap.size) := Lib.hid (Nat.succ_le_of_lt (blk_lt (blk_next BB.out DN.out)))
        have H63 : Hid (out.length + 1 ≤ maxLen) := Lib.hid (by have := RI0.out.len; have := P8.out; simp [maxLen]; omega)
        have H64 : Hid ((out.length + 1) * 72 ≤ 140737488355328) := Lib.hid (by have := RI0.out.len; have := P8.out; omega)
        have c_CV_0 := blk_cell CV.out 0 _ rfl
        have f_CV_0 := blk_frozen CV.out 0
        have c_CV_1 := blk_cell CV.out 1 _ rfl
        have f_CV_1 := blk_frozen CV.out 1
        have c_CV_2 := blk_cell CV.out 2 _ rfl
        have f_CV_2 := blk_frozen CV.out 2
        have c_CV_3 := blk_cell CV.out 3 _ rfl
        have f_CV_3 := blk_frozen CV.out 3
        have c_CV_4 := blk_cell CV.out 4 _ rfl
        have f_CV_4 := blk_frozen CV.out 4
        have c_CV_5 := blk_cell CV.out 5 _ rfl
        have f_CV_5 := blk_frozen CV.out 5
        have c_CV_6 := blk_cell CV.out 6 _ rfl
        have f_CV_6 := blk_frozen CV.out 6
        have l_CV := blk_lt CV.out
        go_wp2_with (at_builtin; refine wpList_append_rd _ rfl _ _ 27 rfl (w7.heap.size + 1) 40 ic (.agg #[.int .i64 0, .int .i64 0, .int .i64 0, .int .i64 0, .int .i64 0, .int .i64 0, .slice none 0 0]) 7 72 und_cls HIC.out.1 HIC.out.2.1 HIC.out.2.2.1 HIC.out.2.2.2 rfl (by decide) (.slice A0 out.length c0) _ _ rfl OXB.out.row (some ⟨wr.heap.size, 0, none⟩) 1 1 (cl7 (v, .slice Au (newP L P v k P.length).length cu)) rfl (Rd.blk SM.out rfl) (cl7_one _ _ _ _) H63.out H64.out LBB.out ?_; intro v9 w9 o9 g9 t9)
        clear c_CV_0 f_CV_0 c_CV_1 f_CV_1 c_CV_2 f_CV_2 c_CV_3 f_CV_3 c_CV_4 f_CV_4 c_CV_5 f_CV_5 c_CV_6 f_CV_6 l_CV
        have BG := Lib.hid (own_grown OXB.out.row g9 LBB.out)
        have PUB := Lib.hid (opr_next PO.out BB.out)
        have OY : Hid (OC (w7.heap.size + 1) w9 v9 (out ++ [(v, newP L P v k P.length)]) (hs ++ [.slice Au (newP L P v k P.length).length cu])) := Lib.hid (OXB.out.push (n0 := w0.heap.size + 1) (fun i x g h1 h2 => Nat.lt_succ_of_lt (LO.out i x g h1 h2)) PUB.out (by have := LTC.out; omega) (by simpa using o9) g9)
        have NN9 := Lib.hid ((NN.out.trans (BB.out.mono NN.out.size)).trans (BG.out.mono (Nat.le_succ _)))
        have DN9 := Lib.hid (blk_B BG.out (blk_next BB.out DN.out) (Nat.lt_succ_self _))
        have RI9 : Hid (RI L P (out ++ [(v, newP L P v k P.length)]) (k + 1)) := Lib.hid (by have := RI0.out.new HPK.out hh; rw [HV.out] at this; exact this)
        go_roundw
        case rel => exact ⟨k + 1, _, _, kk, by go_num, RI9, NN9, DN9, OY⟩
        case measure => simp [intOf]; omega
    ·obtain rfl : k = P.length := by omega
     go_wp2_with fail
     have NNE := Lib.hid (NNc.out.trans (NN.out.mono NNc.out.size))
     have OE := Lib.hid (oc_mono OO.out (show w.heap.size ≤ w7.heap.size + 1 by have := NNc.out.size; omega))
     have EC : out = cs0 := by rw [CE.out]; exact RI0.out.done
     subst EC
     refine bodyPost_ret (v := .tuple #[_, .int .i64 0]) (by simp [results, Tryz.results17, go_sem]) rfl ⟨_, rfl, NNE.out, fun h => absurd rfl h, fun _ => ⟨hs, OE.out⟩⟩
end Go.Proofs.YtfangplfbbgphaaGreatDoor
