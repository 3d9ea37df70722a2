/- Several texts in one. -/
import Derived.Test.YtfangplfbbgphaaGreatDoorMO22
import Derived.Test.YtfangplfbbgphaaGreatDoorMO23
namespace Go.Proofs.YtfangplfbbgphaaGreatDoor
open Go.ChangeShapes Go.WideShapes Go.ChangeAt Go.RowKit
set_option linter.unusedVariables false
set_option linter.unusedSimpArgs false
attribute [local go_sem ↓] Go.wp_at_zero Go.wp_at_succ
attribute [local go_sem ↓] eqVe eqSt_self
theorem cls_len {α : Type} {ln : α → α → V6} {l m : List α} (h8 : l.length < 9) (hp : l.Perm m) (ho : ∀ s ∈ l, ∀ t ∈ l, ln t s = negV (ln s t)) {cs ds : List Cl} (hc : ClInv (lnOf ln l) cs (prs l.length)) (hd : ClInv (lnOf ln m) ds (prs m.length))
  {i j : Nat} {c d : Cl} (hi : cs[i]? = some c) (hj : ds[j]? = some d) (hpm : isPM d.1 c.1 = true) : d.2.length = c.2.length := by
 obtain ⟨j', d', hj', h1, h2⟩ := cls_match h8 hp ho hc hd (List.mem_of_getElem? hi)
 by_cases e : j = j'
 ·subst e; rw [hj] at hj'; injection hj' with hj'; rw [hj']; exact h2
 ·have := hd.far hj hj' e
  rw [isPM_of h1, hpm] at this; cases this
def fndB (ds : List Cl) (v : V6) (j : Nat) : Bool := (ds.take j).any fun d => isPM d.1 v
theorem fnd_zero (ds : List Cl) (v : V6) : fndB ds v 0 = false := by unfold fndB; rw [List.take_zero]; rfl
theorem fnd_succ {ds : List Cl} {v : V6} {j : Nat} {d : Cl} (h : ds[j]? = some d) : fndB ds v (j + 1) = (fndB ds v j || isPM d.1 v) := by
 obtain ⟨h1, h2⟩ := List.getElem?_eq_some_iff.1 h
 unfold fndB
 rw [← List.take_append_getElem h1, List.any_append, h2]; simp
theorem fnd_all {α : Type} {ln : α → α → V6} {l m : List α} (h8 : l.length < 9) (hp : l.Perm m) (ho : ∀ s ∈ l, ∀ t ∈ l, ln t s = negV (ln s t)) {cs ds : List Cl} (hc : ClInv (lnOf ln l) cs (prs l.length)) (hd : ClInv (lnOf ln m) ds (prs m.length))
  {c : Cl} (hi : c ∈ cs) : fndB ds c.1 ds.length = true := by
 obtain ⟨j, d, hj, h1, _⟩ := cls_match h8 hp ho hc hd hi
 unfold fndB
 rw [List.take_length, List.any_eq_true]
 exact ⟨d, List.mem_of_getElem? hj, h1⟩
theorem aorder_ok {A B : Int} {a : Option Addr} {c : Nat} {l : List St} {w : World} {aq : Option Addr} {cq : Nat} {q : List Int} (h : plE A B l = 0) (ho : ordB q l.length = true) (hl : RSt w a l) (hc : l.length ≤ c) (hc' : c ≤ 9223372036854775807) (hn : ∀ x ∈ l, x.nm.size ≤ 9223372036854775807) (hq : Rd w 1 aq q.length (lv q)) (hcq : q.length ≤ cq) (hcq' : cq ≤ 9223372036854775807) : Calls Tryz.prog 25 #[Gv A B, .slice a l.length c, .slice aq q.length cq] w fun e w' =>
  ∃ g, e = .returned (.tuple #[.slice (some ⟨g, 0, none⟩) l.length l.length, .int .i64 0]) ∧ w'.heap[g]? = some (.cells ((ordL l q).flatMap st5).toArray 69) ∧ Below w.heap.size w w' := by
 have e0 : ordE A B l q = 0 := by unfold ordE; rw [if_neg (by omega), if_pos ho]
 refine (aorder_calls hl hc hc' hn hq hcq hcq').mono ?_
 rintro e w' ⟨v, rfl, hb, -, h1⟩
 rw [e0] at h1 ⊢
 obtain ⟨g, rfl, -, hr⟩ := h1 rfl
 exact ⟨g, rfl, hr, hb⟩
theorem aplaces_ok {A B : Int} {a : Option Addr} {c : Nat} {l : List St} {w : World} (h : plE A B l = 0) (hl : RSt w a l) (hc : l.length ≤ c) (hc' : c ≤ 9223372036854775807) (hn : ∀ x ∈ l, x.nm.size ≤ 9223372036854775807) : Calls Tryz.prog 26 #[Gv A B, .slice a l.length c] w fun e w' =>
  ∃ g, e = .returned (.tuple #[.slice (some ⟨g, 0, none⟩) l.length l.length, .int .i64 0]) ∧ w'.heap[g]? = some (.cells ((l.map (plV A B)).flatMap v6).toArray 38) ∧ Below w.heap.size w w' := by
 refine (aplaces_calls hl hc hc' hn).mono ?_
 rintro e w' ⟨v, rfl, hb, -, h1⟩
 rw [h] at h1 ⊢
 obtain ⟨g, rfl, -, hr⟩ := h1 rfl
 exact ⟨g, rfl, hr, hb⟩
theorem atext_ok {a : Option Addr} {c : Nat} {l : List St} {w : World} (h : stsE l = 0) (hl : RSt w a l) (hc : l.length ≤ c) (hc' : c ≤ 9223372036854775807) (hn : ∀ x ∈ l, x.nm.size ≤ 9223372036854775807) (g : GT w) : Calls Tryz.prog 18 #[.slice a l.length c] w fun e w' => e = .returned (.tuple #[Str (txA l), .int .i64 0]) ∧ Below w.heap.size w w' := by
 have := atext_calls hl hc hc' hn g
 rw [h] at this
 exact this
theorem txA_len {l : List St} (h : stsE l = 0) : (txA l).length ≤ 100000 := by
 obtain ⟨h8, hv⟩ := stsE_ok h
 have := textA_len hv
 unfold txA
 rw [if_pos h]
 omega
theorem aparse_ok {l : List St} (h : stsE l = 0) (w : World) (g : GL w) : Calls Tryz.prog 20 #[Str (txA l)] w fun e w' =>
  ∃ Ax cx, e = .returned (.tuple #[.slice Ax l.length cx, .int .i64 0]) ∧ Below w.heap.size w w' ∧ l.length ≤ cx ∧ cx ≤ 9223372036854775807 ∧ RSt w' Ax l := by
 refine (aparseA_calls (txA l) w g (txA_len h)).mono ?_
 rintro e w' ⟨v, rfl, hb, -, h1⟩
 rw [(par_back h).1] at h1 ⊢
 have h2 := h1 rfl
 rw [(par_back h).2] at h2
 obtain ⟨A1, c1, rfl, h3, h4, h5⟩ := Rd.of_own h2
 exact ⟨A1, c1, rfl, hb, h3, h4, h5⟩
theorem rplace_ok {A B : Int} {l : List St} (h : plE A B l = 0) {s : St} (hs : s ∈ l) (W : World) : Calls Tryz.prog 27 #[Gv A B, Fv s.sn s.sd, Fv s.tn s.td] W fun e w' => e = .returned (Vv (plV A B s)) ∧ Below W.heap.size W w' := by
 obtain ⟨h1, h2, h3⟩ := plE_ok h
 have hv := (stsE_ok h2).2 s hs
 unfold valS plB at hv
 simp only [Bool.and_eq_true] at hv
 exact refPlace_calls A B s.sn s.sd s.tn s.td (errG_ok h1) hv.2.1 hv.2.2.1 W
theorem rec_ob {w : World} {sz n : Nat} {A : Option Addr} {xs : List Value} (h : Rd w sz A n xs) (hn : 0 < n) : ∃ b off ob, A = some ⟨b, off, none⟩ ∧ w.heap[b]? = some ob ∧ ∀ X : World, X.heap[b]? = some ob → ∀ j u, xs[j]? = some u → X.cell? ⟨b, off + j, none⟩ = some u := by
 obtain ⟨b, off, e, hl, hc⟩ := h.2 hn
 exact ⟨b, off, w.heap[b]'hl, e, Array.getElem?_eq_getElem _, fun X hX j u hu => (cell_same (hX.trans (Array.getElem?_eq_getElem hl).symm) _).trans (hc j u hu)⟩
set_option maxRecDepth 100000 in
set_option maxHeartbeats 16000000 in
theorem lordered_calls {A B : Int} {a : Option Addr} {c : Nat} {l : List St} {w : World} {aq : Option Addr} {cq : Nat} {q : List Int} (g : GL w) (hl : RSt w a l) (hc : l.length ≤ c) (hc' : c ≤ 9223372036854775807) (hq : Rd w 1 aq q.length (lv q)) (hcq : q.length ≤ cq) (hcq' : cq ≤ 9223372036854775807) : Calls Tryz.prog 6 #[Gv A B, .slice a l.length c, .slice aq q.length cq] w fun e w' => e = .returned (.bool true) ∧ Below w.heap.size w w' := by
 have NN := Lib.hid (Below.refl w.heap.size w)
 have GG := Lib.hid g
 have HL := Lib.hid hl
 have HQ := Lib.hid hq
 have FC := Lib.hid (fun (W : World) (hb : Below w.heap.size w W) => fit_calls (A := A) (B := B) (hl.next hb) hc hc')
 clear g hl hq
 cases hf : fitB A B l
 ·rw [hf] at FC
  clear hf
  go_enter Tryz.func6, Tryz.ntmps6
  go_wp2_with fail
  have G : Hid ((w.alloc (.cells #[.int .i64 A, .int .i64 B] 23)).heap[w.heap.size]? = some (.cells #[.int .i64 A, .int .i64 B] 23)) := Lib.hid (blk_new w _)
  replace NN : Hid (Below w.heap.size w (w.alloc (.cells #[.int .i64 A, .int .i64 B] 23))) := Lib.hid (Bal NN.out _)
  generalize (w.alloc (.cells #[.int .i64 A, .int .i64 B] 23)) = W1 at *
  refine (FC.out _ NN.out).mono ?_
  rintro e w2 ⟨rfl, hb⟩
  replace NN := Lib.hid (Bgo NN.out hb)
  replace G := Lib.hid (blk_next hb G.out)
  clear hb
  go_wp2_with fail
  refine (alive_calls _ (GG.out.gt.next NN.out)).mono ?_
  rintro e w3 ⟨rfl, hb⟩
  replace NN := Lib.hid (Bgo NN.out hb)
  replace G := Lib.hid (blk_next hb G.out)
  clear hb
  go_wp2_with fail
  go_ret
  exact ⟨rfl, NN.out⟩
 rw [hf] at FC
 have hp := fit_ok hf
 have HN := Lib.hid (fit_nm hf)
 clear hf
 have N9 := Lib.hid (plE_len hp)
 have CO := Lib.hid (fun (W : World) (hb : Below w.heap.size w W) => ordered_calls aq cq q l.length W (HQ.out.next hb) hcq hcq' (by have := N9.out; omega))
 cases ho : ordB q l.length
 ·rw [ho] at CO
  clear ho hp
  go_enter Tryz.func6, Tryz.ntmps6
  go_wp2_with fail
  have G : Hid ((w.alloc (.cells #[.int .i64 A, .int .i64 B] 23)).heap[w.heap.size]? = some (.cells #[.int .i64 A, .int .i64 B] 23)) := Lib.hid (blk_new w _)
  replace NN : Hid (Below w.heap.size w (w.alloc (.cells #[.int .i64 A, .int .i64 B] 23))) := Lib.hid (Bal NN.out _)
  generalize (w.alloc (.cells #[.int .i64 A, .int .i64 B] 23)) = W4 at *
  refine (FC.out _ NN.out).mono ?_
  rintro e w5 ⟨rfl, hb⟩
  replace NN := Lib.hid (Bgo NN.out hb)
  replace G := Lib.hid (blk_next hb G.out)
  clear hb
  go_wp2_with fail
  refine (CO.out _ NN.out).mono ?_
  rintro e w6 ⟨rfl, hb⟩
  replace NN := Lib.hid (Bgo NN.out hb)
  replace G := Lib.hid (blk_next hb G.out)
  clear hb
  go_wp2_with fail
  refine (alive_calls _ (GG.out.gt.next NN.out)).mono ?_
  rintro e w7 ⟨rfl, hb⟩
  replace NN := Lib.hid (Bgo NN.out hb)
  replace G := Lib.hid (blk_next hb G.out)
  clear hb
  go_wp2_with fail
  go_ret
  exact ⟨rfl, NN.out⟩
 rw [ho] at CO
 have PM := ord_perm ho
 have hm := plE_perm hp PM
 have HO := Lib.hid ho
 have IC := Lib.hid (clsL_inv hp)
 have ID := Lib.hid (clsL_inv hm)
 have OP9 := Lib.hid (lnS_opp hp)
 have PM9 := Lib.hid PM
 have DL := Lib.hid (cls_same N9.out PM9.out OP9.out IC.out ID.out)
 have CLN := Lib.hid (fun i j c d hi hj hpm => cls_len N9.out PM9.out OP9.out IC.out ID.out (i := i) (j := j) (c := c) (d := d) hi hj hpm)
 have FND := Lib.hid (fun c hi => fnd_all N9.out PM9.out OP9.out IC.out ID.out (c := c) hi)
 have OKV := Lib.hid (fun c (hc : c ∈ clsL A B l) => IC.out.okv hp hc)
 have SE := Lib.hid (plE_ok hp).2.1
 have SM := Lib.hid (plE_ok hm).2.1
 have ML := Lib.hid PM.length_eq.symm
 have MN := Lib.hid (fun x (hx : x ∈ ordL l q) => HN.out x (PM9.out.mem_iff.2 hx))
 have MG : Hid (∀ (k : Nat) (t : Nat) (s : St), q[k]? = some (t : Int) → l[t]? = some s → (ordL l q)[k]? = some s) := Lib.hid (fun k t s hk ht => by unfold ordL; rw [List.getElem?_map, hk]; simp [List.getD_eq_getElem?_getD, ht])
 have OAT := Lib.hid (fun k x (hx : q[k]? = some x) => ordB_at HO.out hx)
 have C1 := Lib.hid (fun (W : World) (hb : Below w.heap.size w W) => aorder_ok hp HO.out (HL.out.next hb) hc hc' HN.out (HQ.out.next hb) hcq hcq')
 have C2 := Lib.hid (fun (W : World) (hb : Below w.heap.size w W) => aplaces_ok hp (HL.out.next hb) hc hc' HN.out)
 have C3 := Lib.hid (fun (W : World) (g : Nat) (h : W.heap[g]? = some (.cells ((ordL l q).flatMap st5).toArray 69)) => by have := aplaces_ok hm (a := some ⟨g, 0, none⟩) (c := l.length) (Rd.blk h (fm_len _ _ st5_len _)) (by rw [ML.out]; exact Nat.le_refl _) (by omega) MN.out; rw [ML.out] at this; exact this)
 have C4 := Lib.hid (fun (W : World) (hb : Below w.heap.size w W) => aclasses_ok hp (HL.out.next hb) hc hc' HN.out)
 have C5 := Lib.hid (fun (W : World) (g : Nat) (h : W.heap[g]? = some (.cells ((ordL l q).flatMap st5).toArray 69)) => by have := aclasses_ok hm (a := some ⟨g, 0, none⟩) (c := l.length) (Rd.blk h (fm_len _ _ st5_len _)) (by rw [ML.out]; exact Nat.le_refl _) (by omega) MN.out; rw [ML.out, ← DL.out] at this; exact this)
 have C6 := Lib.hid (fun (W : World) (hb : Below w.heap.size w W) => atext_ok SE.out (HL.out.next hb) hc hc' HN.out (GG.out.gt.next hb))
 have C7 := Lib.hid (fun (W : World) (hb : Below w.heap.size w W) => aparse_ok SE.out W (GG.out.next hb))
 have RP := Lib.hid (fun s (hs : s ∈ l) W => rplace_ok hp hs W)
 have QL : q.length = l.length := by
  have h9 := HO.out
  unfold ordB at h9
  rw [Bool.and_eq_true, decide_eq_true_eq] at h9
  exact h9.1
 have QL9 := Lib.hid QL
 have hn9 : l.length < 9 := N9.out
 clear ho hp hm PM IC ID OP9 PM9 SE SM QL HN MN
 generalize clsL A B l = cs at *
 generalize clsL A B (ordL l q) = ds at *
 generalize txA l = tx at *
 obtain ⟨m, hm⟩ : ∃ m, ordL l q = m := ⟨_, rfl⟩
 simp only [hm] at C1 C3 C5 ML MG
 clear hm
 go_enter Tryz.func6, Tryz.ntmps6
 go_wp2_with fail
 have G : Hid ((w.alloc (.cells #[.int .i64 A, .int .i64 B] 23)).heap[w.heap.size]? = some (.cells #[.int .i64 A, .int .i64 B] 23)) := Lib.hid (blk_new w _)
 replace NN : Hid (Below w.heap.size w (w.alloc (.cells #[.int .i64 A, .int .i64 B] 23))) := Lib.hid (Bal NN.out _)
 generalize (w.alloc (.cells #[.int .i64 A, .int .i64 B] 23)) = W8 at *
 refine (FC.out _ NN.out).mono ?_
 rintro e w9 ⟨rfl, hb⟩
 replace NN := Lib.hid (Bgo NN.out hb)
 replace G := Lib.hid (blk_next hb G.out)
 clear hb
 go_wp2_with fail
 refine (CO.out _ NN.out).mono ?_
 rintro e w10 ⟨rfl, hb⟩
 replace NN := Lib.hid (Bgo NN.out hb)
 replace G := Lib.hid (blk_next hb G.out)
 clear hb
 have c_G_0 := blk_cell G.out 0 _ rfl
 have f_G_0 := blk_frozen G.out 0
 have c_G_1 := blk_cell G.out 1 _ rfl
 have f_G_1 := blk_frozen G.out 1
 have l_G := blk_lt G.out
 go_wp2_with fail
 clear c_G_0 f_G_0 c_G_1 f_G_1 l_G
 refine (C1.out _ NN.out).mono ?_
 rintro e w11 ⟨gm, rfl, hbm, hb⟩
 replace NN := Lib.hid (Bgo NN.out hb)
 replace G := Lib.hid (blk_next hb G.out)
 clear hb
 have OM := Lib.hid hbm
 clear hbm
 have c_G_0 := blk_cell G.out 0 _ rfl
 have f_G_0 := blk_frozen G.out 0
 have c_G_1 := blk_cell G.out 1 _ rfl
 have f_G_1 := blk_frozen G.out 1
 have l_G := blk_lt G.out
 go_wp2_with fail
 clear c_G_0 f_G_0 c_G_1 f_G_1 l_G
 refine (C2.out _ NN.out).mono ?_
 rintro e w12 ⟨gp, rfl, hbm, hb⟩
 replace NN := Lib.hid (Bgo NN.out hb)
 replace OM := Lib.hid (blk_next hb OM.out)
 replace G := Lib.hid (blk_next hb G.out)
 clear hb
 have OPl := Lib.hid hbm
 clear hbm
 have c_G_0 := blk_cell G.out 0 _ rfl
 have f_G_0 := blk_frozen G.out 0
 have c_G_1 := blk_cell G.out 1 _ rfl
 have f_G_1 := blk_frozen G.out 1
 have l_G := blk_lt G.out
 go_wp2_with fail
 clear c_G_0 f_G_0 c_G_1 f_G_1 l_G
 refine (C3.out _ _ OM.out).mono ?_
 rintro e w13 ⟨gq, rfl, hbm, hb⟩
 replace NN := Lib.hid (Bgo NN.out hb)
 replace OM := Lib.hid (blk_next hb OM.out)
 replace OPl := Lib.hid (blk_next hb OPl.out)
 replace G := Lib.hid (blk_next hb G.out)
 clear hb
 have OQl := Lib.hid hbm
 clear hbm
 have c_G_0 := blk_cell G.out 0 _ rfl
 have f_G_0 := blk_frozen G.out 0
 have c_G_1 := blk_cell G.out 1 _ rfl
 have f_G_1 := blk_frozen G.out 1
 have l_G := blk_lt G.out
 go_wp2_with fail
 clear c_G_0 f_G_0 c_G_1 f_G_1 l_G
 refine (C4.out _ NN.out).mono ?_
 rintro e w14 ⟨Ak, ck, hs, rfl, hb, k1, k2, ho⟩
 replace NN := Lib.hid (Bgo NN.out hb)
 replace OM := Lib.hid (blk_next hb OM.out)
 replace OPl := Lib.hid (blk_next hb OPl.out)
 replace OQl := Lib.hid (blk_next hb OQl.out)
 replace G := Lib.hid (blk_next hb G.out)
 clear hb
 have OC1 := Lib.hid ho
 have K1 := Lib.hid k1
 have K2 := Lib.hid k2
 clear ho k1 k2
 have c_G_0 := blk_cell G.out 0 _ rfl
 have f_G_0 := blk_frozen G.out 0
 have c_G_1 := blk_cell G.out 1 _ rfl
 have f_G_1 := blk_frozen G.out 1
 have l_G := blk_lt G.out
 go_wp2_with fail
 clear c_G_0 f_G_0 c_G_1 f_G_1 l_G
 refine (C5.out _ _ OM.out).mono ?_
 rintro e w15 ⟨Aj, cj, js, rfl, hb, k1, k2, ho⟩
 replace NN := Lib.hid (Bgo NN.out hb)
 replace OM := Lib.hid (blk_next hb OM.out)
 replace OPl := Lib.hid (blk_next hb OPl.out)
 replace OQl := Lib.hid (blk_next hb OQl.out)
 replace OC1 := Lib.hid (OC.next OC1.out hb)
 replace G := Lib.hid (blk_next hb G.out)
 clear hb
 have OC2 := Lib.hid ho
 have J1 := Lib.hid k1
 have J2 := Lib.hid k2
 clear ho k1 k2
 go_wp2_with fail
 refine (C6.out _ NN.out).mono ?_
 rintro e w16 ⟨rfl, hb⟩
 replace NN := Lib.hid (Bgo NN.out hb)
 replace OM := Lib.hid (blk_next hb OM.out)
 replace OPl := Lib.hid (blk_next hb OPl.out)
 replace OQl := Lib.hid (blk_next hb OQl.out)
 replace OC1 := Lib.hid (OC.next OC1.out hb)
 replace OC2 := Lib.hid (OC.next OC2.out hb)
 replace G := Lib.hid (blk_next hb G.out)
 clear hb
 go_wp2_with fail
 refine (C7.out _ NN.out).mono ?_
 rintro e w17 ⟨Ab, cb, rfl, hb, k1, k2, hr⟩
 replace NN := Lib.hid (Bgo NN.out hb)
 replace OM := Lib.hid (blk_next hb OM.out)
 replace OPl := Lib.hid (blk_next hb OPl.out)
 replace OQl := Lib.hid (blk_next hb OQl.out)
 replace OC1 := Lib.hid (OC.next OC1.out hb)
 replace OC2 := Lib.hid (OC.next OC2.out hb)
 replace G := Lib.hid (blk_next hb G.out)
 clear hb
 have RB := Lib.hid hr
 have B1 := Lib.hid k1
 have B2 := Lib.hid k2
 clear hr k1 k2
 go_wp2_with fail
 refine (sameS_calls _ _ _ _ _ _ RB.out (HL.out.next NN.out) B1.out B2.out hc hc').mono ?_
 rintro e w18 ⟨rfl, hb⟩
 replace NN := Lib.hid (Bgo NN.out hb)
 replace OM := Lib.hid (blk_next hb OM.out)
 replace OPl := Lib.hid (blk_next hb OPl.out)
 replace OQl := Lib.hid (blk_next hb OQl.out)
 replace OC1 := Lib.hid (OC.next OC1.out hb)
 replace OC2 := Lib.hid (OC.next OC2.out hb)
 replace RB := Lib.hid (Rd.next hb RB.out)
 replace G := Lib.hid (blk_next hb G.out)
 clear hb
 clear RB
 go_wp2_with fail
 skip
 have NNc := NN
 have SZW : Hid (w.heap.size ≤ w18.heap.size) := Lib.hid NN.out.size
 have G0 := G
 have OM0 := OM
 have OP0 := OPl
 have OQ0 := OQl
 have OC10 := OC1
 have OC20 := OC2
 clear NN G OM OPl OQl OC1 OC2
 have NN : Hid (Below w18.heap.size w18 w18) := Lib.hid (Below.refl _ _)
 go_loopw [21] (fun i wr => ∃ k : Nat, k ≤ q.length ∧ i = .int .i64 k ∧ Hid (Below w18.heap.size w18 wr)) (fun i _ => q.length - (intOf i).toNat)
 case atStart => exact ⟨0, by omega, rfl, NN⟩
 case round =>
  clear NN
  obtain ⟨k, hk, rfl, NN⟩ := hrel
  have qb : q.length ≤ 9223372036854775807 := Nat.le_trans hcq hcq'
  by_cases hlt : k < q.length
  ·obtain ⟨z, hz⟩ := get_some hlt
   obtain ⟨-, z0, z1⟩ := OAT.out k z hz
   obtain ⟨t, rfl⟩ := Int.eq_ofNat_of_zero_le z0
   obtain ⟨s, hs⟩ := get_some (show t < l.length by omega)
   have HMK := Lib.hid (MG.out k t s hz hs)
   have HS := Lib.hid hs
   have HSM := Lib.hid (List.mem_of_getElem? hs)
   obtain ⟨bq, oq, obq, eq, hq0, hqc⟩ := rec_ob (HQ.out.next NNc.out) (by omega)
   subst eq
   obtain ⟨bl, ol, obl, el, hl0, hlc⟩ := rec_ob (HL.out.next NNc.out) (by omega)
   subst el
   have RQ : Hid (∀ X : World, X.heap[bq]? = some obq → ∀ j u, [Value.int .i64 (t : Int)][j]? = some u → X.cell? ⟨bq, oq + k + j, none⟩ = some u) := Lib.hid (fun X hX j u hu => by
    have j0 : j = 0 := by have := get_lt hu; simp at this; exact this
    subst j0
    simp at hu
    subst hu
    exact hqc X hX k _ (lv_get hz))
   have RL : Hid (∀ X : World, X.heap[bl]? = some obl → ∀ j u, (st5 s)[j]? = some u → X.cell? ⟨bl, ol + t * 5 + j, none⟩ = some u) := Lib.hid (fun X hX j u hu => by
    have hj : j < 5 := get_lt hu
    rw [Nat.add_assoc]
    exact hlc X hX (t * 5 + j) u (by rw [fm_get st5 5 st5_len l t j s hs hj]; exact hu))
   have EP : Hid ((l.map (plV A B))[t]? = some (plV A B s)) := Lib.hid (by rw [List.getElem?_map, hs]; rfl)
   have EQ : Hid ((m.map (plV A B))[k]? = some (plV A B s)) := Lib.hid (by rw [List.getElem?_map, HMK.out]; rfl)
   have PLC := Lib.hid (RP.out s HSM.out)
   have kk : k + 1 ≤ q.length := hlt
   have k1 : (k : Int) < (q.length : Int) := by omega
   have k2 : (k : Int) < (l.length : Int) := by have := QL9.out; omega
   have k2' : k < l.length := by have := QL9.out; omega
   have t1 : (t : Int) < (l.length : Int) := z1
   have t2 : t < l.length := by omega
   have t0 : (0 : Int) ≤ (t : Int) := z0
   have G := Lib.hid (blk_next NN.out G0.out)
   have OM := Lib.hid (blk_next NN.out OM0.out)
   have OPl := Lib.hid (blk_next NN.out OP0.out)
   have OQl := Lib.hid (blk_next NN.out OQ0.out)
   have BQ := Lib.hid (blk_next NN.out hq0)
   have BL := Lib.hid (blk_next NN.out hl0)
   clear hz hs z0 z1 hq0 hqc hl0 hlc
   obtain ⟨ps, hps⟩ : ∃ ps, plV A B s = ps := ⟨_, rfl⟩
   simp only [hps] at EP EQ PLC
   clear hps
   generalize hmp : m.map (plV A B) = mp at *
   generalize hlp : l.map (plV A B) = lp at *
   clear hmp hlp
   go_upto_region 15 with fail
   have HDRW := Lib.hid (Below.drew (Below.refl wr.heap.size wr))
   replace NN := Lib.hid (Bgo NN.out HDRW.out)
   replace OM := Lib.hid (blk_next HDRW.out OM.out)
   replace OPl := Lib.hid (blk_next HDRW.out OPl.out)
   replace OQl := Lib.hid (blk_next HDRW.out OQl.out)
   replace BQ := Lib.hid (blk_next HDRW.out BQ.out)
   replace BL := Lib.hid (blk_next HDRW.out BL.out)
   replace G := Lib.hid (blk_next HDRW.out G.out)
   clear HDRW
   have HAL : Hid (∀ kx9 : Nat, GK [(3, gm, .cells (m.flatMap st5).toArray 69), (8, bq, obq), (10, bl, obl), (16, gq, .cells (mp.flatMap v6).toArray 38), (21, bq, obq), (23, gp, .cells (lp.flatMap v6).toArray 38), (30, gq, .cells (mp.flatMap v6).toArray 38), (31, w.heap.size, .cells #[.int .i64 A, .int .i64 B] 23), (36, gm, .cells (m.flatMap st5).toArray 69), (41, gm, .cells (m.flatMap st5).toArray 69)] kx9 wr.drew) := Lib.hid (fun kx9 => fun px9 hp e => by
    simp only [List.mem_cons, List.not_mem_nil, or_false] at hp
    rcases hp with rfl | rfl | rfl | rfl | rfl | rfl | rfl | rfl | rfl | rfl
    ·exact OM.out
    ·exact BQ.out
    ·exact BL.out
    ·exact OQl.out
    ·exact BQ.out
    ·exact OPl.out
    ·exact OQl.out
    ·exact G.out
    ·exact OM.out
    ·exact OM.out
   )
   refine region_G (S := GK [(3, gm, .cells (m.flatMap st5).toArray 69), (8, bq, obq), (10, bl, obl), (16, gq, .cells (mp.flatMap v6).toArray 38), (21, bq, obq), (23, gp, .cells (lp.flatMap v6).toArray 38), (30, gq, .cells (mp.flatMap v6).toArray 38), (31, w.heap.size, .cells #[.int .i64 A, .int .i64 B] 23), (36, gm, .cells (m.flatMap st5).toArray 69), (41, gm, .cells (m.flatMap st5).toArray 69)]) (by kernel_rfl) ?_
   refine tG 0 (.slice (some ⟨gm, 0, none⟩) l.length l.length) (some 144) (GK.grow _) rfl (YieldsIf.toG (Or.inl ⟨by rfl, ?_⟩)) (GK.drop (by simp)) ?_
   ·intro X hX
    clear hX
    go_simp
   try simp only [Act.put, zA, zB, zC]
   refine tG 1 (.int .i64 (k : Int)) (some 145) (GK.grow _) rfl (YieldsIf.toG (Or.inl ⟨by rfl, ?_⟩)) (GK.drop (by simp)) ?_
   ·intro X hX
    clear hX
    go_simp
   try simp only [Act.put, zA, zB, zC]
   refine tG 2 (.pointer (some ⟨gm, k * 5, none⟩)) (some 146) (GK.grow _) rfl (YieldsIf.toG (Or.inl ⟨by rfl, ?_⟩)) (GK.drop (by simp)) ?_
   ·intro X hX
    clear hX
    go_simp
   try simp only [Act.put, zA, zB, zC]
   refine tG 3 (.agg #[.string s.nm, .int .i64 s.sn, .int .i64 s.sd, .int .i64 s.tn, .int .i64 s.td]) (some 147) (GK.grow _) rfl (YieldsIf.toG (Or.inl ⟨by rfl, ?_⟩)) (HAL.out 3) ?_
   ·intro X hX
    have hh := hX (3, gm, .cells (m.flatMap st5).toArray 69) (List.Mem.head _) rfl
    have hh0 := rec_cell st5_len hh HMK.out 0 _ rfl
    simp only [Nat.add_zero] at hh0
    have hh1 := rec_cell st5_len hh HMK.out 1 _ rfl
    have hh2 := rec_cell st5_len hh HMK.out 2 _ rfl
    have hh3 := rec_cell st5_len hh HMK.out 3 _ rfl
    have hh4 := rec_cell st5_len hh HMK.out 4 _ rfl
    have hhl := blk_lt hh
    clear hh
    clear hX
    go_simp
   try simp only [Act.put, zA, zB, zC]
   refine tG 4 (.slice (some ⟨bl, ol, none⟩) l.length c) (some 148) (GK.grow _) rfl (YieldsIf.toG (Or.inl ⟨by rfl, ?_⟩)) (GK.drop (by simp)) ?_
   ·intro X hX
    clear hX
    go_simp
   try simp only [Act.put, zA, zB, zC]
   refine tG 5 (.slice (some ⟨bq, oq, none⟩) q.length cq) (some 149) (GK.grow _) rfl (YieldsIf.toG (Or.inl ⟨by rfl, ?_⟩)) (GK.drop (by simp)) ?_
   ·intro X hX
    clear hX
    go_simp
   try simp only [Act.put, zA, zB, zC]
   refine tG 6 (.int .i64 (k : Int)) (some 150) (GK.grow _) rfl (YieldsIf.toG (Or.inl ⟨by rfl, ?_⟩)) (GK.drop (by simp)) ?_
   ·intro X hX
    clear hX
    go_simp
   try simp only [Act.put, zA, zB, zC]
   refine tG 7 (.pointer (some ⟨bq, oq + k, none⟩)) (some 151) (GK.grow _) rfl (YieldsIf.toG (Or.inl ⟨by rfl, ?_⟩)) (GK.drop (by simp)) ?_
   ·intro X hX
    clear hX
    go_simp
   try simp only [Act.put, zA, zB, zC]
   refine tG 8 (.int .i64 (t : Int)) (some 152) (GK.grow _) rfl (YieldsIf.toG (Or.inl ⟨by rfl, ?_⟩)) (HAL.out 8) ?_
   ·intro X hX
    have hh := hX (8, bq, obq) (List.Mem.tail _ (List.Mem.head _)) rfl
    have hh0 := RQ.out _ hh 0 _ rfl
    simp only [Nat.add_zero] at hh0
    have hhl := blk_lt hh
    clear hh
    clear hX
    go_simp
   try simp only [Act.put, zA, zB, zC]
   refine tG 9 (.pointer (some ⟨bl, ol + t * 5, none⟩)) (some 153) (GK.grow _) rfl (YieldsIf.toG (Or.inl ⟨by rfl, ?_⟩)) (GK.drop (by simp)) ?_
   ·intro X hX
    clear hX
    go_simp
   try simp only [Act.put, zA, zB, zC]
   refine tG 10 (.agg #[.string s.nm, .int .i64 s.sn, .int .i64 s.sd, .int .i64 s.tn, .int .i64 s.td]) (some 154) (GK.grow _) rfl (YieldsIf.toG (Or.inl ⟨by rfl, ?_⟩)) (HAL.out 10) ?_
   ·intro X hX
    have hh := hX (10, bl, obl) (List.Mem.tail _ (List.Mem.tail _ (List.Mem.head _))) rfl
    have hh0 := RL.out _ hh 0 _ rfl
    simp only [Nat.add_zero] at hh0
    have hh1 := RL.out _ hh 1 _ rfl
    have hh2 := RL.out _ hh 2 _ rfl
    have hh3 := RL.out _ hh 3 _ rfl
    have hh4 := RL.out _ hh 4 _ rfl
    have hhl := blk_lt hh
    clear hh
    clear hX
    go_simp
   try simp only [Act.put, zA, zB, zC]
   refine tG 11 (.bool false) (some 155) (GK.grow _) rfl (YieldsIf.toG (Or.inl ⟨by rfl, ?_⟩)) (GK.drop (by simp)) ?_
   ·intro X hX
    clear hX
    go_simp
   try simp only [Act.put, zA, zB, zC]
   refine tG 12 (.bool false) (some 156) (GK.grow _) rfl (YieldsIf.toG (Or.inl ⟨by rfl, ?_⟩)) (GK.drop (by simp)) ?_
   ·intro X hX
    clear hX
    go_simp
   try simp only [Act.put, zA, zB, zC]
   refine tG 13 (.slice (some ⟨gq, 0, none⟩) l.length l.length) (some 157) (GK.grow _) rfl (YieldsIf.toG (Or.inl ⟨by rfl, ?_⟩)) (GK.drop (by simp)) ?_
   ·intro X hX
    clear hX
    go_simp
   try simp only [Act.put, zA, zB, zC]
   refine tG 14 (.int .i64 (k : Int)) (some 158) (GK.grow _) rfl (YieldsIf.toG (Or.inl ⟨by rfl, ?_⟩)) (GK.drop (by simp)) ?_
   ·intro X hX
    clear hX
    go_simp
   try simp only [Act.put, zA, zB, zC]
   refine tG 15 (.pointer (some ⟨gq, k * 6, none⟩)) (some 159) (GK.grow _) rfl (YieldsIf.toG (Or.inl ⟨by rfl, ?_⟩)) (GK.drop (by simp)) ?_
   ·intro X hX
    clear hX
    go_simp
   try simp only [Act.put, zA, zB, zC]
   refine tG 16 (.agg #[.int .i64 ps.x1, .int .i64 ps.x2, .int .i64 ps.y1, .int .i64 ps.y2, .int .i64 ps.z1, .int .i64 ps.z2]) (some 160) (GK.grow _) rfl (YieldsIf.toG (Or.inl ⟨by rfl, ?_⟩)) (HAL.out 16) ?_
   ·intro X hX
    have hh := hX (16, gq, .cells (mp.flatMap v6).toArray 38) (List.Mem.tail _ (List.Mem.tail _ (List.Mem.tail _ (List.Mem.head _)))) rfl
    have hh0 := rec_cell v6_len hh EQ.out 0 _ rfl
    simp only [Nat.add_zero] at hh0
    have hh1 := rec_cell v6_len hh EQ.out 1 _ rfl
    have hh2 := rec_cell v6_len hh EQ.out 2 _ rfl
    have hh3 := rec_cell v6_len hh EQ.out 3 _ rfl
    have hh4 := rec_cell v6_len hh EQ.out 4 _ rfl
    have hh5 := rec_cell v6_len hh EQ.out 5 _ rfl
    have hhl := blk_lt hh
    clear hh
    clear hX
    go_simp
   try simp only [Act.put, zA, zB, zC]
   refine tG 17 (.slice (some ⟨gp, 0, none⟩) l.length l.length) (some 161) (GK.grow _) rfl (YieldsIf.toG (Or.inl ⟨by rfl, ?_⟩)) (GK.drop (by simp)) ?_
   ·intro X hX
    clear hX
    go_simp
   try simp only [Act.put, zA, zB, zC]
   refine tG 18 (.slice (some ⟨bq, oq, none⟩) q.length cq) (some 162) (GK.grow _) rfl (YieldsIf.toG (Or.inl ⟨by rfl, ?_⟩)) (GK.drop (by simp)) ?_
   ·intro X hX
    clear hX
    go_simp
   try simp only [Act.put, zA, zB, zC]
   refine tG 19 (.int .i64 (k : Int)) (some 163) (GK.grow _) rfl (YieldsIf.toG (Or.inl ⟨by rfl, ?_⟩)) (GK.drop (by simp)) ?_
   ·intro X hX
    clear hX
    go_simp
   try simp only [Act.put, zA, zB, zC]
   refine tG 20 (.pointer (some ⟨bq, oq + k, none⟩)) (some 164) (GK.grow _) rfl (YieldsIf.toG (Or.inl ⟨by rfl, ?_⟩)) (GK.drop (by simp)) ?_
   ·intro X hX
    clear hX
    go_simp
   try simp only [Act.put, zA, zB, zC]
   refine tG 21 (.int .i64 (t : Int)) (some 165) (GK.grow _) rfl (YieldsIf.toG (Or.inl ⟨by rfl, ?_⟩)) (HAL.out 21) ?_
   ·intro X hX
    have hh := hX (21, bq, obq) (List.Mem.tail _ (List.Mem.tail _ (List.Mem.tail _ (List.Mem.tail _ (List.Mem.head _))))) rfl
    have hh0 := RQ.out _ hh 0 _ rfl
    simp only [Nat.add_zero] at hh0
    have hhl := blk_lt hh
    clear hh
    clear hX
    go_simp
   try simp only [Act.put, zA, zB, zC]
   refine tG 22 (.pointer (some ⟨gp, t * 6, none⟩)) (some 166) (GK.grow _) rfl (YieldsIf.toG (Or.inl ⟨by rfl, ?_⟩)) (GK.drop (by simp)) ?_
   ·intro X hX
    clear hX
    go_simp
   try simp only [Act.put, zA, zB, zC]
   refine tG 23 (.agg #[.int .i64 ps.x1, .int .i64 ps.x2, .int .i64 ps.y1, .int .i64 ps.y2, .int .i64 ps.z1, .int .i64 ps.z2]) (some 167) (GK.grow _) rfl (YieldsIf.toG (Or.inl ⟨by rfl, ?_⟩)) (HAL.out 23) ?_
   ·intro X hX
    have hh := hX (23, gp, .cells (lp.flatMap v6).toArray 38) (List.Mem.tail _ (List.Mem.tail _ (List.Mem.tail _ (List.Mem.tail _ (List.Mem.tail _ (List.Mem.head _)))))) rfl
    have hh0 := rec_cell v6_len hh EP.out 0 _ rfl
    simp only [Nat.add_zero] at hh0
    have hh1 := rec_cell v6_len hh EP.out 1 _ rfl
    have hh2 := rec_cell v6_len hh EP.out 2 _ rfl
    have hh3 := rec_cell v6_len hh EP.out 3 _ rfl
    have hh4 := rec_cell v6_len hh EP.out 4 _ rfl
    have hh5 := rec_cell v6_len hh EP.out 5 _ rfl
    have hhl := blk_lt hh
    clear hh
    clear hX
    go_simp
   try simp only [Act.put, zA, zB, zC]
   refine tG 24 (.bool false) (some 168) (GK.grow _) rfl (YieldsIf.toG (Or.inl ⟨by rfl, ?_⟩)) (GK.drop (by simp)) ?_
   ·intro X hX
    clear hX
    go_simp
   try simp only [Act.put, zA, zB, zC]
   refine tG 25 (.bool false) (some 169) (GK.grow _) rfl (YieldsIf.toG (Or.inl ⟨by rfl, ?_⟩)) (GK.drop (by simp)) ?_
   ·intro X hX
    clear hX
    go_simp
   try simp only [Act.put, zA, zB, zC]
   refine tG 26 (.bool false) (some 170) (GK.grow _) rfl (YieldsIf.toG (Or.inl ⟨by rfl, ?_⟩)) (GK.drop (by simp)) ?_
   ·intro X hX
    clear hX
    go_simp
   try simp only [Act.put, zA, zB, zC]
   refine tG 27 (.slice (some ⟨gq, 0, none⟩) l.length l.length) (some 171) (GK.grow _) rfl (YieldsIf.toG (Or.inl ⟨by rfl, ?_⟩)) (GK.drop (by simp)) ?_
   ·intro X hX
    clear hX
    go_simp
   try simp only [Act.put, zA, zB, zC]
   refine tG 28 (.int .i64 (k : Int)) (some 172) (GK.grow _) rfl (YieldsIf.toG (Or.inl ⟨by rfl, ?_⟩)) (GK.drop (by simp)) ?_
   ·intro X hX
    clear hX
    go_simp
   try simp only [Act.put, zA, zB, zC]
   refine tG 29 (.pointer (some ⟨gq, k * 6, none⟩)) (some 173) (GK.grow _) rfl (YieldsIf.toG (Or.inl ⟨by rfl, ?_⟩)) (GK.drop (by simp)) ?_
   ·intro X hX
    clear hX
    go_simp
   try simp only [Act.put, zA, zB, zC]
   refine tG 30 (.agg #[.int .i64 ps.x1, .int .i64 ps.x2, .int .i64 ps.y1, .int .i64 ps.y2, .int .i64 ps.z1, .int .i64 ps.z2]) (some 174) (GK.grow _) rfl (YieldsIf.toG (Or.inl ⟨by rfl, ?_⟩)) (HAL.out 30) ?_
   ·intro X hX
    have hh := hX (30, gq, .cells (mp.flatMap v6).toArray 38) (List.Mem.tail _ (List.Mem.tail _ (List.Mem.tail _ (List.Mem.tail _ (List.Mem.tail _ (List.Mem.tail _ (List.Mem.head _))))))) rfl
    have hh0 := rec_cell v6_len hh EQ.out 0 _ rfl
    simp only [Nat.add_zero] at hh0
    have hh1 := rec_cell v6_len hh EQ.out 1 _ rfl
    have hh2 := rec_cell v6_len hh EQ.out 2 _ rfl
    have hh3 := rec_cell v6_len hh EQ.out 3 _ rfl
    have hh4 := rec_cell v6_len hh EQ.out 4 _ rfl
    have hh5 := rec_cell v6_len hh EQ.out 5 _ rfl
    have hhl := blk_lt hh
    clear hh
    clear hX
    go_simp
   try simp only [Act.put, zA, zB, zC]
   refine tG 31 (.agg #[.int .i64 A, .int .i64 B]) (some 175) (GK.grow _) rfl (YieldsIf.toG (Or.inl ⟨by rfl, ?_⟩)) (HAL.out 31) ?_
   ·intro X hX
    have hh := hX (31, w.heap.size, .cells #[.int .i64 A, .int .i64 B] 23) (List.Mem.tail _ (List.Mem.tail _ (List.Mem.tail _ (List.Mem.tail _ (List.Mem.tail _ (List.Mem.tail _ (List.Mem.tail _ (List.Mem.head _)))))))) rfl
    have hh0 := blk_cell hh 0 _ rfl
    have hh1 := blk_cell hh 1 _ rfl
    have hhl := blk_lt hh
    clear hh
    clear hX
    go_simp
   try simp only [Act.put, zA, zB, zC]
   refine tG 32 (.slice (some ⟨gm, 0, none⟩) l.length l.length) (some 176) (GK.grow _) rfl (YieldsIf.toG (Or.inl ⟨by rfl, ?_⟩)) (GK.drop (by simp)) ?_
   ·intro X hX
    clear hX
    go_simp
   try simp only [Act.put, zA, zB, zC]
   refine tG 33 (.int .i64 (k : Int)) (some 177) (GK.grow _) rfl (YieldsIf.toG (Or.inl ⟨by rfl, ?_⟩)) (GK.drop (by simp)) ?_
   ·intro X hX
    clear hX
    go_simp
   try simp only [Act.put, zA, zB, zC]
   refine tG 34 (.pointer (some ⟨gm, k * 5, none⟩)) (some 178) (GK.grow _) rfl (YieldsIf.toG (Or.inl ⟨by rfl, ?_⟩)) (GK.drop (by simp)) ?_
   ·intro X hX
    clear hX
    go_simp
   try simp only [Act.put, zA, zB, zC]
   refine tG 35 (.pointer (some ⟨gm, k * 5 + 1, none⟩)) (some 179) (GK.grow _) rfl (YieldsIf.toG (Or.inl ⟨by rfl, ?_⟩)) (GK.drop (by simp)) ?_
   ·intro X hX
    clear hX
    go_simp
   try simp only [Act.put, zA, zB, zC]
   refine tG 36 (.agg #[.int .i64 s.sn, .int .i64 s.sd]) (some 180) (GK.grow _) rfl (YieldsIf.toG (Or.inl ⟨by rfl, ?_⟩)) (HAL.out 36) ?_
   ·intro X hX
    have hh := hX (36, gm, .cells (m.flatMap st5).toArray 69) (List.Mem.tail _ (List.Mem.tail _ (List.Mem.tail _ (List.Mem.tail _ (List.Mem.tail _ (List.Mem.tail _ (List.Mem.tail _ (List.Mem.tail _ (List.Mem.head _))))))))) rfl
    have hh0 := rec_cell st5_len hh HMK.out 1 _ rfl
    have hh1 := rec_cell st5_len hh HMK.out 2 _ rfl
    have hhl := blk_lt hh
    clear hh
    clear hX
    go_simp
   try simp only [Act.put, zA, zB, zC]
   refine tG 37 (.slice (some ⟨gm, 0, none⟩) l.length l.length) (some 181) (GK.grow _) rfl (YieldsIf.toG (Or.inl ⟨by rfl, ?_⟩)) (GK.drop (by simp)) ?_
   ·intro X hX
    clear hX
    go_simp
   try simp only [Act.put, zA, zB, zC]
   refine tG 38 (.int .i64 (k : Int)) (some 182) (GK.grow _) rfl (YieldsIf.toG (Or.inl ⟨by rfl, ?_⟩)) (GK.drop (by simp)) ?_
   ·intro X hX
    clear hX
    go_simp
   try simp only [Act.put, zA, zB, zC]
   refine tG 39 (.pointer (some ⟨gm, k * 5, none⟩)) (some 183) (GK.grow _) rfl (YieldsIf.toG (Or.inl ⟨by rfl, ?_⟩)) (GK.drop (by simp)) ?_
   ·intro X hX
    clear hX
    go_simp
   try simp only [Act.put, zA, zB, zC]
   refine tG 40 (.pointer (some ⟨gm, k * 5 + 3, none⟩)) (some 184) (GK.grow _) rfl (YieldsIf.toG (Or.inl ⟨by rfl, ?_⟩)) (GK.drop (by simp)) ?_
   ·intro X hX
    clear hX
    go_simp
   try simp only [Act.put, zA, zB, zC]
   refine tG 41 (.agg #[.int .i64 s.tn, .int .i64 s.td]) (some 185) (GK.grow _) rfl (YieldsIf.toG (Or.inl ⟨by rfl, ?_⟩)) (HAL.out 41) ?_
   ·intro X hX
    have hh := hX (41, gm, .cells (m.flatMap st5).toArray 69) (List.Mem.tail _ (List.Mem.tail _ (List.Mem.tail _ (List.Mem.tail _ (List.Mem.tail _ (List.Mem.tail _ (List.Mem.tail _ (List.Mem.tail _ (List.Mem.tail _ (List.Mem.head _)))))))))) rfl
    have hh0 := rec_cell st5_len hh HMK.out 3 _ rfl
    have hh1 := rec_cell st5_len hh HMK.out 4 _ rfl
    have hhl := blk_lt hh
    clear hh
    clear hX
    go_simp
   try simp only [Act.put, zA, zB, zC]
   have CFn : ∀ (args : Array Value) (W : World), Sem.run Tryz.prog (callFunc 27 args) W = .ok (.enter 27 args) W := fun _ _ => by kernel_rfl
   refine tG 42 (.agg #[.int .i64 ps.x1, .int .i64 ps.x2, .int .i64 ps.y1, .int .i64 ps.y2, .int .i64 ps.z1, .int .i64 ps.z2]) (some 186) (GK.grow _) rfl (yieldsG_call 27 #[.agg #[.int .i64 A, .int .i64 B], .agg #[.int .i64 s.sn, .int .i64 s.sd], .agg #[.int .i64 s.tn, .int .i64 s.td]] (by rfl) ?_ (fun X hS => PLC.out X)) (GK.drop (by simp)) ?_
   ·intro X hX
    clear hX
    go_simp
   clear CFn
   try simp only [Act.put, zA, zB, zC]
   refine tG 43 (.bool false) (some 187) (GK.grow _) rfl (YieldsIf.toG (Or.inl ⟨by rfl, ?_⟩)) (GK.drop (by simp)) ?_
   ·intro X hX
    clear hX
    go_simp
   try simp only [Act.put, zA, zB, zC]
   refine tG 44 (.bool false) (some 188) (GK.grow _) rfl (YieldsIf.toG (Or.inl ⟨by rfl, ?_⟩)) (GK.drop (by simp)) ?_
   ·intro X hX
    clear hX
    go_simp
   try simp only [Act.put, zA, zB, zC]
   clear HAL
   refine done_G (by kernel_rfl) (fun X19 hX => ?_) _
   replace NN := Lib.hid (Bgo NN.out hX)
   replace OM := Lib.hid (blk_next hX OM.out)
   replace OPl := Lib.hid (blk_next hX OPl.out)
   replace OQl := Lib.hid (blk_next hX OQl.out)
   replace BQ := Lib.hid (blk_next hX BQ.out)
   replace BL := Lib.hid (blk_next hX BL.out)
   replace G := Lib.hid (blk_next hX G.out)
   clear hX
   go_wp2_with fail
   go_roundw
   case rel => exact ⟨k + 1, kk, by go_num, NN⟩
   case measure => simp [intOf]; omega
  ·obtain rfl : k = q.length := by omega
   clear hlt hk
   go_wp2_with fail
   go_loopw [22] (fun i wr => ∃ k : Nat, k ≤ cs.length ∧ i = .int .i64 k ∧ Hid (Below w18.heap.size w18 wr)) (fun i _ => cs.length - (intOf i).toNat)
   case atStart => exact ⟨0, by omega, rfl, NN⟩
   case round =>
    clear NN
    obtain ⟨k, hk, rfl, NN⟩ := hrel
    have cb : cs.length ≤ 9223372036854775807 := Nat.le_trans K1.out K2.out
    have cb2 : cs.length ≤ cj := J1.out
    have cb3 : cs.length ≤ ck := K1.out
    by_cases hlt : k < cs.length
    ·obtain ⟨cl, hcv⟩ := get_some hlt
     obtain ⟨u, hu⟩ := get_some (show k < hs.length by rw [OC10.out.len]; exact hlt)
     obtain ⟨gc, cur, hA, -, hcu, hcl⟩ := OC10.out.cells (by omega)
     subst hA
     obtain ⟨Au, cu, hu0, hun, huc, hru⟩ := Rd.of_own (OC10.out.inn k cl u hcv hu)
     subst hu0
     have CLs := Lib.hid (fun X (hX : X.heap[gc]? = some (.cells cur 40)) j y hy => hcl X hX k cl _ hcv hu j y hy)
     have CU0 := Lib.hid hcu
     have HCV := Lib.hid hcv
     have kk : k + 1 ≤ cs.length := hlt
     have k1 : (k : Int) < (cs.length : Int) := by omega
     have OKC := Lib.hid (OKV.out cl (List.mem_of_getElem? hcv))
     have FN9 := Lib.hid (FND.out cl (List.mem_of_getElem? hcv))
     clear hcv hu hcu hcl hru hun huc
     go_wp2_with fail
     go_loopw [23, 24] (fun f i wr => ∃ j : Nat, j ≤ cs.length ∧ i = .int .i64 j ∧ f = .bool (fndB ds cl.1 j) ∧ Hid (Below w18.heap.size w18 wr)) (fun f i _ => cs.length - (intOf i).toNat)
     case atStart => exact ⟨0, by omega, rfl, by rw [fnd_zero], NN⟩
     case round =>
      clear NN
      obtain ⟨j, hj, rfl, rfl, NN⟩ := hrel
      by_cases hjl : j < cs.length
      ·obtain ⟨d, hd⟩ := get_some (show j < ds.length by rw [← DL.out]; exact hjl)
       obtain ⟨u2, hu2⟩ := get_some (show j < js.length by rw [OC20.out.len, ← DL.out]; exact hjl)
       obtain ⟨gd, cud, hA2, -, hcud, hcld⟩ := OC20.out.cells (by rw [← DL.out]; omega)
       subst hA2
       obtain ⟨Ad, cd, hu3, -, -, -⟩ := Rd.of_own (OC20.out.inn j d u2 hd hu2)
       subst hu3
       have CLd := Lib.hid (fun X (hX : X.heap[gd]? = some (.cells cud 40)) i y hy => hcld X hX j d _ hd hu2 i y hy)
       have jj : j + 1 ≤ cs.length := hjl
       have j1 : (j : Int) < (cs.length : Int) := by omega
       have FS := Lib.hid (fnd_succ (v := cl.1) hd)
       have LE := Lib.hid (CLN.out k j cl d HCV.out hd)
       have CU := Lib.hid (blk_next NN.out CU0.out)
       have CD := Lib.hid (blk_next NN.out hcud)
       clear hd hu2 hcud hcld
       cases hb9 : fndB ds cl.1 j
       rotate_left
       ·rw [hb9] at FS
        go_upto_region 24 with fail
        have HDRW := Lib.hid (Below.drew (Below.refl wr.heap.size wr))
        replace NN := Lib.hid (Bgo NN.out HDRW.out)
        replace CU := Lib.hid (blk_next HDRW.out CU.out)
        replace CD := Lib.hid (blk_next HDRW.out CD.out)
        clear HDRW
        have HAL : Hid (∀ kx9 : Nat, GK [] kx9 wr.drew) := Lib.hid (fun kx9 => fun px9 hp e => absurd hp (by simp))
        refine region_G (S := GK []) (by kernel_rfl) ?_
        refine tG 0 (.bool true) (some 201) (GK.grow _) rfl (YieldsIf.toG (Or.inl ⟨by rfl, ?_⟩)) (GK.drop (by simp)) ?_
        ·intro X hX
         clear hX
         go_simp
        try simp only [Act.put, zA, zB, zC]
        refine tG 1 (.bool true) (some 202) (GK.grow _) rfl (YieldsIf.toG (Or.inl ⟨by rfl, ?_⟩)) (GK.drop (by simp)) ?_
        ·intro X hX
         clear hX
         go_simp
        try simp only [Act.put, zA, zB, zC]
        refine tG 2 (undef) (some 203) (GK.grow _) rfl (YieldsIf.toG (Or.inr ⟨by rfl, rfl⟩)) (GK.drop (by simp)) ?_
        try simp only [Act.put, zA, zB, zC]
        refine tG 3 (undef) (some 204) (GK.grow _) rfl (YieldsIf.toG (Or.inr ⟨by rfl, rfl⟩)) (GK.drop (by simp)) ?_
        try simp only [Act.put, zA, zB, zC]
        refine tG 4 (undef) (some 205) (GK.grow _) rfl (YieldsIf.toG (Or.inr ⟨by rfl, rfl⟩)) (GK.drop (by simp)) ?_
        try simp only [Act.put, zA, zB, zC]
        refine tG 5 (undef) (some 206) (GK.grow _) rfl (YieldsIf.toG (Or.inr ⟨by rfl, rfl⟩)) (GK.drop (by simp)) ?_
        try simp only [Act.put, zA, zB, zC]
        refine tG 6 (undef) (some 207) (GK.grow _) rfl (YieldsIf.toG (Or.inr ⟨by rfl, rfl⟩)) (GK.drop (by simp)) ?_
        try simp only [Act.put, zA, zB, zC]
        refine tG 7 (undef) (some 208) (GK.grow _) rfl (YieldsIf.toG (Or.inr ⟨by rfl, rfl⟩)) (GK.drop (by simp)) ?_
        try simp only [Act.put, zA, zB, zC]
        refine tG 8 (undef) (some 209) (GK.grow _) rfl (YieldsIf.toG (Or.inr ⟨by rfl, rfl⟩)) (GK.drop (by simp)) ?_
        try simp only [Act.put, zA, zB, zC]
        refine tG 9 (undef) (some 210) (GK.grow _) rfl (YieldsIf.toG (Or.inr ⟨by rfl, rfl⟩)) (GK.drop (by simp)) ?_
        try simp only [Act.put, zA, zB, zC]
        refine tG 10 (undef) (some 211) (GK.grow _) rfl (YieldsIf.toG (Or.inr ⟨by rfl, rfl⟩)) (GK.drop (by simp)) ?_
        try simp only [Act.put, zA, zB, zC]
        refine tG 11 (undef) (some 212) (GK.grow _) rfl (YieldsIf.toG (Or.inr ⟨by rfl, rfl⟩)) (GK.drop (by simp)) ?_
        try simp only [Act.put, zA, zB, zC]
        refine tG 12 (undef) (some 213) (GK.grow _) rfl (YieldsIf.toG (Or.inr ⟨by rfl, rfl⟩)) (GK.drop (by simp)) ?_
        try simp only [Act.put, zA, zB, zC]
        refine tG 13 (undef) (some 214) (GK.grow _) rfl (YieldsIf.toG (Or.inr ⟨by rfl, rfl⟩)) (GK.drop (by simp)) ?_
        try simp only [Act.put, zA, zB, zC]
        refine tG 14 (undef) (some 215) (GK.grow _) rfl (YieldsIf.toG (Or.inr ⟨by rfl, rfl⟩)) (GK.drop (by simp)) ?_
        try simp only [Act.put, zA, zB, zC]
        refine tG 15 (undef) (some 216) (GK.grow _) rfl (YieldsIf.toG (Or.inr ⟨by rfl, rfl⟩)) (GK.drop (by simp)) ?_
        try simp only [Act.put, zA, zB, zC]
        refine tG 16 (undef) (some 217) (GK.grow _) rfl (YieldsIf.toG (Or.inr ⟨by rfl, rfl⟩)) (GK.drop (by simp)) ?_
        try simp only [Act.put, zA, zB, zC]
        refine tG 17 (undef) (some 218) (GK.grow _) rfl (YieldsIf.toG (Or.inr ⟨by rfl, rfl⟩)) (GK.drop (by simp)) ?_
        try simp only [Act.put, zA, zB, zC]
        refine tG 18 (undef) (some 219) (GK.grow _) rfl (YieldsIf.toG (Or.inr ⟨by rfl, rfl⟩)) (GK.drop (by simp)) ?_
        try simp only [Act.put, zA, zB, zC]
        refine tG 19 (undef) (some 220) (GK.grow _) rfl (YieldsIf.toG (Or.inr ⟨by rfl, rfl⟩)) (GK.drop (by simp)) ?_
        try simp only [Act.put, zA, zB, zC]
        refine tG 20 (undef) (some 221) (GK.grow _) rfl (YieldsIf.toG (Or.inr ⟨by rfl, rfl⟩)) (GK.drop (by simp)) ?_
        try simp only [Act.put, zA, zB, zC]
        refine tG 21 (undef) (some 222) (GK.grow _) rfl (YieldsIf.toG (Or.inr ⟨by rfl, rfl⟩)) (GK.drop (by simp)) ?_
        try simp only [Act.put, zA, zB, zC]
        refine tG 22 (undef) (some 223) (GK.grow _) rfl (YieldsIf.toG (Or.inr ⟨by rfl, rfl⟩)) (GK.drop (by simp)) ?_
        try simp only [Act.put, zA, zB, zC]
        refine tG 23 (undef) (some 224) (GK.grow _) rfl (YieldsIf.toG (Or.inr ⟨by rfl, rfl⟩)) (GK.drop (by simp)) ?_
        try simp only [Act.put, zA, zB, zC]
        refine tG 24 (undef) (some 225) (GK.grow _) rfl (YieldsIf.toG (Or.inr ⟨by rfl, rfl⟩)) (GK.drop (by simp)) ?_
        try simp only [Act.put, zA, zB, zC]
        refine tG 25 (undef) (some 226) (GK.grow _) rfl (YieldsIf.toG (Or.inr ⟨by rfl, rfl⟩)) (GK.drop (by simp)) ?_
        try simp only [Act.put, zA, zB, zC]
        refine tG 26 (undef) (some 227) (GK.grow _) rfl (YieldsIf.toG (Or.inr ⟨by rfl, rfl⟩)) (GK.drop (by simp)) ?_
        try simp only [Act.put, zA, zB, zC]
        refine tG 27 (undef) (some 228) (GK.grow _) rfl (YieldsIf.toG (Or.inr ⟨by rfl, rfl⟩)) (GK.drop (by simp)) ?_
        try simp only [Act.put, zA, zB, zC]
        refine tG 28 (undef) (some 229) (GK.grow _) rfl (YieldsIf.toG (Or.inr ⟨by rfl, rfl⟩)) (GK.drop (by simp)) ?_
        try simp only [Act.put, zA, zB, zC]
        refine tG 29 (undef) (some 230) (GK.grow _) rfl (YieldsIf.toG (Or.inr ⟨by rfl, rfl⟩)) (GK.drop (by simp)) ?_
        try simp only [Act.put, zA, zB, zC]
        refine tG 30 (undef) (some 231) (GK.grow _) rfl (YieldsIf.toG (Or.inr ⟨by rfl, rfl⟩)) (GK.drop (by simp)) ?_
        try simp only [Act.put, zA, zB, zC]
        refine tG 31 (undef) (some 232) (GK.grow _) rfl (YieldsIf.toG (Or.inr ⟨by rfl, rfl⟩)) (GK.drop (by simp)) ?_
        try simp only [Act.put, zA, zB, zC]
        refine tG 32 (undef) (some 233) (GK.grow _) rfl (YieldsIf.toG (Or.inr ⟨by rfl, rfl⟩)) (GK.drop (by simp)) ?_
        try simp only [Act.put, zA, zB, zC]
        refine tG 33 (undef) (some 234) (GK.grow _) rfl (YieldsIf.toG (Or.inr ⟨by rfl, rfl⟩)) (GK.drop (by simp)) ?_
        try simp only [Act.put, zA, zB, zC]
        refine tG 34 (undef) (some 235) (GK.grow _) rfl (YieldsIf.toG (Or.inr ⟨by rfl, rfl⟩)) (GK.drop (by simp)) ?_
        try simp only [Act.put, zA, zB, zC]
        refine tG 35 (undef) (some 236) (GK.grow _) rfl (YieldsIf.toG (Or.inr ⟨by rfl, rfl⟩)) (GK.drop (by simp)) ?_
        try simp only [Act.put, zA, zB, zC]
        refine tG 36 (undef) (some 237) (GK.grow _) rfl (YieldsIf.toG (Or.inr ⟨by rfl, rfl⟩)) (GK.drop (by simp)) ?_
        try simp only [Act.put, zA, zB, zC]
        refine tG 37 (undef) (some 238) (GK.grow _) rfl (YieldsIf.toG (Or.inr ⟨by rfl, rfl⟩)) (GK.drop (by simp)) ?_
        try simp only [Act.put, zA, zB, zC]
        refine tG 38 (undef) (some 239) (GK.grow _) rfl (YieldsIf.toG (Or.inr ⟨by rfl, rfl⟩)) (GK.drop (by simp)) ?_
        try simp only [Act.put, zA, zB, zC]
        refine tG 39 (undef) (some 240) (GK.grow _) rfl (YieldsIf.toG (Or.inr ⟨by rfl, rfl⟩)) (GK.drop (by simp)) ?_
        try simp only [Act.put, zA, zB, zC]
        refine tG 40 (undef) (some 241) (GK.grow _) rfl (YieldsIf.toG (Or.inr ⟨by rfl, rfl⟩)) (GK.drop (by simp)) ?_
        try simp only [Act.put, zA, zB, zC]
        refine tG 41 (undef) (some 242) (GK.grow _) rfl (YieldsIf.toG (Or.inr ⟨by rfl, rfl⟩)) (GK.drop (by simp)) ?_
        try simp only [Act.put, zA, zB, zC]
        refine tG 42 (.bool true) (some 243) (GK.grow _) rfl (YieldsIf.toG (Or.inl ⟨by rfl, ?_⟩)) (GK.drop (by simp)) ?_
        ·intro X hX
         clear hX
         go_simp
        try simp only [Act.put, zA, zB, zC]
        refine tG 43 (.bool true) (some 23) (GK.grow _) rfl (YieldsIf.toG (Or.inl ⟨by rfl, ?_⟩)) (GK.drop (by simp)) ?_
        ·intro X hX
         clear hX
         go_simp
        try simp only [Act.put, zA, zB, zC]
        clear HAL
        refine done_G (by kernel_rfl) (fun X20 hX => ?_) _
        replace NN := Lib.hid (Bgo NN.out hX)
        replace CU := Lib.hid (blk_next hX CU.out)
        replace CD := Lib.hid (blk_next hX CD.out)
        clear hX
        go_wp2_with fail
        go_roundw
        case rel => exact ⟨j + 1, jj, by go_num, (by rw [FS.out]; rfl), NN⟩
        case measure => simp [intOf]; omega
       rw [hb9] at FS
       by_cases e1 : d.1 = cl.1
       ·have pm : isPM d.1 cl.1 = true := isPM_iff.2 (.inl e1)
        have le := LE.out pm
        have dl : ((d.2.length : Int) == (cl.2.length : Int)) = true := by rw [beq_iff_eq]; omega
        rw [pm] at FS
        have de : decide (d.1 = cl.1) = true := decide_eq_true e1
        clear e1 le pm
        go_upto_region 24 with fail
        have HDRW := Lib.hid (Below.drew (Below.refl wr.heap.size wr))
        replace NN := Lib.hid (Bgo NN.out HDRW.out)
        replace CU := Lib.hid (blk_next HDRW.out CU.out)
        replace CD := Lib.hid (blk_next HDRW.out CD.out)
        clear HDRW
        have HAL : Hid (∀ kx9 : Nat, GK [(6, gd, .cells cud 40), (11, gc, .cells cur 40), (32, gd, .cells cud 40), (38, gc, .cells cur 40)] kx9 wr.drew) := Lib.hid (fun kx9 => fun px9 hp e => by
         simp only [List.mem_cons, List.not_mem_nil, or_false] at hp
         rcases hp with rfl | rfl | rfl | rfl
         ·exact CD.out
         ·exact CU.out
         ·exact CD.out
         ·exact CU.out
        )
        refine region_G (S := GK [(6, gd, .cells cud 40), (11, gc, .cells cur 40), (32, gd, .cells cud 40), (38, gc, .cells cur 40)]) (by kernel_rfl) ?_
        refine tG 0 (.bool false) (some 201) (GK.grow _) rfl (YieldsIf.toG (Or.inl ⟨by rfl, ?_⟩)) (GK.drop (by simp)) ?_
        ·intro X hX
         clear hX
         go_simp
        try simp only [Act.put, zA, zB, zC]
        refine tG 1 (.bool false) (some 202) (GK.grow _) rfl (YieldsIf.toG (Or.inl ⟨by rfl, ?_⟩)) (GK.drop (by simp)) ?_
        ·intro X hX
         clear hX
         go_simp
        try simp only [Act.put, zA, zB, zC]
        refine tG 2 (.slice (some ⟨gd, 0, none⟩) cs.length cj) (some 203) (GK.grow _) rfl (YieldsIf.toG (Or.inl ⟨by rfl, ?_⟩)) (GK.drop (by simp)) ?_
        ·intro X hX
         clear hX
         go_simp
        try simp only [Act.put, zA, zB, zC]
        refine tG 3 (.int .i64 (j : Int)) (some 204) (GK.grow _) rfl (YieldsIf.toG (Or.inl ⟨by rfl, ?_⟩)) (GK.drop (by simp)) ?_
        ·intro X hX
         clear hX
         go_simp
        try simp only [Act.put, zA, zB, zC]
        refine tG 4 (.pointer (some ⟨gd, j * 7, none⟩)) (some 205) (GK.grow _) rfl (YieldsIf.toG (Or.inl ⟨by rfl, ?_⟩)) (GK.drop (by simp)) ?_
        ·intro X hX
         clear hX
         go_simp
        try simp only [Act.put, zA, zB, zC]
        refine tG 5 (.pointer (some ⟨gd, j * 7, none⟩)) (some 206) (GK.grow _) rfl (YieldsIf.toG (Or.inl ⟨by rfl, ?_⟩)) (GK.drop (by simp)) ?_
        ·intro X hX
         clear hX
         go_simp
        try simp only [Act.put, zA, zB, zC]
        refine tG 6 (.agg #[.int .i64 d.1.x1, .int .i64 d.1.x2, .int .i64 d.1.y1, .int .i64 d.1.y2, .int .i64 d.1.z1, .int .i64 d.1.z2]) (some 207) (GK.grow _) rfl (YieldsIf.toG (Or.inl ⟨by rfl, ?_⟩)) (HAL.out 6) ?_
        ·intro X hX
         have hh := hX (6, gd, .cells cud 40) (List.Mem.head _) rfl
         have hh0 := CLd.out _ hh 0 _ rfl
         simp only [Nat.add_zero] at hh0
         have hh1 := CLd.out _ hh 1 _ rfl
         have hh2 := CLd.out _ hh 2 _ rfl
         have hh3 := CLd.out _ hh 3 _ rfl
         have hh4 := CLd.out _ hh 4 _ rfl
         have hh5 := CLd.out _ hh 5 _ rfl
         have hhl := blk_lt hh
         clear hh
         clear hX
         go_simp
        try simp only [Act.put, zA, zB, zC]
        refine tG 7 (.slice (some ⟨gc, 0, none⟩) cs.length ck) (some 208) (GK.grow _) rfl (YieldsIf.toG (Or.inl ⟨by rfl, ?_⟩)) (GK.drop (by simp)) ?_
        ·intro X hX
         clear hX
         go_simp
        try simp only [Act.put, zA, zB, zC]
        refine tG 8 (.int .i64 (k : Int)) (some 209) (GK.grow _) rfl (YieldsIf.toG (Or.inl ⟨by rfl, ?_⟩)) (GK.drop (by simp)) ?_
        ·intro X hX
         clear hX
         go_simp
        try simp only [Act.put, zA, zB, zC]
        refine tG 9 (.pointer (some ⟨gc, k * 7, none⟩)) (some 210) (GK.grow _) rfl (YieldsIf.toG (Or.inl ⟨by rfl, ?_⟩)) (GK.drop (by simp)) ?_
        ·intro X hX
         clear hX
         go_simp
        try simp only [Act.put, zA, zB, zC]
        refine tG 10 (.pointer (some ⟨gc, k * 7, none⟩)) (some 211) (GK.grow _) rfl (YieldsIf.toG (Or.inl ⟨by rfl, ?_⟩)) (GK.drop (by simp)) ?_
        ·intro X hX
         clear hX
         go_simp
        try simp only [Act.put, zA, zB, zC]
        refine tG 11 (.agg #[.int .i64 cl.1.x1, .int .i64 cl.1.x2, .int .i64 cl.1.y1, .int .i64 cl.1.y2, .int .i64 cl.1.z1, .int .i64 cl.1.z2]) (some 212) (GK.grow _) rfl (YieldsIf.toG (Or.inl ⟨by rfl, ?_⟩)) (HAL.out 11) ?_
        ·intro X hX
         have hh := hX (11, gc, .cells cur 40) (List.Mem.tail _ (List.Mem.head _)) rfl
         have hh0 := CLs.out _ hh 0 _ rfl
         simp only [Nat.add_zero] at hh0
         have hh1 := CLs.out _ hh 1 _ rfl
         have hh2 := CLs.out _ hh 2 _ rfl
         have hh3 := CLs.out _ hh 3 _ rfl
         have hh4 := CLs.out _ hh 4 _ rfl
         have hh5 := CLs.out _ hh 5 _ rfl
         have hhl := blk_lt hh
         clear hh
         clear hX
         go_simp
        try simp only [Act.put, zA, zB, zC]
        refine tG 12 (.bool true) (some 213) (GK.grow _) rfl (YieldsIf.toG (Or.inl ⟨by rfl, ?_⟩)) (GK.drop (by simp)) ?_
        ·intro X hX
         clear hX
         go_simp
        try simp only [Act.put, zA, zB, zC]
        refine tG 13 (.bool true) (some 214) (GK.grow _) rfl (YieldsIf.toG (Or.inl ⟨by rfl, ?_⟩)) (GK.drop (by simp)) ?_
        ·intro X hX
         clear hX
         go_simp
        try simp only [Act.put, zA, zB, zC]
        refine tG 14 (undef) (some 215) (GK.grow _) rfl (YieldsIf.toG (Or.inr ⟨by rfl, rfl⟩)) (GK.drop (by simp)) ?_
        try simp only [Act.put, zA, zB, zC]
        refine tG 15 (undef) (some 216) (GK.grow _) rfl (YieldsIf.toG (Or.inr ⟨by rfl, rfl⟩)) (GK.drop (by simp)) ?_
        try simp only [Act.put, zA, zB, zC]
        refine tG 16 (undef) (some 217) (GK.grow _) rfl (YieldsIf.toG (Or.inr ⟨by rfl, rfl⟩)) (GK.drop (by simp)) ?_
        try simp only [Act.put, zA, zB, zC]
        refine tG 17 (undef) (some 218) (GK.grow _) rfl (YieldsIf.toG (Or.inr ⟨by rfl, rfl⟩)) (GK.drop (by simp)) ?_
        try simp only [Act.put, zA, zB, zC]
        refine tG 18 (undef) (some 219) (GK.grow _) rfl (YieldsIf.toG (Or.inr ⟨by rfl, rfl⟩)) (GK.drop (by simp)) ?_
        try simp only [Act.put, zA, zB, zC]
        refine tG 19 (undef) (some 220) (GK.grow _) rfl (YieldsIf.toG (Or.inr ⟨by rfl, rfl⟩)) (GK.drop (by simp)) ?_
        try simp only [Act.put, zA, zB, zC]
        refine tG 20 (undef) (some 221) (GK.grow _) rfl (YieldsIf.toG (Or.inr ⟨by rfl, rfl⟩)) (GK.drop (by simp)) ?_
        try simp only [Act.put, zA, zB, zC]
        refine tG 21 (undef) (some 222) (GK.grow _) rfl (YieldsIf.toG (Or.inr ⟨by rfl, rfl⟩)) (GK.drop (by simp)) ?_
        try simp only [Act.put, zA, zB, zC]
        refine tG 22 (undef) (some 223) (GK.grow _) rfl (YieldsIf.toG (Or.inr ⟨by rfl, rfl⟩)) (GK.drop (by simp)) ?_
        try simp only [Act.put, zA, zB, zC]
        refine tG 23 (undef) (some 224) (GK.grow _) rfl (YieldsIf.toG (Or.inr ⟨by rfl, rfl⟩)) (GK.drop (by simp)) ?_
        try simp only [Act.put, zA, zB, zC]
        refine tG 24 (undef) (some 225) (GK.grow _) rfl (YieldsIf.toG (Or.inr ⟨by rfl, rfl⟩)) (GK.drop (by simp)) ?_
        try simp only [Act.put, zA, zB, zC]
        refine tG 25 (undef) (some 226) (GK.grow _) rfl (YieldsIf.toG (Or.inr ⟨by rfl, rfl⟩)) (GK.drop (by simp)) ?_
        try simp only [Act.put, zA, zB, zC]
        refine tG 26 (.bool true) (some 227) (GK.grow _) rfl (YieldsIf.toG (Or.inl ⟨by rfl, ?_⟩)) (GK.drop (by simp)) ?_
        ·intro X hX
         clear hX
         go_simp
        try simp only [Act.put, zA, zB, zC]
        refine tG 27 (.bool true) (some 228) (GK.grow _) rfl (YieldsIf.toG (Or.inl ⟨by rfl, ?_⟩)) (GK.drop (by simp)) ?_
        ·intro X hX
         clear hX
         go_simp
        try simp only [Act.put, zA, zB, zC]
        refine tG 28 (.slice (some ⟨gd, 0, none⟩) cs.length cj) (some 229) (GK.grow _) rfl (YieldsIf.toG (Or.inl ⟨by rfl, ?_⟩)) (GK.drop (by simp)) ?_
        ·intro X hX
         clear hX
         go_simp
        try simp only [Act.put, zA, zB, zC]
        refine tG 29 (.int .i64 (j : Int)) (some 230) (GK.grow _) rfl (YieldsIf.toG (Or.inl ⟨by rfl, ?_⟩)) (GK.drop (by simp)) ?_
        ·intro X hX
         clear hX
         go_simp
        try simp only [Act.put, zA, zB, zC]
        refine tG 30 (.pointer (some ⟨gd, j * 7, none⟩)) (some 231) (GK.grow _) rfl (YieldsIf.toG (Or.inl ⟨by rfl, ?_⟩)) (GK.drop (by simp)) ?_
        ·intro X hX
         clear hX
         go_simp
        try simp only [Act.put, zA, zB, zC]
        refine tG 31 (.pointer (some ⟨gd, j * 7 + 6, none⟩)) (some 232) (GK.grow _) rfl (YieldsIf.toG (Or.inl ⟨by rfl, ?_⟩)) (GK.drop (by simp)) ?_
        ·intro X hX
         clear hX
         go_simp
        try simp only [Act.put, zA, zB, zC]
        refine tG 32 (.slice Ad d.2.length cd) (some 233) (GK.grow _) rfl (YieldsIf.toG (Or.inl ⟨by rfl, ?_⟩)) (HAL.out 32) ?_
        ·intro X hX
         have hh := hX (32, gd, .cells cud 40) (List.Mem.tail _ (List.Mem.tail _ (List.Mem.head _))) rfl
         have hh0 := CLd.out _ hh 6 _ rfl
         have hhl := blk_lt hh
         clear hh
         clear hX
         go_simp
        try simp only [Act.put, zA, zB, zC]
        refine tG 33 (.int .i64 (d.2.length : Nat)) (some 234) (GK.grow _) rfl (YieldsIf.toG (Or.inl ⟨by rfl, ?_⟩)) (GK.drop (by simp)) ?_
        ·intro X hX
         clear hX
         go_simp
        try simp only [Act.put, zA, zB, zC]
        refine tG 34 (.slice (some ⟨gc, 0, none⟩) cs.length ck) (some 235) (GK.grow _) rfl (YieldsIf.toG (Or.inl ⟨by rfl, ?_⟩)) (GK.drop (by simp)) ?_
        ·intro X hX
         clear hX
         go_simp
        try simp only [Act.put, zA, zB, zC]
        refine tG 35 (.int .i64 (k : Int)) (some 236) (GK.grow _) rfl (YieldsIf.toG (Or.inl ⟨by rfl, ?_⟩)) (GK.drop (by simp)) ?_
        ·intro X hX
         clear hX
         go_simp
        try simp only [Act.put, zA, zB, zC]
        refine tG 36 (.pointer (some ⟨gc, k * 7, none⟩)) (some 237) (GK.grow _) rfl (YieldsIf.toG (Or.inl ⟨by rfl, ?_⟩)) (GK.drop (by simp)) ?_
        ·intro X hX
         clear hX
         go_simp
        try simp only [Act.put, zA, zB, zC]
        refine tG 37 (.pointer (some ⟨gc, k * 7 + 6, none⟩)) (some 238) (GK.grow _) rfl (YieldsIf.toG (Or.inl ⟨by rfl, ?_⟩)) (GK.drop (by simp)) ?_
        ·intro X hX
         clear hX
         go_simp
        try simp only [Act.put, zA, zB, zC]
        refine tG 38 (.slice Au cl.2.length cu) (some 239) (GK.grow _) rfl (YieldsIf.toG (Or.inl ⟨by rfl, ?_⟩)) (HAL.out 38) ?_
        ·intro X hX
         have hh := hX (38, gc, .cells cur 40) (List.Mem.tail _ (List.Mem.tail _ (List.Mem.tail _ (List.Mem.head _)))) rfl
         have hh0 := CLs.out _ hh 6 _ rfl
         have hhl := blk_lt hh
         clear hh
         clear hX
         go_simp
        try simp only [Act.put, zA, zB, zC]
        refine tG 39 (.int .i64 (cl.2.length : Nat)) (some 240) (GK.grow _) rfl (YieldsIf.toG (Or.inl ⟨by rfl, ?_⟩)) (GK.drop (by simp)) ?_
        ·intro X hX
         clear hX
         go_simp
        try simp only [Act.put, zA, zB, zC]
        refine tG 40 (.bool true) (some 241) (GK.grow _) rfl (YieldsIf.toG (Or.inl ⟨by rfl, ?_⟩)) (GK.drop (by simp)) ?_
        ·intro X hX
         clear hX
         go_simp
        try simp only [Act.put, zA, zB, zC]
        refine tG 41 (.bool true) (some 242) (GK.grow _) rfl (YieldsIf.toG (Or.inl ⟨by rfl, ?_⟩)) (GK.drop (by simp)) ?_
        ·intro X hX
         clear hX
         go_simp
        try simp only [Act.put, zA, zB, zC]
        refine tG 42 (.bool true) (some 243) (GK.grow _) rfl (YieldsIf.toG (Or.inl ⟨by rfl, ?_⟩)) (GK.drop (by simp)) ?_
        ·intro X hX
         clear hX
         go_simp
        try simp only [Act.put, zA, zB, zC]
        refine tG 43 (.bool true) (some 23) (GK.grow _) rfl (YieldsIf.toG (Or.inl ⟨by rfl, ?_⟩)) (GK.drop (by simp)) ?_
        ·intro X hX
         clear hX
         go_simp
        try simp only [Act.put, zA, zB, zC]
        clear HAL
        refine done_G (by kernel_rfl) (fun X21 hX => ?_) _
        replace NN := Lib.hid (Bgo NN.out hX)
        replace CU := Lib.hid (blk_next hX CU.out)
        replace CD := Lib.hid (blk_next hX CD.out)
        clear hX
        go_wp2_with fail
        go_roundw
        case rel => exact ⟨j + 1, jj, by go_num, (by rw [FS.out]; rfl), NN⟩
        case measure => simp [intOf]; omega
       have de : decide (d.1 = cl.1) = false := decide_eq_false e1
       by_cases e2 : d.1 = negV cl.1
       ·have pm : isPM d.1 cl.1 = true := isPM_iff.2 (.inr e2)
        have le := LE.out pm
        have dl : ((d.2.length : Int) == (cl.2.length : Int)) = true := by rw [beq_iff_eq]; omega
        rw [pm] at FS
        have df : decide (d.1 = negV cl.1) = true := decide_eq_true e2
        clear e1 e2 le pm
        go_upto_region 24 with fail
        have HDRW := Lib.hid (Below.drew (Below.refl wr.heap.size wr))
        replace NN := Lib.hid (Bgo NN.out HDRW.out)
        replace CU := Lib.hid (blk_next HDRW.out CU.out)
        replace CD := Lib.hid (blk_next HDRW.out CD.out)
        clear HDRW
        have HAL : Hid (∀ kx9 : Nat, GK [(6, gd, .cells cud 40), (11, gc, .cells cur 40), (18, gd, .cells cud 40), (23, gc, .cells cur 40), (32, gd, .cells cud 40), (38, gc, .cells cur 40)] kx9 wr.drew) := Lib.hid (fun kx9 => fun px9 hp e => by
         simp only [List.mem_cons, List.not_mem_nil, or_false] at hp
         rcases hp with rfl | rfl | rfl | rfl | rfl | rfl
         ·exact CD.out
         ·exact CU.out
         ·exact CD.out
         ·exact CU.out
         ·exact CD.out
         ·exact CU.out
        )
        refine region_G (S := GK [(6, gd, .cells cud 40), (11, gc, .cells cur 40), (18, gd, .cells cud 40), (23, gc, .cells cur 40), (32, gd, .cells cud 40), (38, gc, .cells cur 40)]) (by kernel_rfl) ?_
        refine tG 0 (.bool false) (some 201) (GK.grow _) rfl (YieldsIf.toG (Or.inl ⟨by rfl, ?_⟩)) (GK.drop (by simp)) ?_
        ·intro X hX
         clear hX
         go_simp
        try simp only [Act.put, zA, zB, zC]
        refine tG 1 (.bool false) (some 202) (GK.grow _) rfl (YieldsIf.toG (Or.inl ⟨by rfl, ?_⟩)) (GK.drop (by simp)) ?_
        ·intro X hX
         clear hX
         go_simp
        try simp only [Act.put, zA, zB, zC]
        refine tG 2 (.slice (some ⟨gd, 0, none⟩) cs.length cj) (some 203) (GK.grow _) rfl (YieldsIf.toG (Or.inl ⟨by rfl, ?_⟩)) (GK.drop (by simp)) ?_
        ·intro X hX
         clear hX
         go_simp
        try simp only [Act.put, zA, zB, zC]
        refine tG 3 (.int .i64 (j : Int)) (some 204) (GK.grow _) rfl (YieldsIf.toG (Or.inl ⟨by rfl, ?_⟩)) (GK.drop (by simp)) ?_
        ·intro X hX
         clear hX
         go_simp
        try simp only [Act.put, zA, zB, zC]
        refine tG 4 (.pointer (some ⟨gd, j * 7, none⟩)) (some 205) (GK.grow _) rfl (YieldsIf.toG (Or.inl ⟨by rfl, ?_⟩)) (GK.drop (by simp)) ?_
        ·intro X hX
         clear hX
         go_simp
        try simp only [Act.put, zA, zB, zC]
        refine tG 5 (.pointer (some ⟨gd, j * 7, none⟩)) (some 206) (GK.grow _) rfl (YieldsIf.toG (Or.inl ⟨by rfl, ?_⟩)) (GK.drop (by simp)) ?_
        ·intro X hX
         clear hX
         go_simp
        try simp only [Act.put, zA, zB, zC]
        refine tG 6 (.agg #[.int .i64 d.1.x1, .int .i64 d.1.x2, .int .i64 d.1.y1, .int .i64 d.1.y2, .int .i64 d.1.z1, .int .i64 d.1.z2]) (some 207) (GK.grow _) rfl (YieldsIf.toG (Or.inl ⟨by rfl, ?_⟩)) (HAL.out 6) ?_
        ·intro X hX
         have hh := hX (6, gd, .cells cud 40) (List.Mem.head _) rfl
         have hh0 := CLd.out _ hh 0 _ rfl
         simp only [Nat.add_zero] at hh0
         have hh1 := CLd.out _ hh 1 _ rfl
         have hh2 := CLd.out _ hh 2 _ rfl
         have hh3 := CLd.out _ hh 3 _ rfl
         have hh4 := CLd.out _ hh 4 _ rfl
         have hh5 := CLd.out _ hh 5 _ rfl
         have hhl := blk_lt hh
         clear hh
         clear hX
         go_simp
        try simp only [Act.put, zA, zB, zC]
        refine tG 7 (.slice (some ⟨gc, 0, none⟩) cs.length ck) (some 208) (GK.grow _) rfl (YieldsIf.toG (Or.inl ⟨by rfl, ?_⟩)) (GK.drop (by simp)) ?_
        ·intro X hX
         clear hX
         go_simp
        try simp only [Act.put, zA, zB, zC]
        refine tG 8 (.int .i64 (k : Int)) (some 209) (GK.grow _) rfl (YieldsIf.toG (Or.inl ⟨by rfl, ?_⟩)) (GK.drop (by simp)) ?_
        ·intro X hX
         clear hX
         go_simp
        try simp only [Act.put, zA, zB, zC]
        refine tG 9 (.pointer (some ⟨gc, k * 7, none⟩)) (some 210) (GK.grow _) rfl (YieldsIf.toG (Or.inl ⟨by rfl, ?_⟩)) (GK.drop (by simp)) ?_
        ·intro X hX
         clear hX
         go_simp
        try simp only [Act.put, zA, zB, zC]
        refine tG 10 (.pointer (some ⟨gc, k * 7, none⟩)) (some 211) (GK.grow _) rfl (YieldsIf.toG (Or.inl ⟨by rfl, ?_⟩)) (GK.drop (by simp)) ?_
        ·intro X hX
         clear hX
         go_simp
        try simp only [Act.put, zA, zB, zC]
        refine tG 11 (.agg #[.int .i64 cl.1.x1, .int .i64 cl.1.x2, .int .i64 cl.1.y1, .int .i64 cl.1.y2, .int .i64 cl.1.z1, .int .i64 cl.1.z2]) (some 212) (GK.grow _) rfl (YieldsIf.toG (Or.inl ⟨by rfl, ?_⟩)) (HAL.out 11) ?_
        ·intro X hX
         have hh := hX (11, gc, .cells cur 40) (List.Mem.tail _ (List.Mem.head _)) rfl
         have hh0 := CLs.out _ hh 0 _ rfl
         simp only [Nat.add_zero] at hh0
         have hh1 := CLs.out _ hh 1 _ rfl
         have hh2 := CLs.out _ hh 2 _ rfl
         have hh3 := CLs.out _ hh 3 _ rfl
         have hh4 := CLs.out _ hh 4 _ rfl
         have hh5 := CLs.out _ hh 5 _ rfl
         have hhl := blk_lt hh
         clear hh
         clear hX
         go_simp
        try simp only [Act.put, zA, zB, zC]
        refine tG 12 (.bool false) (some 213) (GK.grow _) rfl (YieldsIf.toG (Or.inl ⟨by rfl, ?_⟩)) (GK.drop (by simp)) ?_
        ·intro X hX
         clear hX
         go_simp
        try simp only [Act.put, zA, zB, zC]
        refine tG 13 (.bool false) (some 214) (GK.grow _) rfl (YieldsIf.toG (Or.inl ⟨by rfl, ?_⟩)) (GK.drop (by simp)) ?_
        ·intro X hX
         clear hX
         go_simp
        try simp only [Act.put, zA, zB, zC]
        refine tG 14 (.slice (some ⟨gd, 0, none⟩) cs.length cj) (some 215) (GK.grow _) rfl (YieldsIf.toG (Or.inl ⟨by rfl, ?_⟩)) (GK.drop (by simp)) ?_
        ·intro X hX
         clear hX
         go_simp
        try simp only [Act.put, zA, zB, zC]
        refine tG 15 (.int .i64 (j : Int)) (some 216) (GK.grow _) rfl (YieldsIf.toG (Or.inl ⟨by rfl, ?_⟩)) (GK.drop (by simp)) ?_
        ·intro X hX
         clear hX
         go_simp
        try simp only [Act.put, zA, zB, zC]
        refine tG 16 (.pointer (some ⟨gd, j * 7, none⟩)) (some 217) (GK.grow _) rfl (YieldsIf.toG (Or.inl ⟨by rfl, ?_⟩)) (GK.drop (by simp)) ?_
        ·intro X hX
         clear hX
         go_simp
        try simp only [Act.put, zA, zB, zC]
        refine tG 17 (.pointer (some ⟨gd, j * 7, none⟩)) (some 218) (GK.grow _) rfl (YieldsIf.toG (Or.inl ⟨by rfl, ?_⟩)) (GK.drop (by simp)) ?_
        ·intro X hX
         clear hX
         go_simp
        try simp only [Act.put, zA, zB, zC]
        refine tG 18 (.agg #[.int .i64 d.1.x1, .int .i64 d.1.x2, .int .i64 d.1.y1, .int .i64 d.1.y2, .int .i64 d.1.z1, .int .i64 d.1.z2]) (some 219) (GK.grow _) rfl (YieldsIf.toG (Or.inl ⟨by rfl, ?_⟩)) (HAL.out 18) ?_
        ·intro X hX
         have hh := hX (18, gd, .cells cud 40) (List.Mem.tail _ (List.Mem.tail _ (List.Mem.head _))) rfl
         have hh0 := CLd.out _ hh 0 _ rfl
         simp only [Nat.add_zero] at hh0
         have hh1 := CLd.out _ hh 1 _ rfl
         have hh2 := CLd.out _ hh 2 _ rfl
         have hh3 := CLd.out _ hh 3 _ rfl
         have hh4 := CLd.out _ hh 4 _ rfl
         have hh5 := CLd.out _ hh 5 _ rfl
         have hhl := blk_lt hh
         clear hh
         clear hX
         go_simp
        try simp only [Act.put, zA, zB, zC]
        refine tG 19 (.slice (some ⟨gc, 0, none⟩) cs.length ck) (some 220) (GK.grow _) rfl (YieldsIf.toG (Or.inl ⟨by rfl, ?_⟩)) (GK.drop (by simp)) ?_
        ·intro X hX
         clear hX
         go_simp
        try simp only [Act.put, zA, zB, zC]
        refine tG 20 (.int .i64 (k : Int)) (some 221) (GK.grow _) rfl (YieldsIf.toG (Or.inl ⟨by rfl, ?_⟩)) (GK.drop (by simp)) ?_
        ·intro X hX
         clear hX
         go_simp
        try simp only [Act.put, zA, zB, zC]
        refine tG 21 (.pointer (some ⟨gc, k * 7, none⟩)) (some 222) (GK.grow _) rfl (YieldsIf.toG (Or.inl ⟨by rfl, ?_⟩)) (GK.drop (by simp)) ?_
        ·intro X hX
         clear hX
         go_simp
        try simp only [Act.put, zA, zB, zC]
        refine tG 22 (.pointer (some ⟨gc, k * 7, none⟩)) (some 223) (GK.grow _) rfl (YieldsIf.toG (Or.inl ⟨by rfl, ?_⟩)) (GK.drop (by simp)) ?_
        ·intro X hX
         clear hX
         go_simp
        try simp only [Act.put, zA, zB, zC]
        refine tG 23 (.agg #[.int .i64 cl.1.x1, .int .i64 cl.1.x2, .int .i64 cl.1.y1, .int .i64 cl.1.y2, .int .i64 cl.1.z1, .int .i64 cl.1.z2]) (some 224) (GK.grow _) rfl (YieldsIf.toG (Or.inl ⟨by rfl, ?_⟩)) (HAL.out 23) ?_
        ·intro X hX
         have hh := hX (23, gc, .cells cur 40) (List.Mem.tail _ (List.Mem.tail _ (List.Mem.tail _ (List.Mem.head _)))) rfl
         have hh0 := CLs.out _ hh 0 _ rfl
         simp only [Nat.add_zero] at hh0
         have hh1 := CLs.out _ hh 1 _ rfl
         have hh2 := CLs.out _ hh 2 _ rfl
         have hh3 := CLs.out _ hh 3 _ rfl
         have hh4 := CLs.out _ hh 4 _ rfl
         have hh5 := CLs.out _ hh 5 _ rfl
         have hhl := blk_lt hh
         clear hh
         clear hX
         go_simp
        try simp only [Act.put, zA, zB, zC]
        have CFn : ∀ (args : Array Value) (W : World), Sem.run Tryz.prog (callFunc 12 args) W = .ok (.enter 12 args) W := fun _ _ => by kernel_rfl
        refine tG 24 (.agg #[.int .i64 (negV cl.1).x1, .int .i64 (negV cl.1).x2, .int .i64 (negV cl.1).y1, .int .i64 (negV cl.1).y2, .int .i64 (negV cl.1).z1, .int .i64 (negV cl.1).z2]) (some 225) (GK.grow _) rfl (yieldsG_call 12 #[.agg #[.int .i64 cl.1.x1, .int .i64 cl.1.x2, .int .i64 cl.1.y1, .int .i64 cl.1.y2, .int .i64 cl.1.z1, .int .i64 cl.1.z2]] (by rfl) ?_ (fun X hS => rvneg_calls cl.1 OKC.out X)) (GK.drop (by simp)) ?_
        ·intro X hX
         clear hX
         go_simp
        clear CFn
        try simp only [Act.put, zA, zB, zC]
        refine tG 25 (.bool true) (some 226) (GK.grow _) rfl (YieldsIf.toG (Or.inl ⟨by rfl, ?_⟩)) (GK.drop (by simp)) ?_
        ·intro X hX
         clear hX
         go_simp
        try simp only [Act.put, zA, zB, zC]
        refine tG 26 (.bool true) (some 227) (GK.grow _) rfl (YieldsIf.toG (Or.inl ⟨by rfl, ?_⟩)) (GK.drop (by simp)) ?_
        ·intro X hX
         clear hX
         go_simp
        try simp only [Act.put, zA, zB, zC]
        refine tG 27 (.bool true) (some 228) (GK.grow _) rfl (YieldsIf.toG (Or.inl ⟨by rfl, ?_⟩)) (GK.drop (by simp)) ?_
        ·intro X hX
         clear hX
         go_simp
        try simp only [Act.put, zA, zB, zC]
        refine tG 28 (.slice (some ⟨gd, 0, none⟩) cs.length cj) (some 229) (GK.grow _) rfl (YieldsIf.toG (Or.inl ⟨by rfl, ?_⟩)) (GK.drop (by simp)) ?_
        ·intro X hX
         clear hX
         go_simp
        try simp only [Act.put, zA, zB, zC]
        refine tG 29 (.int .i64 (j : Int)) (some 230) (GK.grow _) rfl (YieldsIf.toG (Or.inl ⟨by rfl, ?_⟩)) (GK.drop (by simp)) ?_
        ·intro X hX
         clear hX
         go_simp
        try simp only [Act.put, zA, zB, zC]
        refine tG 30 (.pointer (some ⟨gd, j * 7, none⟩)) (some 231) (GK.grow _) rfl (YieldsIf.toG (Or.inl ⟨by rfl, ?_⟩)) (GK.drop (by simp)) ?_
        ·intro X hX
         clear hX
         go_simp
        try simp only [Act.put, zA, zB, zC]
        refine tG 31 (.pointer (some ⟨gd, j * 7 + 6, none⟩)) (some 232) (GK.grow _) rfl (YieldsIf.toG (Or.inl ⟨by rfl, ?_⟩)) (GK.drop (by simp)) ?_
        ·intro X hX
         clear hX
         go_simp
        try simp only [Act.put, zA, zB, zC]
        refine tG 32 (.slice Ad d.2.length cd) (some 233) (GK.grow _) rfl (YieldsIf.toG (Or.inl ⟨by rfl, ?_⟩)) (HAL.out 32) ?_
        ·intro X hX
         have hh := hX (32, gd, .cells cud 40) (List.Mem.tail _ (List.Mem.tail _ (List.Mem.tail _ (List.Mem.tail _ (List.Mem.head _))))) rfl
         have hh0 := CLd.out _ hh 6 _ rfl
         have hhl := blk_lt hh
         clear hh
         clear hX
         go_simp
        try simp only [Act.put, zA, zB, zC]
        refine tG 33 (.int .i64 (d.2.length : Nat)) (some 234) (GK.grow _) rfl (YieldsIf.toG (Or.inl ⟨by rfl, ?_⟩)) (GK.drop (by simp)) ?_
        ·intro X hX
         clear hX
         go_simp
        try simp only [Act.put, zA, zB, zC]
        refine tG 34 (.slice (some ⟨gc, 0, none⟩) cs.length ck) (some 235) (GK.grow _) rfl (YieldsIf.toG (Or.inl ⟨by rfl, ?_⟩)) (GK.drop (by simp)) ?_
        ·intro X hX
         clear hX
         go_simp
        try simp only [Act.put, zA, zB, zC]
        refine tG 35 (.int .i64 (k : Int)) (some 236) (GK.grow _) rfl (YieldsIf.toG (Or.inl ⟨by rfl, ?_⟩)) (GK.drop (by simp)) ?_
        ·intro X hX
         clear hX
         go_simp
        try simp only [Act.put, zA, zB, zC]
        refine tG 36 (.pointer (some ⟨gc, k * 7, none⟩)) (some 237) (GK.grow _) rfl (YieldsIf.toG (Or.inl ⟨by rfl, ?_⟩)) (GK.drop (by simp)) ?_
        ·intro X hX
         clear hX
         go_simp
        try simp only [Act.put, zA, zB, zC]
        refine tG 37 (.pointer (some ⟨gc, k * 7 + 6, none⟩)) (some 238) (GK.grow _) rfl (YieldsIf.toG (Or.inl ⟨by rfl, ?_⟩)) (GK.drop (by simp)) ?_
        ·intro X hX
         clear hX
         go_simp
        try simp only [Act.put, zA, zB, zC]
        refine tG 38 (.slice Au cl.2.length cu) (some 239) (GK.grow _) rfl (YieldsIf.toG (Or.inl ⟨by rfl, ?_⟩)) (HAL.out 38) ?_
        ·intro X hX
         have hh := hX (38, gc, .cells cur 40) (List.Mem.tail _ (List.Mem.tail _ (List.Mem.tail _ (List.Mem.tail _ (List.Mem.tail _ (List.Mem.head _)))))) rfl
         have hh0 := CLs.out _ hh 6 _ rfl
         have hhl := blk_lt hh
         clear hh
         clear hX
         go_simp
        try simp only [Act.put, zA, zB, zC]
        refine tG 39 (.int .i64 (cl.2.length : Nat)) (some 240) (GK.grow _) rfl (YieldsIf.toG (Or.inl ⟨by rfl, ?_⟩)) (GK.drop (by simp)) ?_
        ·intro X hX
         clear hX
         go_simp
        try simp only [Act.put, zA, zB, zC]
        refine tG 40 (.bool true) (some 241) (GK.grow _) rfl (YieldsIf.toG (Or.inl ⟨by rfl, ?_⟩)) (GK.drop (by simp)) ?_
        ·intro X hX
         clear hX
         go_simp
        try simp only [Act.put, zA, zB, zC]
        refine tG 41 (.bool true) (some 242) (GK.grow _) rfl (YieldsIf.toG (Or.inl ⟨by rfl, ?_⟩)) (GK.drop (by simp)) ?_
        ·intro X hX
         clear hX
         go_simp
        try simp only [Act.put, zA, zB, zC]
        refine tG 42 (.bool true) (some 243) (GK.grow _) rfl (YieldsIf.toG (Or.inl ⟨by rfl, ?_⟩)) (GK.drop (by simp)) ?_
        ·intro X hX
         clear hX
         go_simp
        try simp only [Act.put, zA, zB, zC]
        refine tG 43 (.bool true) (some 23) (GK.grow _) rfl (YieldsIf.toG (Or.inl ⟨by rfl, ?_⟩)) (GK.drop (by simp)) ?_
        ·intro X hX
         clear hX
         go_simp
        try simp only [Act.put, zA, zB, zC]
        clear HAL
        refine done_G (by kernel_rfl) (fun X22 hX => ?_) _
        replace NN := Lib.hid (Bgo NN.out hX)
        replace CU := Lib.hid (blk_next hX CU.out)
        replace CD := Lib.hid (blk_next hX CD.out)
        clear hX
        go_wp2_with fail
        go_roundw
        case rel => exact ⟨j + 1, jj, by go_num, (by rw [FS.out]; rfl), NN⟩
        case measure => simp [intOf]; omega
       ·have pm : isPM d.1 cl.1 = false := by
         rw [Bool.eq_false_iff]
         intro h
         exact (isPM_iff.1 h).elim e1 e2
        rw [pm] at FS
        have df : decide (d.1 = negV cl.1) = false := decide_eq_false e2
        clear e1 e2 pm LE
        go_upto_region 24 with fail
        have HDRW := Lib.hid (Below.drew (Below.refl wr.heap.size wr))
        replace NN := Lib.hid (Bgo NN.out HDRW.out)
        replace CU := Lib.hid (blk_next HDRW.out CU.out)
        replace CD := Lib.hid (blk_next HDRW.out CD.out)
        clear HDRW
        have HAL : Hid (∀ kx9 : Nat, GK [(6, gd, .cells cud 40), (11, gc, .cells cur 40), (18, gd, .cells cud 40), (23, gc, .cells cur 40)] kx9 wr.drew) := Lib.hid (fun kx9 => fun px9 hp e => by
         simp only [List.mem_cons, List.not_mem_nil, or_false] at hp
         rcases hp with rfl | rfl | rfl | rfl
         ·exact CD.out
         ·exact CU.out
         ·exact CD.out
         ·exact CU.out
        )
        refine region_G (S := GK [(6, gd, .cells cud 40), (11, gc, .cells cur 40), (18, gd, .cells cud 40), (23, gc, .cells cur 40)]) (by kernel_rfl) ?_
        refine tG 0 (.bool false) (some 201) (GK.grow _) rfl (YieldsIf.toG (Or.inl ⟨by rfl, ?_⟩)) (GK.drop (by simp)) ?_
        ·intro X hX
         clear hX
         go_simp
        try simp only [Act.put, zA, zB, zC]
        refine tG 1 (.bool false) (some 202) (GK.grow _) rfl (YieldsIf.toG (Or.inl ⟨by rfl, ?_⟩)) (GK.drop (by simp)) ?_
        ·intro X hX
         clear hX
         go_simp
        try simp only [Act.put, zA, zB, zC]
        refine tG 2 (.slice (some ⟨gd, 0, none⟩) cs.length cj) (some 203) (GK.grow _) rfl (YieldsIf.toG (Or.inl ⟨by rfl, ?_⟩)) (GK.drop (by simp)) ?_
        ·intro X hX
         clear hX
         go_simp
        try simp only [Act.put, zA, zB, zC]
        refine tG 3 (.int .i64 (j : Int)) (some 204) (GK.grow _) rfl (YieldsIf.toG (Or.inl ⟨by rfl, ?_⟩)) (GK.drop (by simp)) ?_
        ·intro X hX
         clear hX
         go_simp
        try simp only [Act.put, zA, zB, zC]
        refine tG 4 (.pointer (some ⟨gd, j * 7, none⟩)) (some 205) (GK.grow _) rfl (YieldsIf.toG (Or.inl ⟨by rfl, ?_⟩)) (GK.drop (by simp)) ?_
        ·intro X hX
         clear hX
         go_simp
        try simp only [Act.put, zA, zB, zC]
        refine tG 5 (.pointer (some ⟨gd, j * 7, none⟩)) (some 206) (GK.grow _) rfl (YieldsIf.toG (Or.inl ⟨by rfl, ?_⟩)) (GK.drop (by simp)) ?_
        ·intro X hX
         clear hX
         go_simp
        try simp only [Act.put, zA, zB, zC]
        refine tG 6 (.agg #[.int .i64 d.1.x1, .int .i64 d.1.x2, .int .i64 d.1.y1, .int .i64 d.1.y2, .int .i64 d.1.z1, .int .i64 d.1.z2]) (some 207) (GK.grow _) rfl (YieldsIf.toG (Or.inl ⟨by rfl, ?_⟩)) (HAL.out 6) ?_
        ·intro X hX
         have hh := hX (6, gd, .cells cud 40) (List.Mem.head _) rfl
         have hh0 := CLd.out _ hh 0 _ rfl
         simp only [Nat.add_zero] at hh0
         have hh1 := CLd.out _ hh 1 _ rfl
         have hh2 := CLd.out _ hh 2 _ rfl
         have hh3 := CLd.out _ hh 3 _ rfl
         have hh4 := CLd.out _ hh 4 _ rfl
         have hh5 := CLd.out _ hh 5 _ rfl
         have hhl := blk_lt hh
         clear hh
         clear hX
         go_simp
        try simp only [Act.put, zA, zB, zC]
        refine tG 7 (.slice (some ⟨gc, 0, none⟩) cs.length ck) (some 208) (GK.grow _) rfl (YieldsIf.toG (Or.inl ⟨by rfl, ?_⟩)) (GK.drop (by simp)) ?_
        ·intro X hX
         clear hX
         go_simp
        try simp only [Act.put, zA, zB, zC]
        refine tG 8 (.int .i64 (k : Int)) (some 209) (GK.grow _) rfl (YieldsIf.toG (Or.inl ⟨by rfl, ?_⟩)) (GK.drop (by simp)) ?_
        ·intro X hX
         clear hX
         go_simp
        try simp only [Act.put, zA, zB, zC]
        refine tG 9 (.pointer (some ⟨gc, k * 7, none⟩)) (some 210) (GK.grow _) rfl (YieldsIf.toG (Or.inl ⟨by rfl, ?_⟩)) (GK.drop (by simp)) ?_
        ·intro X hX
         clear hX
         go_simp
        try simp only [Act.put, zA, zB, zC]
        refine tG 10 (.pointer (some ⟨gc, k * 7, none⟩)) (some 211) (GK.grow _) rfl (YieldsIf.toG (Or.inl ⟨by rfl, ?_⟩)) (GK.drop (by simp)) ?_
        ·intro X hX
         clear hX
         go_simp
        try simp only [Act.put, zA, zB, zC]
        refine tG 11 (.agg #[.int .i64 cl.1.x1, .int .i64 cl.1.x2, .int .i64 cl.1.y1, .int .i64 cl.1.y2, .int .i64 cl.1.z1, .int .i64 cl.1.z2]) (some 212) (GK.grow _) rfl (YieldsIf.toG (Or.inl ⟨by rfl, ?_⟩)) (HAL.out 11) ?_
        ·intro X hX
         have hh := hX (11, gc, .cells cur 40) (List.Mem.tail _ (List.Mem.head _)) rfl
         have hh0 := CLs.out _ hh 0 _ rfl
         simp only [Nat.add_zero] at hh0
         have hh1 := CLs.out _ hh 1 _ rfl
         have hh2 := CLs.out _ hh 2 _ rfl
         have hh3 := CLs.out _ hh 3 _ rfl
         have hh4 := CLs.out _ hh 4 _ rfl
         have hh5 := CLs.out _ hh 5 _ rfl
         have hhl := blk_lt hh
         clear hh
         clear hX
         go_simp
        try simp only [Act.put, zA, zB, zC]
        refine tG 12 (.bool false) (some 213) (GK.grow _) rfl (YieldsIf.toG (Or.inl ⟨by rfl, ?_⟩)) (GK.drop (by simp)) ?_
        ·intro X hX
         clear hX
         go_simp
        try simp only [Act.put, zA, zB, zC]
        refine tG 13 (.bool false) (some 214) (GK.grow _) rfl (YieldsIf.toG (Or.inl ⟨by rfl, ?_⟩)) (GK.drop (by simp)) ?_
        ·intro X hX
         clear hX
         go_simp
        try simp only [Act.put, zA, zB, zC]
        refine tG 14 (.slice (some ⟨gd, 0, none⟩) cs.length cj) (some 215) (GK.grow _) rfl (YieldsIf.toG (Or.inl ⟨by rfl, ?_⟩)) (GK.drop (by simp)) ?_
        ·intro X hX
         clear hX
         go_simp
        try simp only [Act.put, zA, zB, zC]
        refine tG 15 (.int .i64 (j : Int)) (some 216) (GK.grow _) rfl (YieldsIf.toG (Or.inl ⟨by rfl, ?_⟩)) (GK.drop (by simp)) ?_
        ·intro X hX
         clear hX
         go_simp
        try simp only [Act.put, zA, zB, zC]
        refine tG 16 (.pointer (some ⟨gd, j * 7, none⟩)) (some 217) (GK.grow _) rfl (YieldsIf.toG (Or.inl ⟨by rfl, ?_⟩)) (GK.drop (by simp)) ?_
        ·intro X hX
         clear hX
         go_simp
        try simp only [Act.put, zA, zB, zC]
        refine tG 17 (.pointer (some ⟨gd, j * 7, none⟩)) (some 218) (GK.grow _) rfl (YieldsIf.toG (Or.inl ⟨by rfl, ?_⟩)) (GK.drop (by simp)) ?_
        ·intro X hX
         clear hX
         go_simp
        try simp only [Act.put, zA, zB, zC]
        refine tG 18 (.agg #[.int .i64 d.1.x1, .int .i64 d.1.x2, .int .i64 d.1.y1, .int .i64 d.1.y2, .int .i64 d.1.z1, .int .i64 d.1.z2]) (some 219) (GK.grow _) rfl (YieldsIf.toG (Or.inl ⟨by rfl, ?_⟩)) (HAL.out 18) ?_
        ·intro X hX
         have hh := hX (18, gd, .cells cud 40) (List.Mem.tail _ (List.Mem.tail _ (List.Mem.head _))) rfl
         have hh0 := CLd.out _ hh 0 _ rfl
         simp only [Nat.add_zero] at hh0
         have hh1 := CLd.out _ hh 1 _ rfl
         have hh2 := CLd.out _ hh 2 _ rfl
         have hh3 := CLd.out _ hh 3 _ rfl
         have hh4 := CLd.out _ hh 4 _ rfl
         have hh5 := CLd.out _ hh 5 _ rfl
         have hhl := blk_lt hh
         clear hh
         clear hX
         go_simp
        try simp only [Act.put, zA, zB, zC]
        refine tG 19 (.slice (some ⟨gc, 0, none⟩) cs.length ck) (some 220) (GK.grow _) rfl (YieldsIf.toG (Or.inl ⟨by rfl, ?_⟩)) (GK.drop (by simp)) ?_
        ·intro X hX
         clear hX
         go_simp
        try simp only [Act.put, zA, zB, zC]
        refine tG 20 (.int .i64 (k : Int)) (some 221) (GK.grow _) rfl (YieldsIf.toG (Or.inl ⟨by rfl, ?_⟩)) (GK.drop (by simp)) ?_
        ·intro X hX
         clear hX
         go_simp
        try simp only [Act.put, zA, zB, zC]
        refine tG 21 (.pointer (some ⟨gc, k * 7, none⟩)) (some 222) (GK.grow _) rfl (YieldsIf.toG (Or.inl ⟨by rfl, ?_⟩)) (GK.drop (by simp)) ?_
        ·intro X hX
         clear hX
         go_simp
        try simp only [Act.put, zA, zB, zC]
        refine tG 22 (.pointer (some ⟨gc, k * 7, none⟩)) (some 223) (GK.grow _) rfl (YieldsIf.toG (Or.inl ⟨by rfl, ?_⟩)) (GK.drop (by simp)) ?_
        ·intro X hX
         clear hX
         go_simp
        try simp only [Act.put, zA, zB, zC]
        refine tG 23 (.agg #[.int .i64 cl.1.x1, .int .i64 cl.1.x2, .int .i64 cl.1.y1, .int .i64 cl.1.y2, .int .i64 cl.1.z1, .int .i64 cl.1.z2]) (some 224) (GK.grow _) rfl (YieldsIf.toG (Or.inl ⟨by rfl, ?_⟩)) (HAL.out 23) ?_
        ·intro X hX
         have hh := hX (23, gc, .cells cur 40) (List.Mem.tail _ (List.Mem.tail _ (List.Mem.tail _ (List.Mem.head _)))) rfl
         have hh0 := CLs.out _ hh 0 _ rfl
         simp only [Nat.add_zero] at hh0
         have hh1 := CLs.out _ hh 1 _ rfl
         have hh2 := CLs.out _ hh 2 _ rfl
         have hh3 := CLs.out _ hh 3 _ rfl
         have hh4 := CLs.out _ hh 4 _ rfl
         have hh5 := CLs.out _ hh 5 _ rfl
         have hhl := blk_lt hh
         clear hh
         clear hX
         go_simp
        try simp only [Act.put, zA, zB, zC]
        have CFn : ∀ (args : Array Value) (W : World), Sem.run Tryz.prog (callFunc 12 args) W = .ok (.enter 12 args) W := fun _ _ => by kernel_rfl
        refine tG 24 (.agg #[.int .i64 (negV cl.1).x1, .int .i64 (negV cl.1).x2, .int .i64 (negV cl.1).y1, .int .i64 (negV cl.1).y2, .int .i64 (negV cl.1).z1, .int .i64 (negV cl.1).z2]) (some 225) (GK.grow _) rfl (yieldsG_call 12 #[.agg #[.int .i64 cl.1.x1, .int .i64 cl.1.x2, .int .i64 cl.1.y1, .int .i64 cl.1.y2, .int .i64 cl.1.z1, .int .i64 cl.1.z2]] (by rfl) ?_ (fun X hS => rvneg_calls cl.1 OKC.out X)) (GK.drop (by simp)) ?_
        ·intro X hX
         clear hX
         go_simp
        clear CFn
        try simp only [Act.put, zA, zB, zC]
        refine tG 25 (.bool false) (some 226) (GK.grow _) rfl (YieldsIf.toG (Or.inl ⟨by rfl, ?_⟩)) (GK.drop (by simp)) ?_
        ·intro X hX
         clear hX
         go_simp
        try simp only [Act.put, zA, zB, zC]
        refine tG 26 (.bool false) (some 227) (GK.grow _) rfl (YieldsIf.toG (Or.inl ⟨by rfl, ?_⟩)) (GK.drop (by simp)) ?_
        ·intro X hX
         clear hX
         go_simp
        try simp only [Act.put, zA, zB, zC]
        refine tG 27 (.bool false) (some 228) (GK.grow _) rfl (YieldsIf.toG (Or.inl ⟨by rfl, ?_⟩)) (GK.drop (by simp)) ?_
        ·intro X hX
         clear hX
         go_simp
        try simp only [Act.put, zA, zB, zC]
        refine tG 28 (undef) (some 229) (GK.grow _) rfl (YieldsIf.toG (Or.inr ⟨by rfl, rfl⟩)) (GK.drop (by simp)) ?_
        try simp only [Act.put, zA, zB, zC]
        refine tG 29 (undef) (some 230) (GK.grow _) rfl (YieldsIf.toG (Or.inr ⟨by rfl, rfl⟩)) (GK.drop (by simp)) ?_
        try simp only [Act.put, zA, zB, zC]
        refine tG 30 (undef) (some 231) (GK.grow _) rfl (YieldsIf.toG (Or.inr ⟨by rfl, rfl⟩)) (GK.drop (by simp)) ?_
        try simp only [Act.put, zA, zB, zC]
        refine tG 31 (undef) (some 232) (GK.grow _) rfl (YieldsIf.toG (Or.inr ⟨by rfl, rfl⟩)) (GK.drop (by simp)) ?_
        try simp only [Act.put, zA, zB, zC]
        refine tG 32 (undef) (some 233) (GK.grow _) rfl (YieldsIf.toG (Or.inr ⟨by rfl, rfl⟩)) (GK.drop (by simp)) ?_
        try simp only [Act.put, zA, zB, zC]
        refine tG 33 (undef) (some 234) (GK.grow _) rfl (YieldsIf.toG (Or.inr ⟨by rfl, rfl⟩)) (GK.drop (by simp)) ?_
        try simp only [Act.put, zA, zB, zC]
        refine tG 34 (undef) (some 235) (GK.grow _) rfl (YieldsIf.toG (Or.inr ⟨by rfl, rfl⟩)) (GK.drop (by simp)) ?_
        try simp only [Act.put, zA, zB, zC]
        refine tG 35 (undef) (some 236) (GK.grow _) rfl (YieldsIf.toG (Or.inr ⟨by rfl, rfl⟩)) (GK.drop (by simp)) ?_
        try simp only [Act.put, zA, zB, zC]
        refine tG 36 (undef) (some 237) (GK.grow _) rfl (YieldsIf.toG (Or.inr ⟨by rfl, rfl⟩)) (GK.drop (by simp)) ?_
        try simp only [Act.put, zA, zB, zC]
        refine tG 37 (undef) (some 238) (GK.grow _) rfl (YieldsIf.toG (Or.inr ⟨by rfl, rfl⟩)) (GK.drop (by simp)) ?_
        try simp only [Act.put, zA, zB, zC]
        refine tG 38 (undef) (some 239) (GK.grow _) rfl (YieldsIf.toG (Or.inr ⟨by rfl, rfl⟩)) (GK.drop (by simp)) ?_
        try simp only [Act.put, zA, zB, zC]
        refine tG 39 (undef) (some 240) (GK.grow _) rfl (YieldsIf.toG (Or.inr ⟨by rfl, rfl⟩)) (GK.drop (by simp)) ?_
        try simp only [Act.put, zA, zB, zC]
        refine tG 40 (undef) (some 241) (GK.grow _) rfl (YieldsIf.toG (Or.inr ⟨by rfl, rfl⟩)) (GK.drop (by simp)) ?_
        try simp only [Act.put, zA, zB, zC]
        refine tG 41 (.bool false) (some 242) (GK.grow _) rfl (YieldsIf.toG (Or.inl ⟨by rfl, ?_⟩)) (GK.drop (by simp)) ?_
        ·intro X hX
         clear hX
         go_simp
        try simp only [Act.put, zA, zB, zC]
        refine tG 42 (.bool false) (some 243) (GK.grow _) rfl (YieldsIf.toG (Or.inl ⟨by rfl, ?_⟩)) (GK.drop (by simp)) ?_
        ·intro X hX
         clear hX
         go_simp
        try simp only [Act.put, zA, zB, zC]
        refine tG 43 (.bool false) (some 23) (GK.grow _) rfl (YieldsIf.toG (Or.inl ⟨by rfl, ?_⟩)) (GK.drop (by simp)) ?_
        ·intro X hX
         clear hX
         go_simp
        try simp only [Act.put, zA, zB, zC]
        clear HAL
        refine done_G (by kernel_rfl) (fun X23 hX => ?_) _
        replace NN := Lib.hid (Bgo NN.out hX)
        replace CU := Lib.hid (blk_next hX CU.out)
        replace CD := Lib.hid (blk_next hX CD.out)
        clear hX
        go_wp2_with fail
        go_roundw
        case rel => exact ⟨j + 1, jj, by go_num, (by rw [FS.out]; rfl), NN⟩
        case measure => simp [intOf]; omega
      ·obtain rfl : j = cs.length := by omega
       have ft : fndB ds cl.1 cs.length = true := by rw [DL.out]; exact FN9.out
       rw [ft]
       go_wp2_with fail
       go_roundw
       case rel => exact ⟨k + 1, kk, by go_num, NN⟩
       case measure => simp [intOf]; omega
    ·obtain rfl : k = cs.length := by omega
     go_wp2_with fail
     refine (alive_calls _ (GG.out.gt.next (NNc.out.trans (NN.out.mono SZW.out)))).mono ?_
     rintro e w99 ⟨rfl, hb⟩
     go_wp2_with fail
     go_ret
     exact ⟨rfl, Bgo (NNc.out.trans (NN.out.mono SZW.out)) hb⟩
end Go.Proofs.YtfangplfbbgphaaGreatDoor
