/- The examples of layer 45: given and alive. -/
import Derived.Test.YtmpmeeacdllomaaPbd
namespace Go.Proofs.Ytmpmeeacdllomaa
open Go.ChangeShapes Go.WideShapes Go.ChangeAt Go.RowKit Gf
set_option linter.unusedVariables false
attribute [local go_sem ↓] Go.wp_at_zero Go.wp_at_succ

theorem own_blk {W : World} {g base n : Nat} {cs : Array Value} {e : TypeId} (h : W.heap[g]? = some (.cells cs e)) (hb : base ≤ g) (hn : cs.size = n) (hm : n ≤ 1000) : W.ownsRow base e 1 (.slice (some ⟨g, 0, none⟩) n n) n cs.toList := by
  subst hn
  exact ⟨by simp, .inr ⟨g, cs.size, cs, rfl, hb, h, Nat.le_refl _, by simp only [maxLen]; omega, by omega, by rw [Nat.mul_one]; exact List.take_of_length_le (by simp)⟩⟩
/- one byte in a block of its own -/
theorem ob_one {W : World} {g base x : Nat} (h : W.heap[g]? = some (.cells #[.int .u8 (x : Int)] 5)) (hb : base ≤ g) : OB base W (.slice (some ⟨g, 0, none⟩) 1 1) [x] := own_blk h hb rfl (by omega)
theorem byt_one {x : Nat} (h : x < 256) : Byt [x] := fun y hy => by simp at hy; omega
/- rows that lie in blocks of their own, by a list of the blocks -/
theorem omx_of {W : World} {base : Nat} {v : Value} {us : List Value} {gs : List Nat} {m : List (List Nat)} (ht : W.ownsRow base 57 1 v m.length us) (hg : us.map Value.ownBlock = gs.map some) (hn : gs.Nodup)
    (hr : ∀ (i : Nat) (u : Value) (l : List Nat), us[i]? = some u → m[i]? = some l → OB base W u l) (hb : ∀ l ∈ m, Byt l) : OMx base W v us m := by
  refine ⟨ht, hr, hb, fun i j u u' hu hu' hij => .inr fun e => ?_⟩
  have h1 : (us.map Value.ownBlock)[i]? = some u.ownBlock := by rw [List.getElem?_map, hu]; rfl
  have h2 : (us.map Value.ownBlock)[j]? = some u'.ownBlock := by rw [List.getElem?_map, hu']; rfl
  rw [hg, List.getElem?_map] at h1 h2
  obtain ⟨a, ha, ea⟩ := Option.map_eq_some_iff.1 h1
  obtain ⟨b, hb', eb⟩ := Option.map_eq_some_iff.1 h2
  rw [← ea, ← eb] at e
  injection e with e
  subst e
  have li := get_lt ha
  have lj := get_lt hb'
  rw [List.getElem?_eq_getElem li] at ha
  rw [List.getElem?_eq_getElem lj] at hb'
  injection ha with ha
  injection hb' with hb'
  have np := List.pairwise_iff_getElem.1 hn
  rcases Nat.lt_or_gt_of_ne hij with h | h
  · exact np i j li lj h (by rw [ha, hb'])
  · exact np j i lj li h (by rw [ha, hb'])
theorem given_calls (w : World) : Calls Try.prog 33 #[] w (SPost w (2, 1, [[1], [2], [123]])) := by
  go_enter Try.func33, Try.ntmps33
  go_wp2_with fail
  generalize hW : ((((w.alloc (.cells #[.int .i64 2, .int .i64 1, .slice (some ⟨w.heap.size + 1 + 1 + 1 + 1, 0, none⟩) 3 3] 31)).alloc (.cells #[.int .u8 1] 5)).alloc (.cells #[.int .u8 2] 5)).alloc (.cells #[.int .u8 123] 5)).alloc (.cells #[.slice (some ⟨w.heap.size + 1, 0, none⟩) 1 1, .slice (some ⟨w.heap.size + 1 + 1, 0, none⟩) 1 1, .slice (some ⟨w.heap.size + 1 + 1 + 1, 0, none⟩) 1 1] 57) = W
  have h0 : W.heap[w.heap.size]? = some (.cells #[.int .i64 2, .int .i64 1, .slice (some ⟨w.heap.size + 1 + 1 + 1 + 1, 0, none⟩) 3 3] 31) := by rw [← hW]; exact blk_alloc (blk_alloc (blk_alloc (blk_alloc (blk_new w _) _) _) _) _
  have h1 : W.heap[w.heap.size + 1]? = some (.cells #[.int .u8 1] 5) := by rw [← hW]; exact blk_alloc (blk_alloc (blk_alloc (blk_at _ (by simp)) _) _) _
  have h2 : W.heap[w.heap.size + 1 + 1]? = some (.cells #[.int .u8 2] 5) := by rw [← hW]; exact blk_alloc (blk_alloc (blk_at _ (by simp)) _) _
  have h3 : W.heap[w.heap.size + 1 + 1 + 1]? = some (.cells #[.int .u8 123] 5) := by rw [← hW]; exact blk_alloc (blk_at _ (by simp)) _
  have h4 : W.heap[w.heap.size + 1 + 1 + 1 + 1]? = some (.cells #[.slice (some ⟨w.heap.size + 1, 0, none⟩) 1 1, .slice (some ⟨w.heap.size + 1 + 1, 0, none⟩) 1 1, .slice (some ⟨w.heap.size + 1 + 1 + 1, 0, none⟩) 1 1] 57) := by rw [← hW]; exact blk_at _ (by simp)
  have N : Below w.heap.size w W := by rw [← hW]; exact Bal (Bal (Bal (Bal (Bal (Below.refl _ _) _) _) _) _) _
  have e0 := blk_cell h0 0 _ rfl
  have e1 := blk_cell h0 1 _ rfl
  have e2 := blk_cell h0 2 _ rfl
  refine bodyPost_ret (v := Sv 2 1 (.slice (some ⟨w.heap.size + 1 + 1 + 1 + 1, 0, none⟩) 3 3)) (by simp [results, Try.results33, go_sem, e0, e1, e2]) rfl ⟨_, rfl, ⟨[.slice (some ⟨w.heap.size + 1, 0, none⟩) 1 1, .slice (some ⟨w.heap.size + 1 + 1, 0, none⟩) 1 1, .slice (some ⟨w.heap.size + 1 + 1 + 1, 0, none⟩) 1 1], ?_⟩, N⟩
  refine omx_of (us := [.slice (some ⟨w.heap.size + 1, 0, none⟩) 1 1, .slice (some ⟨w.heap.size + 1 + 1, 0, none⟩) 1 1, .slice (some ⟨w.heap.size + 1 + 1 + 1, 0, none⟩) 1 1]) (gs := [w.heap.size + 1, w.heap.size + 1 + 1, w.heap.size + 1 + 1 + 1]) (own_blk h4 (by omega) rfl (by omega)) rfl (by simp) ?_ (by intro l hl; simp at hl; rcases hl with rfl | rfl | rfl <;> exact byt_one (by omega))
  intro i u l hu hl
  match i, hu, hl with
  | 0, hu, hl => cases hu; cases hl; exact ob_one h1 (by omega)
  | 1, hu, hl => cases hu; cases hl; exact ob_one h2 (by omega)
  | 2, hu, hl => cases hu; cases hl; exact ob_one h3 (by omega)
  | n + 3, hu, hl => cases hu
theorem ex1 : encE [[1], [2]] 1 = 0 ∧ encS [[1], [2]] 1 = (2, 1, [[1], [2], [123]]) := by decide +kernel
theorem ex2 : loseE 2 1 [[1], [2], [123]] [0] = 0 ∧ loseS 2 1 [[1], [2], [123]] [0] = (2, 1, [[], [2], [123]]) := by decide +kernel
theorem ex3 : resE 2 1 [[], [2], [123]] = 0 ∧ resS 2 1 [[], [2], [123]] = (2, 1, [[1], [2], [123]]) := by decide +kernel
theorem ex4 : invVal 2 = 142 ∧ invErr 2 = 0 ∧ invVal 3 = 244 ∧ invErr 3 = 0 ∧ gm 2 128 = 29 ∧ gm 244 2 = 245 := by decide +kernel
theorem rb_blk {W : World} {g n : Nat} {cs : Array Value} (l : List Nat) (h : W.heap[g]? = some (.cells cs 5)) (e : cs.toList = bv l) (hn : l.length = n) (hl : Byt l) (hm : n ≤ 1000) : RB 0 W (.slice (some ⟨g, 0, none⟩) n n) l := by
  subst hn
  have hs : cs.size = l.length := by have := congrArg List.length e; rw [bv_len] at this; simpa using this
  have := own_blk (base := 0) h (by omega) hs hm
  rw [e] at this
  exact OB.rb this hl
theorem rma_blk {W : World} {g : Nat} {cs : Array Value} (m : List (List Nat)) (h : W.heap[g]? = some (.cells cs 57)) (hn : cs.size = m.length) (hm : m.length ≤ 1000) (hr : ∀ (i : Nat) (u : Value) (l : List Nat), cs.toList[i]? = some u → m[i]? = some l → RB 0 W u l) : RMA 0 W (some ⟨g, 0, none⟩) m :=
  ⟨cs.toList, by simpa using hn, Hd.of_own (own_blk (base := 0) h (by omega) hn hm), hr⟩
theorem ri_blk {W : World} {g : Nat} {cs : Array Value} (l : List Int) (h : W.heap[g]? = some (.cells cs 3)) (e : cs.toList = ivI l) (hm : l.length ≤ 1000) : RI 0 W (some ⟨g, 0, none⟩) l := by
  have hs : cs.size = l.length := by have := congrArg List.length e; simpa [ivI] using this
  have := own_blk (base := 0) h (by omega) hs hm
  rw [e] at this
  exact Hd.of_own this
set_option maxRecDepth 100000 in
set_option maxHeartbeats 4000000 in
theorem alive_calls (w : World) : Calls Try.prog 21 #[] w fun e w' => e = .returned (.bool true) ∧ Below w.heap.size w w' := by
  have I2 : Hid (∀ W : World, Calls Try.prog 11 #[.int .u8 2] W fun e w' => e = .returned (.tuple #[.int .u8 142, .int .i64 0]) ∧ W = w') := Lib.hid (fun W => by have := inv_calls 2 (by omega) W; rw [ex4.1, ex4.2.1] at this; exact this)
  have I3 : Hid (∀ W : World, Calls Try.prog 11 #[.int .u8 3] W fun e w' => e = .returned (.tuple #[.int .u8 244, .int .i64 0]) ∧ W = w') := Lib.hid (fun W => by have := inv_calls 3 (by omega) W; rw [ex4.2.2.1, ex4.2.2.2.1] at this; exact this)
  have M1 : Hid (∀ W : World, Calls Try.prog 13 #[.int .u8 2, .int .u8 128] W fun e w' => e = .returned (.int .u8 29) ∧ W = w') := Lib.hid (fun W => by have := mul_calls 2 128 (by omega) (by omega) W; rw [ex4.2.2.2.2.1] at this; exact this)
  have M2 : Hid (∀ W : World, Calls Try.prog 13 #[.int .u8 244, .int .u8 2] W fun e w' => e = .returned (.int .u8 245) ∧ W = w') := Lib.hid (fun W => by have := mul_calls 244 2 (by omega) (by omega) W; rw [ex4.2.2.2.2.2] at this; exact this)
  have EC : Hid (∀ (W : World) (A : Option Addr) (c : Nat), 2 ≤ c → c ≤ 9223372036854775807 → RMA 0 W A [[1], [2]] → Calls Try.prog 24 #[.slice A 2 c, .int .i64 1] W (SEPost W (2, 1, [[1], [2], [123]]) 0)) := Lib.hid (fun W A c h1 h2 h => by
    have := encode_calls A c 0 [[1], [2]] 1 W h1 h2 h
    rw [ex1.1, ex1.2] at this
    exact this)
  have LC : Hid (∀ (W : World) (A : Option Addr) (c : Nat) (Ad : Option Addr), 3 ≤ c → c ≤ 9223372036854775807 → RMA 0 W A [[1], [2], [123]] → RI 0 W Ad [0] → Calls Try.prog 26 #[Sv 2 1 (.slice A 3 c), .slice Ad 1 1] W (SEPost W (2, 1, [[], [2], [123]]) 0)) := Lib.hid (fun W A c Ad h1 h2 h hd => by
    have := lose_calls 2 1 A c 0 [[1], [2], [123]] Ad 1 0 [0] W h1 h2 h (by simp) (by omega) hd
    rw [ex2.1, ex2.2] at this
    exact this)
  have RC : Hid (∀ (W : World) (A : Option Addr) (c : Nat), 3 ≤ c → c ≤ 9223372036854775807 → RMA 0 W A [[], [2], [123]] → Calls Try.prog 16 #[Sv 2 1 (.slice A 3 c)] W (SEPost W (2, 1, [[1], [2], [123]]) 0)) := Lib.hid (fun W A c h1 h2 h => by
    have := restore_calls 2 1 A c 0 [[], [2], [123]] W h1 h2 h
    rw [ex3.1, ex3.2] at this
    exact this)
  have SC : Hid (∀ (W : World) (A : Option Addr) (c : Nat) (A' : Option Addr) (c' : Nat), 3 ≤ c → c ≤ 9223372036854775807 → RMA 0 W A [[1], [2], [123]] → 3 ≤ c' → c' ≤ 9223372036854775807 → RMA 0 W A' [[1], [2], [123]] → Calls Try.prog 20 #[Sv 2 1 (.slice A 3 c), Sv 2 1 (.slice A' 3 c')] W fun e w' => e = .returned (.bool true) ∧ Below W.heap.size W w') := Lib.hid (fun W A c A' c' h1 h2 h h1' h2' h' => by
    have := refSame_calls 2 1 A c 0 [[1], [2], [123]] 2 1 A' c' 0 [[1], [2], [123]] W h1 h2 h h1' h2' h'
    rw [show decide (((2 : Int), (1 : Int), [[1], [2], [123]]) = ((2 : Int), (1 : Int), [[1], [2], [123]])) = true by decide] at this
    exact this)
  have GC := Lib.hid (fun W => given_calls W)
  go_enter Try.func21, Try.ntmps21
  go_wp2_with fail
  refine (I2.out _).mono ?_
  rintro e w1 ⟨rfl, rfl⟩
  go_wp2_with fail
  refine (I3.out _).mono ?_
  rintro e w1 ⟨rfl, rfl⟩
  go_wp2_with fail
  have A0 : Hid (((w.alloc (.cells #[.int .u8 1] 5)).alloc (.cells #[.int .u8 2] 5)).alloc (.cells #[.slice (some ⟨w.heap.size, 0, none⟩) 1 1, .slice (some ⟨w.heap.size + 1, 0, none⟩) 1 1] 57) |>.heap[w.heap.size]? = some (.cells #[.int .u8 1] 5)) := Lib.hid (blk_alloc (blk_alloc (blk_new w _) _) _)
  have A1 : Hid (((w.alloc (.cells #[.int .u8 1] 5)).alloc (.cells #[.int .u8 2] 5)).alloc (.cells #[.slice (some ⟨w.heap.size, 0, none⟩) 1 1, .slice (some ⟨w.heap.size + 1, 0, none⟩) 1 1] 57) |>.heap[w.heap.size + 1]? = some (.cells #[.int .u8 2] 5)) := Lib.hid (blk_alloc (blk_at _ (by simp)) _)
  have A2 : Hid (((w.alloc (.cells #[.int .u8 1] 5)).alloc (.cells #[.int .u8 2] 5)).alloc (.cells #[.slice (some ⟨w.heap.size, 0, none⟩) 1 1, .slice (some ⟨w.heap.size + 1, 0, none⟩) 1 1] 57) |>.heap[w.heap.size + 1 + 1]? = some (.cells #[.slice (some ⟨w.heap.size, 0, none⟩) 1 1, .slice (some ⟨w.heap.size + 1, 0, none⟩) 1 1] 57)) := Lib.hid (blk_at _ (by simp))
  have N0 : Hid (Below w.heap.size w (((w.alloc (.cells #[.int .u8 1] 5)).alloc (.cells #[.int .u8 2] 5)).alloc (.cells #[.slice (some ⟨w.heap.size, 0, none⟩) 1 1, .slice (some ⟨w.heap.size + 1, 0, none⟩) 1 1] 57))) := Lib.hid (Bal (Bal (Bal (Below.refl _ _) _) _) _)
  generalize ((w.alloc (.cells #[.int .u8 1] 5)).alloc (.cells #[.int .u8 2] 5)).alloc (.cells #[.slice (some ⟨w.heap.size, 0, none⟩) 1 1, .slice (some ⟨w.heap.size + 1, 0, none⟩) 1 1] 57) = W0 at *
  refine (EC.out W0 _ 2 (by omega) (by omega) (rma_blk [[1], [2]] A2.out rfl (by decide) (fun i u l hu hl => ?_))).mono ?_
  · match i, hu, hl with
    | 0, hu, hl => cases hu; cases hl; exact rb_blk [1] A0.out rfl rfl (byt_one (by omega)) (by omega)
    | 1, hu, hl => cases hu; cases hl; exact rb_blk [2] A1.out rfl rfl (byt_one (by omega)) (by omega)
    | n + 2, hu, hl => cases hu
  rintro e w1 ⟨v, rfl, ⟨us, ho⟩, hb1⟩
  obtain ⟨Av, cv, rfl, hv1, hv2, _⟩ := own_form (show w1.ownsRow _ _ 1 v 3 us from ho.top)
  have N1 := Lib.hid (Bgo N0.out hb1)
  have RS := Lib.hid (ho.rma.mono (B' := 0) (by omega))
  clear A0 A1 A2 hb1 ho N0
  go_wp2_with fail
  have P1 : Hid (((w1.alloc (.cells #[.int .i64 2, .int .i64 1, .slice Av 3 cv] 31)).alloc (.cells #[.int .i64 0] 3)).heap[w1.heap.size]? = some (.cells #[.int .i64 2, .int .i64 1, .slice Av 3 cv] 31)) := Lib.hid (blk_alloc (blk_new w1 _) _)
  have P2 : Hid (((w1.alloc (.cells #[.int .i64 2, .int .i64 1, .slice Av 3 cv] 31)).alloc (.cells #[.int .i64 0] 3)).heap[w1.heap.size + 1]? = some (.cells #[.int .i64 0] 3)) := Lib.hid (blk_at _ (by simp))
  have N2 : Hid (Below w1.heap.size w1 ((w1.alloc (.cells #[.int .i64 2, .int .i64 1, .slice Av 3 cv] 31)).alloc (.cells #[.int .i64 0] 3))) := Lib.hid (Bal (Bal (Below.refl _ _) _) _)
  generalize (w1.alloc (.cells #[.int .i64 2, .int .i64 1, .slice Av 3 cv] 31)).alloc (.cells #[.int .i64 0] 3) = W1 at *
  have N2' : Hid (Below w.heap.size w W1 ∧ RMA 0 W1 Av [[1], [2], [123]]) := Lib.hid ⟨Bgo N1.out N2.out, RS.out.next N2.out⟩
  clear N2
  generalize w1.heap.size = gs at *
  refine (LC.out W1 Av cv _ hv1 hv2 N2'.out.2 (ri_blk [0] P2.out rfl (by decide))).mono ?_
  rintro e w2 ⟨v, rfl, ⟨us2, ho⟩, hb2⟩
  obtain ⟨At, ct, rfl, ht1, ht2, _⟩ := own_form (show w2.ownsRow _ _ 1 v 3 us2 from ho.top)
  have N3 := Lib.hid (Bgo N2'.out.1 hb2)
  have RT := Lib.hid (ho.rma.mono (B' := 0) (by omega))
  have RS2 := Lib.hid (N2'.out.2.next hb2)
  have Q1 := Lib.hid (blk_next hb2 P1.out)
  clear hb2 ho P1 P2 N2' RS N1
  go_wp2_with fail
  refine (RC.out _ At ct ht1 ht2 (RT.out.next (Bal (Below.refl _ _) _))).mono ?_
  rintro e w3 ⟨v, rfl, ⟨us3, ho⟩, hb3⟩
  obtain ⟨Au, cu, rfl, hu1, hu2, _⟩ := own_form (show w3.ownsRow _ _ 1 v 3 us3 from ho.top)
  have B3 := Lib.hid (Bgo (Bal (Below.refl _ _) _) hb3 : Below w2.heap.size w2 w3)
  have N4 := Lib.hid (Bgo N3.out B3.out)
  have RU := Lib.hid (ho.rma.mono (B' := 0) (by omega))
  have RS3 := Lib.hid (RS2.out.next B3.out)
  have Q2 := Lib.hid (blk_next B3.out Q1.out)
  have Q3 := Lib.hid (blk_next hb3 (blk_new w2 _))
  obtain ⟨bt, ot, Ah, ch, rfl, hlt, hh, _, _, _⟩ := (RT.out.next B3.out).at_ (i := 0) (l := []) rfl
  have HH : Hid (bt < w3.heap.size ∧ w3.cell? ⟨bt, ot, none⟩ = some (.slice Ah 0 ch)) := Lib.hid ⟨hlt, hh⟩
  clear hb3 ho B3 N3 RT RS2 Q1 hh hlt
  generalize w2.heap.size = gt at *
  go_upto_region 6 with fail
  have KEEP : Hid (∀ X : World, Below (w3.alloc (.cells #[.int .i64 2, .int .i64 1, .slice Au 3 cu] 31)).heap.size (w3.alloc (.cells #[.int .i64 2, .int .i64 1, .slice Au 3 cu] 31)) X → (X.cell? ⟨gs, 0, none⟩ = some (.int .i64 2) ∧ X.cell? ⟨gs, 1, none⟩ = some (.int .i64 1) ∧ X.cell? ⟨gs, 2, none⟩ = some (.slice Av 3 cv)) ∧ (X.cell? ⟨w3.heap.size, 0, none⟩ = some (.int .i64 2) ∧ X.cell? ⟨w3.heap.size, 1, none⟩ = some (.int .i64 1) ∧ X.cell? ⟨w3.heap.size, 2, none⟩ = some (.slice Au 3 cu)) ∧ X.cell? ⟨gt, 2, none⟩ = some (.slice (some ⟨bt, ot, none⟩) 3 ct) ∧ X.cell? ⟨bt, ot, none⟩ = some (.slice Ah 0 ch)) := Lib.hid (fun X hX =>
    ⟨box3 (blk_next hX (blk_alloc Q2.out _)), box3 (blk_next hX (blk_new w3 _)), blk_cell (blk_next hX (blk_alloc Q3.out _)) 2 _ rfl, ((Bgo (Bal (Below.refl _ _) _) hX : Below w3.heap.size w3 X).cell HH.out.1).trans HH.out.2⟩)
  have RSX : Hid (∀ X : World, Below (w3.alloc (.cells #[.int .i64 2, .int .i64 1, .slice Au 3 cu] 31)).heap.size (w3.alloc (.cells #[.int .i64 2, .int .i64 1, .slice Au 3 cu] 31)) X → RMA 0 X Av [[1], [2], [123]] ∧ RMA 0 X Au [[1], [2], [123]] ∧ Below w.heap.size w X) := Lib.hid (fun X hX => ⟨RS3.out.next (Bgo (Bal (Below.refl _ _) _) hX), RU.out.next (Bgo (Bal (Below.refl _ _) _) hX), Bgo (Bal N4.out _) hX⟩)
  clear Q2 Q3 HH RS3 RU N4
  generalize w3.alloc (.cells #[.int .i64 2, .int .i64 1, .slice Au 3 cu] 31) = W3 at *
  generalize w3.heap.size = gu at *
  have KP := KEEP.out W3 (Below.refl _ _)
  obtain ⟨⟨k1, k2, k3⟩, ⟨k4, k5, k6⟩, k7, k8⟩ := KP
  go_region_held3 (fun X => (X.cell? ⟨gs, 0, none⟩ = some (.int .i64 2) ∧ X.cell? ⟨gs, 1, none⟩ = some (.int .i64 1) ∧ X.cell? ⟨gs, 2, none⟩ = some (.slice Av 3 cv)) ∧ (X.cell? ⟨gu, 0, none⟩ = some (.int .i64 2) ∧ X.cell? ⟨gu, 1, none⟩ = some (.int .i64 1) ∧ X.cell? ⟨gu, 2, none⟩ = some (.slice Au 3 cu)) ∧ X.cell? ⟨gt, 2, none⟩ = some (.slice (some ⟨bt, ot, none⟩) 3 ct) ∧ X.cell? ⟨bt, ot, none⟩ = some (.slice Ah 0 ch))
    (first | (with_reducible exact KEEP.out _ BS2.out) | (with_reducible exact KEEP.out _ BG2.out) | (with_reducible exact KEEP.out _ BS1.out) | (with_reducible exact KEEP.out _ BG1.out) | (with_reducible exact KEEP.out _ (Below.refl _ _)) | (with_reducible exact KEEP.out _ BS2.out.drew) | (with_reducible exact KEEP.out _ BG2.out.drew) | (with_reducible exact KEEP.out _ BS1.out.drew) | (with_reducible exact KEEP.out _ BG1.out.drew) | (with_reducible exact KEEP.out _ (Below.refl _ _).drew))
    (first
      | (go_at_call 13; (first | (with_reducible refine (M1.out _).mono ?_) | (with_reducible refine (M2.out _).mono ?_)); rintro e wm ⟨rfl, rfl⟩)
      | (have KX := BS1; clear KX; go_at_call 33; refine (GC.out _).mono ?_; rintro e wg2 ⟨vg2, rfl, ⟨ug2, og2⟩, bg2⟩; obtain ⟨Ag2, cg2, rfl, hg21, hg22, _⟩ := own_form (show wg2.ownsRow _ _ 1 vg2 3 ug2 from og2.top); have BG2 : Hid (Below W3.heap.size W3 wg2) := Lib.hid (by first | (with_reducible exact Bgo BS1.out bg2) | (with_reducible exact Bgo BS1.out (undrewB bg2))); have OG2 := Lib.hid (og2.rma.mono (B' := 0) (by omega)); clear bg2 og2)
      | (have KX := BG2; clear KX; go_at_call 20; refine (SC.out _ Au cu Ag2 cg2 hu1 hu2 ?_ hg21 hg22 ?_).mono ?_; (first | (with_reducible exact (RSX.out _ BG2.out).2.1) | (with_reducible exact (RSX.out _ BG2.out.drew).2.1)); (first | (with_reducible exact OG2.out) | (with_reducible exact OG2.out.next (Below.refl _ _).drew)); rintro e ws2 ⟨rfl, bs2⟩; have BS2 : Hid (Below W3.heap.size W3 ws2) := Lib.hid (by first | (with_reducible exact Bgo BG2.out bs2) | (with_reducible exact Bgo BG2.out (undrewB bs2))); clear bs2)
      | (go_at_call 33; refine (GC.out _).mono ?_; rintro e wg1 ⟨vg1, rfl, ⟨ug1, og1⟩, bg1⟩; obtain ⟨Ag1, cg1, rfl, hg11, hg12, _⟩ := own_form (show wg1.ownsRow _ _ 1 vg1 3 ug1 from og1.top); have BG1 : Hid (Below W3.heap.size W3 wg1) := Lib.hid (by first | (with_reducible exact bg1) | (with_reducible exact undrewB bg1)); have OG1 := Lib.hid (og1.rma.mono (B' := 0) (by omega)); clear bg1 og1)
      | (go_at_call 20; refine (SC.out _ Av cv Ag1 cg1 hv1 hv2 ?_ hg11 hg12 ?_).mono ?_; (first | (with_reducible exact (RSX.out _ BG1.out).1) | (with_reducible exact (RSX.out _ BG1.out.drew).1)); (first | (with_reducible exact OG1.out) | (with_reducible exact OG1.out.next (Below.refl _ _).drew)); rintro e ws1 ⟨rfl, bs1⟩; have BS1 : Hid (Below W3.heap.size W3 ws1) := Lib.hid (by first | (with_reducible exact Bgo BG1.out bs1) | (with_reducible exact Bgo BG1.out (undrewB bs1))); clear bs1))
  go_wp2_with fail
  go_ret
  exact ⟨rfl, (RSX.out _ BS2.out).2.2⟩
end Go.Proofs.Ytmpmeeacdllomaa
