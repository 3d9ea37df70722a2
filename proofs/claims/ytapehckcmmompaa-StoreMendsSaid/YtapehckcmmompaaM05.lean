/- Several texts in one. -/
import Derived.Test.YtapehckcmmompaaM04
namespace Go.Proofs.Ytapehckcmmompaa
open Go.ChangeShapes Go.WideShapes Go.ChangeAt Go.RowKit Gf
set_option linter.unusedVariables false
set_option maxRecDepth 100000
attribute [local go_sem ↓] Go.wp_at_zero Go.wp_at_succ
theorem getD_lt {m : List (List Nat)} {i : Nat} {l : List Nat} (h : m[i]? = some l) : m.getD i [] = l := getD_of h
theorem one_of_rb {B : Nat} {w : World} {us : List Value} {m : List (List Nat)} (hl : us.length = m.length) (h : ∀ (i : Nat) (u : Value) (l : List Nat), us[i]? = some u → m[i]? = some l → RB B w u l) : ∀ u ∈ us, u.oneCell' = true := fun u hu => by
 obtain ⟨i, hi, rfl⟩ := List.mem_iff_getElem.1 hu
 obtain ⟨l, hl'⟩ := get_some (show i < m.length by omega)
 obtain ⟨A, c, e, _⟩ := h i _ l (List.getElem?_eq_getElem hi) hl'
 rw [e]; rfl
theorem OMx.kept_other {B B0 : Nat} {W W' : World} {v v0 : Value} {us xs0 : List Value} {m : List (List Nat)} {n0 : Nat} (h : OMx B W v us m) (hg : W.grownBy W' v0.ownBlock) (ht : W.ownsRow B0 26 1 v0 n0 xs0) (hne : v.ownBlock = none ∨ v.ownBlock ≠ v0.ownBlock) : OMx B W' v us m :=
 ⟨h.top.kept hg hne, fun i u l hu hl => (h.row i u l hu hl).kept hg (own_own ht (h.row i u l hu hl) ne_sl_u8), h.byt, h.apart⟩
theorem OMx.old {B : Nat} {W0 : World} {v : Value} {us : List Value} {m : List (List Nat)} (h : OMx B W0 v us m) {i : Nat} {x : Value} (hx : us[i]? = some x) : ∀ g, x.ownBlock = some g → g < W0.heap.size := fun g hg => by
 obtain ⟨k, hk⟩ := get_some (show i < m.length by have := get_lt hx; rw [h.len] at this; exact this)
 exact ((h.row i x k hx hk).lt g hg).2
theorem old_new {x u : Value} {n : Nat} (hx : ∀ g, x.ownBlock = some g → g < n) (hu : ∀ g, u.ownBlock = some g → n ≤ g) : x.ownBlock = none ∨ x.ownBlock ≠ u.ownBlock := by
 cases e : x.ownBlock with
 | none => exact .inl rfl
 | some g =>
  refine .inr fun e' => ?_
  have := hx g e
  have := hu g e'.symm
  omega
theorem new_old {x u : Value} {n : Nat} (hx : ∀ g, x.ownBlock = some g → g < n) (hu : ∀ g, u.ownBlock = some g → n ≤ g) : u.ownBlock = none ∨ u.ownBlock ≠ x.ownBlock := by
 cases e : u.ownBlock with
 | none => exact .inl rfl
 | some g =>
  refine .inr fun e' => ?_
  have := hu g e
  have := hx g e'.symm
  omega
theorem OMx.push2 {B : Nat} {W W' : World} {v v' u : Value} {us : List Value} {m : List (List Nat)} {l : List Nat} (h : OMx B W v us m) (hu : OB B W u l) (hl : Byt l) (h1 : ∀ (i : Nat) (x : Value), us[i]? = some x → x.ownBlock = none ∨ x.ownBlock ≠ u.ownBlock) (h2 : ∀ (i : Nat) (x : Value), us[i]? = some x → u.ownBlock = none ∨ u.ownBlock ≠ x.ownBlock)
  (hown : W'.ownsRow B 26 1 v' (m.length + 1) (us ++ [u])) (hg : W.grownBy W' v.ownBlock) : OMx B W' v' (us ++ [u]) (m ++ [l]) := by
 have keep : ∀ {base : Nat} {x : Value} {k : List Nat}, OB base W x k → OB base W' x k := fun hx => hx.kept hg (own_own h.top hx (by decide))
 refine ⟨by simpa using hown, fun i x k hx hk => ?_, fun k hk => ?_, fun i j x x' hx hx' hij => ?_⟩
 ·rcases get_append_one hx with k1 | ⟨k1, rfl⟩
  ·rcases get_append_one hk with k2 | ⟨k2, rfl⟩
   ·exact keep (h.row i x k k1 k2)
   ·have := get_lt k1; rw [h.len] at this; omega
  ·rcases get_append_one hk with k2 | ⟨k2, rfl⟩
   ·have := get_lt k2; rw [h.len] at k1; omega
   ·exact keep hu
 ·rcases List.mem_append.1 hk with h1 | h1
  ·exact h.byt k h1
  ·simp at h1; subst h1; exact hl
 ·rcases get_append_one hx with k1 | ⟨k1, rfl⟩
  ·rcases get_append_one hx' with k2 | ⟨k2, rfl⟩
   ·exact h.apart i j x x' k1 k2 hij
   ·exact h1 i x k1
  ·rcases get_append_one hx' with k2 | ⟨k2, rfl⟩
   ·exact h2 j x' k2
   ·omega
def Cross (us vs : List Value) : Prop := ∀ (i j : Nat) (x y : Value), us[i]? = some x → vs[j]? = some y → (x.ownBlock = none ∨ x.ownBlock ≠ y.ownBlock) ∧ (y.ownBlock = none ∨ y.ownBlock ≠ x.ownBlock)
theorem Cross.fam {B : Nat} {w : World} {v v' : Value} {us vs : List Value} {m r : List (List Nat)} (h : OMx B w v us m) (k : OMx B w v' vs r) (hc : Cross us vs) : Fam B w (us ++ vs) (m ++ r) := by
 have hl := h.len
 have kl := k.len
 refine ⟨by simp; omega, fun i u l hu hm => ?_, fun l hm => ?_, fun i j u u' hu hu' hij => ?_⟩
 ·rcases Nat.lt_or_ge i us.length with h1 | h1
  ·rw [List.getElem?_append_left h1] at hu
   rw [List.getElem?_append_left (by omega)] at hm
   exact h.row i u l hu hm
  ·rw [List.getElem?_append_right h1] at hu
   rw [List.getElem?_append_right (by omega), ← hl] at hm
   exact k.row _ u l hu hm
 ·rcases List.mem_append.1 hm with h1 | h1
  ·exact h.byt l h1
  ·exact k.byt l h1
 ·rcases Nat.lt_or_ge i us.length with h1 | h1
  ·rw [List.getElem?_append_left h1] at hu
   rcases Nat.lt_or_ge j us.length with h2 | h2
   ·rw [List.getElem?_append_left h2] at hu'
    exact h.apart i j u u' hu hu' hij
   ·rw [List.getElem?_append_right h2] at hu'
    exact (hc i _ u u' hu hu').1
  ·rw [List.getElem?_append_right h1] at hu
   rcases Nat.lt_or_ge j us.length with h2 | h2
   ·rw [List.getElem?_append_left h2] at hu'
    exact (hc j _ u' u hu' hu).2
   ·rw [List.getElem?_append_right h2] at hu'
    exact k.apart _ _ u u' hu hu' (by omega)
theorem Cross.push {us vs : List Value} {u v : Value} (h : Cross us vs) (h1 : ∀ (i : Nat) (x : Value), us[i]? = some x → (x.ownBlock = none ∨ x.ownBlock ≠ v.ownBlock) ∧ (v.ownBlock = none ∨ v.ownBlock ≠ x.ownBlock))
  (h2 : ∀ (j : Nat) (y : Value), vs[j]? = some y → (u.ownBlock = none ∨ u.ownBlock ≠ y.ownBlock) ∧ (y.ownBlock = none ∨ y.ownBlock ≠ u.ownBlock)) (h3 : (u.ownBlock = none ∨ u.ownBlock ≠ v.ownBlock) ∧ (v.ownBlock = none ∨ v.ownBlock ≠ u.ownBlock)) : Cross (us ++ [u]) (vs ++ [v]) := fun i j x y hx hy => by
 rcases get_append_one hx with k1 | ⟨_, rfl⟩
 ·rcases get_append_one hy with k2 | ⟨_, rfl⟩
  ·exact h i j x y k1 k2
  ·exact h1 i x k1
 ·rcases get_append_one hy with k2 | ⟨_, rfl⟩
  ·exact h2 j y k2
  ·exact h3
theorem flip_ne {x y : Option Nat} (h : x = none ∨ x ≠ y) : y = none ∨ y ≠ x := by
 rcases h with h | h
 ·cases y with
  | none => exact .inl rfl
  | some b => exact .inr (by rw [h]; simp)
 ·exact .inr (fun e => h e.symm)
def hdK (D : Nat) (m : List (List Nat)) (vs hs : List Value) (k : Nat) : List Value := (List.range D).map fun i => if (m.getD i []).length = 0 ∧ (lostL m i).length < k then vs.getD (lostL m i).length (.slice none 0 0) else hs.getD i (.slice none 0 0)
theorem hdK_len (D : Nat) (m : List (List Nat)) (vs hs : List Value) (k : Nat) : (hdK D m vs hs k).length = D := by simp [hdK]
theorem hdK_at {D : Nat} {m : List (List Nat)} {vs hs : List Value} {k i : Nat} (hi : i < D) : (hdK D m vs hs k)[i]? = some (if (m.getD i []).length = 0 ∧ (lostL m i).length < k then vs.getD (lostL m i).length (.slice none 0 0) else hs.getD i (.slice none 0 0)) := by
 simp only [hdK, List.getElem?_map, List.getElem?_range hi, Option.map_some]
theorem hdK_zero {D : Nat} {m : List (List Nat)} {vs hs : List Value} (h : D ≤ hs.length) : hdK D m vs hs 0 = hs.take D := by
 apply List.ext_getElem?
 intro i
 rw [List.getElem?_take]
 by_cases hi : i < D
 ·rw [hdK_at hi, if_neg (by omega), if_pos hi]
  obtain ⟨x, hx⟩ := get_some (show i < hs.length by omega)
  rw [List.getD_eq_getElem?_getD, hx]; rfl
 ·rw [List.getElem?_eq_none (by rw [hdK_len]; omega), if_neg hi]
theorem hdK_succ {D : Nat} {m : List (List Nat)} {vs hs : List Value} {k x : Nat} {u : Value} (hx : (lostL m D)[k]? = some x) (hu : vs[k]? = some u) : hdK D m vs hs (k + 1) = (hdK D m vs hs k).set x u := by
 obtain ⟨x1, x2, x3⟩ := lostL_rank D hx
 apply List.ext_getElem?
 intro i
 rw [List.getElem?_set]
 by_cases hi : i < D
 ·rw [hdK_at hi, hdK_at hi]
  by_cases e : x = i
  ·subst e
   rw [if_pos rfl, if_pos ⟨x2, by omega⟩, x3, List.getD_eq_getElem?_getD, hu, if_pos (by rw [hdK_len]; exact hi)]; rfl
  ·rw [if_neg e]
   by_cases h0 : (m.getD i []).length = 0
   ·have hne : (lostL m i).length ≠ k := fun h => e (lostL_inj x2 h0 (by rw [x3, h]))
    by_cases h1 : (lostL m i).length < k
    ·rw [if_pos ⟨h0, by omega⟩, if_pos ⟨h0, h1⟩]
    ·rw [if_neg (by omega), if_neg (by omega)]
   ·rw [if_neg (fun h => h0 h.1), if_neg (fun h => h0 h.1)]
 ·rw [List.getElem?_eq_none (by rw [hdK_len]; omega)]
  by_cases e : x = i
  ·omega
  ·rw [if_neg e, List.getElem?_eq_none (by rw [hdK_len]; omega)]
theorem rowF_len (D j : Nat) (g : List Nat) : (g.map (fac D j)).length = g.length := by simp
theorem rowF_mix {D j t : Nat} {g : List Nat} (h : g.length = t) : mixK (fun i _ => fac D j (g.getD i 0)) (List.replicate t 0) t = g.map (fac D j) := by
 apply List.ext_getElem?
 intro i
 simp only [mixK, List.getElem?_map, List.length_replicate]
 by_cases hi : i < t
 ·rw [List.getElem?_range hi, Option.map_some, if_pos hi]
  obtain ⟨x, hx⟩ := get_some (show i < g.length by omega)
  rw [hx, List.getD_eq_getElem?_getD, hx]; rfl
 ·rw [List.getElem?_eq_none (by simpa using hi), List.getElem?_eq_none (by omega)]; rfl
set_option maxRecDepth 100000 in
set_option maxHeartbeats 4000000 in
theorem data_calls (A : Option Addr) (c B D M : Nat) (m : List (List Nat)) (w : World) (hn : m.length ≤ c) (hc : c ≤ 9223372036854775807) (hs : RMA B w A m) (hok : Ok D M m) (hlost : lostN m ≤ M) :
  Calls Try.prog 84 #[Sv D M (.slice A m.length c)] w fun e w' => ∃ v, e = .returned v ∧ RM 0 w' v (dataL D M m) ∧ Below w.heap.size w w' := by
 have hD1 := hok.d1
 have hD8 := hok.d8
 have hM4 := hok.m4
 have hml := hok.len
 have hq1 := hok.s1
 have hq2 := hok.s64
 have EACH := Lib.hid hok.each
 have CE := Lib.hid (cho_enough hml hlost)
 obtain ⟨hs0, hsl, hsh, hsr⟩ := hs
 have HS : Hid (RMA B w A m) := Lib.hid ⟨hs0, hsl, hsh, hsr⟩
 have HSR := Lib.hid hsr
 have HSL := Lib.hid hsl
 have HONE : Hid (∀ u ∈ hs0.take D, u.oneCell' = true) := Lib.hid (fun u hu => one_of_rb hsl hsr u (List.mem_of_mem_take hu))
 have HT : Hid (Hd 0 w A (hs0.take D)) := Lib.hid ((hsh.take_ D).mono (by omega))
 have HTL : Hid ((hs0.take D).length = D) := Lib.hid (by rw [List.length_take]; omega)
 obtain ⟨i0, hi0, hz0, hz1, hz2⟩ := info_parts sl_info
 have HI := Lib.hid (And.intro hi0 (And.intro hz0 (And.intro hz1 hz2)))
 obtain ⟨j0, hj0, hy0, hy1, hy2⟩ := info_parts int_info
 have HJ := Lib.hid (And.intro hj0 (And.intro hy0 (And.intro hy1 hy2)))
 clear hi0 hz0 hz1 hz2 hj0 hy0 hy1 hy2 hsh hsr hsl hok
 have HML := Lib.hid hml
 clear hml
 have hDc : D ≤ c := by have := HML.out; omega
 have hDm : D ≤ m.length := by have := HML.out; omega
 have d1 : (0 : Int) ≤ (D : Int) := by omega
 go_enter Try.func84, Try.ntmps84
 have SB0 : Hid ((w.alloc (.cells #[.int .i64 D, .int .i64 M, .slice A m.length c] 54)).heap[w.heap.size]? = some (.cells #[.int .i64 D, .int .i64 M, .slice A m.length c] 54)) := Lib.hid (blk_new w _)
 go_wp2_with (at_builtin; refine wpList_append_rd _ rfl (.const (.slice none 0 0)) (.tmp 22) _ rfl (w.heap.size + 1) 26 i0 _ 1 24 Try.underlying44 HI.out.1 HI.out.2.1 HI.out.2.2.1 HI.out.2.2.2 rfl (by omega) (.slice none 0 0) 0 [] rfl (World.ownsRow_nil _ _ _ _) A D c (hs0.take D) rfl ((HT.out.next (Bal (Below.refl _ _) _)).rd HTL.out) HONE.out (by simp only [maxLen]; omega) (by omega) (by simp) ?_; intro vb w1 hown1 hg1 hat1; simp only [Nat.zero_add, List.nil_append] at hown1; obtain ⟨Ab, cb, rfl, hb1, hb2, _⟩ := own_form hown1; have OB1 := Lib.hid hown1; have N1 : Hid (Below w.heap.size w w1) := Lib.hid ((Bal (Below.refl _ _) _).grown hg1 (by simp) (fun q hq => by cases hq)); have SB1 : Hid (w1.heap[w.heap.size]? = some (.cells #[.int .i64 D, .int .i64 M, .slice A m.length c] 54)) := Lib.hid (gblk hg1 SB0.out (by simp [Value.ownBlock])); clear hown1 hg1 hat1)
 clear SB0
 have AB : Hid (∃ bb, Ab = some ⟨bb, 0, none⟩) := Lib.hid (by
  rcases OB1.out.2 with ⟨_, h⟩ | ⟨g, cap, cur, h, _⟩
  ·omega
  ·simp only [Value.slice.injEq] at h; exact ⟨g, h.1⟩)
 obtain ⟨bb, rfl⟩ := AB.out
 have HROW : Hid (∀ (i : Nat) (l : List Nat), i < D → m[i]? = some l → ∃ Ai ci, hs0[i]? = some (.slice Ai l.length ci) ∧ l.length ≤ ci ∧ ci ≤ 9223372036854775807 ∧ RBA B w Ai l) := Lib.hid (fun i l hi hl => by
  obtain ⟨u, hu⟩ := get_some (show i < hs0.length by rw [HSL.out]; exact get_lt hl)
  obtain ⟨Ai, ci, e, k1, k2, k3⟩ := HSR.out i u l hu hl
  rw [e] at hu
  exact ⟨Ai, ci, hu, k1, k2, k3⟩)
 have BBL : Hid (bb < w1.heap.size ∧ w.heap.size + 1 ≤ bb) := Lib.hid (by have := OB1.out.lt bb rfl; exact ⟨this.2, this.1⟩)
 clear AB
 go_loopw [4, 26] (fun v i wr => ∃ k t : Nat, k ≤ D ∧ t ≤ k ∧ i = .int .i64 k ∧ Hid (Below w1.heap.size w1 wr) ∧ Hid ((lostL m k).length = t) ∧ Hid (wr.ownsRow w1.heap.size 3 1 v t (iv (lostL m k)))) (fun _ i _ => D - (intOf i).toNat)
 case atStart => exact ⟨0, 0, by omega, by omega, rfl, Lib.hid (Below.refl _ _), Lib.hid rfl, Lib.hid (World.ownsRow_nil _ _ _ _)⟩
 case round =>
  obtain ⟨k, t, hk, ht, rfl, N, T, O⟩ := hrel
  by_cases hlt : k < D
  ·obtain ⟨l, hl⟩ := get_some (show k < m.length by omega)
   obtain ⟨Ai, ci, hu, h2, h3, _⟩ := HROW.out k l hlt hl
   have h1 : wr.cell? ⟨bb, k, none⟩ = some (.slice Ai l.length ci) := own_at (own_next N.out OB1.out) (by rw [List.getElem?_take, if_pos hlt]; exact hu)
   have hb : bb < wr.heap.size := Nat.lt_of_lt_of_le BBL.out.1 N.out.size
   have HL := Lib.hid hl
   clear hl hu
   by_cases h0 : l.length = 0
   ·have q : ((l.length : Int) == 0) = true := by rw [h0]; rfl
    have H0 := Lib.hid h0
    clear h0
    go_wp2_with (at_builtin; refine wpList_append_rd _ rfl (.tmp 34) (.tmp 36) _ rfl w1.heap.size 3 j0 _ 1 8 Try.underlying59 HJ.out.1 HJ.out.2.1 HJ.out.2.2.1 HJ.out.2.2.2 rfl (by omega) _ t _ rfl (O.out.alloc _) (some ⟨wr.heap.size, 0, none⟩) 1 1 [.int .i64 (k : Int)] rfl (rd_one (t := 3) (blk_new _ _)) (int_one _ _) (by simp only [maxLen]; omega) (by omega) (by have q := N.out.size; simp; omega) ?_; intro v1 w2 hown1 hg1 hat1; have O1 := Lib.hid hown1; have N2 : Hid (Below w1.heap.size w1 w2) := Lib.hid (gbel hg1 (Bal N.out _) (fun g hg => (O.out.lt g hg).1)); clear hown1 hg1 hat1)
    refine ⟨⟨k + 1, t + 1, by omega, by omega, by go_num, N2, Lib.hid ?_, ?_⟩, by simp [intOf]; omega⟩
    ·rw [lostL_succ HL.out, if_pos H0.out, List.length_append, T.out]; rfl
    ·rw [lostL_succ HL.out, if_pos H0.out, iv_append]; exact O1
   ·have q : ((l.length : Int) == 0) = false := by rw [beq_eq_false_iff_ne]; omega
    have H0 := Lib.hid h0
    clear h0
    go_wp2_with fail
    refine ⟨⟨k + 1, t, by omega, by omega, by go_num, N, Lib.hid ?_, ?_⟩, by simp [intOf]; omega⟩
    ·rw [lostL_succ HL.out, if_neg H0.out, T.out]
    ·rw [lostL_succ HL.out, if_neg H0.out]; exact O
  ·obtain rfl : D = k := by omega
   have GT : Hid ((goneL D m).length = t) := T
   have GI : Hid (wr.ownsRow w1.heap.size 3 1 u4 t (iv (goneL D m))) := O
   obtain ⟨Ag, cg, hug, hg1, hg2, _⟩ := own_form GI.out
   subst hug
   obtain ⟨w2, rfl⟩ : ∃ w2 : World, w2 = wr := ⟨_, rfl⟩
   clear O hlt hk
   go_wp2_with fail
   have ht8 : t ≤ 8 := by omega
   go_loopw [7, 8, 9] (fun s7 s8 i wr => ∃ (j : Nat) (us vs : List Value), j ≤ M ∧ i = .int .i64 j ∧ Hid (Below w2.heap.size w2 wr) ∧ Hid (OMx w2.heap.size wr s7 us (matM D m (choTo D m t j))) ∧ Hid (OMx w2.heap.size wr s8 vs (matR D m (choTo D m t j))) ∧ Hid (Cross us vs) ∧ Hid (s7.ownBlock = none ∨ s7.ownBlock ≠ s8.ownBlock)) (fun _ _ i _ => M - (intOf i).toNat)
   case atStart => exact ⟨0, [], [], by omega, rfl, Lib.hid (Below.refl _ _), Lib.hid (OMx.nil _ _), Lib.hid (OMx.nil _ _), Lib.hid (fun i j x y hx => by simp at hx), Lib.hid (.inl rfl)⟩
   case round =>
    obtain ⟨j, us, vs, hj, rfl, N3, OM1, OM2, CR, HA⟩ := hrel
    obtain ⟨A7, c7, h7, h71, h72, _⟩ := own_form OM1.out.top
    obtain ⟨A8, c8, h8, h81, h82, _⟩ := own_form OM2.out.top
    rw [matM_len] at h7 h71
    rw [matR_len] at h8 h81
    subst h7 h8
    have CL := choTo_le D m t j
    obtain ⟨r, hr⟩ : ∃ r, (choTo D m t j).length = r := ⟨_, rfl⟩
    have hrt : r ≤ t := by rw [← hr]; exact CL.1
    have HR := Lib.hid hr
    rw [hr] at h71 h81
    simp only [HR.out]
    rw [hr] at OM1 OM2 HA
    clear hr CL
    have SB3 := Lib.hid (blk_next (Bgo N.out N3.out) SB1.out)
    have s0 : wr.cell? ⟨w.heap.size, 0, none⟩ = some (.int .i64 D) := blk_cell SB3.out 0 _ rfl
    have s1 : wr.cell? ⟨w.heap.size, 1, none⟩ = some (.int .i64 M) := blk_cell SB3.out 1 _ rfl
    have s2 : wr.cell? ⟨w.heap.size, 2, none⟩ = some (.slice A m.length c) := blk_cell SB3.out 2 _ rfl
    by_cases hgo : j < M ∧ r < t
    ·obtain ⟨hjM, hrt2⟩ := hgo
     have DJ : D + j < m.length := by rw [HML.out]; omega
     obtain ⟨l, hl⟩ := get_some DJ
     have NN : Hid (Below w.heap.size w wr) := Lib.hid (Bgo (Bgo N1.out N.out) N3.out)
     obtain ⟨b, off, Aj, cj, rfl, hb, h1, h2, h3, h4⟩ := (HS.out.next NN.out).at_ hl
     have c1 : wr.cell? ⟨b, off + (D + j), none⟩ = some (.slice Aj l.length cj) := h1
     have HL := Lib.hid hl
     have HB4 := Lib.hid h4
     have dj1 : (0 : Int) ≤ (D : Int) + (j : Int) := by omega
     have dj2 : (D : Int) + (j : Int) < (m.length : Int) := by omega
     have dj3 : ((D : Int) + (j : Int)).toNat = D + j := by omega
     clear hl h4 h1
     by_cases h0 : l.length = 0
     ·have q : ((l.length : Int) == 0) = true := by rw [h0]; rfl
      have E : Hid (choTo D m t (j + 1) = choTo D m t j) := Lib.hid (by rw [choTo, getD_of HL.out, if_neg (fun h => h.2 h0)])
      clear h0
      go_wp2_with fail
      refine ⟨⟨j + 1, us, vs, by omega, by go_num, N3, ?_, ?_, CR, HA⟩, by simp [intOf]; omega⟩
      ·rw [E.out]; exact OM1
      ·rw [E.out]; exact OM2
     ·have q : ((l.length : Int) == 0) = false := by rw [beq_eq_false_iff_ne]; omega
      have E : Hid (choTo D m t (j + 1) = choTo D m t j ++ [j]) := Lib.hid (by rw [choTo, getD_of HL.out, HR.out, if_pos ⟨hrt2, h0⟩])
      have LQ : Hid (l.length = szL m) := Lib.hid (by rcases EACH.out l (List.mem_of_getElem? HL.out) with h | h; exact absurd h h0; exact h)
      have hlq : l.length ≤ 64 := by rw [LQ.out]; exact hq2
      obtain ⟨W0, rfl⟩ : ∃ W0 : World, W0 = wr := ⟨_, rfl⟩
      have hl0 : 0 < l.length := by omega
      clear h0
      go_wp2_with fail
      refine (clone_calls Aj cj B l _ (by omega) HB4.out).mono ?_
      rintro e w3 ⟨u, rfl, hu, hb3⟩
      have UF : ∃ gs cs, u = .slice (some ⟨gs, 0, none⟩) l.length cs := by
       rcases hu.2 with ⟨_, h⟩ | ⟨g, cap, cur, h, _⟩
       ·omega
       ·exact ⟨g, cap, h⟩
      obtain ⟨gs, cs, rfl⟩ := UF
      have GSB : Hid (W0.heap.size ≤ gs ∧ gs < w3.heap.size) := Lib.hid (hu.lt gs rfl)
      have hcs : l.length ≤ cs ∧ cs ≤ 9223372036854775807 := by
       obtain ⟨A', c', e, k1, k2, _⟩ := own_form hu
       simp only [Value.slice.injEq, true_and] at e; rw [e.2]; exact ⟨k1, k2⟩
      have U3 : Hid (w3.ownsRow W0.heap.size 5 1 (.slice (some ⟨gs, 0, none⟩) l.length cs) l.length (bv (synTo D m j 0))) := Lib.hid (by rw [synTo, getD_of HL.out]; exact hu)
      have N4 : Hid (Below W0.heap.size W0 w3) := Lib.hid hb3
      clear hu hb3 s0 s1 s2 c1
      go_wp2_with fail
      go_loopw [73] (fun i wr => ∃ k : Nat, k ≤ D ∧ i = .int .i64 k ∧ Hid (Below W0.heap.size W0 wr) ∧ Hid (wr.ownsRow W0.heap.size 5 1 (.slice (some ⟨gs, 0, none⟩) l.length cs) l.length (bv (synTo D m j k)))) (fun i _ => D - (intOf i).toNat)
      case atStart => exact ⟨0, by omega, rfl, N4, U3⟩
      case round =>
       clear N4 U3
       obtain ⟨k, hk, rfl, N4, U3⟩ := hrel
       have SL : Hid ((synTo D m j k).length = l.length) := Lib.hid (by rw [synTo_len, getD_of HL.out])
       by_cases hlt2 : k < D
       ·obtain ⟨x, hx⟩ := get_some (show k < m.length by omega)
        obtain ⟨Ax, cx, hux, hx2, hx3, hx4⟩ := HROW.out k x hlt2 hx
        have NB : Hid (Below w1.heap.size w1 wr) := Lib.hid (Bgo (Bgo N.out N3.out) N4.out)
        have e1 : wr.cell? ⟨bb, k, none⟩ = some (.slice Ax x.length cx) := own_at (own_next NB.out OB1.out) (by rw [List.getElem?_take, if_pos hlt2]; exact hux)
        have hbw : bb < wr.heap.size := Nat.lt_of_lt_of_le BBL.out.1 NB.out.size
        have s0 : wr.cell? ⟨w.heap.size, 0, none⟩ = some (.int .i64 D) := blk_cell (blk_next NB.out SB1.out) 0 _ rfl
        have xq : x.length ≤ l.length := by
         rcases EACH.out x (List.mem_of_getElem? hx) with h | h
         ·omega
         ·rw [h, LQ.out]; exact Nat.le_refl _
        have AC : Hid (Calls Try.prog 81 #[.slice (some ⟨gs, 0, none⟩) l.length cs, .slice Ax x.length cx, .int .u8 (fac D j k : Nat)] wr fun e w' => e = .returned (.tuple #[]) ∧ w'.ownsRow W0.heap.size 5 1 (.slice (some ⟨gs, 0, none⟩) l.length cs) l.length (bv (synTo D m j (k + 1))) ∧ wr.grownBy w' (some gs)) := Lib.hid (by
         have := add_calls gs cs W0.heap.size (synTo D m j k) Ax cx B x (fac D j k) wr (fac_lt (by omega) (by omega)) (synTo_byt HS.out.byt hD8 (by omega) DJ k (by omega)) (by rw [SL.out]; exact xq) (by rw [SL.out]; exact U3.out) hx2 hx3 (hx4.next (Bgo NN.out N4.out)) (hx4.ne_ (Nat.le_trans NN.out.size GSB.out.1))
         rw [SL.out] at this
         rw [synTo, getD_of hx]
         exact this)
        clear hx hux hx4
        go_wp2_with fail
        refine (factor_calls D j k _ (by omega) (by omega)).mono ?_
        rintro e w' ⟨rfl, rfl⟩
        go_wp2_with fail
        refine AC.out.mono ?_
        rintro e w4 ⟨rfl, ho4, hg4⟩
        have S4 := Lib.hid ho4
        have N5 : Hid (Below W0.heap.size W0 w4) := Lib.hid (gbel hg4 N4.out (fun k hk => by cases hk; exact GSB.out.1))
        clear ho4 hg4
        go_wp2_with fail
        exact ⟨⟨k + 1, by omega, by go_num, N5, S4⟩, by simp [intOf]; omega⟩
       ·obtain rfl : D = k := by omega
        have mk := fun W => make_row W t (by omega)
        have TG : Hid ((goneL D m).length = t) := GT
        obtain ⟨w5, rfl⟩ : ∃ w5 : World, w5 = wr := ⟨_, rfl⟩
        clear hlt2 hk
        go_wp2_with fail
        clear mk
        have S0 : Hid ((w5.alloc (.cells (madeCells #[.int .u8 0] t) 5)).ownsRow w5.heap.size 5 1 (.slice (some ⟨w5.heap.size, 0, none⟩) t t) t (bv (mixK (fun i _ => fac D j ((goneL D m).getD i 0)) (List.replicate t 0) 0))) := Lib.hid (by rw [mixK_zero]; exact made_own w5 t (by omega))
        go_loopw [92] (fun i wr => ∃ k : Nat, k ≤ t ∧ i = .int .i64 k ∧ Hid (Below w5.heap.size w5 wr) ∧ Hid (wr.ownsRow w5.heap.size 5 1 (.slice (some ⟨w5.heap.size, 0, none⟩) t t) t (bv (mixK (fun i _ => fac D j ((goneL D m).getD i 0)) (List.replicate t 0) k)))) (fun i _ => t - (intOf i).toNat)
        case atStart => exact ⟨0, by omega, rfl, Lib.hid (Bal (Below.refl _ _) _), S0⟩
        case round =>
         clear S0
         obtain ⟨k, hk, rfl, N6, U6⟩ := hrel
         have NB : Hid (Below w2.heap.size w2 wr) := Lib.hid (Bgo (Bgo N3.out N4.out) N6.out)
         by_cases hlt3 : k < t
         ·obtain ⟨x, hx⟩ := get_some (show k < (goneL D m).length by rw [TG.out]; exact hlt3)
          obtain ⟨xl, _, _⟩ := lostL_rank D hx
          obtain ⟨bg, rfl, e1, hbg, _⟩ := own_cell (own_next NB.out GI.out) (iv_get hx)
          have s0 : wr.cell? ⟨w.heap.size, 0, none⟩ = some (.int .i64 D) := blk_cell (blk_next (Bgo N.out NB.out) SB1.out) 0 _ rfl
          obtain ⟨z, hz⟩ := get_some (show k < (List.replicate t 0).length by simpa using hlt3)
          have zc := ob_cell U6.out (mixK_at hz)
          have zf : wr.frozen? ⟨w5.heap.size, k, none⟩ = false := U6.out.frozenAt k
          have HZ := Lib.hid hz
          have HX : Hid ((goneL D m).getD k 0 = x) := Lib.hid (by rw [List.getD_eq_getElem?_getD, hx]; rfl)
          have k1 : (0 : Int) ≤ (k : Int) := by omega
          have k2 : (k : Int) < (t : Int) := by omega
          clear hx hz
          go_wp2_with fail
          refine (factor_calls D j x _ (by omega) (by omega)).mono ?_
          rintro e w' ⟨rfl, rfl⟩
          go_wp2_with fail
          have st := U6.out.stored k (.int .u8 ((fac D j x : Nat) : Int))
          refine ⟨⟨k + 1, by omega, by go_num, Lib.hid ?_, Lib.hid ?_⟩, by simp [intOf]; omega⟩
          ·exact gbel st.2 N6.out (fun k hk => by cases hk; exact Nat.le_refl _)
          ·rw [mixK_succ HZ.out, ← bv_set, HX.out]
           exact st.1
         ·obtain rfl : t = k := by omega
          have U7 : Hid (OB w5.heap.size wr (.slice (some ⟨w5.heap.size, 0, none⟩) t t) ((goneL D m).map (fac D j))) := Lib.hid (by
           have := U6.out
           rw [rowF_mix TG.out] at this
           unfold OB
           rw [rowF_len, TG.out]; exact this)
          have SU : Hid (OB W0.heap.size wr (.slice (some ⟨gs, 0, none⟩) l.length cs) (syn D m j)) := Lib.hid (by
           have := own_next N6.out U3.out
           unfold OB
           rw [show (syn D m j).length = l.length from SL.out]; exact this)
          have NW : Hid (Below W0.heap.size W0 wr) := Lib.hid (Bgo N4.out N6.out)
          have T7 : Hid (wr.ownsRow w2.heap.size 26 1 (.slice A7 r c7) r us) := Lib.hid (by have := own_next NW.out OM1.out.top; rw [matM_len, HR.out] at this; exact this)
          have T8 : Hid (wr.ownsRow w2.heap.size 26 1 (.slice A8 r c8) r vs) := Lib.hid (by have := own_next NW.out OM2.out.top; rw [matR_len, HR.out] at this; exact this)
          have HW2 : Hid (w2.heap.size ≤ W0.heap.size ∧ W0.heap.size ≤ w5.heap.size ∧ w5.heap.size ≤ wr.heap.size) := Lib.hid ⟨N3.out.size, N4.out.size, N6.out.size⟩
          have GS5 : Hid (gs < w5.heap.size) := Lib.hid ((U3.out.lt gs rfl).2)
          clear U6 hlt3 hk
          go_wp2_with (first
           | (at_builtin; refine wpList_append_rd _ rfl (.tmp 106) (.tmp 108) _ rfl w2.heap.size 26 i0 _ 1 24 Try.underlying44 HI.out.1 HI.out.2.1 HI.out.2.2.1 HI.out.2.2.2 rfl (by omega) (.slice A7 r c7) r us rfl (T7.out.alloc _) (some ⟨wr.heap.size, 0, none⟩) 1 1 [.slice (some ⟨w5.heap.size, 0, none⟩) t t] rfl (rd_one (t := 26) (blk_new _ _)) (slice_one _ _ _) (by simp only [maxLen]; omega) (by omega) (by have q := HW2.out; simp; omega) ?_; intro v7 w7 ho7 hg7 ha7; obtain ⟨A7', c7', rfl, g71, g72, _⟩ := own_form ho7; have O7 := Lib.hid ho7; have G7 := Lib.hid hg7; have H7 := Lib.hid ha7; have T8' : Hid (w7.ownsRow w2.heap.size 26 1 (.slice A8 r c8) r vs) := Lib.hid ((T8.out.alloc _).kept hg7 (flip_ne HA.out)); clear ho7 hg7 ha7)
           | (at_builtin; refine wpList_append_rd _ rfl (.tmp 110) (.tmp 112) _ rfl w2.heap.size 26 i0 _ 1 24 Try.underlying44 HI.out.1 HI.out.2.1 HI.out.2.2.1 HI.out.2.2.2 rfl (by omega) (.slice A8 r c8) r vs rfl (T8'.out.alloc _) (some ⟨w7.heap.size, 0, none⟩) 1 1 [.slice (some ⟨gs, 0, none⟩) l.length cs] rfl (rd_one (t := 26) (blk_new _ _)) (slice_one _ _ _) (by simp only [maxLen]; omega) (by omega) (by have q := HW2.out; have q2 := G7.out.size; simp at q2; simp; omega) ?_; intro v8 w8 ho8 hg8 ha8; obtain ⟨A8', c8', rfl, g81, g82, _⟩ := own_form ho8; have O8 := Lib.hid ho8; have G8 := Lib.hid hg8; have H8 := Lib.hid ha8; clear ho8 hg8 ha8))
          have M7 := Lib.hid (OM1.out.next (Bal NW.out (.cells #[.slice (some ⟨w5.heap.size, 0, none⟩) t t] 26)))
          have M8 := Lib.hid (OM2.out.next (Bal NW.out (.cells #[.slice (some ⟨w5.heap.size, 0, none⟩) t t] 26)))
          have b1 : ∀ g, (Value.slice (some ⟨w5.heap.size, 0, none⟩) t t).ownBlock = some g → W0.heap.size ≤ g := fun g hg => by cases hg; exact HW2.out.2.1
          have b2 : ∀ g, (Value.slice (some ⟨gs, 0, none⟩) l.length cs).ownBlock = some g → W0.heap.size ≤ g := fun g hg => by cases hg; exact GSB.out.1
          have P7 : OMx w2.heap.size w7 (.slice A7' (r + 1) c7') (us ++ [.slice (some ⟨w5.heap.size, 0, none⟩) t t]) (matM D m (choTo D m t (j + 1))) := by
           rw [E.out, matM_snoc]
           exact OMx.push2 M7.out (own_mono (U7.out.alloc _) (by have := HW2.out; omega)) (fun z hz => by
            simp only [List.mem_map] at hz
            obtain ⟨x, hx, rfl⟩ := hz
            obtain ⟨i, hi, rfl⟩ := List.mem_iff_getElem.1 hx
            have := (lostL_rank D (List.getElem?_eq_getElem hi)).1
            exact fac_lt (by omega) (by omega)) (fun i x hx => old_new (OM1.out.old hx) b1) (fun i x hx => new_old (OM1.out.old hx) b1) (by rw [matM_len, HR.out]; exact O7.out) G7.out
          have P8 : OMx w2.heap.size w8 (.slice A8' (r + 1) c8') (vs ++ [.slice (some ⟨gs, 0, none⟩) l.length cs]) (matR D m (choTo D m t (j + 1))) := by
           rw [E.out, matR_snoc]
           have q1 := (M8.out.kept_other G7.out (T7.out.alloc _) (flip_ne HA.out)).next (Bal (Below.refl _ _) (.cells #[.slice (some ⟨gs, 0, none⟩) l.length cs] 26))
           have q2 : OB W0.heap.size w7 (.slice (some ⟨gs, 0, none⟩) l.length cs) (syn D m j) := (SU.out.alloc _).kept G7.out (own_own T7.out SU.out ne_sl_u8)
           exact OMx.push2 q1 (own_mono (q2.alloc _) HW2.out.1) (synTo_byt HS.out.byt hD8 (by omega) DJ D (Nat.le_refl _)) (fun i x hx => old_new (OM2.out.old hx) b2) (fun i x hx => new_old (OM2.out.old hx) b2) (by rw [matR_len, HR.out]; exact O8.out) G8.out
          have lt7 := P7.top.lt
          have HA2 : (Value.slice A7' (r + 1) c7').ownBlock = none ∨ (Value.slice A7' (r + 1) c7').ownBlock ≠ (Value.slice A8 r c8).ownBlock := by
           rcases H7.out with h | h
           ·have h' : (Value.slice A7' (r + 1) c7').ownBlock = (Value.slice A7 r c7).ownBlock := h
            rw [h']; exact HA.out
           ·have h' : (Value.slice A7' (r + 1) c7').ownBlock = some (wr.heap.size + 1) := by rw [h]; simp
            refine .inr (fun e => ?_)
            rw [h'] at e
            have := (T8.out.lt _ e.symm).2
            omega
          have P7' := (P7.next (Bal (Below.refl _ _) (.cells #[.slice (some ⟨gs, 0, none⟩) l.length cs] 26))).kept_other G8.out (T8'.out.alloc _) HA2
          refine ⟨⟨j + 1, us ++ [.slice (some ⟨w5.heap.size, 0, none⟩) t t], vs ++ [.slice (some ⟨gs, 0, none⟩) l.length cs], by omega, by go_num, Lib.hid ?_, Lib.hid P7', Lib.hid P8, Lib.hid ?_, Lib.hid ?_⟩, by simp [intOf]; omega⟩
          ·have z1 : Below w2.heap.size w2 w7 := gbel G7.out (Bal (Bgo N3.out NW.out) _) (fun g hg => (T7.out.lt g hg).1)
           exact gbel G8.out (Bal z1 _) (fun g hg => (T8'.out.lt g hg).1)
          ·refine CR.out.push (fun i x hx => ⟨old_new (OM1.out.old hx) b2, new_old (OM1.out.old hx) b2⟩) (fun i y hy => ⟨new_old (OM2.out.old hy) b1, old_new (OM2.out.old hy) b1⟩) ⟨.inr ?_, .inr ?_⟩
           ·have := GS5.out; simp [Value.ownBlock]; omega
           ·have := GS5.out; simp [Value.ownBlock]; omega
          ·rcases H8.out with h | h
           ·have h' : (Value.slice A8' (r + 1) c8').ownBlock = (Value.slice A8 r c8).ownBlock := h
            rw [h']; exact HA2
           ·have h' : (Value.slice A8' (r + 1) c8').ownBlock = some (w7.heap.size + 1) := by rw [h]; simp
            cases e : (Value.slice A7' (r + 1) c7').ownBlock with
            | none => exact .inl rfl
            | some g =>
             refine .inr (fun e' => ?_)
             rw [h'] at e'
             have := (lt7 g e).2
             injection e' with e'
             omega
    ·have CE2 : (choTo D m t M).length = t := by have := CE.out; rw [GT.out] at this; exact this
     have CF : choTo D m t j = choTo D m t M ∧ r = t := by
      by_cases hjM : j < M
      ·have hr0 : r = t := by omega
       have hh : (choTo D m t j).length = t := by rw [HR.out]; exact hr0
       have := choTo_full hh (M - j)
       rw [show j + (M - j) = M by omega] at this
       exact ⟨this.symm, hr0⟩
      ·have : j = M := by omega
       subst this
       exact ⟨rfl, by rw [← HR.out]; exact CE2⟩
     obtain ⟨CF1, CF2⟩ := CF
     subst CF2
     have CF := Lib.hid CF1
     have SR : Hid (solR D M m = (gjTo (matM D m (choTo D m r M)) (matR D m (choTo D m r M)) r).2) := Lib.hid (by unfold solR; rw [GT.out])
     rw [CF1] at OM1 OM2
     have ML : (matM D m (choTo D m r M)).length = r := by rw [matM_len, CE2]
     have RL : (matR D m (choTo D m r M)).length = r := by rw [matR_len, CE2]
     have MR : ∀ l ∈ matM D m (choTo D m r M), l.length = r := fun l hl => by rw [matM_rows D m _ l hl, GT.out]
     have RR : ∀ l ∈ matR D m (choTo D m r M), l.length = szL m := fun l hl => by
      simp only [matR, List.mem_map] at hl
      obtain ⟨x, hx, rfl⟩ := hl
      obtain ⟨x1, x2⟩ := (choTo_le D m r M).2.2 x hx
      unfold syn
      rw [synTo_len]
      obtain ⟨z, hz⟩ := get_some (show D + x < m.length by rw [HML.out]; omega)
      rw [getD_of hz] at x2 ⊢
      rcases EACH.out z (List.mem_of_getElem? hz) with h | h
      ·exact absurd h x2
      ·exact h
     have GRW := Lib.hid (gjTo_rows MR RR (by rw [ML, RL]) r (by rw [ML]; exact Nat.le_refl _))
     have GLN := Lib.hid (gjTo_len (matM D m (choTo D m r M)) (matR D m (choTo D m r M)) r)
     have T7 : wr.ownsRow w2.heap.size 26 1 (.slice A7 r c7) r us := by have := OM1.out.top; rw [ML] at this; exact this
     have T8 : wr.ownsRow w2.heap.size 26 1 (.slice A8 r c8) r vs := by have := OM2.out.top; rw [RL] at this; exact this
     have SC := Lib.hid (solve_calls A7 A8 c7 c8 w2.heap.size r (szL m) us vs (matM D m (choTo D m r M)) (matR D m (choTo D m r M)) wr ML RL hq1 (by omega) (by omega) MR RR T7 T8 (Cross.fam OM1.out OM2.out CR.out) N3.out.size)
     have TT8 := Lib.hid T8
     rw [RL] at GLN
     generalize (gjTo (matM D m (choTo D m r M)) (matR D m (choTo D m r M)) r).1 = G1 at *
     generalize (gjTo (matM D m (choTo D m r M)) (matR D m (choTo D m r M)) r).2 = G2 at *
     have ULR : Hid (us.length = r) := Lib.hid (by have := T7.1; omega)
     have G1L : Hid (G1.length = r) := Lib.hid (by rw [GLN.out.1, ML])
     have hjc : (j < M) ∨ (j = M) := by omega
     clear CF1 CE2 ML RL MR RR T7 T8 hgo
     have WK : Hid (∀ w3 : World, Fam w2.heap.size w3 (us ++ vs) (G1 ++ G2) → KU w2.heap.size wr w3 → Hid (Below w.heap.size w w3) ∧ Hid (w3.ownsRow (w.heap.size + 1) 26 1 (.slice (some ⟨bb, 0, none⟩) D cb) D (hdK D m vs hs0 0)) ∧ Hid (w3.ownsRow w1.heap.size 3 1 (.slice Ag r cg) r (iv (goneL D m))) ∧ Hid (w3.ownsRow w2.heap.size 26 1 (.slice A8 r c8) r vs) ∧ bb < w3.heap.size) := Lib.hid (fun w3 hf hk => by
      have B3 : Below w2.heap.size w2 w3 := N3.out.trans hk.bel
      have BB3 : Below w1.heap.size w1 w3 := Bgo N.out B3
      exact ⟨Lib.hid (Bgo N1.out BB3), Lib.hid (by rw [hdK_zero (by rw [HSL.out]; exact hDm)]; exact own_next BB3 OB1.out), Lib.hid (own_next B3 GI.out), Lib.hid (hk.own TT8.out ne_sl_u8), Nat.lt_of_lt_of_le BBL.out.1 BB3.size⟩)
     rcases hjc with hjM | hjM
     all_goals
      go_wp2_with fail
      refine SC.out.mono ?_
      rintro e w3 ⟨rfl, hf3, hk3⟩
      obtain ⟨NB, OHD, OGI, OV8, hbb3⟩ := WK.out w3 hf3 hk3
      have F3 := Lib.hid hf3
      clear hf3 hk3 s0 s1 s2
      go_wp2_with fail
      go_loopw [119] (fun i wr => ∃ k : Nat, k ≤ r ∧ i = .int .i64 k ∧ Hid (w3.grownBy wr (some bb)) ∧ Hid (wr.ownsRow (w.heap.size + 1) 26 1 (.slice (some ⟨bb, 0, none⟩) D cb) D (hdK D m vs hs0 k))) (fun i _ => r - (intOf i).toNat)
      case atStart => exact ⟨0, by omega, rfl, Lib.hid (World.grownBy.refl _ _), OHD⟩
      case round =>
       clear OHD
       obtain ⟨k, hk, rfl, G, OHD⟩ := hrel
       by_cases hlt : k < r
       ·obtain ⟨x, hx⟩ := get_some (show k < (goneL D m).length by rw [GT.out]; exact hlt)
        obtain ⟨xl, xl2, xl3⟩ := lostL_rank D hx
        obtain ⟨y, hy⟩ := get_some (show k < G2.length by rw [GLN.out.2]; exact hlt)
        have yq : y.length = szL m := GRW.out.2 y (List.mem_of_getElem? hy)
        obtain ⟨gy, cy, uy, _, gy2, cy1, cy2, _, _⟩ := F3.out.form (i := r + k) (l := y) (by rw [← G1L.out, get_right]; exact hy) (by omega)
        rw [← ULR.out, get_right] at uy
        obtain ⟨b8, rfl, e8, hb8, hb8'⟩ := own_cell OV8.out uy
        obtain ⟨bg, rfl, eg, hbg, hbg'⟩ := own_cell OGI.out (iv_get hx)
        have n8 : b8 ≠ bb := by have := BBL.out.1; have := N.out.size; omega
        have ng : bg ≠ bb := by have := BBL.out.1; omega
        have e8' : wr.cell? ⟨b8, k, none⟩ = some (.slice (some ⟨gy, 0, none⟩) y.length cy) := by rw [← e8]; exact G.out.cell_far _ hb8 (by simpa using n8)
        have eg' : wr.cell? ⟨bg, k, none⟩ = some (.int .i64 (x : Int)) := by rw [← eg]; exact G.out.cell_far _ hbg (by simpa using ng)
        obtain ⟨u0, hu0⟩ := get_some (show x < (hdK D m vs hs0 k).length by rw [hdK_len]; exact xl)
        have c9 : wr.cell? ⟨bb, x, none⟩ = some u0 := own_at OHD.out hu0
        have f9 : wr.frozen? ⟨bb, x, none⟩ = false := OHD.out.frozenAt x
        have HX := Lib.hid hx
        have UY := Lib.hid uy
        have x1 : (0 : Int) ≤ (x : Int) := by omega
        have x2 : (x : Int) < (D : Int) := by omega
        clear hx hy uy hu0 e8 eg xl2 xl3 yq
        go_wp2_with fail
        have st := OHD.out.stored x (.slice (some ⟨gy, 0, none⟩) y.length cy)
        refine ⟨⟨k + 1, by omega, by go_num, Lib.hid ?_, Lib.hid ?_⟩, by simp [intOf]; omega⟩
        ·exact G.out.trans st.2
        ·rw [hdK_succ HX.out UY.out]; exact st.1
       ·obtain rfl : r = k := by omega
        go_wp2_with fail
        go_ret
        have NW : Below w.heap.size w wr := NB.out.grown G.out NB.out.size (fun g hg => by cases hg; have := BBL.out.2; omega)
        refine ⟨_, rfl, ⟨_, cb, by rw [dataL_len]; rfl, by rw [dataL_len]; exact hb1, hb2, hdK D m vs hs0 r, by rw [hdK_len, dataL_len], (Hd.of_own OHD.out).mono (by omega), fun i u l hu hl => ?_⟩, NW⟩
        have hi : i < D := by have := get_lt hl; rw [dataL_len] at this; exact this
        rw [hdK_at hi] at hu
        rw [dataL_at hi] at hl
        injection hu with hu
        injection hl with hl
        obtain ⟨z, hz⟩ := get_some (show i < m.length by omega)
        rw [getD_of hz] at hu hl
        by_cases h0 : z.length = 0
        ·have hrk : (lostL m i).length < r := by
          have := lostL_lt (m := m) hi (by rw [getD_of hz]; exact h0)
          rw [show (lostL m D).length = r from GT.out] at this
          exact this
         rw [if_pos ⟨h0, hrk⟩] at hu
         rw [if_pos h0, SR.out] at hl
         obtain ⟨y, hy⟩ := get_some (show (lostL m i).length < G2.length by rw [GLN.out.2]; exact hrk)
         rw [getD_of hy] at hl
         have yq : y.length = szL m := GRW.out.2 y (List.mem_of_getElem? hy)
         obtain ⟨gy, cy, uy, gy1, gy2, cy1, cy2, oy, by'⟩ := F3.out.form (i := r + (lostL m i).length) (l := y) (by rw [← G1L.out, get_right]; exact hy) (by omega)
         rw [← ULR.out, get_right] at uy
         rw [List.getD_eq_getElem?_getD, uy] at hu
         have hu' : Value.slice (some ⟨gy, 0, none⟩) y.length cy = u := hu
         rw [← hu', ← hl]
         have ok := oy.kept G.out (.inr (by simp [Value.ownBlock]; have := BBL.out.1; have := N.out.size; omega))
         exact ⟨_, cy, rfl, cy1, cy2, (rba_own ok by').mono (by omega)⟩
        ·rw [if_neg (fun h => h0 h.1)] at hu
         rw [if_neg h0] at hl
         obtain ⟨Ai, ci, hui, k1, k2, k3⟩ := HROW.out i z hi hz
         rw [List.getD_eq_getElem?_getD, hui] at hu
         have hu' : Value.slice Ai z.length ci = u := hu
         rw [← hu', ← hl]
         exact ⟨Ai, ci, rfl, k1, k2, (k3.next NW).mono (by omega)⟩
end Go.Proofs.Ytapehckcmmompaa
namespace Go.Proofs.Ytapehckcmmompaa
open Go.ChangeShapes Go.WideShapes Go.ChangeAt Go.RowKit Gf
set_option linter.unusedVariables false
set_option maxRecDepth 100000
attribute [local go_sem ↓] Go.wp_at_zero Go.wp_at_succ
structure Okq (D M q : Nat) (m : List (List Nat)) : Prop where
 d1 : 1 ≤ D
 d8 : D ≤ 8
 m4 : M ≤ 4
 len : m.length = D + M
 q1 : 1 ≤ q
 q64 : q ≤ 64
 each : ∀ l ∈ m, l.length = 0 ∨ l.length = q
theorem Ok.q {D M : Nat} {m : List (List Nat)} (h : Ok D M m) : Okq D M (szL m) m := ⟨h.d1, h.d8, h.m4, h.len, h.s1, h.s64, h.each⟩
theorem Okq.size {D M q : Nat} {m : List (List Nat)} (h : Okq D M q m) (hl : lostN m ≤ M) : szL m = q := by
 have h0 : szL m ≠ 0 := fun e => by
  have := lost_all.2 e
  have := h.len
  have := h.d1
  omega
 obtain ⟨l, hl, e⟩ := szL_mem h0
 rcases h.each l hl with h1 | h1
 ·omega
 ·omega
theorem Okq.ok {D M q : Nat} {m : List (List Nat)} (h : Okq D M q m) (hl : lostN m ≤ M) : Ok D M m := by
 have e := h.size hl
 exact ⟨h.d1, h.d8, h.m4, h.len, by rw [e]; exact h.q1, by rw [e]; exact h.q64, fun l hl => by rw [e]; exact h.each l hl⟩
theorem solR_rows {D M : Nat} {m : List (List Nat)} (h : Ok D M m) (hl : lostN m ≤ M) : (solR D M m).length = (goneL D m).length ∧ ∀ l ∈ solR D M m, l.length = szL m := by
 have ce := cho_enough h.len hl
 have ML : (matM D m (choTo D m (goneL D m).length M)).length = (goneL D m).length := by rw [matM_len, ce]
 have RL : (matR D m (choTo D m (goneL D m).length M)).length = (goneL D m).length := by rw [matR_len, ce]
 have RR : ∀ l ∈ matR D m (choTo D m (goneL D m).length M), l.length = szL m := fun l hl => by
  simp only [matR, List.mem_map] at hl
  obtain ⟨x, hx, rfl⟩ := hl
  obtain ⟨x1, x2⟩ := (choTo_le D m (goneL D m).length M).2.2 x hx
  unfold syn
  rw [synTo_len]
  obtain ⟨z, hz⟩ := get_some (show D + x < m.length by rw [h.len]; omega)
  rw [getD_of hz] at x2 ⊢
  rcases h.each z (List.mem_of_getElem? hz) with h | h
  ·exact absurd h x2
  ·exact h
 have gl := gjTo_len (matM D m (choTo D m (goneL D m).length M)) (matR D m (choTo D m (goneL D m).length M)) (goneL D m).length
 have gr := gjTo_rows (matM_rows D m (choTo D m (goneL D m).length M)) RR (by rw [ML, RL]) (goneL D m).length (by rw [ML]; exact Nat.le_refl _)
 exact ⟨by unfold solR; rw [gl.2, RL], gr.2⟩
theorem dataL_rows {D M : Nat} {m : List (List Nat)} (h : Ok D M m) (hl : lostN m ≤ M) : ∀ l ∈ dataL D M m, l.length = szL m := fun l hl' => by
 simp only [dataL, List.mem_map, List.mem_range] at hl'
 obtain ⟨i, hi, rfl⟩ := hl'
 have s := solR_rows h hl
 split
 ·rename_i h0
  obtain ⟨y, hy⟩ := get_some (show (lostL m i).length < (solR D M m).length by rw [s.1]; exact lostL_lt hi h0)
  rw [getD_of hy]; exact s.2 y (List.mem_of_getElem? hy)
 ·rename_i h0
  obtain ⟨z, hz⟩ := get_some (show i < m.length by rw [h.len]; omega)
  rw [getD_of hz] at h0 ⊢
  rcases h.each z (List.mem_of_getElem? hz) with h | h
  ·exact absurd h h0
  ·exact h
theorem enc_len (d : List (List Nat)) (M : Nat) : (enc d M).length = d.length + M := by simp [enc]
theorem box3 {w : World} {b : Nat} {x y z : Value} {t : TypeId} (h : w.heap[b]? = some (.cells #[x, y, z] t)) : w.cell? ⟨b, 0, none⟩ = some x ∧ w.cell? ⟨b, 1, none⟩ = some y ∧ w.cell? ⟨b, 2, none⟩ = some z := ⟨blk_cell h 0 _ rfl, blk_cell h 1 _ rfl, blk_cell h 2 _ rfl⟩
theorem blk_drew {w : World} {b : Nat} {o : Obj} (h : w.heap[b]? = some o) : w.drew.heap[b]? = some o := h
theorem undrewB {a b : World} (h : Below a.drew.heap.size a.drew b) : Below a.heap.size a b := ⟨h.os, h.tape, h.output, h.size, h.block⟩
def rstE (D M : Nat) (m : List (List Nat)) : Int := if M < lostN m then 32 else if fitB m (enc (dataL D M m) M) then 0 else 30
def rstS (D M : Nat) (m : List (List Nat)) : St := if rstE D M m = 0 then ((D : Int), (M : Int), enc (dataL D M m) M) else (0, 0, [])
theorem rstS_err {D M : Nat} {m : List (List Nat)} {er : Int} (h : rstE D M m = er) (h0 : er ≠ 0) : rstS D M m = (0, 0, []) := by unfold rstS; rw [h, if_neg h0]
set_option maxRecDepth 100000 in
set_option maxHeartbeats 4000000 in
theorem restored_calls (A : Option Addr) (c B D M q : Nat) (m : List (List Nat)) (w : World) (hn : m.length ≤ c) (hc : c ≤ 9223372036854775807) (hs : RMA B w A m) (hok : Okq D M q m) :
  Calls Try.prog 66 #[Sv D M (.slice A m.length c)] w (SEPost w (rstS D M m) (rstE D M m)) := by
 have HS := Lib.hid hs
 have OKQ := Lib.hid hok
 clear hs hok
 go_enter Try.func66, Try.ntmps66
 go_upto_region 1 with fail
 have LC := Lib.hid (fun W (h : RMA B W A m) => lost_calls (D : Int) (M : Int) A c B m W hn hc h)
 have SB0 : Hid (((w.alloc (.cells #[.int .i64 D, .int .i64 M, .slice A m.length c] 54)).alloc (.cells #[.int .i64 0, .int .i64 0, .slice none 0 0] 54)).heap[w.heap.size]? = some (.cells #[.int .i64 D, .int .i64 M, .slice A m.length c] 54)) := Lib.hid (blk_alloc (blk_new w _) _)
 have X0 : Hid (((w.alloc (.cells #[.int .i64 D, .int .i64 M, .slice A m.length c] 54)).alloc (.cells #[.int .i64 0, .int .i64 0, .slice none 0 0] 54)).heap[w.heap.size + 1]? = some (.cells #[.int .i64 0, .int .i64 0, .slice none 0 0] 54)) := Lib.hid (blk_at _ (by simp))
 have N0 : Hid (Below w.heap.size w ((w.alloc (.cells #[.int .i64 D, .int .i64 M, .slice A m.length c] 54)).alloc (.cells #[.int .i64 0, .int .i64 0, .slice none 0 0] 54))) := Lib.hid (Bal (Bal (Below.refl _ _) _) _)
 generalize (w.alloc (.cells #[.int .i64 D, .int .i64 M, .slice A m.length c] 54)).alloc (.cells #[.int .i64 0, .int .i64 0, .slice none 0 0] 54) = W0 at *
 obtain ⟨z, hz⟩ : ∃ z, lostN m = z := ⟨_, rfl⟩
 rw [hz] at LC
 have HZ := Lib.hid hz
 clear hz
 have b0 : W0.cell? ⟨w.heap.size, 0, none⟩ = some (.int .i64 D) := blk_cell SB0.out 0 _ rfl
 have b1 : W0.cell? ⟨w.heap.size, 1, none⟩ = some (.int .i64 M) := blk_cell SB0.out 1 _ rfl
 have b2 : W0.cell? ⟨w.heap.size, 2, none⟩ = some (.slice A m.length c) := blk_cell SB0.out 2 _ rfl
 go_region_held3 (fun W => W.cell? ⟨w.heap.size, 0, none⟩ = some (.int .i64 D) ∧ W.cell? ⟨w.heap.size, 1, none⟩ = some (.int .i64 M) ∧ W.cell? ⟨w.heap.size, 2, none⟩ = some (.slice A m.length c)) (first | (exact ⟨blk_cell SB1.out 0 _ rfl, blk_cell SB1.out 1 _ rfl, blk_cell SB1.out 2 _ rfl⟩) | (exact ⟨blk_cell SB0.out 0 _ rfl, blk_cell SB0.out 1 _ rfl, blk_cell SB0.out 2 _ rfl⟩))
  ((go_at_call 75; refine (LC.out _ ?_).mono ?_; (first | exact HS.out.next N0.out | exact HS.out.next N0.out.drew); rintro e w1 ⟨rfl, hb1⟩; have N1 : Hid (Below w.heap.size w w1) := Lib.hid (by first | exact Bgo N0.out hb1 | exact Bgo N0.out.drew hb1); have SB1 : Hid (w1.heap[w.heap.size]? = some (.cells #[.int .i64 D, .int .i64 M, .slice A m.length c] 54)) := Lib.hid (by exact blk_next hb1 SB0.out); have X1 : Hid (w1.heap[w.heap.size + 1]? = some (.cells #[.int .i64 0, .int .i64 0, .slice none 0 0] 54)) := Lib.hid (by exact blk_next hb1 X0.out); clear hb1))
 clear b0 b1 b2 SB0 X0 N0
 have x0 : w1.cell? ⟨w.heap.size + 1, 0, none⟩ = some (.int .i64 0) := blk_cell X1.out 0 _ rfl
 have x1 : w1.cell? ⟨w.heap.size + 1, 1, none⟩ = some (.int .i64 0) := blk_cell X1.out 1 _ rfl
 have x2 : w1.cell? ⟨w.heap.size + 1, 2, none⟩ = some (.slice none 0 0) := blk_cell X1.out 2 _ rfl
 have f0 : w1.frozen? ⟨w.heap.size + 1, 0, none⟩ = false := blk_frozen X1.out 0
 have f1 : w1.frozen? ⟨w.heap.size + 1, 1, none⟩ = false := blk_frozen X1.out 1
 have f2 : w1.frozen? ⟨w.heap.size + 1, 2, none⟩ = false := blk_frozen X1.out 2
 by_cases hzM : M < z
 ·have FE : Hid (rstE D M m = 32) := Lib.hid (by unfold rstE; rw [HZ.out, if_pos hzM])
  go_wp2_with fail
  have Z := blk_set3 X1.out (.int .i64 0) (.int .i64 0) (.slice none 0 0)
  have e0 := blk_cell Z 0 _ rfl
  have e1 := blk_cell Z 1 _ rfl
  have e2 := blk_cell Z 2 _ rfl
  rw [rstS_err FE.out (by decide), FE.out]
  refine bodyPost_ret (v := .tuple #[Sv 0 0 (.slice none 0 0), .int .i64 32]) (by simp [results, Try.results66, go_sem, e0, e1, e2]) rfl (SEPost.none_ ?_)
  exact Bset3 N1.out (by omega) _ _ _
 ·have HL : Hid (lostN m ≤ M) := Lib.hid (by rw [HZ.out]; omega)
  have OK : Hid (Ok D M m) := Lib.hid (OKQ.out.ok HL.out)
  have FF : Hid (rstE D M m = if fitB m (enc (dataL D M m) M) then 0 else 30) := Lib.hid (by unfold rstE; rw [HZ.out, if_neg hzM])
  have DR := Lib.hid (dataL_rows OK.out HL.out)
  have DLN : Hid ((dataL D M m).length = D) := Lib.hid (dataL_len D M m)
  have DC := Lib.hid (fun W (h : RMA B W A m) => data_calls A c B D M m W hn hc h OK.out HL.out)
  have EC := Lib.hid (fun W A' c' (k1 : (dataL D M m).length ≤ c') (k2 : c' ≤ 9223372036854775807) (h : RMA 0 W A' (dataL D M m)) => encoded_calls A' c' 0 (dataL D M m) M (szL m) W k1 k2 h (by rw [DLN.out]; exact OK.out.d1) (by rw [DLN.out]; exact OK.out.d8) OK.out.m4 OK.out.s64 DR.out)
  unfold EncPost at EC
  simp only [DLN.out] at EC
  generalize hdl : dataL D M m = dl at *
  have HDL := Lib.hid hdl
  clear hdl
  clear x0 x1 x2 f0 f1 f2
  go_upto_region 3 with fail
  go_cut [4] (fun s4 wx => ∃ (rb : Nat) (v : Value), s4 = .pointer (some ⟨rb, 0, none⟩) ∧ w.heap.size + 1 < rb ∧ Hid (Below w.heap.size w wx) ∧ Hid (wx.heap[w.heap.size]? = some (.cells #[.int .i64 D, .int .i64 M, .slice A m.length c] 54)) ∧ Hid (wx.heap[w.heap.size + 1]? = some (.cells #[.int .i64 0, .int .i64 0, .slice none 0 0] 54)) ∧ Hid (wx.heap[rb]? = some (.cells #[.int .i64 D, .int .i64 M, v] 54)) ∧ Hid (OM w.heap.size wx v (enc dl M)))
  case first =>
   have b0 : w1.cell? ⟨w.heap.size, 0, none⟩ = some (.int .i64 D) := blk_cell SB1.out 0 _ rfl
   have b1 : w1.cell? ⟨w.heap.size, 1, none⟩ = some (.int .i64 M) := blk_cell SB1.out 1 _ rfl
   have b2 : w1.cell? ⟨w.heap.size, 2, none⟩ = some (.slice A m.length c) := blk_cell SB1.out 2 _ rfl
   have hz1 : w.heap.size + 1 < w1.heap.size := blk_lt X1.out
   have HZ1 := Lib.hid hz1
   go_region_held3 (fun W => W.cell? ⟨w.heap.size, 0, none⟩ = some (.int .i64 D) ∧ W.cell? ⟨w.heap.size, 1, none⟩ = some (.int .i64 M) ∧ W.cell? ⟨w.heap.size, 2, none⟩ = some (.slice A m.length c)) (first | (with_reducible exact box3 SB3.out) | (with_reducible exact box3 (blk_drew SB3.out)) | (with_reducible exact box3 (blk_alloc SB3.out _)) | (with_reducible exact box3 (blk_drew (blk_alloc SB3.out _))) | (with_reducible exact box3 SB2.out) | (with_reducible exact box3 (blk_drew SB2.out)) | (with_reducible exact box3 (blk_alloc SB2.out _)) | (with_reducible exact box3 (blk_drew (blk_alloc SB2.out _))) | (with_reducible exact box3 SB1.out) | (with_reducible exact box3 (blk_drew SB1.out)) | (with_reducible exact box3 (blk_alloc SB1.out _)) | (with_reducible exact box3 (blk_drew (blk_alloc SB1.out _))) | (with_reducible exact box3 (blk_set3_other SB3.out H31.out _ _ _)) | (with_reducible exact box3 (blk_set3_other SB3.out H32.out _ _ _)) | (with_reducible exact box3 (blk_drew (blk_set3_other SB3.out H31.out _ _ _))) | (with_reducible exact box3 (blk_drew (blk_set3_other SB3.out H32.out _ _ _))))
    (first
     | (go_at_call 84; refine (DC.out _ ?_).mono ?_; (refine HS.out.next ?_); (repeat (first | (with_reducible exact N1.out) | (with_reducible refine Below.drew ?_) | (with_reducible refine Bal ?_ _))); rintro e w2 ⟨v2, rfl, ⟨A2, c2, rfl, k1, k2, hr2⟩, hb2⟩; rw [DLN.out] at k1; rw [DLN.out]; have RD := Lib.hid hr2; have B2 : Hid (Below w1.heap.size w1 w2) := Lib.hid (by first | (with_reducible exact hb2) | (with_reducible exact undrewB hb2) | (with_reducible exact Bgo (Bal (Below.refl _ _) _) hb2) | (with_reducible exact Bgo (Bal (Below.refl _ _) _) (undrewB hb2))); have SB2 : Hid (w2.heap[w.heap.size]? = some (.cells #[.int .i64 D, .int .i64 M, .slice A m.length c] 54)) := Lib.hid (blk_next B2.out SB1.out); (first | (have R2 : Hid (w2.heap[w1.heap.size]? = some (.cells #[.int .i64 0, .int .i64 0, .slice none 0 0] 54)) := Lib.hid (by first | (with_reducible exact blk_next hb2 (blk_new w1 _)) | (with_reducible exact blk_next (undrewB hb2) (blk_new w1 _)))) | skip); clear hb2 hr2)
     | (go_at_call 64; refine (EC.out _ A2 c2 k1 k2 ?_).mono ?_; (refine RD.out.next ?_); (repeat (first | (with_reducible exact Below.refl _ _) | (with_reducible refine Below.drew ?_) | (with_reducible refine Bal ?_ _))); rintro e w3 ⟨v3, rfl, ⟨us3, ho3⟩, hb3⟩; obtain ⟨A3, c3, rfl, g31, g32, _⟩ := own_form ho3.top; have B3 : Hid (Below w2.heap.size w2 w3) := Lib.hid (by first | (with_reducible exact hb3) | (with_reducible exact undrewB hb3) | (with_reducible exact Bgo (Bal (Below.refl _ _) _) hb3) | (with_reducible exact Bgo (Bal (Below.refl _ _) _) (undrewB hb3))); have H31 : Hid (w1.heap.size ≠ w.heap.size) := Lib.hid (by have := HZ1.out; omega); have H32 : Hid (w2.heap.size ≠ w.heap.size) := Lib.hid (by have := HZ1.out; have := B2.out.size; omega); have SB3 : Hid (w3.heap[w.heap.size]? = some (.cells #[.int .i64 D, .int .i64 M, .slice A m.length c] 54)) := Lib.hid (blk_next B3.out SB2.out); have O3 : Hid (OMx w.heap.size w3 (.slice A3 (enc dl M).length c3) us3 (enc dl M)) := Lib.hid (ho3.mono (Nat.le_trans (Nat.le_trans N1.out.size B2.out.size) (by first | exact Nat.le_refl _ | exact (Bal (Below.refl _ _) _).size))); (first | (have R3 : Hid (w3.heap[w1.heap.size]? = some (.cells #[.int .i64 0, .int .i64 0, .slice none 0 0] 54)) := Lib.hid (by exact blk_next B3.out R2.out); have r0 := blk_cell R3.out 0 _ rfl; have r1 := blk_cell R3.out 1 _ rfl; have r2 := blk_cell R3.out 2 _ rfl; have q0 := blk_frozen R3.out 0; have q1 := blk_frozen R3.out 1; have q2 := blk_frozen R3.out 2) | (have R3 : Hid (w3.heap[w2.heap.size]? = some (.cells #[.int .i64 0, .int .i64 0, .slice none 0 0] 54)) := Lib.hid (by first | (with_reducible exact blk_next hb3 (blk_new w2 _)) | (with_reducible exact blk_next (undrewB hb3) (blk_new w2 _))); have r0 := blk_cell R3.out 0 _ rfl; have r1 := blk_cell R3.out 1 _ rfl; have r2 := blk_cell R3.out 2 _ rfl; have q0 := blk_frozen R3.out 0; have q1 := blk_frozen R3.out 1; have q2 := blk_frozen R3.out 2) | skip); clear hb3 ho3))
   ·go_wp2_with fail
    go_meet
    have X3 := blk_next B3.out (blk_next B2.out X1.out)
    have N3 := Bgo (Bgo N1.out B2.out) B3.out
    refine ⟨w3.heap.size, .slice A3 (enc dl M).length c3, rfl, by have := HZ1.out; have := B2.out.size; have := B3.out.size; omega, Lib.hid (Bal N3 _), Lib.hid (blk_alloc SB3.out _), Lib.hid (blk_alloc X3 _), Lib.hid (blk_new w3 _), Lib.hid ⟨us3, O3.out.next (Bal (Below.refl _ _) _)⟩⟩
   ·go_wp2_with fail
    go_meet
    have X3 := blk_next B3.out (blk_next B2.out X1.out)
    have N3 := Bgo (Bgo N1.out B2.out) B3.out
    have H33 : w2.heap.size ≠ w.heap.size + 1 := by have := HZ1.out; have := B2.out.size; omega
    have LW : w.heap.size ≤ w2.heap.size := by have := HZ1.out; have := B2.out.size; omega
    refine ⟨w2.heap.size, .slice A3 (enc dl M).length c3, rfl, by have := HZ1.out; have := B2.out.size; omega, Lib.hid (Bset3 N3 LW _ _ _), Lib.hid (blk_set3_other SB3.out H32.out _ _ _), Lib.hid (blk_set3_other X3 H33 _ _ _), Lib.hid (blk_set3 R3.out _ _ _), Lib.hid ⟨us3, O3.out.set3_ R3.out _ _ _⟩⟩
   ·go_wp2_with fail
    go_meet
    have X3 := blk_next B3.out (blk_next B2.out X1.out)
    have N3 := Bgo (Bgo N1.out B2.out) B3.out
    have H33 : w1.heap.size ≠ w.heap.size + 1 := by have := HZ1.out; omega
    have LW : w.heap.size ≤ w1.heap.size := by have := HZ1.out; omega
    refine ⟨w1.heap.size, .slice A3 (enc dl M).length c3, rfl, by have := HZ1.out; omega, Lib.hid (Bset3 N3 LW _ _ _), Lib.hid (blk_set3_other SB3.out H31.out _ _ _), Lib.hid (blk_set3_other X3 H33 _ _ _), Lib.hid (blk_set3 R3.out _ _ _), Lib.hid ⟨us3, O3.out.set3_ R3.out _ _ _⟩⟩
  case rest =>
   obtain ⟨rb, v, rfl, hrb, N4, SB4, X4, Y4, O4⟩ := hcut
   obtain ⟨us, ho⟩ := O4.out
   obtain ⟨Av, cv, rfl, hv1, hv2, _⟩ := own_form ho.top
   have EL : Hid ((enc dl M).length = m.length) := Lib.hid (by rw [enc_len, DLN.out, OK.out.len])
   rw [EL.out] at hv1 Y4 ho
   have OF := Lib.hid ho
   have RV := Lib.hid ho.rma
   have s2 : wc.cell? ⟨w.heap.size, 2, none⟩ = some (.slice A m.length c) := blk_cell SB4.out 2 _ rfl
   have y0 : wc.cell? ⟨rb, 0, none⟩ = some (.int .i64 D) := blk_cell Y4.out 0 _ rfl
   have y1 : wc.cell? ⟨rb, 1, none⟩ = some (.int .i64 M) := blk_cell Y4.out 1 _ rfl
   have y2 : wc.cell? ⟨rb, 2, none⟩ = some (.slice Av m.length cv) := blk_cell Y4.out 2 _ rfl
   have x0 : wc.cell? ⟨w.heap.size + 1, 0, none⟩ = some (.int .i64 0) := blk_cell X4.out 0 _ rfl
   have x1 : wc.cell? ⟨w.heap.size + 1, 1, none⟩ = some (.int .i64 0) := blk_cell X4.out 1 _ rfl
   have x2 : wc.cell? ⟨w.heap.size + 1, 2, none⟩ = some (.slice none 0 0) := blk_cell X4.out 2 _ rfl
   have f0 : wc.frozen? ⟨w.heap.size + 1, 0, none⟩ = false := blk_frozen X4.out 0
   have f1 : wc.frozen? ⟨w.heap.size + 1, 1, none⟩ = false := blk_frozen X4.out 1
   have f2 : wc.frozen? ⟨w.heap.size + 1, 2, none⟩ = false := blk_frozen X4.out 2
   clear ho O4
   go_wp2_with fail
   go_loop [21] (fun i => ∃ k : Nat, k ≤ m.length ∧ i = .int .i64 k ∧ Hid (∀ (j : Nat) (l l' : List Nat), j < k → m[j]? = some l → (enc dl M)[j]? = some l' → l.length = 0 ∨ l = l')) (fun i => m.length - (intOf i).toNat)
   case atStart => exact ⟨0, by omega, rfl, Lib.hid (fun j l l' h => by omega)⟩
   case round =>
    obtain ⟨k, hk, rfl, HN⟩ := hrel
    by_cases hlt : k < m.length
    ·obtain ⟨l, hl⟩ := get_some hlt
     obtain ⟨l', hl'⟩ := get_some (show k < (enc dl M).length by rw [EL.out]; exact hlt)
     obtain ⟨b, off, Ai, ci, rfl, hb, h1, h2, h3, h4⟩ := (HS.out.next N4.out).at_ hl
     obtain ⟨b', off', Ai', ci', rfl, hb', h1', h2', h3', h4'⟩ := RV.out.at_ hl'
     have EQ := Lib.hid (fun W (hW : Below wc.heap.size wc W) => equal_calls Ai Ai' ci ci' B w.heap.size l l' W h2 h3 (h4.next hW) h2' h3' (h4'.next hW))
     have HL := Lib.hid hl
     have HL' := Lib.hid hl'
     have k1 : (0 : Int) ≤ (k : Int) := by omega
     have k2 : (k : Int) < (m.length : Int) := by omega
     clear hl hl' h4 h4'
     have more : Hid ((l.length = 0 ∨ l = l') → ∀ (j : Nat) (x x' : List Nat), j < k + 1 → m[j]? = some x → (enc dl M)[j]? = some x' → x.length = 0 ∨ x = x') := Lib.hid (fun e j x x' hj hx hx' => by
      by_cases ej : j = k
      ·subst ej; rw [HL.out] at hx; rw [HL'.out] at hx'; cases hx; cases hx'; exact e
      ·exact HN.out j x x' (by omega) hx hx')
     by_cases h0 : l.length = 0
     ·have q1 : ((l.length : Int) != 0) = false := by rw [h0]; rfl
      have H0 := Lib.hid h0
      clear h0
      go_wp2_with fail
      exact ⟨⟨k + 1, by omega, by go_num, Lib.hid (more.out (.inl H0.out))⟩, by simp [intOf]; omega⟩
     ·have q1 : ((l.length : Int) != 0) = true := by rw [bne_iff_ne]; omega
      have H0 := Lib.hid h0
      clear h0
      by_cases e : l = l'
      ·have E := Lib.hid e
       rw [show decide (l = l') = true by simp [e]] at EQ
       clear e
       go_wp2_with fail
       refine (EQ.out _ (Below.refl _ _)).mono ?_
       rintro e w5 ⟨rfl, rfl⟩
       go_wp2_with fail
       exact ⟨⟨k + 1, by omega, by go_num, Lib.hid (more.out (.inr E.out))⟩, by simp [intOf]; omega⟩
      ·have E := Lib.hid e
       rw [show decide (l = l') = false by simp [e]] at EQ
       clear e
       have FE : Hid (rstE D M m = 30) := Lib.hid (by
        have h0 := H0.out
        rw [FF.out, fitB_false HL.out HL'.out (by omega) E.out]; rfl)
       go_wp2_with fail
       refine (EQ.out _ (Below.refl _ _)).mono ?_
       rintro e w5 ⟨rfl, rfl⟩
       go_wp2_with fail
       have Z := blk_set3 X4.out (.int .i64 0) (.int .i64 0) (.slice none 0 0)
       have e0 := blk_cell Z 0 _ rfl
       have e1 := blk_cell Z 1 _ rfl
       have e2 := blk_cell Z 2 _ rfl
       rw [rstS_err FE.out (by decide), FE.out]
       refine bodyPost_ret (v := .tuple #[Sv 0 0 (.slice none 0 0), .int .i64 30]) (by simp [results, Try.results66, go_sem, e0, e1, e2]) rfl (SEPost.none_ ?_)
       exact Bset3 N4.out (by omega) _ _ _
    ·obtain rfl : k = m.length := by omega
     have FE : Hid (rstE D M m = 0) := Lib.hid (by
      rw [FF.out, fitB_true EL.out.symm (fun j l l' h h' => HN.out j l l' (get_lt h) h h')]; rfl)
     go_wp2_with fail
     have Z := blk_set3 X4.out (.int .i64 D) (.int .i64 M) (.slice Av m.length cv)
     have e0 := blk_cell Z 0 _ rfl
     have e1 := blk_cell Z 1 _ rfl
     have e2 := blk_cell Z 2 _ rfl
     rw [show rstS D M m = ((D : Int), (M : Int), enc dl M) by unfold rstS; rw [FE.out, if_pos rfl, HDL.out], FE.out]
     refine bodyPost_ret (v := .tuple #[Sv (D : Int) (M : Int) (.slice Av m.length cv), .int .i64 0]) (by simp [results, Try.results66, go_sem, e0, e1, e2]) rfl ⟨_, rfl, ⟨us, ?_⟩, ?_⟩
     ·exact OF.out.set3_ X4.out _ _ _
     ·exact Bset3 N4.out (by omega) _ _ _
end Go.Proofs.Ytapehckcmmompaa
