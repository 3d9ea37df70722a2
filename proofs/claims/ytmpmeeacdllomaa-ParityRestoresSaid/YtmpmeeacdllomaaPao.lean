/- Contracts of layer 45: Encode. -/
import Derived.Test.YtmpmeeacdllomaaPap
namespace Go.Proofs.Ytmpmeeacdllomaa
open Go.ChangeShapes Go.WideShapes Go.ChangeAt Go.RowKit Gf
set_option linter.unusedVariables false
attribute [local go_sem ↓] Go.wp_at_zero Go.wp_at_succ

abbrev St := Int × Int × List (List Nat)
/- a stripe and an error are returned; the stripe's rows are new -/
def SEPost (w : World) (s : St) (er : Int) (e : Ending) (w' : World) : Prop := ∃ v, e = .returned (.tuple #[Sv s.1 s.2.1 v, .int .i64 er]) ∧ OM w.heap.size w' v s.2.2 ∧ Below w.heap.size w w'
theorem SEPost.none_ {w w' : World} {er : Int} (h : Below w.heap.size w w') : SEPost w (0, 0, []) er (.returned (.tuple #[Sv 0 0 (.slice none 0 0), .int .i64 er])) w' := ⟨_, rfl, ⟨[], OMx.nil _ _⟩, h⟩
def allE (d : List (List Nat)) : Bool := d.all fun l => decide (l.length = (d.getD 0 []).length)
def encE (d : List (List Nat)) (M : Int) : Int :=
  if 8 < d.length ∨ 4 < M then 4 else if d.length < 1 ∨ M < 0 then 8 else if (d.getD 0 []).length < 1 ∨ 64 < (d.getD 0 []).length then 8 else if allE d then 0 else 8
def encS (d : List (List Nat)) (M : Int) : St := if encE d M = 0 then ((d.length : Int), M, enc d M.toNat) else (0, 0, [])
theorem encS_err {d : List (List Nat)} {M : Int} {er : Int} (h : encE d M = er) (h0 : er ≠ 0) : encS d M = (0, 0, []) := by unfold encS; rw [h, if_neg h0]
theorem encE_many {d : List (List Nat)} {M : Int} (h : 8 < d.length ∨ 4 < M) : encE d M = 4 := by unfold encE; rw [if_pos h]
theorem encE_few {d : List (List Nat)} {M : Int} (h : ¬ (8 < d.length ∨ 4 < M)) (h2 : d.length < 1 ∨ M < 0) : encE d M = 8 := by unfold encE; rw [if_neg h, if_pos h2]
theorem encE_size {d : List (List Nat)} {M : Int} (h : ¬ (8 < d.length ∨ 4 < M)) (h2 : ¬ (d.length < 1 ∨ M < 0)) (h3 : (d.getD 0 []).length < 1 ∨ 64 < (d.getD 0 []).length) : encE d M = 8 := by unfold encE; rw [if_neg h, if_neg h2, if_pos h3]
theorem encE_each {d : List (List Nat)} {M : Int} (h : ¬ (8 < d.length ∨ 4 < M)) (h2 : ¬ (d.length < 1 ∨ M < 0)) (h3 : ¬ ((d.getD 0 []).length < 1 ∨ 64 < (d.getD 0 []).length)) : encE d M = if allE d then 0 else 8 := by unfold encE; rw [if_neg h, if_neg h2, if_neg h3]
theorem allE_false {d : List (List Nat)} {k : Nat} {l : List Nat} (hk : d[k]? = some l) (h : l.length ≠ (d.getD 0 []).length) : allE d = false := by
  unfold allE
  rw [List.all_eq_false]
  exact ⟨l, List.mem_of_getElem? hk, by simpa using h⟩
theorem allE_true {d : List (List Nat)} (h : ∀ (j : Nat) (l : List Nat), d[j]? = some l → l.length = (d.getD 0 []).length) : allE d = true := by
  unfold allE
  rw [List.all_eq_true]
  intro l hl
  obtain ⟨j, hj, rfl⟩ := List.mem_iff_getElem.1 hl
  simpa using h j _ (List.getElem?_eq_getElem hj)
/- what Encode asks of its blocks -/
structure OkD (d : List (List Nat)) (n : Nat) : Prop where
  d1 : 1 ≤ d.length
  d8 : d.length ≤ 8
  n1 : 1 ≤ n
  n64 : n ≤ 64
  each : ∀ l ∈ d, l.length = n
theorem encE_ok {d : List (List Nat)} {M : Int} (h : encE d M = 0) : OkD d (d.getD 0 []).length ∧ 0 ≤ M ∧ M ≤ 4 := by
  by_cases h1 : 8 < d.length ∨ 4 < M
  · rw [encE_many h1] at h; cases h
  by_cases h2 : d.length < 1 ∨ M < 0
  · rw [encE_few h1 h2] at h; cases h
  by_cases h3 : (d.getD 0 []).length < 1 ∨ 64 < (d.getD 0 []).length
  · rw [encE_size h1 h2 h3] at h; cases h
  rw [encE_each h1 h2 h3] at h
  cases h4 : allE d
  · rw [h4] at h; cases h
  · unfold allE at h4
    rw [List.all_eq_true] at h4
    exact ⟨⟨by omega, by omega, by omega, by omega, fun l hl => by simpa using h4 l hl⟩, by omega, by omega⟩
theorem ok_encE {d : List (List Nat)} {n : Nat} {M : Int} (h : OkD d n) (h0 : 0 ≤ M) (h4 : M ≤ 4) : encE d M = 0 := by
  have d1 := h.d1
  have d8 := h.d8
  obtain ⟨s0, hs0⟩ := get_some (show 0 < d.length by omega)
  have e0 : (d.getD 0 []).length = n := by rw [getD_of hs0]; exact h.each s0 (List.mem_of_getElem? hs0)
  have n1 := h.n1
  have n64 := h.n64
  rw [encE_each (by omega) (by omega) (by omega), allE_true (fun j l hl => by rw [e0]; exact h.each l (List.mem_of_getElem? hl))]; rfl
set_option maxHeartbeats 2000000 in
theorem encode_calls (A : Option Addr) (c B : Nat) (d : List (List Nat)) (M : Int) (w : World) (hn : d.length ≤ c) (hc : c ≤ 9223372036854775807) (hs : RMA B w A d) :
    Calls Try.prog 24 #[.slice A d.length c, .int .i64 M] w (SEPost w (encS d M) (encE d M)) := by
  by_cases c1 : 8 < d.length ∨ 4 < M
  · have F := Lib.hid (encE_many c1)
    rw [encS_err F.out (by decide), F.out]
    have c1' : 8 < d.length ∨ (d.length ≤ 8 ∧ 4 < M) := by omega
    clear hs c1
    rcases c1' with h | ⟨h, h'⟩
    all_goals
      go_enter Try.func24, Try.ntmps24
      go_wp2_with fail
      refine bodyPost_ret (v := .tuple #[Sv 0 0 (.slice none 0 0), .int .i64 4]) (by simp [results, Try.results24, go_sem]) rfl (SEPost.none_ ?_)
      repeat (first | exact Below.refl _ _ | refine Bal ?_ _ | refine Bset1 ?_ (by simp) _ _)
  by_cases c2 : d.length < 1 ∨ M < 0
  · have F := Lib.hid (encE_few c1 c2)
    rw [encS_err F.out (by decide), F.out]
    have c2' : d.length < 1 ∨ (1 ≤ d.length ∧ M < 0) := by omega
    have c3 : d.length ≤ 8 := by omega
    have c4 : M ≤ 4 := by omega
    clear hs c1 c2
    rcases c2' with h | ⟨h, h'⟩
    all_goals
      go_enter Try.func24, Try.ntmps24
      go_wp2_with fail
      refine bodyPost_ret (v := .tuple #[Sv 0 0 (.slice none 0 0), .int .i64 8]) (by simp [results, Try.results24, go_sem]) rfl (SEPost.none_ ?_)
      repeat (first | exact Below.refl _ _ | refine Bal ?_ _ | refine Bset1 ?_ (by simp) _ _)
  obtain ⟨s0, hs0⟩ := get_some (show 0 < d.length by omega)
  have E0 : Hid (d.getD 0 [] = s0) := Lib.hid (getD_of hs0)
  obtain ⟨b, off, Ai, ci, rfl, hb, h1, h2, h3, h4⟩ := hs.at_ hs0
  have k0 : w.cell? ⟨b, off, none⟩ = some (.slice Ai s0.length ci) := by simpa using h1
  have c3 : d.length ≤ 8 := by omega
  have c4 : M ≤ 4 := by omega
  have c5 : 1 ≤ d.length := by omega
  have c6 : 0 ≤ M := by omega
  by_cases c7 : s0.length < 1 ∨ 64 < s0.length
  · have F := Lib.hid (encE_size c1 c2 (by rw [E0.out]; exact c7))
    rw [encS_err F.out (by decide), F.out]
    have c7' : s0.length < 1 ∨ (1 ≤ s0.length ∧ 64 < s0.length) := by omega
    clear hs c1 c2 c7 hs0 h1 h4
    rcases c7' with h | ⟨h, h'⟩
    all_goals
      go_enter Try.func24, Try.ntmps24
      go_wp2_with fail
      refine bodyPost_ret (v := .tuple #[Sv 0 0 (.slice none 0 0), .int .i64 8]) (by simp [results, Try.results24, go_sem]) rfl (SEPost.none_ ?_)
      repeat (first | exact Below.refl _ _ | refine Bal ?_ _ | refine Bset1 ?_ (by simp) _ _)
  have F := Lib.hid (encE_each c1 c2 (by rw [E0.out]; exact c7))
  have c8 : 1 ≤ s0.length := by omega
  have c9 : s0.length ≤ 64 := by omega
  obtain ⟨M', rfl⟩ := Int.eq_ofNat_of_zero_le c6
  have HS := Lib.hid hs
  clear hs c1 c2 c7 h1 h4
  go_enter Try.func24, Try.ntmps24
  go_wp2_with fail
  go_loop [40] (fun i => ∃ k : Nat, k ≤ d.length ∧ i = .int .i64 k ∧ Hid (∀ (j : Nat) (l' : List Nat), j < k → d[j]? = some l' → l'.length = s0.length)) (fun i => d.length - (intOf i).toNat)
  case atStart => exact ⟨0, by omega, rfl, Lib.hid (fun j l' h => by omega)⟩
  case round =>
    obtain ⟨k, hk, rfl, HN⟩ := hrel
    by_cases hlt : k < d.length
    · obtain ⟨l, hl⟩ := get_some hlt
      obtain ⟨b', off', Aj, cj, e', _, g1, g2, g3, _⟩ := HS.out.at_ hl
      injection e' with e'
      injection e' with e1 e2
      subst e1 e2
      have HL := Lib.hid hl
      clear hl
      by_cases h9 : l.length = s0.length
      · have q2 : ((l.length : Int) != (s0.length : Int)) = false := by rw [h9]; simp
        have H9 := Lib.hid h9
        clear h9
        go_wp2_with fail
        refine ⟨⟨k + 1, by omega, by go_num, Lib.hid ?_⟩, by simp [intOf]; omega⟩
        intro j l' hj hl'
        by_cases e : j = k
        · subst e; rw [HL.out] at hl'; cases hl'; exact H9.out
        · exact HN.out j l' (by omega) hl'
      · have q2 : ((l.length : Int) != (s0.length : Int)) = true := by rw [bne_iff_ne]; omega
        have H9 := Lib.hid h9
        clear h9
        go_wp2_with fail
        have FF := F.out
        rw [allE_false HL.out (by rw [E0.out]; exact H9.out)] at FF
        rw [encS_err FF (by decide), FF]
        refine bodyPost_ret (v := .tuple #[Sv 0 0 (.slice none 0 0), .int .i64 8]) (by simp [results, Try.results24, go_sem]) rfl (SEPost.none_ ?_)
        repeat (first | exact Below.refl _ _ | refine Bal ?_ _ | refine Bset1 ?_ (by simp) _ _)
    · obtain rfl : k = d.length := by omega
      have EA : Hid (∀ l ∈ d, l.length = s0.length) := Lib.hid (fun l hl => by
        obtain ⟨j, hj, rfl⟩ := List.mem_iff_getElem.1 hl
        exact HN.out j _ hj (List.getElem?_eq_getElem hj))
      have FF : Hid (encE d (M' : Int) = 0) := Lib.hid (by
        have := F.out
        rw [allE_true (fun j l hl => by rw [E0.out]; exact HN.out j l (get_lt hl) hl)] at this
        exact this)
      have FS : Hid (encS d (M' : Int) = ((d.length : Int), (M' : Int), enc d M')) := Lib.hid (by unfold encS; rw [FF.out, if_pos rfl, Int.toNat_natCast])
      have X : Hid ((w.alloc (.cells #[.int .i64 0, .int .i64 0, .slice none 0 0] 31)).heap[w.heap.size]? = some (.cells #[.int .i64 0, .int .i64 0, .slice none 0 0] 31)) := Lib.hid (blk_new w _)
      clear F
      go_wp2_with fail
      refine (encoded_calls _ c B d M' s0.length _ hn hc (HS.out.next (Bal (Below.refl _ _) _)) (by omega) c3 (by omega) c9 EA.out).mono ?_
      rintro e w1 ⟨v, rfl, ⟨us, ho⟩, hb1⟩
      obtain ⟨Av, cv, rfl, hv1, hv2, _⟩ := own_form ho.top
      have X1 := Lib.hid (blk_next hb1 X.out)
      have N1 := Lib.hid (Bgo (Bal (Below.refl w.heap.size w) _) hb1)
      have O1 := Lib.hid (ho.mono (B' := w.heap.size) (by simp))
      have x0 : w1.cell? ⟨w.heap.size, 0, none⟩ = some (.int .i64 0) := blk_cell X1.out 0 _ rfl
      have x1 : w1.cell? ⟨w.heap.size, 1, none⟩ = some (.int .i64 0) := blk_cell X1.out 1 _ rfl
      have x2 : w1.cell? ⟨w.heap.size, 2, none⟩ = some (.slice none 0 0) := blk_cell X1.out 2 _ rfl
      have f0 : w1.frozen? ⟨w.heap.size, 0, none⟩ = false := blk_frozen X1.out 0
      have f1 : w1.frozen? ⟨w.heap.size, 1, none⟩ = false := blk_frozen X1.out 1
      have f2 : w1.frozen? ⟨w.heap.size, 2, none⟩ = false := blk_frozen X1.out 2
      clear hb1 ho
      go_wp2_with fail
      have Z := blk_set3 X1.out (.int .i64 (d.length : Int)) (.int .i64 (M' : Int)) (.slice Av (enc d M').length cv)
      have e0 := blk_cell Z 0 _ rfl
      have e1 := blk_cell Z 1 _ rfl
      have e2 := blk_cell Z 2 _ rfl
      rw [FS.out, FF.out]
      refine bodyPost_ret (v := .tuple #[Sv (d.length : Int) (M' : Int) (.slice Av (enc d M').length cv), .int .i64 0]) (by simp [results, Try.results24, go_sem, e0, e1, e2]) rfl ⟨_, rfl, ⟨us, ?_⟩, ?_⟩
      · exact O1.out.set3_ X1.out _ _ _
      · exact Bset3 N1.out (Nat.le_refl _) _ _ _
end Go.Proofs.Ytmpmeeacdllomaa
