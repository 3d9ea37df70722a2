/- For every input the law PlanFewer returns true and leaves its arguments as they were. -/
import Derived.Test.YthmfjlphmamegaaRows
import Derived.Test.YthmfjlphmamegaaPlF
import Derived.Deep.DeepCutAuto
import Derived.WalkKit
import Derived.ProofKit
import Derived.OpenShut
import Derived.ShutString
import Derived.ChangeOld
import Derived.Below
import Derived.Lib.SmallJoins
namespace Go.Proofs.Ythmfjlphmamegaa.planFewer
open Go.ChangeShapes Go.WideShapes Go.ChangeAt Go.RowKit Go.Joins
open Go.ChangeMaps (open_string shut_string)
set_option linter.unusedVariables false

theorem own : ownKnob Try.prog.godebug = none := by kernel_rfl
theorem laidOut : laidOutB Try.prog = true := by kernel_rfl
theorem only_set {a w : World} {row : Option Nat} (h : a.grownBy w row) {p : Addr} (hp : row = some p.block) (u : Value) : a.grownBy (w.setCell p u) row :=
  ⟨h.os, h.tape, h.output, by simpa [World.setCell] using h.size, fun i hi hne => (Below.heap_setCell w p u i (by rintro rfl; exact hne hp.symm)).trans (h.block i hi hne)⟩
theorem own_far {v v' : Value} {a b c d : Nat} (h : ∀ q, v.ownBlock = some q → a ≤ q ∧ q < b) (h' : ∀ q, v'.ownBlock = some q → c ≤ q ∧ q < d) (hbc : b ≤ c) : v.ownBlock = none ∨ v.ownBlock ≠ v'.ownBlock := by
  cases hv : v.ownBlock with
  | none => exact .inl rfl
  | some q =>
    refine .inr (fun hh => ?_)
    have h1 := h q hv
    have h2 := h' q hh.symm
    omega
theorem gblk_ty {W w1 : World} {base b : Nat} {e t : TypeId} {size n : Nat} {v : Value} {xs : List Value} {cs : Array Value} (hg : W.grownBy w1 v.ownBlock) (ho : W.ownsRow base e size v n xs) (hb : W.heap[b]? = some (.cells cs t)) (hne : e ≠ t) : w1.heap[b]? = some (.cells cs t) :=
  gblk hg hb (fun h => own_ne ho hb hne h.symm)
theorem Rd.take {w : World} {a : Option Addr} {l : List Slt} (h : SlotsIn w a l) (t : Nat) (ht : t ≤ l.length) : Rd w 4 a t (slc (l.take t)) := by
  have := (h.take t).rd
  rwa [List.length_take, Nat.min_eq_left ht] at this
theorem Rd.drop {w : World} {b off : Nat} {l : List Slt} (h : SlotsIn w (some ⟨b, off, none⟩) l) (t : Nat) : Rd w 4 (some ⟨b, off + t * 4, none⟩) (l.length - t) (slc (l.drop t)) := by
  have hh : SlotsIn w (some ⟨b, off + t * 4, none⟩) (l.drop t) := by
    intro i hi
    have hi' : t + i < l.length := by simp at hi; omega
    obtain ⟨b', off', e, hl, hs⟩ := h (t + i) hi'
    injection e with e
    injection e with e1 e2
    subst e1 e2
    refine ⟨b, off + t * 4, rfl, hl, ?_⟩
    obtain ⟨c0, c1, c2, c3⟩ := hs
    rw [List.getElem_drop]
    have eq : off + (t + i) * 4 = off + t * 4 + i * 4 := by omega
    rw [eq] at c0 c1 c2 c3
    exact ⟨c0, c1, c2, c3⟩
  have := hh.rd
  rwa [List.length_drop] at this
theorem near_places (l : List Slt) (rule station rest : Int) : ∀ x ∈ nearL l rule station rest, -1 ≤ x.2.1 ∧ x.2.1 ≤ l.length ∧ -1 ≤ x.2.2 ∧ x.2.2 ≤ l.length := by
  intro x hx
  unfold nearL nearTo at hx
  obtain ⟨i, hi, hx⟩ := List.mem_flatMap.1 hx
  unfold rowTo at hx
  obtain ⟨j, hj, rfl⟩ := List.mem_map.1 hx
  have h1 : i < l.length := by simpa using hi
  have h2 : j < l.length := by simpa using (List.mem_filter.1 hj).1
  simp only
  omega
theorem find_bd (l : List Slt) (nm : ByteArray) : -1 ≤ findI l nm ∧ findI l nm ≤ l.length := by
  rcases findI_is l nm with e | ⟨k, hk, e⟩ <;> omega
theorem broken_places (l : List Slt) (r : Rul) (rule : Int) : ∀ x ∈ brokenL l r rule, -1 ≤ x.2.1 ∧ x.2.1 ≤ l.length ∧ -1 ≤ x.2.2 ∧ x.2.2 ≤ l.length := by
  intro x hx
  have fa := find_bd l r.a
  have fb := find_bd l r.b
  unfold brokenL at hx
  split at hx
  · split at hx <;> simp at hx; rw [hx]; simp only; omega
  split at hx
  · split at hx <;> simp at hx; rw [hx]; simp only; omega
  split at hx
  · split at hx <;> simp at hx; rw [hx]; simp only; omega
  split at hx
  · exact near_places _ _ _ _ x hx
  split at hx
  · unfold holdTo at hx
    obtain ⟨j, hj, rfl⟩ := List.mem_map.1 hx
    have h2 : j < l.length := by simpa using (List.mem_filter.1 hj).1
    simp only
    omega
  · simp at hx
theorem all_places (l : List Slt) (rs : List Rul) (h20 : l.length ≤ 20) : ∀ x ∈ allL l rs, -1 ≤ x.2.1 ∧ x.2.1 ≤ 20 ∧ -1 ≤ x.2.2 ∧ x.2.2 ≤ 20 := by
  have key : ∀ k, k ≤ rs.length → ∀ x ∈ allTo l rs k, -1 ≤ x.2.1 ∧ x.2.1 ≤ 20 ∧ -1 ≤ x.2.2 ∧ x.2.2 ≤ 20 := by
    intro k
    induction k with
    | zero => intro _ x hx; have := near_places l (-1) (-1) 0 x hx; omega
    | succ k ih =>
      intro hk x hx
      rw [allTo_succ (by omega)] at hx
      rcases List.mem_append.1 hx with hx | hx
      · exact ih (by omega) x hx
      · have := broken_places l _ _ x hx; omega
  exact key rs.length (Nat.le_refl _)
theorem Rd.zero (w : World) (A : Option Addr) : Rd w 4 A 0 [] := ⟨rfl, fun h => absurd h (by omega)⟩
attribute [local go_sem ↓] Go.wp_at_zero Go.wp_at_succ
set_option maxHeartbeats 16000000 in
set_option maxRecDepth 100000 in
theorem walk (a : Option Addr) (cap : Nat) (l : List Slt) (a' : Option Addr) (cap' : Nat) (rs : List Rul) (w : World) (hn : l.length ≤ cap) (hcap : cap ≤ 9223372036854775807) (hs : SlotsIn w a l)
    (hn' : rs.length ≤ cap') (hcap' : cap' ≤ 9223372036854775807) (hr : RulesIn w a' rs) (at0 : Int) :
    Calls Try.prog 6 #[Pv a l.length cap a' rs.length cap', .int .i64 at0] w fun e w' => e = .returned (.bool true) ∧ Below w.heap.size w w' := by
  have HS := Lib.hid hs
  have HR := Lib.hid hr
  clear hs hr
  have K1 := Lib.hid (fun (W : World) (hW : Below w.heap.size w W) => great_calls a cap l a' cap' rs W hn hcap (HS.out.next hW) hn' hcap' (HR.out.next hW))
  have K2 := Lib.hid (fun (W : World) (hW : Below w.heap.size w W) => refCheck_calls a cap l a' cap' rs W hn hcap (HS.out.next hW) hn' hcap' (HR.out.next hW))
  have K4 := Lib.hid (fun (W : World) (hW : Below w.heap.size w W) => breachesX_calls a cap l a' cap' rs W hn hcap (HS.out.next hW) hn' hcap' (HR.out.next hW))
  go_enter Try.func6, Try.ntmps6
  go_wp2_with fail
  refine (alive_calls _).mono ?_
  rintro e w0 ⟨rfl, hb⟩
  have P0 : Hid (w0.heap[w.heap.size]? = some (.cells #[.slice a l.length cap, .slice a' rs.length cap'] 25)) := Lib.hid (blk_next hb (blk_new w _))
  have N0 : Hid (Below w.heap.size w w0) := Lib.hid (Bgo (Bal (Below.refl _ _) _) hb)
  clear hb
  have p0 : w0.cell? ⟨w.heap.size, 0, none⟩ = some (.slice a l.length cap) := blk_cell P0.out 0 _ rfl
  have p1 : w0.cell? ⟨w.heap.size, 1, none⟩ = some (.slice a' rs.length cap') := blk_cell P0.out 1 _ rfl
  have xl := blk_lt P0.out
  go_wp2_with fail
  clear p0 p1 xl
  refine (K1.out _ N0.out).mono ?_
  rintro e w1 ⟨g, rfl, hg, hb⟩
  have P1 : Hid (w1.heap[w.heap.size]? = some (.cells #[.slice a l.length cap, .slice a' rs.length cap'] 25)) := Lib.hid (blk_next hb P0.out)
  have N1 : Hid (Below w.heap.size w w1) := Lib.hid (Bgo N0.out hb)
  clear hb P0 N0 K1
  have p0 : w1.cell? ⟨w.heap.size, 0, none⟩ = some (.slice a l.length cap) := blk_cell P1.out 0 _ rfl
  have p1 : w1.cell? ⟨w.heap.size, 1, none⟩ = some (.slice a' rs.length cap') := blk_cell P1.out 1 _ rfl
  have xl := blk_lt P1.out
  cases g
  case true =>
    go_wp2_with fail
    go_ret
    exact ⟨rfl, N1.out⟩
  obtain ⟨h30, h30'⟩ := hg rfl
  clear hg
  go_wp2_with fail
  clear p0 p1 xl
  refine (K2.out _ N1.out).mono ?_
  rintro e w2 ⟨rfl, hb⟩
  have P2 : Hid (w2.heap[w.heap.size]? = some (.cells #[.slice a l.length cap, .slice a' rs.length cap'] 25)) := Lib.hid (blk_next hb P1.out)
  have N2 : Hid (Below w.heap.size w w2) := Lib.hid (Bgo N1.out hb)
  clear hb P1 N1 K2
  have p0 : w2.cell? ⟨w.heap.size, 0, none⟩ = some (.slice a l.length cap) := blk_cell P2.out 0 _ rfl
  have p1 : w2.cell? ⟨w.heap.size, 1, none⟩ = some (.slice a' rs.length cap') := blk_cell P2.out 1 _ rfl
  have xl := blk_lt P2.out
  by_cases hE : checkE l rs = 0
  case neg =>
    have hne : (checkE l rs != 0) = true := by simpa using hE
    go_wp2_with fail
    go_ret
    exact ⟨rfl, N2.out⟩
  have ok := okp_of hE
  have OK := Lib.hid ok
  have h20 := ok.ls
  have h20' := ok.rl
  rw [hE]
  have HE := Lib.hid hE
  have FB : Hid (brL l rs = allL l rs) := Lib.hid (by unfold brL; rw [if_pos hE])
  rw [hE, FB.out] at K4
  clear hE ok FB
  by_cases hb1 : at0 < 0
  · go_wp2_with fail
    go_ret
    exact ⟨rfl, N2.out⟩
  by_cases hb2 : (l.length : Int) ≤ at0
  · go_wp2_with fail
    go_ret
    exact ⟨rfl, N2.out⟩
  obtain ⟨t, rfl⟩ : ∃ t : Nat, at0 = (t : Int) := ⟨at0.toNat, by omega⟩
  have ht : t < l.length := by omega
  obtain ⟨b, off, ea, _, _⟩ := HS.out t ht
  subst ea
  clear hb1 hb2
  obtain ⟨i0, hi, hz0, hz1, hz2⟩ := info_parts infoSl
  have HI := Lib.hid (And.intro hi (And.intro hz0 (And.intro hz1 hz2)))
  clear hi hz0 hz1 hz2
  have FQ : Hid (brL (l.eraseIdx t) rs = left t (allL l rs) ∧ checkE (l.eraseIdx t) rs = 0) := Lib.hid (by
    have h := okp_zero (er_ok OK.out t ht)
    refine ⟨?_, h⟩
    unfold brL; rw [if_pos h, all_left OK.out.nd rs t ht])
  have FRL : Hid (∀ x ∈ allL l rs, -1 ≤ x.2.1 ∧ x.2.1 ≤ 20 ∧ -1 ≤ x.2.2 ∧ x.2.2 ≤ 20) := Lib.hid (all_places l rs h20)
  have FLN : Hid ((allL l rs).length ≤ 9000) := Lib.hid (by have := allTo_len l rs rs.length h20; unfold allL; omega)
  have RT : Hid (∀ W : World, Below w.heap.size w W → Rd W 4 (some ⟨b, off, none⟩) t (slc (l.take t))) := Lib.hid (fun W hW => Rd.take (HS.out.next hW) t (by omega))
  have G1 : Hid (0 + t ≤ maxLen) := Lib.hid (by unfold maxLen; omega)
  have G2 : Hid ((0 + t) * 40 ≤ 140737488355328) := Lib.hid (by omega)
  have G3 : Hid (t + (l.length - (t + 1)) ≤ maxLen) := Lib.hid (by unfold maxLen; omega)
  have G4 : Hid ((t + (l.length - (t + 1))) * 40 ≤ 140737488355328) := Lib.hid (by omega)
  have HQ1 : Hid (t + (l.length - (t + 1)) = l.length - 1) := Lib.hid (by omega)
  have HQ2 : Hid (slc (l.take t) ++ slc (l.drop (t + 1)) = slc (l.eraseIdx t)) := Lib.hid (by rw [← slc_append, List.eraseIdx_eq_take_drop_succ])
  have tm0 : (0 : Int) ≤ (t : Int) := by omega
  have tm1 : (t : Int) ≤ (cap : Int) := by omega
  have tm2 : (t : Int) + 1 ≤ (l.length : Int) := by omega
  have tm3 : (0 : Int) ≤ (t : Int) + 1 := by omega
  have tm4 : (l.length : Int) ≤ (cap : Int) := by omega
  have hw1 : IntKind.i64.wrap ((t : Int) + 1) = (t : Int) + 1 := IntWalk.i64_in _ (by omega)
  generalize allL l rs = L at *
  have lt2 := blk_lt P2.out
  go_wp2_with fail
  clear p0 p1 xl
  go_cut [6] (fun s6 wc => ∃ (bx : Nat) (A : Option Addr) (c : Nat), s6 = .pointer (some ⟨bx, 0, none⟩) ∧ Hid (wc.heap[bx]? = some (.cells #[.slice A (l.length - 1) c, .slice a' rs.length cap'] 25)) ∧ Hid (OwnsS wc w2.heap.size A (l.length - 1) c (l.eraseIdx t)) ∧ Hid (wc.heap[w.heap.size]? = some (.cells #[.slice (some ⟨b, off, none⟩) l.length cap, .slice a' rs.length cap'] 25)) ∧ Hid (Below w.heap.size w wc))
  case first =>
    by_cases hct : cap = t + 1
    · have HL0 : Hid (l.length = t + 1) := Lib.hid (by omega)
      have hct2 : (cap = t + 1) = True := eq_true hct
      clear hct
      have RD : Hid (∀ W : World, Below w.heap.size w W → Rd W 4 (some ⟨b, off, none⟩) (l.length - (t + 1)) (slc (l.drop (t + 1)))) := Lib.hid (fun W hW => by
        rw [HL0.out, Nat.sub_self, List.drop_of_length_le (by have := HL0.out; omega)]
        exact Rd.zero W _)
      go_region_held3 (fun W => W.cell? ⟨w.heap.size, 0, none⟩ = some (.slice (some ⟨b, off, none⟩) l.length cap) ∧ W.cell? ⟨w.heap.size, 1, none⟩ = some (.slice a' rs.length cap')) (first | (exact ⟨blk_cell (blk_set_other (blk_set_other X0.out (by omega) 0 _) (by omega) 1 _) 0 _ rfl, blk_cell (blk_set_other (blk_set_other X0.out (by omega) 0 _) (by omega) 1 _) 1 _ rfl⟩) | (exact ⟨blk_cell (blk_alloc X0.out _) 0 _ rfl, blk_cell (blk_alloc X0.out _) 1 _ rfl⟩) | (exact ⟨blk_cell X0.out 0 _ rfl, blk_cell X0.out 1 _ rfl⟩) | (exact ⟨blk_cell (blk_alloc Y0.out _) 0 _ rfl, blk_cell (blk_alloc Y0.out _) 1 _ rfl⟩) | (exact ⟨blk_cell Y0.out 0 _ rfl, blk_cell Y0.out 1 _ rfl⟩) | (exact ⟨blk_cell (blk_alloc (blk_alloc P2.out _) _) 0 _ rfl, blk_cell (blk_alloc (blk_alloc P2.out _) _) 1 _ rfl⟩) | (exact ⟨blk_cell (blk_alloc P2.out _) 0 _ rfl, blk_cell (blk_alloc P2.out _) 1 _ rfl⟩) | (exact ⟨blk_cell P2.out 0 _ rfl, blk_cell P2.out 1 _ rfl⟩) | go_keep) (first | (refine step_append_rd _ (by rfl) _ _ 22 (by rfl) w2.heap.size 47 i0 zS 4 40 Try.underlying22 HI.out.1 HI.out.2.1 HI.out.2.2.1 HI.out.2.2.2 rfl (by decide) _ t (slc (l.take t)) (by rfl) ?_ (some ⟨b, off, none⟩) (l.length - (t + 1)) (cap - (t + 1)) (slc (l.drop (t + 1))) (by rfl) ?_ (slc_one _) G3.out G4.out ?_ ?_; (first | exact O1.out | exact O1.out.alloc _); (first | exact RD.out _ (by repeat (first | exact B1.out | exact N2.out | refine Below.drew ?_ | refine Bal ?_ _))); (first | omega | (simp; omega) | simp); intro v2 w4 hown2 hgrow2 hat2; rw [HQ1.out, HQ2.out] at hown2; obtain ⟨A2, cp2, rfl, g2, f2, rd2⟩ := Rd.of_own hown2; have O2 := Lib.hid hown2; have X0 : Hid (w4.heap[w.heap.size]? = some (.cells #[.slice (some ⟨b, off, none⟩) l.length cap, .slice a' rs.length cap'] 25)) := Lib.hid (gblk_ty hgrow2 (by first | exact O1.out | exact O1.out.alloc _) (by first | exact Y0.out | exact blk_alloc Y0.out _) (by decide)); have B2 : Hid (Below w.heap.size w w4) := Lib.hid (own_below2 (by first | exact O1.out | exact O1.out.alloc _) (by repeat (first | exact B1.out | exact N2.out | refine Below.drew ?_ | refine Bal ?_ _)) (by omega) hgrow2); (first | (have BX2 := Lib.hid (gblk_ty hgrow2 (by first | exact O1.out | exact O1.out.alloc _) (by exact BX.out) (by decide)); have s0 := blk_cell BX2.out 0 (.slice none 0 0) rfl; have s1 := blk_cell BX2.out 1 (.slice none 0 0) rfl; have q0 := blk_frozen BX2.out 0; have q1 := blk_frozen BX2.out 1) | (have BX2 := Lib.hid (gblk_ty (b := w3.heap.size) (cs := #[.slice none 0 0, .slice none 0 0]) (t := 25) hgrow2 (by first | exact O1.out | exact O1.out.alloc _) (by exact blk_new _ _) (by decide)); have s0 := blk_cell BX2.out 0 (.slice none 0 0) rfl; have s1 := blk_cell BX2.out 1 (.slice none 0 0) rfl; have q0 := blk_frozen BX2.out 0; have q1 := blk_frozen BX2.out 1) | skip); clear hown2 hgrow2 hat2 rd2) | (refine step_append_rd _ (by rfl) _ _ 22 (by rfl) w2.heap.size 47 i0 zS 4 40 Try.underlying22 HI.out.1 HI.out.2.1 HI.out.2.2.1 HI.out.2.2.2 rfl (by decide) _ 0 [] (by rfl) (own0 ?_ ?_) (some ⟨b, off, none⟩) t cap (slc (l.take t)) (by rfl) (RT.out _ ?_) (slc_one _) G1.out G2.out ?_ ?_; (first | exact blk_new _ _ | exact blk_alloc (blk_new _ _) _ | exact blk_at _ (by simp)); (first | omega | (simp; omega) | simp); (repeat (first | exact B1.out | exact N2.out | refine Below.drew ?_ | refine Bal ?_ _)); (first | omega | (simp; omega) | simp); intro v1 w3 hown1 hgrow1 hat1; simp only [Nat.zero_add, List.nil_append] at hown1; obtain ⟨A1, cp1, rfl, g1, f1, rd1⟩ := Rd.of_own hown1; have sz3 : w2.heap.size ≤ w3.heap.size := (by have := hgrow1.size; simp at this; omega); have O1 := Lib.hid hown1; have Y0 : Hid (w3.heap[w.heap.size]? = some (.cells #[.slice (some ⟨b, off, none⟩) l.length cap, .slice a' rs.length cap'] 25)) := Lib.hid (gblk hgrow1 (by first | exact blk_alloc P2.out _ | exact blk_alloc (blk_alloc P2.out _) _) (by simp [Value.ownBlock]; omega)); have B1 : Hid (Below w.heap.size w w3) := Lib.hid (gbel hgrow1 (by repeat (first | exact N2.out | refine Below.drew ?_ | refine Bal ?_ _)) (by simp [Value.ownBlock]; omega)); (first | (have BX := Lib.hid (gblk (b := w2.heap.size) (o := .cells #[.slice none 0 0, .slice none 0 0] 25) hgrow1 (by exact blk_alloc (blk_new _ _) _) (by simp [Value.ownBlock]))) | (have BX := Lib.hid (gblk (b := w2.heap.size + 1) (o := .cells #[.slice none 0 0, .slice none 0 0] 25) hgrow1 (by exact blk_at _ (by simp)) (by simp [Value.ownBlock]))) | skip); clear hown1 hgrow1 hat1 rd1))
      all_goals
        go_wp2_with fail
        go_meet
        first
          | exact ⟨_, A2, cp2, rfl, Lib.hid (blk_set (blk_set BX2.out 0 _) 1 _), Lib.hid (own_set_ne (own_set_ne O2.out (own_ne O2.out BX2.out (by decide)) _ _) (own_ne O2.out BX2.out (by decide)) _ _), Lib.hid (blk_set_other (blk_set_other X0.out (by omega) _ _) (by omega) _ _), Lib.hid (Bset1 (Bset1 B2.out (by omega) _ _) (by omega) _ _)⟩
          | exact ⟨_, A2, cp2, rfl, Lib.hid (blk_new w4 _), Lib.hid (O2.out.alloc _), Lib.hid (blk_alloc X0.out _), Lib.hid (Bal B2.out _)⟩
    · have RD : Hid (∀ W : World, Below w.heap.size w W → Rd W 4 (some ⟨b, off + (t + 1) * 4, none⟩) (l.length - (t + 1)) (slc (l.drop (t + 1)))) := Lib.hid (fun W hW => Rd.drop (HS.out.next hW) (t + 1))
      go_region_held3 (fun W => W.cell? ⟨w.heap.size, 0, none⟩ = some (.slice (some ⟨b, off, none⟩) l.length cap) ∧ W.cell? ⟨w.heap.size, 1, none⟩ = some (.slice a' rs.length cap')) (first | (exact ⟨blk_cell (blk_set_other (blk_set_other X0.out (by omega) 0 _) (by omega) 1 _) 0 _ rfl, blk_cell (blk_set_other (blk_set_other X0.out (by omega) 0 _) (by omega) 1 _) 1 _ rfl⟩) | (exact ⟨blk_cell (blk_alloc X0.out _) 0 _ rfl, blk_cell (blk_alloc X0.out _) 1 _ rfl⟩) | (exact ⟨blk_cell X0.out 0 _ rfl, blk_cell X0.out 1 _ rfl⟩) | (exact ⟨blk_cell (blk_alloc Y0.out _) 0 _ rfl, blk_cell (blk_alloc Y0.out _) 1 _ rfl⟩) | (exact ⟨blk_cell Y0.out 0 _ rfl, blk_cell Y0.out 1 _ rfl⟩) | (exact ⟨blk_cell (blk_alloc (blk_alloc P2.out _) _) 0 _ rfl, blk_cell (blk_alloc (blk_alloc P2.out _) _) 1 _ rfl⟩) | (exact ⟨blk_cell (blk_alloc P2.out _) 0 _ rfl, blk_cell (blk_alloc P2.out _) 1 _ rfl⟩) | (exact ⟨blk_cell P2.out 0 _ rfl, blk_cell P2.out 1 _ rfl⟩) | go_keep) (first | (refine step_append_rd _ (by rfl) _ _ 22 (by rfl) w2.heap.size 47 i0 zS 4 40 Try.underlying22 HI.out.1 HI.out.2.1 HI.out.2.2.1 HI.out.2.2.2 rfl (by decide) _ t (slc (l.take t)) (by rfl) ?_ (some ⟨b, off + (t + 1) * 4, none⟩) (l.length - (t + 1)) (cap - (t + 1)) (slc (l.drop (t + 1))) (by rfl) ?_ (slc_one _) G3.out G4.out ?_ ?_; (first | exact O1.out | exact O1.out.alloc _); (first | exact RD.out _ (by repeat (first | exact B1.out | exact N2.out | refine Below.drew ?_ | refine Bal ?_ _))); (first | omega | (simp; omega) | simp); intro v2 w4 hown2 hgrow2 hat2; rw [HQ1.out, HQ2.out] at hown2; obtain ⟨A2, cp2, rfl, g2, f2, rd2⟩ := Rd.of_own hown2; have O2 := Lib.hid hown2; have X0 : Hid (w4.heap[w.heap.size]? = some (.cells #[.slice (some ⟨b, off, none⟩) l.length cap, .slice a' rs.length cap'] 25)) := Lib.hid (gblk_ty hgrow2 (by first | exact O1.out | exact O1.out.alloc _) (by first | exact Y0.out | exact blk_alloc Y0.out _) (by decide)); have B2 : Hid (Below w.heap.size w w4) := Lib.hid (own_below2 (by first | exact O1.out | exact O1.out.alloc _) (by repeat (first | exact B1.out | exact N2.out | refine Below.drew ?_ | refine Bal ?_ _)) (by omega) hgrow2); (first | (have BX2 := Lib.hid (gblk_ty hgrow2 (by first | exact O1.out | exact O1.out.alloc _) (by exact BX.out) (by decide)); have s0 := blk_cell BX2.out 0 (.slice none 0 0) rfl; have s1 := blk_cell BX2.out 1 (.slice none 0 0) rfl; have q0 := blk_frozen BX2.out 0; have q1 := blk_frozen BX2.out 1) | (have BX2 := Lib.hid (gblk_ty (b := w3.heap.size) (cs := #[.slice none 0 0, .slice none 0 0]) (t := 25) hgrow2 (by first | exact O1.out | exact O1.out.alloc _) (by exact blk_new _ _) (by decide)); have s0 := blk_cell BX2.out 0 (.slice none 0 0) rfl; have s1 := blk_cell BX2.out 1 (.slice none 0 0) rfl; have q0 := blk_frozen BX2.out 0; have q1 := blk_frozen BX2.out 1) | skip); clear hown2 hgrow2 hat2 rd2) | (refine step_append_rd _ (by rfl) _ _ 22 (by rfl) w2.heap.size 47 i0 zS 4 40 Try.underlying22 HI.out.1 HI.out.2.1 HI.out.2.2.1 HI.out.2.2.2 rfl (by decide) _ 0 [] (by rfl) (own0 ?_ ?_) (some ⟨b, off, none⟩) t cap (slc (l.take t)) (by rfl) (RT.out _ ?_) (slc_one _) G1.out G2.out ?_ ?_; (first | exact blk_new _ _ | exact blk_alloc (blk_new _ _) _ | exact blk_at _ (by simp)); (first | omega | (simp; omega) | simp); (repeat (first | exact B1.out | exact N2.out | refine Below.drew ?_ | refine Bal ?_ _)); (first | omega | (simp; omega) | simp); intro v1 w3 hown1 hgrow1 hat1; simp only [Nat.zero_add, List.nil_append] at hown1; obtain ⟨A1, cp1, rfl, g1, f1, rd1⟩ := Rd.of_own hown1; have sz3 : w2.heap.size ≤ w3.heap.size := (by have := hgrow1.size; simp at this; omega); have O1 := Lib.hid hown1; have Y0 : Hid (w3.heap[w.heap.size]? = some (.cells #[.slice (some ⟨b, off, none⟩) l.length cap, .slice a' rs.length cap'] 25)) := Lib.hid (gblk hgrow1 (by first | exact blk_alloc P2.out _ | exact blk_alloc (blk_alloc P2.out _) _) (by simp [Value.ownBlock]; omega)); have B1 : Hid (Below w.heap.size w w3) := Lib.hid (gbel hgrow1 (by repeat (first | exact N2.out | refine Below.drew ?_ | refine Bal ?_ _)) (by simp [Value.ownBlock]; omega)); (first | (have BX := Lib.hid (gblk (b := w2.heap.size) (o := .cells #[.slice none 0 0, .slice none 0 0] 25) hgrow1 (by exact blk_alloc (blk_new _ _) _) (by simp [Value.ownBlock]))) | (have BX := Lib.hid (gblk (b := w2.heap.size + 1) (o := .cells #[.slice none 0 0, .slice none 0 0] 25) hgrow1 (by exact blk_at _ (by simp)) (by simp [Value.ownBlock]))) | skip); clear hown1 hgrow1 hat1 rd1))
      all_goals
        go_wp2_with fail
        go_meet
        first
          | exact ⟨_, A2, cp2, rfl, Lib.hid (blk_set (blk_set BX2.out 0 _) 1 _), Lib.hid (own_set_ne (own_set_ne O2.out (own_ne O2.out BX2.out (by decide)) _ _) (own_ne O2.out BX2.out (by decide)) _ _), Lib.hid (blk_set_other (blk_set_other X0.out (by omega) _ _) (by omega) _ _), Lib.hid (Bset1 (Bset1 B2.out (by omega) _ _) (by omega) _ _)⟩
          | exact ⟨_, A2, cp2, rfl, Lib.hid (blk_new w4 _), Lib.hid (O2.out.alloc _), Lib.hid (blk_alloc X0.out _), Lib.hid (Bal B2.out _)⟩
  case rest =>
    obtain ⟨bx, A, c, rfl, Q3, S3, P3, N3⟩ := hcut
    have p0 : wc.cell? ⟨w.heap.size, 0, none⟩ = some (.slice (some ⟨b, off, none⟩) l.length cap) := blk_cell P3.out 0 _ rfl
    have p1 : wc.cell? ⟨w.heap.size, 1, none⟩ = some (.slice a' rs.length cap') := blk_cell P3.out 1 _ rfl
    go_wp2_with fail
    clear p0 p1
    refine (K4.out _ N3.out).mono ?_
    rintro e w5 ⟨v5, rfl, o5, hb⟩
    obtain ⟨A5, c5, rfl, g5, f5, _⟩ := Rd.of_own o5
    have B5 := Lib.hid o5
    have Q5 := Lib.hid (blk_next hb Q3.out)
    have S5 := Lib.hid (own_next hb S3.out)
    have R5 := Lib.hid ((HR.out.next N3.out).next hb)
    have N5 : Hid (Below w.heap.size w w5) := Lib.hid (Bgo N3.out hb)
    clear hb o5 Q3 S3 P3 N3
    have p0 : w5.cell? ⟨bx, 0, none⟩ = some (.slice A (l.length - 1) c) := blk_cell Q5.out 0 _ rfl
    have p1 : w5.cell? ⟨bx, 1, none⟩ = some (.slice a' rs.length cap') := blk_cell Q5.out 1 _ rfl
    go_wp2_with fail
    clear p0 p1
    have CQ : Hid (Calls Try.prog 11 #[Pv A (l.length - 1) c a' rs.length cap'] w5 (BrPost w5 (left t L) 0)) := Lib.hid (by
      have hl : (l.eraseIdx t).length = l.length - 1 := List.length_eraseIdx_of_lt ht
      have := breachesX_calls A c (l.eraseIdx t) a' cap' rs w5 (by rw [hl]; exact (own_bd S5.out).1) (own_bd S5.out).2 (Rd.slots (by rw [hl]; exact own_rd S5.out)) hn' hcap' R5.out
      rw [hl, FQ.out.1, FQ.out.2] at this
      exact this)
    refine (CQ.out).mono ?_
    rintro e w6 ⟨v6, rfl, o6, hb⟩
    obtain ⟨A6, c6, rfl, g6, f6, _⟩ := Rd.of_own o6
    have BA : Hid (BresIn w6 A5 L) := Lib.hid (bres_rd (own_rd (own_next hb B5.out)))
    have BB : Hid (BresIn w6 A6 (left t L)) := Lib.hid (bres_rd (own_rd o6))
    have N6 : Hid (Below w.heap.size w w6) := Lib.hid (Bgo N5.out hb)
    clear hb o6 Q5 S5 R5 N5 B5 CQ
    have hLN := FLN.out
    have FLL : Hid ((left t L).length = (L.filter (keepB t)).length) := Lib.hid (by unfold left; rw [List.length_map])
    have hll : (left t L).length ≤ 9000 := by rw [FLL.out]; exact Nat.le_trans (List.length_filter_le _ _) hLN
    go_wp2_with fail
    go_loopw [11, 12] (fun n i wr => ∃ k : Nat, k ≤ L.length ∧ i = .int .i64 k ∧ n = .int .i64 ((((L.take k).filter (keepB t)).length : Nat) : Int) ∧ Hid (Below w6.heap.size w6 wr)) (fun _ i _ => L.length - (intOf i).toNat)
    case atStart => exact ⟨0, by omega, rfl, rfl, Lib.hid (Below.refl _ _)⟩
    case round =>
      obtain ⟨k, hk, rfl, rfl, HB⟩ := hrel
      have N7 : Hid (Below w.heap.size w wr) := Lib.hid (Bgo N6.out HB.out)
      by_cases hlt : k < L.length
      · obtain ⟨b1, o1, rfl, hl1, c0, c1, c2⟩ := (BA.out.next HB.out) k hlt
        have km0 : (0 : Int) ≤ (k : Int) := by omega
        have km1 : (k : Int) < (L.length : Int) := by omega
        obtain ⟨v1, v2, v3, v4⟩ := FRL.out _ (List.getElem_mem hlt)
        have HT := Lib.hid (take_keep (p := keepB t) hlt)
        have HF := Lib.hid (filter_at (p := keepB t) hlt)
        have hfl : ((L.take k).filter (keepB t)).length ≤ k := Nat.le_trans (List.length_filter_le _ _) (by simp; omega)
        have HKB : Hid (keepB t L[k] = (!(L[k].2.1 == (t : Int)) && !(L[k].2.2 == (t : Int)))) := Lib.hid rfl
        have HDB : Hid (decB t L[k] = (L[k].1, dec t L[k].2.1, dec t L[k].2.2)) := Lib.hid rfl
        generalize L[k] = x at *
        obtain ⟨x1, x2, x3⟩ := x
        simp only at c0 c1 c2 v1 v2 v3 v4
        cases q1 : (x2 == (t : Int))
        case true =>
          have HT2 : Hid (((L.take (k + 1)).filter (keepB t)).length = ((L.take k).filter (keepB t)).length) := Lib.hid (by rw [HT.out, HKB.out, q1]; rfl)
          clear HT HF HKB HDB
          go_wp2_with fail
          exact ⟨⟨k + 1, by omega, by go_num, by rw [HT2.out], HB⟩, by simp [intOf]; omega⟩
        cases q2 : (x3 == (t : Int))
        case true =>
          have HT2 : Hid (((L.take (k + 1)).filter (keepB t)).length = ((L.take k).filter (keepB t)).length) := Lib.hid (by rw [HT.out, HKB.out, q1, q2]; rfl)
          clear HT HF HKB HDB
          go_wp2_with fail
          exact ⟨⟨k + 1, by omega, by go_num, by rw [HT2.out], HB⟩, by simp [intOf]; omega⟩
        have hkp : keepB t (x1, x2, x3) = true := by rw [HKB.out, q1, q2]; rfl
        have HT2 : Hid (((L.take (k + 1)).filter (keepB t)).length = ((L.take k).filter (keepB t)).length + 1) := Lib.hid (by rw [HT.out, hkp]; rfl)
        have hf := HF.out hkp
        have hnl : ((L.take k).filter (keepB t)).length < (left t L).length := by
          rw [FLL.out]; exact (List.getElem?_eq_some_iff.1 hf).1
        have HG : Hid ((left t L)[((L.take k).filter (keepB t)).length] = (x1, dec t x2, dec t x3)) := Lib.hid (by
          have h2 : (left t L)[((L.take k).filter (keepB t)).length]? = some (decB t (x1, x2, x3)) := by unfold left; rw [List.getElem?_map, hf]; rfl
          rw [List.getElem?_eq_getElem hnl] at h2
          exact Option.some.inj h2)
        obtain ⟨b2, o2, rfl, hl2, d0, d1, d2⟩ := (BB.out.next HB.out) _ hnl
        rw [HG.out] at d0 d1 d2
        generalize ((L.take k).filter (keepB t)).length = m at *
        clear HT HF HKB HDB HG hf hkp
        have mm0 : (0 : Int) ≤ (m : Int) := by omega
        have mm1 : (m : Int) < ((left t L).length : Int) := by omega
        have mm2 : decide (((left t L).length : Int) ≤ (m : Int)) = false := by simp; omega
        have mm3 : decide ((left t L).length ≤ m) = false := by simp; omega
        simp only at d0 d1 d2
        have e2 : (¬ (t : Int) < x2 ∧ dec t x2 = x2) ∨ ((t : Int) < x2 ∧ dec t x2 = x2 - 1) := by unfold dec; split <;> simp_all
        have e3 : (¬ (t : Int) < x3 ∧ dec t x3 = x3) ∨ ((t : Int) < x3 ∧ dec t x3 = x3 - 1) := by unfold dec; split <;> simp_all
        rcases e2 with ⟨e2, e2'⟩ | ⟨e2, e2'⟩ <;> rcases e3 with ⟨e3, e3'⟩ | ⟨e3, e3'⟩
        all_goals
          rw [e2'] at d1
          rw [e3'] at d2
          clear e2' e3'
          go_wp2_with fail
          go_quiet (fail)
          go_wp2_with fail
          exact ⟨⟨k + 1, by omega, by go_num, by rw [HT2.out]; go_num, Lib.hid (by repeat (first | exact HB.out | refine below_drewN ?_ _ | refine Bal ?_ _ | refine Bset1 ?_ (by have := HB.out.size; omega) _ _))⟩, by simp [intOf]; omega⟩
      · obtain rfl : k = L.length := by omega
        have HM : Hid ((((L.take L.length).filter (keepB t)).length : Nat) = (left t L).length) := Lib.hid (by rw [List.take_length, FLL.out])
        rw [HM.out]
        go_wp2_with fail
        go_ret
        exact ⟨by first | rfl | simp, N7.out⟩

set_option maxRecDepth 100000 in
theorem lifted (os : Os) (started : os.Started) (H : Type) (enc : TypeId × Value → H) :
    ReturnsInHanded {} Try.checked os 6 .any (Rows.planFewerSpec.pre6 enc Try.prog Try.f6 Rows.planFewerRow.domain false) (Rows.planFewerSpec.post enc Try.prog Try.f6 false true false false) := by
  refine returnsInHanded_of_change (C := Try.checked) own started (by kernel_rfl) Try.func6
    (ChangeSpec.witness6 (enc := enc) (C := Try.checked) false ⟨#[], #[.agg #[.slice none 0 0, .slice none 0 0], .int .i64 0], []⟩ 8 (by kernel_rfl) (by kernel_rfl) (by kernel_rfl) (by kernel_rfl)) ?_
  intro W base args ds gs before hval0 hW hcnd _
  have hval : ∀ (j : Nat) t v, Try.f6.params[j]? = some t → args[j]? = some v → Value.okWide Try.prog W .any base t v := hval0
  have hW' := hW
  obtain ⟨p, q, hA0, hV, rfl, hfz, hnd⟩ := hW
  have hA : DataW.TrodAll enc Try.prog W 0 (fun _ => true) true Try.f6.params.toList args.toList ds p := hA0
  rw [Try.params6] at hA hval
  obtain ⟨v0, vs0, d0, ds0, p0, q0, hargs, rfl, rfl, h0, r0⟩ := trodAll_cons hA
  obtain ⟨v1, vs1, d1, ds1, p1, q1, rfl, rfl, rfl, h1, r1⟩ := trodAll_cons r0
  obtain ⟨rfl, rfl, rfl⟩ := trodAll_nil r1
  obtain rfl : args = #[v0, v1] := by cases args; simp_all
  obtain ⟨rfl, rfl⟩ := trodVars_none hV
  have k0 := h0
  have lt0 : ∀ x ∈ p0, x.block < W.heap.size := by obtain ⟨m, hm⟩ := k0; exact DataW.trod_lt m _ _ _ hm
  obtain ⟨c0_0, c1_0, y0_0, y1_0, m0, rfl, _, _, t0_0, t1_0⟩ := open_agg2 Try.underlying25 (by kernel_rfl) (show Try.prog.cellsOf 25 = 2 by kernel_rfl) (hval 0 25 v0 rfl rfl) h0
  obtain ⟨a, l, cap, e0_0, hn, hcap, hs⟩ := open_slots t0_0
  obtain ⟨a', rs, cap', e1_0, hn', hcap', hr⟩ := open_rules t1_0
  simp only [List.cons.injEq, and_true] at e0_0 e1_0
  subst e0_0 e1_0
  have k1 := h1
  have lt1 : ∀ x ∈ p1, x.block < W.heap.size := by obtain ⟨m, hm⟩ := k1; exact DataW.trod_lt m _ _ _ hm
  obtain ⟨at0, rfl, _, _, wat0⟩ := open_int Try.underlying3 (hval 1 3 v1 rfl rfl) h1
  clear hA0 hval0
  refine (walk a cap l a' cap' rs W hn hcap hs hn' hcap' hr at0).mono fun e W' ⟨he, bel⟩ => ?_
  subst he
  exact ⟨_, rfl, _, _, _, [], _, [], hW', trodAll_mk1 (shut_bool Try.underlying4 _), (trodAll_cons_mk (Below.trod laidOut (by kernel_rfl) (of_decide_eq_true (by kernel_rfl)) k0 bel lt0) (trodAll_cons_mk (Below.trod laidOut (by kernel_rfl) (of_decide_eq_true (by kernel_rfl)) k1 bel lt1) trodAll_mk0)), rfl, bel.frame _, fun h => by cases h⟩

theorem over : Rows.planFewerRow.holds Try.pinned (OpenSpec.ofChange Rows.planFewerSpec) :=
  OpenClaim.holds_of_wide 6 Try.f6 rfl rfl rfl rfl rfl rfl rfl ⟨rfl, rfl, rfl, rfl, rfl⟩ rfl rfl rfl rfl rfl (by kernel_rfl) Try.func6 (by kernel_rfl)
    (of_decide_eq_true (by kernel_rfl)) (by unfold Func.isWrapper; first | (rw [if_pos (by decide +kernel)]; kernel_rfl) | (rw [if_neg (by decide +kernel)]; exact ⟨rfl, rfl⟩))
    (fun os started H enc _ => lifted os started H enc)

theorem proved : Rows.PlanFewerSaid := over
#print axioms proved
end Go.Proofs.Ythmfjlphmamegaa.planFewer
