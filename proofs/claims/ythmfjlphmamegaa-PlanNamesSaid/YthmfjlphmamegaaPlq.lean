/- Contracts of layer 43: the check of a plan, of the reference. -/
import Derived.Test.YthmfjlphmamegaaPls
namespace Go.Proofs.Ythmfjlphmamegaa
open Go.ChangeShapes Go.WideShapes Go.ChangeAt Go.RowKit
set_option linter.unusedVariables false

theorem findN_le_of {nm : ByteArray} : ∀ (l : List Slt) (j : Nat) (hj : j < l.length), (l[j].name.toList == nm.toList) = true → findN l nm ≤ j := by
  intro l
  induction l with
  | nil => intro j hj; simp at hj
  | cons x l ih =>
    intro j hj he
    rw [findN_cons]
    cases j with
    | zero => simp at he; simp [he]
    | succ j =>
      split
      · omega
      · have := ih j (by simpa using hj) he
        omega
theorem findI_self {l : List Slt} {i : Nat} (hi : i < l.length) : findI l l[i].name = i ↔ ∀ j (hj : j < i), (l[j].name.toList == l[i].name.toList) = false := by
  have h1 := findN_le_of (nm := l[i].name) l i hi (by simp)
  have h2 : findI l l[i].name = findN l l[i].name := by unfold findI; rw [if_pos (by omega)]
  constructor
  · intro h j hj
    cases he : (l[j].name.toList == l[i].name.toList)
    · rfl
    · have := findN_le_of (nm := l[i].name) l j (by omega) he
      omega
  · intro h
    have := findN_at (nm := l[i].name) hi (fun j hjl hj => h j hj) (by simp)
    omega

set_option maxHeartbeats 4000000 in
theorem refCheck_calls (a : Option Addr) (cap : Nat) (l : List Slt) (a' : Option Addr) (cap' : Nat) (rs : List Rul) (w : World) (hn : l.length ≤ cap) (hcap : cap ≤ 9223372036854775807) (hs : SlotsIn w a l)
    (hn' : rs.length ≤ cap') (hcap' : cap' ≤ 9223372036854775807) (hr : RulesIn w a' rs) :
    Calls Try.prog 18 #[Pv a l.length cap a' rs.length cap'] w fun e w' => e = .returned (.int .i64 (checkE l rs)) ∧ Below w.heap.size w w' := by
  generalize hv : checkE l rs = v
  have HV := Lib.hid hv
  clear hv
  have HS := Lib.hid hs
  have HR := Lib.hid hr
  clear hs hr
  by_cases h1 : 20 < l.length
  · have F : Hid (v = 4) := Lib.hid (by rw [← HV.out]; unfold checkE; rw [if_pos (.inl h1)])
    go_enter Try.func18, Try.ntmps18
    go_wp2_with fail
    go_ret
    exact ⟨ret_int F.out.symm, Bal (Below.refl _ _) _⟩
  by_cases h2 : 20 < rs.length
  · have F : Hid (v = 4) := Lib.hid (by rw [← HV.out]; unfold checkE; rw [if_pos (.inr h2)])
    go_enter Try.func18, Try.ntmps18
    go_wp2_with fail
    go_ret
    exact ⟨ret_int F.out.symm, Bal (Below.refl _ _) _⟩
  have F : Hid (v = if dupB l then 14 else if l.all slotB && rs.all ruleB then 0 else 8) := Lib.hid (by rw [← HV.out]; unfold checkE; rw [if_neg (by omega)])
  go_enter Try.func18, Try.ntmps18
  go_wp2_with fail
  go_loopw [3] (fun i wr => ∃ k : Nat, k ≤ l.length ∧ i = .int .i64 k ∧ Hid (Below w.heap.size w wr) ∧ Hid (wr.heap[w.heap.size]? = some (.cells #[.slice a l.length cap, .slice a' rs.length cap'] 25)) ∧ Hid (∀ i (hi : i < l.length), i < k → ∀ j (hj : j < i), (l[j].name.toList == l[i].name.toList) = false)) (fun i _ => l.length - (intOf i).toNat)
  case atStart => exact ⟨0, by omega, rfl, Lib.hid (Bal (Below.refl _ _) _), Lib.hid (blk_new w _), Lib.hid (by omega)⟩
  case round =>
    obtain ⟨k, hk, rfl, HB, HX, HN⟩ := hrel
    have x0 : wr.cell? ⟨w.heap.size, 0, none⟩ = some (.slice a l.length cap) := blk_cell HX.out 0 _ rfl
    have x1 : wr.cell? ⟨w.heap.size, 1, none⟩ = some (.slice a' rs.length cap') := blk_cell HX.out 1 _ rfl
    have xl := blk_lt HX.out
    by_cases hlt : k < l.length
    · obtain ⟨b, off, rfl, hl, hc⟩ := (HS.out.next HB.out) k hlt
      obtain ⟨c0, c1, c2, c3⟩ := hc
      have fc := fun (W : World) (hW : Below w.heap.size w W) => index_calls (some ⟨b, off, none⟩) cap l a' rs.length cap' l[k].name W hn hcap (HS.out.next hW)
      have FC := Lib.hid fc
      have FT := Lib.hid (findI_self hlt)
      generalize findI l l[k].name = fi at *
      clear fc
      by_cases hfi : fi = k
      · have HF := Lib.hid (FT.out.1 hfi)
        have hfi' : (fi != (k : Int)) = false := by simp [hfi]
        clear hfi
        go_wp2_with fail
        go_region_with ((go_at_call 31; refine (FC.out _ ?_).mono ?_; (first | exact HB.out | exact HB.out.drew); rintro e w1 ⟨rfl, hb1⟩))
        all_goals
          go_wp2_with fail
          refine ⟨⟨k + 1, by omega, by go_num, Lib.hid (by first | exact Bgo HB.out hb1 | exact Bgo HB.out.drew hb1), Lib.hid (blk_next hb1 HX.out), Lib.hid ?_⟩, by simp [intOf]; omega⟩
          intro i hi hik j hj
          by_cases e : i = k
          · subst e
            exact HF.out j hj
          · exact HN.out i hi (by omega) j hj
      · have HF := Lib.hid (fun h => hfi (FT.out.2 h))
        have hfi' : (fi != (k : Int)) = true := by rw [bne_iff_ne]; exact hfi
        clear hfi
        go_wp2_with fail
        go_region_with ((go_at_call 31; refine (FC.out _ ?_).mono ?_; (first | exact HB.out | exact HB.out.drew); rintro e w1 ⟨rfl, hb1⟩))
        all_goals
          go_wp2_with fail
          go_ret
          refine ⟨ret_int ?_, by first | exact Bgo HB.out hb1 | exact Bgo HB.out.drew hb1⟩
          have : dupB l = true := by
            cases hd : dupB l
            · exfalso
              apply HF.out
              intro j hj
              cases he : (l[j].name.toList == l[k].name.toList)
              · rfl
              · rw [dup_of hlt hj he] at hd; exact absurd hd (by decide)
            · rfl
          rw [F.out, this]; rfl
    · obtain rfl : k = l.length := by omega
      have D : Hid (dupB l = false) := Lib.hid (not_dup_of fun i hi j hj => HN.out i hi hi j hj)
      have F2 : Hid (v = if l.all slotB && rs.all ruleB then 0 else 8) := Lib.hid (by rw [F.out, D.out]; rfl)
      clear F D HN
      obtain ⟨wo, rfl⟩ : ∃ wo : World, wo = wr := ⟨_, rfl⟩
      go_wp2_with fail
      go_loopw [4] (fun i wr => ∃ k : Nat, k ≤ l.length ∧ i = .int .i64 k ∧ Hid (Below w.heap.size w wr) ∧ Hid (wr.heap[w.heap.size]? = some (.cells #[.slice a l.length cap, .slice a' rs.length cap'] 25)) ∧ Hid (∀ i (hi : i < l.length), i < k → slotB l[i] = true)) (fun i _ => l.length - (intOf i).toNat)
      case atStart => exact ⟨0, by omega, rfl, HB, HX, Lib.hid (by omega)⟩
      case round =>
        obtain ⟨k, hk, rfl, HB2, HX2, HN⟩ := hrel
        clear x0 x1 xl
        have x0 : wr.cell? ⟨w.heap.size, 0, none⟩ = some (.slice a l.length cap) := blk_cell HX2.out 0 _ rfl
        have x1 : wr.cell? ⟨w.heap.size, 1, none⟩ = some (.slice a' rs.length cap') := blk_cell HX2.out 1 _ rfl
        have xl := blk_lt HX2.out
        by_cases hlt : k < l.length
        · obtain ⟨b, off, rfl, hl, hc⟩ := (HS.out.next HB2.out) k hlt
          obtain ⟨c0, c1, c2, c3⟩ := hc
          cases hsb : slotB l[k]
          · have HSB := Lib.hid hsb
            go_wp2_with fail
            refine (refSlot_calls l[k] _).mono ?_
            rintro e w1 ⟨rfl, hb1⟩
            go_wp2_with fail
            go_ret
            refine ⟨ret_int ?_, Bgo HB2.out hb1⟩
            have : l.all slotB = false := by
              rw [List.all_eq_false]; exact ⟨l[k], List.getElem_mem hlt, by simp [HSB.out]⟩
            rw [F2.out, this]; rfl
          · have HSB := Lib.hid hsb
            go_wp2_with fail
            refine (refSlot_calls l[k] _).mono ?_
            rintro e w1 ⟨rfl, hb1⟩
            go_wp2_with fail
            refine ⟨⟨k + 1, by omega, by go_num, Lib.hid (Bgo HB2.out hb1), Lib.hid (blk_next hb1 HX2.out), Lib.hid ?_⟩, by simp [intOf]; omega⟩
            intro i hi hik
            by_cases e : i = k
            · subst e; exact HSB.out
            · exact HN.out i hi (by omega)
        · obtain rfl : k = l.length := by omega
          have A1 : l.all slotB = true := by
            rw [List.all_eq_true]
            intro x hx
            obtain ⟨j, hj, rfl⟩ := List.mem_iff_getElem.1 hx
            exact HN.out j hj hj
          have F3 : Hid (v = if rs.all ruleB then 0 else 8) := Lib.hid (by rw [F2.out, A1]; rfl)
          clear A1 F2 HN
          obtain ⟨wo2, rfl⟩ : ∃ wo : World, wo = wr := ⟨_, rfl⟩
          go_wp2_with fail
          go_loopw [5] (fun i wr => ∃ k : Nat, k ≤ rs.length ∧ i = .int .i64 k ∧ Hid (Below w.heap.size w wr) ∧ Hid (wr.heap[w.heap.size]? = some (.cells #[.slice a l.length cap, .slice a' rs.length cap'] 25)) ∧ Hid (∀ i (hi : i < rs.length), i < k → ruleB rs[i] = true)) (fun i _ => rs.length - (intOf i).toNat)
          case atStart => exact ⟨0, by omega, rfl, HB2, HX2, Lib.hid (by omega)⟩
          case round =>
            obtain ⟨k, hk, rfl, HB3, HX3, HN⟩ := hrel
            clear x0 x1 xl
            have x0 : wr.cell? ⟨w.heap.size, 0, none⟩ = some (.slice a l.length cap) := blk_cell HX3.out 0 _ rfl
            have x1 : wr.cell? ⟨w.heap.size, 1, none⟩ = some (.slice a' rs.length cap') := blk_cell HX3.out 1 _ rfl
            have xl := blk_lt HX3.out
            by_cases hlt : k < rs.length
            · obtain ⟨b, off, rfl, hl, hc⟩ := (HR.out.next HB3.out) k hlt
              obtain ⟨c0, c1, c2, c3, c4, c5⟩ := hc
              cases hsb : ruleB rs[k]
              · have HSB := Lib.hid hsb
                go_wp2_with fail
                refine (refRule_calls rs[k] _).mono ?_
                rintro e w1 ⟨rfl, hb1⟩
                go_wp2_with fail
                go_ret
                refine ⟨ret_int ?_, Bgo HB3.out hb1⟩
                have : rs.all ruleB = false := by
                  rw [List.all_eq_false]; exact ⟨rs[k], List.getElem_mem hlt, by simp [HSB.out]⟩
                rw [F3.out, this]; rfl
              · have HSB := Lib.hid hsb
                go_wp2_with fail
                refine (refRule_calls rs[k] _).mono ?_
                rintro e w1 ⟨rfl, hb1⟩
                go_wp2_with fail
                refine ⟨⟨k + 1, by omega, by go_num, Lib.hid (Bgo HB3.out hb1), Lib.hid (blk_next hb1 HX3.out), Lib.hid ?_⟩, by simp [intOf]; omega⟩
                intro i hi hik
                by_cases e : i = k
                · subst e; exact HSB.out
                · exact HN.out i hi (by omega)
            · obtain rfl : k = rs.length := by omega
              have A1 : rs.all ruleB = true := by
                rw [List.all_eq_true]
                intro x hx
                obtain ⟨j, hj, rfl⟩ := List.mem_iff_getElem.1 hx
                exact HN.out j hj hj
              have F4 : Hid (v = 0) := Lib.hid (by rw [F3.out, A1]; rfl)
              clear A1 F3 HN
              go_wp2_with fail
              go_ret
              exact ⟨ret_int F4.out.symm, HB3.out⟩
end Go.Proofs.Ythmfjlphmamegaa
