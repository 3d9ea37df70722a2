/- Contracts of layer 43: Breaches, Obeys and Excused, of the program and of the reference. -/
import Derived.Test.YthmfjlphmamegaaPle
namespace Go.Proofs.Ythmfjlphmamegaa
open Go.ChangeShapes Go.WideShapes Go.ChangeAt Go.RowKit
set_option linter.unusedVariables false
attribute [local go_sem ↓] Go.wp_at_zero Go.wp_at_succ

def BrPost (w : World) (L : List Bre) (err : Int) (e : Ending) (w' : World) : Prop := ∃ v, e = .returned (.tuple #[v, .int .i64 err]) ∧ w'.ownsRow w.heap.size 68 3 v L.length (bre L) ∧ Below w.heap.size w w'
def StPost (w : World) (L : List ByteArray) (err : Int) (e : Ending) (w' : World) : Prop := ∃ v, e = .returned (.tuple #[v, .int .i64 err]) ∧ w'.ownsRow w.heap.size 9 1 v L.length (stc L) ∧ Below w.heap.size w w'
def brL (l : List Slt) (rs : List Rul) : List Bre := if checkE l rs = 0 then allL l rs else []
def obL (l : List Slt) (rs : List Rul) : Bool := if checkE l rs = 0 then obeysB l rs else false
def exL (l : List Slt) (rs : List Rul) : List ByteArray := if checkE l rs = 0 then excL l rs else []
theorem infoS : (Try.prog.info? 9).map (fun i => (i.zero, i.size, i.bytes)) = some (some (.string ⟨#[]⟩), 1, 16) := by kernel_rfl
theorem stc_one (l : List ByteArray) : ∀ u ∈ stc l, u.oneCell' = true := by
  intro u hu
  obtain ⟨s, _, hs⟩ := List.mem_flatMap.1 hu
  simp at hs
  subst hs; rfl
theorem new1 (w : World) (x : Value) (t : TypeId) : ∀ (j : Nat) (u : Value), [x][j]? = some u → (w.alloc (.cells #[x] t)).cell? ((⟨w.heap.size, 0, none⟩ : Addr).add j) = some u := by
  intro j u h
  have e : (⟨w.heap.size, 0, none⟩ : Addr).add j = ⟨w.heap.size, j, none⟩ := by simp [Addr.add]; intro h; exact h.symm
  rw [e]
  exact blk_cell (blk_new w _) j u (by simpa using h)
theorem one1 (s : ByteArray) : ∀ u ∈ [Value.string s], u.oneCell' = true := by
  intro u hu; simp at hu; subst hu; rfl
set_option maxHeartbeats 1000000 in
theorem breachesX_calls (a : Option Addr) (cap : Nat) (l : List Slt) (a' : Option Addr) (cap' : Nat) (rs : List Rul) (w : World) (hn : l.length ≤ cap) (hcap : cap ≤ 9223372036854775807) (hs : SlotsIn w a l)
    (hn' : rs.length ≤ cap') (hcap' : cap' ≤ 9223372036854775807) (hr : RulesIn w a' rs) :
    Calls Try.prog 11 #[Pv a l.length cap a' rs.length cap'] w (BrPost w (brL l rs) (checkE l rs)) := by
  have HS := Lib.hid hs
  have HR := Lib.hid hr
  clear hs hr
  have CK := Lib.hid (fun (W : World) (hW : Below w.heap.size w W) => check_calls a cap l a' cap' rs W hn hcap (HS.out.next hW) hn' hcap' (HR.out.next hW))
  by_cases hE : checkE l rs = 0
  · have HC := Lib.hid (fun (W : World) (hW : Below w.heap.size w W) => breaches_calls a cap l a' cap' rs W hn hcap (HS.out.next hW) hn' hcap' (HR.out.next hW) (okp_of hE))
    have F : Hid (brL l rs = allL l rs) := Lib.hid (by unfold brL; rw [if_pos hE])
    generalize brL l rs = L at *
    generalize checkE l rs = ce at *
    subst hE
    go_enter Try.func11, Try.ntmps11
    go_wp2_with fail
    refine (CK.out _ (Bal (Below.refl _ _) _)).mono ?_
    rintro e w1 ⟨rfl, hb⟩
    have HX : Hid (w1.heap[w.heap.size]? = some (.cells #[.slice a l.length cap, .slice a' rs.length cap'] 25)) := Lib.hid (blk_next hb (blk_new w _))
    have HB : Hid (Below w.heap.size w w1) := Lib.hid (Bgo (Bal (Below.refl _ _) _) hb)
    clear hb
    have x0 : w1.cell? ⟨w.heap.size, 0, none⟩ = some (.slice a l.length cap) := blk_cell HX.out 0 _ rfl
    have x1 : w1.cell? ⟨w.heap.size, 1, none⟩ = some (.slice a' rs.length cap') := blk_cell HX.out 1 _ rfl
    go_wp2_with fail
    refine (HC.out _ HB.out).mono ?_
    rintro e w2 ⟨v, rfl, ho, hb⟩
    have HO := Lib.hid ho
    have HB2 := Lib.hid (Bgo HB.out hb)
    have HZ := Lib.hid HB.out.size
    clear ho hb
    go_wp2_with fail
    go_ret2
    exact ⟨_, rfl, by rw [F.out]; exact HO.out.mono HZ.out, HB2.out⟩
  · have F : Hid (brL l rs = []) := Lib.hid (by unfold brL; rw [if_neg hE])
    generalize brL l rs = L at *
    generalize checkE l rs = ce at *
    have hne : (ce != 0) = true := by simpa using hE
    go_enter Try.func11, Try.ntmps11
    go_wp2_with fail
    refine (CK.out _ (Bal (Below.refl _ _) _)).mono ?_
    rintro e w1 ⟨rfl, hb⟩
    have HB : Hid (Below w.heap.size w w1) := Lib.hid (Bgo (Bal (Below.refl _ _) _) hb)
    clear hb
    go_wp2_with fail
    go_ret2
    exact ⟨_, rfl, by rw [F.out]; exact World.ownsRow_nil _ _ _ _, HB.out⟩
set_option maxHeartbeats 1000000 in
theorem refBreachesX_calls (a : Option Addr) (cap : Nat) (l : List Slt) (a' : Option Addr) (cap' : Nat) (rs : List Rul) (w : World) (hn : l.length ≤ cap) (hcap : cap ≤ 9223372036854775807) (hs : SlotsIn w a l)
    (hn' : rs.length ≤ cap') (hcap' : cap' ≤ 9223372036854775807) (hr : RulesIn w a' rs) :
    Calls Try.prog 12 #[Pv a l.length cap a' rs.length cap'] w (BrPost w (brL l rs) (checkE l rs)) := by
  have HS := Lib.hid hs
  have HR := Lib.hid hr
  clear hs hr
  have CK := Lib.hid (fun (W : World) (hW : Below w.heap.size w W) => refCheck_calls a cap l a' cap' rs W hn hcap (HS.out.next hW) hn' hcap' (HR.out.next hW))
  by_cases hE : checkE l rs = 0
  · have HC := Lib.hid (fun (W : World) (hW : Below w.heap.size w W) => refAll_calls a cap l a' cap' rs W hn hcap (HS.out.next hW) hn' hcap' (HR.out.next hW) (okp_of hE))
    have F : Hid (brL l rs = allL l rs) := Lib.hid (by unfold brL; rw [if_pos hE])
    generalize brL l rs = L at *
    generalize checkE l rs = ce at *
    subst hE
    go_enter Try.func12, Try.ntmps12
    go_wp2_with fail
    refine (CK.out _ (Bal (Below.refl _ _) _)).mono ?_
    rintro e w1 ⟨rfl, hb⟩
    have HX : Hid (w1.heap[w.heap.size]? = some (.cells #[.slice a l.length cap, .slice a' rs.length cap'] 25)) := Lib.hid (blk_next hb (blk_new w _))
    have HB : Hid (Below w.heap.size w w1) := Lib.hid (Bgo (Bal (Below.refl _ _) _) hb)
    clear hb
    have x0 : w1.cell? ⟨w.heap.size, 0, none⟩ = some (.slice a l.length cap) := blk_cell HX.out 0 _ rfl
    have x1 : w1.cell? ⟨w.heap.size, 1, none⟩ = some (.slice a' rs.length cap') := blk_cell HX.out 1 _ rfl
    go_wp2_with fail
    refine (HC.out _ HB.out).mono ?_
    rintro e w2 ⟨v, rfl, ho, hb⟩
    have HO := Lib.hid ho
    have HB2 := Lib.hid (Bgo HB.out hb)
    have HZ := Lib.hid HB.out.size
    clear ho hb
    go_wp2_with fail
    go_ret2
    exact ⟨_, rfl, by rw [F.out]; exact HO.out.mono HZ.out, HB2.out⟩
  · have F : Hid (brL l rs = []) := Lib.hid (by unfold brL; rw [if_neg hE])
    generalize brL l rs = L at *
    generalize checkE l rs = ce at *
    have hne : (ce != 0) = true := by simpa using hE
    go_enter Try.func12, Try.ntmps12
    go_wp2_with fail
    refine (CK.out _ (Bal (Below.refl _ _) _)).mono ?_
    rintro e w1 ⟨rfl, hb⟩
    have HB : Hid (Below w.heap.size w w1) := Lib.hid (Bgo (Bal (Below.refl _ _) _) hb)
    clear hb
    go_wp2_with fail
    go_ret2
    exact ⟨_, rfl, by rw [F.out]; exact World.ownsRow_nil _ _ _ _, HB.out⟩
set_option maxHeartbeats 1000000 in
theorem obeysX_calls (a : Option Addr) (cap : Nat) (l : List Slt) (a' : Option Addr) (cap' : Nat) (rs : List Rul) (w : World) (hn : l.length ≤ cap) (hcap : cap ≤ 9223372036854775807) (hs : SlotsIn w a l)
    (hn' : rs.length ≤ cap') (hcap' : cap' ≤ 9223372036854775807) (hr : RulesIn w a' rs) :
    Calls Try.prog 13 #[Pv a l.length cap a' rs.length cap'] w fun e w' => e = .returned (.tuple #[.bool (obL l rs), .int .i64 (checkE l rs)]) ∧ Below w.heap.size w w' := by
  have HS := Lib.hid hs
  have HR := Lib.hid hr
  clear hs hr
  have CK := Lib.hid (fun (W : World) (hW : Below w.heap.size w W) => check_calls a cap l a' cap' rs W hn hcap (HS.out.next hW) hn' hcap' (HR.out.next hW))
  by_cases hE : checkE l rs = 0
  · have HC := Lib.hid (fun (W : World) (hW : Below w.heap.size w W) => obeys_calls a cap l a' cap' rs W hn hcap (HS.out.next hW) hn' hcap' (HR.out.next hW) (okp_of hE))
    have F : Hid (obL l rs = obeysB l rs) := Lib.hid (by unfold obL; rw [if_pos hE])
    generalize obL l rs = L at *
    generalize checkE l rs = ce at *
    subst hE
    go_enter Try.func13, Try.ntmps13
    go_wp2_with fail
    refine (CK.out _ (Bal (Below.refl _ _) _)).mono ?_
    rintro e w1 ⟨rfl, hb⟩
    have HX : Hid (w1.heap[w.heap.size]? = some (.cells #[.slice a l.length cap, .slice a' rs.length cap'] 25)) := Lib.hid (blk_next hb (blk_new w _))
    have HB : Hid (Below w.heap.size w w1) := Lib.hid (Bgo (Bal (Below.refl _ _) _) hb)
    clear hb
    have x0 : w1.cell? ⟨w.heap.size, 0, none⟩ = some (.slice a l.length cap) := blk_cell HX.out 0 _ rfl
    have x1 : w1.cell? ⟨w.heap.size, 1, none⟩ = some (.slice a' rs.length cap') := blk_cell HX.out 1 _ rfl
    go_wp2_with fail
    refine (HC.out _ HB.out).mono ?_
    rintro e w2 ⟨rfl, hb⟩
    have HB2 := Lib.hid (Bgo HB.out hb)
    clear hb
    go_wp2_with fail
    go_ret2
    exact ⟨by rw [F.out]; rfl, HB2.out⟩
  · have F : Hid (obL l rs = false) := Lib.hid (by unfold obL; rw [if_neg hE])
    generalize obL l rs = L at *
    generalize checkE l rs = ce at *
    have hne : (ce != 0) = true := by simpa using hE
    go_enter Try.func13, Try.ntmps13
    go_wp2_with fail
    refine (CK.out _ (Bal (Below.refl _ _) _)).mono ?_
    rintro e w1 ⟨rfl, hb⟩
    have HB : Hid (Below w.heap.size w w1) := Lib.hid (Bgo (Bal (Below.refl _ _) _) hb)
    clear hb
    go_wp2_with fail
    go_ret2
    exact ⟨by rw [F.out]; rfl, HB.out⟩
set_option maxHeartbeats 1000000 in
theorem refObeysX_calls (a : Option Addr) (cap : Nat) (l : List Slt) (a' : Option Addr) (cap' : Nat) (rs : List Rul) (w : World) (hn : l.length ≤ cap) (hcap : cap ≤ 9223372036854775807) (hs : SlotsIn w a l)
    (hn' : rs.length ≤ cap') (hcap' : cap' ≤ 9223372036854775807) (hr : RulesIn w a' rs) :
    Calls Try.prog 14 #[Pv a l.length cap a' rs.length cap'] w fun e w' => e = .returned (.tuple #[.bool (obL l rs), .int .i64 (checkE l rs)]) ∧ Below w.heap.size w w' := by
  have HS := Lib.hid hs
  have HR := Lib.hid hr
  clear hs hr
  have CK := Lib.hid (fun (W : World) (hW : Below w.heap.size w W) => refCheck_calls a cap l a' cap' rs W hn hcap (HS.out.next hW) hn' hcap' (HR.out.next hW))
  by_cases hE : checkE l rs = 0
  · have HC := Lib.hid (fun (W : World) (hW : Below w.heap.size w W) => refObeys_calls a cap l a' cap' rs W hn hcap (HS.out.next hW) hn' hcap' (HR.out.next hW) (okp_of hE))
    have F : Hid (obL l rs = obeysB l rs) := Lib.hid (by unfold obL; rw [if_pos hE])
    generalize obL l rs = L at *
    generalize checkE l rs = ce at *
    subst hE
    go_enter Try.func14, Try.ntmps14
    go_wp2_with fail
    refine (CK.out _ (Bal (Below.refl _ _) _)).mono ?_
    rintro e w1 ⟨rfl, hb⟩
    have HX : Hid (w1.heap[w.heap.size]? = some (.cells #[.slice a l.length cap, .slice a' rs.length cap'] 25)) := Lib.hid (blk_next hb (blk_new w _))
    have HB : Hid (Below w.heap.size w w1) := Lib.hid (Bgo (Bal (Below.refl _ _) _) hb)
    clear hb
    have x0 : w1.cell? ⟨w.heap.size, 0, none⟩ = some (.slice a l.length cap) := blk_cell HX.out 0 _ rfl
    have x1 : w1.cell? ⟨w.heap.size, 1, none⟩ = some (.slice a' rs.length cap') := blk_cell HX.out 1 _ rfl
    go_wp2_with fail
    refine (HC.out _ HB.out).mono ?_
    rintro e w2 ⟨rfl, hb⟩
    have HB2 := Lib.hid (Bgo HB.out hb)
    clear hb
    go_wp2_with fail
    go_ret2
    exact ⟨by rw [F.out]; rfl, HB2.out⟩
  · have F : Hid (obL l rs = false) := Lib.hid (by unfold obL; rw [if_neg hE])
    generalize obL l rs = L at *
    generalize checkE l rs = ce at *
    have hne : (ce != 0) = true := by simpa using hE
    go_enter Try.func14, Try.ntmps14
    go_wp2_with fail
    refine (CK.out _ (Bal (Below.refl _ _) _)).mono ?_
    rintro e w1 ⟨rfl, hb⟩
    have HB : Hid (Below w.heap.size w w1) := Lib.hid (Bgo (Bal (Below.refl _ _) _) hb)
    clear hb
    go_wp2_with fail
    go_ret2
    exact ⟨by rw [F.out]; rfl, HB.out⟩
set_option maxHeartbeats 4000000 in
set_option maxRecDepth 100000 in
theorem excused_calls (a : Option Addr) (cap : Nat) (l : List Slt) (a' : Option Addr) (cap' : Nat) (rs : List Rul) (w : World) (hn : l.length ≤ cap) (hcap : cap ≤ 9223372036854775807) (hs : SlotsIn w a l)
    (hn' : rs.length ≤ cap') (hcap' : cap' ≤ 9223372036854775807) (hr : RulesIn w a' rs) :
    Calls Try.prog 15 #[Pv a l.length cap a' rs.length cap'] w (StPost w (exL l rs) (checkE l rs)) := by
  have HS := Lib.hid hs
  have HR := Lib.hid hr
  clear hs hr
  have CK := Lib.hid (fun (W : World) (hW : Below w.heap.size w W) => check_calls a cap l a' cap' rs W hn hcap (HS.out.next hW) hn' hcap' (HR.out.next hW))
  by_cases hE : checkE l rs = 0
  · obtain ⟨i0, hi, hz0, hz1, hz2⟩ := info_parts infoS
    have HI := Lib.hid (And.intro hi (And.intro hz0 (And.intro hz1 hz2)))
    have HK := Lib.hid (okp_of hE)
    have h20 := HK.out.ls
    have h20' := HK.out.rl
    have F : Hid (exL l rs = excTo l rs rs.length) := Lib.hid (by unfold exL; rw [if_pos hE]; rfl)
    generalize exL l rs = L at *
    generalize checkE l rs = ce at *
    subst hE
    clear hi hz0 hz1 hz2
    go_enter Try.func15, Try.ntmps15
    go_wp2_with fail
    refine (CK.out _ (Bal (Below.refl _ _) _)).mono ?_
    rintro e w1 ⟨rfl, hb⟩
    have HX : Hid (w1.heap[w.heap.size]? = some (.cells #[.slice a l.length cap, .slice a' rs.length cap'] 25)) := Lib.hid (blk_next hb (blk_new w _))
    have HB : Hid (Below w.heap.size w w1) := Lib.hid (Bgo (Bal (Below.refl _ _) _) hb)
    clear hb CK
    have x0 : w1.cell? ⟨w.heap.size, 0, none⟩ = some (.slice a l.length cap) := blk_cell HX.out 0 _ rfl
    have x1 : w1.cell? ⟨w.heap.size, 1, none⟩ = some (.slice a' rs.length cap') := blk_cell HX.out 1 _ rfl
    go_wp2_with fail
    go_loopw [5, 16] (fun v i wr => ∃ k : Nat, k ≤ rs.length ∧ i = .int .i64 k ∧ Hid (Below w.heap.size w wr) ∧ Hid (wr.heap[w.heap.size]? = some (.cells #[.slice a l.length cap, .slice a' rs.length cap'] 25)) ∧ Hid (wr.ownsRow (w.heap.size + 1) 9 1 v (excTo l rs k).length (stc (excTo l rs k)))) (fun _ i _ => rs.length - (intOf i).toNat)
    case atStart => exact ⟨0, by omega, rfl, HB, HX, Lib.hid ⟨rfl, .inl ⟨rfl, rfl⟩⟩⟩
    case round =>
      clear HB HX x0 x1
      obtain ⟨k, hk, rfl, HB, HX, HO⟩ := hrel
      have x0 : wr.cell? ⟨w.heap.size, 0, none⟩ = some (.slice a l.length cap) := blk_cell HX.out 0 _ rfl
      have x1 : wr.cell? ⟨w.heap.size, 1, none⟩ = some (.slice a' rs.length cap') := blk_cell HX.out 1 _ rfl
      have xl := blk_lt HX.out
      by_cases hlt : k < rs.length
      · obtain ⟨b, off, rfl, hl, hc⟩ := (HR.out.next HB.out) k hlt
        obtain ⟨c0, c1, c2, c3, c4, c5⟩ := hc
        have hE1 := excTo_len l rs k
        have HP := Lib.hid (excTo_succ (l := l) hlt)
        have km0 : (0 : Int) ≤ (k : Int) := by omega
        have km1 : (k : Int) < (rs.length : Int) := by omega
        cases he : rs[k].why.toList.isEmpty
        · have he2 : ¬ rs[k].why.toList = [] := by intro h; rw [h] at he; cases he
          go_wp2_with fail
          refine (broken_calls a cap l rs[k] (k : Int) _ hn hcap (by omega) ((HS.out.next HB.out).next (Bal (Below.refl _ _) _)) HK.out.tms (HK.out.ru k hlt)).mono ?_
          rintro e w1 ⟨v2, rfl, ho2, hb2⟩
          have HB2 : Hid (Below w.heap.size w w1) := Lib.hid (Bgo (Bal HB.out _) hb2)
          have HX2 := Lib.hid (blk_next hb2 (blk_alloc HX.out _))
          have HO2 := Lib.hid (own_next hb2 (HO.out.alloc _))
          have HU := Lib.hid (blk_next hb2 (blk_new wr _))
          have u5 : w1.cell? ⟨wr.heap.size, 5, none⟩ = some (.string rs[k].why) := blk_cell HU.out 5 _ rfl
          obtain ⟨A2, c2', rfl, _, _, _⟩ := Rd.of_own ho2
          have H5 : Hid (w.heap.size + 1 ≤ w1.heap.size) := Lib.hid (blk_lt HX2.out)
          clear ho2 hb2 x0 x1 xl
          have HPB : Hid ((!rs[k].why.toList.isEmpty && decide (0 < (brokenL l rs[k] k).length)) = decide (0 < (brokenL l rs[k] k).length)) := Lib.hid (by rw [he]; rfl)
          generalize (brokenL l rs[k] k).length = nb at *
          by_cases hz : 0 < nb
          · have Fp : Hid (excTo l rs (k + 1) = excTo l rs k ++ [rs[k].why]) := Lib.hid (by rw [HP.out, HPB.out, if_pos (by simpa using hz)])
            have H63 : Hid ((excTo l rs k).length + 1 ≤ maxLen) := Lib.hid (by unfold maxLen; omega)
            have H64 : Hid (((excTo l rs k).length + 1) * 16 ≤ 140737488355328) := Lib.hid (by omega)
            have hzI : (0 : Int) < (nb : Int) := by omega
            clear HP HPB
            go_wp2_with (at_builtin; refine wpList_append_own _ rfl _ _ 37 rfl (w.heap.size + 1) 9 i0 (.string ⟨#[]⟩) 1 16 Try.underlying37 HI.out.1 HI.out.2.1 HI.out.2.2.1 HI.out.2.2.2 rfl (by decide) _ _ _ rfl (HO2.out.alloc _) ⟨w1.heap.size, 0, none⟩ 1 1 [.string rs[k].why] rfl rfl (new1 w1 _ _) (one1 _) H63.out H64.out (Nat.le_trans H5.out (Below.alloc (Below.refl 0 w1) (Nat.zero_le _) _).size) ?_; intro v3 w3 hown3 hgrow3 hnil3)
            have HB4 : Hid (Below w.heap.size w w3) := Lib.hid (own_below2 (HO2.out.alloc _) (Bal HB2.out _) (by omega) hgrow3)
            have HX4 := Lib.hid (grown_blk (HO2.out.alloc _) (blk_alloc HX2.out _) (by omega) hgrow3)
            have HO4 := Lib.hid hown3
            clear hown3 hgrow3 hnil3
            go_wp2_with fail
            refine ⟨⟨k + 1, by omega, by go_num, HB4, HX4, Lib.hid ?_⟩, by simp [intOf]; omega⟩
            rw [Fp.out, stc_append, List.length_append]
            exact HO4.out
          · have Fp : Hid (excTo l rs (k + 1) = excTo l rs k) := Lib.hid (by rw [HP.out, HPB.out, if_neg (by simpa using hz), List.append_nil])
            obtain rfl : nb = 0 := by omega
            clear HP HPB
            go_wp2_with fail
            refine ⟨⟨k + 1, by omega, by go_num, HB2, HX2, Lib.hid ?_⟩, by simp [intOf]; omega⟩
            rw [Fp.out]
            exact HO2.out
        · have he2 : rs[k].why.toList = [] := List.isEmpty_iff.1 he
          have Fp : Hid (excTo l rs (k + 1) = excTo l rs k) := Lib.hid (by rw [HP.out, he]; simp)
          go_wp2_with fail
          refine ⟨⟨k + 1, by omega, by go_num, Lib.hid (Bal HB.out _), Lib.hid (blk_alloc HX.out _), Lib.hid ?_⟩, by simp [intOf]; omega⟩
          rw [Fp.out]
          exact HO.out.alloc _
      · obtain rfl : k = rs.length := by omega
        go_wp2_with fail
        go_ret2
        exact ⟨_, rfl, by rw [F.out]; exact HO.out.mono (by omega), HB.out⟩
  · have F : Hid (exL l rs = []) := Lib.hid (by unfold exL; rw [if_neg hE])
    generalize exL l rs = L at *
    generalize checkE l rs = ce at *
    have hne : (ce != 0) = true := by simpa using hE
    go_enter Try.func15, Try.ntmps15
    go_wp2_with fail
    refine (CK.out _ (Bal (Below.refl _ _) _)).mono ?_
    rintro e w1 ⟨rfl, hb⟩
    have HB : Hid (Below w.heap.size w w1) := Lib.hid (Bgo (Bal (Below.refl _ _) _) hb)
    clear hb
    go_wp2_with fail
    go_ret2
    exact ⟨_, rfl, by rw [F.out]; exact World.ownsRow_nil _ _ _ _, HB.out⟩
set_option maxHeartbeats 4000000 in
set_option maxRecDepth 100000 in
theorem refExcused_calls (a : Option Addr) (cap : Nat) (l : List Slt) (a' : Option Addr) (cap' : Nat) (rs : List Rul) (w : World) (hn : l.length ≤ cap) (hcap : cap ≤ 9223372036854775807) (hs : SlotsIn w a l)
    (hn' : rs.length ≤ cap') (hcap' : cap' ≤ 9223372036854775807) (hr : RulesIn w a' rs) :
    Calls Try.prog 16 #[Pv a l.length cap a' rs.length cap'] w (StPost w (exL l rs) (checkE l rs)) := by
  have HS := Lib.hid hs
  have HR := Lib.hid hr
  clear hs hr
  have CK := Lib.hid (fun (W : World) (hW : Below w.heap.size w W) => refCheck_calls a cap l a' cap' rs W hn hcap (HS.out.next hW) hn' hcap' (HR.out.next hW))
  by_cases hE : checkE l rs = 0
  · obtain ⟨i0, hi, hz0, hz1, hz2⟩ := info_parts infoS
    have HI := Lib.hid (And.intro hi (And.intro hz0 (And.intro hz1 hz2)))
    have HK := Lib.hid (okp_of hE)
    have h20 := HK.out.ls
    have h20' := HK.out.rl
    have F : Hid (exL l rs = excTo l rs rs.length) := Lib.hid (by unfold exL; rw [if_pos hE]; rfl)
    generalize exL l rs = L at *
    generalize checkE l rs = ce at *
    subst hE
    clear hi hz0 hz1 hz2
    go_enter Try.func16, Try.ntmps16
    go_wp2_with fail
    refine (CK.out _ (Bal (Below.refl _ _) _)).mono ?_
    rintro e w1 ⟨rfl, hb⟩
    have HX : Hid (w1.heap[w.heap.size]? = some (.cells #[.slice a l.length cap, .slice a' rs.length cap'] 25)) := Lib.hid (blk_next hb (blk_new w _))
    have HB : Hid (Below w.heap.size w w1) := Lib.hid (Bgo (Bal (Below.refl _ _) _) hb)
    clear hb CK
    have x0 : w1.cell? ⟨w.heap.size, 0, none⟩ = some (.slice a l.length cap) := blk_cell HX.out 0 _ rfl
    have x1 : w1.cell? ⟨w.heap.size, 1, none⟩ = some (.slice a' rs.length cap') := blk_cell HX.out 1 _ rfl
    go_wp2_with fail
    go_loopw [5, 6] (fun v i wr => ∃ k : Nat, k ≤ rs.length ∧ i = .int .i64 k ∧ Hid (Below w.heap.size w wr) ∧ Hid (wr.heap[w.heap.size]? = some (.cells #[.slice a l.length cap, .slice a' rs.length cap'] 25)) ∧ Hid (wr.ownsRow (w.heap.size + 1) 9 1 v (excTo l rs k).length (stc (excTo l rs k)))) (fun _ i _ => rs.length - (intOf i).toNat)
    case atStart => exact ⟨0, by omega, rfl, HB, HX, Lib.hid ⟨rfl, .inl ⟨rfl, rfl⟩⟩⟩
    case round =>
      clear HB HX x0 x1
      obtain ⟨k, hk, rfl, HB, HX, HO⟩ := hrel
      have x0 : wr.cell? ⟨w.heap.size, 0, none⟩ = some (.slice a l.length cap) := blk_cell HX.out 0 _ rfl
      have x1 : wr.cell? ⟨w.heap.size, 1, none⟩ = some (.slice a' rs.length cap') := blk_cell HX.out 1 _ rfl
      have xl := blk_lt HX.out
      by_cases hlt : k < rs.length
      · obtain ⟨b, off, rfl, hl, hc⟩ := (HR.out.next HB.out) k hlt
        obtain ⟨c0, c1, c2, c3, c4, c5⟩ := hc
        have hE1 := excTo_len l rs k
        have HP := Lib.hid (excTo_succ (l := l) hlt)
        have km0 : (0 : Int) ≤ (k : Int) := by omega
        have km1 : (k : Int) < (rs.length : Int) := by omega
        cases he : rs[k].why.toList.isEmpty
        · have he2 : ¬ rs[k].why.toList = [] := by intro h; rw [h] at he; cases he
          go_wp2_with fail
          refine (refBroken_calls a cap l (some ⟨b, off, none⟩) cap' rs k _ hn hcap (by omega) (HS.out.next HB.out) hn' hcap' (HR.out.next HB.out) hlt HK.out.tms (HK.out.ru k hlt)).mono ?_
          rintro e w1 ⟨v2, rfl, ho2, hb2⟩
          have HB2 : Hid (Below w.heap.size w w1) := Lib.hid (Bgo HB.out hb2)
          have HX2 := Lib.hid (blk_next hb2 HX.out)
          have HO2 := Lib.hid (own_next hb2 HO.out)
          have u5 : w1.cell? ⟨b, off + k * 6 + 5, none⟩ = some (.string rs[k].why) := (hb2.cell hl).trans c5
          have u1 : w1.cell? ⟨w.heap.size, 1, none⟩ = some (.slice (some ⟨b, off, none⟩) rs.length cap') := blk_cell HX2.out 1 _ rfl
          obtain ⟨A2, c2', rfl, _, _, _⟩ := Rd.of_own ho2
          have H5 : Hid (w.heap.size + 1 ≤ w1.heap.size) := Lib.hid (blk_lt HX2.out)
          clear ho2 hb2 x0 x1 xl
          have HPB : Hid ((!rs[k].why.toList.isEmpty && decide (0 < (brokenL l rs[k] k).length)) = decide (0 < (brokenL l rs[k] k).length)) := Lib.hid (by rw [he]; rfl)
          generalize (brokenL l rs[k] k).length = nb at *
          by_cases hz : 0 < nb
          · have Fp : Hid (excTo l rs (k + 1) = excTo l rs k ++ [rs[k].why]) := Lib.hid (by rw [HP.out, HPB.out, if_pos (by simpa using hz)])
            have H63 : Hid ((excTo l rs k).length + 1 ≤ maxLen) := Lib.hid (by unfold maxLen; omega)
            have H64 : Hid (((excTo l rs k).length + 1) * 16 ≤ 140737488355328) := Lib.hid (by omega)
            have hzI : (0 : Int) < (nb : Int) := by omega
            clear HP HPB
            go_wp2_with (at_builtin; refine wpList_append_own _ rfl _ _ 37 rfl (w.heap.size + 1) 9 i0 (.string ⟨#[]⟩) 1 16 Try.underlying37 HI.out.1 HI.out.2.1 HI.out.2.2.1 HI.out.2.2.2 rfl (by decide) _ _ _ rfl (HO2.out.alloc _) ⟨w1.heap.size, 0, none⟩ 1 1 [.string rs[k].why] rfl rfl (new1 w1 _ _) (one1 _) H63.out H64.out (Nat.le_trans H5.out (Below.alloc (Below.refl 0 w1) (Nat.zero_le _) _).size) ?_; intro v3 w3 hown3 hgrow3 hnil3)
            have HB4 : Hid (Below w.heap.size w w3) := Lib.hid (own_below2 (HO2.out.alloc _) (Bal HB2.out _) (by omega) hgrow3)
            have HX4 := Lib.hid (grown_blk (HO2.out.alloc _) (blk_alloc HX2.out _) (by omega) hgrow3)
            have HO4 := Lib.hid hown3
            clear hown3 hgrow3 hnil3
            go_wp2_with fail
            refine ⟨⟨k + 1, by omega, by go_num, HB4, HX4, Lib.hid ?_⟩, by simp [intOf]; omega⟩
            rw [Fp.out, stc_append, List.length_append]
            exact HO4.out
          · have Fp : Hid (excTo l rs (k + 1) = excTo l rs k) := Lib.hid (by rw [HP.out, HPB.out, if_neg (by simpa using hz), List.append_nil])
            obtain rfl : nb = 0 := by omega
            clear HP HPB
            go_wp2_with fail
            refine ⟨⟨k + 1, by omega, by go_num, HB2, HX2, Lib.hid ?_⟩, by simp [intOf]; omega⟩
            rw [Fp.out]
            exact HO2.out
        · have he2 : rs[k].why.toList = [] := List.isEmpty_iff.1 he
          have Fp : Hid (excTo l rs (k + 1) = excTo l rs k) := Lib.hid (by rw [HP.out, he]; simp)
          go_wp2_with fail
          refine ⟨⟨k + 1, by omega, by go_num, HB, HX, Lib.hid ?_⟩, by simp [intOf]; omega⟩
          rw [Fp.out]
          exact HO.out
      · obtain rfl : k = rs.length := by omega
        go_wp2_with fail
        go_ret2
        exact ⟨_, rfl, by rw [F.out]; exact HO.out.mono (by omega), HB.out⟩
  · have F : Hid (exL l rs = []) := Lib.hid (by unfold exL; rw [if_neg hE])
    generalize exL l rs = L at *
    generalize checkE l rs = ce at *
    have hne : (ce != 0) = true := by simpa using hE
    go_enter Try.func16, Try.ntmps16
    go_wp2_with fail
    refine (CK.out _ (Bal (Below.refl _ _) _)).mono ?_
    rintro e w1 ⟨rfl, hb⟩
    have HB : Hid (Below w.heap.size w w1) := Lib.hid (Bgo (Bal (Below.refl _ _) _) hb)
    clear hb
    go_wp2_with fail
    go_ret2
    exact ⟨_, rfl, by rw [F.out]; exact World.ownsRow_nil _ _ _ _, HB.out⟩
end Go.Proofs.Ythmfjlphmamegaa
