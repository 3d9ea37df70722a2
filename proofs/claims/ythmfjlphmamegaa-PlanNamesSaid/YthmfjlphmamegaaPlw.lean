/- Contracts of the small functions of layer 43: names, places of names, valid slots. -/
import Derived.Test.YthmfjlphmamegaaPld
namespace Go.Proofs.Ythmfjlphmamegaa
open Go.ChangeShapes Go.WideShapes Go.ChangeAt Go.RowKit
set_option linter.unusedVariables false

set_option maxHeartbeats 1000000 in
theorem find_calls (a : Option Addr) (cap : Nat) (l : List Slt) (nm : ByteArray) (w : World) (hn : l.length ≤ cap) (hcap : cap ≤ 9223372036854775807) (hs : SlotsIn w a l) :
    Calls Try.prog 41 #[.slice a l.length cap, .string nm] w fun e w' => e = .returned (.int .i64 (findI l nm)) ∧ Below w.heap.size w w' := by
  generalize hv : findI l nm = v
  have HV := Lib.hid hv
  have HS := Lib.hid hs
  clear hs hv
  go_enter Try.func41, Try.ntmps41
  go_wp2_with fail
  go_loopw [9] (fun i wr => ∃ k : Nat, k ≤ l.length ∧ i = .int .i64 k ∧ Hid (Below w.heap.size w wr) ∧ Hid (∀ j (h : j < l.length), j < k → (l[j].name.toList == nm.toList) = false)) (fun i _ => l.length - (intOf i).toNat)
  case atStart => exact ⟨0, by omega, rfl, Lib.hid (Below.refl _ _), Lib.hid (by omega)⟩
  case round =>
    obtain ⟨k, hk, rfl, HB, HN⟩ := hrel
    by_cases hlt : k < l.length
    · obtain ⟨b, off, rfl, hl, hc⟩ := (HS.out.next HB.out) k hlt
      obtain ⟨c0, c1, c2, c3⟩ := hc
      cases he : (l[k].name.toList == nm.toList)
      · have HE := Lib.hid he
        go_wp2_with fail
        refine ⟨⟨k + 1, by omega, by go_num, Lib.hid (Bal HB.out _), Lib.hid ?_⟩, by simp [intOf]; omega⟩
        intro j hj hjk
        by_cases e : j = k
        · subst e; exact HE.out
        · exact HN.out j hj (by omega)
      · have HE := Lib.hid he
        go_wp2_with fail
        go_ret
        refine ⟨ret_int ?_, Bal HB.out _⟩
        have e1 := findN_at hlt HN.out HE.out
        rw [← HV.out]
        unfold findI
        rw [e1, if_pos hlt]
    · obtain rfl : k = l.length := by omega
      go_wp2_with fail
      go_ret
      refine ⟨ret_int ?_, HB.out⟩
      have e1 := findN_none (l := l) (nm := nm) (fun j hj => HN.out j hj hj)
      rw [← HV.out]
      unfold findI
      rw [e1, if_neg (by omega)]

theorem all_upto {s : ByteArray} (h : ∀ j (hj : j < s.size), charB s[j] = true) : s.data.toList.all charB = true := by
  rw [List.all_eq_true]
  intro x hx
  obtain ⟨j, hj, rfl⟩ := List.mem_iff_getElem.1 hx
  have hj' : j < s.size := by simpa using hj
  have := h j hj'
  simpa [ByteArray.getElem_eq_getElem_data] using this
theorem not_all {s : ByteArray} {j : Nat} (hj : j < s.size) (h : charB s[j] = false) : s.data.toList.all charB = false := by
  rw [List.all_eq_false]
  refine ⟨s[j], ?_, by simp [h]⟩
  rw [ByteArray.getElem_eq_getElem_data]
  exact List.getElem_mem (l := s.data.toList) (by simpa using hj)
theorem head_get {s : ByteArray} (h : 0 < s.size) : s.data.toList.getD 0 0 = s[0] := by
  rw [ByteArray.getElem_eq_getElem_data, List.getD_eq_getElem?_getD, List.getElem?_eq_getElem (by simpa using h)]
  simp
theorem charB_of {x : UInt8} {c : Nat} (hc : x.toNat = c) (h : (97 ≤ c ∧ c ≤ 122) ∨ (48 ≤ c ∧ c ≤ 57) ∨ c = 45) : charB x = true := by
  unfold charB; rw [hc]; simp; omega
theorem charB_not {x : UInt8} {c : Nat} (hc : x.toNat = c) (h : ¬ ((97 ≤ c ∧ c ≤ 122) ∨ (48 ≤ c ∧ c ≤ 57) ∨ c = 45)) : charB x = false := by
  unfold charB; rw [hc]; simp; omega
theorem nameB_of {s : ByteArray} (h0 : 0 < s.size) (h1 : s.size ≤ 40) (h2 : 97 ≤ s[0].toNat) (h3 : s[0].toNat ≤ 122) : nameB s = s.data.toList.all charB := by
  unfold nameB
  rw [head_get h0, decide_eq_true (by omega), decide_eq_true h1, decide_eq_true h2, decide_eq_true h3]; rfl
theorem nameB_size {s : ByteArray} (h : s.size < 1 ∨ 40 < s.size) : nameB s = false := by
  unfold nameB
  rcases h with h | h
  · rw [decide_eq_false (by omega)]; rfl
  · rw [decide_eq_false (p := s.size ≤ 40) (by omega)]; simp
theorem nameB_head {s : ByteArray} (h0 : 0 < s.size) (h : s[0].toNat < 97 ∨ 122 < s[0].toNat) : nameB s = false := by
  unfold nameB
  rw [head_get h0]
  rcases h with h | h
  · rw [decide_eq_false (p := 97 ≤ s[0].toNat) (by omega)]; simp
  · rw [decide_eq_false (p := s[0].toNat ≤ 122) (by omega)]; simp

set_option maxHeartbeats 2000000 in
theorem isName_calls (s : ByteArray) (w : World) :
    Calls Try.prog 52 #[.string s] w fun e w' => e = .returned (.bool (nameB s)) ∧ w = w' := by
  generalize hv : nameB s = v
  have HV := Lib.hid hv
  clear hv
  by_cases h1 : s.size < 1
  · have F : Hid (v = false) := Lib.hid (by rw [← HV.out]; exact nameB_size (.inl h1))
    go_enter Try.func52, Try.ntmps52
    go_wp2_with fail
    go_ret
    exact ⟨ret_bool F.out.symm, rfl⟩
  by_cases h2 : 40 < s.size
  · have F : Hid (v = false) := Lib.hid (by rw [← HV.out]; exact nameB_size (.inr h2))
    go_enter Try.func52, Try.ntmps52
    go_wp2_with fail
    go_ret
    exact ⟨ret_bool F.out.symm, rfl⟩
  have h0 : 0 < s.size := by omega
  obtain ⟨c, hc⟩ : ∃ c : Nat, s[0].toNat = c := ⟨_, rfl⟩
  by_cases h3 : c < 97
  · have F : Hid (v = false) := Lib.hid (by rw [← HV.out]; exact nameB_head h0 (.inl (by omega)))
    go_enter Try.func52, Try.ntmps52
    go_wp2_with fail
    go_ret
    exact ⟨ret_bool F.out.symm, rfl⟩
  by_cases h4 : 122 < c
  · have F : Hid (v = false) := Lib.hid (by rw [← HV.out]; exact nameB_head h0 (.inr (by omega)))
    go_enter Try.func52, Try.ntmps52
    go_wp2_with fail
    go_ret
    exact ⟨ret_bool F.out.symm, rfl⟩
  have F : Hid (v = s.data.toList.all charB) := Lib.hid (by rw [← HV.out]; exact nameB_of h0 (by omega) (by omega) (by omega))
  go_enter Try.func52, Try.ntmps52
  go_wp2_with fail
  go_loop [3] (fun i => ∃ k : Nat, k ≤ s.size ∧ i = .int .i64 k ∧ Hid (∀ j (hj : j < s.size), j < k → charB s[j] = true)) (fun i => s.size - (intOf i).toNat)
  case atStart => exact ⟨0, by omega, rfl, Lib.hid (by omega)⟩
  case round =>
    obtain ⟨k, hk, rfl, HN⟩ := hrel
    by_cases hlt : k < s.size
    · have HC := Lib.hid hc
      clear hc h3 h4
      obtain ⟨c, hc⟩ : ∃ c : Nat, s[k].toNat = c := ⟨_, rfl⟩
      have HC2 := Lib.hid hc
      by_cases ok : (97 ≤ c ∧ c ≤ 122) ∨ (48 ≤ c ∧ c ≤ 57) ∨ c = 45
      · have HK := Lib.hid (charB_of hc ok)
        have ok' : ((97 ≤ c ∧ c ≤ 122) ∧ ((c : Int) != 45) = true) ∨ (c < 97 ∧ (48 ≤ c ∧ c ≤ 57) ∧ ((c : Int) != 45) = true) ∨ (c < 97 ∧ c < 48 ∧ ((c : Int) != 45) = false) := by
          rcases ok with ok | ok | ok
          · exact .inl ⟨ok, by rw [bne_iff_ne]; omega⟩
          · exact .inr (.inl ⟨by omega, ok, by rw [bne_iff_ne]; omega⟩)
          · exact .inr (.inr ⟨by omega, by omega, by rw [ok]; rfl⟩)
        clear ok
        rcases ok' with ⟨⟨o1, o2⟩, o3⟩ | ⟨o1, ⟨o2, o3⟩, o4⟩ | ⟨o1, o2, o3⟩
        all_goals
          go_wp2_with fail
          refine ⟨⟨k + 1, by omega, by go_num, Lib.hid ?_⟩, by simp [intOf]; omega⟩
          intro j hj hjk
          by_cases e : j = k
          · subst e; exact HK.out
          · exact HN.out j hj (by omega)
      · have HK := Lib.hid (charB_not hc ok)
        have o4 : ((c : Int) != 45) = true := by rw [bne_iff_ne]; omega
        have ok' : (c < 97 ∧ c < 48) ∨ (c < 97 ∧ 57 < c) ∨ (122 < c) := by omega
        clear ok
        rcases ok' with ⟨o1, o2⟩ | ⟨o1, o2⟩ | o1
        all_goals
          go_wp2_with fail
          go_ret
          refine ⟨ret_bool ?_, rfl⟩
          rw [F.out, not_all hlt HK.out]
    · obtain rfl : k = s.size := by omega
      go_wp2_with fail
      go_ret
      refine ⟨ret_bool ?_, rfl⟩
      rw [F.out, all_upto (fun j hj => HN.out j hj hj)]

set_option maxHeartbeats 2000000 in
theorem refName_calls (s : ByteArray) (w : World) :
    Calls Try.prog 46 #[.string s] w fun e w' => e = .returned (.bool (nameB s)) ∧ w = w' := by
  generalize hv : nameB s = v
  have HV := Lib.hid hv
  clear hv
  by_cases h1 : s.size < 1
  · have F : Hid (v = false) := Lib.hid (by rw [← HV.out]; exact nameB_size (.inl h1))
    go_enter Try.func46, Try.ntmps46
    go_wp2_with fail
    go_ret
    exact ⟨ret_bool F.out.symm, rfl⟩
  by_cases h2 : 40 < s.size
  · have F : Hid (v = false) := Lib.hid (by rw [← HV.out]; exact nameB_size (.inr h2))
    go_enter Try.func46, Try.ntmps46
    go_wp2_with fail
    go_ret
    exact ⟨ret_bool F.out.symm, rfl⟩
  have h0 : 0 < s.size := by omega
  obtain ⟨c, hc⟩ : ∃ c : Nat, s[0].toNat = c := ⟨_, rfl⟩
  by_cases h3 : c < 97
  · have F : Hid (v = false) := Lib.hid (by rw [← HV.out]; exact nameB_head h0 (.inl (by omega)))
    go_enter Try.func46, Try.ntmps46
    go_wp2_with fail
    go_ret
    exact ⟨ret_bool F.out.symm, rfl⟩
  by_cases h4 : 122 < c
  · have F : Hid (v = false) := Lib.hid (by rw [← HV.out]; exact nameB_head h0 (.inr (by omega)))
    go_enter Try.func46, Try.ntmps46
    go_wp2_with fail
    go_ret
    exact ⟨ret_bool F.out.symm, rfl⟩
  have F : Hid (v = s.data.toList.all charB) := Lib.hid (by rw [← HV.out]; exact nameB_of h0 (by omega) (by omega) (by omega))
  go_enter Try.func46, Try.ntmps46
  go_wp2_with fail
  go_loop [3] (fun i => ∃ k : Nat, k ≤ s.size ∧ i = .int .i64 k ∧ Hid (∀ j (hj : j < s.size), j < k → charB s[j] = true)) (fun i => s.size - (intOf i).toNat)
  case atStart => exact ⟨0, by omega, rfl, Lib.hid (by omega)⟩
  case round =>
    obtain ⟨k, hk, rfl, HN⟩ := hrel
    by_cases hlt : k < s.size
    · have HC := Lib.hid hc
      clear hc h3 h4
      obtain ⟨c, hc⟩ : ∃ c : Nat, s[k].toNat = c := ⟨_, rfl⟩
      have HC2 := Lib.hid hc
      by_cases ok : (97 ≤ c ∧ c ≤ 122) ∨ (48 ≤ c ∧ c ≤ 57) ∨ c = 45
      · have HK := Lib.hid (charB_of hc ok)
        have ok' : ((97 ≤ c ∧ c ≤ 122) ∧ ((c : Int) != 45) = true) ∨ (c < 97 ∧ (48 ≤ c ∧ c ≤ 57) ∧ ((c : Int) != 45) = true) ∨ (c < 97 ∧ c < 48 ∧ ((c : Int) != 45) = false) := by
          rcases ok with ok | ok | ok
          · exact .inl ⟨ok, by rw [bne_iff_ne]; omega⟩
          · exact .inr (.inl ⟨by omega, ok, by rw [bne_iff_ne]; omega⟩)
          · exact .inr (.inr ⟨by omega, by omega, by rw [ok]; rfl⟩)
        clear ok
        rcases ok' with ⟨⟨o1, o2⟩, o3⟩ | ⟨o1, ⟨o2, o3⟩, o4⟩ | ⟨o1, o2, o3⟩
        all_goals
          go_wp2_with fail
          refine ⟨⟨k + 1, by omega, by go_num, Lib.hid ?_⟩, by simp [intOf]; omega⟩
          intro j hj hjk
          by_cases e : j = k
          · subst e; exact HK.out
          · exact HN.out j hj (by omega)
      · have HK := Lib.hid (charB_not hc ok)
        have o4 : ((c : Int) != 45) = true := by rw [bne_iff_ne]; omega
        have ok' : (c < 97 ∧ c < 48) ∨ (c < 97 ∧ 57 < c) ∨ (122 < c) := by omega
        clear ok
        rcases ok' with ⟨o1, o2⟩ | ⟨o1, o2⟩ | o1
        all_goals
          go_wp2_with fail
          go_ret
          refine ⟨ret_bool ?_, rfl⟩
          rw [F.out, not_all hlt HK.out]
    · obtain rfl : k = s.size := by omega
      go_wp2_with fail
      go_ret
      refine ⟨ret_bool ?_, rfl⟩
      rw [F.out, all_upto (fun j hj => HN.out j hj hj)]
end Go.Proofs.Ythmfjlphmamegaa
