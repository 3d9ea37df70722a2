/- Contracts of layer 43: places of names in the reference, and checks of plans. -/
import Derived.Test.YthmfjlphmamegaaPlt
import Derived.Deep.RegionWith
namespace Go.Proofs.Ythmfjlphmamegaa
open Go.ChangeShapes Go.WideShapes Go.ChangeAt Go.RowKit
set_option linter.unusedVariables false

abbrev Pv (a : Option Addr) (n c : Nat) (a' : Option Addr) (n' c' : Nat) : Value := .agg #[.slice a n c, .slice a' n' c']

set_option maxHeartbeats 1000000 in
theorem index_calls (a : Option Addr) (cap : Nat) (l : List Slt) (a' : Option Addr) (n' c' : Nat) (nm : ByteArray) (w : World) (hn : l.length ≤ cap) (hcap : cap ≤ 9223372036854775807) (hs : SlotsIn w a l) :
    Calls Try.prog 31 #[Pv a l.length cap a' n' c', .string nm] w fun e w' => e = .returned (.int .i64 (findI l nm)) ∧ Below w.heap.size w w' := by
  generalize hv : findI l nm = v
  have HV := Lib.hid hv
  have HS := Lib.hid (hs.next (Bal (Below.refl w.heap.size w) (.cells #[.slice a l.length cap, .slice a' n' c'] 25)))
  clear hs hv
  go_enter Try.func31, Try.ntmps31
  go_wp2_with fail
  go_loop [5] (fun i => ∃ k : Nat, k ≤ l.length ∧ i = .int .i64 k ∧ Hid (∀ j (h : j < l.length), j < k → (l[j].name.toList == nm.toList) = false)) (fun i => l.length - (intOf i).toNat)
  case atStart => exact ⟨0, by omega, rfl, Lib.hid (by omega)⟩
  case round =>
    obtain ⟨k, hk, rfl, HN⟩ := hrel
    by_cases hlt : k < l.length
    · obtain ⟨b, off, rfl, hl, hc⟩ := HS.out k hlt
      obtain ⟨c0, c1, c2, c3⟩ := hc
      cases he : (l[k].name.toList == nm.toList)
      · have HE := Lib.hid he
        go_wp2_with fail
        refine ⟨⟨k + 1, by omega, by go_num, Lib.hid ?_⟩, by simp [intOf]; omega⟩
        intro j hj hjk
        by_cases e : j = k
        · subst e; exact HE.out
        · exact HN.out j hj (by omega)
      · have HE := Lib.hid he
        go_wp2_with fail
        go_ret
        refine ⟨ret_int ?_, Bal (Below.refl _ _) _⟩
        have e1 := findN_at hlt HN.out HE.out
        rw [← HV.out]
        unfold findI
        rw [e1, if_pos hlt]
    · obtain rfl : k = l.length := by omega
      go_wp2_with fail
      go_ret
      refine ⟨ret_int ?_, Bal (Below.refl _ _) _⟩
      have e1 := findN_none (l := l) (nm := nm) (fun j hj => HN.out j hj hj)
      rw [← HV.out]
      unfold findI
      rw [e1, if_neg (by omega)]

def d0 : Slt := ⟨.empty, 0, 0, 0⟩
def dupB (l : List Slt) : Bool := (List.range l.length).any fun i => (List.range i).any fun j => (l.getD j d0).name.toList == (l.getD i d0).name.toList
theorem dup_of {l : List Slt} {i j : Nat} (hi : i < l.length) (hj : j < i) (he : (l[j].name.toList == l[i].name.toList) = true) : dupB l = true := by
  unfold dupB
  rw [List.any_eq_true]
  refine ⟨i, by simpa using hi, ?_⟩
  rw [List.any_eq_true]
  refine ⟨j, by simpa using hj, ?_⟩
  simpa [List.getD_eq_getElem?_getD, List.getElem?_eq_getElem hi, List.getElem?_eq_getElem (show j < l.length by omega)] using he
theorem not_dup_of {l : List Slt} (h : ∀ i (hi : i < l.length) j (hj : j < i), (l[j].name.toList == l[i].name.toList) = false) : dupB l = false := by
  unfold dupB
  rw [List.any_eq_false]
  intro i hi
  have hi' : i < l.length := by simpa using hi
  rw [List.any_eq_true]
  rintro ⟨j, hj, he⟩
  have hj' : j < i := by simpa using hj
  have := h i hi' j hj'
  simp [List.getD_eq_getElem?_getD, List.getElem?_eq_getElem hi', List.getElem?_eq_getElem (show j < l.length by omega)] at he
  simp [he] at this
def checkE (l : List Slt) (rs : List Rul) : Int :=
  if 20 < l.length ∨ 20 < rs.length then 4 else if dupB l then 14 else if l.all slotB && rs.all ruleB then 0 else 8
theorem findI_take {l : List Slt} {i : Nat} (hi : i < l.length) (nm : ByteArray) : 0 ≤ findI (l.take i) nm ↔ ∃ j, ∃ (h : j < l.length), j < i ∧ (l[j].name.toList == nm.toList) = true := by
  constructor
  · intro h
    by_cases hc : ∃ j, ∃ (h : j < l.length), j < i ∧ (l[j].name.toList == nm.toList) = true
    · exact hc
    · exfalso
      have : findN (l.take i) nm = (l.take i).length := findN_none (fun j hj => by
        have hj' : j < i ∧ j < l.length := by simp at hj; omega
        cases e : ((l.take i)[j].name.toList == nm.toList)
        · rfl
        · exact absurd ⟨j, hj'.2, hj'.1, by simpa using e⟩ hc)
      unfold findI at h
      rw [this, if_neg (by omega)] at h
      omega
  · rintro ⟨j, hj, hji, he⟩
    have : findN (l.take i) nm ≠ (l.take i).length := by
      intro hh
      have key : ∀ (l : List Slt) (j : Nat) (hj : j < l.length), (l[j].name.toList == nm.toList) = true → findN l nm ≤ j := by
        intro l
        induction l with
        | nil => intro j hj; simp at hj
        | cons x l ih =>
          intro j hj he
          rw [findN_cons]
          cases j with
          | zero => simp at he; simp [he]
          | succ j =>
            split
            · omega
            · have := ih j (by simpa using hj) he
              omega
      have h1 := key (l.take i) j (by simp; omega) (by simpa using he)
      simp at hh
      omega
    have hle := findN_le (l.take i) nm
    unfold findI
    rw [if_pos (by omega)]
    omega
end Go.Proofs.Ythmfjlphmamegaa
