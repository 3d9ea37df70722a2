/- Contracts of layer 43: breaches by two slots of a station. -/
import Derived.Test.YthmfjlphmamegaaPls
import Derived.OwnWalk
import Derived.Laws.AppendOwn
import Derived.Laws.OwnMore
import Derived.Deep.Onto
namespace Go.Proofs.Ythmfjlphmamegaa
open Go.ChangeShapes Go.WideShapes Go.ChangeAt Go.RowKit
set_option linter.unusedVariables false

/- valid times -/
def Tm (s : Slt) : Prop := 0 ≤ s.fr ∧ s.fr ≤ 1000 ∧ 0 ≤ s.to ∧ s.to ≤ 1000
def Tms (l : List Slt) : Prop := ∀ i (h : i < l.length), Tm l[i]
def meetB (s t : Slt) (rest : Int) : Bool := decide (t.fr < s.to + rest) && decide (s.fr < t.to + rest)

theorem meet_calls (s t : Slt) (rest : Int) (hs : Tm s) (ht : Tm t) (h0 : 0 ≤ rest) (h1 : rest ≤ 1000) (w : World) :
    Calls Try.prog 50 #[Sv s, Sv t, .int .i64 rest] w fun e w' => e = .returned (.bool (meetB s t rest)) ∧ Below w.heap.size w w' := by
  obtain ⟨s1, s2, s3, s4⟩ := hs
  obtain ⟨t1, t2, t3, t4⟩ := ht
  generalize hv : meetB s t rest = v
  have HV := Lib.hid hv
  clear hv
  by_cases c : t.fr < s.to + rest
  · have F : Hid (v = decide (s.fr < t.to + rest)) := Lib.hid (by rw [← HV.out]; unfold meetB; rw [decide_eq_true c]; rfl)
    have d : decide (t.fr < s.to + rest) = true := by simpa using c
    go_enter Try.func50, Try.ntmps50
    go_wp2_with fail
    first | (go_quiet (fail); go_wp2_with fail) | skip
    go_ret
    exact ⟨ret_bool F.out.symm, by repeat (first | exact Below.refl _ _ | refine Bal ?_ _ | refine below_drewN ?_ _)⟩
  · have F : Hid (v = false) := Lib.hid (by rw [← HV.out]; unfold meetB; rw [decide_eq_false c]; rfl)
    have d : decide (t.fr < s.to + rest) = false := by simpa using c
    go_enter Try.func50, Try.ntmps50
    go_wp2_with fail
    first | (go_quiet (fail); go_wp2_with fail) | skip
    go_ret
    exact ⟨ret_bool F.out.symm, by repeat (first | exact Below.refl _ _ | refine Bal ?_ _ | refine below_drewN ?_ _)⟩
theorem refNear_calls (s t : Slt) (rest : Int) (hs : Tm s) (ht : Tm t) (h0 : 0 ≤ rest) (h1 : rest ≤ 1000) (w : World) :
    Calls Try.prog 51 #[Sv s, Sv t, .int .i64 rest] w fun e w' => e = .returned (.bool (meetB s t rest)) ∧ Below w.heap.size w w' := by
  obtain ⟨s1, s2, s3, s4⟩ := hs
  obtain ⟨t1, t2, t3, t4⟩ := ht
  generalize hv : meetB s t rest = v
  have HV := Lib.hid hv
  clear hv
  by_cases c : t.fr < s.to + rest
  · have F : Hid (v = decide (s.fr < t.to + rest)) := Lib.hid (by rw [← HV.out]; unfold meetB; rw [decide_eq_true c]; rfl)
    have d : decide (t.fr < s.to + rest) = true := by simpa using c
    go_enter Try.func51, Try.ntmps51
    go_wp2_with fail
    first | (go_quiet (fail); go_wp2_with fail) | skip
    go_ret
    exact ⟨ret_bool F.out.symm, by repeat (first | exact Below.refl _ _ | refine Bal ?_ _ | refine below_drewN ?_ _)⟩
  · have F : Hid (v = false) := Lib.hid (by rw [← HV.out]; unfold meetB; rw [decide_eq_false c]; rfl)
    have d : decide (t.fr < s.to + rest) = false := by simpa using c
    go_enter Try.func51, Try.ntmps51
    go_wp2_with fail
    first | (go_quiet (fail); go_wp2_with fail) | skip
    go_ret
    exact ⟨ret_bool F.out.symm, by repeat (first | exact Below.refl _ _ | refine Bal ?_ _ | refine below_drewN ?_ _)⟩

abbrev Bre := Int × Int × Int
def bre (l : List Bre) : List Value := l.flatMap fun x => [.int .i64 x.1, .int .i64 x.2.1, .int .i64 x.2.2]
theorem bre_length (l : List Bre) : (bre l).length = l.length * 3 := by
  induction l with
  | nil => rfl
  | cons x l ih => simp only [bre, List.flatMap_cons, List.length_append, List.length_cons, List.length_nil] at *; omega
theorem bre_append (l m : List Bre) : bre (l ++ m) = bre l ++ bre m := by simp [bre]
def ListPost (w : World) (L : List Bre) (e : Ending) (w' : World) : Prop := ∃ v, e = .returned v ∧ w'.ownsRow w.heap.size 68 3 v L.length (bre L) ∧ Below w.heap.size w w'
theorem infoB : (Try.prog.info? 68).map (fun i => (i.zero, i.size, i.bytes)) = some (some (.agg #[.int .i64 0, .int .i64 0, .int .i64 0]), 3, 24) := by kernel_rfl

def pairB (l : List Slt) (station rest : Int) (i j : Nat) : Bool := ((l.getD i d0).st == (l.getD j d0).st) && ((decide (station < 0) || ((l.getD i d0).st == station)) && meetB (l.getD i d0) (l.getD j d0) rest)
def rowTo (l : List Slt) (rule station rest : Int) (i m : Nat) : List Bre := ((List.range m).filter fun j => decide (i < j) && pairB l station rest i j).map fun (j : Nat) => (rule, (i : Int), (j : Int))
def nearTo (l : List Slt) (rule station rest : Int) (k : Nat) : List Bre := (List.range k).flatMap fun i => rowTo l rule station rest i l.length
def nearL (l : List Slt) (rule station rest : Int) : List Bre := nearTo l rule station rest l.length
theorem rowTo_start (l : List Slt) (rule station rest : Int) (i : Nat) : rowTo l rule station rest i (i + 1) = [] := by
  unfold rowTo
  rw [List.map_eq_nil_iff, List.filter_eq_nil_iff]
  intro j hj
  have : j < i + 1 := by simpa using hj
  simp; omega
theorem rowTo_succ (l : List Slt) (rule station rest : Int) (i m : Nat) (h : i < m) : rowTo l rule station rest i (m + 1) = rowTo l rule station rest i m ++ (if pairB l station rest i m then [(rule, (i : Int), (m : Int))] else []) := by
  unfold rowTo
  rw [List.range_succ, List.filter_append, List.map_append]
  congr 1
  cases hp : pairB l station rest i m <;> simp [hp, h]
theorem nearTo_succ (l : List Slt) (rule station rest : Int) (k : Nat) : nearTo l rule station rest (k + 1) = nearTo l rule station rest k ++ rowTo l rule station rest k l.length := by
  unfold nearTo
  rw [List.range_succ, List.flatMap_append]; simp
theorem rowTo_len (l : List Slt) (rule station rest : Int) (i m : Nat) : (rowTo l rule station rest i m).length ≤ m := by
  unfold rowTo
  rw [List.length_map]
  exact Nat.le_trans (List.length_filter_le _ _) (by simp)
theorem nearTo_len (l : List Slt) (rule station rest : Int) (k : Nat) : (nearTo l rule station rest k).length ≤ k * l.length := by
  induction k with
  | zero => simp [nearTo]
  | succ k ih =>
    rw [nearTo_succ, List.length_append, Nat.succ_mul]
    have := rowTo_len l rule station rest k l.length
    omega
theorem getD_eq {l : List Slt} {i : Nat} (h : i < l.length) : l.getD i d0 = l[i] := by
  simp [List.getD_eq_getElem?_getD, List.getElem?_eq_getElem h]
end Go.Proofs.Ythmfjlphmamegaa
