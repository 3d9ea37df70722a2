/- Plain law of layer 4: the place of two parameters has no error, and is the same in both orders of the factors. -/
import Derived.Test.YtfangplfbbgphaaArd
namespace Go.Proofs.Ytfangplfbbgphaa
open Go.ChangeShapes Go.WideShapes Go.ChangeAt Go.RowKit
set_option linter.unusedVariables false
def LE (n d : Int) (m : Nat) : Prop := n.natAbs ≤ m ∧ d.natAbs ≤ m
theorem redF_small {N : Int} {D m : Nat} (hN : N.natAbs ≤ m) (hD : D ≤ m) (h0 : 0 < D) (hm : m ≤ 1000000000000000000) : ∃ n d : Int, redF N D = (n, d, 0) ∧ VF n d ∧ LE n d m := by
  have a := Nat.div_le_self N.natAbs (Nat.gcd N.natAbs D)
  have b := Nat.div_le_self D (Nat.gcd N.natAbs D)
  have key : ∃ n d : Int, redF N D = (n, d, 0) ∧ LE n d m := by
    unfold redF lowF
    generalize N.natAbs / Nat.gcd N.natAbs D = x at *
    generalize D / Nat.gcd N.natAbs D = y at *
    rw [if_neg (by omega)]
    refine ⟨_, _, rfl, ?_, ?_⟩
    · split <;> omega
    · omega
  obtain ⟨n, d, h1, h2⟩ := key
  exact ⟨n, d, h1, (redF_val h0 h1 rfl).1, h2⟩
theorem mul_small {an ad bn bd : Int} {p q m : Nat} (va : VF an ad) (vb : VF bn bd) (ha : LE an ad p) (hb : LE bn bd q) (e : p * q = m) (hm : m ≤ 1000000000000000000) : ∃ n d : Int, mulR an ad bn bd = (n, d, 0) ∧ VF n d ∧ LE n d m := by
  unfold mulR
  rw [if_pos (va.both vb), mulF_red va vb]
  have h1 := Nat.mul_le_mul ha.1 hb.1
  have h2 := Nat.mul_le_mul ha.2 hb.2
  have h3 := va.d1
  have h4 := vb.d1
  exact redF_small (by rw [Int.natAbs_mul]; omega) (by omega) (Nat.mul_pos (by omega) (by omega)) hm
theorem mulR_comm {an ad bn bd : Int} (va : VF an ad) (vb : VF bn bd) : mulR bn bd an ad = mulR an ad bn bd := by
  unfold mulR
  rw [if_pos (va.both vb), if_pos (vb.both va), mulF_red va vb, mulF_red vb va, Int.mul_comm, Nat.mul_comm]
theorem vf_ok {n d : Int} (h : okF n d = true) : VF n d := errF_ok (by unfold errF; rw [if_pos h])
theorem vf_LE {n d : Int} (h : vfB n d 800 = true) : LE n d 800 := by
  unfold vfB at h
  simp only [Bool.and_eq_true, decide_eq_true_eq] at h
  unfold LE; omega
theorem vf_axis {a : Int} (h1 : 1 ≤ a) (h2 : a ≤ 1000) : VF a 1 ∧ LE a 1 1000 := ⟨⟨by omega, by omega, by omega, by omega, by simp⟩, by unfold LE; omega⟩
/- the place of two parameters on a globe -/
def wdR (A n d : Int) : Int × Int × Int := mulR A 1 (arC n d).1 (arC n d).2.1
def plX (A n d m k : Int) : Int × Int × Int := mulR (wdR A n d).1 (wdR A n d).2.1 (arC m k).1 (arC m k).2.1
def plY (A n d m k : Int) : Int × Int × Int := mulR (wdR A n d).1 (wdR A n d).2.1 (arK m k).1 (arK m k).2.1
def plZ (B n d : Int) : Int × Int × Int := mulR B 1 (arK n d).1 (arK n d).2.1
structure Placed (A B n d m k : Int) : Prop where
  w : (wdR A n d).2.2 = 0
  w' : mulR (arC n d).1 (arC n d).2.1 A 1 = wdR A n d
  x : (plX A n d m k).2.2 = 0
  y : (plY A n d m k).2.2 = 0
  z : (plZ B n d).2.2 = 0
  z' : mulR (arK n d).1 (arK n d).2.1 B 1 = plZ B n d
  vx : VF (plX A n d m k).1 (plX A n d m k).2.1
  vy : VF (plY A n d m k).1 (plY A n d m k).2.1
  vz : VF (plZ B n d).1 (plZ B n d).2.1
theorem placed {A B n d m k : Int} (hg : okG A B) (hs : prmB n d = true) (ht : prmB m k = true) : Placed A B n d m k := by
  obtain ⟨_, _, _, _, _, _, _, _, s1, s2, s3, s4⟩ := pair_facts hs
  obtain ⟨_, _, _, _, _, _, _, _, t1, t2, t3, t4⟩ := pair_facts ht
  obtain ⟨g1, g2, g3, g4⟩ := hg
  obtain ⟨va, la⟩ := vf_axis g1 g2
  obtain ⟨vb, lb⟩ := vf_axis g3 g4
  obtain ⟨wn, wd, hw, vw, lw⟩ := mul_small va (vf_ok s1) la (vf_LE s3) (m := 800000) (by decide) (by decide)
  obtain ⟨xn, xd, hx, vx, _⟩ := mul_small vw (vf_ok t1) lw (vf_LE t3) (m := 640000000) (by decide) (by decide)
  obtain ⟨yn, yd, hy, vy, _⟩ := mul_small vw (vf_ok t2) lw (vf_LE t4) (m := 640000000) (by decide) (by decide)
  obtain ⟨zn, zd, hz, vz, _⟩ := mul_small vb (vf_ok s2) lb (vf_LE s4) (m := 800000) (by decide) (by decide)
  have ew : wdR A n d = (wn, wd, 0) := hw
  have ex : plX A n d m k = (xn, xd, 0) := by unfold plX; rw [ew]; exact hx
  have ey : plY A n d m k = (yn, yd, 0) := by unfold plY; rw [ew]; exact hy
  have ez : plZ B n d = (zn, zd, 0) := hz
  exact ⟨by rw [ew], mulR_comm va (vf_ok s1), by rw [ex], by rw [ey], by rw [ez], mulR_comm vb (vf_ok s2), by rw [ex]; exact vx, by rw [ey]; exact vy, by rw [ez]; exact vz⟩
end Go.Proofs.Ytfangplfbbgphaa
