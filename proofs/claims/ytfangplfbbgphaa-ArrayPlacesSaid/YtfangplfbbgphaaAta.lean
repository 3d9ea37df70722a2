/- Plain law of layer 4: the places of stations are small vectors; their differences have no error. -/
import Derived.Test.YtfangplfbbgphaaAru
namespace Go.Proofs.Ytfangplfbbgphaa
open Go.ChangeShapes Go.WideShapes Go.ChangeAt Go.RowKit
set_option linter.unusedVariables false
structure SmV (v : V6) : Prop where
  x : VF v.x1 v.x2
  y : VF v.y1 v.y2
  z : VF v.z1 v.z2
  lx : LE v.x1 v.x2 640000000
  ly : LE v.y1 v.y2 640000000
  lz : LE v.z1 v.z2 640000000
theorem VF.ok {n d : Int} (h : VF n d) : okF n d = true := by
  have := h.err
  unfold errF at this
  split at this
  · assumption
  · omega
theorem SmV.ok {v : V6} (h : SmV v) : okV v = true := by
  unfold okV
  rw [h.x.ok, h.y.ok, h.z.ok]; rfl
theorem sub_small {an ad bn bd : Int} (va : VF an ad) (vb : VF bn bd) (ha : LE an ad 640000000) (hb : LE bn bd 640000000) : (subR an ad bn bd).2.2 = 0 := by
  unfold subR
  rw [if_pos (va.both vb), addF_red va vb.neg]
  have h1 := Nat.mul_le_mul ha.1 hb.2
  have h2 := Nat.mul_le_mul hb.1 ha.2
  have h3 := Nat.mul_le_mul ha.2 hb.2
  have d1 := va.d1
  have d2 := vb.d1
  have hN : (an * bd + -bn * ad).natAbs ≤ 1000000000000000000 := by
    have e1 : (an * bd).natAbs ≤ 640000000 * 640000000 := by rw [Int.natAbs_mul]; exact h1
    have e2 : (-bn * ad).natAbs ≤ 640000000 * 640000000 := by rw [Int.natAbs_mul, Int.natAbs_neg]; exact h2
    omega
  obtain ⟨n, d, e, _, _⟩ := redF_small (N := an * bd + -bn * ad) (D := ad.natAbs * bd.natAbs) (m := 1000000000000000000) hN (by omega) (Nat.mul_pos (by omega) (by omega)) (by omega)
  rw [e]
theorem SmV.sub {v u : V6} (hv : SmV v) (hu : SmV u) : SubOk v u := ⟨hv.ok, hu.ok, sub_small hv.x hu.x hv.lx hu.lx, sub_small hv.y hu.y hv.ly hu.ly, sub_small hv.z hu.z hv.lz hu.lz⟩
theorem plV_small {A B : Int} {s : St} (hg : errG A B = 0) (hx : valS s = true) : SmV (plV A B s) := by
  have hp := valS_pl hx
  have hs : prmB s.sn s.sd = true ∧ prmB s.tn s.td = true := by
    unfold plB at hp
    simp only [Bool.and_eq_true] at hp
    exact ⟨hp.1, hp.2.1⟩
  have hok : okG A B := by
    unfold errG at hg
    split at hg
    · assumption
    · omega
  obtain ⟨_, _, _, _, _, _, _, _, s1, s2, s3, s4⟩ := pair_facts hs.1
  obtain ⟨_, _, _, _, _, _, _, _, t1, t2, t3, t4⟩ := pair_facts hs.2
  obtain ⟨g1, g2, g3, g4⟩ := hok
  obtain ⟨va, la⟩ := vf_axis g1 g2
  obtain ⟨vb, lb⟩ := vf_axis g3 g4
  obtain ⟨wn, wd, hw, vw, lw⟩ := mul_small va (vf_ok s1) la (vf_LE s3) (m := 800000) (by decide) (by decide)
  obtain ⟨xn, xd, hx, vx, lx⟩ := mul_small vw (vf_ok t1) lw (vf_LE t3) (m := 640000000) (by decide) (by decide)
  obtain ⟨yn, yd, hy, vy, ly⟩ := mul_small vw (vf_ok t2) lw (vf_LE t4) (m := 640000000) (by decide) (by decide)
  obtain ⟨zn, zd, hz, vz, lz⟩ := mul_small vb (vf_ok s2) lb (vf_LE s4) (m := 800000) (by decide) (by decide)
  have ew : wdR A s.sn s.sd = (wn, wd, 0) := hw
  have ex : plX A s.sn s.sd s.tn s.td = (xn, xd, 0) := by unfold plX; rw [ew]; exact hx
  have ey : plY A s.sn s.sd s.tn s.td = (yn, yd, 0) := by unfold plY; rw [ew]; exact hy
  have ez : plZ B s.sn s.sd = (zn, zd, 0) := hz
  have lz' : LE zn zd 640000000 := by unfold LE at lz ⊢; omega
  unfold plV
  rw [ex, ey, ez]
  exact ⟨vx, vy, vz, lx, ly, lz'⟩
theorem plE_ok {A B : Int} {l : List St} (h : plE A B l = 0) : errG A B = 0 ∧ stsE l = 0 ∧ dupB (pls A B l) = false := by
  unfold plE at h
  split at h
  · omega
  · split at h
    · omega
    · split at h
      · omega
      · rename_i h1 h2 h3
        exact ⟨by omega, by omega, by simpa using h3⟩
theorem line_ok {A B : Int} {l : List St} (h : plE A B l = 0) {s t : St} (hs : s ∈ l) (ht : t ∈ l) : SubOk (plV A B t) (plV A B s) := by
  obtain ⟨hg, hv, _⟩ := plE_ok h
  have := (stsE_ok hv).2
  exact (plV_small hg (this t ht)).sub (plV_small hg (this s hs))
/- baselines -/
def zV : V6 := ⟨0, 0, 0, 0, 0, 0⟩
def inB (i : Int) (n : Nat) : Bool := decide (0 ≤ i) && decide (i < n)
def liE (A B : Int) (l : List St) (i j : Int) : Int := if plE A B l ≠ 0 then plE A B l else if inB i l.length && inB j l.length then 0 else 2
def liV (A B : Int) (l : List St) (i j : Int) : V6 := if liE A B l i j = 0 then (match l[i.toNat]?, l[j.toNat]? with | some s, some t => subV (plV A B t) (plV A B s) | _, _ => zV) else zV
end Go.Proofs.Ytfangplfbbgphaa
