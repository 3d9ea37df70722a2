/- Plain laws: sums, products and quotients. -/
import Derived.Test.YtbbjclbpllfdeaaDoorCya
import Derived.Test.YtbbjclbpllfdeaaDoorCxt
namespace Go.Proofs.YtbbjclbpllfdeaaDoor
set_option linter.unusedVariables false
open Cxm
theorem chk_ne {a b c : Int} (h : chkB a b c = true) : c ≠ 0 := by have := chk_iff.1 h; omega
theorem sum_of {ar ai ad br bi bd : Int} (h : chkB ar ai ad = true) (h' : chkB br bi bd = true) : sumS ar ai ad br bi bd = made (ar * bd + br * ad) (ai * bd + bi * ad) (ad * bd) := by unfold sumS; rw [h, h']; rfl
theorem sub_of {ar ai ad br bi bd : Int} (h : chkB ar ai ad = true) (h' : chkB br bi bd = true) : subS ar ai ad br bi bd = made (ar * bd - br * ad) (ai * bd - bi * ad) (ad * bd) := by unfold subS; rw [h, h']; rfl
theorem mul_of {ar ai ad br bi bd : Int} (h : chkB ar ai ad = true) (h' : chkB br bi bd = true) : mulS ar ai ad br bi bd = made (ar * br - ai * bi) (ar * bi + ai * br) (ad * bd) := by unfold mulS; rw [h, h']; rfl
theorem sum_comm (ar ai ad br bi bd : Int) : sumS ar ai ad br bi bd = sumS br bi bd ar ai ad := by
  unfold sumS
  rw [Bool.and_comm (chkB ar ai ad), show ar * bd + br * ad = br * ad + ar * bd by omega, show ai * bd + bi * ad = bi * ad + ai * bd by omega, Int.mul_comm ad bd]
theorem mul_comm' (ar ai ad br bi bd : Int) : mulS ar ai ad br bi bd = mulS br bi bd ar ai ad := by
  unfold mulS
  rw [Bool.and_comm (chkB ar ai ad), show ar * br - ai * bi = br * ar - bi * ai by grind, show ar * bi + ai * br = br * ai + bi * ar by grind, Int.mul_comm ad bd]
theorem cancel {k a b : Int} (hk : k ≠ 0) (h : k * a = k * b) : a = b := Int.eq_of_mul_eq_mul_left hk h
section
variable {ar ai ad br bi bd cr ci cd x y z u v t p q s : Int}
theorem sum_assoc (ha : chkB ar ai ad = true) (hb : chkB br bi bd = true) (hc : chkB cr ci cd = true) (h1 : sumS ar ai ad br bi bd = (x, y, z, 0)) (h2 : sumS br bi bd cr ci cd = (u, v, t, 0)) :
    sumS x y z cr ci cd = sumS ar ai ad u v t := by
  rw [sum_of ha hb] at h1
  rw [sum_of hb hc] at h2
  obtain ⟨n1, k1, e1, f1⟩ := made_ok h1
  obtain ⟨n2, k2, e2, f2⟩ := made_ok h2
  have na := chk_ne ha
  have nb := chk_ne hb
  have nc := chk_ne hc
  have n3 := chk_ne k1
  have n4 := chk_ne k2
  rw [sum_of k1 hc, sum_of ha k2]
  refine cross (Int.mul_ne_zero n3 nc) (Int.mul_ne_zero na n4) (cancel nb ?_) (cancel nb ?_)
  · grind
  · grind
theorem mul_assoc' (ha : chkB ar ai ad = true) (hb : chkB br bi bd = true) (hc : chkB cr ci cd = true) (h1 : mulS ar ai ad br bi bd = (x, y, z, 0)) (h2 : mulS br bi bd cr ci cd = (u, v, t, 0)) :
    mulS x y z cr ci cd = mulS ar ai ad u v t := by
  rw [mul_of ha hb] at h1
  rw [mul_of hb hc] at h2
  obtain ⟨n1, k1, e1, f1⟩ := made_ok h1
  obtain ⟨n2, k2, e2, f2⟩ := made_ok h2
  have na := chk_ne ha
  have nb := chk_ne hb
  have nc := chk_ne hc
  have n3 := chk_ne k1
  have n4 := chk_ne k2
  rw [mul_of k1 hc, mul_of ha k2]
  refine cross (Int.mul_ne_zero n3 nc) (Int.mul_ne_zero na n4) (cancel nb ?_) (cancel nb ?_)
  · grind
  · grind
theorem dist_alg {A B P Q : Int} (h1 : x * (ad * bd) = A * z) (h2 : u * (ad * cd) = B * t) (h3 : p * (bd * cd) = P * s) (h4 : q * (bd * cd) = Q * s) (h5 : A * cd + B * bd = ar * P + ai * Q) :
    ad * (bd * cd) * ((x * t + u * z) * (ad * s)) = ad * (bd * cd) * ((ar * p + ai * q) * (z * t)) := by
  have e1 : ad * (bd * cd) * ((x * t + u * z) * (ad * s)) = ad * s * (x * (ad * bd) * (t * cd) + u * (ad * cd) * (z * bd)) := by clear h1 h2 h3 h4 h5; grind
  have e2 : ad * (bd * cd) * ((ar * p + ai * q) * (z * t)) = z * t * ad * (ar * (p * (bd * cd)) + ai * (q * (bd * cd))) := by clear e1 h1 h2 h3 h4 h5; grind
  rw [e1, e2, h1, h2, h3, h4]
  have e3 : ad * s * (A * z * (t * cd) + B * t * (z * bd)) = z * t * ad * s * (A * cd + B * bd) := by clear e1 e2 h1 h2 h3 h4 h5; grind
  rw [e3, h5]
  clear e1 e2 e3 h1 h2 h3 h4 h5
  grind
theorem distrib (ha : chkB ar ai ad = true) (hb : chkB br bi bd = true) (hc : chkB cr ci cd = true) (h1 : mulS ar ai ad br bi bd = (x, y, z, 0)) (h2 : mulS ar ai ad cr ci cd = (u, v, t, 0)) (h3 : sumS br bi bd cr ci cd = (p, q, s, 0)) :
    sumS x y z u v t = mulS ar ai ad p q s := by
  rw [mul_of ha hb] at h1
  rw [mul_of ha hc] at h2
  rw [sum_of hb hc] at h3
  obtain ⟨n1, k1, e1, f1⟩ := made_ok h1
  obtain ⟨n2, k2, e2, f2⟩ := made_ok h2
  obtain ⟨n3, k3, e3, f3⟩ := made_ok h3
  have na := chk_ne ha
  have nb := chk_ne hb
  have nc := chk_ne hc
  have m1 := chk_ne k1
  have m2 := chk_ne k2
  have m3 := chk_ne k3
  rw [sum_of k1 k2, mul_of ha k3]
  refine cross (Int.mul_ne_zero m1 m2) (Int.mul_ne_zero na m3) (cancel (Int.mul_ne_zero na (Int.mul_ne_zero nb nc)) ?_) (cancel (Int.mul_ne_zero na (Int.mul_ne_zero nb nc)) ?_)
  · have := dist_alg (ai := -ai) (ar := ar) e1 e2 e3 f3 (by clear e1 e2 e3 f1 f2 f3 h1 h2 h3; grind)
    rw [show ar * p - ai * q = ar * p + -ai * q by rw [Int.neg_mul]; rfl]
    exact this
  · have := dist_alg (ai := ai) (ar := ar) f1 f2 f3 e3 (by clear e1 e2 e3 f1 f2 f3 h1 h2 h3; grind)
    exact this
theorem sub_back (ha : chkB ar ai ad = true) (hb : chkB br bi bd = true) (h1 : subS ar ai ad br bi bd = (x, y, z, 0)) : sumS x y z br bi bd = (ar, ai, ad, 0) := by
  rw [sub_of ha hb] at h1
  obtain ⟨n1, k1, e1, f1⟩ := made_ok h1
  have na := chk_ne ha
  have nb := chk_ne hb
  have m1 := chk_ne k1
  rw [sum_of k1 hb, ← made_valid ha]
  refine cross (Int.mul_ne_zero m1 nb) na (cancel nb ?_) (cancel nb ?_)
  · grind
  · grind
end
/- the quotient -/
def divS (ar ai ad br bi bd : Int) : Int × Int × Int × Int :=
  if chkB ar ai ad && chkB br bi bd then
    (if br = 0 ∧ bi = 0 then (0, 0, 0, 18) else made ((ar * br + ai * bi) * bd) ((ai * br - ar * bi) * bd) ((br * br + bi * bi) * ad))
  else (0, 0, 0, 8)
theorem sq_pos {a b : Int} (h : ¬ (a = 0 ∧ b = 0)) : 1 ≤ a * a + b * b := by
  have h1 := sq_nonneg a
  have h2 := sq_nonneg b
  by_cases ha : a = 0
  · have hb : b ≠ 0 := fun k => h ⟨ha, k⟩
    have := Int.mul_ne_zero hb hb
    omega
  · have := Int.mul_ne_zero ha ha
    omega
theorem div_back {ar ai ad br bi bd x y z : Int} (h1 : divS ar ai ad br bi bd = (x, y, z, 0)) : mulS x y z br bi bd = (ar, ai, ad, 0) := by
  unfold divS at h1
  by_cases hv : (chkB ar ai ad && chkB br bi bd) = true
  rotate_left
  · rw [if_neg hv] at h1; cases h1
  rw [if_pos hv] at h1
  by_cases hz : br = 0 ∧ bi = 0
  · rw [if_pos hz] at h1; cases h1
  rw [if_neg hz] at h1
  obtain ⟨n1, k1, e1, f1⟩ := made_ok h1
  rw [Bool.and_eq_true] at hv
  have na := chk_ne hv.1
  have nb := chk_ne hv.2
  have m1 := chk_ne k1
  have sp := sq_pos hz
  have nn : br * br + bi * bi ≠ 0 := by omega
  rw [mul_of k1 hv.2, ← made_valid hv.1]
  refine cross (Int.mul_ne_zero m1 nb) na (cancel nn ?_) (cancel nn ?_)
  · grind
  · grind
theorem div_errs {ar ai ad br bi bd : Int} (ha : chkB ar ai ad = true) (hb : chkB br bi bd = true) : ((divS ar ai ad br bi bd).2.2.2 = 18 ↔ (br = 0 ∧ bi = 0)) := by
  unfold divS
  rw [ha, hb]
  by_cases hz : br = 0 ∧ bi = 0
  · simp [hz]
  · simp only [Bool.and_self, if_true, if_neg hz]
    have := sq_pos hz
    have na := chk_ne ha
    rcases made_err (re := (ar * br + ai * bi) * bd) (im := (ai * br - ar * bi) * bd) (den := (br * br + bi * bi) * ad) (Int.mul_ne_zero (by omega) na) with h | h
    · rw [h]; simp [hz]
    · rw [h]; simp [hz]
/- the program's quotient, by its parts -/
theorem div_parts {ar ai ad br bi bd p q n g p1 q1 n1 h d1 e1 k p2 q2 e2 l d2 n2 : Int} (h1 : chkB ar ai ad = true) (h2 : chkB br bi bd = true) (h3 : ¬ (br = 0 ∧ bi = 0))
    (ep : ar * br + ai * bi = p) (eq : ai * br - ar * bi = q) (en : br * br + bi * bi = n) (D : DivN p q n bd ad g p1 q1 n1 h d1 e1 k p2 q2 e2 l d2 n2) :
    divS ar ai ad br bi bd = divR p2 q2 n2 d2 e2 := by
  unfold divS
  rw [h1, h2]
  simp only [Bool.and_self, if_true, if_neg h3]
  rw [ep, eq, en, ← divR_made D.bn2.1 D.be2.1 D.red]
  have na := chk_ne h1
  have nb := chk_ne h2
  have hn : 1 ≤ n := by rw [← en]; exact sq_pos h3
  have dp : g ∣ p := by rw [← D.eg]; exact Int.dvd_trans (g2_dvdl _ _) (g2_dvdl _ _)
  have dq : g ∣ q := by rw [← D.eg]; exact Int.dvd_trans (g2_dvdl _ _) (g2_dvdr _ _)
  have dn : g ∣ n := by rw [← D.eg]; exact g2_dvdr _ _
  have dd : h ∣ bd := by rw [← D.eh]; exact g2_dvdl _ _
  have de : h ∣ ad := by rw [← D.eh]; exact g2_dvdr _ _
  have kp : k ∣ p1 := by rw [← D.ek]; exact Int.dvd_trans (g2_dvdl _ _) (g2_dvdl _ _)
  have kq : k ∣ q1 := by rw [← D.ek]; exact Int.dvd_trans (g2_dvdl _ _) (g2_dvdr _ _)
  have ke : k ∣ e1 := by rw [← D.ek]; exact g2_dvdr _ _
  have ld : l ∣ d1 := by rw [← D.el]; exact g2_dvdl _ _
  have ln : l ∣ n1 := by rw [← D.el]; exact g2_dvdr _ _
  have a1 := tdiv_sg dp
  have a2 := tdiv_sg dq
  have a3 := tdiv_sg dn
  have a4 := tdiv_sg dd
  have a5 := tdiv_sg de
  have a6 := tdiv_sg kp
  have a7 := tdiv_sg kq
  have a8 := tdiv_sg ke
  have a9 := tdiv_sg ld
  have a10 := tdiv_sg ln
  rw [D.ep1] at a1
  rw [D.eq1] at a2
  rw [D.en1] at a3
  rw [D.ed1] at a4
  rw [D.ee1] at a5
  rw [D.ep2] at a6
  rw [D.eq2] at a7
  rw [D.ee2] at a8
  rw [D.ed2] at a9
  rw [D.en2] at a10
  have b1 := D.bn2
  have b2 := D.be2
  clear ep eq en D dp dq dn dd de kp kq ke ld ln h1 h2 h3
  subst a1 a2 a3 a4 a5
  subst a6 a7 a8 a9 a10
  refine cross (Int.mul_ne_zero (by omega) na) (Int.mul_ne_zero (by omega) (by omega)) ?_ ?_
  · grind
  · grind
end Go.Proofs.YtbbjclbpllfdeaaDoor
