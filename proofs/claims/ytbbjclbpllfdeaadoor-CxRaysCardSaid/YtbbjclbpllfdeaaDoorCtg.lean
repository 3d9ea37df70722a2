/- Plain cases of layer 25's law on rays. -/
import Derived.Test.YtbbjclbpllfdeaaDoorCtf
namespace Go.Proofs.YtbbjclbpllfdeaaDoor
open Cxm
set_option linter.unusedVariables false
section
variable {ar ai ad br bi bd cr ci cd r1 r2 s1 s2 g h : Int}
theorem ray_chk (ha : chkB ar ai ad = true) (r : RAY ar ai r1 r2 g) : chkB r1 r2 1 = true ∧ g2 r1 r2 = 1 := by
  obtain ⟨h1, h2, h3, _⟩ := chk_iff.1 ha
  have o : g2 r1 r2 = 1 := by
    have := g2_nat r1 r2
    have := g2_nonneg r1 r2
    have := r.co
    omega
  have gp := r.gp
  have bd : ∀ x y : Int, -1000000000 ≤ x → x ≤ 1000000000 → x = y * g → -1000000000 ≤ y ∧ y ≤ 1000000000 := by
    intro x y a b e
    have n : x.natAbs = y.natAbs * g.natAbs := by rw [e, Int.natAbs_mul]
    have : y.natAbs * 1 ≤ y.natAbs * g.natAbs := Nat.mul_le_mul_left _ (by omega)
    omega
  have b1 := bd ar r1 h2.1 h2.2 r.ea
  have b2 := bd ai r2 h3.1 h3.2 r.eb
  refine ⟨chk_iff.2 ⟨by decide, b1, b2, ?_⟩, o⟩
  unfold g3
  rw [o]
  decide
theorem ray_val (ha : chkB ar ai ad = true) (hz : isZ ar ai = false) : ∃ r1 r2 g, RAY ar ai r1 r2 g ∧ rayS ar ai ad = (r1, r2, 1, 0) := by
  refine ⟨_, _, _, ray_of (isZ_no.1 hz), ?_⟩
  unfold rayS
  rw [if_pos ha, if_neg (isZ_no.1 hz)]
theorem ray_uniq (r : RAY ar ai r1 r2 g) (ha : chkB ar ai ad = true) (hz : isZ ar ai = false) : rayS ar ai ad = (r1, r2, 1, 0) := by
  obtain ⟨x, y, k, r', e⟩ := ray_val ha hz
  rw [e]
  obtain ⟨rfl, rfl⟩ := ray_scale r' r (K := 1) (Z := 1) (by decide) (by decide) rfl rfl
  rfl
/- the quotient's ray -/
theorem quot_same (ha : chkB ar ai ad = true) (hb : chkB br bi bd = true) (za : isZ ar ai = false) (zb : isZ br bi = false) (r : RAY ar ai r1 r2 g) (s : RAY br bi s1 s2 h) {x y z : Int} (hd : divS ar ai ad br bi bd = (x, y, z, 0)) :
    (r1 = s1 ∧ r2 = s2) ↔ (y = 0 ∧ 0 < x) := by
  rw [div_of ha hb zb] at hd
  obtain ⟨n0, k0, e1, e2⟩ := made_ok hd
  have sp := sq_pos (isZ_no.1 zb)
  have a1 := (chk_iff.1 ha).1
  have b1 := (chk_iff.1 hb).1
  have z1 := (chk_iff.1 k0).1
  have den : 0 < (br * br + bi * bi) * ad := mul_pos'' (by omega) (by omega)
  have bz : 0 < bd * z := mul_pos'' (by omega) (by omega)
  have f1 : x * ((br * br + bi * bi) * ad) = (ar * br + ai * bi) * (bd * z) := by rw [e1, Int.mul_assoc]
  have f2 : y * ((br * br + bi * bi) * ad) = (ai * br - ar * bi) * (bd * z) := by rw [e2, Int.mul_assoc]
  rw [ray_iff r s]
  constructor
  · rintro ⟨h1, h2⟩
    constructor
    · have : (ai * br - ar * bi) = 0 := by omega
      rw [this, Int.zero_mul] at f2
      rcases Int.mul_eq_zero.1 f2 with k | k
      · exact k
      · omega
    · exact pos_of_mul den (by rw [f1]; exact mul_pos'' h2 bz)
  · rintro ⟨rfl, h2⟩
    rw [Int.zero_mul] at f2
    constructor
    · rcases Int.mul_eq_zero.1 f2.symm with k | k <;> omega
    · exact pos_of_mul bz (by rw [← f1]; exact mul_pos'' h2 den)
theorem prod_nz (za : ¬ (ar = 0 ∧ ai = 0)) (zb : ¬ (br = 0 ∧ bi = 0)) : ¬ (ar * br - ai * bi = 0 ∧ ar * bi + ai * br = 0) := by
  rintro ⟨h1, h2⟩
  have e : (ar * ar + ai * ai) * (br * br + bi * bi) = (ar * br - ai * bi) * (ar * br - ai * bi) + (ar * bi + ai * br) * (ar * bi + ai * br) := by clear h1 h2; grind
  rw [h1, h2] at e
  have := mul_pos'' (sum_sq za) (sum_sq zb)
  omega
/- the ray of a product -/
theorem prod_ray (ha : chkB ar ai ad = true) (hb : chkB br bi bd = true) (za : isZ ar ai = false) (zb : isZ br bi = false) (r : RAY ar ai r1 r2 g) (s : RAY br bi s1 s2 h) {x y z u v t : Int} (hp : mulS ar ai ad br bi bd = (x, y, z, 0)) (ht : mulS r1 r2 1 s1 s2 1 = (u, v, t, 0)) :
    ∃ p q, rayS x y z = (p, q, 1, 0) ∧ rayS u v t = (p, q, 1, 0) := by
  have cr := (ray_chk ha r).1
  have cs := (ray_chk hb s).1
  rw [mul_of ha hb] at hp
  rw [mul_of cr cs] at ht
  obtain ⟨n0, k0, e1, e2⟩ := made_ok hp
  obtain ⟨n1, k1, f1, f2⟩ := made_ok ht
  have a1 := (chk_iff.1 ha).1
  have b1 := (chk_iff.1 hb).1
  have z1 := (chk_iff.1 k0).1
  have t1 := (chk_iff.1 k1).1
  have nz := prod_nz (isZ_no.1 za) (isZ_no.1 zb)
  have nz2 := prod_nz r.nz s.nz
  have pz : isZ x y = false := isZ_no.2 (by
    rintro ⟨rfl, rfl⟩
    rw [Int.zero_mul] at e1 e2
    apply nz
    constructor
    · rcases Int.mul_eq_zero.1 e1.symm with k | k <;> omega
    · rcases Int.mul_eq_zero.1 e2.symm with k | k <;> omega)
  have tz : isZ u v = false := isZ_no.2 (by
    rintro ⟨rfl, rfl⟩
    rw [Int.zero_mul] at f1 f2
    apply nz2
    constructor
    · rcases Int.mul_eq_zero.1 f1.symm with k | k <;> omega
    · rcases Int.mul_eq_zero.1 f2.symm with k | k <;> omega)
  obtain ⟨p, q, k, R, ep⟩ := ray_val k0 pz
  obtain ⟨p', q', k', R', ep'⟩ := ray_val k1 tz
  refine ⟨p, q, ep, ?_⟩
  have gp := r.gp
  have hp' := s.gp
  have key := ray_scale R R' (K := ad * bd * t) (Z := g * h * z) (mul_pos'' (mul_pos'' (by omega) (by omega)) (by omega)) (mul_pos'' (mul_pos'' (by omega) (by omega)) (by omega)) (by
    have f1' : u * 1 = (r1 * s1 - r2 * s2) * t := by rw [← f1]; rfl
    have : x * (ad * bd * t) = (x * (ad * bd)) * t := by clear e1 e2 f1 f2 f1'; grind
    rw [this, e1, r.ea, r.eb, s.ea, s.eb]
    have l : (r1 * g * (s1 * h) - r2 * g * (s2 * h)) * z * t = (r1 * s1 - r2 * s2) * t * (g * h * z) := by clear e1 e2 f1 f2 f1' this; grind
    rw [l, ← f1', Int.mul_one]) (by
    have f2' : v * 1 = (r1 * s2 + r2 * s1) * t := by rw [← f2]; rfl
    have : y * (ad * bd * t) = (y * (ad * bd)) * t := by clear e1 e2 f1 f2 f2'; grind
    rw [this, e2, r.ea, r.eb, s.ea, s.eb]
    have l : (r1 * g * (s2 * h) + r2 * g * (s1 * h)) * z * t = (r1 * s2 + r2 * s1) * t * (g * h * z) := by clear e1 e2 f1 f2 f2' this; grind
    rw [l, ← f2', Int.mul_one])
  rw [ep', key.1, key.2]
theorem ordS_of (ha : chkB ar ai ad = true) (hb : chkB br bi bd = true) (za : isZ ar ai = false) (zb : isZ br bi = false) : ordS ar ai ad br bi bd = (ordP ar ai br bi, 0) := by
  unfold ordS
  rw [ha, hb, za, zb]
  rfl
theorem ordP_bd (a b c d : Int) : -1 ≤ ordP a b c d ∧ ordP a b c d ≤ 1 := by
  unfold ordP
  split
  · split <;> omega
  · split
    · omega
    · split <;> omega
theorem ray_zb (ha : chkB ar ai ad = true) (r : RAY ar ai r1 r2 g) : isZ r1 r2 = false := isZ_no.2 r.nz
/- all that the law on rays wants -/
structure RLAW (ar ai ad br bi bd cr ci cd r1 r2 s1 s2 X M O : Int) : Prop where
  ra : rayS ar ai ad = (r1, r2, 1, 0)
  rb : rayS br bi bd = (s1, s2, 1, 0)
  vr : chkB r1 r2 1 = true
  vs : chkB s1 s2 1 = true
  g : g2 r1 r2 = 1
  quo : ∀ x y z, divS ar ai ad br bi bd = (x, y, z, 0) → ((r1 = s1 ∧ r2 = s2) ↔ (y = 0 ∧ 0 < x))
  pro : ∀ x y z u v t, mulS ar ai ad br bi bd = (x, y, z, 0) → mulS r1 r2 1 s1 s2 1 = (u, v, t, 0) → ∃ p q, rayS x y z = (p, q, 1, 0) ∧ rayS u v t = (p, q, 1, 0)
  oab : ordS ar ai ad br bi bd = (X, 0)
  oba : ordS br bi bd ar ai ad = (-X, 0)
  ors : ordS r1 r2 1 s1 s2 1 = (X, 0)
  obc : ordS br bi bd cr ci cd = (M, 0)
  oac : ordS ar ai ad cr ci cd = (O, 0)
  bX : -1 ≤ X ∧ X ≤ 1
  bM : -1 ≤ M ∧ M ≤ 1
  bO : -1 ≤ O ∧ O ≤ 1
  z : X = 0 ↔ (r1 = s1 ∧ r2 = s2)
  tr : 0 ≤ X → 0 ≤ M → 0 ≤ O
theorem rlaw (ha : chkB ar ai ad = true) (hb : chkB br bi bd = true) (hc : chkB cr ci cd = true) (za : isZ ar ai = false) (zb : isZ br bi = false) (zc : isZ cr ci = false) :
    ∃ r1 r2 s1 s2 X M O, RLAW ar ai ad br bi bd cr ci cd r1 r2 s1 s2 X M O := by
  obtain ⟨r1, r2, g, r, ea⟩ := ray_val ha za
  obtain ⟨s1, s2, h, s, eb⟩ := ray_val hb zb
  have kr := ray_chk ha r
  have ks := ray_chk hb s
  refine ⟨r1, r2, s1, s2, ordP ar ai br bi, ordP br bi cr ci, ordP ar ai cr ci, ⟨ea, eb, kr.1, ks.1, kr.2, fun x y z hd => quot_same ha hb za zb r s hd, fun x y z u v t hp ht => prod_ray ha hb za zb r s hp ht,
    ordS_of ha hb za zb, ?_, ?_, ordS_of hb hc zb zc, ordS_of ha hc za zc, ordP_bd .., ordP_bd .., ordP_bd .., ?_, fun h1 h2 => ord_trans (isZ_no.1 za) (isZ_no.1 zb) (isZ_no.1 zc) h1 h2⟩⟩
  · rw [ordS_of hb ha zb za, ord_anti ar ai br bi, Int.neg_neg]
  · rw [ordS_of kr.1 ks.1 (ray_zb ha r) (ray_zb hb s), ord_ray r s]
  · rw [ord_zero (isZ_no.1 za) (isZ_no.1 zb), ray_iff r s]
end
end Go.Proofs.YtbbjclbpllfdeaaDoor
