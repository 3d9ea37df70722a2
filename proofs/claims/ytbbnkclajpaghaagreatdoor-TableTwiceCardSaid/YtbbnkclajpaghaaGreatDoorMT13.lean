/- Several texts in one. -/
import Derived.Deep.MidRow
import Derived.Test.YtbbnkclajpaghaaGreatDoorMT00
import Derived.Test.YtbbnkclajpaghaaGreatDoorMT03
import Derived.Test.YtbbnkclajpaghaaGreatDoorMT04
import Derived.Test.YtbbnkclajpaghaaGreatDoorMT05
import Derived.Test.YtbbnkclajpaghaaGreatDoorMT07
import Derived.Test.YtbbnkclajpaghaaGreatDoorMT12
namespace Go.Proofs.YtbbnkclajpaghaaGreatDoor
set_option linter.unusedVariables false
set_option linter.unusedSimpArgs false
def ptN (b : Bool) (r : Vr) : Int := if b then r.im else r.re
def wgt : List Vr → Int
 | [] => 0
 | r :: l => r.n + wgt l
def rnd (b : Bool) (n d : Int) (r : Vr) : Int × Int × Int :=
 if (mulR r.n 1 (makeF (ptN b r) r.dn).1 (makeF (ptN b r) r.dn).2.1).2.2 ≠ 0 then (0, 0, (mulR r.n 1 (makeF (ptN b r) r.dn).1 (makeF (ptN b r) r.dn).2.1).2.2)
 else addR n d (mulR r.n 1 (makeF (ptN b r) r.dn).1 (makeF (ptN b r) r.dn).2.1).1 (mulR r.n 1 (makeF (ptN b r) r.dn).1 (makeF (ptN b r) r.dn).2.1).2.1
def sumS (b : Bool) : Int → Int → List Vr → Int × Int × Int
 | n, d, [] => (n, d, 0)
 | n, d, r :: l => if (rnd b n d r).2.2 ≠ 0 then (0, 0, (rnd b n d r).2.2) else sumS b (rnd b n d r).1 (rnd b n d r).2.1 l
def avgR (b : Bool) (l : List Vr) : Int × Int × Int :=
 if (sumS b 0 1 l).2.2 ≠ 0 then (0, 0, (sumS b 0 1 l).2.2) else divR (sumS b 0 1 l).1 (sumS b 0 1 l).2.1 (wgt l) 1
def zV : Vr := ⟨0, 0, 0, 0, 0, 0, 0, 0⟩
def hdV (l : List Vr) : Vr := l.headD zV
def meanF (l : List Vr) : Int × Vr :=
 if wgt l = 0 then (18, zV) else if (avgR false l).2.2 ≠ 0 then ((avgR false l).2.2, zV) else if (avgR true l).2.2 ≠ 0 then ((avgR true l).2.2, zV)
 else match valO (avgR false l).1 (avgR false l).2.1 (avgR true l).1 (avgR true l).2.1 with
  | none => (16, zV)
  | some (a, b, D) => if 1000000 < wgt l then (16, zV) else (0, ⟨(hdV l).t, (hdV l).c, (hdV l).i, (hdV l).j, a, b, D, wgt l⟩)
theorem VF.ne {n d : Int} (v : VF n d) : (d : Rat) ≠ 0 := by
 have := v.d1
 have : d ≠ 0 := by omega
 exact_mod_cast this
theorem natAbs_cast {d : Int} (h : 0 ≤ d) : ((d.natAbs : Nat) : Int) = d := by omega
theorem rat_of {n d N D : Int} (hd : d ≠ 0) (hD : D ≠ 0) (h : n * D = N * d) : (n : Rat) / d = N / D := by
 have h1 : (d : Rat) ≠ 0 := by exact_mod_cast hd
 have h2 : (D : Rat) ≠ 0 := by exact_mod_cast hD
 have h3 : (n : Rat) * D = N * d := by exact_mod_cast h
 grind
theorem red_val {N n d e : Int} {D : Nat} (hD : 0 < D) (h : redF N D = (n, d, e)) : e = 16 ∨ (e = 0 ∧ VF n d ∧ (n : Rat) / d = N / (D : Int)) := by
 rcases redF_cases N D with h' | ⟨n', d', h'⟩
 ·rw [h'] at h; injection h with _ h; injection h with _ h; exact .inl h.symm
 ·rw [h'] at h
  injection h with h1 h; injection h with h2 h3
  subst h1 h2 h3
  have := redF_val hD h' rfl
  have d1 := this.1.d1
  exact .inr ⟨rfl, this.1, rat_of (by omega) (by omega) this.2⟩
theorem mul_val {an ad bn bd n d e : Int} (va : VF an ad) (vb : VF bn bd) (h : mulR an ad bn bd = (n, d, e)) : e = 16 ∨ (e = 0 ∧ VF n d ∧ (n : Rat) / d = (an / ad) * (bn / bd)) := by
 unfold mulR at h
 rw [if_pos (va.both vb), mulF_red va vb] at h
 have h1 := va.d1
 have h2 := vb.d1
 rcases red_val (Nat.mul_pos (show 0 < ad.natAbs by omega) (show 0 < bd.natAbs by omega)) h with h | ⟨h, v, e⟩
 ·exact .inl h
 ·refine .inr ⟨h, v, ?_⟩
  rw [e, Int.natCast_mul, natAbs_cast (by omega), natAbs_cast (by omega)]
  have := va.ne
  have := vb.ne
  push_cast
  grind
theorem add_val {an ad bn bd n d e : Int} (va : VF an ad) (vb : VF bn bd) (h : addR an ad bn bd = (n, d, e)) : e = 16 ∨ (e = 0 ∧ VF n d ∧ (n : Rat) / d = an / ad + bn / bd) := by
 unfold addR at h
 rw [if_pos (va.both vb), addF_red va vb] at h
 have h1 := va.d1
 have h2 := vb.d1
 rcases red_val (Nat.mul_pos (show 0 < ad.natAbs by omega) (show 0 < bd.natAbs by omega)) h with h | ⟨h, v, e⟩
 ·exact .inl h
 ·refine .inr ⟨h, v, ?_⟩
  rw [e, Int.natCast_mul, natAbs_cast (by omega), natAbs_cast (by omega)]
  have := va.ne
  have := vb.ne
  push_cast
  grind
theorem div_val {an ad N n d e : Int} (va : VF an ad) (vb : VF N 1) (hN : 0 < N) (h : divR an ad N 1 = (n, d, e)) : e = 16 ∨ (e = 0 ∧ VF n d ∧ (n : Rat) / d = (an / ad) / N) := by
 unfold divR at h
 rw [if_pos (va.both vb), if_neg (by omega), if_neg (by omega), mulF_red va (vb.over.2 hN)] at h
 have h1 := va.d1
 rcases red_val (Nat.mul_pos (show 0 < ad.natAbs by omega) (show 0 < N.natAbs by omega)) h with h | ⟨h, v, e⟩
 ·exact .inl h
 ·refine .inr ⟨h, v, ?_⟩
  rw [e, Int.natCast_mul, natAbs_cast (by omega), natAbs_cast (by omega)]
  have := va.ne
  have : (N : Rat) ≠ 0 := by
   have : N ≠ 0 := by omega
   exact_mod_cast this
  push_cast
  grind
theorem vis_val {r : Vr} (h : visB r = true) : 0 ≤ r.n ∧ r.n ≤ 1000000 ∧ Cxm.chkB r.re r.im r.dn = true ∧ 1 ≤ r.dn ∧ r.dn ≤ 1000000000 ∧ -1000000000 ≤ r.re ∧ r.re ≤ 1000000000 ∧ -1000000000 ≤ r.im ∧ r.im ≤ 1000000000 := by
 simp only [visB, Bool.and_eq_true, decide_eq_true_eq] at h
 obtain ⟨-, -, -, hv, h0, h1⟩ := h
 have := chkB_lim hv
 exact ⟨h0, h1, hv, by omega, by omega, by omega, by omega, by omega, by omega⟩
theorem pt_val (b : Bool) {r : Vr} (h : visB r = true) : -1000000000 ≤ ptN b r ∧ ptN b r ≤ 1000000000 ∧ ∃ n d, makeF (ptN b r) r.dn = (n, d, 0) ∧ VF n d ∧ (n : Rat) / d = ptN b r / r.dn := by
 have h1 := vis_val h
 have h2 : -1000000000 ≤ ptN b r ∧ ptN b r ≤ 1000000000 := by cases b <;> simp only [ptN] <;> omega
 obtain ⟨n, d, e, v, m⟩ := part_of (a := ptN b r) (D := r.dn) (by omega) (by omega) h2.1 h2.2
 have := v.d1
 exact ⟨h2.1, h2.2, n, d, e, v, rat_of (by omega) (by omega) m⟩
theorem VF.int {n : Int} (h : -1000000000000000000 ≤ n) (h' : n ≤ 1000000000000000000) : VF n 1 := ⟨by decide, by decide, h, h', by simp⟩
theorem rnd_val (b : Bool) {n d n' d' e : Int} {r : Vr} (v : VF n d) (hr : visB r = true) (h : rnd b n d r = (n', d', e)) : e = 16 ∨ (e = 0 ∧ VF n' d' ∧ (n' : Rat) / d' = n / d + r.n * ptN b r / r.dn) := by
 obtain ⟨-, -, x, y, hm, vx, ex⟩ := pt_val b hr
 have h0 := vis_val hr
 unfold rnd at h
 rw [hm] at h
 simp only at h
 have vn : VF r.n 1 := VF.int (by omega) (by omega)
 obtain ⟨p, q, k, hp⟩ : ∃ p q k, mulR r.n 1 x y = (p, q, k) := ⟨_, _, _, rfl⟩
 rw [hp] at h
 simp only at h
 rcases mul_val vn vx hp with hk | ⟨hk, vp, ep⟩
 ·rw [if_pos (by omega)] at h
  injection h with _ h; injection h with _ h
  exact .inl (by omega)
 ·rw [if_neg (by omega)] at h
  rcases add_val v vp h with h | ⟨h, v', e'⟩
  ·exact .inl h
  ·refine .inr ⟨h, v', ?_⟩
   rw [e', ep, ex]
   have := v.ne
   push_cast
   grind
def tot (b : Bool) : List Vr → Rat
 | [] => 0
 | r :: l => r.n * ptN b r / r.dn + tot b l
theorem wgt_append (l m : List Vr) : wgt (l ++ m) = wgt l + wgt m := by
 induction l with
 | nil => simp [wgt]
 | cons r l ih => simp only [List.cons_append, wgt, ih]; omega
theorem sumS_val (b : Bool) : ∀ {l : List Vr} {n d n' d' e : Int}, VF n d → (∀ r ∈ l, visB r = true) → sumS b n d l = (n', d', e) → e = 16 ∨ (e = 0 ∧ VF n' d' ∧ (n' : Rat) / d' = n / d + tot b l)
 | [], n, d, n', d', e, v, _, h => by
  simp only [sumS] at h
  injection h with h1 h; injection h with h2 h3
  subst h1 h2 h3
  exact .inr ⟨rfl, v, by simp only [tot]; grind⟩
 | r :: l, n, d, n', d', e, v, hl, h => by
  simp only [sumS] at h
  obtain ⟨p, q, k, hp⟩ : ∃ p q k, rnd b n d r = (p, q, k) := ⟨_, _, _, rfl⟩
  rw [hp] at h
  simp only at h
  rcases rnd_val b v (hl r (List.mem_cons_self ..)) hp with hk | ⟨hk, vp, ep⟩
  ·rw [if_pos (by omega)] at h
   injection h with _ h; injection h with _ h
   exact .inl (by omega)
  ·rw [if_neg (by omega)] at h
   rcases sumS_val b vp (fun x hx => hl x (List.mem_cons_of_mem _ hx)) h with h | ⟨h, v', e'⟩
   ·exact .inl h
   ·refine .inr ⟨h, v', ?_⟩
    rw [e', ep]
    simp only [tot]
    grind
theorem wgt_bd : ∀ {l : List Vr}, (∀ r ∈ l, visB r = true) → 0 ≤ wgt l ∧ wgt l ≤ 1000000 * l.length
 | [], _ => by simp [wgt]
 | r :: l, h => by
  have h1 := wgt_bd (l := l) fun x hx => h x (List.mem_cons_of_mem _ hx)
  have h2 := vis_val (h r (List.mem_cons_self ..))
  simp only [wgt, List.length_cons]
  omega
theorem wgt_zero : ∀ {l : List Vr}, (∀ r ∈ l, visB r = true) → wgt l = 0 → ∀ b, tot b l = 0
 | [], _, _, b => rfl
 | r :: l, h, h0, b => by
  have h1 := wgt_bd (l := l) fun x hx => h x (List.mem_cons_of_mem _ hx)
  have h2 := vis_val (h r (List.mem_cons_self ..))
  simp only [wgt] at h0
  have e1 : r.n = 0 := by omega
  have e2 := wgt_zero (l := l) (fun x hx => h x (List.mem_cons_of_mem _ hx)) (by omega) b
  simp only [tot, e2, e1]
  grind
theorem avgR_val (b : Bool) {l : List Vr} {n d e : Int} (hl : ∀ r ∈ l, visB r = true) (h60 : l.length ≤ 1000) (h0 : wgt l ≠ 0) (h : avgR b l = (n, d, e)) : e = 16 ∨ (e = 0 ∧ VF n d ∧ (n : Rat) / d = tot b l / wgt l) := by
 have hw := wgt_bd hl
 unfold avgR at h
 obtain ⟨p, q, k, hp⟩ : ∃ p q k, sumS b 0 1 l = (p, q, k) := ⟨_, _, _, rfl⟩
 rw [hp] at h
 simp only at h
 rcases sumS_val b (VF.int (by decide) (by decide)) hl hp with hk | ⟨hk, vp, ep⟩
 ·rw [if_pos (by omega)] at h
  injection h with _ h; injection h with _ h
  exact .inl (by omega)
 ·rw [if_neg (by omega)] at h
  rcases div_val vp (VF.int (by omega) (by omega)) (by omega) h with h | ⟨h, v', e'⟩
  ·exact .inl h
  ·refine .inr ⟨h, v', ?_⟩
   rw [e', ep]
   have : ((0 : Int) : Rat) / ((1 : Int) : Rat) + tot b l = tot b l := by grind
   rw [this]
theorem valO_chk' {n1 d1 n2 d2 a b D : Int} (h : valO n1 d1 n2 d2 = some (a, b, D)) : Cxm.chkB a b D = true := by
 unfold valO at h
 split at h
 ·rename_i hh
  injection h with h
  injection h with e1 h
  injection h with e2 e3
  subst e1 e2 e3
  exact hh.2
 ·cases h
structure MeanOk (l : List Vr) (m : Vr) : Prop where
 t : m.t = (hdV l).t
 c : m.c = (hdV l).c
 i : m.i = (hdV l).i
 j : m.j = (hdV l).j
 n : m.n = wgt l
 pos : 0 < wgt l
 le : wgt l ≤ 1000000
 ok : Cxm.chkB m.re m.im m.dn = true
 tot : ∀ b, (m.n : Rat) * ptN b m / m.dn = tot b l
theorem valO_parts {n1 d1 n2 d2 a b D : Int} (v1 : VF n1 d1) (v2 : VF n2 d2) (h : valO n1 d1 n2 d2 = some (a, b, D)) : (a : Rat) / D = n1 / d1 ∧ (b : Rat) / D = n2 / d2 ∧ D ≠ 0 := by
 have h1 := v1.d1
 have h2 := v2.d1
 have hp := valD_pos h1 h2
 obtain ⟨⟨k1, hk1⟩, ⟨k2, hk2⟩⟩ := valD_dvd d1 d2
 unfold valO at h
 split at h
 ·injection h with h
  injection h with e1 h
  injection h with e2 e3
  subst e1 e2
  generalize valD d1 d2 = L at *
  subst e3
  have e1 : L / d1 = k1 := by rw [hk1]; exact Int.mul_ediv_cancel_left _ (by omega)
  have e2 : L / d2 = k2 := by rw [hk2]; exact Int.mul_ediv_cancel_left _ (by omega)
  rw [e1, e2]
  refine ⟨rat_of (by omega) (by omega) ?_, rat_of (by omega) (by omega) ?_, by omega⟩
  ·rw [hk1]; grind
  ·rw [hk2]; grind
 ·cases h
theorem meanF_err {l : List Vr} (hl : ∀ r ∈ l, visB r = true) (h60 : l.length ≤ 1000) : ((meanF l).1 = 18 ∧ wgt l = 0) ∨ ((meanF l).1 = 16 ∧ wgt l ≠ 0) ∨ ((meanF l).1 = 0 ∧ MeanOk l (meanF l).2) := by
 have hw := wgt_bd hl
 unfold meanF
 by_cases h0 : wgt l = 0
 ·rw [if_pos h0]; exact .inl ⟨rfl, h0⟩
 ·right
  rw [if_neg h0]
  obtain ⟨p, q, k, hp⟩ : ∃ p q k, avgR false l = (p, q, k) := ⟨_, _, _, rfl⟩
  obtain ⟨p', q', k', hp'⟩ : ∃ p q k, avgR true l = (p, q, k) := ⟨_, _, _, rfl⟩
  rw [hp, hp']
  simp only
  rcases avgR_val false hl h60 h0 hp with hk | ⟨hk, v, e⟩
  ·rw [if_pos (by omega)]; exact .inl ⟨hk, h0⟩
  rw [if_neg (by omega)]
  rcases avgR_val true hl h60 h0 hp' with hk | ⟨hk, v', e'⟩
  ·rw [if_pos (by omega)]; exact .inl ⟨hk, h0⟩
  rw [if_neg (by omega)]
  cases hv : valO p q p' q' with
  | none => exact .inl ⟨rfl, h0⟩
  | some x =>
   obtain ⟨a, b, D⟩ := x
   simp only
   split
   ·exact .inl ⟨rfl, h0⟩
   ·rename_i h9
    obtain ⟨f1, f2, f3⟩ := valO_parts v v' hv
    refine .inr ⟨rfl, ⟨rfl, rfl, rfl, rfl, rfl, by omega, by omega, valO_chk' hv, fun b => ?_⟩⟩
    have hN : (wgt l : Rat) ≠ 0 := by exact_mod_cast h0
    have hD : (D : Rat) ≠ 0 := by exact_mod_cast f3
    cases b
    ·show (wgt l : Rat) * a / D = _
     rw [e] at f1
     grind
    ·show (wgt l : Rat) * b / D = _
     rw [e'] at f2
     grind
end Go.Proofs.YtbbnkclajpaghaaGreatDoor
namespace Go.Proofs.YtbbnkclajpaghaaGreatDoor
set_option linter.unusedVariables false
set_option linter.unusedSimpArgs false
def grps : List Vr → List (List Vr)
 | [] => []
 | r :: l => match grps l with
  | [] => [[r]]
  | g :: gs => if vkey (hdV g) = vkey r then (r :: g) :: gs else [r] :: g :: gs
def avF : List (List Vr) → Int × List Vr
 | [] => (0, [])
 | g :: gs => if (meanF g).1 = 18 then avF gs else if (meanF g).1 ≠ 0 then ((meanF g).1, []) else if (avF gs).1 ≠ 0 then ((avF gs).1, []) else (0, (meanF g).2 :: (avF gs).2)
theorem avF_none : ∀ (L : List (List Vr)), (avF L).1 ≠ 0 → (avF L).2 = []
 | [], h => absurd rfl h
 | g :: gs, h => by
  unfold avF at h ⊢
  split at h
  ·rename_i h1; rw [if_pos h1]; exact avF_none gs h
  ·rename_i h1
   rw [if_neg h1]
   split at h
   ·rename_i h2; rw [if_pos h2]
   ·rename_i h2
    rw [if_neg h2]
    split at h
    ·rename_i h3; rw [if_pos h3]
    ·exact absurd rfl h
def andF (o : List Vr) (x : Int × List Vr) : Int × List Vr := if x.1 ≠ 0 then (x.1, []) else (0, o ++ x.2)
theorem andF_nil (L : List (List Vr)) : andF [] (avF L) = avF L := by
 unfold andF
 by_cases h : (avF L).1 ≠ 0
 ·rw [if_pos h]
  exact Prod.ext rfl (avF_none L h).symm
 ·rw [if_neg h]
  exact Prod.ext (by simp only; omega) rfl
theorem avF_skip {g : List Vr} (h : (meanF g).1 = 18) (o : List Vr) (gs : List (List Vr)) : andF o (avF (g :: gs)) = andF o (avF gs) := by
 rw [avF, if_pos h]
theorem avF_bad {g : List Vr} (h : (meanF g).1 ≠ 18) (h' : (meanF g).1 ≠ 0) (o : List Vr) (gs : List (List Vr)) : andF o (avF (g :: gs)) = ((meanF g).1, []) := by
 rw [avF, if_neg h, if_pos h']
 unfold andF
 rw [if_pos h']
theorem avF_good {g : List Vr} (h : (meanF g).1 = 0) (o : List Vr) (gs : List (List Vr)) : andF o (avF (g :: gs)) = andF (o ++ [(meanF g).2]) (avF gs) := by
 rw [avF, if_neg (by omega), if_neg (by omega)]
 unfold andF
 by_cases h3 : (avF gs).1 ≠ 0
 ·rw [if_pos h3, if_pos h3, if_pos h3]
 ·rw [if_neg h3, if_neg (by simp), if_neg h3, List.append_assoc]
  rfl
theorem andF_end (o : List Vr) : andF o (avF []) = (0, o) := by
 unfold andF avF
 simp
theorem meanF_nil : meanF [] = (18, zV) := by unfold meanF wgt; rw [if_pos rfl]
theorem avF_ne : ∀ (L : List (List Vr)), avF (L.filter fun g => !g.isEmpty) = avF L
 | [] => rfl
 | g :: gs => by
  cases g with
  | nil =>
   rw [List.filter_cons_of_neg (by simp), avF_ne gs, avF, if_pos (by rw [meanF_nil])]
  | cons r l =>
   rw [List.filter_cons_of_pos (by simp)]
   show avF _ = avF _
   rw [avF, avF, avF_ne gs]
theorem grps_head : ∀ {l : List Vr} {g : List Vr} {gs : List (List Vr)}, grps l = g :: gs → ∃ r l' g', l = r :: l' ∧ g = r :: g'
 | [], g, gs, h => by cases h
 | r :: l, g, gs, h => by
  refine ⟨r, l, ?_⟩
  unfold grps at h
  split at h
  ·injection h with h1 h2; exact ⟨[], rfl, h1.symm⟩
  ·split at h
   ·injection h with h1 h2; exact ⟨_, rfl, h1.symm⟩
   ·injection h with h1 h2; exact ⟨[], rfl, h1.symm⟩
theorem grps_run {k : Int} : ∀ {g rest : List Vr}, g ≠ [] → (∀ r ∈ g, vkey r = k) → (∀ r, rest.head? = some r → vkey r ≠ k) → grps (g ++ rest) = g :: grps rest
 | [], _, h, _, _ => absurd rfl h
 | [r], rest, _, h, h' => by
  show grps (r :: rest) = _
  rw [grps]
  cases e : grps rest with
  | nil => rfl
  | cons g gs =>
   obtain ⟨q, l', g', rfl, rfl⟩ := grps_head e
   have h1 := h' q rfl
   have h2 := h r (List.mem_cons_self ..)
   simp only
   rw [if_neg (by show vkey q ≠ vkey r; omega)]
 | r :: q :: g, rest, _, h, h' => by
  have ih := grps_run (g := q :: g) (rest := rest) (by simp) (fun x hx => h x (List.mem_cons_of_mem _ hx)) h'
  show grps (r :: ((q :: g) ++ rest)) = _
  rw [grps, ih]
  simp only
  rw [if_pos (by show vkey q = vkey r; rw [h q (by simp), h r (by simp)])]
theorem tw_mem {p : Vr → Bool} : ∀ {l : List Vr} {r : Vr}, r ∈ l.takeWhile p → p r = true
 | [], r, h => by cases h
 | q :: l, r, h => by
  by_cases c : p q = true
  ·rw [List.takeWhile_cons_of_pos c] at h
   rcases List.mem_cons.1 h with rfl | h
   ·exact c
   ·exact tw_mem h
  ·rw [List.takeWhile_cons_of_neg c] at h; cases h
theorem grps_keys : ∀ {Ks : List Int} {ys : List Vr}, Ks.Pairwise (· < ·) → Srt vkey ys → (∀ r ∈ ys, vkey r ∈ Ks) → (Ks.map fun k => ys.filter fun r => vkey r == k).filter (fun g => !g.isEmpty) = grps ys
 | [], ys, _, _, h => by
  cases ys with
  | nil => rfl
  | cons r l => exact absurd (h r (List.mem_cons_self ..)) (by simp)
 | k :: Ks, ys, hk, hs, h => by
  obtain ⟨hk1, hk2⟩ := List.pairwise_cons.1 hk
  have e : ys = ys.takeWhile (fun r => vkey r == k) ++ ys.dropWhile (fun r => vkey r == k) := (List.takeWhile_append_dropWhile ..).symm
  have h1 : ∀ r ∈ ys.takeWhile (fun r => vkey r == k), vkey r = k := fun r hr => by simpa using tw_mem hr
  have h2 : ∀ r ∈ ys.dropWhile (fun r => vkey r == k), k < vkey r := by
   have hle : ∀ r ∈ ys, k ≤ vkey r := fun r hr => by
    rcases List.mem_cons.1 (h r hr) with e | e
    ·omega
    ·exact Int.le_of_lt (hk1 _ e)
   clear e h1 h hk hk1 hk2
   induction ys with
   | nil => simp
   | cons x l ih =>
    obtain ⟨hx, hl⟩ := List.pairwise_cons.1 hs
    by_cases c : vkey x = k
    ·rw [List.dropWhile_cons_of_pos (by simpa using c)]
     exact ih hl fun r hr => hle r (List.mem_cons_of_mem _ hr)
    ·rw [List.dropWhile_cons_of_neg (by simpa using c)]
     intro r hr
     have := hle x (List.mem_cons_self ..)
     rcases List.mem_cons.1 hr with rfl | hr
     ·omega
     ·have := hx r hr; omega
  have hsub : ∀ r ∈ ys.dropWhile (fun r => vkey r == k), r ∈ ys := fun r hr => by
   have := List.mem_append_right (ys.takeWhile (fun r => vkey r == k)) hr
   rwa [← e] at this
  have hs' : Srt vkey (ys.dropWhile (fun r => vkey r == k)) := by
   unfold Srt at hs
   rw [e] at hs
   exact (List.pairwise_append.1 hs).2.1
  generalize ys.takeWhile (fun r => vkey r == k) = A at *
  generalize ys.dropWhile (fun r => vkey r == k) = B at *
  have ih := grps_keys (Ks := Ks) (ys := B) hk2 hs' fun r hr => by
   rcases List.mem_cons.1 (h r (hsub r hr)) with e | e
   ·have := h2 r hr; omega
   ·exact e
  have f1 : ys.filter (fun r => vkey r == k) = A := by
   rw [e, List.filter_append, List.filter_eq_self.2 (fun r hr => by simp [h1 r hr]), List.filter_eq_nil_iff.2 (fun r hr => by have := h2 r hr; simp; omega), List.append_nil]
  have f2 : (Ks.map fun k => ys.filter fun r => vkey r == k) = (Ks.map fun k => B.filter fun r => vkey r == k) := by
   refine List.map_congr_left fun k' hk' => ?_
   have := hk1 k' hk'
   rw [e, List.filter_append, List.filter_eq_nil_iff.2 (fun r hr => by have := h1 r hr; simp; omega), List.nil_append]
  rw [List.map_cons, f1, f2]
  cases A with
  | nil =>
   rw [List.filter_cons_of_neg (by simp), ih, e, List.nil_append]
  | cons r A =>
   rw [List.filter_cons_of_pos (by simp), ih, e]
   refine (grps_run (k := k) (by simp) h1 fun q hq => ?_).symm
   cases B with
   | nil => cases hq
   | cons x B =>
    injection hq with hq
    subst hq
    have := h2 x (List.mem_cons_self ..)
    omega
def avT (a b : Int) (r : Vr) : Vr := { r with t := r.t.tdiv a, c := r.c.tdiv b }
def byK (l : List Vr) (k : Int) : List Vr := l.filter fun r => vkey r == k
def avK (Ks : List Int) (l : List Vr) : Int × List Vr := avF (Ks.map (byK l))
theorem avK_grps {Ks : List Int} {xs ys : List Vr} (hk : Ks.Pairwise (· < ·)) (hs : Srt vkey ys) (he : FE vkey xs ys) (h : ∀ r ∈ xs, vkey r ∈ Ks) : avK Ks xs = avF (grps ys) := by
 unfold avK
 have e : Ks.map (byK xs) = Ks.map (byK ys) := List.map_congr_left fun k _ => he k
 rw [e, ← avF_ne]
 show avF ((Ks.map fun k => ys.filter fun r => vkey r == k).filter _) = _
 rw [grps_keys hk hs fun r hr => h r (he.mem.2 hr)]
end Go.Proofs.YtbbnkclajpaghaaGreatDoor
namespace Go.Proofs.YtbbnkclajpaghaaGreatDoor
set_option linter.unusedVariables false
set_option linter.unusedSimpArgs false
def allK : List Int := (List.range 65536).map Int.ofNat
theorem allK_lt : allK.Pairwise (· < ·) := by
 unfold allK
 rw [List.pairwise_map]
 exact List.pairwise_lt_range.imp fun h => by simpa using h
theorem allK_mem {k : Int} : k ∈ allK ↔ 0 ≤ k ∧ k < 65536 := by
 unfold allK
 rw [List.mem_map]
 constructor
 ·rintro ⟨n, hn, rfl⟩
  have := List.mem_range.1 hn
  exact ⟨by simp, by simp; omega⟩
 ·rintro ⟨h0, h1⟩
  exact ⟨k.toNat, List.mem_range.2 (by omega), by simp; omega⟩
theorem key_all {r : Vr} (h : rowB r = true) : vkey r ∈ allK := by
 have := rowB_facts h
 rw [allK_mem]
 unfold vkey
 omega
def hK (a b k : Int) : Int := ((k / 1024 / a * 16 + k / 64 % 16 / b) * 8 + k / 8 % 8) * 8 + k % 8
theorem key_parts {r : Vr} (h : rowB r = true) : vkey r / 1024 = r.t ∧ vkey r / 64 % 16 = r.c ∧ vkey r / 8 % 8 = r.i ∧ vkey r % 8 = r.j := by
 have := rowB_facts h
 unfold vkey
 omega
theorem key_same {r s : Vr} (h : rowB r = true) (h' : rowB s = true) (e : vkey r = vkey s) : r.t = s.t ∧ r.c = s.c ∧ r.i = s.i ∧ r.j = s.j := by
 have h1 := key_parts h
 have h2 := key_parts h'
 rw [e] at h1
 omega
theorem quo_bd {x a n : Int} (h0 : 0 ≤ x) (h1 : x < n) (ha : 1 ≤ a) : 0 ≤ x / a ∧ x / a < n := by
 refine ⟨Int.ediv_nonneg h0 (by omega), ?_⟩
 have := Int.ediv_le_self a h0
 omega
theorem avT_quo {a b : Int} {r : Vr} (ha : 1 ≤ a) (hb : 1 ≤ b) (h : rowB r = true) : avT a b r = { r with t := r.t / a, c := r.c / b } := by
 have := rowB_facts h
 unfold avT
 rw [Int.tdiv_eq_ediv_of_nonneg (by omega), Int.tdiv_eq_ediv_of_nonneg (by omega)]
theorem avT_row {a b : Int} {r : Vr} (ha : 1 ≤ a) (hb : 1 ≤ b) (h : rowB r = true) : rowB (avT a b r) = true := by
 have h0 := rowB_facts h
 have h1 := quo_bd (a := a) h0.1 h0.2.1 ha
 have h2 := quo_bd (a := b) h0.2.2.1 h0.2.2.2.1 hb
 rw [avT_quo ha hb h]
 have h3 : visB r = true := by
  simp only [rowB, Bool.and_eq_true] at h
  exact h.2.2.2.2
 have h4 : visB { r with t := r.t / a, c := r.c / b } = visB r := rfl
 unfold rowB
 rw [h4, h3]
 simp only [Bool.and_eq_true, decide_eq_true_eq]
 exact ⟨h1.1, h1.2, h2.1, h2.2, trivial⟩
theorem avT_key {a b : Int} {r : Vr} (ha : 1 ≤ a) (hb : 1 ≤ b) (h : rowB r = true) : vkey (avT a b r) = hK a b (vkey r) := by
 obtain ⟨h1, h2, h3, h4⟩ := key_parts h
 rw [avT_quo ha hb h]
 unfold hK
 rw [h1, h2, h3, h4]
 rfl
theorem avT_avT {a b c d : Int} {r : Vr} (ha : 1 ≤ a) (hb : 1 ≤ b) (hc : 1 ≤ c) (hd : 1 ≤ d) (h : rowB r = true) : avT c d (avT a b r) = avT (a * c) (b * d) r := by
 have h1 : 1 ≤ a * c := Int.mul_pos (by omega) (by omega)
 have h2 : 1 ≤ b * d := Int.mul_pos (by omega) (by omega)
 rw [avT_quo hc hd (avT_row ha hb h), avT_quo h1 h2 h, avT_quo ha hb h]
 simp only
 rw [Int.ediv_ediv_of_nonneg (by omega), Int.ediv_ediv_of_nonneg (by omega)]
theorem row_vis {r : Vr} (h : rowB r = true) : visB r = true := by
 simp only [rowB, Bool.and_eq_true] at h
 exact h.2.2.2.2
def sumQ (f : Vr → Rat) : List Vr → Rat
 | [] => 0
 | r :: l => f r + sumQ f l
def sumK (g : Int → Rat) : List Int → Rat
 | [] => 0
 | k :: l => g k + sumK g l
theorem sumK_congr {g h : Int → Rat} : ∀ {Ks : List Int}, (∀ k ∈ Ks, g k = h k) → sumK g Ks = sumK h Ks
 | [], _ => rfl
 | k :: l, e => by
  show g k + sumK g l = h k + sumK h l
  rw [e k (List.mem_cons_self ..), sumK_congr (Ks := l) fun k hk => e k (List.mem_cons_of_mem _ hk)]
theorem sumK_add (g h : Int → Rat) : ∀ (Ks : List Int), sumK (fun k => g k + h k) Ks = sumK g Ks + sumK h Ks
 | [] => by simp only [sumK]; grind
 | k :: l => by simp only [sumK, sumK_add g h l]; grind
theorem sumK_zero : ∀ (Ks : List Int) {g : Int → Rat}, (∀ k ∈ Ks, g k = 0) → sumK g Ks = 0
 | [], g, _ => rfl
 | k :: l, g, e => by
  simp only [sumK]
  rw [e k (List.mem_cons_self ..), sumK_zero l fun k hk => e k (List.mem_cons_of_mem _ hk)]
  grind
theorem sumK_one (x : Int → Rat) (q : Int) : ∀ {Ks : List Int}, Ks.Pairwise (· < ·) → q ∈ Ks → sumK (fun k => if q = k then x k else 0) Ks = x q
 | [], _, h => absurd h (by simp)
 | k :: l, hp, h => by
  obtain ⟨h1, h2⟩ := List.pairwise_cons.1 hp
  simp only [sumK]
  by_cases e : q = k
  ·subst e
   rw [if_pos rfl, sumK_zero l fun k hk => if_neg (by have := h1 k hk; omega)]
   grind
  ·rw [if_neg e, sumK_one x q h2 (by rcases List.mem_cons.1 h with h | h; exact absurd h e; exact h)]
   grind
theorem sumQ_keys (f : Vr → Rat) (P : Int → Bool) {Ks : List Int} (hp : Ks.Pairwise (· < ·)) : ∀ {xs : List Vr}, (∀ r ∈ xs, vkey r ∈ Ks) → sumK (fun k => if P k = true then sumQ f (byK xs k) else 0) Ks = sumQ f (xs.filter fun r => P (vkey r))
 | [], _ => sumK_zero Ks fun k _ => by split <;> rfl
 | r :: l, h => by
  have ih := sumQ_keys f P hp (xs := l) fun x hx => h x (List.mem_cons_of_mem _ hx)
  have hr := h r (List.mem_cons_self ..)
  have e1 : ∀ k ∈ Ks, (if P k = true then sumQ f (byK (r :: l) k) else 0) = (if vkey r = k then (if P k = true then f r else 0) else 0) + (if P k = true then sumQ f (byK l k) else 0) := fun k _ => by
   unfold byK
   by_cases e : vkey r = k
   ·rw [List.filter_cons_of_pos (by simp [e]), if_pos e]
    split
    ·rfl
    ·grind
   ·rw [List.filter_cons_of_neg (by simp [e]), if_neg e]
    split <;> grind
  rw [sumK_congr e1, sumK_add, ih, sumK_one (fun k => if P k = true then f r else 0) (vkey r) hp hr]
  by_cases c : P (vkey r) = true
  ·rw [if_pos c, List.filter_cons_of_pos (by simpa using c)]; rfl
  ·rw [if_neg c, List.filter_cons_of_neg (by simpa using c)]; grind
theorem sumQ_filterMap (f : Vr → Rat) (Q : Vr → Bool) (o : Int → Option Vr) : ∀ (Ks : List Int), sumQ f ((Ks.filterMap o).filter Q) = sumK (fun k => match o k with | none => 0 | some m => if Q m = true then f m else 0) Ks
 | [] => rfl
 | k :: l => by
  have ih := sumQ_filterMap f Q o l
  cases e : o k with
  | none =>
   rw [List.filterMap_cons_none e, ih]
   simp only [sumK, e]
   grind
  | some m =>
   rw [List.filterMap_cons_some e]
   simp only [sumK, e]
   by_cases c : Q m = true
   ·rw [List.filter_cons_of_pos c, if_pos c, ← ih]; rfl
   ·rw [List.filter_cons_of_neg c, if_neg c, ← ih]; grind
def quB (b : Bool) (r : Vr) : Rat := r.n * ptN b r / r.dn
def quN (r : Vr) : Rat := r.n
theorem tot_sum (b : Bool) : ∀ (l : List Vr), tot b l = sumQ (quB b) l
 | [] => rfl
 | r :: l => by simp only [tot, sumQ, tot_sum b l, quB]
theorem wgt_sum : ∀ (l : List Vr), (wgt l : Rat) = sumQ quN l
 | [] => rfl
 | r :: l => by simp only [wgt, sumQ, ← wgt_sum l, quN]; push_cast; rfl
def rowO (g : List Vr) : Option Vr := if (meanF g).1 = 0 then some (meanF g).2 else none
theorem avK_ok {xs : List Vr} : ∀ {Ks : List Int}, (avK Ks xs).1 = 0 → (avK Ks xs).2 = Ks.filterMap (fun k => rowO (byK xs k)) ∧ ∀ k ∈ Ks, (meanF (byK xs k)).1 = 0 ∨ (meanF (byK xs k)).1 = 18
 | [], _ => ⟨rfl, by simp⟩
 | k :: Ks, h => by
  have e : avK (k :: Ks) xs = avF (byK xs k :: Ks.map (byK xs)) := rfl
  rw [e, avF] at h ⊢
  by_cases h1 : (meanF (byK xs k)).1 = 18
  ·rw [if_pos h1] at h ⊢
   obtain ⟨i1, i2⟩ := avK_ok (Ks := Ks) h
   refine ⟨?_, fun q hq => ?_⟩
   ·rw [List.filterMap_cons_none (by unfold rowO; rw [if_neg (by omega)])]; exact i1
   ·rcases List.mem_cons.1 hq with rfl | hq
    ·exact .inr h1
    ·exact i2 q hq
  ·rw [if_neg h1] at h ⊢
   by_cases h2 : (meanF (byK xs k)).1 = 0
   ·rw [if_neg (by omega)] at h ⊢
    by_cases h3 : (avF (Ks.map (byK xs))).1 = 0
    ·rw [if_neg (by omega)] at h ⊢
     obtain ⟨i1, i2⟩ := avK_ok (Ks := Ks) h3
     refine ⟨?_, fun q hq => ?_⟩
     ·rw [List.filterMap_cons_some (b := (meanF (byK xs k)).2) (by unfold rowO; rw [if_pos h2])]
      exact congrArg _ i1
     ·rcases List.mem_cons.1 hq with rfl | hq
      ·exact .inl h2
      ·exact i2 q hq
    ·rw [if_pos (by omega)] at h; exact absurd h h3
   ·rw [if_pos (by omega)] at h; exact absurd h h2
theorem byK_mem {xs : List Vr} {k : Int} {r : Vr} (h : r ∈ byK xs k) : r ∈ xs ∧ vkey r = k := by
 have := List.mem_filter.1 h
 exact ⟨this.1, by simpa using this.2⟩
theorem wgt_pos_ne {l : List Vr} (h : 0 < wgt l) : ∃ r, r ∈ l ∧ hdV l = r := by
 cases l with
 | nil => simp [wgt] at h
 | cons r l => exact ⟨r, List.mem_cons_self .., rfl⟩
theorem rowO_row {xs : List Vr} {k : Int} {m : Vr} (hx : ∀ r ∈ xs, rowB r = true) (hn : xs.length ≤ 1000) (h : rowO (byK xs k) = some m) : rowB m = true ∧ vkey m = k ∧ MeanOk (byK xs k) m := by
 unfold rowO at h
 split at h
 ·rename_i h0
  injection h with h
  have hv : ∀ r ∈ byK xs k, visB r = true := fun r hr => row_vis (hx r (byK_mem hr).1)
  rcases meanF_err hv (Nat.le_trans (List.length_filter_le _ _) hn) with e | e | ⟨-, e⟩
  ·omega
  ·omega
  ·rw [h] at e
   obtain ⟨r, hr, hh⟩ := wgt_pos_ne e.pos
   have hr' := byK_mem hr
   have hb := hx r hr'.1
   have f := rowB_facts hb
   have e1 := e.t
   have e2 := e.c
   have e3 := e.i
   have e4 := e.j
   have e5 := e.n
   have e6 := e.pos
   have e7 := e.le
   rw [hh] at e1 e2 e3 e4
   refine ⟨?_, ?_, e⟩
   ·simp only [rowB, visB, valB, Bool.and_eq_true, decide_eq_true_eq]
    exact ⟨by omega, by omega, by omega, by omega, by omega, by omega, by omega, e.ok, by omega, by omega⟩
   ·rw [← hr'.2]
    unfold vkey
    rw [e1, e2, e3, e4]
 ·cases h
theorem row_sum {xs : List Vr} {k : Int} (hx : ∀ r ∈ xs, rowB r = true) (hn : xs.length ≤ 1000) (hk : (meanF (byK xs k)).1 = 0 ∨ (meanF (byK xs k)).1 = 18) :
  (∀ b, (match rowO (byK xs k) with | none => (0 : Rat) | some m => quB b m) = sumQ (quB b) (byK xs k)) ∧ (match rowO (byK xs k) with | none => (0 : Rat) | some m => quN m) = sumQ quN (byK xs k) := by
 have hv : ∀ r ∈ byK xs k, visB r = true := fun r hr => row_vis (hx r (byK_mem hr).1)
 cases e : rowO (byK xs k) with
 | none =>
  have h18 : (meanF (byK xs k)).1 = 18 := by
   rcases hk with h | h
   ·unfold rowO at e; rw [if_pos h] at e; cases e
   ·exact h
  have hw : wgt (byK xs k) = 0 := by
   rcases meanF_err hv (Nat.le_trans (List.length_filter_le _ _) hn) with e | e | e
   ·exact e.2
   ·omega
   ·omega
  refine ⟨fun b => ?_, ?_⟩
  ·rw [← tot_sum, wgt_zero hv hw b]
  ·rw [← wgt_sum, hw]; rfl
 | some m =>
  obtain ⟨-, -, ok⟩ := rowO_row hx hn e
  refine ⟨fun b => ?_, ?_⟩
  ·rw [← tot_sum, ← ok.tot b]; rfl
  ·rw [← wgt_sum, ← ok.n]; rfl
theorem av_sum {xs : List Vr} (hx : ∀ r ∈ xs, rowB r = true) (hn : xs.length ≤ 1000) (h : (avK allK xs).1 = 0) (P : Int → Bool) :
  (∀ b, sumQ (quB b) ((avK allK xs).2.filter fun m => P (vkey m)) = sumQ (quB b) (xs.filter fun r => P (vkey r))) ∧ sumQ quN ((avK allK xs).2.filter fun m => P (vkey m)) = sumQ quN (xs.filter fun r => P (vkey r)) := by
 obtain ⟨h1, h2⟩ := avK_ok h
 have hk : ∀ r ∈ xs, vkey r ∈ allK := fun r hr => key_all (hx r hr)
 have gen : ∀ f : Vr → Rat, (∀ k ∈ allK, (match rowO (byK xs k) with | none => (0 : Rat) | some m => f m) = sumQ f (byK xs k)) → sumQ f ((avK allK xs).2.filter fun m => P (vkey m)) = sumQ f (xs.filter fun r => P (vkey r)) := fun f hf => by
  rw [h1, sumQ_filterMap, ← sumQ_keys f P allK_lt hk]
  refine sumK_congr fun k hk => ?_
  have := hf k hk
  cases e : rowO (byK xs k) with
  | none =>
   rw [e] at this
   simp only at this ⊢
   rw [← this]
   split <;> rfl
  | some m =>
   rw [e] at this
   simp only at this ⊢
   rw [(rowO_row hx hn e).2.1, ← this]
 exact ⟨fun b => gen _ fun k hk => (row_sum hx hn (h2 k hk)).1 b, gen _ fun k hk => (row_sum hx hn (h2 k hk)).2⟩
theorem av_rows {xs : List Vr} (hx : ∀ r ∈ xs, rowB r = true) (hn : xs.length ≤ 1000) (h : (avK allK xs).1 = 0) : (∀ m ∈ (avK allK xs).2, rowB m = true ∧ 1 ≤ m.n) ∧ (avK allK xs).2.Pairwise fun a b => vkey a < vkey b := by
 obtain ⟨h1, -⟩ := avK_ok h
 rw [h1]
 refine ⟨fun m hm => ?_, ?_⟩
 ·obtain ⟨k, -, hk⟩ := List.mem_filterMap.1 hm
  have := rowO_row hx hn hk
  have h3 := this.2.2.n
  have h4 := this.2.2.pos
  exact ⟨this.1, by omega⟩
 ·rw [List.pairwise_filterMap]
  refine allK_lt.imp fun {a b} hab x hx' y hy => ?_
  rw [(rowO_row hx hn hx').2.1, (rowO_row hx hn hy).2.1]
  exact hab
theorem avF_len : ∀ (L : List (List Vr)), (avF L).2.length ≤ L.length
 | [] => by simp [avF]
 | g :: gs => by
  have := avF_len gs
  unfold avF
  repeat' split
  all_goals simp
  all_goals omega
theorem grps_len : ∀ (l : List Vr), (grps l).length ≤ l.length
 | [] => by simp [grps]
 | r :: l => by
  have := grps_len l
  unfold grps
  cases e : grps l with
  | nil => simp
  | cons g gs =>
   rw [e] at this
   simp only
   split <;> simp at this ⊢ <;> omega
theorem chk_same {a b D a' b' D' : Int} (h : Cxm.chkB a b D = true) (h' : Cxm.chkB a' b' D' = true) (e1 : (a : Rat) / D = a' / D') (e2 : (b : Rat) / D = b' / D') : a = a' ∧ b = b' ∧ D = D' := by
 have l := chkB_lim h
 have l' := chkB_lim h'
 have hD : (D : Rat) ≠ 0 := by
  have : D ≠ 0 := by omega
  exact_mod_cast this
 have hD' : (D' : Rat) ≠ 0 := by
  have : D' ≠ 0 := by omega
  exact_mod_cast this
 have m1 : a * D' = a' * D := by
  have : (a : Rat) * D' = a' * D := by grind
  exact_mod_cast this
 have m2 : b * D' = b' * D := by
  have : (b : Rat) * D' = b' * D := by grind
  exact_mod_cast this
 have g : ∀ {a b D : Int}, Cxm.chkB a b D = true → Nat.gcd (Nat.gcd a.natAbs b.natAbs) D.natAbs = 1 := fun {a b D} h => by
  simp only [Cxm.chkB, Bool.and_eq_true, decide_eq_true_eq] at h
  have hg := h.2.2.2
  simp only [Cxm.g3, Cxm.g2, Int.gcd] at hg
  simp only [Int.natAbs_natCast] at hg
  omega
 have d1 : D.natAbs ∣ D'.natAbs := g3_dvd (a := a.natAbs) (b := b.natAbs) ⟨a'.natAbs, by rw [← Int.natAbs_mul, ← Int.natAbs_mul, m1, Int.mul_comm]⟩ ⟨b'.natAbs, by rw [← Int.natAbs_mul, ← Int.natAbs_mul, m2, Int.mul_comm]⟩ (g h)
 have d2 : D'.natAbs ∣ D.natAbs := g3_dvd (a := a'.natAbs) (b := b'.natAbs) ⟨a.natAbs, by rw [← Int.natAbs_mul, ← Int.natAbs_mul, ← m1, Int.mul_comm]⟩ ⟨b.natAbs, by rw [← Int.natAbs_mul, ← Int.natAbs_mul, ← m2, Int.mul_comm]⟩ (g h')
 have e : D = D' := by have := Nat.dvd_antisymm d1 d2; omega
 subst e
 exact ⟨Int.eq_of_mul_eq_mul_right (by omega) m1, Int.eq_of_mul_eq_mul_right (by omega) m2, rfl⟩
theorem row_same {xs ys : List Vr} {k : Int} (hx : ∀ r ∈ xs, rowB r = true) (hn : xs.length ≤ 1000) (hy : ∀ r ∈ ys, rowB r = true) (hm : ys.length ≤ 1000) (h1 : (meanF (byK xs k)).1 = 0 ∨ (meanF (byK xs k)).1 = 18) (h2 : (meanF (byK ys k)).1 = 0 ∨ (meanF (byK ys k)).1 = 18)
  (hs : ∀ b, sumQ (quB b) (byK xs k) = sumQ (quB b) (byK ys k)) (hw : sumQ quN (byK xs k) = sumQ quN (byK ys k)) : rowO (byK xs k) = rowO (byK ys k) := by
 have hvx : ∀ r ∈ byK xs k, visB r = true := fun r hr => row_vis (hx r (byK_mem hr).1)
 have hvy : ∀ r ∈ byK ys k, visB r = true := fun r hr => row_vis (hy r (byK_mem hr).1)
 have ew : wgt (byK xs k) = wgt (byK ys k) := by
  rw [← wgt_sum, ← wgt_sum] at hw
  exact_mod_cast hw
 have lx := Nat.le_trans (List.length_filter_le (fun r => vkey r == k) xs) hn
 have ly := Nat.le_trans (List.length_filter_le (fun r => vkey r == k) ys) hm
 cases ex : rowO (byK xs k) with
 | none =>
  cases ey : rowO (byK ys k) with
  | none => rfl
  | some m =>
   have p := (rowO_row hy hm ey).2.2.pos
   rcases meanF_err hvx lx with e | e | e
   ·omega
   ·omega
   ·unfold rowO at ex; rw [if_pos e.1] at ex; cases ex
 | some m =>
  obtain ⟨r1, k1, o1⟩ := rowO_row hx hn ex
  cases ey : rowO (byK ys k) with
  | none =>
   have p := o1.pos
   rcases meanF_err hvy ly with e | e | e
   ·omega
   ·omega
   ·unfold rowO at ey; rw [if_pos e.1] at ey; cases ey
  | some m' =>
   obtain ⟨r2, k2, o2⟩ := rowO_row hy hm ey
   have q := key_same r1 r2 (by rw [k1, k2])
   have n1 := o1.n
   have n2 := o2.n
   have np := o1.pos
   have hn' : (m.n : Rat) ≠ 0 := by
    have : m.n ≠ 0 := by omega
    exact_mod_cast this
   have en : m.n = m'.n := by omega
   have part : ∀ b, (ptN b m : Rat) / m.dn = ptN b m' / m'.dn := fun b => by
    have t1 := o1.tot b
    have t2 := o2.tot b
    rw [tot_sum] at t1 t2
    rw [hs b, ← t2, ← en] at t1
    have d1 : (m.dn : Rat) ≠ 0 := by
     have := (chkB_lim o1.ok).2.2.2.2.1
     have : m.dn ≠ 0 := by omega
     exact_mod_cast this
    have d2 : (m'.dn : Rat) ≠ 0 := by
     have := (chkB_lim o2.ok).2.2.2.2.1
     have : m'.dn ≠ 0 := by omega
     exact_mod_cast this
    grind
   have v := chk_same o1.ok o2.ok (part false) (part true)
   obtain ⟨t, c, i, j, re, im, dn, n⟩ := m
   obtain ⟨t', c', i', j', re', im', dn', n'⟩ := m'
   simp only at q v en
   obtain ⟨rfl, rfl, rfl, rfl⟩ := q
   obtain ⟨rfl, rfl, rfl⟩ := v
   subst en
   rfl
theorem sumQ_map (f : Vr → Rat) (g : Vr → Vr) (h : ∀ r, f (g r) = f r) (P : Vr → Bool) : ∀ (l : List Vr), sumQ f ((l.map g).filter P) = sumQ f (l.filter fun r => P (g r))
 | [] => rfl
 | r :: l => by
  have ih := sumQ_map f g h P l
  rw [List.map_cons]
  by_cases c : P (g r) = true
  ·rw [List.filter_cons_of_pos c, List.filter_cons_of_pos (by simpa using c)]
   simp only [sumQ, ih, h]
  ·rw [List.filter_cons_of_neg c, List.filter_cons_of_neg (by simpa using c)]
   exact ih
def avR (a b : Int) (t : List Vr) : Int × List Vr := avK allK (t.map (avT a b))
theorem fm_congr {f g : Int → Option Vr} : ∀ {l : List Int}, (∀ k ∈ l, f k = g k) → l.filterMap f = l.filterMap g
 | [], _ => rfl
 | k :: l, h => by
  rw [List.filterMap_cons, List.filterMap_cons, h k (List.mem_cons_self ..), fm_congr (l := l) fun x hx => h x (List.mem_cons_of_mem _ hx)]
theorem av_twice {a b c d : Int} {t : List Vr} (ha : 1 ≤ a) (hb : 1 ≤ b) (hc : 1 ≤ c) (hd : 1 ≤ d) (ht : ∀ r ∈ t, rowB r = true) (hn : t.length ≤ 1000) (hm : (avR a b t).2.length ≤ 1000)
  (h1 : (avR a b t).1 = 0) (h2 : (avR c d (avR a b t).2).1 = 0) (h3 : (avR (a * c) (b * d) t).1 = 0) : (avR c d (avR a b t).2).2 = (avR (a * c) (b * d) t).2 := by
 have hac : 1 ≤ a * c := Int.mul_pos (by omega) (by omega)
 have hbd : 1 ≤ b * d := Int.mul_pos (by omega) (by omega)
 have hx : ∀ r ∈ t.map (avT a b), rowB r = true := fun r hr => by
  obtain ⟨q, hq, rfl⟩ := List.mem_map.1 hr
  exact avT_row ha hb (ht q hq)
 have hz : ∀ r ∈ t.map (avT (a * c) (b * d)), rowB r = true := fun r hr => by
  obtain ⟨q, hq, rfl⟩ := List.mem_map.1 hr
  exact avT_row hac hbd (ht q hq)
 have hr := (av_rows hx (by simpa using hn) h1).1
 have hy : ∀ r ∈ (avR a b t).2.map (avT c d), rowB r = true := fun r hr' => by
  obtain ⟨q, hq, rfl⟩ := List.mem_map.1 hr'
  exact avT_row hc hd (hr q hq).1
 obtain ⟨e2, k2⟩ := avK_ok h2
 obtain ⟨e3, k3⟩ := avK_ok h3
 show (avK allK _).2 = (avK allK _).2
 rw [e2, e3]
 refine fm_congr fun k hk => ?_
 have gen : ∀ f : Vr → Rat, (∀ a b r, f (avT a b r) = f r) → (∀ P : Int → Bool, sumQ f ((avR a b t).2.filter fun m => P (vkey m)) = sumQ f ((t.map (avT a b)).filter fun r => P (vkey r))) → sumQ f (byK ((avR a b t).2.map (avT c d)) k) = sumQ f (byK (t.map (avT (a * c) (b * d))) k) := fun f hf hs => by
  unfold byK
  rw [sumQ_map f _ (hf c d), sumQ_map f _ (hf _ _)]
  have f1 : ((avR a b t).2.filter fun r => vkey (avT c d r) == k) = (avR a b t).2.filter fun r => (fun q => hK c d q == k) (vkey r) := List.filter_congr fun r hr' => by rw [avT_key hc hd (hr r hr').1]
  rw [f1, hs (fun q => hK c d q == k), sumQ_map f _ (hf a b)]
  refine congrArg _ (List.filter_congr fun r hr' => ?_)
  show (hK c d (vkey (avT a b r)) == k) = _
  rw [← avT_key hc hd (avT_row ha hb (ht r hr')), avT_avT ha hb hc hd (ht r hr')]
 have S := av_sum hx (by simpa using hn) h1
 exact row_same hy (by simpa using hm) hz (by simpa using hn) (k2 k hk) (k3 k hk) (fun b' => gen _ (fun _ _ _ => by cases b' <;> rfl) fun P => (S P).1 b') (gen _ (fun _ _ _ => rfl) fun P => (S P).2)
end Go.Proofs.YtbbnkclajpaghaaGreatDoor
namespace Go.Proofs.YtbbnkclajpaghaaGreatDoor
set_option linter.unusedVariables false
set_option linter.unusedSimpArgs false
def ins (r : Vr) : List Vr → List Vr
 | [] => [r]
 | q :: l => if vkey r ≤ vkey q then r :: q :: l else q :: ins r l
def isort : List Vr → List Vr
 | [] => []
 | r :: l => ins r (isort l)
theorem ins_mem {r x : Vr} : ∀ {l : List Vr}, x ∈ ins r l ↔ x = r ∨ x ∈ l
 | [] => by simp [ins]
 | q :: l => by
  unfold ins
  split
  ·simp
  ·rw [List.mem_cons, ins_mem (l := l), List.mem_cons]
   constructor
   ·rintro (h | h | h)
    ·exact .inr (.inl h)
    ·exact .inl h
    ·exact .inr (.inr h)
   ·rintro (h | h | h)
    ·exact .inr (.inl h)
    ·exact .inl h
    ·exact .inr (.inr h)
theorem ins_srt {r : Vr} : ∀ {l : List Vr}, Srt vkey l → Srt vkey (ins r l)
 | [], _ => List.pairwise_singleton ..
 | q :: l, h => by
  obtain ⟨h1, h2⟩ := List.pairwise_cons.1 h
  unfold ins
  split
  ·rename_i hc
   refine List.pairwise_cons.2 ⟨fun x hx => ?_, h⟩
   rcases List.mem_cons.1 hx with rfl | hx
   ·exact hc
   ·have := h1 x hx; omega
  ·rename_i hc
   refine List.pairwise_cons.2 ⟨fun x hx => ?_, ins_srt h2⟩
   rcases ins_mem.1 hx with rfl | hx
   ·omega
   ·exact h1 x hx
theorem ins_fe {r : Vr} : ∀ {l : List Vr}, Srt vkey l → FE vkey (ins r l) (r :: l)
 | [], _ => FE.refl _
 | q :: l, h => by
  obtain ⟨h1, h2⟩ := List.pairwise_cons.1 h
  unfold ins
  split
  ·exact FE.refl _
  ·rename_i hc
   intro k
   have ih := ins_fe (r := r) h2 k
   by_cases e : vkey q = k
   ·have e' : ¬ vkey r = k := by omega
    rw [List.filter_cons_of_pos (by simpa using e), ih, List.filter_cons_of_neg (by simpa using e'), List.filter_cons_of_neg (by simpa using e'), List.filter_cons_of_pos (by simpa using e)]
   ·rw [List.filter_cons_of_neg (by simpa using e), ih]
    by_cases e' : vkey r = k
    ·rw [List.filter_cons_of_pos (by simpa using e'), List.filter_cons_of_pos (by simpa using e'), List.filter_cons_of_neg (by simpa using e)]
    ·rw [List.filter_cons_of_neg (by simpa using e'), List.filter_cons_of_neg (by simpa using e'), List.filter_cons_of_neg (by simpa using e)]
theorem isort_srt : ∀ (l : List Vr), Srt vkey (isort l)
 | [] => List.Pairwise.nil
 | r :: l => ins_srt (isort_srt l)
theorem isort_fe : ∀ (l : List Vr), FE vkey l (isort l)
 | [] => FE.refl _
 | r :: l => by
  refine FE.trans (fun k => ?_) (ins_fe (isort_srt l)).symm
  have := isort_fe l k
  by_cases e : vkey r = k
  ·rw [List.filter_cons_of_pos (by simpa using e), List.filter_cons_of_pos (by simpa using e), this]
  ·rw [List.filter_cons_of_neg (by simpa using e), List.filter_cons_of_neg (by simpa using e), this]
theorem isort_len : ∀ (l : List Vr), (isort l).length = l.length
 | [] => rfl
 | r :: l => by
  have h : ∀ (l : List Vr), (ins r l).length = l.length + 1 := fun l => by
   induction l with
   | nil => rfl
   | cons q l ih => unfold ins; split <;> simp [ih]
  show (ins r (isort l)).length = _
  rw [h, isort_len l, List.length_cons]
theorem mapT_row {a b : Int} {t : List Vr} (ha : 1 ≤ a) (hb : 1 ≤ b) (ht : ∀ r ∈ t, rowB r = true) : ∀ r ∈ t.map (avT a b), rowB r = true := fun r hr => by
 obtain ⟨q, hq, rfl⟩ := List.mem_map.1 hr
 exact avT_row ha hb (ht q hq)
theorem avR_isort {a b : Int} {t : List Vr} (ha : 1 ≤ a) (hb : 1 ≤ b) (ht : ∀ r ∈ t, rowB r = true) : avR a b t = avF (grps (isort (t.map (avT a b)))) :=
 avK_grps allK_lt (isort_srt _) (isort_fe _) fun r hr => key_all (mapT_row ha hb ht r hr)
theorem goodF_srt {q : Option Vr} {l : List Vr} (h : goodF q l = true) : l.Pairwise fun a b => vkey a < vkey b := by
 induction l generalizing q with
 | nil => exact List.Pairwise.nil
 | cons r l ih =>
  have h' := goodF_none h
  simp only [goodF, Bool.and_eq_true] at h'
  exact List.pairwise_cons.2 ⟨goodF_gt h'.2, ih h'.2⟩
theorem goodF_of : ∀ {l : List Vr} {q : Option Vr}, (∀ r ∈ l, rowB r = true) → (l.Pairwise fun a b => vkey a < vkey b) → (∀ x, q = some x → ∀ r ∈ l, vkey x < vkey r) → goodF q l = true
 | [], q, _, _, _ => by cases q <;> rfl
 | r :: l, q, h, hp, hq => by
  obtain ⟨h1, h2⟩ := List.pairwise_cons.1 hp
  have ih := goodF_of (l := l) (q := some r) (fun x hx => h x (List.mem_cons_of_mem _ hx)) h2 fun x e y hy => by injection e with e; subst e; exact h1 y hy
  have hr := h r (List.mem_cons_self ..)
  cases q with
  | none => simp only [goodF, hr, ih, Bool.and_self]
  | some x => simp only [goodF, hr, ih, Bool.and_self, decide_eq_true (hq x rfl r (List.mem_cons_self ..))]
theorem good_of {l : List Vr} (h : ∀ r ∈ l, rowB r = true) (hp : l.Pairwise fun a b => vkey a < vkey b) : goodB l = true := goodF_of h hp fun x e => by cases e
theorem avR_len {a b : Int} {t : List Vr} (ha : 1 ≤ a) (hb : 1 ≤ b) (ht : ∀ r ∈ t, rowB r = true) : (avR a b t).2.length ≤ t.length := by
 rw [avR_isort ha hb ht]
 refine Nat.le_trans (avF_len _) (Nat.le_trans (grps_len _) ?_)
 rw [isort_len, List.length_map]; exact Nat.le_refl _
theorem av_good {a b : Int} {t : List Vr} (ha : 1 ≤ a) (hb : 1 ≤ b) (ht : ∀ r ∈ t, rowB r = true) (hn : t.length ≤ 200) (h : (avR a b t).1 = 0) : goodB (avR a b t).2 = true ∧ (avR a b t).2.length ≤ t.length ∧ ∀ m ∈ (avR a b t).2, 1 ≤ m.n := by
 obtain ⟨h1, h2⟩ := av_rows (mapT_row ha hb ht) (by rw [List.length_map]; omega) h
 exact ⟨good_of (fun r hr => (h1 r hr).1) h2, avR_len ha hb ht, fun m hm => (h1 m hm).2⟩
theorem avF_err : ∀ {L : List (List Vr)}, (∀ g ∈ L, (∀ r ∈ g, visB r = true) ∧ g.length ≤ 1000) → (avF L).1 = 0 ∨ (avF L).1 = 16
 | [], _ => .inl rfl
 | g :: gs, h => by
  have ih := avF_err (L := gs) fun x hx => h x (List.mem_cons_of_mem _ hx)
  obtain ⟨h1, h2⟩ := h g (List.mem_cons_self ..)
  rw [avF]
  rcases meanF_err h1 h2 with e | e | e
  ·rw [if_pos e.1]; exact ih
  ·rw [if_neg (by omega), if_pos (by omega)]; exact .inr e.1
  ·rw [if_neg (by omega), if_neg (by omega)]
   split
   ·exact ih
   ·exact .inl rfl
theorem avR_err {a b : Int} {t : List Vr} (ha : 1 ≤ a) (hb : 1 ≤ b) (ht : ∀ r ∈ t, rowB r = true) (hn : t.length ≤ 200) : (avR a b t).1 = 0 ∨ (avR a b t).1 = 16 := by
 unfold avR avK
 refine avF_err fun g hg => ?_
 obtain ⟨k, -, rfl⟩ := List.mem_map.1 hg
 refine ⟨fun r hr => row_vis (mapT_row ha hb ht r (byK_mem hr).1), ?_⟩
 refine Nat.le_trans (List.length_filter_le _ _) ?_
 rw [List.length_map]; omega
theorem meanF_single {r : Vr} (hr : rowB r = true) (hn : 0 < r.n) : meanF [r] = (0, r) := by
 have hv := row_vis hr
 have h0 := vis_val hv
 have hw : wgt [r] = r.n := by simp [wgt]
 have key : ∀ b, avgR b [r] = ((makeF (ptN b r) r.dn).1, (makeF (ptN b r) r.dn).2.1, 0) := fun b => by
  obtain ⟨p1, p2, x, y, hm, vx, ex⟩ := pt_val b hv
  have y1 := vx.d1
  have y2 := vx.d2
  have x1 := vx.n1
  have x2 := vx.n2
  have hx : -1000000000 ≤ x ∧ x ≤ 1000000000 := by
   rw [makeF_red (by omega)] at hm
   unfold redF lowF at hm
   split at hm
   ·injection hm with _ hm; injection hm with _ hm; cases hm
   ·injection hm with e _
    have := Nat.div_le_self (ptN b r).natAbs (Nat.gcd (ptN b r).natAbs r.dn.natAbs)
    generalize (ptN b r).natAbs / Nat.gcd (ptN b r).natAbs r.dn.natAbs = z at *
    have hz : z ≤ 1000000000 := by omega
    clear this
    split at e <;> omega
  have vn : VF r.n 1 := VF.int (by omega) (by omega)
  have e1 : ∃ p q, mulR r.n 1 x y = (p, q, 0) ∧ VF p q ∧ p * y = r.n * x * q := by
   have hb : (r.n * x).natAbs ≤ 1000000000000000 := by
    rw [Int.natAbs_mul]
    exact Nat.mul_le_mul (show r.n.natAbs ≤ 1000000 by omega) (show x.natAbs ≤ 1000000000 by omega)
   unfold mulR
   rw [if_pos (vn.both vx), mulF_red vn vx]
   rcases redF_cases (r.n * x) ((1 : Int).natAbs * y.natAbs) with h | ⟨p, q, h⟩
   ·exfalso
    unfold redF lowF at h
    have h1 := Nat.div_le_self (r.n * x).natAbs (Nat.gcd (r.n * x).natAbs ((1 : Int).natAbs * y.natAbs))
    have h2 := Nat.div_le_self ((1 : Int).natAbs * y.natAbs) (Nat.gcd (r.n * x).natAbs ((1 : Int).natAbs * y.natAbs))
    have e1 : (1 : Int).natAbs * y.natAbs = y.natAbs := by simp
    rw [e1] at h h1 h2
    rw [if_neg (by omega)] at h
    injection h with _ h; injection h with _ h; cases h
   ·have := redF_val (by simp; omega) h rfl
    refine ⟨p, q, h, this.1, ?_⟩
    have h2 := this.2
    rwa [show (((1 : Int).natAbs * y.natAbs : Nat) : Int) = y by simp; omega] at h2
  obtain ⟨p, q, hp, vp, ep⟩ := e1
  have q1 := vp.d1
  have e2 : rnd b 0 1 r = (p, q, 0) := by
   unfold rnd
   rw [hm]
   simp only
   rw [hp]
   simp only
   rw [if_neg (by decide)]
   have v0 : VF 0 1 := VF.int (by decide) (by decide)
   unfold addR
   rw [if_pos (v0.both vp), addF_red v0 vp]
   refine redF_of (by simp; omega) vp ?_
   rw [Int.natCast_mul, natAbs_cast (by omega), natAbs_cast (by omega)]
   grind
  have e3 : sumS b 0 1 [r] = (p, q, 0) := by
   simp only [sumS, e2]
   rw [if_neg (by decide)]
  unfold avgR
  rw [e3, hw, hm]
  simp only
  rw [if_neg (by decide)]
  unfold divR
  rw [if_pos (vp.both vn), if_neg (by omega), if_neg (by omega), mulF_red vp (vn.over.2 hn)]
  refine redF_of (Nat.mul_pos (by omega) (by omega)) vx ?_
  rw [Int.natCast_mul, natAbs_cast (by omega), natAbs_cast (by omega)]
  grind
 have hval := valO_row hr
 unfold meanF
 rw [hw, if_neg (by omega), key false, key true]
 simp only
 rw [if_neg (by decide), if_neg (by decide)]
 have : valO (makeF (ptN false r) r.dn).1 (makeF (ptN false r) r.dn).2.1 (makeF (ptN true r) r.dn).1 (makeF (ptN true r) r.dn).2.1 = some (r.re, r.im, r.dn) := hval
 rw [this]
 simp only
 rw [if_neg (by omega)]
 rfl
theorem grps_single : ∀ {l : List Vr}, (l.Pairwise fun a b => vkey a < vkey b) → grps l = l.map fun r => [r]
 | [], _ => rfl
 | r :: l, h => by
  obtain ⟨h1, h2⟩ := List.pairwise_cons.1 h
  rw [grps, grps_single h2]
  cases l with
  | nil => rfl
  | cons q l =>
   simp only [List.map_cons]
   rw [if_neg (by have := h1 q (List.mem_cons_self ..); show vkey q ≠ vkey r; omega)]
theorem avF_single : ∀ {l : List Vr}, (∀ r ∈ l, rowB r = true) → avF (l.map fun r => [r]) = (0, l.filter fun r => decide (0 < r.n))
 | [], _ => rfl
 | r :: l, h => by
  have ih := avF_single (l := l) fun x hx => h x (List.mem_cons_of_mem _ hx)
  have hr := h r (List.mem_cons_self ..)
  have h0 := vis_val (row_vis hr)
  rw [List.map_cons, avF, ih]
  by_cases c : 0 < r.n
  ·rw [meanF_single hr c, List.filter_cons_of_pos (by simpa using c)]
   rfl
  ·have e : (meanF [r]).1 = 18 := by
    unfold meanF
    rw [if_pos (by simp [wgt]; omega)]
   rw [if_pos e, List.filter_cons_of_neg (by simpa using c)]
theorem avR_one {t : List Vr} (h : goodB t = true) : avR 1 1 t = (0, t.filter fun r => decide (0 < r.n)) := by
 have hr := goodF_row h
 have hs := goodF_srt h
 have e : t.map (avT 1 1) = t := by
  refine (List.map_congr_left fun r _ => ?_).trans (List.map_id t)
  obtain ⟨tt, c, i, j, re, im, dn, n⟩ := r
  simp [avT]
 unfold avR
 rw [e, avK_grps allK_lt (hs.imp fun h => by omega) (FE.refl t) fun r hr' => key_all (hr r hr'), grps_single hs, avF_single hr]
def avgE (l : List Vr) (a b : Int) : Int := if chkE l ≠ 0 then chkE l else if a < 1 ∨ 64 < a ∨ b < 1 ∨ 16 < b then 2 else (avR a b l).1
def avgL (l : List Vr) (a b : Int) : List Vr := if avgE l a b = 0 then (avR a b l).2 else []
theorem av_wgt {a b i j : Int} {t : List Vr} (ha : 1 ≤ a) (hb : 1 ≤ b) (ht : ∀ r ∈ t, rowB r = true) (hn : t.length ≤ 200) (h : (avR a b t).1 = 0) : wgt ((avR a b t).2.filter (selB i j)) = wgt (t.filter (selB i j)) := by
 have hx := mapT_row ha hb ht
 have hl : (t.map (avT a b)).length ≤ 1000 := by rw [List.length_map]; omega
 have S := (av_sum hx hl h fun k => decide (k / 8 % 8 = i) && decide (k % 8 = j)).2
 have R := (av_rows hx hl h).1
 have e1 : ((avK allK (t.map (avT a b))).2.filter fun m => decide (vkey m / 8 % 8 = i) && decide (vkey m % 8 = j)) = (avR a b t).2.filter (selB i j) := List.filter_congr fun m hm => by
  obtain ⟨-, -, h3, h4⟩ := key_parts (R m hm).1
  unfold selB
  rw [h3, h4]
 have e2 : sumQ quN ((t.map (avT a b)).filter fun m => decide (vkey m / 8 % 8 = i) && decide (vkey m % 8 = j)) = sumQ quN (t.filter (selB i j)) := by
  rw [sumQ_map quN (avT a b) (fun _ => rfl)]
  refine congrArg _ (List.filter_congr fun r hr => ?_)
  obtain ⟨-, -, h3, h4⟩ := key_parts (avT_row ha hb (ht r hr))
  show (decide (vkey (avT a b r) / 8 % 8 = i) && decide (vkey (avT a b r) % 8 = j)) = _
  rw [h3, h4]
  rfl
 rw [e1, e2, ← wgt_sum, ← wgt_sum] at S
 exact_mod_cast S
end Go.Proofs.YtbbnkclajpaghaaGreatDoor
namespace Go.Proofs.YtbbnkclajpaghaaGreatDoor
open Go.ChangeShapes Go.WideShapes Go.ChangeAt Go.RowKit
set_option linter.unusedVariables false
abbrev RTy : TypeId := 67
def RW (W : World) (g : Nat) (xs : List Vr) : Prop := W.heap[g]? = some (.cells (vrc xs).toArray RTy)
theorem RW.lt {W : World} {g : Nat} {xs : List Vr} (h : RW W g xs) : g < W.heap.size := blk_lt h
theorem RW.next {W W' : World} {g : Nat} {xs : List Vr} (h : RW W g xs) (hb : Below W.heap.size W W') : RW W' g xs := blk_next hb h
theorem vrc_len (l : List Vr) : (vrc l).length = l.length * 8 := by
 unfold vrc
 induction l with
 | nil => rfl
 | cons r l ih => rw [List.flatMap_cons, List.length_append, ih, List.length_cons]; show 8 + _ = _; omega
theorem vrc_get {l : List Vr} {j : Nat} {r : Vr} (h : l[j]? = some r) (q : Nat) (v : Value) (hv : (vr8 r)[q]? = some v) : (vrc l)[j * 8 + q]? = some v := by
 obtain ⟨hj, rfl⟩ := List.getElem?_eq_some_iff.1 h
 have hq : q < 8 := (List.getElem?_eq_some_iff.1 hv).1
 have e : vrc l = vrc (l.take j) ++ (vr8 l[j] ++ vrc (l.drop (j + 1))) := by
  conv => lhs; rw [← List.take_append_drop j l, List.drop_eq_getElem_cons hj]
  rw [vrc_append]
  rfl
 rw [e, List.getElem?_append_right (by rw [vrc_len, List.length_take]; omega), vrc_len, List.length_take, show min j l.length = j by omega, show j * 8 + q - j * 8 = q by omega, List.getElem?_append_left (show q < (vr8 l[j]).length from hq)]
 exact hv
theorem RW.cell {W : World} {g : Nat} {xs : List Vr} (h : RW W g xs) {j : Nat} {r : Vr} (hr : xs[j]? = some r) (q : Nat) (v : Value) (hv : (vr8 r)[q]? = some v) : W.cell? ⟨g, j * 8 + q, none⟩ = some v :=
 blk_cell h _ _ (by rw [List.getElem?_toArray]; exact vrc_get hr q v hv)
theorem blk_setCells : ∀ (vs : List Value) (o : Nat) {W : World} {g : Nat} {cs : Array Value} {T : TypeId}, W.heap[g]? = some (.cells cs T) → ∃ cs', (W.setCells g o vs).heap[g]? = some (.cells cs' T) ∧ cs'.size = cs.size ∧ ∀ k, cs'[k]? = if o ≤ k ∧ k < o + vs.length ∧ k < cs.size then vs[k - o]? else cs[k]?
 | [], o, W, g, cs, T, h => ⟨cs, h, rfl, fun k => by rw [if_neg (by simp; omega)]⟩
 | v :: vs, o, W, g, cs, T, h => by
  obtain ⟨cs', h1, h2, h3⟩ := blk_setCells vs (o + 1) (blk_set h o v)
  refine ⟨cs', h1, by rw [h2]; simp, fun k => ?_⟩
  rw [h3 k, Array.getElem?_setIfInBounds, Array.size_setIfInBounds, List.length_cons]
  by_cases e : o = k
  ·subst e
   rw [if_neg (by omega), if_pos rfl]
   by_cases hk : o < cs.size
   ·simp [hk]
   ·simp [hk]
  ·rw [if_neg e]
   by_cases hk : o + 1 ≤ k ∧ k < o + 1 + vs.length ∧ k < cs.size
   ·rw [if_pos hk, if_pos (by omega), show k - o = (k - (o + 1)) + 1 by omega, List.getElem?_cons_succ]
   ·rw [if_neg hk, if_neg (by omega)]
theorem setCells_other {W : World} {g b : Nat} (hb : b ≠ g) : ∀ (vs : List Value) (o : Nat) {W : World}, (W.setCells g o vs).heap[b]? = W.heap[b]?
 | [], _, _ => rfl
 | v :: vs, o, W => by
  rw [World.setCells, setCells_other (W := W) hb vs (o + 1)]
  simp [World.setCell, Array.getElem?_modify, Ne.symm hb]
theorem setCells_grown (g : Nat) : ∀ (vs : List Value) (o : Nat) (W : World), W.grownBy (W.setCells g o vs) (some g)
 | [], _, W => ⟨rfl, rfl, rfl, Nat.le_refl _, fun _ _ _ => rfl⟩
 | v :: vs, o, W => by
  have h1 : W.grownBy (W.setCell ⟨g, o, none⟩ v) (some g) := ⟨rfl, rfl, rfl, by simp, fun k _ hk => heap_setCell_other W ⟨g, o, none⟩ k v (fun e => hk (by simp [e]))⟩
  have h2 := setCells_grown g vs (o + 1) (W.setCell ⟨g, o, none⟩ v)
  exact ⟨h2.os.trans h1.os, h2.tape.trans h1.tape, h2.output.trans h1.output, Nat.le_trans h1.size h2.size, fun k hk hn => (h2.block k (Nat.lt_of_lt_of_le hk h1.size) hn).trans (h1.block k hk hn)⟩
theorem vrc_set {l : List Vr} {j : Nat} (hj : j < l.length) (r : Vr) (k : Nat) : (vrc (l.set j r))[k]? = if j * 8 ≤ k ∧ k < j * 8 + 8 then (vr8 r)[k - j * 8]? else (vrc l)[k]? := by
 obtain ⟨q, u, hq, rfl⟩ : ∃ q u, u < 8 ∧ k = q * 8 + u := ⟨k / 8, k % 8, Nat.mod_lt _ (by decide), by omega⟩
 by_cases hql : q < l.length
 ·have A : (vrc l)[q * 8 + u]? = (vr8 l[q])[u]? := by
   have hv : (vr8 l[q])[u]? = some (vr8 l[q])[u] := List.getElem?_eq_getElem (show u < (vr8 l[q]).length from hq)
   rw [hv]; exact vrc_get (List.getElem?_eq_getElem hql) u _ hv
  have B : (vrc (l.set j r))[q * 8 + u]? = (vr8 (if j = q then r else l[q]))[u]? := by
   have hg : (l.set j r)[q]? = some (if j = q then r else l[q]) := by
    rw [List.getElem?_set]
    by_cases e : j = q
    ·rw [if_pos e, if_pos hj, if_pos e]
    ·rw [if_neg e, if_neg e, List.getElem?_eq_getElem hql]
   generalize (if j = q then r else l[q]) = z at *
   have hv : (vr8 z)[u]? = some (vr8 z)[u] := List.getElem?_eq_getElem (show u < (vr8 z).length from hq)
   rw [hv]; exact vrc_get hg u _ hv
  rw [A, B]
  by_cases e : j = q
  ·rw [if_pos e, if_pos (by omega)]; congr 1; omega
  ·rw [if_neg e, if_neg (by omega)]
 ·rw [if_neg (by omega), List.getElem?_eq_none (by rw [vrc_len, List.length_set]; omega), List.getElem?_eq_none (by rw [vrc_len]; omega)]
theorem RW.set {W : World} {g : Nat} {xs : List Vr} (h : RW W g xs) {j : Nat} (hj : j < xs.length) (r : Vr) : RW (W.setCells g (j * 8) (vr8 r)) g (xs.set j r) := by
 obtain ⟨cs', h1, h2, h3⟩ := blk_setCells (vr8 r) (j * 8) h
 have e : cs' = (vrc (xs.set j r)).toArray := by
  apply Array.ext_getElem?
  intro k
  rw [h3 k, List.getElem?_toArray, List.getElem?_toArray, vrc_set hj r k]
  have hl : (vr8 r).length = 8 := rfl
  rw [hl, List.size_toArray, vrc_len]
  by_cases hk : j * 8 ≤ k ∧ k < j * 8 + 8
  ·rw [if_pos ⟨hk.1, hk.2, by omega⟩, if_pos hk]
  ·rw [if_neg (by omega), if_neg hk]
 unfold RW
 rw [h1, e]
theorem RW.there {W : World} {g : Nat} {xs : List Vr} (h : RW W g xs) {j : Nat} (hj : j < xs.length) : W.there g (j * 8) 8 := fun q hq => by
 have hr : xs[j]? = some xs[j] := List.getElem?_eq_getElem hj
 have hv : (vr8 xs[j])[q]? = some (vr8 xs[j])[q] := List.getElem?_eq_getElem (show q < (vr8 xs[j]).length from hq)
 exact ⟨by rw [h.cell hr q _ hv]; rfl, blk_frozen h _⟩
theorem one8 (r : Vr) : (vr8 r).toArray.all (·.oneCell') = true := by simp [vr8, Value.oneCell']
theorem infoR : (Tryz.prog.info? RTy).map (·.size) = some 8 := by kernel_rfl
theorem grown_of_below {W W' : World} (h : Below W.heap.size W W') (row : Option Nat) : W.grownBy W' row := ⟨h.os, h.tape, h.output, h.size, fun k hk _ => h.block k hk⟩
theorem grown_trans {A B C : World} {row : Option Nat} (h1 : A.grownBy B row) (h2 : B.grownBy C row) : A.grownBy C row := ⟨h2.os.trans h1.os, h2.tape.trans h1.tape, h2.output.trans h1.output, Nat.le_trans h1.size h2.size, fun k hk hn => (h2.block k (Nat.lt_of_lt_of_le hk h1.size) hn).trans (h1.block k hk hn)⟩
theorem grown_refl (A : World) (row : Option Nat) : A.grownBy A row := ⟨rfl, rfl, rfl, Nat.le_refl _, fun _ _ _ => rfl⟩
theorem wp_store_row {op : Oper} {a : Act} {w : World} {K : Act → World → Prop} {Q : Exit → Act → World → Prop} (x y : Operand) (ho : op.op = .store RTy x y)
  (g j : Nat) (xs : List Vr) (r : Vr) (hx : a.eval x = .pointer (some ⟨g, j * 8, none⟩)) (hy : a.eval y = .agg (vr8 r).toArray) (hw : RW w g xs) (hj : j < xs.length)
  (h : K (a.put op.dst undef) (w.setCells g (j * 8) (vr8 r))) : op.wp Tryz.prog a w K Q :=
 wp_store_mid RTy x y ho g (j * 8) (vr8 r).toArray hx hy (hw.there hj) infoR (one8 r) h
theorem GK.setCells {L : List (Nat × Nat × Obj)} {k g : Nat} {X : World} (h : GK L k X) (hn : ∀ p ∈ L, p.1 = k → p.2.1 ≠ g) (o : Nat) (vs : List Value) : GK L k (X.setCells g o vs) := fun p hp e => (setCells_other (W := X) (hn p hp e) vs o).trans (h p hp e)
end Go.Proofs.YtbbnkclajpaghaaGreatDoor
namespace Go.Proofs.YtbbnkclajpaghaaGreatDoor.Dv
set_option linter.unusedVariables false
set_option maxRecDepth 100000
theorem lt_q {M y q : Nat} (hy : 0 < y) (h : M < q * y) : M / y < q := (Nat.div_lt_iff_lt_mul hy).2 h
theorem le_q {M y q : Nat} (hy : 0 < y) (h : q * y ≤ M) : q ≤ M / y := (Nat.le_div_iff_mul_le hy).2 h
structure G (U u1 d1 d0 q r : Nat) : Prop where
 e : q * d1 + r = U
 hi : (U * 4294967296 + u1) / (d1 * 4294967296 + d0) ≤ q
theorem top {U u1 y : Nat} (hU : U < y) (hu : u1 < 4294967296) : (U * 4294967296 + u1) / y < 4294967296 := by
 refine lt_q (by omega) ?_
 rw [Nat.mul_comm 4294967296 y]
 omega
theorem mulY (q d1 d0 : Nat) : q * (d1 * 4294967296 + d0) = q * d1 * 4294967296 + q * d0 := by rw [Nat.mul_add, Nat.mul_assoc]
theorem start {U u1 d1 d0 : Nat} (h1 : 0 < d1) (hu : u1 < 4294967296) : G U u1 d1 d0 (U / d1) (U % d1) := by
 refine ⟨by rw [Nat.mul_comm]; exact Nat.div_add_mod U d1, ?_⟩
 refine Nat.le_of_lt_succ (lt_q (by omega) ?_)
 rw [mulY]
 have h := Nat.lt_div_mul_add (a := U) h1
 have : U + 1 ≤ (U / d1 + 1) * d1 := by rw [Nat.add_mul, Nat.one_mul]; omega
 generalize (U / d1 + 1) * d0 = z at *
 generalize (U / d1 + 1) * d1 = z' at *
 omega
theorem G.down {U u1 d1 d0 q r : Nat} (g : G U u1 d1 d0 q r) (h1 : 0 < d1) (hU : U < d1 * 4294967296 + d0) (hu : u1 < 4294967296) (h : 4294967296 ≤ q ∨ 4294967296 * r + u1 < q * d0) :
  1 ≤ q ∧ G U u1 d1 d0 (q - 1) (r + d1) := by
 have q1 : 1 ≤ q := by
  rcases h with h | h
  ·omega
  ·exact Nat.pos_of_ne_zero (fun z => by rw [z, Nat.zero_mul] at h; omega)
 refine ⟨q1, ?_, ?_⟩
 ·have e := g.e
  have : q * d1 = (q - 1) * d1 + d1 := by rw [Nat.sub_mul, Nat.one_mul, Nat.sub_add_cancel (Nat.le_mul_of_pos_left _ q1)]
  omega
 ·have : (U * 4294967296 + u1) / (d1 * 4294967296 + d0) < q := by
   rcases h with h | h
   ·exact Nat.lt_of_lt_of_le (top hU hu) h
   ·refine lt_q (by omega) ?_
    rw [mulY]
    have e := g.e
    generalize q * d1 = a at *
    omega
  omega
theorem G.bound {U u1 d1 d0 q r : Nat} (g : G U u1 d1 d0 q r) (h1 : 0 < d1) (hU : U < d1 * 4294967296 + d0) (hd : d0 < 4294967296) (hr : 4294967296 ≤ r) : q < 4294967296 := by
 have e := g.e
 by_cases c : q < 4294967296
 ·exact c
 ·have := Nat.mul_le_mul_right d1 (show 4294967296 ≤ q by omega)
  rw [Nat.mul_comm 4294967296 d1] at this
  omega
theorem G.done1 {U u1 d1 d0 q r : Nat} (g : G U u1 d1 d0 q r) (h1 : 0 < d1) (h : q * d0 ≤ 4294967296 * r + u1) : q = (U * 4294967296 + u1) / (d1 * 4294967296 + d0) := by
 refine Nat.le_antisymm (le_q (by omega) ?_) g.hi
 rw [mulY]
 have e := g.e
 generalize q * d1 = a at *
 omega
theorem G.done2 {U u1 d1 d0 q r : Nat} (g : G U u1 d1 d0 q r) (h1 : 0 < d1) (hU : U < d1 * 4294967296 + d0) (hd : d0 < 4294967296) (hr : 4294967296 ≤ r) : q = (U * 4294967296 + u1) / (d1 * 4294967296 + d0) := by
 refine g.done1 h1 ?_
 have := g.bound h1 hU hd hr
 have : q * d0 ≤ 4294967296 * 4294967296 := Nat.mul_le_mul (by omega) (by omega)
 omega
theorem left {M y : Nat} : M - M / y * y = M % y := by
 have := Nat.div_add_mod M y
 rw [Nat.mul_comm] at this
 omega
theorem both {M u0 y : Nat} (hy : 0 < y) : M / y * 4294967296 + (M % y * 4294967296 + u0) / y = (M * 4294967296 + u0) / y ∧ (M % y * 4294967296 + u0) % y = (M * 4294967296 + u0) % y := by
 have h := Nat.div_add_mod M y
 have k : M * 4294967296 + u0 = (M % y * 4294967296 + u0) + y * (M / y * 4294967296) := by
  have : M * 4294967296 = (y * (M / y) + M % y) * 4294967296 := by rw [h]
  rw [this]; grind
 rw [k, Nat.add_mul_div_left _ _ hy, Nat.add_mul_mod_self_left]
 exact ⟨Nat.add_comm _ _, rfl⟩
theorem moved {hi lo y s : Nat} (hs : 2 ^ s ∣ 18446744073709551616) (hlo : lo < 18446744073709551616) :
  (hi * 2 ^ s + lo / (18446744073709551616 / 2 ^ s)) * 18446744073709551616 + lo * 2 ^ s % 18446744073709551616 = (hi * 18446744073709551616 + lo) * 2 ^ s := by
 obtain ⟨t, ht⟩ := hs
 have hp : 0 < 2 ^ s := Nat.two_pow_pos s
 rw [ht, Nat.mul_div_cancel_left _ hp]
 generalize 2 ^ s = p at *
 have h := Nat.div_add_mod lo t
 rw [Nat.mul_comm lo p, Nat.mul_mod_mul_left]
 have : lo * p = (t * (lo / t) + lo % t) * p := by rw [h]
 rw [Nat.add_mul, Nat.add_mul (hi * (p * t)), this]
 generalize lo / t = a at *
 generalize lo % t = b at *
 grind
theorem back {N y s : Nat} : N * 2 ^ s / (y * 2 ^ s) = N / y ∧ N * 2 ^ s % (y * 2 ^ s) / 2 ^ s = N % y :=
 ⟨Nat.mul_div_mul_right _ _ (Nat.two_pow_pos s), by rw [Nat.mul_mod_mul_right, Nat.mul_div_cancel _ (Nat.two_pow_pos s)]⟩
end Go.Proofs.YtbbnkclajpaghaaGreatDoor.Dv
