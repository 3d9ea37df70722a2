/- Several texts in one. -/
import Derived.Test.YtfangplfbbgphaaGreatDoorMT07
import Derived.Test.YtfangplfbbgphaaGreatDoorMT11
namespace Go.Proofs.YtfangplfbbgphaaGreatDoor
set_option linter.unusedVariables false
set_option maxRecDepth 100000
theorem okF_VF {n d : Int} (h : okF n d = true) : VF n d := errF_ok (by unfold errF; rw [h]; rfl)
theorem subR_red {an ad bn bd : Int} (ha : okF an ad = true) (hb : okF bn bd = true) : subR an ad bn bd = redF (an * bd - bn * ad) (ad.natAbs * bd.natAbs) := by
 unfold subR
 rw [errB_yes ha hb, if_pos rfl, addF_red (okF_VF ha) (okF_VF hb).neg]
 congr 1
 rw [Int.neg_mul]; omega
theorem addR_red {an ad bn bd : Int} (ha : okF an ad = true) (hb : okF bn bd = true) : addR an ad bn bd = redF (an * bd + bn * ad) (ad.natAbs * bd.natAbs) := by
 unfold addR
 rw [errB_yes ha hb, if_pos rfl, addF_red (okF_VF ha) (okF_VF hb)]
theorem abs_mul2 {a b : Int} (ha : 1 ≤ a) (hb : 1 ≤ b) : ((a.natAbs * b.natAbs : Nat) : Int) = a * b := by
 rw [Int.natCast_mul, Int.natAbs_of_nonneg (by omega), Int.natAbs_of_nonneg (by omega)]
theorem abs_pos2 {a b : Int} (ha : 1 ≤ a) (hb : 1 ≤ b) : 0 < a.natAbs * b.natAbs := Nat.mul_pos (by omega) (by omega)
theorem subR_val {an ad bn bd : Int} (ha : okF an ad = true) (hb : okF bn bd = true) (h0 : (subR an ad bn bd).2.2 = 0) :
  VF (subR an ad bn bd).1 (subR an ad bn bd).2.1 ∧ (subR an ad bn bd).1 * (ad * bd) = (an * bd - bn * ad) * (subR an ad bn bd).2.1 := by
 have va := okF_VF ha
 have vb := okF_VF hb
 obtain ⟨h1, h2⟩ := redF_val (abs_pos2 va.d1 vb.d1) (show redF (an * bd - bn * ad) (ad.natAbs * bd.natAbs) = ((subR an ad bn bd).1, (subR an ad bn bd).2.1, (subR an ad bn bd).2.2) by rw [subR_red ha hb]) h0
 rw [abs_mul2 va.d1 vb.d1] at h2
 exact ⟨h1, h2⟩
theorem subR_swap {an ad bn bd : Int} (ha : okF an ad = true) (hb : okF bn bd = true) (h0 : (subR an ad bn bd).2.2 = 0) : subR bn bd an ad = (-(subR an ad bn bd).1, (subR an ad bn bd).2.1, 0) := by
 have va := okF_VF ha
 have vb := okF_VF hb
 obtain ⟨h1, h2⟩ := subR_val ha hb h0
 rw [subR_red hb ha]
 refine redF_of (abs_pos2 vb.d1 va.d1) h1.neg ?_
 rw [abs_mul2 vb.d1 va.d1]
 generalize (subR an ad bn bd).1 = n at *
 generalize (subR an ad bn bd).2.1 = d at *
 clear h0 h1 va vb ha hb
 grind
theorem subR_self {an ad : Int} (ha : okF an ad = true) : subR an ad an ad = (0, 1, 0) := by
 have va := okF_VF ha
 rw [subR_red ha ha, Int.sub_self, redF_of_zero _ (abs_pos2 va.d1 va.d1)]
theorem subR_zero {an ad bn bd : Int} (ha : okF an ad = true) (hb : okF bn bd = true) (h0 : (subR an ad bn bd).2.2 = 0) (hz : (subR an ad bn bd).1 = 0) : an = bn ∧ ad = bd := by
 have va := okF_VF ha
 have vb := okF_VF hb
 obtain ⟨h1, h2⟩ := subR_val ha hb h0
 rw [hz, Int.zero_mul] at h2
 have d1 := h1.d1
 have h3 : an * bd - bn * ad = 0 := by
  rcases Int.mul_eq_zero.1 h2.symm with h | h
  ·exact h
  ·omega
 exact va.same vb (by omega)
theorem subR_add {an ad bn bd cn cd : Int} (ha : okF an ad = true) (hb : okF bn bd = true) (hc : okF cn cd = true) (h1 : (subR bn bd an ad).2.2 = 0) (h2 : (subR cn cd bn bd).2.2 = 0) (h3 : (subR cn cd an ad).2.2 = 0)
  (o1 : okF (subR bn bd an ad).1 (subR bn bd an ad).2.1 = true) (o2 : okF (subR cn cd bn bd).1 (subR cn cd bn bd).2.1 = true) :
  addR (subR bn bd an ad).1 (subR bn bd an ad).2.1 (subR cn cd bn bd).1 (subR cn cd bn bd).2.1 = ((subR cn cd an ad).1, (subR cn cd an ad).2.1, 0) := by
 have va := okF_VF ha
 have vb := okF_VF hb
 have vc := okF_VF hc
 obtain ⟨v1, e1⟩ := subR_val hb ha h1
 obtain ⟨v2, e2⟩ := subR_val hc hb h2
 obtain ⟨v3, e3⟩ := subR_val hc ha h3
 rw [addR_red o1 o2]
 refine redF_of (abs_pos2 v1.d1 v2.d1) v3 ?_
 rw [abs_mul2 v1.d1 v2.d1]
 have pa := va.d1
 have pb := vb.d1
 have pc := vc.d1
 generalize (subR bn bd an ad).1 = n1 at *
 generalize (subR bn bd an ad).2.1 = d1 at *
 generalize (subR cn cd bn bd).1 = n2 at *
 generalize (subR cn cd bn bd).2.1 = d2 at *
 generalize (subR cn cd an ad).1 = n3 at *
 generalize (subR cn cd an ad).2.1 = d3 at *
 clear v1 v2 v3 va vb vc ha hb hc h1 h2 h3 o1 o2
 have hp : ad * bd * cd ≠ 0 := by
  have h4 := Int.mul_pos (Int.mul_pos (show 0 < ad by omega) (show 0 < bd by omega)) (show 0 < cd by omega)
  omega
 refine Int.eq_of_mul_eq_mul_left hp ?_
 have l : ad * bd * cd * (n3 * (d1 * d2)) = (n3 * (cd * ad)) * (bd * d1 * d2) := by grind
 have r : ad * bd * cd * ((n1 * d2 + n2 * d1) * d3) = ((n1 * (bd * ad)) * (cd * d2 * d3)) + ((n2 * (cd * bd)) * (ad * d1 * d3)) := by grind
 rw [l, r, e1, e2, e3]
 grind
theorem VF_okF {n d : Int} (h : VF n d) : okF n d = true := by
 unfold okF
 rw [h.g, decide_eq_true ⟨h.d1, h.d2, h.n1, h.n2⟩]; rfl
theorem subR_ok {an ad bn bd : Int} (ha : okF an ad = true) (hb : okF bn bd = true) (h0 : (subR an ad bn bd).2.2 = 0) : okF (subR an ad bn bd).1 (subR an ad bn bd).2.1 = true := VF_okF (subR_val ha hb h0).1
theorem subV_ok {v u : V6} (h : SubOk v u) : okV (subV v u) = true := by
 obtain ⟨a1, a2, a3⟩ := okV_x h.ov
 obtain ⟨b1, b2, b3⟩ := okV_x h.ou
 unfold okV subV
 rw [subR_ok a1 b1 h.x, subR_ok a2 b2 h.y, subR_ok a3 b3 h.z]; rfl
theorem subV_swap {v u : V6} (h : SubOk v u) : subV u v = negV (subV v u) := by
 obtain ⟨a1, a2, a3⟩ := okV_x h.ov
 obtain ⟨b1, b2, b3⟩ := okV_x h.ou
 unfold negV
 show V6.mk _ _ _ _ _ _ = _
 rw [subR_swap a1 b1 h.x, subR_swap a2 b2 h.y, subR_swap a3 b3 h.z]
 rfl
theorem subV_self {v : V6} (h : okV v = true) : subV v v = ⟨0, 1, 0, 1, 0, 1⟩ := by
 obtain ⟨a1, a2, a3⟩ := okV_x h
 unfold subV
 rw [subR_self a1, subR_self a2, subR_self a3]
theorem subV_zero {v u : V6} (h : SubOk v u) (hz : subV v u = ⟨0, 1, 0, 1, 0, 1⟩) : v = u := by
 obtain ⟨a1, a2, a3⟩ := okV_x h.ov
 obtain ⟨b1, b2, b3⟩ := okV_x h.ou
 obtain ⟨x1, x2⟩ := subR_zero a1 b1 h.x (congrArg V6.x1 hz)
 obtain ⟨y1, y2⟩ := subR_zero a2 b2 h.y (congrArg V6.y1 hz)
 obtain ⟨z1, z2⟩ := subR_zero a3 b3 h.z (congrArg V6.z1 hz)
 cases v; cases u
 simp only at x1 x2 y1 y2 z1 z2
 subst x1 x2 y1 y2 z1 z2
 rfl
theorem subV_add {a b c : V6} (h1 : SubOk b a) (h2 : SubOk c b) (h3 : SubOk c a) : AddOk (subV b a) (subV c b) ∧ addV (subV b a) (subV c b) = subV c a := by
 obtain ⟨a1, a2, a3⟩ := okV_x h1.ou
 obtain ⟨b1, b2, b3⟩ := okV_x h1.ov
 obtain ⟨c1, c2, c3⟩ := okV_x h2.ov
 have ex := subR_add a1 b1 c1 h1.x h2.x h3.x (subR_ok b1 a1 h1.x) (subR_ok c1 b1 h2.x)
 have ey := subR_add a2 b2 c2 h1.y h2.y h3.y (subR_ok b2 a2 h1.y) (subR_ok c2 b2 h2.y)
 have ez := subR_add a3 b3 c3 h1.z h2.z h3.z (subR_ok b3 a3 h1.z) (subR_ok c3 b3 h2.z)
 refine ⟨⟨subV_ok h1, subV_ok h2, by show (addR _ _ _ _).2.2 = 0; exact congrArg (fun p => p.2.2) ex, by show (addR _ _ _ _).2.2 = 0; exact congrArg (fun p => p.2.2) ey, by show (addR _ _ _ _).2.2 = 0; exact congrArg (fun p => p.2.2) ez⟩, ?_⟩
 show V6.mk (addR _ _ _ _).1 (addR _ _ _ _).2.1 (addR _ _ _ _).1 (addR _ _ _ _).2.1 (addR _ _ _ _).1 (addR _ _ _ _).2.1 = _
 have px := ex; have py := ey; have pz := ez
 simp only [subV] at *
 rw [px, py, pz]
end Go.Proofs.YtfangplfbbgphaaGreatDoor
namespace Go.Proofs.YtfangplfbbgphaaGreatDoor
open Go.ChangeShapes Go.WideShapes Go.ChangeAt Go.RowKit
set_option linter.unusedVariables false
set_option maxRecDepth 100000
set_option linter.unusedSimpArgs false
set_option maxRecDepth 100000
attribute [local go_sem ↓] Go.wp_at_zero Go.wp_at_succ
theorem str_len (s : ByteArray) : s.data.toList.length = s.size := by rw [Array.length_toList]; rfl
theorem str_get (s : ByteArray) (k : Nat) (h : k < s.size) : s.data.toList[k]? = some s[k] := by
 have : k < s.data.toList.length := by rw [Array.length_toList]; exact h
 rw [List.getElem?_eq_getElem this]
 rfl
theorem all_bad {l : List UInt8} {k : Nat} {c : UInt8} (h : l[k]? = some c) (hc : namC c.toNat = false) : namB l = false := by
 unfold namB
 have : (l.all fun c => namC c.toNat) = false := by
  rw [List.all_eq_false]
  exact ⟨c, List.mem_of_getElem? h, by rw [hc]; simp⟩
 rw [this, Bool.and_false, Bool.and_false]
theorem all_good {l : List UInt8} (h1 : 1 ≤ l.length) (h2 : l.length ≤ 40) {c0 : UInt8} (h0 : l[0]? = some c0) (hl : lowB c0.toNat = true) (h : ∀ (k : Nat) (c : UInt8), l[k]? = some c → namC c.toNat = true) : namB l = true := by
 unfold namB
 have e : l.headD 0 = c0 := by cases l with | nil => simp at h0 | cons x r => simp at h0; simp [h0]
 rw [e, hl, decide_eq_true ⟨h1, h2⟩, Bool.true_and, Bool.true_and, List.all_eq_true]
 intro c hc
 obtain ⟨k, hk⟩ := List.mem_iff_getElem?.1 hc
 exact h k c hk
theorem head_bad {l : List UInt8} {c0 : UInt8} (h0 : l[0]? = some c0) (hl : lowB c0.toNat = false) : namB l = false := by
 unfold namB
 have e : l.headD 0 = c0 := by cases l with | nil => simp at h0 | cons x r => simp at h0; simp [h0]
 rw [e, hl, Bool.false_and, Bool.and_false]
theorem len_bad {l : List UInt8} (h : l.length < 1 ∨ 40 < l.length) : namB l = false := by
 unfold namB
 rw [decide_eq_false (by omega), Bool.false_and]
set_option maxHeartbeats 4000000 in
theorem named_calls (s : ByteArray) (w : World) (hs : s.size ≤ 9223372036854775807) :
  Calls Tryz.prog 78 #[.string s] w fun e w' => e = .returned (.bool (namB s.data.toList)) ∧ w = w' := by
 have SL := str_len s
 have SG := Lib.hid (fun k (h : k < s.size) => str_get s k h)
 obtain ⟨l, hl⟩ : ∃ l, s.data.toList = l := ⟨_, rfl⟩
 rw [hl] at SL SG ⊢
 clear hl
 by_cases z : s.size < 1
 ·have NB := Lib.hid (len_bad (l := l) (.inl (by omega)))
  have d1 : decide ((s.size : Int) < 1) = true := decide_eq_true (by omega)
  have SL' := Lib.hid SL
  clear SL z
  go_enter Tryz.func78, Tryz.ntmps78
  go_wp2_with fail
  go_ret
  exact ⟨ret_bool NB.out.symm, rfl⟩
 have d1 : decide ((s.size : Int) < 1) = false := decide_eq_false (by omega)
 by_cases big : 40 < s.size
 ·have NB := Lib.hid (len_bad (l := l) (.inr (by omega)))
  have d2 : decide ((40 : Int) < (s.size : Int)) = true := decide_eq_true (by omega)
  have SL' := Lib.hid SL
  clear SL z big
  go_enter Tryz.func78, Tryz.ntmps78
  go_wp2_with fail
  go_ret
  exact ⟨ret_bool NB.out.symm, rfl⟩
 have d2 : decide ((40 : Int) < (s.size : Int)) = false := decide_eq_false (by omega)
 have s1 : 0 < s.size := by omega
 have s2 : s.size ≤ 40 := by omega
 have h0 := SG.out 0 s1
 have SL' := Lib.hid SL
 clear SL z big
 by_cases lo : s[0].toNat < 97
 ·have e1 : decide ((s[0].toNat : Int) < 97) = true := decide_eq_true (by omega)
  have NB := Lib.hid (head_bad h0 (by unfold lowB; exact decide_eq_false (by omega)))
  clear h0
  go_enter Tryz.func78, Tryz.ntmps78
  go_wp2_with fail
  go_ret
  exact ⟨ret_bool NB.out.symm, rfl⟩
 have e1 : decide ((s[0].toNat : Int) < 97) = false := decide_eq_false (by omega)
 by_cases hi : 122 < s[0].toNat
 ·have e2 : decide ((122 : Int) < (s[0].toNat : Int)) = true := decide_eq_true (by omega)
  have NB := Lib.hid (head_bad h0 (by unfold lowB; exact decide_eq_false (by omega)))
  clear h0
  go_enter Tryz.func78, Tryz.ntmps78
  go_wp2_with fail
  go_ret
  exact ⟨ret_bool NB.out.symm, rfl⟩
 have e2 : decide ((122 : Int) < (s[0].toNat : Int)) = false := decide_eq_false (by omega)
 have AG := Lib.hid (fun h => all_good (l := l) (by rw [SL'.out]; omega) (by rw [SL'.out]; omega) h0 (by unfold lowB; exact decide_eq_true (by omega)) h)
 clear h0 lo hi
 go_enter Tryz.func78, Tryz.ntmps78
 go_wp2_with fail
 go_loop [3] (fun i => ∃ k : Nat, k ≤ s.size ∧ i = .int .i64 k ∧ Hid (∀ (j : Nat) (c : UInt8), j < k → l[j]? = some c → namC c.toNat = true)) (fun i => s.size - (intOf i).toNat)
 case atStart => exact ⟨0, by omega, rfl, Lib.hid (fun j c h => by omega)⟩
 case round =>
  obtain ⟨k, hk, rfl, GD⟩ := hrel
  by_cases hlt : k < s.size
  ·have hc := Lib.hid (SG.out k hlt)
   have kk : k + 1 ≤ s.size := hlt
   have z1 : decide ((0 : Int) ≤ (k : Int)) = true := decide_eq_true (by omega)
   by_cases p1 : 97 ≤ s[k].toNat ∧ s[k].toNat ≤ 122
   ·have d1 : decide ((s[k].toNat : Int) < 97) = false := decide_eq_false (by omega)
    have d2 : decide ((122 : Int) < (s[k].toNat : Int)) = false := decide_eq_false (by omega)
    have d5 : ((s[k].toNat : Int) != 45) = true := by rw [bne_iff_ne]; omega
    have d3 : decide ((s[k].toNat : Int) < 48) = false := decide_eq_false (by omega)
    have d4 : decide ((57 : Int) < (s[k].toNat : Int)) = true := decide_eq_true (by omega)
    have G2 : Hid (∀ (j : Nat) (c : UInt8), j < k + 1 → l[j]? = some c → namC c.toNat = true) := Lib.hid (fun j c hj h => by
     by_cases e : j = k
     ·subst e
      rw [hc.out] at h
      cases h
      unfold namC; exact decide_eq_true (Or.inl p1)
     ·exact GD.out j c (by omega) h)
    clear GD hc
    have PP := Lib.hid p1
    clear p1
    go_wp2_with fail
    go_round
    case rel => exact ⟨k + 1, kk, by go_num, G2⟩
    case measure => simp [intOf]; omega
   by_cases p2 : 48 ≤ s[k].toNat ∧ s[k].toNat ≤ 57
   ·have d1 : decide ((s[k].toNat : Int) < 97) = true := decide_eq_true (by omega)
    have d3 : decide ((s[k].toNat : Int) < 48) = false := decide_eq_false (by omega)
    have d4 : decide ((57 : Int) < (s[k].toNat : Int)) = false := decide_eq_false (by omega)
    have d5 : ((s[k].toNat : Int) != 45) = true := by rw [bne_iff_ne]; omega
    have G2 : Hid (∀ (j : Nat) (c : UInt8), j < k + 1 → l[j]? = some c → namC c.toNat = true) := Lib.hid (fun j c hj h => by
     by_cases e : j = k
     ·subst e
      rw [hc.out] at h
      cases h
      unfold namC; exact decide_eq_true (Or.inr (Or.inl p2))
     ·exact GD.out j c (by omega) h)
    clear GD hc
    have PP := Lib.hid p2
    clear p2
    go_wp2_with fail
    go_round
    case rel => exact ⟨k + 1, kk, by go_num, G2⟩
    case measure => simp [intOf]; omega
   by_cases p3 : s[k].toNat = 45
   ·have d1 : decide ((s[k].toNat : Int) < 97) = true := decide_eq_true (by omega)
    have d3 : decide ((s[k].toNat : Int) < 48) = true := decide_eq_true (by omega)
    have d5 : ((s[k].toNat : Int) != 45) = false := by rw [bne_eq_false_iff_eq]; omega
    have G2 : Hid (∀ (j : Nat) (c : UInt8), j < k + 1 → l[j]? = some c → namC c.toNat = true) := Lib.hid (fun j c hj h => by
     by_cases e : j = k
     ·subst e
      rw [hc.out] at h
      cases h
      unfold namC; exact decide_eq_true (Or.inr (Or.inr p3))
     ·exact GD.out j c (by omega) h)
    clear GD hc
    have PP := Lib.hid p3
    clear p3
    go_wp2_with fail
    go_round
    case rel => exact ⟨k + 1, kk, by go_num, G2⟩
    case measure => simp [intOf]; omega
   have d5 : ((s[k].toNat : Int) != 45) = true := by rw [bne_iff_ne]; omega
   have nc : namC s[k].toNat = false := by unfold namC; exact decide_eq_false (by omega)
   by_cases p4 : s[k].toNat < 48
   ·have d1 : decide ((s[k].toNat : Int) < 97) = true := decide_eq_true (by omega)
    have d3 : decide ((s[k].toNat : Int) < 48) = true := decide_eq_true (by omega)
    have NB := Lib.hid (all_bad hc.out nc)
    clear nc hc
    go_wp2_with fail
    go_ret
    exact ⟨ret_bool NB.out.symm, rfl⟩
   have d3 : decide ((s[k].toNat : Int) < 48) = false := decide_eq_false (by omega)
   have d4 : decide ((57 : Int) < (s[k].toNat : Int)) = true := decide_eq_true (by omega)
   by_cases p5 : s[k].toNat < 97
   ·have d1 : decide ((s[k].toNat : Int) < 97) = true := decide_eq_true (by omega)
    have NB := Lib.hid (all_bad hc.out nc)
    clear nc hc
    go_wp2_with fail
    go_ret
    exact ⟨ret_bool NB.out.symm, rfl⟩
   have d1 : decide ((s[k].toNat : Int) < 97) = false := decide_eq_false (by omega)
   have d2 : decide ((122 : Int) < (s[k].toNat : Int)) = true := decide_eq_true (by omega)
   have NB := Lib.hid (all_bad hc.out nc)
   clear nc hc
   go_wp2_with fail
   go_ret
   exact ⟨ret_bool NB.out.symm, rfl⟩
  ·have NB := Lib.hid (AG.out (fun j c h => GD.out j c (by have := (List.getElem?_eq_some_iff.1 h).1; rw [SL'.out] at this; omega) h))
   clear GD AG
   go_wp2_with fail
   go_ret
   exact ⟨ret_bool NB.out.symm, rfl⟩
set_option maxHeartbeats 4000000 in
theorem valid_calls (x : St) (w : World) (hs : x.nm.size ≤ 9223372036854775807) :
  Calls Tryz.prog 74 #[Sv x] w fun e w' => e = .returned (.bool (valS x)) ∧ Below w.heap.size w w' := by
 obtain ⟨s, sn, sd, tn, td⟩ := x
 have AT := Lib.hid (fun W => at_calls 1 1 sn sd tn td W)
 have EA : atE 1 1 sn sd tn td = if plB sn sd tn td then 0 else 8 := by unfold atE; rw [if_neg (by decide)]
 rw [EA] at AT
 clear EA
 have VS : Hid (valS ⟨s, sn, sd, tn, td⟩ = (namB s.data.toList && plB sn sd tn td)) := Lib.hid rfl
 generalize valS ⟨s, sn, sd, tn, td⟩ = vs at *
 simp only at hs
 generalize plB sn sd tn td = pl at *
 obtain ⟨v, hv⟩ : ∃ v : V6, atV 1 1 sn sd tn td = Vv v := by
  unfold atV
  split
  ·exact ⟨⟨_, _, _, _, _, _⟩, rfl⟩
  ·exact ⟨⟨0, 0, 0, 0, 0, 0⟩, rfl⟩
 rw [hv] at AT
 clear hv
 have SL := str_len s
 have SG := Lib.hid (fun k (h : k < s.size) => str_get s k h)
 obtain ⟨l, hl⟩ : ∃ l, s.data.toList = l := ⟨_, rfl⟩
 rw [hl] at SL SG VS
 clear hl
 by_cases z : s.size < 1
 ·have NB := Lib.hid (len_bad (l := l) (.inl (by omega)))
  have d1 : decide ((s.size : Int) < 1) = true := decide_eq_true (by omega)
  have SL' := Lib.hid SL
  clear SL z
  go_enter Tryz.func74, Tryz.ntmps74
  go_wp2_with fail
  go_ret
  exact ⟨ret_bool (by rw [VS.out, NB.out]; rfl), Bal (Below.refl _ _) _⟩
 have d1 : decide ((s.size : Int) < 1) = false := decide_eq_false (by omega)
 by_cases big : 40 < s.size
 ·have NB := Lib.hid (len_bad (l := l) (.inr (by omega)))
  have d2 : decide ((40 : Int) < (s.size : Int)) = true := decide_eq_true (by omega)
  have SL' := Lib.hid SL
  clear SL z big
  go_enter Tryz.func74, Tryz.ntmps74
  go_wp2_with fail
  go_ret
  exact ⟨ret_bool (by rw [VS.out, NB.out]; rfl), Bal (Below.refl _ _) _⟩
 have d2 : decide ((40 : Int) < (s.size : Int)) = false := decide_eq_false (by omega)
 have s1 : 0 < s.size := by omega
 have s2 : s.size ≤ 40 := by omega
 have h0 := SG.out 0 s1
 have SL' := Lib.hid SL
 clear SL z big
 by_cases lo : s[0].toNat < 97
 ·have e1 : decide ((s[0].toNat : Int) < 97) = true := decide_eq_true (by omega)
  have NB := Lib.hid (head_bad h0 (by unfold lowB; exact decide_eq_false (by omega)))
  clear h0
  go_enter Tryz.func74, Tryz.ntmps74
  go_wp2_with fail
  go_ret
  exact ⟨ret_bool (by rw [VS.out, NB.out]; rfl), Bal (Below.refl _ _) _⟩
 have e1 : decide ((s[0].toNat : Int) < 97) = false := decide_eq_false (by omega)
 by_cases hi : 122 < s[0].toNat
 ·have e2 : decide ((122 : Int) < (s[0].toNat : Int)) = true := decide_eq_true (by omega)
  have NB := Lib.hid (head_bad h0 (by unfold lowB; exact decide_eq_false (by omega)))
  clear h0
  go_enter Tryz.func74, Tryz.ntmps74
  go_wp2_with fail
  go_ret
  exact ⟨ret_bool (by rw [VS.out, NB.out]; rfl), Bal (Below.refl _ _) _⟩
 have e2 : decide ((122 : Int) < (s[0].toNat : Int)) = false := decide_eq_false (by omega)
 have AG := Lib.hid (fun h => all_good (l := l) (by rw [SL'.out]; omega) (by rw [SL'.out]; omega) h0 (by unfold lowB; exact decide_eq_true (by omega)) h)
 clear h0 lo hi
 go_enter Tryz.func74, Tryz.ntmps74
 go_wp2_with fail
 go_loop [32] (fun i => ∃ k : Nat, k ≤ s.size ∧ i = .int .i64 k ∧ Hid (∀ (j : Nat) (c : UInt8), j < k → l[j]? = some c → namC c.toNat = true)) (fun i => s.size - (intOf i).toNat)
 case atStart => exact ⟨0, by omega, rfl, Lib.hid (fun j c h => by omega)⟩
 case round =>
  obtain ⟨k, hk, rfl, GD⟩ := hrel
  by_cases hlt : k < s.size
  ·have hc := Lib.hid (SG.out k hlt)
   have kk : k + 1 ≤ s.size := hlt
   have z1 : decide ((0 : Int) ≤ (k : Int)) = true := decide_eq_true (by omega)
   by_cases p1 : 97 ≤ s[k].toNat ∧ s[k].toNat ≤ 122
   ·have d1 : decide ((s[k].toNat : Int) < 97) = false := decide_eq_false (by omega)
    have d2 : decide ((122 : Int) < (s[k].toNat : Int)) = false := decide_eq_false (by omega)
    have d5 : ((s[k].toNat : Int) != 45) = true := by rw [bne_iff_ne]; omega
    have d3 : decide ((s[k].toNat : Int) < 48) = false := decide_eq_false (by omega)
    have d4 : decide ((57 : Int) < (s[k].toNat : Int)) = true := decide_eq_true (by omega)
    have G2 : Hid (∀ (j : Nat) (c : UInt8), j < k + 1 → l[j]? = some c → namC c.toNat = true) := Lib.hid (fun j c hj h => by
     by_cases e : j = k
     ·subst e
      rw [hc.out] at h
      cases h
      unfold namC; exact decide_eq_true (Or.inl p1)
     ·exact GD.out j c (by omega) h)
    clear GD hc
    have PP := Lib.hid p1
    clear p1
    go_wp2_with fail
    go_round
    case rel => exact ⟨k + 1, kk, by go_num, G2⟩
    case measure => simp [intOf]; omega
   by_cases p2 : 48 ≤ s[k].toNat ∧ s[k].toNat ≤ 57
   ·have d1 : decide ((s[k].toNat : Int) < 97) = true := decide_eq_true (by omega)
    have d3 : decide ((s[k].toNat : Int) < 48) = false := decide_eq_false (by omega)
    have d4 : decide ((57 : Int) < (s[k].toNat : Int)) = false := decide_eq_false (by omega)
    have d5 : ((s[k].toNat : Int) != 45) = true := by rw [bne_iff_ne]; omega
    have G2 : Hid (∀ (j : Nat) (c : UInt8), j < k + 1 → l[j]? = some c → namC c.toNat = true) := Lib.hid (fun j c hj h => by
     by_cases e : j = k
     ·subst e
      rw [hc.out] at h
      cases h
      unfold namC; exact decide_eq_true (Or.inr (Or.inl p2))
     ·exact GD.out j c (by omega) h)
    clear GD hc
    have PP := Lib.hid p2
    clear p2
    go_wp2_with fail
    go_round
    case rel => exact ⟨k + 1, kk, by go_num, G2⟩
    case measure => simp [intOf]; omega
   by_cases p3 : s[k].toNat = 45
   ·have d1 : decide ((s[k].toNat : Int) < 97) = true := decide_eq_true (by omega)
    have d3 : decide ((s[k].toNat : Int) < 48) = true := decide_eq_true (by omega)
    have d5 : ((s[k].toNat : Int) != 45) = false := by rw [bne_eq_false_iff_eq]; omega
    have G2 : Hid (∀ (j : Nat) (c : UInt8), j < k + 1 → l[j]? = some c → namC c.toNat = true) := Lib.hid (fun j c hj h => by
     by_cases e : j = k
     ·subst e
      rw [hc.out] at h
      cases h
      unfold namC; exact decide_eq_true (Or.inr (Or.inr p3))
     ·exact GD.out j c (by omega) h)
    clear GD hc
    have PP := Lib.hid p3
    clear p3
    go_wp2_with fail
    go_round
    case rel => exact ⟨k + 1, kk, by go_num, G2⟩
    case measure => simp [intOf]; omega
   have d5 : ((s[k].toNat : Int) != 45) = true := by rw [bne_iff_ne]; omega
   have nc : namC s[k].toNat = false := by unfold namC; exact decide_eq_false (by omega)
   by_cases p4 : s[k].toNat < 48
   ·have d1 : decide ((s[k].toNat : Int) < 97) = true := decide_eq_true (by omega)
    have d3 : decide ((s[k].toNat : Int) < 48) = true := decide_eq_true (by omega)
    have NB := Lib.hid (all_bad hc.out nc)
    clear nc hc
    go_wp2_with fail
    go_ret
    exact ⟨ret_bool (by rw [VS.out, NB.out]; rfl), Bal (Below.refl _ _) _⟩
   have d3 : decide ((s[k].toNat : Int) < 48) = false := decide_eq_false (by omega)
   have d4 : decide ((57 : Int) < (s[k].toNat : Int)) = true := decide_eq_true (by omega)
   by_cases p5 : s[k].toNat < 97
   ·have d1 : decide ((s[k].toNat : Int) < 97) = true := decide_eq_true (by omega)
    have NB := Lib.hid (all_bad hc.out nc)
    clear nc hc
    go_wp2_with fail
    go_ret
    exact ⟨ret_bool (by rw [VS.out, NB.out]; rfl), Bal (Below.refl _ _) _⟩
   have d1 : decide ((s[k].toNat : Int) < 97) = false := decide_eq_false (by omega)
   have d2 : decide ((122 : Int) < (s[k].toNat : Int)) = true := decide_eq_true (by omega)
   have NB := Lib.hid (all_bad hc.out nc)
   clear nc hc
   go_wp2_with fail
   go_ret
   exact ⟨ret_bool (by rw [VS.out, NB.out]; rfl), Bal (Below.refl _ _) _⟩
  ·have NB := Lib.hid (AG.out (fun j c h => GD.out j c (by have := (List.getElem?_eq_some_iff.1 h).1; rw [SL'.out] at this; omega) h))
   clear GD AG
   have BW := Lib.hid (Bal (Below.refl w.heap.size w) (.cells #[.string s, .int .i64 sn, .int .i64 sd, .int .i64 tn, .int .i64 td] 69))
   cases pl
   ·go_wp2_with fail
    refine (AT.out _).mono ?_
    rintro e w1 ⟨rfl, hb⟩
    replace BW := Lib.hid (Bgo BW.out hb)
    clear hb
    simp only [Bool.false_eq_true, if_false]
    go_wp2_with fail
    go_ret
    exact ⟨ret_bool (by rw [VS.out, Bool.and_false]), Bal BW.out _⟩
   ·go_wp2_with fail
    refine (AT.out _).mono ?_
    rintro e w1 ⟨rfl, hb⟩
    replace BW := Lib.hid (Bgo BW.out hb)
    clear hb
    simp only [if_true]
    go_wp2_with fail
    go_ret
    exact ⟨ret_bool (by rw [VS.out, NB.out]; rfl), Bal BW.out _⟩
end Go.Proofs.YtfangplfbbgphaaGreatDoor
