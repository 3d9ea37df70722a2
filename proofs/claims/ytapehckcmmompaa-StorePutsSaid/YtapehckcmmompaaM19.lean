/- Several texts in one. -/
import Derived.Deep.Slices
import Derived.Deep.Fields
import Derived.ChangeSame
import Derived.ChangeArms
import Derived.Lib.SmallJoins
import Derived.Test.YtapehckcmmompaaM06
import Derived.Test.YtapehckcmmompaaM07
import Derived.Test.YtapehckcmmompaaM13
import Derived.Test.YtapehckcmmompaaM14
import Derived.Test.YtapehckcmmompaaM18
namespace Go.Proofs.Ytapehckcmmompaa
open Go.ChangeShapes Go.WideShapes Go.ChangeAt Go.RowKit
set_option linter.unusedVariables false
set_option maxRecDepth 100000
theorem exists_live {ds : List Dk} (h : faN ds ≠ ds.length) : ∃ k ∈ ds, k.failed = false := by
 refine Classical.byContradiction fun hn => h ?_
 unfold faN
 rw [List.filter_eq_self.2]
 intro a ha
 cases e : a.failed with
 | true => rfl
 | false => exact absurd ⟨a, ha, e⟩ hn
theorem strp_each {d p : Int} {ds : List Dk} {os : List Ob} (h : OkS d p ds os) {k : Nat} (hk : (k : Int) < strN os) : ∀ l ∈ strp ds k, l.length = 0 ∨ l.length = 8 := fun l hl => by
 obtain ⟨x, hx, rfl⟩ := List.mem_map.1 hl
 cases e : x.failed with
 | true => left; simp
 | false =>
  right
  have h1 := (h.dkl hx).2 e
  have hlt : k < x.blocks.length := by omega
  simp only [Bool.false_eq_true, if_false, List.getD_eq_getElem?_getD, List.getElem?_eq_getElem hlt, Option.getD_some]
  exact h1.2 _ (List.getElem_mem hlt)
theorem strp_size {d p : Int} {ds : List Dk} {os : List Ob} (h : OkS d p ds os) {k : Nat} (hk : (k : Int) < strN os) : szL (strp ds k) = 8 := by
 obtain ⟨x, hx, e⟩ := exists_live (h.gone (by omega))
 have h1 := (h.dkl hx).2 e
 have hlt : k < x.blocks.length := by omega
 have hm : x.blocks[k] ∈ strp ds k := List.mem_map.2 ⟨x, hx, by simp [e, List.getD_eq_getElem?_getD, List.getElem?_eq_getElem hlt]⟩
 have h8 := h1.2 _ (List.getElem_mem hlt)
 rcases Nat.eq_zero_or_pos (szL (strp ds k)) with e0 | e0
 ·have := szL_zero e0 _ hm
  omega
 ·obtain ⟨l, hl, e2⟩ := szL_mem (by omega : szL (strp ds k) ≠ 0)
  rcases strp_each h hk l hl with e3 | e3 <;> omega
theorem strp_ok {d p : Int} {ds : List Dk} {os : List Ob} (h : OkS d p ds os) {k : Nat} (hk : (k : Int) < strN os) : Ok d.toNat p.toNat (strp ds k) := by
 have h1 := h.d1
 have h2 := h.d8
 have h3 := h.p0
 have h4 := h.p4
 have h5 := h.len
 have h6 := strp_size h hk
 refine ⟨by omega, by omega, by omega, by rw [strp_len]; omega, by omega, by omega, fun l hl => ?_⟩
 rw [h6]; exact strp_each h hk l hl
theorem strp_chk {d p : Int} {ds : List Dk} {os : List Ob} (h : OkS d p ds os) {k : Nat} (hk : (k : Int) < strN os) : chkE d p (strp ds k) = 0 := by
 have := ok_chkE (strp_ok h hk)
 rwa [Int.toNat_of_nonneg (by have := h.d1; omega), Int.toNat_of_nonneg h.p0] at this
theorem strp_resE {d p : Int} {ds : List Dk} {os : List Ob} (h : OkS d p ds os) {k : Nat} (hk : (k : Int) < strN os) : resE d p (strp ds k) = rstE d.toNat p.toNat (strp ds k) := if_pos (strp_chk h hk)
theorem rstE_zero {D M : Nat} {m : List (List Nat)} (h : rstE D M m = 0) : lostN m ≤ M := by
 unfold rstE at h
 split at h
 ·cases h
 ·omega
theorem strp_rows {d p : Int} {ds : List Dk} {os : List Ob} (h : OkS d p ds os) {k : Nat} (hk : (k : Int) < strN os) (hr : resE d p (strp ds k) = 0) :
  (resS d p (strp ds k)).2.2.length = ds.length ∧ (∀ l ∈ (resS d p (strp ds k)).2.2, l.length = 8) ∧ (resS d p (strp ds k)).2.2.take d.toNat = dataL d.toNat p.toNat (strp ds k) ∧ (resS d p (strp ds k)).1 = d ∧ (resS d p (strp ds k)).2.1 = p := by
 have hk' := hk
 have ok := strp_ok h hk
 have hl := rstE_zero (by rw [← strp_resE h hk]; exact hr)
 have e : resS d p (strp ds k) = (d, p, enc (dataL d.toNat p.toNat (strp ds k)) p.toNat) := by unfold resS; rw [hr, if_pos rfl]
 have dr := dataL_rows ok hl
 rw [strp_size h hk] at dr
 have dl := dataL_len d.toNat p.toNat (strp ds k)
 have od : OkD (dataL d.toNat p.toNat (strp ds k)) 8 := ⟨by rw [dl]; exact ok.d1, by rw [dl]; exact ok.d8, by omega, by omega, dr⟩
 rw [e]
 refine ⟨?_, enc_rows od _, ?_, rfl, rfl⟩
 ·simp only [enc_len, dl]
  have := h.len; have := h.d1; have := h.p0; omega
 ·have := enc_take (dataL d.toNat p.toNat (strp ds k)) p.toNat
  rwa [dl] at this
theorem flat_len8 {m : List (List Nat)} (h : ∀ l ∈ m, l.length = 8) : m.flatten.length = m.length * 8 := by
 induction m with
 | nil => rfl
 | cons a m ih =>
  rw [List.flatten_cons, List.length_append, ih (fun l hl => h l (List.mem_cons_of_mem _ hl)), h a List.mem_cons_self, List.length_cons]; omega
theorem getTo_len {d p : Int} {ds : List Dk} {os : List Ob} (h : OkS d p ds os) {fr : Nat} : ∀ {k : Nat}, ((fr + k : Nat) : Int) ≤ strN os → (getTo d p ds fr k).2 = 0 → (getTo d p ds fr k).1.length = k * d.toNat * 8
 | 0, _, _ => by simp [getTo]
 | k + 1, hk, h0 => by
  rw [getTo] at h0 ⊢
  by_cases h1 : (getTo d p ds fr k).2 = 0
  ·rw [if_pos h1] at h0 ⊢
   by_cases h2 : resE d p (strp ds (fr + k)) = 0
   ·rw [if_pos h2] at h0 ⊢
    obtain ⟨r1, r2, r3, _⟩ := strp_rows h (by omega) h2
    have ih := getTo_len h (k := k) (by omega) h1
    have := flat_len8 (m := (resS d p (strp ds (fr + k))).2.2.take d.toNat) (fun l hl => r2 l (List.mem_of_mem_take hl))
    have hd := h.len
    have hp := h.p0
    have hd1 := h.d1
    rw [List.length_take] at this
    simp only [List.length_append, ih, this]
    rw [show min d.toNat (resS d p (strp ds (fr + k))).2.2.length = d.toNat by omega, Nat.add_mul, Nat.add_mul, Nat.one_mul]
   ·rw [if_neg h2] at h0; exact absurd h0 h2
  ·rw [if_neg h1] at h0; exact absurd h0 h1
theorem getTo_stay {d p : Int} {ds : List Dk} {fr k : Nat} (h : (getTo d p ds fr k).2 ≠ 0) : ∀ {n : Nat}, k ≤ n → getTo d p ds fr n = getTo d p ds fr k
 | 0, hn => by rw [show k = 0 by omega]
 | n + 1, hn => by
  rcases Nat.lt_or_ge k (n + 1) with h1 | h1
  ·have ih := getTo_stay h (n := n) (by omega)
   rw [getTo, ih, if_neg h]
  ·rw [show k = n + 1 by omega]
theorem OkS.ob {d p : Int} {ds : List Dk} {os : List Ob} (h : OkS d p ds os) {i : Nat} {o : Ob} (hi : os[i]? = some o) :
  0 ≤ o.from_ ∧ 0 ≤ o.many ∧ o.many ≤ 40 ∧ o.from_ + o.many ≤ strN os ∧ 0 ≤ o.size ∧ o.size ≤ 256 ∧ o.many = ned o.size d ∧ o.size ≤ o.many * d * 8 ∧ namB o.name.data.toList = true ∧ o.from_ = strN (os.take i) := by
 have h1 := desB_iff.1 h.des i o hi
 unfold oneO objB at h1
 simp only [Bool.and_eq_true, decide_eq_true_eq, beq_iff_eq] at h1
 obtain ⟨⟨h2, h3, h4, h5, h6, _⟩, _⟩ := h1
 have sm := h.sm o (List.mem_of_getElem? hi)
 have s1 := (strN_bd (h.sm.take_ i)).1
 have s2 := strN_take hi
 have s3 : strN (os.take (i + 1)) ≤ strN os := by
  have : strN os = strN (os.take (i + 1)) + strN (os.drop (i + 1)) := by
   unfold strN; rw [← List.sum_append, ← List.map_append, List.take_append_drop]
  have h9 : smO (os.drop (i + 1)) := fun o ho => h.sm o (List.mem_of_mem_drop ho)
  have := (strN_bd h9).1
  omega
 have hd1 := h.d1
 have hd8 := h.d8
 refine ⟨by omega, sm.1, sm.2, by omega, h3, h4, h5, ?_, h2, h6⟩
 rw [h5]
 unfold ned
 have e := Int.emod_add_mul_ediv (o.size + 8 * d - 1) (8 * d)
 have e2 := Int.emod_lt_of_pos (o.size + 8 * d - 1) (show 0 < 8 * d by omega)
 generalize (o.size + 8 * d - 1) / (8 * d) = t at *
 generalize (o.size + 8 * d - 1) % (8 * d) = r at *
 have : t * d * 8 = 8 * d * t := by grind
 omega
theorem findL_lt {os : List Ob} {l : List UInt8} (h : 0 ≤ findL os l) : ∃ (i : Nat) (o : Ob), findL os l = (i : Int) ∧ os[i]? = some o ∧ nmE o l = true := by
 unfold findL at h ⊢
 cases e : os.findIdx? (fun o => nmE o l) with
 | none => rw [e] at h; simp at h
 | some i =>
  have h1 := List.findIdx?_eq_some_iff_getElem.1 e
  obtain ⟨h2, h3, _⟩ := h1
  exact ⟨i, os[i], rfl, List.getElem?_eq_getElem h2, h3⟩
end Go.Proofs.Ytapehckcmmompaa
namespace Go.Proofs.Ytapehckcmmompaa
open Go.ChangeShapes Go.WideShapes Go.ChangeAt Go.RowKit
set_option linter.unusedVariables false
set_option maxRecDepth 100000
attribute [local go_sem ↓] Go.wp_at_zero Go.wp_at_succ
theorem take_ext {α : Type} {l l' : List α} (hl : l.length = l'.length) (h : l.take l.length = l'.take l.length) : l = l' := by
 rw [List.take_length] at h; rw [hl, List.take_length] at h; exact h
set_option maxHeartbeats 4000000 in
theorem refSameInts_calls (A A' : Option Addr) (c c' B B' : Nat) (l l' : List Int) (w : World) (hn : l.length ≤ c) (hc : c ≤ 9223372036854775807) (hs : RI B w A l) (hn' : l'.length ≤ c') (hc' : c' ≤ 9223372036854775807) (hs' : RI B' w A' l') :
  Calls Try.prog 37 #[.slice A l.length c, .slice A' l'.length c'] w fun e w' => e = .returned (.bool (decide (l = l'))) ∧ Below w.heap.size w w' := by
 have HS := Lib.hid hs
 have HS' := Lib.hid hs'
 clear hs hs'
 by_cases hlen : l.length = l'.length
 ·have q : ((l.length : Int) != (l'.length : Int)) = false := by rw [bne_eq_false_iff_eq]; omega
  have HV : Hid (∀ b : Bool, (b = true ↔ l = l') → decide (l = l') = b) := Lib.hid (fun b hb => by rw [Bool.eq_iff_iff, decide_eq_true_eq]; exact hb.symm)
  have HLN := Lib.hid hlen
  generalize decide (l = l') = ans at *
  clear hlen
  go_enter Try.func37, Try.ntmps37
  go_wp2_with fail
  go_loopw [5] (fun i wr => ∃ k : Nat, k ≤ l.length ∧ i = .int .i64 k ∧ Hid (l.take k = l'.take k) ∧ Hid (Below w.heap.size w wr)) (fun i _ => l.length - (intOf i).toNat)
  case atStart => exact ⟨0, by omega, rfl, Lib.hid (by simp), Lib.hid (Below.refl _ _)⟩
  case round =>
   obtain ⟨k, hk, rfl, E, N⟩ := hrel
   by_cases hlt : k < l.length
   ·obtain ⟨x, hx⟩ := get_some hlt
    obtain ⟨y, hy⟩ := get_some (show k < l'.length by rw [← HLN.out]; exact hlt)
    obtain ⟨b, off, rfl, hb, h1⟩ := (HS.out.next N.out).at_ hx
    obtain ⟨b', off', rfl, hb', h1'⟩ := (HS'.out.next N.out).at_ hy
    have k1 : (0 : Int) ≤ (k : Int) := by omega
    have k2 : (k : Int) < (l.length : Int) := by omega
    have k3 : (k : Int) < (l'.length : Int) := by rw [← HLN.out]; exact k2
    have HX := Lib.hid hx
    have HY := Lib.hid hy
    clear hx hy
    by_cases e : x = y
    ·have q2 : (x != y) = false := by rw [bne_eq_false_iff_eq]; exact e
     have EE := Lib.hid e
     clear e
     go_wp2_with fail
     go_quiet (fail)
     go_wp2_with fail
     refine ⟨⟨k + 1, by omega, by go_num, Lib.hid ?_, Lib.hid (below_drewN N.out _)⟩, by simp [intOf]; omega⟩
     rw [take_snoc' HX.out, take_snoc' HY.out, E.out, EE.out]
    ·have q2 : (x != y) = true := by rw [bne_iff_ne]; exact e
     have EE := Lib.hid e
     clear e
     go_wp2_with fail
     go_quiet (fail)
     go_wp2_with fail
     go_ret
     refine ⟨ret_bool ?_, below_drewN N.out _⟩
     refine (HV.out false ⟨(fun h => absurd h (by decide)), fun h => ?_⟩).symm
     have := HX.out
     rw [h, HY.out] at this
     injection this with this
     exact absurd this.symm EE.out
   ·obtain rfl : k = l.length := by omega
    go_wp2_with fail
    go_ret
    refine ⟨ret_bool ?_, N.out⟩
    exact (HV.out true ⟨fun _ => take_ext HLN.out E.out, fun _ => rfl⟩).symm
 ·have q : ((l.length : Int) != (l'.length : Int)) = true := by rw [bne_iff_ne]; omega
  have HV : Hid (decide (l = l') = false) := Lib.hid (decide_eq_false (fun e => hlen (by rw [e])))
  generalize decide (l = l') = ans at *
  clear hlen
  go_enter Try.func37, Try.ntmps37
  go_wp2_with fail
  go_ret
  exact ⟨ret_bool HV.out.symm, Below.refl _ _⟩
end Go.Proofs.Ytapehckcmmompaa
namespace Go.Proofs.Ytapehckcmmompaa
open Go.ChangeShapes Go.WideShapes Go.ChangeAt Go.RowKit Go.Deep Go.Joins
set_option linter.unusedVariables false
instance : Inhabited Dk := ⟨⟨false, []⟩⟩
instance : Inhabited Ob := ⟨⟨.empty, 0, 0, 0, 0⟩⟩
section
variable {H : Type} {enc : TypeId × Value → H} {P : Program} {w : World} {base : Nat} {spare : Nat → Bool} {held : Bool}
theorem open_rows {t e : TypeId} {fs : Array Field} {fuel : Nat} {cs : List Value} {x : DataW H × List MemPlace} (ht : P.underlying t = some (.slice e)) (he : P.underlying e = some (.struct fs))
  (hone : oneCellFields P fs = true) (hC : P.cellsOf e = fs.size) (h : DataW.trod enc P w base spare held fuel t cs = some x) :
  cs = [.slice none 0 0] ∨ ∃ (a : Addr) (len cap : Nat), cs = [.slice (some a) len cap] ∧ len ≤ cap ∧ cap ≤ maxLen ∧
   ∀ i, i < len → ∃ n : Nat, ∀ (j : Nat) (f : Field), fs[j]? = some f → ∃ (v : Value) (y : DataW H × List MemPlace), w.cell? (a.add (i * fs.size + j)) = some v ∧ DataW.trod enc P w base spare held n f.type [v] = some y := by
 rcases open_slice ht h with h0 | ⟨a, len, cap, m, n, D, Pl, hcs, hb, hl, hm, hmm, hx, hi⟩
 ·exact .inl h0.1
 ·refine .inr ⟨a, len, cap, hcs, hl, hm, fun i him => ?_⟩
  have hlm : len ≤ m := by rw [hmm]; split <;> omega
  obtain ⟨cs', hc, ht'⟩ := hi i (by omega)
  rw [hC] at hc
  obtain ⟨ys, n', hn', hy, hlen, hyl, hf⟩ := DataW.trod_struct he ht'
  obtain ⟨_, hcl, hat⟩ := World.cells?_some hc
  refine ⟨n', fun j f hj => ?_⟩
  obtain ⟨ho, hk⟩ := hone_of hone j f hj
  have hjl : j < fs.size := (Array.getElem?_eq_some_iff.1 hj).1
  have hcell := hat j hjl
  have hv : cs'[j]? = some (cs'[j]'(by omega)) := List.getElem?_eq_getElem (by omega)
  have h1 := hf j f hj
  rw [ho, hk] at h1
  have hone' : (cs'.drop j).take 1 = [cs'[j]'(by omega)] := by
   rw [List.drop_eq_getElem_cons (by omega)]; rfl
  rw [hone'] at h1
  have hys : ys[j]? = some (ys[j]'(by omega)) := List.getElem?_eq_getElem (by omega)
  exact ⟨_, _, by rw [← Go.Deep.add_add, hcell, hv], h1.trans hys⟩
end
section
variable {H : Type} {enc : TypeId × Value → H} {w : World} {base : Nat} {held : Bool}
theorem open_dks {fuel : Nat} {cs : List Value} {x : DataW H × List MemPlace} (h : DataW.trod enc Try.prog w base (fun _ => true) held fuel 22 cs = some x) :
  ∃ (a : Option Addr) (l : List Dk) (cap : Nat), cs = [.slice a l.length cap] ∧ l.length ≤ cap ∧ cap ≤ 9223372036854775807 ∧ RD 0 w a l := by
 rcases open_rows Try.underlying22 Try.underlying46 (by kernel_rfl) (by kernel_rfl) h with rfl | ⟨a, len, cap, rfl, h1, h2, h3⟩
 ·exact ⟨none, [], 0, rfl, by simp, by omega, fun i d hi => by simp at hi⟩
 ·have key : ∀ i, i < len → ∃ s : Dk, ∃ b off u, some a = some ⟨b, off, none⟩ ∧ b < w.heap.size ∧ w.cell? ⟨b, off + i * 2, none⟩ = some (.bool s.failed) ∧ w.cell? ⟨b, off + i * 2 + 1, none⟩ = some u ∧ RM 0 w u s.blocks := by
   intro i hi
   obtain ⟨n0, g0⟩ := h3 0 (by omega)
   obtain ⟨v0, y0, hc0, _⟩ := g0 0 _ rfl
   have ha : a = ⟨a.block, a.off, none⟩ := plain_addr (by simpa [Addr.add] using hc0)
   obtain ⟨n, g⟩ := h3 i hi
   obtain ⟨u0, z0, c0, t0⟩ := g 0 _ rfl
   obtain ⟨u1, z1, c1, t1⟩ := g 1 _ rfl
   obtain ⟨s0, e0, _⟩ := DataW.trod_bool Try.underlying4 t0
   obtain ⟨Ai, m, ci, e1, m1, m2, m3⟩ := open_blocks t1
   simp only [List.cons.injEq, and_true] at e0 e1
   subst e0 e1
   have hlt := World.block_lt_of_cell? w (a.add (i * 2 + 0)) c0
   rw [ha, add_plain] at c0 c1 hlt
   refine ⟨⟨s0, m⟩, a.block, a.off, _, by rw [← ha], hlt, by simpa using c0, by simpa [Nat.add_assoc] using c1, Ai, ci, rfl, m1, m2, m3⟩
  obtain ⟨f, hf⟩ := choose_lt key
  refine ⟨some a, (List.range len).map f, cap, by simp, by simpa using h1, by simpa [maxLen] using h2, fun i d hi => ?_⟩
  have hi' : i < len := by have := get_lt hi; simpa using this
  rw [List.getElem?_map, List.getElem?_range hi'] at hi
  injection hi with hi
  subst hi
  obtain ⟨b, off, u, e, hb, k0, k1, k2⟩ := hf i hi'
  exact ⟨b, off, u, e, Nat.zero_le _, hb, k0, k1, k2⟩
theorem open_obs {fuel : Nat} {cs : List Value} {x : DataW H × List MemPlace} (h : DataW.trod enc Try.prog w base (fun _ => true) held fuel 23 cs = some x) :
  ∃ (a : Option Addr) (l : List Ob) (cap : Nat), cs = [.slice a l.length cap] ∧ l.length ≤ cap ∧ cap ≤ 9223372036854775807 ∧ RO 0 w a l := by
 rcases open_rows Try.underlying23 Try.underlying50 (by kernel_rfl) (by kernel_rfl) h with rfl | ⟨a, len, cap, rfl, h1, h2, h3⟩
 ·exact ⟨none, [], 0, rfl, by simp, by omega, fun i d hi => by simp at hi⟩
 ·have key : ∀ i, i < len → ∃ s : Ob, ∃ b off, some a = some ⟨b, off, none⟩ ∧ b < w.heap.size ∧ ∀ (j : Nat) (v : Value), (obL s)[j]? = some v → w.cell? ⟨b, off + i * 5 + j, none⟩ = some v := by
   intro i hi
   obtain ⟨n0, g0⟩ := h3 0 (by omega)
   obtain ⟨v0, y0, hc0, _⟩ := g0 0 _ rfl
   have ha : a = ⟨a.block, a.off, none⟩ := plain_addr (by simpa [Addr.add] using hc0)
   obtain ⟨n, g⟩ := h3 i hi
   obtain ⟨u0, z0, c0, t0⟩ := g 0 _ rfl
   obtain ⟨u1, z1, c1, t1⟩ := g 1 _ rfl
   obtain ⟨u2, z2, c2, t2⟩ := g 2 _ rfl
   obtain ⟨u3, z3, c3, t3⟩ := g 3 _ rfl
   obtain ⟨u4, z4, c4, t4⟩ := g 4 _ rfl
   obtain ⟨s0, e0, _, _⟩ := DataW.trod_string Try.underlying9 t0
   obtain ⟨s1, e1, _, _⟩ := DataW.trod_int Try.underlying3 t1
   obtain ⟨s2, e2, _, _⟩ := DataW.trod_int Try.underlying3 t2
   obtain ⟨s3, e3, _, _⟩ := DataW.trod_int Try.underlying3 t3
   obtain ⟨s4, e4, _, _⟩ := DataW.trod_int Try.underlying3 t4
   simp only [List.cons.injEq, and_true] at e0 e1 e2 e3 e4
   subst e0 e1 e2 e3 e4
   have hlt := World.block_lt_of_cell? w (a.add (i * 5 + 0)) c0
   rw [ha, add_plain] at c0 c1 c2 c3 c4 hlt
   refine ⟨⟨s0, s1, s2, s3, s4⟩, a.block, a.off, by rw [← ha], hlt, fun j v hv => ?_⟩
   rcases j with _ | _ | _ | _ | _ | j
   ·simp only [obL, List.getElem?_cons_zero, Option.some.injEq] at hv; subst hv; simpa [Nat.add_assoc] using c0
   ·simp only [obL, List.getElem?_cons_succ, List.getElem?_cons_zero, Option.some.injEq] at hv; subst hv; simpa [Nat.add_assoc] using c1
   ·simp only [obL, List.getElem?_cons_succ, List.getElem?_cons_zero, Option.some.injEq] at hv; subst hv; simpa [Nat.add_assoc] using c2
   ·simp only [obL, List.getElem?_cons_succ, List.getElem?_cons_zero, Option.some.injEq] at hv; subst hv; simpa [Nat.add_assoc] using c3
   ·simp only [obL, List.getElem?_cons_succ, List.getElem?_cons_zero, Option.some.injEq] at hv; subst hv; simpa [Nat.add_assoc] using c4
   ·simp [obL] at hv
  obtain ⟨f, hf⟩ := choose_lt key
  refine ⟨some a, (List.range len).map f, cap, by simp, by simpa using h1, by simpa [maxLen] using h2, fun i d hi => ?_⟩
  have hi' : i < len := by have := get_lt hi; simpa using this
  rw [List.getElem?_map, List.getElem?_range hi'] at hi
  injection hi with hi
  subst hi
  obtain ⟨b, off, e, hb, k0⟩ := hf i hi'
  exact ⟨b, off, e, Nat.zero_le _, hb, k0⟩
end
theorem same_self (d p : Int) (D A : Option Addr) (cd ca B : Nat) (ds : List Dk) (os : List Ob) (D' A' : Option Addr) (cd' ca' B' : Nat) (w : World)
  (hnd : ds.length ≤ cd) (hcd : cd ≤ 9223372036854775807) (hna : os.length ≤ ca) (hca : ca ≤ 9223372036854775807) (hd : RD B w D ds) (hs : RO B w A os)
  (hnd' : ds.length ≤ cd') (hcd' : cd' ≤ 9223372036854775807) (hna' : os.length ≤ ca') (hca' : ca' ≤ 9223372036854775807) (hd' : RD B' w D' ds) (hs' : RO B' w A' os) :
  Calls Try.prog 20 #[Tv d p (.slice D ds.length cd) (.slice A os.length ca), Tv d p (.slice D' ds.length cd') (.slice A' os.length ca')] w fun e w' => e = .returned (.bool true) ∧ Below w.heap.size w w' := by
 have := sameT_calls d p D A cd ca B ds os d p D' A' cd' ca' B' ds os w hnd hcd hna hca hd hs hnd' hcd' hna' hca' hd' hs'
 rw [smB_iff.2 ⟨rfl, rfl, rfl, rfl⟩] at this
 exact this
theorem ints_self (A A' : Option Addr) (c c' B B' : Nat) (l : List Int) (w : World) (hn : l.length ≤ c) (hc : c ≤ 9223372036854775807) (hs : RI B w A l) (hn' : l.length ≤ c') (hc' : c' ≤ 9223372036854775807) (hs' : RI B' w A' l) :
  Calls Try.prog 37 #[.slice A l.length c, .slice A' l.length c'] w fun e w' => e = .returned (.bool true) ∧ Below w.heap.size w w' := by
 have := refSameInts_calls A A' c c' B B' l l w hn hc hs hn' hc' hs'
 rw [decide_eq_true rfl] at this
 exact this
end Go.Proofs.Ytapehckcmmompaa
