/- Several texts in one. -/
import Derived.BigQuiet
import Derived.Test.YtapehckcmmompaaM01
import Derived.Test.YtapehckcmmompaaM09
import Derived.Test.YtapehckcmmompaaM14
namespace Go.Proofs.Ytapehckcmmompaa
open Go.ChangeShapes Go.WideShapes Go.ChangeAt Go.RowKit
set_option linter.unusedVariables false
set_option maxRecDepth 100000
attribute [local go_sem ↓] Go.wp_at_zero Go.wp_at_succ
theorem take_ext {α : Type} {l l' : List α} (hl : l.length = l'.length) (h : l.take l.length = l'.take l.length) : l = l' := by
 rw [List.take_length] at h; rw [hl, List.take_length] at h; exact h
set_option maxHeartbeats 4000000 in
theorem refSameInts_calls (A A' : Option Addr) (c c' B B' : Nat) (l l' : List Int) (w : World) (hn : l.length ≤ c) (hc : c ≤ 9223372036854775807) (hs : RI B w A l) (hn' : l'.length ≤ c') (hc' : c' ≤ 9223372036854775807) (hs' : RI B' w A' l') :
  Calls Try.prog 37 #[.slice A l.length c, .slice A' l'.length c'] w fun e w' => e = .returned (.bool (decide (l = l'))) ∧ Below w.heap.size w w' := by
 have HS := Lib.hid hs
 have HS' := Lib.hid hs'
 clear hs hs'
 by_cases hlen : l.length = l'.length
 ·have q : ((l.length : Int) != (l'.length : Int)) = false := by rw [bne_eq_false_iff_eq]; omega
  have HV : Hid (∀ b : Bool, (b = true ↔ l = l') → decide (l = l') = b) := Lib.hid (fun b hb => by rw [Bool.eq_iff_iff, decide_eq_true_eq]; exact hb.symm)
  have HLN := Lib.hid hlen
  generalize decide (l = l') = ans at *
  clear hlen
  go_enter Try.func37, Try.ntmps37
  go_wp2_with fail
  go_loopw [5] (fun i wr => ∃ k : Nat, k ≤ l.length ∧ i = .int .i64 k ∧ Hid (l.take k = l'.take k) ∧ Hid (Below w.heap.size w wr)) (fun i _ => l.length - (intOf i).toNat)
  case atStart => exact ⟨0, by omega, rfl, Lib.hid (by simp), Lib.hid (Below.refl _ _)⟩
  case round =>
   obtain ⟨k, hk, rfl, E, N⟩ := hrel
   by_cases hlt : k < l.length
   ·obtain ⟨x, hx⟩ := get_some hlt
    obtain ⟨y, hy⟩ := get_some (show k < l'.length by rw [← HLN.out]; exact hlt)
    obtain ⟨b, off, rfl, hb, h1⟩ := (HS.out.next N.out).at_ hx
    obtain ⟨b', off', rfl, hb', h1'⟩ := (HS'.out.next N.out).at_ hy
    have k1 : (0 : Int) ≤ (k : Int) := by omega
    have k2 : (k : Int) < (l.length : Int) := by omega
    have k3 : (k : Int) < (l'.length : Int) := by rw [← HLN.out]; exact k2
    have HX := Lib.hid hx
    have HY := Lib.hid hy
    clear hx hy
    by_cases e : x = y
    ·have q2 : (x != y) = false := by rw [bne_eq_false_iff_eq]; exact e
     have EE := Lib.hid e
     clear e
     go_wp2_with fail
     go_quiet (fail)
     go_wp2_with fail
     refine ⟨⟨k + 1, by omega, by go_num, Lib.hid ?_, Lib.hid (below_drewN N.out _)⟩, by simp [intOf]; omega⟩
     rw [take_snoc' HX.out, take_snoc' HY.out, E.out, EE.out]
    ·have q2 : (x != y) = true := by rw [bne_iff_ne]; exact e
     have EE := Lib.hid e
     clear e
     go_wp2_with fail
     go_quiet (fail)
     go_wp2_with fail
     go_ret
     refine ⟨ret_bool ?_, below_drewN N.out _⟩
     refine (HV.out false ⟨(fun h => absurd h (by decide)), fun h => ?_⟩).symm
     have := HX.out
     rw [h, HY.out] at this
     injection this with this
     exact absurd this.symm EE.out
   ·obtain rfl : k = l.length := by omega
    go_wp2_with fail
    go_ret
    refine ⟨ret_bool ?_, N.out⟩
    exact (HV.out true ⟨fun _ => take_ext HLN.out E.out, fun _ => rfl⟩).symm
 ·have q : ((l.length : Int) != (l'.length : Int)) = true := by rw [bne_iff_ne]; omega
  have HV : Hid (decide (l = l') = false) := Lib.hid (decide_eq_false (fun e => hlen (by rw [e])))
  generalize decide (l = l') = ans at *
  clear hlen
  go_enter Try.func37, Try.ntmps37
  go_wp2_with fail
  go_ret
  exact ⟨ret_bool HV.out.symm, Below.refl _ _⟩
end Go.Proofs.Ytapehckcmmompaa
namespace Go.Proofs.Ytapehckcmmompaa
open Go.ChangeShapes Go.WideShapes Go.ChangeAt Go.RowKit
set_option linter.unusedVariables false
set_option maxRecDepth 100000
attribute [local go_sem ↓] Go.wp_at_zero Go.wp_at_succ
def eqO (o o' : Ob) : Bool := (o.name.toList == o'.name.toList) && ((o.size == o'.size) && ((o.from_ == o'.from_) && ((o.many == o'.many) && (o.dig == o'.dig))))
theorem toList_inj {s t : ByteArray} (h : s.toList = t.toList) : s = t := by
 have e : s.data = t.data := by
  apply Array.toList_inj.1
  rw [← ByteArray.toList_eq, ← ByteArray.toList_eq]; exact h
 cases s; cases t; simp at e; rw [e]
theorem eqO_iff {o o' : Ob} : eqO o o' = true ↔ o = o' := by
 obtain ⟨a, b, c, d, e⟩ := o
 obtain ⟨a', b', c', d', e'⟩ := o'
 unfold eqO
 simp only [Bool.and_eq_true, beq_iff_eq, Ob.mk.injEq]
 constructor
 ·rintro ⟨h, r⟩; exact ⟨toList_inj h, r⟩
 ·rintro ⟨h, r⟩; exact ⟨by rw [h], r⟩
theorem eqOb (o o' : Ob) (w : World) : (Op.equalIn 10000 50 (obV o) (obV o')).run Try.prog w = .ok (eqO o o') w := by
 obtain ⟨a, b, c, d, e⟩ := o
 obtain ⟨a', b', c', d', e'⟩ := o'
 have u3 := Try.underlying3
 have a3 := Try.isAgg3
 have z3 := Try.sizeOf3
 have u9 := Try.underlying9
 have a9 := Try.isAgg9
 have z9 := Try.sizeOf9
 rw [show (10000 : Nat) = 9999 + 1 from rfl, Op.equalIn]
 simp only [Sem.run_bind, run_underlying Try.underlying50, Result.andThen_ok]
 go_simp
 unfold eqO
 by_cases h1 : a.toList = a'.toList <;> by_cases h2 : b = b' <;> by_cases h3 : c = c' <;> by_cases h4 : d = d' <;> by_cases h5 : e = e' <;> simp [h1, h2, h3, h4, h5]
open Classical in
noncomputable def smB (d p : Int) (ds : List Dk) (os : List Ob) (d' p' : Int) (ds' : List Dk) (os' : List Ob) : Bool := decide (d = d' ∧ p = p' ∧ ds = ds' ∧ os = os')
open Classical in
theorem smB_iff {d p : Int} {ds : List Dk} {os : List Ob} {d' p' : Int} {ds' : List Dk} {os' : List Ob} : smB d p ds os d' p' ds' os' = true ↔ d = d' ∧ p = p' ∧ ds = ds' ∧ os = os' := by
 unfold smB
 simp only [decide_eq_true_eq]
theorem ext_all {α : Type} {m m' : List α} (hl : m.length = m'.length) (h : ∀ (j : Nat) (l l' : α), m[j]? = some l → m'[j]? = some l' → l = l') : m = m' := by
 apply List.ext_getElem?
 intro i
 by_cases hi : i < m.length
 ·obtain ⟨l, e⟩ := get_some hi
  obtain ⟨l', e'⟩ := get_some (show i < m'.length by omega)
  rw [e, e', h i l l' e e']
 ·rw [List.getElem?_eq_none (by omega), List.getElem?_eq_none (by omega)]
attribute [local go_sem ↓] eqOb
theorem RD.drewN {B : Nat} {w : World} {A : Option Addr} {ds : List Dk} (h : RD B w A ds) (n : Nat) : RD B (w.drewN n) A ds := h
theorem RO.drewN {B : Nat} {w : World} {A : Option Addr} {os : List Ob} (h : RO B w A os) (n : Nat) : RO B (w.drewN n) A os := h
set_option maxHeartbeats 16000000 in
theorem sameT_calls (d p : Int) (D A : Option Addr) (cd ca B : Nat) (ds : List Dk) (os : List Ob) (d' p' : Int) (D' A' : Option Addr) (cd' ca' B' : Nat) (ds' : List Dk) (os' : List Ob) (w : World)
  (hnd : ds.length ≤ cd) (hcd : cd ≤ 9223372036854775807) (hna : os.length ≤ ca) (hca : ca ≤ 9223372036854775807) (hd : RD B w D ds) (hs : RO B w A os)
  (hnd' : ds'.length ≤ cd') (hcd' : cd' ≤ 9223372036854775807) (hna' : os'.length ≤ ca') (hca' : ca' ≤ 9223372036854775807) (hd' : RD B' w D' ds') (hs' : RO B' w A' os') :
  Calls Try.prog 20 #[Tv d p (.slice D ds.length cd) (.slice A os.length ca), Tv d' p' (.slice D' ds'.length cd') (.slice A' os'.length ca')] w fun e w' => e = .returned (.bool (smB d p ds os d' p' ds' os')) ∧ Below w.heap.size w w' := by
 have NO : Hid (¬ (d = d' ∧ p = p' ∧ ds = ds' ∧ os = os') → smB d p ds os d' p' ds' os' = false) := Lib.hid (fun h => by cases e : smB d p ds os d' p' ds' os' with | false => rfl | true => exact absurd (smB_iff.1 e) h)
 have YES : Hid ((d = d' ∧ p = p' ∧ ds = ds' ∧ os = os') → smB d p ds os d' p' ds' os' = true) := Lib.hid smB_iff.2
 generalize smB d p ds os d' p' ds' os' = res at *
 have HD := Lib.hid hd
 have HS := Lib.hid hs
 have HD' := Lib.hid hd'
 have HS' := Lib.hid hs'
 clear hd hs hd' hs'
 by_cases c1 : d = d'
 rotate_left
 ·have q_c1 : (d != d') = true := by rw [bne_iff_ne]; omega
  have F : Hid (res = false) := Lib.hid (NO.out (fun h => c1 h.1))
  clear NO YES HD HS HD' HS'
  go_enter Try.func20, Try.ntmps20
  go_wp2_with fail
  go_ret
  exact ⟨ret_bool F.out.symm, Bal (Bal (Below.refl _ _) _) _⟩
 have q_c1 : (d != d') = false := by rw [bne_eq_false_iff_eq]; omega
 by_cases c2 : p = p'
 rotate_left
 ·have q_c2 : (p != p') = true := by rw [bne_iff_ne]; omega
  have F : Hid (res = false) := Lib.hid (NO.out (fun h => c2 h.2.1))
  clear NO YES HD HS HD' HS'
  go_enter Try.func20, Try.ntmps20
  go_wp2_with fail
  go_ret
  exact ⟨ret_bool F.out.symm, Bal (Bal (Below.refl _ _) _) _⟩
 have q_c2 : (p != p') = false := by rw [bne_eq_false_iff_eq]; omega
 by_cases c3 : ds.length = ds'.length
 rotate_left
 ·have q_c3 : ((ds.length : Int) != (ds'.length : Int)) = true := by rw [bne_iff_ne]; omega
  have F : Hid (res = false) := Lib.hid (NO.out (fun h => c3 (by rw [h.2.2.1])))
  clear NO YES HD HS HD' HS'
  go_enter Try.func20, Try.ntmps20
  go_wp2_with fail
  go_ret
  exact ⟨ret_bool F.out.symm, Bal (Bal (Below.refl _ _) _) _⟩
 have q_c3 : ((ds.length : Int) != (ds'.length : Int)) = false := by rw [bne_eq_false_iff_eq]; omega
 by_cases c4 : os.length = os'.length
 rotate_left
 ·have q_c4 : ((os.length : Int) != (os'.length : Int)) = true := by rw [bne_iff_ne]; omega
  have F : Hid (res = false) := Lib.hid (NO.out (fun h => c4 (by rw [h.2.2.2])))
  clear NO YES HD HS HD' HS'
  go_enter Try.func20, Try.ntmps20
  go_wp2_with fail
  go_ret
  exact ⟨ret_bool F.out.symm, Bal (Bal (Below.refl _ _) _) _⟩
 have q_c4 : ((os.length : Int) != (os'.length : Int)) = false := by rw [bne_eq_false_iff_eq]; omega
 have C1 := Lib.hid c1
 have C2 := Lib.hid c2
 have C3 := Lib.hid c3
 have C4 := Lib.hid c4
 clear c1 c2 c3 c4
 go_enter Try.func20, Try.ntmps20
 go_wp2_with fail
 have SA : Hid (((w.alloc (.cells #[.int .i64 d, .int .i64 p, .slice D ds.length cd, .slice A os.length ca] 25)).alloc (.cells #[.int .i64 d', .int .i64 p', .slice D' ds'.length cd', .slice A' os'.length ca'] 25)).heap[w.heap.size]? = some (.cells #[.int .i64 d, .int .i64 p, .slice D ds.length cd, .slice A os.length ca] 25)) := Lib.hid (blk_alloc (blk_new w _) _)
 have SB : Hid (((w.alloc (.cells #[.int .i64 d, .int .i64 p, .slice D ds.length cd, .slice A os.length ca] 25)).alloc (.cells #[.int .i64 d', .int .i64 p', .slice D' ds'.length cd', .slice A' os'.length ca'] 25)).heap[w.heap.size + 1]? = some (.cells #[.int .i64 d', .int .i64 p', .slice D' ds'.length cd', .slice A' os'.length ca'] 25)) := Lib.hid (blk_at _ (by simp))
 have NN : Hid (Below w.heap.size w ((w.alloc (.cells #[.int .i64 d, .int .i64 p, .slice D ds.length cd, .slice A os.length ca] 25)).alloc (.cells #[.int .i64 d', .int .i64 p', .slice D' ds'.length cd', .slice A' os'.length ca'] 25))) := Lib.hid (Bal (Bal (Below.refl _ _) _) _)
 replace HD := Lib.hid (HD.out.next NN.out)
 replace HS := Lib.hid (HS.out.next NN.out)
 replace HD' := Lib.hid (HD'.out.next NN.out)
 replace HS' := Lib.hid (HS'.out.next NN.out)
 generalize ((w.alloc (.cells #[.int .i64 d, .int .i64 p, .slice D ds.length cd, .slice A os.length ca] 25)).alloc (.cells #[.int .i64 d', .int .i64 p', .slice D' ds'.length cd', .slice A' os'.length ca'] 25)) = W0 at *
 go_loopw [5] (fun i wr => ∃ k : Nat, k ≤ os.length ∧ i = .int .i64 k ∧ Hid (Below w.heap.size w wr) ∧ Hid (wr.heap[w.heap.size]? = some (.cells #[.int .i64 d, .int .i64 p, .slice D ds.length cd, .slice A os.length ca] 25)) ∧ Hid (wr.heap[w.heap.size + 1]? = some (.cells #[.int .i64 d', .int .i64 p', .slice D' ds'.length cd', .slice A' os'.length ca'] 25)) ∧ Hid (RD B wr D ds) ∧ Hid (RD B' wr D' ds') ∧ Hid (RO B wr A os) ∧ Hid (RO B' wr A' os') ∧ Hid (∀ (j : Nat) (l l' : Ob), j < k → os[j]? = some l → os'[j]? = some l' → l = l')) (fun i _ => os.length - (intOf i).toNat)
 case atStart => exact ⟨0, by omega, rfl, NN, SA, SB, HD, HD', HS, HS', Lib.hid (fun j l l' h => by omega)⟩
 case round =>
  clear NN SA SB HD HS HD' HS'
  obtain ⟨k, hk, rfl, NN, SA, SB, HD, HD', HS, HS', GO⟩ := hrel
  by_cases hlt : k < os.length
  rotate_left
  ·obtain rfl : k = os.length := by omega
   have OE : Hid (os = os') := Lib.hid (ext_all C4.out (fun j l l' h h' => GO.out j l l' (get_lt h) h h'))
   clear GO hk HS HS'
   have x2 := blk_cell SA.out 2 _ rfl
   have x3 := blk_cell SA.out 3 _ rfl
   have y2 := blk_cell SB.out 2 _ rfl
   have y3 := blk_cell SB.out 3 _ rfl
   have hz := blk_lt SB.out
   have hz0 := blk_lt SA.out
   go_wp2_with fail
   clear x2 x3 y2 y3 hz hz0
   go_loopw [6] (fun i wr => ∃ k : Nat, k ≤ ds.length ∧ i = .int .i64 k ∧ Hid (Below w.heap.size w wr) ∧ Hid (wr.heap[w.heap.size]? = some (.cells #[.int .i64 d, .int .i64 p, .slice D ds.length cd, .slice A os.length ca] 25)) ∧ Hid (wr.heap[w.heap.size + 1]? = some (.cells #[.int .i64 d', .int .i64 p', .slice D' ds'.length cd', .slice A' os'.length ca'] 25)) ∧ Hid (RD B wr D ds) ∧ Hid (RD B' wr D' ds') ∧ Hid (∀ (j : Nat) (l l' : Dk), j < k → ds[j]? = some l → ds'[j]? = some l' → l = l')) (fun i _ => ds.length - (intOf i).toNat)
   case atStart => exact ⟨0, by omega, rfl, NN, SA, SB, HD, HD', Lib.hid (fun j l l' h => by omega)⟩
   case round =>
    clear NN SA SB HD HD'
    obtain ⟨k, hk, rfl, NN, SA, SB, HD, HD', GD⟩ := hrel
    by_cases hlt : k < ds.length
    rotate_left
    ·obtain rfl : k = ds.length := by omega
     have R : Hid (res = true) := Lib.hid (YES.out ⟨C1.out, C2.out, ext_all C3.out (fun j l l' h h' => GD.out j l l' (get_lt h) h h'), OE.out⟩)
     have x2 := blk_cell SA.out 2 _ rfl
     have x3 := blk_cell SA.out 3 _ rfl
     have y2 := blk_cell SB.out 2 _ rfl
     have y3 := blk_cell SB.out 3 _ rfl
     have hz := blk_lt SB.out
     have hz0 := blk_lt SA.out
     go_wp2_with fail
     go_ret
     exact ⟨ret_bool R.out.symm, NN.out⟩
    obtain ⟨o, ho⟩ := get_some hlt
    obtain ⟨o', ho'⟩ := get_some (show k < ds'.length by rw [← C3.out]; exact hlt)
    have HO := Lib.hid ho
    have HO' := Lib.hid ho'
    clear ho ho'
    have BAD : Hid (o ≠ o' → res = false) := Lib.hid (fun h => NO.out (fun e => h (by have h1 := HO.out; rw [e.2.2.1, HO'.out] at h1; cases h1; rfl)))
    have NX : Hid (o = o' → ∀ (j : Nat) (l l' : Dk), j < k + 1 → ds[j]? = some l → ds'[j]? = some l' → l = l') := Lib.hid (fun h j l l' hj hl hl' => by
     by_cases x : j = k
     ·subst x
      rw [HO.out] at hl
      rw [HO'.out] at hl'
      cases hl; cases hl'; exact h
     ·exact GD.out j l l' (by omega) hl hl')
    clear GD NO YES OE
    have k2 : (k : Int) < (ds.length : Int) := by omega
    have k3 : (k : Int) < (ds'.length : Int) := by rw [← C3.out]; exact k2
    have kk : k + 1 ≤ ds.length := hlt
    obtain ⟨f, m⟩ := o
    obtain ⟨f', m'⟩ := o'
    obtain ⟨b, off, Ai, ci, rfl, hb, c0, c1, h2, h3, HM⟩ := HD.out.at_ HO.out
    obtain ⟨b', off', Ai', ci', rfl, hb', c0', c1', h2', h3', HM'⟩ := HD'.out.at_ HO'.out
    clear HM HM'
    simp only at c0 c1 h2 c0' c1' h2'
    cases f <;> cases f'
    ·by_cases c5 : m.length = m'.length
     rotate_left
     ·have q5 : ((m.length : Int) != (m'.length : Int)) = true := by rw [bne_iff_ne]; omega
      have F : Hid (res = false) := Lib.hid (BAD.out (fun h => c5 (by injection h with _ h; rw [h])))
      clear BAD NX HO HO'
      have x2 := blk_cell SA.out 2 _ rfl
      have x3 := blk_cell SA.out 3 _ rfl
      have y2 := blk_cell SB.out 2 _ rfl
      have y3 := blk_cell SB.out 3 _ rfl
      have hz := blk_lt SB.out
      have hz0 := blk_lt SA.out
      go_wp2_with fail
      go_quiet (fail)
      go_wp2_with fail
      go_ret
      exact ⟨ret_bool F.out.symm, below_drewN NN.out _⟩
     have q5 : ((m.length : Int) != (m'.length : Int)) = false := by rw [bne_eq_false_iff_eq]; omega
     have CM := Lib.hid c5
     clear c5
     have x2 := blk_cell SA.out 2 _ rfl
     have x3 := blk_cell SA.out 3 _ rfl
     have y2 := blk_cell SB.out 2 _ rfl
     have y3 := blk_cell SB.out 3 _ rfl
     have hz := blk_lt SB.out
     have hz0 := blk_lt SA.out
     go_wp2_with fail
     go_quiet (fail)
     go_wp2_with fail
     clear x2 x3 y2 y3 hz hz0 c0 c1 c0' c1' hb hb' h2 h3 h2' h3'
     go_loopw [7] (fun i wr => ∃ j : Nat, j ≤ m.length ∧ i = .int .i64 j ∧ Hid (Below w.heap.size w wr) ∧ Hid (wr.heap[w.heap.size]? = some (.cells #[.int .i64 d, .int .i64 p, .slice (some ⟨b, off, none⟩) ds.length cd, .slice A os.length ca] 25)) ∧ Hid (wr.heap[w.heap.size + 1]? = some (.cells #[.int .i64 d', .int .i64 p', .slice (some ⟨b', off', none⟩) ds'.length cd', .slice A' os'.length ca'] 25)) ∧ Hid (RD B wr (some ⟨b, off, none⟩) ds) ∧ Hid (RD B' wr (some ⟨b', off', none⟩) ds') ∧ Hid (∀ (t : Nat) (l l' : List Nat), t < j → m[t]? = some l → m'[t]? = some l' → l = l')) (fun i _ => m.length - (intOf i).toNat)
     case atStart => exact ⟨0, by omega, rfl, Lib.hid (below_drewN NN.out _), Lib.hid (blk_drewN SA.out _), Lib.hid (blk_drewN SB.out _), Lib.hid (HD.out.drewN _), Lib.hid (HD'.out.drewN _), Lib.hid (fun j l l' h => by omega)⟩
     case round =>
      clear NN SA SB HD HD'
      obtain ⟨j, hj, rfl, NN, SA, SB, HD, HD', GB⟩ := hrel
      obtain ⟨bb, oo, Ai, ci, ee, hb, c0, c1, h2, h3, HM⟩ := HD.out.at_ HO.out
      obtain ⟨bb', oo', Ai', ci', ee', hb', c0', c1', h2', h3', HM'⟩ := HD'.out.at_ HO'.out
      injection ee with ee
      injection ee with ee1 ee2
      subst ee1 ee2
      injection ee' with ee'
      injection ee' with ee1 ee2
      subst ee1 ee2
      simp only at c0 c1 h2 c0' c1' h2'
      replace HM : Hid (RMA B wr Ai m) := Lib.hid HM
      replace HM' : Hid (RMA B' wr Ai' m') := Lib.hid HM'
      by_cases hlt2 : j < m.length
      rotate_left
      ·obtain rfl : j = m.length := by omega
       have G2 := Lib.hid (NX.out (by rw [ext_all CM.out (fun j l l' h h' => GB.out j l l' (get_lt h) h h')]))
       clear GB NX BAD HO HO' HM HM'
       have x2 := blk_cell SA.out 2 _ rfl
       have x3 := blk_cell SA.out 3 _ rfl
       have y2 := blk_cell SB.out 2 _ rfl
       have y3 := blk_cell SB.out 3 _ rfl
       have hz := blk_lt SB.out
       have hz0 := blk_lt SA.out
       go_wp2_with fail
       clear x2 x3 y2 y3 hz hz0
       go_roundw
       case rel => exact ⟨k + 1, kk, by go_num, NN, SA, SB, HD, HD', G2⟩
       case measure => simp [intOf]; omega
      obtain ⟨l, hl⟩ := get_some hlt2
      obtain ⟨l', hl'⟩ := get_some (show j < m'.length by rw [← CM.out]; exact hlt2)
      have j2 : (j : Int) < (m.length : Int) := by omega
      have j3 : (j : Int) < (m'.length : Int) := by rw [← CM.out]; exact j2
      have jj : j + 1 ≤ m.length := hlt2
      obtain ⟨b1, off1, A1, e1, rfl, hb1, i1, i2, i3, i4⟩ := HM.out.at_ hl
      obtain ⟨b1', off1', A1', e1', rfl, hb1', i1', i2', i3', i4'⟩ := HM'.out.at_ hl'
      have cv1 : ∀ nq, (convert 26 9 (.slice A1 l.length e1)).run Try.prog (wr.drewN nq) = .ok (.string (bstr l)) (wr.drewN nq) := fun nq => conv_rba e1 (i4.drewN nq)
      have cv2 : ∀ nq, (convert 26 9 (.slice A1' l'.length e1')).run Try.prog (wr.drewN nq) = .ok (.string (bstr l')) (wr.drewN nq) := fun nq => conv_rba e1' (i4'.drewN nq)
      have q := bstr_eq i4.1 i4'.1
      have HL := Lib.hid hl
      have HL' := Lib.hid hl'
      clear hl hl' i4 i4' HM HM'
      by_cases e : l = l'
      ·have q' : ((bstr l).toList == (bstr l').toList) = true := by rw [q]; simp [e]
       have G2 : Hid (∀ (t : Nat) (l l' : List Nat), t < j + 1 → m[t]? = some l → m'[t]? = some l' → l = l') := Lib.hid (fun t x x' ht hx hx' => by
        by_cases y : t = j
        ·subst y
         rw [HL.out] at hx
         rw [HL'.out] at hx'
         cases hx; cases hx'; exact e
        ·exact GB.out t x x' (by omega) hx hx')
       clear e q GB BAD HL HL'
       generalize bstr l = sl at *
       generalize bstr l' = sl' at *
       have x2 := blk_cell SA.out 2 _ rfl
       have x3 := blk_cell SA.out 3 _ rfl
       have y2 := blk_cell SB.out 2 _ rfl
       have y3 := blk_cell SB.out 3 _ rfl
       have hz := blk_lt SB.out
       have hz0 := blk_lt SA.out
       go_wp2_with fail
       go_quiet (fail)
       go_wp2_with fail
       refine ⟨⟨j + 1, jj, by go_num, Lib.hid (below_drewN NN.out _), Lib.hid (blk_drewN SA.out _), Lib.hid (blk_drewN SB.out _), Lib.hid (HD.out.drewN _), Lib.hid (HD'.out.drewN _), G2⟩, by simp [intOf]; omega⟩
      ·have q' : ((bstr l).toList == (bstr l').toList) = false := by rw [q]; simp [e]
       have F : Hid (res = false) := Lib.hid (BAD.out (fun h => e (by have h1 := HL.out; have h9 : m = m' := (by injection h); rw [h9, HL'.out] at h1; cases h1; rfl)))
       clear e q GB BAD NX HL HL' HO HO'
       generalize bstr l = sl at *
       generalize bstr l' = sl' at *
       have x2 := blk_cell SA.out 2 _ rfl
       have x3 := blk_cell SA.out 3 _ rfl
       have y2 := blk_cell SB.out 2 _ rfl
       have y3 := blk_cell SB.out 3 _ rfl
       have hz := blk_lt SB.out
       have hz0 := blk_lt SA.out
       go_wp2_with fail
       go_quiet (fail)
       go_wp2_with fail
       go_ret
       exact ⟨ret_bool F.out.symm, below_drewN NN.out _⟩
    ·have zz := 0
     have F : Hid (res = false) := Lib.hid (BAD.out (fun h => by injection h with h; cases h))
     clear BAD NX HO HO'
     have x2 := blk_cell SA.out 2 _ rfl
     have x3 := blk_cell SA.out 3 _ rfl
     have y2 := blk_cell SB.out 2 _ rfl
     have y3 := blk_cell SB.out 3 _ rfl
     have hz := blk_lt SB.out
     have hz0 := blk_lt SA.out
     go_wp2_with fail
     go_quiet (fail)
     go_wp2_with fail
     go_ret
     exact ⟨ret_bool F.out.symm, below_drewN NN.out _⟩
    ·have zz := 0
     have F : Hid (res = false) := Lib.hid (BAD.out (fun h => by injection h with h; cases h))
     clear BAD NX HO HO'
     have x2 := blk_cell SA.out 2 _ rfl
     have x3 := blk_cell SA.out 3 _ rfl
     have y2 := blk_cell SB.out 2 _ rfl
     have y3 := blk_cell SB.out 3 _ rfl
     have hz := blk_lt SB.out
     have hz0 := blk_lt SA.out
     go_wp2_with fail
     go_quiet (fail)
     go_wp2_with fail
     go_ret
     exact ⟨ret_bool F.out.symm, below_drewN NN.out _⟩
    ·by_cases c5 : m.length = m'.length
     rotate_left
     ·have q5 : ((m.length : Int) != (m'.length : Int)) = true := by rw [bne_iff_ne]; omega
      have F : Hid (res = false) := Lib.hid (BAD.out (fun h => c5 (by injection h with _ h; rw [h])))
      clear BAD NX HO HO'
      have x2 := blk_cell SA.out 2 _ rfl
      have x3 := blk_cell SA.out 3 _ rfl
      have y2 := blk_cell SB.out 2 _ rfl
      have y3 := blk_cell SB.out 3 _ rfl
      have hz := blk_lt SB.out
      have hz0 := blk_lt SA.out
      go_wp2_with fail
      go_quiet (fail)
      go_wp2_with fail
      go_ret
      exact ⟨ret_bool F.out.symm, below_drewN NN.out _⟩
     have q5 : ((m.length : Int) != (m'.length : Int)) = false := by rw [bne_eq_false_iff_eq]; omega
     have CM := Lib.hid c5
     clear c5
     have x2 := blk_cell SA.out 2 _ rfl
     have x3 := blk_cell SA.out 3 _ rfl
     have y2 := blk_cell SB.out 2 _ rfl
     have y3 := blk_cell SB.out 3 _ rfl
     have hz := blk_lt SB.out
     have hz0 := blk_lt SA.out
     go_wp2_with fail
     go_quiet (fail)
     go_wp2_with fail
     clear x2 x3 y2 y3 hz hz0 c0 c1 c0' c1' hb hb' h2 h3 h2' h3'
     go_loopw [7] (fun i wr => ∃ j : Nat, j ≤ m.length ∧ i = .int .i64 j ∧ Hid (Below w.heap.size w wr) ∧ Hid (wr.heap[w.heap.size]? = some (.cells #[.int .i64 d, .int .i64 p, .slice (some ⟨b, off, none⟩) ds.length cd, .slice A os.length ca] 25)) ∧ Hid (wr.heap[w.heap.size + 1]? = some (.cells #[.int .i64 d', .int .i64 p', .slice (some ⟨b', off', none⟩) ds'.length cd', .slice A' os'.length ca'] 25)) ∧ Hid (RD B wr (some ⟨b, off, none⟩) ds) ∧ Hid (RD B' wr (some ⟨b', off', none⟩) ds') ∧ Hid (∀ (t : Nat) (l l' : List Nat), t < j → m[t]? = some l → m'[t]? = some l' → l = l')) (fun i _ => m.length - (intOf i).toNat)
     case atStart => exact ⟨0, by omega, rfl, Lib.hid (below_drewN NN.out _), Lib.hid (blk_drewN SA.out _), Lib.hid (blk_drewN SB.out _), Lib.hid (HD.out.drewN _), Lib.hid (HD'.out.drewN _), Lib.hid (fun j l l' h => by omega)⟩
     case round =>
      clear NN SA SB HD HD'
      obtain ⟨j, hj, rfl, NN, SA, SB, HD, HD', GB⟩ := hrel
      obtain ⟨bb, oo, Ai, ci, ee, hb, c0, c1, h2, h3, HM⟩ := HD.out.at_ HO.out
      obtain ⟨bb', oo', Ai', ci', ee', hb', c0', c1', h2', h3', HM'⟩ := HD'.out.at_ HO'.out
      injection ee with ee
      injection ee with ee1 ee2
      subst ee1 ee2
      injection ee' with ee'
      injection ee' with ee1 ee2
      subst ee1 ee2
      simp only at c0 c1 h2 c0' c1' h2'
      replace HM : Hid (RMA B wr Ai m) := Lib.hid HM
      replace HM' : Hid (RMA B' wr Ai' m') := Lib.hid HM'
      by_cases hlt2 : j < m.length
      rotate_left
      ·obtain rfl : j = m.length := by omega
       have G2 := Lib.hid (NX.out (by rw [ext_all CM.out (fun j l l' h h' => GB.out j l l' (get_lt h) h h')]))
       clear GB NX BAD HO HO' HM HM'
       have x2 := blk_cell SA.out 2 _ rfl
       have x3 := blk_cell SA.out 3 _ rfl
       have y2 := blk_cell SB.out 2 _ rfl
       have y3 := blk_cell SB.out 3 _ rfl
       have hz := blk_lt SB.out
       have hz0 := blk_lt SA.out
       go_wp2_with fail
       clear x2 x3 y2 y3 hz hz0
       go_roundw
       case rel => exact ⟨k + 1, kk, by go_num, NN, SA, SB, HD, HD', G2⟩
       case measure => simp [intOf]; omega
      obtain ⟨l, hl⟩ := get_some hlt2
      obtain ⟨l', hl'⟩ := get_some (show j < m'.length by rw [← CM.out]; exact hlt2)
      have j2 : (j : Int) < (m.length : Int) := by omega
      have j3 : (j : Int) < (m'.length : Int) := by rw [← CM.out]; exact j2
      have jj : j + 1 ≤ m.length := hlt2
      obtain ⟨b1, off1, A1, e1, rfl, hb1, i1, i2, i3, i4⟩ := HM.out.at_ hl
      obtain ⟨b1', off1', A1', e1', rfl, hb1', i1', i2', i3', i4'⟩ := HM'.out.at_ hl'
      have cv1 : ∀ nq, (convert 26 9 (.slice A1 l.length e1)).run Try.prog (wr.drewN nq) = .ok (.string (bstr l)) (wr.drewN nq) := fun nq => conv_rba e1 (i4.drewN nq)
      have cv2 : ∀ nq, (convert 26 9 (.slice A1' l'.length e1')).run Try.prog (wr.drewN nq) = .ok (.string (bstr l')) (wr.drewN nq) := fun nq => conv_rba e1' (i4'.drewN nq)
      have q := bstr_eq i4.1 i4'.1
      have HL := Lib.hid hl
      have HL' := Lib.hid hl'
      clear hl hl' i4 i4' HM HM'
      by_cases e : l = l'
      ·have q' : ((bstr l).toList == (bstr l').toList) = true := by rw [q]; simp [e]
       have G2 : Hid (∀ (t : Nat) (l l' : List Nat), t < j + 1 → m[t]? = some l → m'[t]? = some l' → l = l') := Lib.hid (fun t x x' ht hx hx' => by
        by_cases y : t = j
        ·subst y
         rw [HL.out] at hx
         rw [HL'.out] at hx'
         cases hx; cases hx'; exact e
        ·exact GB.out t x x' (by omega) hx hx')
       clear e q GB BAD HL HL'
       generalize bstr l = sl at *
       generalize bstr l' = sl' at *
       have x2 := blk_cell SA.out 2 _ rfl
       have x3 := blk_cell SA.out 3 _ rfl
       have y2 := blk_cell SB.out 2 _ rfl
       have y3 := blk_cell SB.out 3 _ rfl
       have hz := blk_lt SB.out
       have hz0 := blk_lt SA.out
       go_wp2_with fail
       go_quiet (fail)
       go_wp2_with fail
       refine ⟨⟨j + 1, jj, by go_num, Lib.hid (below_drewN NN.out _), Lib.hid (blk_drewN SA.out _), Lib.hid (blk_drewN SB.out _), Lib.hid (HD.out.drewN _), Lib.hid (HD'.out.drewN _), G2⟩, by simp [intOf]; omega⟩
      ·have q' : ((bstr l).toList == (bstr l').toList) = false := by rw [q]; simp [e]
       have F : Hid (res = false) := Lib.hid (BAD.out (fun h => e (by have h1 := HL.out; have h9 : m = m' := (by injection h); rw [h9, HL'.out] at h1; cases h1; rfl)))
       clear e q GB BAD NX HL HL' HO HO'
       generalize bstr l = sl at *
       generalize bstr l' = sl' at *
       have x2 := blk_cell SA.out 2 _ rfl
       have x3 := blk_cell SA.out 3 _ rfl
       have y2 := blk_cell SB.out 2 _ rfl
       have y3 := blk_cell SB.out 3 _ rfl
       have hz := blk_lt SB.out
       have hz0 := blk_lt SA.out
       go_wp2_with fail
       go_quiet (fail)
       go_wp2_with fail
       go_ret
       exact ⟨ret_bool F.out.symm, below_drewN NN.out _⟩
  obtain ⟨o, ho⟩ := get_some hlt
  obtain ⟨o', ho'⟩ := get_some (show k < os'.length by rw [← C4.out]; exact hlt)
  have HO := Lib.hid ho
  have HO' := Lib.hid ho'
  clear ho ho'
  obtain ⟨b, off, rfl, hb, c0, c1, c2, c3, c4⟩ := HS.out.at_ HO.out
  obtain ⟨b', off', rfl, hb', c0', c1', c2', c3', c4'⟩ := HS'.out.at_ HO'.out
  have k2 : (k : Int) < (os.length : Int) := by omega
  have k3 : (k : Int) < (os'.length : Int) := by rw [← C4.out]; exact k2
  have kk : k + 1 ≤ os.length := hlt
  by_cases e : o = o'
  ·have q : eqO o o' = true := eqO_iff.2 e
   have G2 : Hid (∀ (j : Nat) (l l' : Ob), j < k + 1 → os[j]? = some l → os'[j]? = some l' → l = l') := Lib.hid (fun t x x' ht hx hx' => by
    by_cases y : t = k
    ·subst y
     rw [HO.out] at hx
     rw [HO'.out] at hx'
     cases hx; cases hx'; exact e
    ·exact GO.out t x x' (by omega) hx hx')
   clear e GO HO HO' NO YES
   have x2 := blk_cell SA.out 2 _ rfl
   have x3 := blk_cell SA.out 3 _ rfl
   have y2 := blk_cell SB.out 2 _ rfl
   have y3 := blk_cell SB.out 3 _ rfl
   have hz := blk_lt SB.out
   have hz0 := blk_lt SA.out
   go_wp2_with fail
   go_quiet (fail)
   go_wp2_with fail
   refine ⟨⟨k + 1, kk, by go_num, Lib.hid (below_drewN NN.out _), Lib.hid (blk_drewN SA.out _), Lib.hid (blk_drewN SB.out _), Lib.hid (HD.out.drewN _), Lib.hid (HD'.out.drewN _), Lib.hid (HS.out.drewN _), Lib.hid (HS'.out.drewN _), G2⟩, by simp [intOf]; omega⟩
  ·have q : eqO o o' = false := by cases x : eqO o o' with | false => rfl | true => exact absurd (eqO_iff.1 x) e
   have F : Hid (res = false) := Lib.hid (NO.out (fun h => e (by have h1 := HO.out; rw [h.2.2.2, HO'.out] at h1; cases h1; rfl)))
   clear e GO HO HO' NO YES
   have x2 := blk_cell SA.out 2 _ rfl
   have x3 := blk_cell SA.out 3 _ rfl
   have y2 := blk_cell SB.out 2 _ rfl
   have y3 := blk_cell SB.out 3 _ rfl
   have hz := blk_lt SB.out
   have hz0 := blk_lt SA.out
   go_wp2_with fail
   go_quiet (fail)
   go_wp2_with fail
   go_ret
   exact ⟨ret_bool F.out.symm, below_drewN NN.out _⟩
end Go.Proofs.Ytapehckcmmompaa
