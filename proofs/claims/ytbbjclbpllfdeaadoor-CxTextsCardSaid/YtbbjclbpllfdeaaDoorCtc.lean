/- Contract of layer 25: Parse of the program. -/
import Derived.Test.YtbbjclbpllfdeaaDoorCtb
namespace Go.Proofs.YtbbjclbpllfdeaaDoor
open Go.ChangeShapes Go.WideShapes Go.ChangeAt Go.RowKit Cxm
set_option linter.unusedVariables false
attribute [local go_sem ↓] Go.wp_at_zero Go.wp_at_succ

theorem s_len (s : ByteArray) : s.data.toList.length = s.size := by rw [Array.length_toList]; rfl
theorem ix0 (a b c : Value) (w : World) : (Instr.index 60 (.agg #[a, b, c]) (.int .i64 0)).run Tryd.prog w = .ok a w := by kernel_rfl
theorem ix1 (a b c : Value) (w : World) : (Instr.index 60 (.agg #[a, b, c]) (.int .i64 1)).run Tryd.prog w = .ok b w := by kernel_rfl
theorem ix2 (a b c : Value) (w : World) : (Instr.index 60 (.agg #[a, b, c]) (.int .i64 2)).run Tryd.prog w = .ok c w := by kernel_rfl
def PUX (l : List UInt8) (w : World) (e : Ending) (w' : World) : Prop := ∃ r i d er, e = .returned (Rv r i d er) ∧ PX l (r, i, d, er) ∧ Below w.heap.size w w'
theorem PX.some {l : List UInt8} {n i d : Int} (h1 : chkE n i d = 0) (h2 : txR n i d = l) : PX l (n, i, d, 0) := by
  have hc : chkB n i d = true := by
    unfold chkE at h1
    split at h1
    · assumption
    · cases h1
  refine .inl ⟨rfl, hc, ?_⟩
  unfold txR at h2
  rwa [if_pos hc] at h2
set_option maxRecDepth 100000 in
set_option maxHeartbeats 8000000 in
theorem parseX_calls (s : ByteArray) (w : World) (g : GL w) :
    Calls Tryd.prog 12 #[.string s] w (PUX s.data.toList w) := by
  have GG := Lib.hid g
  have NN := Lib.hid (Below.refl w.heap.size w)
  clear g
  have SL := s_len s
  have TL : Hid (s.toList = s.data.toList) := Lib.hid (ByteArray.toList_eq ..)
  obtain ⟨l, hl⟩ : ∃ l, s.data.toList = l := ⟨_, rfl⟩
  have CC := Lib.hid (fun W (h : s.size < 4294967281) (h' : GL W) => cutS_calls s 47 W h h')
  rw [hl] at SL CC TL ⊢
  clear hl
  by_cases big : 34 < s.size
  · have NO := Lib.hid (PX.none (l := l) (fun n i d v h => by have := text_len v; rw [h] at this; omega))
    have bg : decide ((34 : Int) < (s.size : Int)) = true := decide_eq_true (by omega)
    clear SL CC
    go_enter Tryd.func12, Tryd.ntmps12
    have HB : Hid (Below w.heap.size w (w.alloc (.cells #[.int .i64 0, .int .i64 0, .int .i64 0] 23))) := Lib.hid (Bal (Below.refl _ _) _)
    have K := Lib.hid (blk_new w (.cells #[.int .i64 0, .int .i64 0, .int .i64 0] 23))
    have LT_K : Hid (w.heap.size ≤ w.heap.size) := Lib.hid NN.out.size
    replace NN := Lib.hid (Bgo NN.out HB.out)
    clear HB
    go_wp2_with fail
    exact bodyPost_ret (v := Rv 0 0 0 12) (by simp [results, Tryd.results12, go_sem]) rfl ⟨_, _, _, _, rfl, NO.out, NN.out⟩
  have bg : decide ((34 : Int) < (s.size : Int)) = false := decide_eq_false (by omega)
  have CT := Lib.hid (fun (lp ld la lb : List UInt8) (f g : Bool) (hc : Lib.cut l [47] = (lp, ld, f)) (hp : Lib.cut lp [44] = (la, lb, g)) (r i d : Int) (h : textX r i d = l) => text_parts hc hp h)
  have LL : (Lib.cut l [47]).1.length ≤ 34 ∧ (Lib.cut l [47]).2.1.length ≤ 34 := by unfold Lib.cut; split <;> simp <;> omega
  obtain ⟨⟨lp, ld, f⟩, hc⟩ : ∃ r, Lib.cut l [47] = r := ⟨_, rfl⟩
  rw [hc] at CC LL
  have C1 := Lib.hid (fun W (h : GL W) => CC.out W (by omega) h)
  clear CC
  obtain ⟨ll1, ll2⟩ := LL
  simp only at ll1 ll2
  have C2 := Lib.hid (fun W (h : GL W) => cutS_calls ⟨lp.toArray⟩ 44 W (by have := s_len ⟨lp.toArray⟩; simp at this; omega) h)
  rw [show (⟨lp.toArray⟩ : ByteArray).data.toList = lp by simp] at C2
  have LM : (Lib.cut lp [44]).1.length ≤ 34 ∧ (Lib.cut lp [44]).2.1.length ≤ 34 := by unfold Lib.cut; split <;> simp <;> omega
  obtain ⟨⟨la, lb, g⟩, hp⟩ : ∃ r, Lib.cut lp [44] = r := ⟨_, rfl⟩
  rw [hp] at C2 LM
  obtain ⟨lm1, lm2⟩ := LM
  simp only at lm1 lm2
  obtain ⟨lc, hlc⟩ : ∃ lc, (if f then ld else [49]) = lc := ⟨_, rfl⟩
  have l3 : lc.length ≤ 34 := by rw [← hlc]; cases f <;> simp <;> omega
  have UN : Hid (∀ n i d, chkB n i d = true → textX n i d = l → g = true ∧ Lib.itoa n = la ∧ Lib.itoa i = lb ∧ Lib.itoa d = lc) := Lib.hid (fun n i d v h => by rw [← hlc]; exact CT.out _ _ _ _ _ _ hc hp n i d h)
  have HLC := Lib.hid hlc
  have P0 := Lib.hid (fun W (h : GL W) => parse_calls ⟨la.toArray⟩ W (by have := s_len ⟨la.toArray⟩; simp at this; omega) h)
  have P1 := Lib.hid (fun W (h : GL W) => parse_calls ⟨lb.toArray⟩ W (by have := s_len ⟨lb.toArray⟩; simp at this; omega) h)
  have P2 := Lib.hid (fun W (h : GL W) => parse_calls ⟨lc.toArray⟩ W (by have := s_len ⟨lc.toArray⟩; simp at this; omega) h)
  rw [show (⟨la.toArray⟩ : ByteArray).data.toList = la by simp] at P0
  rw [show (⟨lb.toArray⟩ : ByteArray).data.toList = lb by simp] at P1
  rw [show (⟨lc.toArray⟩ : ByteArray).data.toList = lc by simp] at P2
  clear hc hp CT hlc SL big ll1 ll2 lm1 lm2 l3
  go_enter Tryd.func12, Tryd.ntmps12
  have HB : Hid (Below w.heap.size w (w.alloc (.cells #[.int .i64 0, .int .i64 0, .int .i64 0] 23))) := Lib.hid (Bal (Below.refl _ _) _)
  have K := Lib.hid (blk_new w (.cells #[.int .i64 0, .int .i64 0, .int .i64 0] 23))
  have LT_K : Hid (w.heap.size ≤ w.heap.size) := Lib.hid NN.out.size
  replace NN := Lib.hid (Bgo NN.out HB.out)
  clear HB
  go_wp2_with fail
  generalize w.alloc (.cells #[.int .i64 0, .int .i64 0, .int .i64 0] 23) = W2 at *
  refine (C1.out _ (GG.out.next NN.out)).mono ?_
  rintro e w3 ⟨rfl, hb⟩
  replace NN := Lib.hid (Bgo NN.out hb)
  replace K := Lib.hid (blk_next hb K.out)
  clear hb
  have hl3 := HLC.out
  cases f
  · have z := 0
    rw [if_neg (by decide)] at hl3
    subst hl3
    clear HLC
    go_wp2_with fail
    refine (C2.out _ (GG.out.next NN.out)).mono ?_
    rintro e w4 ⟨rfl, hb⟩
    replace NN := Lib.hid (Bgo NN.out hb)
    replace K := Lib.hid (blk_next hb K.out)
    clear hb
    cases g
    · have NO := Lib.hid (PX.none (l := l) (fun n i d v h => by have := (UN.out n i d v h).1; cases this))
      have c_K_0 := blk_cell K.out 0 _ rfl
      have f_K_0 := blk_frozen K.out 0
      have c_K_1 := blk_cell K.out 1 _ rfl
      have f_K_1 := blk_frozen K.out 1
      have c_K_2 := blk_cell K.out 2 _ rfl
      have f_K_2 := blk_frozen K.out 2
      have l_K := blk_lt K.out
      go_wp2_with fail
      clear c_K_0 f_K_0 c_K_1 f_K_1 c_K_2 f_K_2 l_K
      have e0 := blk_cell (blk_set (blk_set (blk_set (K.out) 0 (.int .i64 0)) 1 (.int .i64 0)) 2 (.int .i64 0)) 0 _ rfl
      have e1 := blk_cell (blk_set (blk_set (blk_set (K.out) 0 (.int .i64 0)) 1 (.int .i64 0)) 2 (.int .i64 0)) 1 _ rfl
      have e2 := blk_cell (blk_set (blk_set (blk_set (K.out) 0 (.int .i64 0)) 1 (.int .i64 0)) 2 (.int .i64 0)) 2 _ rfl
      exact bodyPost_ret (v := Rv 0 0 0 12) (by simp [results, Tryd.results12, go_sem, e0, e1, e2]) rfl ⟨_, _, _, _, rfl, NO.out, Bset1 (Bset1 (Bset1 (NN.out) (by have := LT_K.out; omega) _ _) (by have := LT_K.out; omega) _ _) (by have := LT_K.out; omega) _ _⟩
    have i0 := ix0 (Str la) (Str lb) (Str [49])
    have i1 := ix1 (Str la) (Str lb) (Str [49])
    have i2 := ix2 (Str la) (Str lb) (Str [49])
    go_wp2_with fail
    have HB : Hid (Below w4.heap.size w4 (w4.alloc (.cells #[.int .i64 0, .int .i64 0, .int .i64 0] 59))) := Lib.hid (Bal (Below.refl _ _) _)
    have N := Lib.hid (blk_new w4 (.cells #[.int .i64 0, .int .i64 0, .int .i64 0] 59))
    have LT_N : Hid (w.heap.size < w4.heap.size ∧ w.heap.size ≤ w4.heap.size) := Lib.hid ⟨blk_lt K.out, NN.out.size⟩
    replace NN := Lib.hid (Bgo NN.out HB.out)
    replace K := Lib.hid (blk_next HB.out K.out)
    clear HB
    generalize w4.alloc (.cells #[.int .i64 0, .int .i64 0, .int .i64 0] 59) = W5 at *
    generalize w4.heap.size = gn at *
    go_loopw [43] (fun i wr => ∃ (k : Nat) (x y z : Int), k ≤ 3 ∧ i = .int .i64 k ∧ Hid (1 ≤ k → Lib.parseIntB 64 la = .ok x) ∧ Hid (2 ≤ k → Lib.parseIntB 64 lb = .ok y) ∧ Hid (3 ≤ k → Lib.parseIntB 64 [49] = .ok z) ∧ Hid (Below w.heap.size w wr) ∧ Hid (wr.heap[w.heap.size]? = some (.cells #[.int .i64 0, .int .i64 0, .int .i64 0] 23)) ∧ Hid (wr.heap[gn]? = some (.cells #[.int .i64 x, .int .i64 y, .int .i64 z] 59))) (fun i _ => 3 - (intOf i).toNat)
    case atStart => exact ⟨0, 0, 0, 0, by omega, rfl, Lib.hid (fun h => by omega), Lib.hid (fun h => by omega), Lib.hid (fun h => by omega), NN, K, N⟩
    case round =>
      clear NN K N
      obtain ⟨k, x, y, z, hk, rfl, HX, HY, HZ, NN, K, N⟩ := hrel
      obtain ⟨hn1, hn2⟩ := LT_N.out
      have hk4 : k = 0 ∨ k = 1 ∨ k = 2 ∨ k = 3 := by omega
      rcases hk4 with rfl | rfl | rfl | rfl
      · have zz := 0
        go_wp2_with fail
        refine (P0.out _ (GG.out.next NN.out)).mono ?_
        rintro e w6 (⟨num, pn, m1, m2, rfl, hb⟩ | ⟨pn, v2, t2, p2, rfl, hb⟩)
        rotate_left
        · have NO := Lib.hid (PX.none (l := l) (fun n i d v h => by
            have q := UN.out n i d v h
            have q2 := (val_itoa v).1
            rw [q.2.1] at q2
            exact pn _ q2))
          replace NN := Lib.hid (Bgo NN.out hb)
          replace K := Lib.hid (blk_next hb K.out)
          replace N := Lib.hid (blk_next hb N.out)
          clear hb pn
          have c_K_0 := blk_cell K.out 0 _ rfl
          have f_K_0 := blk_frozen K.out 0
          have c_K_1 := blk_cell K.out 1 _ rfl
          have f_K_1 := blk_frozen K.out 1
          have c_K_2 := blk_cell K.out 2 _ rfl
          have f_K_2 := blk_frozen K.out 2
          have l_K := blk_lt K.out
          go_wp2_with fail
          clear c_K_0 f_K_0 c_K_1 f_K_1 c_K_2 f_K_2 l_K
          have e0 := blk_cell (blk_set (blk_set (blk_set (K.out) 0 (.int .i64 0)) 1 (.int .i64 0)) 2 (.int .i64 0)) 0 _ rfl
          have e1 := blk_cell (blk_set (blk_set (blk_set (K.out) 0 (.int .i64 0)) 1 (.int .i64 0)) 2 (.int .i64 0)) 1 _ rfl
          have e2 := blk_cell (blk_set (blk_set (blk_set (K.out) 0 (.int .i64 0)) 1 (.int .i64 0)) 2 (.int .i64 0)) 2 _ rfl
          exact bodyPost_ret (v := Rv 0 0 0 12) (by simp [results, Tryd.results12, go_sem, e0, e1, e2]) rfl ⟨_, _, _, _, rfl, NO.out, Bset1 (Bset1 (Bset1 (NN.out) (by have := LT_K.out; omega) _ _) (by have := LT_K.out; omega) _ _) (by have := LT_K.out; omega) _ _⟩
        replace NN := Lib.hid (Bgo NN.out hb)
        replace K := Lib.hid (blk_next hb K.out)
        replace N := Lib.hid (blk_next hb N.out)
        clear hb
        have PN := Lib.hid pn
        clear pn
        have c_N_0 := blk_cell N.out 0 _ rfl
        have f_N_0 := blk_frozen N.out 0
        have c_N_1 := blk_cell N.out 1 _ rfl
        have f_N_1 := blk_frozen N.out 1
        have c_N_2 := blk_cell N.out 2 _ rfl
        have f_N_2 := blk_frozen N.out 2
        have l_N := blk_lt N.out
        go_wp2_with fail
        clear c_N_0 f_N_0 c_N_1 f_N_1 c_N_2 f_N_2 l_N
        replace K : Hid ((w6.setCell ⟨gn, 0, none⟩ (.int .i64 num)).heap[w.heap.size]? = some (.cells #[.int .i64 0, .int .i64 0, .int .i64 0] 23)) := Lib.hid (blk_set_other (b' := gn) (K.out) (by have := LT_N.out; omega) 0 (.int .i64 num))
        replace N : Hid ((w6.setCell ⟨gn, 0, none⟩ (.int .i64 num)).heap[gn]? = some (.cells #[.int .i64 num, .int .i64 y, .int .i64 z] 59)) := Lib.hid (blk_set (N.out) 0 (.int .i64 num))
        replace NN := Lib.hid (Bset1 (NN.out) (show w.heap.size ≤ gn by have := LT_N.out; omega) 0 (.int .i64 num))
        exact ⟨⟨1, num, y, z, by omega, by go_num, Lib.hid (fun h => PN.out), Lib.hid (fun h => by omega), Lib.hid (fun h => by omega), NN, K, N⟩, by simp [intOf]⟩
      · have zz := 0
        go_wp2_with fail
        refine (P1.out _ (GG.out.next NN.out)).mono ?_
        rintro e w8 (⟨num, pn, m1, m2, rfl, hb⟩ | ⟨pn, v2, t2, p2, rfl, hb⟩)
        rotate_left
        · have NO := Lib.hid (PX.none (l := l) (fun n i d v h => by
            have q := UN.out n i d v h
            have q2 := (val_itoa v).2.1
            rw [q.2.2.1] at q2
            exact pn _ q2))
          replace NN := Lib.hid (Bgo NN.out hb)
          replace K := Lib.hid (blk_next hb K.out)
          replace N := Lib.hid (blk_next hb N.out)
          clear hb pn
          have c_K_0 := blk_cell K.out 0 _ rfl
          have f_K_0 := blk_frozen K.out 0
          have c_K_1 := blk_cell K.out 1 _ rfl
          have f_K_1 := blk_frozen K.out 1
          have c_K_2 := blk_cell K.out 2 _ rfl
          have f_K_2 := blk_frozen K.out 2
          have l_K := blk_lt K.out
          go_wp2_with fail
          clear c_K_0 f_K_0 c_K_1 f_K_1 c_K_2 f_K_2 l_K
          have e0 := blk_cell (blk_set (blk_set (blk_set (K.out) 0 (.int .i64 0)) 1 (.int .i64 0)) 2 (.int .i64 0)) 0 _ rfl
          have e1 := blk_cell (blk_set (blk_set (blk_set (K.out) 0 (.int .i64 0)) 1 (.int .i64 0)) 2 (.int .i64 0)) 1 _ rfl
          have e2 := blk_cell (blk_set (blk_set (blk_set (K.out) 0 (.int .i64 0)) 1 (.int .i64 0)) 2 (.int .i64 0)) 2 _ rfl
          exact bodyPost_ret (v := Rv 0 0 0 12) (by simp [results, Tryd.results12, go_sem, e0, e1, e2]) rfl ⟨_, _, _, _, rfl, NO.out, Bset1 (Bset1 (Bset1 (NN.out) (by have := LT_K.out; omega) _ _) (by have := LT_K.out; omega) _ _) (by have := LT_K.out; omega) _ _⟩
        replace NN := Lib.hid (Bgo NN.out hb)
        replace K := Lib.hid (blk_next hb K.out)
        replace N := Lib.hid (blk_next hb N.out)
        clear hb
        have PN := Lib.hid pn
        clear pn
        have c_N_0 := blk_cell N.out 0 _ rfl
        have f_N_0 := blk_frozen N.out 0
        have c_N_1 := blk_cell N.out 1 _ rfl
        have f_N_1 := blk_frozen N.out 1
        have c_N_2 := blk_cell N.out 2 _ rfl
        have f_N_2 := blk_frozen N.out 2
        have l_N := blk_lt N.out
        go_wp2_with fail
        clear c_N_0 f_N_0 c_N_1 f_N_1 c_N_2 f_N_2 l_N
        replace K : Hid ((w8.setCell ⟨gn, 1, none⟩ (.int .i64 num)).heap[w.heap.size]? = some (.cells #[.int .i64 0, .int .i64 0, .int .i64 0] 23)) := Lib.hid (blk_set_other (b' := gn) (K.out) (by have := LT_N.out; omega) 1 (.int .i64 num))
        replace N : Hid ((w8.setCell ⟨gn, 1, none⟩ (.int .i64 num)).heap[gn]? = some (.cells #[.int .i64 x, .int .i64 num, .int .i64 z] 59)) := Lib.hid (blk_set (N.out) 1 (.int .i64 num))
        replace NN := Lib.hid (Bset1 (NN.out) (show w.heap.size ≤ gn by have := LT_N.out; omega) 1 (.int .i64 num))
        exact ⟨⟨2, x, num, z, by omega, by go_num, Lib.hid (fun h => HX.out (by decide)), Lib.hid (fun h => PN.out), Lib.hid (fun h => by omega), NN, K, N⟩, by simp [intOf]⟩
      · have zz := 0
        go_wp2_with fail
        refine (P2.out _ (GG.out.next NN.out)).mono ?_
        rintro e w10 (⟨num, pn, m1, m2, rfl, hb⟩ | ⟨pn, v2, t2, p2, rfl, hb⟩)
        rotate_left
        · have NO := Lib.hid (PX.none (l := l) (fun n i d v h => by
            have q := UN.out n i d v h
            have q2 := (val_itoa v).2.2
            rw [q.2.2.2] at q2
            exact pn _ q2))
          replace NN := Lib.hid (Bgo NN.out hb)
          replace K := Lib.hid (blk_next hb K.out)
          replace N := Lib.hid (blk_next hb N.out)
          clear hb pn
          have c_K_0 := blk_cell K.out 0 _ rfl
          have f_K_0 := blk_frozen K.out 0
          have c_K_1 := blk_cell K.out 1 _ rfl
          have f_K_1 := blk_frozen K.out 1
          have c_K_2 := blk_cell K.out 2 _ rfl
          have f_K_2 := blk_frozen K.out 2
          have l_K := blk_lt K.out
          go_wp2_with fail
          clear c_K_0 f_K_0 c_K_1 f_K_1 c_K_2 f_K_2 l_K
          have e0 := blk_cell (blk_set (blk_set (blk_set (K.out) 0 (.int .i64 0)) 1 (.int .i64 0)) 2 (.int .i64 0)) 0 _ rfl
          have e1 := blk_cell (blk_set (blk_set (blk_set (K.out) 0 (.int .i64 0)) 1 (.int .i64 0)) 2 (.int .i64 0)) 1 _ rfl
          have e2 := blk_cell (blk_set (blk_set (blk_set (K.out) 0 (.int .i64 0)) 1 (.int .i64 0)) 2 (.int .i64 0)) 2 _ rfl
          exact bodyPost_ret (v := Rv 0 0 0 12) (by simp [results, Tryd.results12, go_sem, e0, e1, e2]) rfl ⟨_, _, _, _, rfl, NO.out, Bset1 (Bset1 (Bset1 (NN.out) (by have := LT_K.out; omega) _ _) (by have := LT_K.out; omega) _ _) (by have := LT_K.out; omega) _ _⟩
        replace NN := Lib.hid (Bgo NN.out hb)
        replace K := Lib.hid (blk_next hb K.out)
        replace N := Lib.hid (blk_next hb N.out)
        clear hb
        have PN := Lib.hid pn
        clear pn
        have c_N_0 := blk_cell N.out 0 _ rfl
        have f_N_0 := blk_frozen N.out 0
        have c_N_1 := blk_cell N.out 1 _ rfl
        have f_N_1 := blk_frozen N.out 1
        have c_N_2 := blk_cell N.out 2 _ rfl
        have f_N_2 := blk_frozen N.out 2
        have l_N := blk_lt N.out
        go_wp2_with fail
        clear c_N_0 f_N_0 c_N_1 f_N_1 c_N_2 f_N_2 l_N
        replace K : Hid ((w10.setCell ⟨gn, 2, none⟩ (.int .i64 num)).heap[w.heap.size]? = some (.cells #[.int .i64 0, .int .i64 0, .int .i64 0] 23)) := Lib.hid (blk_set_other (b' := gn) (K.out) (by have := LT_N.out; omega) 2 (.int .i64 num))
        replace N : Hid ((w10.setCell ⟨gn, 2, none⟩ (.int .i64 num)).heap[gn]? = some (.cells #[.int .i64 x, .int .i64 y, .int .i64 num] 59)) := Lib.hid (blk_set (N.out) 2 (.int .i64 num))
        replace NN := Lib.hid (Bset1 (NN.out) (show w.heap.size ≤ gn by have := LT_N.out; omega) 2 (.int .i64 num))
        exact ⟨⟨3, x, y, num, by omega, by go_num, Lib.hid (fun h => HX.out (by decide)), Lib.hid (fun h => HY.out (by decide)), Lib.hid (fun h => PN.out), NN, K, N⟩, by simp [intOf]⟩
      have hx := HX.out (by decide)
      have hy := HY.out (by decide)
      have hz := HZ.out (by decide)
      clear HX HY HZ
      have U2 : Hid (∀ n i d, chkB n i d = true → textX n i d = l → chkE x y z = 0 ∧ txR x y z = l) := Lib.hid (fun n i d v h => by
        obtain ⟨_, a, b, c⟩ := UN.out n i d v h
        obtain ⟨p, q, r⟩ := val_itoa v
        rw [a, hx] at p
        rw [b, hy] at q
        rw [c, hz] at r
        cases p; cases q; cases r
        exact ⟨chkE_yes v, by unfold txR; rw [if_pos v]; exact h⟩)
      have TC := Lib.hid (fun W (h : GL W) => text_calls x y z W h)
      have OKR := Lib.hid (fun (h1 : chkE x y z = 0) (h2 : txR x y z = l) => PX.some h1 h2)
      clear hx hy hz UN
      obtain ⟨tx, htx⟩ : ∃ t, txR x y z = t := ⟨_, rfl⟩
      obtain ⟨er, her⟩ : ∃ t, chkE x y z = t := ⟨_, rfl⟩
      rw [htx, her] at TC OKR U2
      clear htx her
      have c_N_0 := blk_cell N.out 0 _ rfl
      have f_N_0 := blk_frozen N.out 0
      have c_N_1 := blk_cell N.out 1 _ rfl
      have f_N_1 := blk_frozen N.out 1
      have c_N_2 := blk_cell N.out 2 _ rfl
      have f_N_2 := blk_frozen N.out 2
      have l_N := blk_lt N.out
      go_wp2_with fail
      clear c_N_0 f_N_0 c_N_1 f_N_1 c_N_2 f_N_2 l_N
      have HB : Hid (Below wr.heap.size wr (wr.alloc (.cells #[.int .i64 x, .int .i64 y, .int .i64 z] 23))) := Lib.hid (Bal (Below.refl _ _) _)
      have B := Lib.hid (blk_new wr (.cells #[.int .i64 x, .int .i64 y, .int .i64 z] 23))
      have LT_B : Hid (w.heap.size < wr.heap.size ∧ gn < wr.heap.size ∧ w.heap.size ≤ wr.heap.size) := Lib.hid ⟨blk_lt K.out, blk_lt N.out, NN.out.size⟩
      replace NN := Lib.hid (Bgo NN.out HB.out)
      replace K := Lib.hid (blk_next HB.out K.out)
      replace N := Lib.hid (blk_next HB.out N.out)
      clear HB
      generalize wr.alloc (.cells #[.int .i64 x, .int .i64 y, .int .i64 z] 23) = W12 at *
      generalize wr.heap.size = gb at *
      refine (TC.out _ (GG.out.next NN.out)).mono ?_
      rintro e w13 ⟨rfl, hb⟩
      replace NN := Lib.hid (Bgo NN.out hb)
      replace K := Lib.hid (blk_next hb K.out)
      replace N := Lib.hid (blk_next hb N.out)
      replace B := Lib.hid (blk_next hb B.out)
      clear hb TC
      obtain ⟨hb1, hb2, hb3⟩ := LT_B.out
      by_cases ez : er = 0
      rotate_left
      · have ez' : (er != 0) = true := by rw [bne_iff_ne]; exact ez
        have NO := Lib.hid (PX.none (l := l) (fun n i d v h => ez (U2.out n i d v h).1))
        clear U2 OKR ez
        have c_K_0 := blk_cell K.out 0 _ rfl
        have f_K_0 := blk_frozen K.out 0
        have c_K_1 := blk_cell K.out 1 _ rfl
        have f_K_1 := blk_frozen K.out 1
        have c_K_2 := blk_cell K.out 2 _ rfl
        have f_K_2 := blk_frozen K.out 2
        have l_K := blk_lt K.out
        go_wp2_with fail
        clear c_K_0 f_K_0 c_K_1 f_K_1 c_K_2 f_K_2 l_K
        have e0 := blk_cell (blk_set (blk_set (blk_set (K.out) 0 (.int .i64 0)) 1 (.int .i64 0)) 2 (.int .i64 0)) 0 _ rfl
        have e1 := blk_cell (blk_set (blk_set (blk_set (K.out) 0 (.int .i64 0)) 1 (.int .i64 0)) 2 (.int .i64 0)) 1 _ rfl
        have e2 := blk_cell (blk_set (blk_set (blk_set (K.out) 0 (.int .i64 0)) 1 (.int .i64 0)) 2 (.int .i64 0)) 2 _ rfl
        exact bodyPost_ret (v := Rv 0 0 0 12) (by simp [results, Tryd.results12, go_sem, e0, e1, e2]) rfl ⟨_, _, _, _, rfl, NO.out, Bset1 (Bset1 (Bset1 (NN.out) (by have := LT_K.out; omega) _ _) (by have := LT_K.out; omega) _ _) (by have := LT_K.out; omega) _ _⟩
      subst ez
      by_cases et : tx = l
      rotate_left
      · have et' : (tx == s.toList) = false := by rw [TL.out, beq_eq_false_iff_ne]; exact et
        have NO := Lib.hid (PX.none (l := l) (fun n i d v h => et (U2.out n i d v h).2))
        clear U2 OKR et
        have c_K_0 := blk_cell K.out 0 _ rfl
        have f_K_0 := blk_frozen K.out 0
        have c_K_1 := blk_cell K.out 1 _ rfl
        have f_K_1 := blk_frozen K.out 1
        have c_K_2 := blk_cell K.out 2 _ rfl
        have f_K_2 := blk_frozen K.out 2
        have l_K := blk_lt K.out
        go_wp2_with fail
        clear c_K_0 f_K_0 c_K_1 f_K_1 c_K_2 f_K_2 l_K
        have e0 := blk_cell (blk_set (blk_set (blk_set (K.out) 0 (.int .i64 0)) 1 (.int .i64 0)) 2 (.int .i64 0)) 0 _ rfl
        have e1 := blk_cell (blk_set (blk_set (blk_set (K.out) 0 (.int .i64 0)) 1 (.int .i64 0)) 2 (.int .i64 0)) 1 _ rfl
        have e2 := blk_cell (blk_set (blk_set (blk_set (K.out) 0 (.int .i64 0)) 1 (.int .i64 0)) 2 (.int .i64 0)) 2 _ rfl
        exact bodyPost_ret (v := Rv 0 0 0 12) (by simp [results, Tryd.results12, go_sem, e0, e1, e2]) rfl ⟨_, _, _, _, rfl, NO.out, Bset1 (Bset1 (Bset1 (NN.out) (by have := LT_K.out; omega) _ _) (by have := LT_K.out; omega) _ _) (by have := LT_K.out; omega) _ _⟩
      have NO := Lib.hid (OKR.out rfl et)
      have et' : (tx == s.toList) = true := by rw [TL.out, et]; exact beq_self_eq_true _
      clear U2 OKR et
      have c_K_0 := blk_cell K.out 0 _ rfl
      have f_K_0 := blk_frozen K.out 0
      have c_K_1 := blk_cell K.out 1 _ rfl
      have f_K_1 := blk_frozen K.out 1
      have c_K_2 := blk_cell K.out 2 _ rfl
      have f_K_2 := blk_frozen K.out 2
      have l_K := blk_lt K.out
      have c_B_0 := blk_cell B.out 0 _ rfl
      have f_B_0 := blk_frozen B.out 0
      have c_B_1 := blk_cell B.out 1 _ rfl
      have f_B_1 := blk_frozen B.out 1
      have c_B_2 := blk_cell B.out 2 _ rfl
      have f_B_2 := blk_frozen B.out 2
      have l_B := blk_lt B.out
      go_wp2_with fail
      clear c_K_0 f_K_0 c_K_1 f_K_1 c_K_2 f_K_2 l_K c_B_0 f_B_0 c_B_1 f_B_1 c_B_2 f_B_2 l_B
      have e0 := blk_cell (blk_set (blk_set (blk_set (K.out) 0 (.int .i64 x)) 1 (.int .i64 y)) 2 (.int .i64 z)) 0 _ rfl
      have e1 := blk_cell (blk_set (blk_set (blk_set (K.out) 0 (.int .i64 x)) 1 (.int .i64 y)) 2 (.int .i64 z)) 1 _ rfl
      have e2 := blk_cell (blk_set (blk_set (blk_set (K.out) 0 (.int .i64 x)) 1 (.int .i64 y)) 2 (.int .i64 z)) 2 _ rfl
      exact bodyPost_ret (v := Rv x y z 0) (by simp [results, Tryd.results12, go_sem, e0, e1, e2]) rfl ⟨_, _, _, _, rfl, NO.out, Bset1 (Bset1 (Bset1 (NN.out) (by have := LT_K.out; omega) _ _) (by have := LT_K.out; omega) _ _) (by have := LT_K.out; omega) _ _⟩
  · have z := 0
    rw [if_pos rfl] at hl3
    subst hl3
    clear HLC
    go_wp2_with fail
    refine (C2.out _ (GG.out.next NN.out)).mono ?_
    rintro e w14 ⟨rfl, hb⟩
    replace NN := Lib.hid (Bgo NN.out hb)
    replace K := Lib.hid (blk_next hb K.out)
    clear hb
    cases g
    · have NO := Lib.hid (PX.none (l := l) (fun n i d v h => by have := (UN.out n i d v h).1; cases this))
      have c_K_0 := blk_cell K.out 0 _ rfl
      have f_K_0 := blk_frozen K.out 0
      have c_K_1 := blk_cell K.out 1 _ rfl
      have f_K_1 := blk_frozen K.out 1
      have c_K_2 := blk_cell K.out 2 _ rfl
      have f_K_2 := blk_frozen K.out 2
      have l_K := blk_lt K.out
      go_wp2_with fail
      clear c_K_0 f_K_0 c_K_1 f_K_1 c_K_2 f_K_2 l_K
      have e0 := blk_cell (blk_set (blk_set (blk_set (K.out) 0 (.int .i64 0)) 1 (.int .i64 0)) 2 (.int .i64 0)) 0 _ rfl
      have e1 := blk_cell (blk_set (blk_set (blk_set (K.out) 0 (.int .i64 0)) 1 (.int .i64 0)) 2 (.int .i64 0)) 1 _ rfl
      have e2 := blk_cell (blk_set (blk_set (blk_set (K.out) 0 (.int .i64 0)) 1 (.int .i64 0)) 2 (.int .i64 0)) 2 _ rfl
      exact bodyPost_ret (v := Rv 0 0 0 12) (by simp [results, Tryd.results12, go_sem, e0, e1, e2]) rfl ⟨_, _, _, _, rfl, NO.out, Bset1 (Bset1 (Bset1 (NN.out) (by have := LT_K.out; omega) _ _) (by have := LT_K.out; omega) _ _) (by have := LT_K.out; omega) _ _⟩
    have i0 := ix0 (Str la) (Str lb) (Str ld)
    have i1 := ix1 (Str la) (Str lb) (Str ld)
    have i2 := ix2 (Str la) (Str lb) (Str ld)
    go_wp2_with fail
    have HB : Hid (Below w14.heap.size w14 (w14.alloc (.cells #[.int .i64 0, .int .i64 0, .int .i64 0] 59))) := Lib.hid (Bal (Below.refl _ _) _)
    have N := Lib.hid (blk_new w14 (.cells #[.int .i64 0, .int .i64 0, .int .i64 0] 59))
    have LT_N : Hid (w.heap.size < w14.heap.size ∧ w.heap.size ≤ w14.heap.size) := Lib.hid ⟨blk_lt K.out, NN.out.size⟩
    replace NN := Lib.hid (Bgo NN.out HB.out)
    replace K := Lib.hid (blk_next HB.out K.out)
    clear HB
    generalize w14.alloc (.cells #[.int .i64 0, .int .i64 0, .int .i64 0] 59) = W15 at *
    generalize w14.heap.size = gn at *
    go_loopw [43] (fun i wr => ∃ (k : Nat) (x y z : Int), k ≤ 3 ∧ i = .int .i64 k ∧ Hid (1 ≤ k → Lib.parseIntB 64 la = .ok x) ∧ Hid (2 ≤ k → Lib.parseIntB 64 lb = .ok y) ∧ Hid (3 ≤ k → Lib.parseIntB 64 ld = .ok z) ∧ Hid (Below w.heap.size w wr) ∧ Hid (wr.heap[w.heap.size]? = some (.cells #[.int .i64 0, .int .i64 0, .int .i64 0] 23)) ∧ Hid (wr.heap[gn]? = some (.cells #[.int .i64 x, .int .i64 y, .int .i64 z] 59))) (fun i _ => 3 - (intOf i).toNat)
    case atStart => exact ⟨0, 0, 0, 0, by omega, rfl, Lib.hid (fun h => by omega), Lib.hid (fun h => by omega), Lib.hid (fun h => by omega), NN, K, N⟩
    case round =>
      clear NN K N
      obtain ⟨k, x, y, z, hk, rfl, HX, HY, HZ, NN, K, N⟩ := hrel
      obtain ⟨hn1, hn2⟩ := LT_N.out
      have hk4 : k = 0 ∨ k = 1 ∨ k = 2 ∨ k = 3 := by omega
      rcases hk4 with rfl | rfl | rfl | rfl
      · have zz := 0
        go_wp2_with fail
        refine (P0.out _ (GG.out.next NN.out)).mono ?_
        rintro e w16 (⟨num, pn, m1, m2, rfl, hb⟩ | ⟨pn, v2, t2, p2, rfl, hb⟩)
        rotate_left
        · have NO := Lib.hid (PX.none (l := l) (fun n i d v h => by
            have q := UN.out n i d v h
            have q2 := (val_itoa v).1
            rw [q.2.1] at q2
            exact pn _ q2))
          replace NN := Lib.hid (Bgo NN.out hb)
          replace K := Lib.hid (blk_next hb K.out)
          replace N := Lib.hid (blk_next hb N.out)
          clear hb pn
          have c_K_0 := blk_cell K.out 0 _ rfl
          have f_K_0 := blk_frozen K.out 0
          have c_K_1 := blk_cell K.out 1 _ rfl
          have f_K_1 := blk_frozen K.out 1
          have c_K_2 := blk_cell K.out 2 _ rfl
          have f_K_2 := blk_frozen K.out 2
          have l_K := blk_lt K.out
          go_wp2_with fail
          clear c_K_0 f_K_0 c_K_1 f_K_1 c_K_2 f_K_2 l_K
          have e0 := blk_cell (blk_set (blk_set (blk_set (K.out) 0 (.int .i64 0)) 1 (.int .i64 0)) 2 (.int .i64 0)) 0 _ rfl
          have e1 := blk_cell (blk_set (blk_set (blk_set (K.out) 0 (.int .i64 0)) 1 (.int .i64 0)) 2 (.int .i64 0)) 1 _ rfl
          have e2 := blk_cell (blk_set (blk_set (blk_set (K.out) 0 (.int .i64 0)) 1 (.int .i64 0)) 2 (.int .i64 0)) 2 _ rfl
          exact bodyPost_ret (v := Rv 0 0 0 12) (by simp [results, Tryd.results12, go_sem, e0, e1, e2]) rfl ⟨_, _, _, _, rfl, NO.out, Bset1 (Bset1 (Bset1 (NN.out) (by have := LT_K.out; omega) _ _) (by have := LT_K.out; omega) _ _) (by have := LT_K.out; omega) _ _⟩
        replace NN := Lib.hid (Bgo NN.out hb)
        replace K := Lib.hid (blk_next hb K.out)
        replace N := Lib.hid (blk_next hb N.out)
        clear hb
        have PN := Lib.hid pn
        clear pn
        have c_N_0 := blk_cell N.out 0 _ rfl
        have f_N_0 := blk_frozen N.out 0
        have c_N_1 := blk_cell N.out 1 _ rfl
        have f_N_1 := blk_frozen N.out 1
        have c_N_2 := blk_cell N.out 2 _ rfl
        have f_N_2 := blk_frozen N.out 2
        have l_N := blk_lt N.out
        go_wp2_with fail
        clear c_N_0 f_N_0 c_N_1 f_N_1 c_N_2 f_N_2 l_N
        replace K : Hid ((w16.setCell ⟨gn, 0, none⟩ (.int .i64 num)).heap[w.heap.size]? = some (.cells #[.int .i64 0, .int .i64 0, .int .i64 0] 23)) := Lib.hid (blk_set_other (b' := gn) (K.out) (by have := LT_N.out; omega) 0 (.int .i64 num))
        replace N : Hid ((w16.setCell ⟨gn, 0, none⟩ (.int .i64 num)).heap[gn]? = some (.cells #[.int .i64 num, .int .i64 y, .int .i64 z] 59)) := Lib.hid (blk_set (N.out) 0 (.int .i64 num))
        replace NN := Lib.hid (Bset1 (NN.out) (show w.heap.size ≤ gn by have := LT_N.out; omega) 0 (.int .i64 num))
        exact ⟨⟨1, num, y, z, by omega, by go_num, Lib.hid (fun h => PN.out), Lib.hid (fun h => by omega), Lib.hid (fun h => by omega), NN, K, N⟩, by simp [intOf]⟩
      · have zz := 0
        go_wp2_with fail
        refine (P1.out _ (GG.out.next NN.out)).mono ?_
        rintro e w18 (⟨num, pn, m1, m2, rfl, hb⟩ | ⟨pn, v2, t2, p2, rfl, hb⟩)
        rotate_left
        · have NO := Lib.hid (PX.none (l := l) (fun n i d v h => by
            have q := UN.out n i d v h
            have q2 := (val_itoa v).2.1
            rw [q.2.2.1] at q2
            exact pn _ q2))
          replace NN := Lib.hid (Bgo NN.out hb)
          replace K := Lib.hid (blk_next hb K.out)
          replace N := Lib.hid (blk_next hb N.out)
          clear hb pn
          have c_K_0 := blk_cell K.out 0 _ rfl
          have f_K_0 := blk_frozen K.out 0
          have c_K_1 := blk_cell K.out 1 _ rfl
          have f_K_1 := blk_frozen K.out 1
          have c_K_2 := blk_cell K.out 2 _ rfl
          have f_K_2 := blk_frozen K.out 2
          have l_K := blk_lt K.out
          go_wp2_with fail
          clear c_K_0 f_K_0 c_K_1 f_K_1 c_K_2 f_K_2 l_K
          have e0 := blk_cell (blk_set (blk_set (blk_set (K.out) 0 (.int .i64 0)) 1 (.int .i64 0)) 2 (.int .i64 0)) 0 _ rfl
          have e1 := blk_cell (blk_set (blk_set (blk_set (K.out) 0 (.int .i64 0)) 1 (.int .i64 0)) 2 (.int .i64 0)) 1 _ rfl
          have e2 := blk_cell (blk_set (blk_set (blk_set (K.out) 0 (.int .i64 0)) 1 (.int .i64 0)) 2 (.int .i64 0)) 2 _ rfl
          exact bodyPost_ret (v := Rv 0 0 0 12) (by simp [results, Tryd.results12, go_sem, e0, e1, e2]) rfl ⟨_, _, _, _, rfl, NO.out, Bset1 (Bset1 (Bset1 (NN.out) (by have := LT_K.out; omega) _ _) (by have := LT_K.out; omega) _ _) (by have := LT_K.out; omega) _ _⟩
        replace NN := Lib.hid (Bgo NN.out hb)
        replace K := Lib.hid (blk_next hb K.out)
        replace N := Lib.hid (blk_next hb N.out)
        clear hb
        have PN := Lib.hid pn
        clear pn
        have c_N_0 := blk_cell N.out 0 _ rfl
        have f_N_0 := blk_frozen N.out 0
        have c_N_1 := blk_cell N.out 1 _ rfl
        have f_N_1 := blk_frozen N.out 1
        have c_N_2 := blk_cell N.out 2 _ rfl
        have f_N_2 := blk_frozen N.out 2
        have l_N := blk_lt N.out
        go_wp2_with fail
        clear c_N_0 f_N_0 c_N_1 f_N_1 c_N_2 f_N_2 l_N
        replace K : Hid ((w18.setCell ⟨gn, 1, none⟩ (.int .i64 num)).heap[w.heap.size]? = some (.cells #[.int .i64 0, .int .i64 0, .int .i64 0] 23)) := Lib.hid (blk_set_other (b' := gn) (K.out) (by have := LT_N.out; omega) 1 (.int .i64 num))
        replace N : Hid ((w18.setCell ⟨gn, 1, none⟩ (.int .i64 num)).heap[gn]? = some (.cells #[.int .i64 x, .int .i64 num, .int .i64 z] 59)) := Lib.hid (blk_set (N.out) 1 (.int .i64 num))
        replace NN := Lib.hid (Bset1 (NN.out) (show w.heap.size ≤ gn by have := LT_N.out; omega) 1 (.int .i64 num))
        exact ⟨⟨2, x, num, z, by omega, by go_num, Lib.hid (fun h => HX.out (by decide)), Lib.hid (fun h => PN.out), Lib.hid (fun h => by omega), NN, K, N⟩, by simp [intOf]⟩
      · have zz := 0
        go_wp2_with fail
        refine (P2.out _ (GG.out.next NN.out)).mono ?_
        rintro e w20 (⟨num, pn, m1, m2, rfl, hb⟩ | ⟨pn, v2, t2, p2, rfl, hb⟩)
        rotate_left
        · have NO := Lib.hid (PX.none (l := l) (fun n i d v h => by
            have q := UN.out n i d v h
            have q2 := (val_itoa v).2.2
            rw [q.2.2.2] at q2
            exact pn _ q2))
          replace NN := Lib.hid (Bgo NN.out hb)
          replace K := Lib.hid (blk_next hb K.out)
          replace N := Lib.hid (blk_next hb N.out)
          clear hb pn
          have c_K_0 := blk_cell K.out 0 _ rfl
          have f_K_0 := blk_frozen K.out 0
          have c_K_1 := blk_cell K.out 1 _ rfl
          have f_K_1 := blk_frozen K.out 1
          have c_K_2 := blk_cell K.out 2 _ rfl
          have f_K_2 := blk_frozen K.out 2
          have l_K := blk_lt K.out
          go_wp2_with fail
          clear c_K_0 f_K_0 c_K_1 f_K_1 c_K_2 f_K_2 l_K
          have e0 := blk_cell (blk_set (blk_set (blk_set (K.out) 0 (.int .i64 0)) 1 (.int .i64 0)) 2 (.int .i64 0)) 0 _ rfl
          have e1 := blk_cell (blk_set (blk_set (blk_set (K.out) 0 (.int .i64 0)) 1 (.int .i64 0)) 2 (.int .i64 0)) 1 _ rfl
          have e2 := blk_cell (blk_set (blk_set (blk_set (K.out) 0 (.int .i64 0)) 1 (.int .i64 0)) 2 (.int .i64 0)) 2 _ rfl
          exact bodyPost_ret (v := Rv 0 0 0 12) (by simp [results, Tryd.results12, go_sem, e0, e1, e2]) rfl ⟨_, _, _, _, rfl, NO.out, Bset1 (Bset1 (Bset1 (NN.out) (by have := LT_K.out; omega) _ _) (by have := LT_K.out; omega) _ _) (by have := LT_K.out; omega) _ _⟩
        replace NN := Lib.hid (Bgo NN.out hb)
        replace K := Lib.hid (blk_next hb K.out)
        replace N := Lib.hid (blk_next hb N.out)
        clear hb
        have PN := Lib.hid pn
        clear pn
        have c_N_0 := blk_cell N.out 0 _ rfl
        have f_N_0 := blk_frozen N.out 0
        have c_N_1 := blk_cell N.out 1 _ rfl
        have f_N_1 := blk_frozen N.out 1
        have c_N_2 := blk_cell N.out 2 _ rfl
        have f_N_2 := blk_frozen N.out 2
        have l_N := blk_lt N.out
        go_wp2_with fail
        clear c_N_0 f_N_0 c_N_1 f_N_1 c_N_2 f_N_2 l_N
        replace K : Hid ((w20.setCell ⟨gn, 2, none⟩ (.int .i64 num)).heap[w.heap.size]? = some (.cells #[.int .i64 0, .int .i64 0, .int .i64 0] 23)) := Lib.hid (blk_set_other (b' := gn) (K.out) (by have := LT_N.out; omega) 2 (.int .i64 num))
        replace N : Hid ((w20.setCell ⟨gn, 2, none⟩ (.int .i64 num)).heap[gn]? = some (.cells #[.int .i64 x, .int .i64 y, .int .i64 num] 59)) := Lib.hid (blk_set (N.out) 2 (.int .i64 num))
        replace NN := Lib.hid (Bset1 (NN.out) (show w.heap.size ≤ gn by have := LT_N.out; omega) 2 (.int .i64 num))
        exact ⟨⟨3, x, y, num, by omega, by go_num, Lib.hid (fun h => HX.out (by decide)), Lib.hid (fun h => HY.out (by decide)), Lib.hid (fun h => PN.out), NN, K, N⟩, by simp [intOf]⟩
      have hx := HX.out (by decide)
      have hy := HY.out (by decide)
      have hz := HZ.out (by decide)
      clear HX HY HZ
      have U2 : Hid (∀ n i d, chkB n i d = true → textX n i d = l → chkE x y z = 0 ∧ txR x y z = l) := Lib.hid (fun n i d v h => by
        obtain ⟨_, a, b, c⟩ := UN.out n i d v h
        obtain ⟨p, q, r⟩ := val_itoa v
        rw [a, hx] at p
        rw [b, hy] at q
        rw [c, hz] at r
        cases p; cases q; cases r
        exact ⟨chkE_yes v, by unfold txR; rw [if_pos v]; exact h⟩)
      have TC := Lib.hid (fun W (h : GL W) => text_calls x y z W h)
      have OKR := Lib.hid (fun (h1 : chkE x y z = 0) (h2 : txR x y z = l) => PX.some h1 h2)
      clear hx hy hz UN
      obtain ⟨tx, htx⟩ : ∃ t, txR x y z = t := ⟨_, rfl⟩
      obtain ⟨er, her⟩ : ∃ t, chkE x y z = t := ⟨_, rfl⟩
      rw [htx, her] at TC OKR U2
      clear htx her
      have c_N_0 := blk_cell N.out 0 _ rfl
      have f_N_0 := blk_frozen N.out 0
      have c_N_1 := blk_cell N.out 1 _ rfl
      have f_N_1 := blk_frozen N.out 1
      have c_N_2 := blk_cell N.out 2 _ rfl
      have f_N_2 := blk_frozen N.out 2
      have l_N := blk_lt N.out
      go_wp2_with fail
      clear c_N_0 f_N_0 c_N_1 f_N_1 c_N_2 f_N_2 l_N
      have HB : Hid (Below wr.heap.size wr (wr.alloc (.cells #[.int .i64 x, .int .i64 y, .int .i64 z] 23))) := Lib.hid (Bal (Below.refl _ _) _)
      have B := Lib.hid (blk_new wr (.cells #[.int .i64 x, .int .i64 y, .int .i64 z] 23))
      have LT_B : Hid (w.heap.size < wr.heap.size ∧ gn < wr.heap.size ∧ w.heap.size ≤ wr.heap.size) := Lib.hid ⟨blk_lt K.out, blk_lt N.out, NN.out.size⟩
      replace NN := Lib.hid (Bgo NN.out HB.out)
      replace K := Lib.hid (blk_next HB.out K.out)
      replace N := Lib.hid (blk_next HB.out N.out)
      clear HB
      generalize wr.alloc (.cells #[.int .i64 x, .int .i64 y, .int .i64 z] 23) = W22 at *
      generalize wr.heap.size = gb at *
      refine (TC.out _ (GG.out.next NN.out)).mono ?_
      rintro e w23 ⟨rfl, hb⟩
      replace NN := Lib.hid (Bgo NN.out hb)
      replace K := Lib.hid (blk_next hb K.out)
      replace N := Lib.hid (blk_next hb N.out)
      replace B := Lib.hid (blk_next hb B.out)
      clear hb TC
      obtain ⟨hb1, hb2, hb3⟩ := LT_B.out
      by_cases ez : er = 0
      rotate_left
      · have ez' : (er != 0) = true := by rw [bne_iff_ne]; exact ez
        have NO := Lib.hid (PX.none (l := l) (fun n i d v h => ez (U2.out n i d v h).1))
        clear U2 OKR ez
        have c_K_0 := blk_cell K.out 0 _ rfl
        have f_K_0 := blk_frozen K.out 0
        have c_K_1 := blk_cell K.out 1 _ rfl
        have f_K_1 := blk_frozen K.out 1
        have c_K_2 := blk_cell K.out 2 _ rfl
        have f_K_2 := blk_frozen K.out 2
        have l_K := blk_lt K.out
        go_wp2_with fail
        clear c_K_0 f_K_0 c_K_1 f_K_1 c_K_2 f_K_2 l_K
        have e0 := blk_cell (blk_set (blk_set (blk_set (K.out) 0 (.int .i64 0)) 1 (.int .i64 0)) 2 (.int .i64 0)) 0 _ rfl
        have e1 := blk_cell (blk_set (blk_set (blk_set (K.out) 0 (.int .i64 0)) 1 (.int .i64 0)) 2 (.int .i64 0)) 1 _ rfl
        have e2 := blk_cell (blk_set (blk_set (blk_set (K.out) 0 (.int .i64 0)) 1 (.int .i64 0)) 2 (.int .i64 0)) 2 _ rfl
        exact bodyPost_ret (v := Rv 0 0 0 12) (by simp [results, Tryd.results12, go_sem, e0, e1, e2]) rfl ⟨_, _, _, _, rfl, NO.out, Bset1 (Bset1 (Bset1 (NN.out) (by have := LT_K.out; omega) _ _) (by have := LT_K.out; omega) _ _) (by have := LT_K.out; omega) _ _⟩
      subst ez
      by_cases et : tx = l
      rotate_left
      · have et' : (tx == s.toList) = false := by rw [TL.out, beq_eq_false_iff_ne]; exact et
        have NO := Lib.hid (PX.none (l := l) (fun n i d v h => et (U2.out n i d v h).2))
        clear U2 OKR et
        have c_K_0 := blk_cell K.out 0 _ rfl
        have f_K_0 := blk_frozen K.out 0
        have c_K_1 := blk_cell K.out 1 _ rfl
        have f_K_1 := blk_frozen K.out 1
        have c_K_2 := blk_cell K.out 2 _ rfl
        have f_K_2 := blk_frozen K.out 2
        have l_K := blk_lt K.out
        go_wp2_with fail
        clear c_K_0 f_K_0 c_K_1 f_K_1 c_K_2 f_K_2 l_K
        have e0 := blk_cell (blk_set (blk_set (blk_set (K.out) 0 (.int .i64 0)) 1 (.int .i64 0)) 2 (.int .i64 0)) 0 _ rfl
        have e1 := blk_cell (blk_set (blk_set (blk_set (K.out) 0 (.int .i64 0)) 1 (.int .i64 0)) 2 (.int .i64 0)) 1 _ rfl
        have e2 := blk_cell (blk_set (blk_set (blk_set (K.out) 0 (.int .i64 0)) 1 (.int .i64 0)) 2 (.int .i64 0)) 2 _ rfl
        exact bodyPost_ret (v := Rv 0 0 0 12) (by simp [results, Tryd.results12, go_sem, e0, e1, e2]) rfl ⟨_, _, _, _, rfl, NO.out, Bset1 (Bset1 (Bset1 (NN.out) (by have := LT_K.out; omega) _ _) (by have := LT_K.out; omega) _ _) (by have := LT_K.out; omega) _ _⟩
      have NO := Lib.hid (OKR.out rfl et)
      have et' : (tx == s.toList) = true := by rw [TL.out, et]; exact beq_self_eq_true _
      clear U2 OKR et
      have c_K_0 := blk_cell K.out 0 _ rfl
      have f_K_0 := blk_frozen K.out 0
      have c_K_1 := blk_cell K.out 1 _ rfl
      have f_K_1 := blk_frozen K.out 1
      have c_K_2 := blk_cell K.out 2 _ rfl
      have f_K_2 := blk_frozen K.out 2
      have l_K := blk_lt K.out
      have c_B_0 := blk_cell B.out 0 _ rfl
      have f_B_0 := blk_frozen B.out 0
      have c_B_1 := blk_cell B.out 1 _ rfl
      have f_B_1 := blk_frozen B.out 1
      have c_B_2 := blk_cell B.out 2 _ rfl
      have f_B_2 := blk_frozen B.out 2
      have l_B := blk_lt B.out
      go_wp2_with fail
      clear c_K_0 f_K_0 c_K_1 f_K_1 c_K_2 f_K_2 l_K c_B_0 f_B_0 c_B_1 f_B_1 c_B_2 f_B_2 l_B
      have e0 := blk_cell (blk_set (blk_set (blk_set (K.out) 0 (.int .i64 x)) 1 (.int .i64 y)) 2 (.int .i64 z)) 0 _ rfl
      have e1 := blk_cell (blk_set (blk_set (blk_set (K.out) 0 (.int .i64 x)) 1 (.int .i64 y)) 2 (.int .i64 z)) 1 _ rfl
      have e2 := blk_cell (blk_set (blk_set (blk_set (K.out) 0 (.int .i64 x)) 1 (.int .i64 y)) 2 (.int .i64 z)) 2 _ rfl
      exact bodyPost_ret (v := Rv x y z 0) (by simp [results, Tryd.results12, go_sem, e0, e1, e2]) rfl ⟨_, _, _, _, rfl, NO.out, Bset1 (Bset1 (Bset1 (NN.out) (by have := LT_K.out; omega) _ _) (by have := LT_K.out; omega) _ _) (by have := LT_K.out; omega) _ _⟩
end Go.Proofs.YtbbjclbpllfdeaaDoor
