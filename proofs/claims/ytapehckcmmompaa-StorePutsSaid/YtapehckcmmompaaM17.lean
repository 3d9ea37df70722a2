/- Several texts in one. -/
import Derived.Test.YtapehckcmmompaaM16
namespace Go.Proofs.Ytapehckcmmompaa
open Go.ChangeShapes Go.WideShapes Go.ChangeAt Go.RowKit
set_option linter.unusedVariables false
set_option maxRecDepth 100000
attribute [local go_sem ↓] Go.wp_at_zero Go.wp_at_succ
def strTo (ds : List Dk) (k n : Nat) : List (List Nat) := ds.mapIdx fun i x => if i < n ∧ x.failed = false then x.blocks.getD k [] else []
theorem strTo_len (ds : List Dk) (k n : Nat) : (strTo ds k n).length = ds.length := by simp [strTo]
theorem strTo_get {ds : List Dk} {k n i : Nat} {x : Dk} (h : ds[i]? = some x) : (strTo ds k n)[i]? = some (if i < n ∧ x.failed = false then x.blocks.getD k [] else []) := by simp [strTo, h]
theorem strTo_all (ds : List Dk) (k : Nat) : strTo ds k ds.length = strp ds k := by
  refine List.ext_getElem? fun i => ?_
  cases h : ds[i]? with
  | none => simp [strTo, strp, h]
  | some x =>
    rw [strTo_get h, strp_get h]
    cases e : x.failed <;> simp [get_lt h]
theorem strTo_skip {ds : List Dk} {k n : Nat} {x : Dk} (h : ds[n]? = some x) (hf : x.failed = true) : strTo ds k (n + 1) = strTo ds k n := by
  refine List.ext_getElem? fun i => ?_
  cases h' : ds[i]? with
  | none => simp [strTo, h']
  | some y =>
    rw [strTo_get h', strTo_get h']
    by_cases e : i = n
    · subst e; rw [h] at h'; cases h'; simp [hf]
    · have : i < n + 1 ↔ i < n := by omega
      simp only [this]
theorem strTo_step {ds : List Dk} {k n : Nat} {x : Dk} (h : ds[n]? = some x) (hf : x.failed = false) : strTo ds k (n + 1) = (strTo ds k n).set n (x.blocks.getD k []) := by
  refine List.ext_getElem? fun i => ?_
  rw [List.getElem?_set, strTo_len]
  by_cases e : n = i
  · subst e
    rw [if_pos rfl, if_pos (get_lt h), strTo_get h]; simp [hf]
  · rw [if_neg e]
    cases h' : ds[i]? with
    | none => simp [strTo, h']
    | some y =>
      rw [strTo_get h', strTo_get h']
      have : i < n + 1 ↔ i < n := by omega
      simp only [this]
theorem RB.nil (B : Nat) (w : World) : RB B w (.slice none 0 0) [] := ⟨none, 0, rfl, Nat.le_refl _, by omega, Byt.nil, Hd.nil _ _ _⟩
theorem nil_top {B hb : Nat} (W : World) (n : Nat) (h : n ≤ 9223372036854775807) (hB : B ≤ W.heap.size) (he : hb = W.heap.size) : (W.alloc (.cells (madeCells #[.slice none 0 0] n) 26)).ownsRow B 26 1 (.slice (some ⟨hb, 0, none⟩) n n) n (List.replicate n (.slice none 0 0)) := by
  have := (nil_rows_at W n h hB he).top
  rw [List.length_replicate] at this; exact this
set_option maxHeartbeats 16000000 in
theorem stripe_calls (d p : Int) (D A : Option Addr) (cd na ca B : Nat) (st fa : Int) (ds : List Dk) (k : Nat) (w : World) (hnd : ds.length ≤ cd) (hcd : cd ≤ 9223372036854775807) (hd : RD B w D ds)
    (h20 : ds.length ≤ 20) (hk : ∀ x ∈ ds, x.failed = false → k < x.blocks.length) :
    Calls Try.prog 52 #[Hv d p (.slice D ds.length cd) (.slice A na ca) st fa, .int .i64 (k : Int)] w (fun e w' => ∃ v, e = .returned (Sv d p v) ∧ RM 0 w' v (strp ds k) ∧ Below w.heap.size w w') := by
  have HD := Lib.hid hd
  have HK := Lib.hid hk
  have mk := fun W => make_rows W ds.length (by omega)
  clear hd hk
  go_enter Try.func52, Try.ntmps52
  go_upto_region 1 with fail
  go_cut [5] (fun s5 wx => ∃ cb hb : Nat, s5 = .pointer (some ⟨cb, 0, none⟩) ∧ w.heap.size + 1 < cb ∧ w.heap.size + 1 < hb ∧ Hid (Below w.heap.size w wx) ∧ Hid (wx.heap[w.heap.size]? = some (.cells #[.int .i64 d, .int .i64 p, .slice D ds.length cd, .slice A na ca, .int .i64 st, .int .i64 fa] 79)) ∧ Hid (wx.heap[w.heap.size + 1]? = some (.cells #[.int .i64 0, .int .i64 0, .slice none 0 0] 54)) ∧ Hid (wx.heap[cb]? = some (.cells #[.int .i64 d, .int .i64 p, .slice (some ⟨hb, 0, none⟩) ds.length ds.length] 54)) ∧ Hid (wx.ownsRow w.heap.size 26 1 (.slice (some ⟨hb, 0, none⟩) ds.length ds.length) ds.length (List.replicate ds.length (.slice none 0 0))))
  case first =>
    go_region
    all_goals
      go_wp2_with fail
      go_meet
      first
        | (refine ⟨w.heap.size + 1 + 1 + 1, w.heap.size + 1 + 1, rfl, by omega, by omega, Lib.hid ?_, Lib.hid ?_, Lib.hid ?_, Lib.hid ?_, Lib.hid ?_⟩
           · repeat (first | exact Below.refl _ _ | refine Below.drew ?_ | refine Bal ?_ _)
           · exact blk_alloc (blk_alloc (blk_alloc (blk_new w _) _) _) _
           · exact blk_alloc (blk_alloc (blk_at _ (by simp)) _) _
           · exact blk_at _ (by simp)
           · exact own_next (Bal (Below.refl _ _) _).drew (nil_top _ ds.length (by omega) (by simp; omega) (by simp)))
        | (refine ⟨w.heap.size + 1 + 1, w.heap.size + 1 + 1 + 1, rfl, by omega, by omega, Lib.hid ?_, Lib.hid ?_, Lib.hid ?_, Lib.hid ?_, Lib.hid ?_⟩
           · repeat (first | exact Below.refl _ _ | refine Below.drew ?_ | refine Bal ?_ _)
           · exact blk_alloc (blk_alloc (blk_alloc (blk_new w _) _) _) _
           · exact blk_alloc (blk_alloc (blk_at _ (by simp)) _) _
           · exact blk_alloc (blk_at _ (by simp)) _
           · exact own_next (Below.refl _ _).drew (nil_top _ ds.length (by omega) (by simp; omega) (by simp)))
        | trace_state
  case rest =>
    obtain ⟨cb, hb, rfl, hcb, hhb, N0, SB0, X0, Y0, O0⟩ := hcut
    have s2 : wc.cell? ⟨w.heap.size, 2, none⟩ = some (.slice D ds.length cd) := blk_cell SB0.out 2 _ rfl
    go_wp2_with fail
    clear s2
    go_loopw [23] (fun i wr => ∃ (i' : Nat) (us : List Value), i' ≤ ds.length ∧ i = .int .i64 i' ∧ Hid (Below w.heap.size w wr) ∧ Hid (wr.heap[w.heap.size]? = some (.cells #[.int .i64 d, .int .i64 p, .slice D ds.length cd, .slice A na ca, .int .i64 st, .int .i64 fa] 79)) ∧ Hid (wr.heap[w.heap.size + 1]? = some (.cells #[.int .i64 0, .int .i64 0, .slice none 0 0] 54)) ∧ Hid (wr.heap[cb]? = some (.cells #[.int .i64 d, .int .i64 p, .slice (some ⟨hb, 0, none⟩) ds.length ds.length] 54)) ∧ Hid (wr.ownsRow w.heap.size 26 1 (.slice (some ⟨hb, 0, none⟩) ds.length ds.length) ds.length us) ∧ Hid (∀ (j : Nat) (u : Value) (l : List Nat), us[j]? = some u → (strTo ds k i')[j]? = some l → RB 0 w u l)) (fun i _ => ds.length - (intOf i).toNat)
    case atStart => exact ⟨0, _, by omega, rfl, N0, SB0, X0, Y0, O0, Lib.hid (fun j u l hu hl => by
      have e1 := List.eq_of_mem_replicate (List.mem_of_getElem? hu)
      obtain ⟨x, hx⟩ := get_some (show j < ds.length by have := get_lt hl; rw [strTo_len] at this; exact this)
      rw [strTo_get hx] at hl
      simp at hl
      subst e1 hl
      exact RB.nil _ _)⟩
    case round =>
      clear N0 SB0 X0 Y0 O0
      obtain ⟨i, us, hi, rfl, N, SB, X, Y, T, O⟩ := hrel
      have hz : cb < wr.heap.size := blk_lt Y.out
      have hz' := blk_lt SB.out
      by_cases hlt : i < ds.length
      · obtain ⟨dk, hdk⟩ := get_some hlt
        obtain ⟨b, off, Ai, ci, rfl, hb9, c0, c1, h2, h3, hm⟩ := HD.out.at_ hdk
        have HDK := Lib.hid hdk
        have HM := Lib.hid hm
        have s2 : wr.cell? ⟨w.heap.size, 2, none⟩ = some (.slice (some ⟨b, off, none⟩) ds.length cd) := blk_cell SB.out 2 _ rfl
        have y2 := blk_cell Y.out 2 _ rfl
        have c0' := (N.out.cell hb9).trans c0
        have k1 : (0 : Int) ≤ (i : Int) := by omega
        have k2 : (i : Int) < (ds.length : Int) := by omega
        clear hm c0
        by_cases hf : dk.failed = true
        · rw [hf] at c0'
          go_wp2_with fail
          refine ⟨⟨i + 1, us, by omega, by go_num, N, SB, X, Y, T, Lib.hid ?_⟩, by simp [intOf]; omega⟩
          rw [strTo_skip HDK.out hf]; exact O.out
        · have hf' : dk.failed = false := by simpa using hf
          have HF := Lib.hid hf'
          rw [hf'] at c0'
          have hkb := HK.out dk (List.mem_of_getElem? hdk) hf'
          obtain ⟨l, hl⟩ := get_some hkb
          obtain ⟨b2, off2, A3, c3, rfl, hb2, h1', h2', h3', h4⟩ := HM.out.at_ hl
          have HB4 := Lib.hid h4
          have HL := Lib.hid hl
          have c1' := (N.out.cell hb9).trans c1
          have d1' := (N.out.cell hb2).trans h1'
          have j1 : (0 : Int) ≤ (k : Int) := by omega
          have j2 : (k : Int) < (dk.blocks.length : Int) := by omega
          have HK2 : Hid (i < ds.length * 1) := Lib.hid (by omega)
          obtain ⟨u0, hu0⟩ := get_some (show i < us.length by have := T.out.1; omega)
          have c9 : wr.cell? ⟨hb, i, none⟩ = some u0 := (T.out.cellAt i HK2.out).trans hu0
          have f9 : wr.frozen? ⟨hb, i, none⟩ = false := T.out.frozenAt i
          have HNE : Hid (hb ≠ cb) := Lib.hid (fun e => own_ne T.out Y.out ne_sl_st (by rw [e]; rfl))
          have hbz : hb < wr.heap.size := (T.out.lt hb rfl).2
          have hb9' : b < wr.heap.size := by have := N.out.size; omega
          have hb2' : b2 < wr.heap.size := by have := N.out.size; omega
          clear hf hf' hl h4 hdk hu0 c1 h1'
          go_wp2_with fail
          go_region
          all_goals
            go_wp2_with fail
            have st := T.out.stored i (.slice A3 l.length c3)
            refine ⟨⟨i + 1, us.set i (.slice A3 l.length c3), by omega, by go_num, Lib.hid ?_, Lib.hid ?_, Lib.hid ?_, Lib.hid ?_, Lib.hid ?_, Lib.hid ?_⟩, by simp [intOf]; omega⟩
            · first | exact Bset1 N.out (by omega) i _ | exact (Bset1 N.out (by omega) i _).drew
            · exact blk_set_other SB.out (by omega) i _
            · exact blk_set_other X.out (by omega) i _
            · exact blk_set_other Y.out HNE.out i _
            · have h := st.1
              try simp at h
              first | exact h | exact h.drew
            · intro j u l' hu hl'
              rw [strTo_step HDK.out HF.out] at hl'
              rcases set_get hu with ⟨rfl, rfl, _⟩ | ⟨e1, e2⟩
              · rcases set_get hl' with ⟨_, rfl, _⟩ | ⟨e3, _⟩
                · rw [List.getD_eq_getElem?_getD, HL.out, Option.getD_some]
                  exact ⟨_, _, rfl, h2', h3', HB4.out.mono (Nat.zero_le _)⟩
                · exact absurd rfl e3
              · rcases set_get hl' with ⟨e3, _⟩ | ⟨_, e4⟩
                · exact absurd e3 e1
                · exact O.out j u l' e2 e4
      · obtain rfl : i = ds.length := by omega
        have y0 := blk_cell Y.out 0 _ rfl
        have y1 := blk_cell Y.out 1 _ rfl
        have y2 := blk_cell Y.out 2 _ rfl
        have x0 := blk_cell X.out 0 _ rfl
        have fx0 := blk_frozen X.out 0
        have x1 := blk_cell X.out 1 _ rfl
        have fx1 := blk_frozen X.out 1
        have x2 := blk_cell X.out 2 _ rfl
        have fx2 := blk_frozen X.out 2
        go_wp2_with fail
        have Z := blk_set3 X.out (.int .i64 d) (.int .i64 p) (.slice (some ⟨hb, 0, none⟩) ds.length ds.length)
        have e0 := blk_cell Z 0 _ rfl
        have e1 := blk_cell Z 1 _ rfl
        have e2 := blk_cell Z 2 _ rfl
        have NF := Bset3 N.out (show w.heap.size ≤ w.heap.size + 1 by omega) (.int .i64 d) (.int .i64 p) (.slice (some ⟨hb, 0, none⟩) ds.length ds.length)
        have TF : (set3 wr (w.heap.size + 1) (.int .i64 d) (.int .i64 p) (.slice (some ⟨hb, 0, none⟩) ds.length ds.length)).ownsRow w.heap.size 26 1 (.slice (some ⟨hb, 0, none⟩) ds.length ds.length) ds.length us :=
          own_same T.out fun g cs hg hh => by
            have hne : g ≠ w.heap.size + 1 := fun e => by
              subst e
              rw [X.out] at hh
              injection hh with hh
              injection hh with _ ht _
              exact ne_sl_st ht.symm
            exact ((blk_set3_other hh (fun e => hne e.symm) _ _ _).trans hh.symm)
        rw [strTo_all] at O
        have LN := strp_len ds k
        refine bodyPost_ret (v := Sv d p (.slice (some ⟨hb, 0, none⟩) ds.length ds.length)) (by simp [results, Try.results52, go_sem, e0, e1, e2]) rfl ⟨_, rfl, ⟨some ⟨hb, 0, none⟩, ds.length, by rw [LN], by omega, by omega, us, by rw [LN]; have := T.out.1; omega, (Hd.of_own TF).mono (Nat.zero_le _), fun j u l hu hl => (O.out j u l hu hl).next NF⟩, NF⟩
end Go.Proofs.Ytapehckcmmompaa
