/- Contracts of layer 25: what the library's variables hold; Text of the program. -/
import Derived.Test.YtbbjclbpllfdeaaDoorCta
import Derived.Test.YtbbjclbpllfdeaaDoorCyd
import Derived.Test.YtbbjclbpllfdeaaDoorFrL
import Derived.Test.YtbbjclbpllfdeaaDoorShelf
import Derived.Lib.AtoiErrMem
import Derived.Lib.ParseIntBTie
import Derived.Lib.AppendIntMem
import Derived.Lib.Hide
import Derived.Deep.DrawnRows
import Derived.Outline
import Derived.WalkLawsBesides
import Derived.WalkSpells
import Derived.WalkSmall
namespace Go.Proofs.YtbbjclbpllfdeaaDoor
open Go.ChangeShapes Go.WideShapes Go.ChangeAt Go.RowKit Cxm
set_option linter.unusedVariables false
attribute [local go_sem ↓] Go.wp_at_zero Go.wp_at_succ

theorem var_keep {P : Program} {w w' : World} {n : String} {cs : Array Value} (h : w.var? P n = some cs) (hb : Below w.heap.size w w') : w'.var? P n = some cs := by
  unfold World.var? at h ⊢
  cases hg : P.globalNamed n with
  | none => rw [hg] at h; cases h
  | some g =>
    rw [hg] at h
    simp only [Option.bind_some] at h ⊢
    cases hh : w.heap[g]? with
    | none => rw [hh] at h; cases h
    | some o =>
      rw [hh] at h
      rw [blk_next hb hh]
      exact h
/- what the variables of the library hold -/
structure GL (w : World) : Prop where
  tab : Lib.TabIs Tryd.prog w "internal/strconv.uint64pow10" .u64 Lib.pow10Tab
  syn : ∃ tp p, w.var? Tryd.prog "strconv.ErrSyntax" = some #[.iface tp p]
  ran : ∃ tp p, w.var? Tryd.prog "strconv.ErrRange" = some #[.iface tp p]
  max : ∃ m, w.cell? ⟨1, 0, none⟩ = some (.int .i64 m)
theorem cell_keep {w w' : World} {a : Addr} {v : Value} (h : w.cell? a = some v) (hb : Below w.heap.size w w') : w'.cell? a = some v := by
  have : a.block < w.heap.size := by
    unfold World.cell? at h
    cases hh : w.heap[a.block]? with
    | none => rw [hh] at h; cases h
    | some o => exact blk_lt hh
  exact (hb.cell this).trans h
theorem GL.next {w w' : World} (h : GL w) (hb : Below w.heap.size w w') : GL w' :=
  ⟨var_keep h.tab hb, by obtain ⟨t, p, e⟩ := h.syn; exact ⟨t, p, var_keep e hb⟩, by obtain ⟨t, p, e⟩ := h.ran; exact ⟨t, p, var_keep e hb⟩, by obtain ⟨m, e⟩ := h.max; exact ⟨m, cell_keep e hb⟩⟩
abbrev Str (l : List UInt8) : Value := .string ⟨l.toArray⟩
theorem fmt_calls (n : Int) (w : World) (h1 : -9223372036854775808 ≤ n) (h2 : n ≤ 9223372036854775807) (g : GL w) :
    Calls Tryd.prog 30 #[.int .i64 n, .int .i64 10] w fun e w' => e = .returned (Str (Lib.itoa n)) ∧ Below w.heap.size w w' :=
  (Tryd.strconv_FormatInt_10 n h1 h2 w g.tab).mono fun e w' ⟨h, k, os, hw⟩ => ⟨h, by rw [hw]; exact Lib.below_grow _ _ (Nat.le_refl _) k os⟩
theorem cutS_calls (s : ByteArray) (m : UInt8) (w : World) (hs : s.size < 4294967281) (g : GL w) :
    Calls Tryd.prog 32 #[.string s, .string ⟨#[m]⟩] w fun e w' => e = .returned (.tuple #[Str (Lib.cut s.data.toList [m]).1, Str (Lib.cut s.data.toList [m]).2.1, .bool (Lib.cut s.data.toList [m]).2.2]) ∧ Below w.heap.size w w' := by
  obtain ⟨n, hm⟩ := g.max
  exact (Tryd.strings_Cut s ⟨#[m]⟩ n w hs hm).mono fun e w' ⟨h, k, hw⟩ => ⟨h, by rw [hw]; exact below_drewN (Below.refl _ _) k⟩
theorem parse_bounds {l : List UInt8} {v : Int} (h : Lib.parseIntB 64 l = .ok v) : -9223372036854775808 ≤ v ∧ v ≤ 9223372036854775807 := by
  have := Lib.parseIntB_bounds h
  rw [show ((2 ^ (64 - 1) : Nat) : Int) = 9223372036854775808 from rfl] at this
  omega
/- a number that is read, or none -/
def PI (l : List UInt8) (w : World) (e : Ending) (w' : World) : Prop :=
  (∃ v, Lib.parseIntB 64 l = .ok v ∧ -9223372036854775808 ≤ v ∧ v ≤ 9223372036854775807 ∧ e = .returned (.tuple #[.int .i64 v, .nilIface]) ∧ Below w.heap.size w w') ∨ ((∀ v, Lib.parseIntB 64 l ≠ .ok v) ∧ ∃ v t p, e = .returned (.tuple #[.int .i64 v, .iface t p]) ∧ Below w.heap.size w w')
theorem parse_calls (s : ByteArray) (w : World) (hs : s.size ≤ 4294967281) (g : GL w) :
    Calls Tryd.prog 33 #[.string s, .int .i64 10, .int .i64 64] w (PI s.data.toList w) := by
  cases h : Lib.parseIntB 64 s.data.toList with
  | ok v =>
    refine (Tryd.strconv_ParseInt_10_at64_ok s (by omega) v h w).mono fun e w' ⟨h1, h2⟩ => .inl ⟨v, h, ?_, ?_, h1, ?_⟩
    · exact (parse_bounds h).1
    · exact (parse_bounds h).2
    · rcases h2 with rfl | ⟨t, rfl⟩
      · exact Below.refl _ _
      · exact Lib.bytesWorld_below _ _ _
  | range =>
    obtain ⟨tp, p, hv⟩ := g.ran
    exact (Tryd.strconv_ParseInt_10_at64_range_var s (by omega) h tp p w hv).mono fun e w' ⟨N, h1, h2, h3, h4⟩ => .inr ⟨fun v => (by rw [h]; intro k; cases k), _, _, _, h1, h4⟩
  | _ =>
    obtain ⟨tp, p, hv⟩ := g.syn
    exact (Tryd.strconv_ParseInt_10_at64_syntax_var s (by omega) ⟨fun v => (by rw [h]; intro k; cases k), by rw [h]; intro k; cases k⟩ tp p w hv).mono fun e w' ⟨N, h1, h2, h3, h4⟩ => .inr ⟨fun v => (by rw [h]; intro k; cases k), _, _, _, h1, h4⟩
theorem cat2 (a b : List UInt8) : (⟨a.toArray⟩ : ByteArray) ++ ⟨b.toArray⟩ = ⟨(a ++ b).toArray⟩ := by
  rw [ByteArray.ext_iff, ByteArray.data_append]
  simp
theorem cat_b (a : List UInt8) (m : UInt8) (b : List UInt8) : (⟨a.toArray⟩ : ByteArray) ++ ⟨#[m]⟩ ++ ⟨b.toArray⟩ = ⟨(a ++ m :: b).toArray⟩ := by
  rw [show (⟨#[m]⟩ : ByteArray) = ⟨[m].toArray⟩ from rfl, cat2, cat2, List.append_assoc]
  rfl
theorem cat_c (a : List UInt8) (m : UInt8) (b : List UInt8) : (⟨a.toArray⟩ : ByteArray) ++ ((⟨#[m]⟩ : ByteArray) ++ ⟨b.toArray⟩) = ⟨(a ++ m :: b).toArray⟩ := by
  rw [show (⟨#[m]⟩ : ByteArray) = ⟨[m].toArray⟩ from rfl, cat2, cat2]
  rfl
def txR (r i d : Int) : List UInt8 := if chkB r i d then textX r i d else []

set_option maxRecDepth 100000 in
set_option maxHeartbeats 8000000 in
theorem text_calls (n i d : Int) (w : World) (g : GL w) :
    Calls Tryd.prog 10 #[Cv n i d] w fun e w' => e = .returned (.tuple #[Str (txR n i d), .int .i64 (chkE n i d)]) ∧ Below w.heap.size w w' := by
  have C1 := Lib.hid (fun W => check_calls n i d W)
  have GG := Lib.hid g
  have NN := Lib.hid (Below.refl w.heap.size w)
  clear g
  cases ck : chkB n i d
  · have X : Hid (txR n i d = []) := Lib.hid (by unfold txR; rw [ck]; rfl)
    rw [chkE_no ck] at C1 ⊢
    generalize txR n i d = res at *
    clear ck
    go_enter Tryd.func10, Tryd.ntmps10
    have HB : Hid (Below w.heap.size w (w.alloc (.cells #[.int .i64 n, .int .i64 i, .int .i64 d] 23))) := Lib.hid (Bal (Below.refl _ _) _)
    have K := Lib.hid (blk_new w (.cells #[.int .i64 n, .int .i64 i, .int .i64 d] 23))
    have LT_K : Hid (w.heap.size ≤ w.heap.size) := Lib.hid NN.out.size
    replace NN := Lib.hid (Bgo NN.out HB.out)
    replace GG := Lib.hid (GG.out.next HB.out)
    clear HB
    go_wp2_with fail
    generalize w.alloc (.cells #[.int .i64 n, .int .i64 i, .int .i64 d] 23) = W1 at *
    refine (C1.out _).mono ?_
    rintro e w2 ⟨rfl, hb⟩
    replace NN := Lib.hid (Bgo NN.out hb)
    replace GG := Lib.hid (GG.out.next hb)
    replace K := Lib.hid (blk_next hb K.out)
    clear hb
    go_wp2_with fail
    go_ret2
    exact ⟨by rw [X.out]; rfl, NN.out⟩
  · obtain ⟨v1, v2, v3, _⟩ := chk_iff.1 ck
    have X : Hid (txR n i d = textX n i d) := Lib.hid (by unfold txR; rw [ck]; rfl)
    rw [chkE_yes ck] at C1 ⊢
    generalize txR n i d = res at *
    have T1 := Lib.hid (fun W (h : GL W) => fmt_calls n W (by omega) (by omega) h)
    have T2 := Lib.hid (fun W (h : GL W) => fmt_calls i W (by omega) (by omega) h)
    have T3 := Lib.hid (fun W (h : GL W) => fmt_calls d W (by omega) (by omega) h)
    have FT : Hid (textX n i d = if d = 1 then Lib.itoa n ++ 44 :: Lib.itoa i else (Lib.itoa n ++ 44 :: Lib.itoa i) ++ 47 :: Lib.itoa d) := Lib.hid rfl
    have ln := (itoa_len9 v2.1 v2.2).1
    have li := (itoa_len9 v3.1 v3.2).1
    have ld := (itoa_len9 (x := d) (by omega) (by omega)).1
    generalize Lib.itoa n = tn at *
    generalize Lib.itoa i = ti at *
    generalize Lib.itoa d = td at *
    have LA : ¬ 9223372036854775807 < tn.length + 1 := by omega
    have LB : ¬ 9223372036854775807 < tn.length + 1 + ti.length := by omega
    have lp : (tn ++ 44 :: ti).length ≤ 30 := by simp; omega
    clear ck v1 v2 v3
    by_cases hd : d = 1
    · have F2 := Lib.hid (X.out.trans (FT.out.trans (if_pos hd)))
      clear X FT
      subst hd
      go_enter Tryd.func10, Tryd.ntmps10
      have HB : Hid (Below w.heap.size w (w.alloc (.cells #[.int .i64 n, .int .i64 i, .int .i64 1] 23))) := Lib.hid (Bal (Below.refl _ _) _)
      have K := Lib.hid (blk_new w (.cells #[.int .i64 n, .int .i64 i, .int .i64 1] 23))
      have LT_K : Hid (w.heap.size ≤ w.heap.size) := Lib.hid NN.out.size
      replace NN := Lib.hid (Bgo NN.out HB.out)
      replace GG := Lib.hid (GG.out.next HB.out)
      clear HB
      go_wp2_with fail
      generalize w.alloc (.cells #[.int .i64 n, .int .i64 i, .int .i64 1] 23) = W1 at *
      refine (C1.out _).mono ?_
      rintro e w4 ⟨rfl, hb⟩
      replace NN := Lib.hid (Bgo NN.out hb)
      replace GG := Lib.hid (GG.out.next hb)
      replace K := Lib.hid (blk_next hb K.out)
      clear hb
      go_wp2_with fail
      refine region_I (S := SK [(1, w.heap.size, .cells #[.int .i64 n, .int .i64 i, .int .i64 1] 23), (5, w.heap.size, .cells #[.int .i64 n, .int .i64 i, .int .i64 1] 23)]) (by kernel_rfl) ?_
      have HAL := Lib.hid (fun (k : Nat) => (show SK [(1, w.heap.size, .cells #[.int .i64 n, .int .i64 i, .int .i64 1] 23), (5, w.heap.size, .cells #[.int .i64 n, .int .i64 i, .int .i64 1] 23)] k w4.drew from fun p hp e => by
        simp only [List.mem_cons, List.not_mem_nil, or_false] at hp
        rcases hp with rfl | rfl
        · exact K.out
        · exact K.out))
      have HD := Lib.hid (Below.drew (Below.refl w4.heap.size w4))
      replace NN := Lib.hid (Bgo NN.out HD.out)
      replace GG := Lib.hid (GG.out.next HD.out)
      replace K := Lib.hid (blk_next HD.out K.out)
      clear HD
      refine take_I 0 (.pointer (some ⟨w.heap.size, 0, none⟩)) (some 11) rfl (by kernel_rfl) (by kernel_rfl) (by kernel_rfl) rfl (fun _ _ _ h => h) (Or.inl ⟨by rfl, ?_⟩) (SK.drop (by simp)) ?_
      · intro X hX
        clear hX
        go_simp
      try simp only [Act.put, List.setIfInBounds_toArray, List.set_cons_zero, List.set_cons_succ]
      refine take_I 1 (.int .i64 n) (some 12) rfl (by kernel_rfl) (by kernel_rfl) (by kernel_rfl) rfl (fun _ _ _ h => h) (Or.inl ⟨by rfl, ?_⟩) (HAL.out 1) ?_
      · intro X hX
        have hh := hX (1, w.heap.size, .cells #[.int .i64 n, .int .i64 i, .int .i64 1] 23) (List.Mem.head _) rfl
        have hh0 := blk_cell hh 0 _ rfl
        have hhl := blk_lt hh
        clear hh
        clear hX
        go_simp
      try simp only [Act.put, List.setIfInBounds_toArray, List.set_cons_zero, List.set_cons_succ]
      refine take_I 4 (.pointer (some ⟨w.heap.size, 1, none⟩)) (some 15) rfl (by kernel_rfl) (by kernel_rfl) (by kernel_rfl) rfl (fun _ _ _ h => h) (Or.inl ⟨by rfl, ?_⟩) (SK.drop (by simp)) ?_
      · intro X hX
        clear hX
        go_simp
      try simp only [Act.put, List.setIfInBounds_toArray, List.set_cons_zero, List.set_cons_succ]
      refine take_I 5 (.int .i64 i) (some 16) rfl (by kernel_rfl) (by kernel_rfl) (by kernel_rfl) rfl (fun _ _ _ h => h) (Or.inl ⟨by rfl, ?_⟩) (HAL.out 5) ?_
      · intro X hX
        have hh := hX (5, w.heap.size, .cells #[.int .i64 n, .int .i64 i, .int .i64 1] 23) (List.Mem.tail _ (List.Mem.head _)) rfl
        have hh1 := blk_cell hh 1 _ rfl
        have hhl := blk_lt hh
        clear hh
        clear hX
        go_simp
      try simp only [Act.put, List.setIfInBounds_toArray, List.set_cons_zero, List.set_cons_succ]
      refine only_I 2 (by kernel_rfl) rfl (fun K' hK' => ?_)
      go_simp
      go_at_call 30
      refine (T1.out _ GG.out).mono ?_
      rintro e x1 ⟨rfl, hb⟩
      replace NN := Lib.hid (Bgo NN.out hb)
      replace K := Lib.hid (blk_next hb K.out)
      replace GG := Lib.hid (GG.out.next hb)
      go_simp
      refine hK'.out _ _ (fun k _ hS => hS.next hb) ?_
      clear hK' K'
      try simp only [Act.put, List.setIfInBounds_toArray, List.set_cons_zero, List.set_cons_succ]
      replace HAL := Lib.hid (fun k => (HAL.out k).next hb)
      refine take_I 3 (.string ((⟨tn.toArray⟩ : ByteArray) ++ ⟨#[44]⟩)) (some 14) rfl (by kernel_rfl) (by kernel_rfl) (by kernel_rfl) rfl (fun _ _ _ h => h) (Or.inl ⟨by rfl, ?_⟩) (SK.drop (by simp)) ?_
      · intro X hX
        clear hX
        go_simp
      try simp only [Act.put, List.setIfInBounds_toArray, List.set_cons_zero, List.set_cons_succ]
      refine only_I 6 (by kernel_rfl) rfl (fun K' hK' => ?_)
      go_simp
      go_at_call 30
      refine (T2.out _ GG.out).mono ?_
      rintro e x2 ⟨rfl, hb⟩
      replace NN := Lib.hid (Bgo NN.out hb)
      replace K := Lib.hid (blk_next hb K.out)
      replace GG := Lib.hid (GG.out.next hb)
      go_simp
      refine hK'.out _ _ (fun k _ hS => hS.next hb) ?_
      clear hK' K'
      try simp only [Act.put, List.setIfInBounds_toArray, List.set_cons_zero, List.set_cons_succ]
      replace HAL := Lib.hid (fun k => (HAL.out k).next hb)
      refine only_I 7 (by kernel_rfl) rfl (fun K' hK' => ?_)
      go_simp
      refine hK'.out _ _ (fun k _ h => h) ?_
      clear hK' K'
      try simp only [Act.put, List.setIfInBounds_toArray, List.set_cons_zero, List.set_cons_succ]
      refine only_I 8 (by kernel_rfl) rfl (fun K' hK' => ?_)
      go_simp
      refine hK'.out _ _ (fun k _ h => h) ?_
      clear hK' K'
      try simp only [Act.put, List.setIfInBounds_toArray, List.set_cons_zero, List.set_cons_succ]
      refine done_I (by kernel_rfl) ?_ _
      clear HAL hb
      have C4 := cat_b tn 44 ti
      generalize tn ++ 44 :: ti = tp at *
      have c_K_0 := blk_cell K.out 0 _ rfl
      have c_K_1 := blk_cell K.out 1 _ rfl
      have c_K_2 := blk_cell K.out 2 _ rfl
      have l_K := blk_lt K.out
      simp only [C4]
      clear C4
      go_wp2_with fail
      clear c_K_0 c_K_1 c_K_2 l_K
      go_ret2
      exact ⟨by rw [F2.out]; rfl, NN.out⟩
    · have F2 := Lib.hid (X.out.trans (FT.out.trans (if_neg hd)))
      clear X FT
      have hd' : (d != 1) = true := by rw [bne_iff_ne]; exact hd
      clear hd
      go_enter Tryd.func10, Tryd.ntmps10
      have HB : Hid (Below w.heap.size w (w.alloc (.cells #[.int .i64 n, .int .i64 i, .int .i64 d] 23))) := Lib.hid (Bal (Below.refl _ _) _)
      have K := Lib.hid (blk_new w (.cells #[.int .i64 n, .int .i64 i, .int .i64 d] 23))
      have LT_K : Hid (w.heap.size ≤ w.heap.size) := Lib.hid NN.out.size
      replace NN := Lib.hid (Bgo NN.out HB.out)
      replace GG := Lib.hid (GG.out.next HB.out)
      clear HB
      go_wp2_with fail
      generalize w.alloc (.cells #[.int .i64 n, .int .i64 i, .int .i64 d] 23) = W1 at *
      refine (C1.out _).mono ?_
      rintro e w6 ⟨rfl, hb⟩
      replace NN := Lib.hid (Bgo NN.out hb)
      replace GG := Lib.hid (GG.out.next hb)
      replace K := Lib.hid (blk_next hb K.out)
      clear hb
      go_wp2_with fail
      refine region_I (S := SK [(1, w.heap.size, .cells #[.int .i64 n, .int .i64 i, .int .i64 d] 23), (5, w.heap.size, .cells #[.int .i64 n, .int .i64 i, .int .i64 d] 23)]) (by kernel_rfl) ?_
      have HAL := Lib.hid (fun (k : Nat) => (show SK [(1, w.heap.size, .cells #[.int .i64 n, .int .i64 i, .int .i64 d] 23), (5, w.heap.size, .cells #[.int .i64 n, .int .i64 i, .int .i64 d] 23)] k w6.drew from fun p hp e => by
        simp only [List.mem_cons, List.not_mem_nil, or_false] at hp
        rcases hp with rfl | rfl
        · exact K.out
        · exact K.out))
      have HD := Lib.hid (Below.drew (Below.refl w6.heap.size w6))
      replace NN := Lib.hid (Bgo NN.out HD.out)
      replace GG := Lib.hid (GG.out.next HD.out)
      replace K := Lib.hid (blk_next HD.out K.out)
      clear HD
      refine take_I 0 (.pointer (some ⟨w.heap.size, 0, none⟩)) (some 11) rfl (by kernel_rfl) (by kernel_rfl) (by kernel_rfl) rfl (fun _ _ _ h => h) (Or.inl ⟨by rfl, ?_⟩) (SK.drop (by simp)) ?_
      · intro X hX
        clear hX
        go_simp
      try simp only [Act.put, List.setIfInBounds_toArray, List.set_cons_zero, List.set_cons_succ]
      refine take_I 1 (.int .i64 n) (some 12) rfl (by kernel_rfl) (by kernel_rfl) (by kernel_rfl) rfl (fun _ _ _ h => h) (Or.inl ⟨by rfl, ?_⟩) (HAL.out 1) ?_
      · intro X hX
        have hh := hX (1, w.heap.size, .cells #[.int .i64 n, .int .i64 i, .int .i64 d] 23) (List.Mem.head _) rfl
        have hh0 := blk_cell hh 0 _ rfl
        have hhl := blk_lt hh
        clear hh
        clear hX
        go_simp
      try simp only [Act.put, List.setIfInBounds_toArray, List.set_cons_zero, List.set_cons_succ]
      refine take_I 4 (.pointer (some ⟨w.heap.size, 1, none⟩)) (some 15) rfl (by kernel_rfl) (by kernel_rfl) (by kernel_rfl) rfl (fun _ _ _ h => h) (Or.inl ⟨by rfl, ?_⟩) (SK.drop (by simp)) ?_
      · intro X hX
        clear hX
        go_simp
      try simp only [Act.put, List.setIfInBounds_toArray, List.set_cons_zero, List.set_cons_succ]
      refine take_I 5 (.int .i64 i) (some 16) rfl (by kernel_rfl) (by kernel_rfl) (by kernel_rfl) rfl (fun _ _ _ h => h) (Or.inl ⟨by rfl, ?_⟩) (HAL.out 5) ?_
      · intro X hX
        have hh := hX (5, w.heap.size, .cells #[.int .i64 n, .int .i64 i, .int .i64 d] 23) (List.Mem.tail _ (List.Mem.head _)) rfl
        have hh1 := blk_cell hh 1 _ rfl
        have hhl := blk_lt hh
        clear hh
        clear hX
        go_simp
      try simp only [Act.put, List.setIfInBounds_toArray, List.set_cons_zero, List.set_cons_succ]
      refine only_I 2 (by kernel_rfl) rfl (fun K' hK' => ?_)
      go_simp
      go_at_call 30
      refine (T1.out _ GG.out).mono ?_
      rintro e x1 ⟨rfl, hb⟩
      replace NN := Lib.hid (Bgo NN.out hb)
      replace K := Lib.hid (blk_next hb K.out)
      replace GG := Lib.hid (GG.out.next hb)
      go_simp
      refine hK'.out _ _ (fun k _ hS => hS.next hb) ?_
      clear hK' K'
      try simp only [Act.put, List.setIfInBounds_toArray, List.set_cons_zero, List.set_cons_succ]
      replace HAL := Lib.hid (fun k => (HAL.out k).next hb)
      refine take_I 3 (.string ((⟨tn.toArray⟩ : ByteArray) ++ ⟨#[44]⟩)) (some 14) rfl (by kernel_rfl) (by kernel_rfl) (by kernel_rfl) rfl (fun _ _ _ h => h) (Or.inl ⟨by rfl, ?_⟩) (SK.drop (by simp)) ?_
      · intro X hX
        clear hX
        go_simp
      try simp only [Act.put, List.setIfInBounds_toArray, List.set_cons_zero, List.set_cons_succ]
      refine only_I 6 (by kernel_rfl) rfl (fun K' hK' => ?_)
      go_simp
      go_at_call 30
      refine (T2.out _ GG.out).mono ?_
      rintro e x2 ⟨rfl, hb⟩
      replace NN := Lib.hid (Bgo NN.out hb)
      replace K := Lib.hid (blk_next hb K.out)
      replace GG := Lib.hid (GG.out.next hb)
      go_simp
      refine hK'.out _ _ (fun k _ hS => hS.next hb) ?_
      clear hK' K'
      try simp only [Act.put, List.setIfInBounds_toArray, List.set_cons_zero, List.set_cons_succ]
      replace HAL := Lib.hid (fun k => (HAL.out k).next hb)
      refine only_I 7 (by kernel_rfl) rfl (fun K' hK' => ?_)
      go_simp
      refine hK'.out _ _ (fun k _ h => h) ?_
      clear hK' K'
      try simp only [Act.put, List.setIfInBounds_toArray, List.set_cons_zero, List.set_cons_succ]
      refine only_I 8 (by kernel_rfl) rfl (fun K' hK' => ?_)
      go_simp
      refine hK'.out _ _ (fun k _ h => h) ?_
      clear hK' K'
      try simp only [Act.put, List.setIfInBounds_toArray, List.set_cons_zero, List.set_cons_succ]
      refine done_I (by kernel_rfl) ?_ _
      clear HAL hb
      have C4 := cat_b tn 44 ti
      generalize tn ++ 44 :: ti = tp at *
      have c_K_0 := blk_cell K.out 0 _ rfl
      have c_K_1 := blk_cell K.out 1 _ rfl
      have c_K_2 := blk_cell K.out 2 _ rfl
      have l_K := blk_lt K.out
      simp only [C4]
      clear C4
      go_wp2_with fail
      clear c_K_0 c_K_1 c_K_2 l_K
      refine (T3.out _ GG.out).mono ?_
      rintro e w7 ⟨rfl, hb⟩
      replace NN := Lib.hid (Bgo NN.out hb)
      replace GG := Lib.hid (GG.out.next hb)
      replace K := Lib.hid (blk_next hb K.out)
      clear hb
      have LC : ¬ 9223372036854775807 < 1 + td.length := by omega
      have LD : ¬ 9223372036854775807 < tp.length + (1 + td.length) := by omega
      go_wp2_with fail
      go_ret2
      exact ⟨by rw [cat_c tp 47 td, F2.out]; rfl, NN.out⟩
end Go.Proofs.YtbbjclbpllfdeaaDoor
