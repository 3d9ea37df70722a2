/- Contracts of layer 1: Text and Parse of the program. -/
import Derived.Test.YtpeoecgehdicmaaDoorFta
import Derived.Test.YtpeoecgehdicmaaDoorFrj
import Derived.Test.YtpeoecgehdicmaaDoorShelf
import Derived.Lib.AtoiErrMem
import Derived.Lib.ParseIntBTie
import Derived.Lib.AppendIntMem
namespace Go.Proofs.YtpeoecgehdicmaaDoor
open Go.ChangeShapes Go.WideShapes Go.ChangeAt Go.RowKit
set_option linter.unusedVariables false
attribute [local go_sem ↓] Go.wp_at_zero Go.wp_at_succ

theorem var_keep {P : Program} {w w' : World} {n : String} {cs : Array Value} (h : w.var? P n = some cs) (hb : Below w.heap.size w w') : w'.var? P n = some cs := by
  unfold World.var? at h ⊢
  cases hg : P.globalNamed n with
  | none => rw [hg] at h; cases h
  | some g =>
    rw [hg] at h
    simp only [Option.bind_some] at h ⊢
    cases hh : w.heap[g]? with
    | none => rw [hh] at h; cases h
    | some o =>
      rw [hh] at h
      rw [blk_next hb hh]
      exact h
/- what the variables of the library hold -/
structure GL (w : World) : Prop where
  tab : Lib.TabIs Tryd.prog w "internal/strconv.uint64pow10" .u64 Lib.pow10Tab
  syn : ∃ tp p, w.var? Tryd.prog "strconv.ErrSyntax" = some #[.iface tp p]
  ran : ∃ tp p, w.var? Tryd.prog "strconv.ErrRange" = some #[.iface tp p]
  max : ∃ m, w.cell? ⟨3, 0, none⟩ = some (.int .i64 m)
theorem cell_keep {w w' : World} {a : Addr} {v : Value} (h : w.cell? a = some v) (hb : Below w.heap.size w w') : w'.cell? a = some v := by
  have : a.block < w.heap.size := by
    unfold World.cell? at h
    cases hh : w.heap[a.block]? with
    | none => rw [hh] at h; cases h
    | some o => exact blk_lt hh
  exact (hb.cell this).trans h
theorem GL.next {w w' : World} (h : GL w) (hb : Below w.heap.size w w') : GL w' :=
  ⟨var_keep h.tab hb, by obtain ⟨t, p, e⟩ := h.syn; exact ⟨t, p, var_keep e hb⟩, by obtain ⟨t, p, e⟩ := h.ran; exact ⟨t, p, var_keep e hb⟩, by obtain ⟨m, e⟩ := h.max; exact ⟨m, cell_keep e hb⟩⟩
abbrev Str (l : List UInt8) : Value := .string ⟨l.toArray⟩
theorem fmt_calls (n : Int) (w : World) (h1 : -9223372036854775808 ≤ n) (h2 : n ≤ 9223372036854775807) (g : GL w) :
    Calls Tryd.prog 33 #[.int .i64 n, .int .i64 10] w fun e w' => e = .returned (Str (Lib.itoa n)) ∧ Below w.heap.size w w' :=
  (Tryd.strconv_FormatInt_10 n h1 h2 w g.tab).mono fun e w' ⟨h, k, os, hw⟩ => ⟨h, by rw [hw]; exact Lib.below_grow _ _ (Nat.le_refl _) k os⟩
theorem cutS_calls (s : ByteArray) (w : World) (hs : s.size < 4294967281) (g : GL w) :
    Calls Tryd.prog 35 #[.string s, .string ⟨#[47]⟩] w fun e w' => e = .returned (.tuple #[Str (Lib.cut s.data.toList [47]).1, Str (Lib.cut s.data.toList [47]).2.1, .bool (Lib.cut s.data.toList [47]).2.2]) ∧ Below w.heap.size w w' := by
  obtain ⟨m, hm⟩ := g.max
  exact (Tryd.strings_Cut s ⟨#[47]⟩ m w hs hm).mono fun e w' ⟨h, k, hw⟩ => ⟨h, by rw [hw]; exact below_drewN (Below.refl _ _) k⟩
theorem parse_bounds {l : List UInt8} {v : Int} (h : Lib.parseIntB 64 l = .ok v) : -9223372036854775808 ≤ v ∧ v ≤ 9223372036854775807 := by
  have := Lib.parseIntB_bounds h
  rw [show ((2 ^ (64 - 1) : Nat) : Int) = 9223372036854775808 from rfl] at this
  omega
/- a number that is read, or none -/
def PI (l : List UInt8) (w : World) (e : Ending) (w' : World) : Prop :=
  (∃ v, Lib.parseIntB 64 l = .ok v ∧ -9223372036854775808 ≤ v ∧ v ≤ 9223372036854775807 ∧ e = .returned (.tuple #[.int .i64 v, .nilIface]) ∧ Below w.heap.size w w') ∨ ((∀ v, Lib.parseIntB 64 l ≠ .ok v) ∧ ∃ v t p, e = .returned (.tuple #[.int .i64 v, .iface t p]) ∧ Below w.heap.size w w')
theorem parse_calls (s : ByteArray) (w : World) (hs : s.size ≤ 4294967281) (g : GL w) :
    Calls Tryd.prog 36 #[.string s, .int .i64 10, .int .i64 64] w (PI s.data.toList w) := by
  cases h : Lib.parseIntB 64 s.data.toList with
  | ok v =>
    refine (Tryd.strconv_ParseInt_10_at64_ok s (by omega) v h w).mono fun e w' ⟨h1, h2⟩ => .inl ⟨v, h, ?_, ?_, h1, ?_⟩
    · exact (parse_bounds h).1
    · exact (parse_bounds h).2
    · rcases h2 with rfl | ⟨t, rfl⟩
      · exact Below.refl _ _
      · exact Lib.bytesWorld_below _ _ _
  | range =>
    obtain ⟨tp, p, hv⟩ := g.ran
    exact (Tryd.strconv_ParseInt_10_at64_range_var s (by omega) h tp p w hv).mono fun e w' ⟨N, h1, h2, h3, h4⟩ => .inr ⟨fun v => (by rw [h]; intro k; cases k), _, _, _, h1, h4⟩
  | _ =>
    obtain ⟨tp, p, hv⟩ := g.syn
    exact (Tryd.strconv_ParseInt_10_at64_syntax_var s (by omega) ⟨fun v => (by rw [h]; intro k; cases k), by rw [h]; intro k; cases k⟩ tp p w hv).mono fun e w' ⟨N, h1, h2, h3, h4⟩ => .inr ⟨fun v => (by rw [h]; intro k; cases k), _, _, _, h1, h4⟩
theorem cat2 (a b : List UInt8) : (⟨a.toArray⟩ : ByteArray) ++ ⟨b.toArray⟩ = ⟨(a ++ b).toArray⟩ := by
  rw [ByteArray.ext_iff, ByteArray.data_append]
  simp
theorem cat3 (a b : List UInt8) : (⟨a.toArray⟩ : ByteArray) ++ ((⟨#[47]⟩ : ByteArray) ++ ⟨b.toArray⟩) = ⟨(a ++ 47 :: b).toArray⟩ := by
  rw [show (⟨#[47]⟩ : ByteArray) = ⟨[47].toArray⟩ from rfl, cat2, cat2]
  rfl
def txR (n d : Int) : List UInt8 := if errF n d = 0 then textL n d else []
set_option maxRecDepth 100000 in
set_option maxHeartbeats 4000000 in
theorem text_calls (n d : Int) (w : World) (g : GL w) :
    Calls Tryd.prog 10 #[Fv n d] w fun e w' => e = .returned (.tuple #[Str (txR n d), .int .i64 (errF n d)]) ∧ Below w.heap.size w w' := by
  have C1 := Lib.hid (fun W => check_calls n d W)
  have G := Lib.hid g
  clear g
  by_cases ck : errF n d = 0
  rotate_left
  · have F : Hid (txR n d = []) := Lib.hid (by unfold txR; rw [if_neg ck])
    have ck' : (errF n d != 0) = true := by rw [bne_iff_ne]; exact ck
    generalize txR n d = res at *
    generalize errF n d = er at *
    clear ck
    go_enter Tryd.func10, Tryd.ntmps10
    go_wp2_with fail
    refine (C1.out _).mono ?_
    rintro e w1 ⟨rfl, hb⟩
    have NN := Lib.hid (Bgo (Bal (Below.refl _ _) _) hb)
    clear hb
    go_wp2_with fail
    go_ret2
    exact ⟨by rw [F.out]; rfl, NN.out⟩
  have v := errF_ok ck
  have F : Hid (txR n d = textL n d) := Lib.hid (by unfold txR; rw [if_pos ck])
  rw [ck] at C1 ⊢
  generalize txR n d = res at *
  have n1 := v.n1
  have n2 := v.n2
  have d1 := v.d1
  have d2 := v.d2
  have T1 := Lib.hid (fun W (h : GL W) => fmt_calls n W (by omega) (by omega) h)
  have T2 := Lib.hid (fun W (h : GL W) => fmt_calls d W (by omega) (by omega) h)
  have FT : Hid (textL n d = if d = 1 then Lib.itoa n else Lib.itoa n ++ 47 :: Lib.itoa d) := Lib.hid rfl
  have ln := Lib.itoa_length_le n (by omega) (by omega)
  have ld := Lib.itoa_length_le d (by omega) (by omega)
  generalize Lib.itoa n = tn at *
  generalize Lib.itoa d = td at *
  clear ck v
  by_cases hd : d = 1
  · have F2 := Lib.hid (F.out.trans (FT.out.trans (if_pos hd)))
    clear F FT
    subst hd
    go_enter Tryd.func10, Tryd.ntmps10
    go_wp2_with fail
    refine (C1.out _).mono ?_
    rintro e w1 ⟨rfl, hb⟩
    have NN := Lib.hid (Bgo (Bal (Below.refl _ _) _) hb)
    have K := Lib.hid (blk_next hb (blk_new w (.cells #[.int .i64 n, .int .i64 1] 23)))
    replace G := Lib.hid (G.out.next NN.out)
    clear hb
    have a0 := blk_cell K.out 0 _ rfl
    have a1 := blk_cell K.out 1 _ rfl
    have al := blk_lt K.out
    go_wp2_with fail
    refine (T1.out _ G.out).mono ?_
    rintro e w2 ⟨rfl, hb⟩
    clear a0 a1 al
    replace NN := Lib.hid (Bgo NN.out hb)
    replace K := Lib.hid (blk_next hb K.out)
    replace G := Lib.hid (G.out.next hb)
    clear hb
    have a0 := blk_cell K.out 0 _ rfl
    have a1 := blk_cell K.out 1 _ rfl
    have al := blk_lt K.out
    go_wp2_with fail
    go_ret2
    exact ⟨by rw [F2.out]; rfl, NN.out⟩
  · have F2 := Lib.hid (F.out.trans (FT.out.trans (if_neg hd)))
    clear F FT
    have hd' : (d != 1) = true := by rw [bne_iff_ne]; exact hd
    clear hd
    go_enter Tryd.func10, Tryd.ntmps10
    go_wp2_with fail
    refine (C1.out _).mono ?_
    rintro e w1 ⟨rfl, hb⟩
    have NN := Lib.hid (Bgo (Bal (Below.refl _ _) _) hb)
    have K := Lib.hid (blk_next hb (blk_new w (.cells #[.int .i64 n, .int .i64 d] 23)))
    replace G := Lib.hid (G.out.next NN.out)
    clear hb
    have a0 := blk_cell K.out 0 _ rfl
    have a1 := blk_cell K.out 1 _ rfl
    have al := blk_lt K.out
    go_wp2_with fail
    refine (T1.out _ G.out).mono ?_
    rintro e w2 ⟨rfl, hb⟩
    clear a0 a1 al
    replace NN := Lib.hid (Bgo NN.out hb)
    replace K := Lib.hid (blk_next hb K.out)
    replace G := Lib.hid (G.out.next hb)
    clear hb
    have a0 := blk_cell K.out 0 _ rfl
    have a1 := blk_cell K.out 1 _ rfl
    have al := blk_lt K.out
    go_wp2_with fail
    refine (T2.out _ G.out).mono ?_
    rintro e w3 ⟨rfl, hb⟩
    replace NN := Lib.hid (Bgo NN.out hb)
    clear hb a0 a1 al
    go_wp2_with fail
    rw [cat3 tn td, ← F2.out]
    go_ret2
    exact ⟨rfl, NN.out⟩
end Go.Proofs.YtpeoecgehdicmaaDoor
