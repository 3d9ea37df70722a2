/- Contracts of layer 45: factors, and products of a factor and a block added to a block. -/
import Derived.Test.YtmpmeeacdllomaaPat
import Derived.Test.YtmpmeeacdllomaaPar
import Derived.Laws.BytesArg
import Derived.Lib.SliceRun
namespace Go.Proofs.Ytmpmeeacdllomaa
open Go.ChangeShapes Go.WideShapes Go.ChangeAt Go.RowKit Gf
set_option linter.unusedVariables false
attribute [local go_sem ↓] Go.wp_at_zero Go.wp_at_succ

def fac (D j i : Nat) : Nat := gi ((D + j) ^^^ i)
theorem fac_lt {D j i : Nat} (h : D + j < 256) (hi : i < 256) : fac D j i < 256 := gi_lt (xor_lt h hi)
/- the products of f and the numbers of b added to the first k numbers of s -/
def addK (s b : List Nat) (f k : Nat) : List Nat := (List.range s.length).map fun i => if i < k then s.getD i 0 ^^^ gm f (b.getD i 0) else s.getD i 0
def addR (s b : List Nat) (f : Nat) : List Nat := (List.range s.length).map fun i => s.getD i 0 ^^^ gm f (b.getD i 0)
theorem addK_len (s b : List Nat) (f k : Nat) : (addK s b f k).length = s.length := by simp [addK]
theorem addR_len (s b : List Nat) (f : Nat) : (addR s b f).length = s.length := by simp [addR]
theorem addK_zero (s b : List Nat) (f : Nat) : addK s b f 0 = s := by
  apply List.ext_getElem?
  intro i
  simp only [addK, List.getElem?_map]
  by_cases h : i < s.length
  · rw [List.getElem?_range h, List.getElem?_eq_getElem h]; simp [List.getD_eq_getElem?_getD, h]
  · rw [List.getElem?_eq_none (by simpa using h), List.getElem?_eq_none (by simpa using h)]; rfl
theorem addK_full {s b : List Nat} {k : Nat} (f : Nat) (h : b.length ≤ k) : addK s b f k = addR s b f := by
  unfold addK addR
  apply List.map_congr_left
  intro i hi
  by_cases hk : i < k
  · rw [if_pos hk]
  · rw [if_neg hk, List.getD_eq_getElem?_getD (l := b), List.getElem?_eq_none (by omega)]; simp [gm_zero_right]
theorem addK_at {s b : List Nat} {f k x : Nat} (h : s[k]? = some x) : (addK s b f k)[k]? = some x := by
  have hl := get_lt h
  simp only [addK, List.getElem?_map, List.getElem?_range hl, Option.map_some]
  simp [List.getD_eq_getElem?_getD, h]
theorem addK_succ {s b : List Nat} {f k x y : Nat} (h : s[k]? = some x) (hb : b[k]? = some y) : addK s b f (k + 1) = (addK s b f k).set k (x ^^^ gm f y) := by
  apply List.ext_getElem?
  intro i
  have hl := get_lt h
  rw [List.getElem?_set]
  by_cases hi : i < s.length
  · simp only [addK, List.getElem?_map, List.getElem?_range hi, Option.map_some]
    by_cases e : k = i
    · subst e
      rw [if_pos rfl]
      have e1 : s.getD k 0 = x := by rw [List.getD_eq_getElem?_getD, h]; rfl
      have e2 : b.getD k 0 = y := by rw [List.getD_eq_getElem?_getD, hb]; rfl
      rw [if_pos (by omega), e1, e2]
      simp [hl]
    · rw [if_neg e]
      congr 1
      by_cases hk : i < k
      · rw [if_pos (by omega), if_pos hk]
      · rw [if_neg (by omega), if_neg hk]
  · rw [List.getElem?_eq_none (by simp [addK]; omega)]
    by_cases e : k = i
    · omega
    · rw [if_neg e, List.getElem?_eq_none (by simp [addK]; omega)]
theorem addR_byt {s b : List Nat} {f : Nat} (hs : Byt s) (hf : f < 256) : Byt (addR s b f) := by
  intro x hx
  simp only [addR, List.mem_map, List.mem_range] at hx
  obtain ⟨i, hi, rfl⟩ := hx
  refine xor_lt ?_ (gm_lt hf)
  rw [List.getD_eq_getElem?_getD, List.getElem?_eq_getElem hi]
  exact hs _ (List.getElem_mem hi)
theorem addK_byt {s b : List Nat} {f : Nat} (k : Nat) (hs : Byt s) (hf : f < 256) : Byt (addK s b f k) := by
  intro x hx
  simp only [addK, List.mem_map, List.mem_range] at hx
  obtain ⟨i, hi, rfl⟩ := hx
  have h1 : s.getD i 0 < 256 := by
    rw [List.getD_eq_getElem?_getD, List.getElem?_eq_getElem hi]
    exact hs _ (List.getElem_mem hi)
  split
  · exact xor_lt h1 (gm_lt hf)
  · exact h1
theorem wrap8 (n : Nat) (h : n < 256) : IntKind.u8.wrap (n : Int) = (n : Int) := by rw [IntKind.wrap_u8]; omega
theorem factor_calls (D j i : Nat) (w : World) (h : D + j < 256) (hi : i < 256) :
    Calls Try.prog 56 #[.int .i64 D, .int .i64 j, .int .i64 i] w fun e w' => e = .returned (.int .u8 (fac D j i : Nat)) ∧ w = w' := by
  go_enter Try.func56, Try.ntmps56
  go_wp2_with fail
  rw [show ((D : Int) + (j : Int)) = ((D + j : Nat) : Int) by omega, u8_xor_nat (D + j) i h hi]
  refine (inverse_calls _ (xor_lt h hi) _).mono ?_
  rintro e w' ⟨rfl, rfl⟩
  go_wp2_with fail
  go_ret
  exact ⟨rfl, rfl⟩
theorem only_drew {a w : World} {row : Option Nat} (h : a.grownBy w row) : a.grownBy w.drew row := ⟨h.os, h.tape, h.output, h.size, h.block⟩
theorem only_drewN {a w : World} {row : Option Nat} (h : a.grownBy w row) (n : Nat) : a.grownBy (w.drewN n) row := ⟨h.os, h.tape, h.output, h.size, h.block⟩
theorem add_calls (g cap Bs : Nat) (s : List Nat) (A : Option Addr) (c B : Nat) (l : List Nat) (f : Nat) (w : World) (hf : f < 256) (hs : Byt s) (hln : l.length ≤ s.length)
    (ho : w.ownsRow Bs 5 1 (.slice (some ⟨g, 0, none⟩) s.length cap) s.length (bv s)) (hlc : l.length ≤ c) (hc : c ≤ 9223372036854775807) (hr : RBA B w A l)
    (hne : ∀ b off, A = some ⟨b, off, none⟩ → l ≠ [] → b ≠ g) :
    Calls Try.prog 55 #[.slice (some ⟨g, 0, none⟩) s.length cap, .slice A l.length c, .int .u8 f] w fun e w' => e = .returned (.tuple #[]) ∧ w'.ownsRow Bs 5 1 (.slice (some ⟨g, 0, none⟩) s.length cap) s.length (bv (addR s l f)) ∧ w.grownBy w' (some g) := by
  have HO := Lib.hid ho
  have HR := Lib.hid hr
  have HN := Lib.hid hne
  have HSB := Lib.hid hs
  obtain ⟨hsc, hcm⟩ : s.length ≤ cap ∧ cap ≤ 9223372036854775807 := by
    obtain ⟨A', c', e', k1, k2, _⟩ := own_form ho
    simp only [Value.slice.injEq, true_and] at e'
    rw [e'.2]; exact ⟨k1, k2⟩
  clear ho hr hne hs
  go_enter Try.func55, Try.ntmps55
  go_wp2_with fail
  go_loopw [10] (fun i wr => ∃ k : Nat, k ≤ l.length ∧ i = .int .i64 k ∧ Hid (wr.ownsRow Bs 5 1 (.slice (some ⟨g, 0, none⟩) s.length cap) s.length (bv (addK s l f k))) ∧ Hid (w.grownBy wr (some g))) (fun i _ => l.length - (intOf i).toNat)
  case atStart => exact ⟨0, by omega, rfl, by rw [addK_zero]; exact HO, Lib.hid (World.grownBy.refl _ _)⟩
  case round =>
    obtain ⟨k, hk, rfl, O, G⟩ := hrel
    by_cases hlt : k < l.length
    · obtain ⟨y, hy⟩ := get_some hlt
      obtain ⟨x, hx⟩ := get_some (show k < s.length by omega)
      obtain ⟨b, off, rfl, hb, hcell, hy2⟩ := HR.out.at_ hy
      have hbg : b ≠ g := HN.out b off rfl (by intro h; rw [h] at hlt; simp at hlt)
      have c1 : wr.cell? ⟨b, off + k, none⟩ = some (.int .u8 (y : Int)) := by
        rw [← hcell]; exact G.out.cell_far _ hb (by simpa using hbg)
      have c2 : wr.cell? ⟨g, k, none⟩ = some (.int .u8 (x : Int)) := by
        rw [O.out.cellAt k (by omega)]; exact bv_get (addK_at hx)
      have c3 : wr.frozen? ⟨g, k, none⟩ = false := O.out.frozenAt k
      have hx2 : x < 256 := HSB.out.at_ hx
      have k1 : (0 : Int) ≤ (k : Int) := by omega
      have k2 : (k : Int) < (s.length : Int) := by omega
      go_wp2_with fail
      go_region_with (first | (go_at_call 13; refine (mul_calls _ _ hf hy2 _).mono ?_; rintro e w' ⟨rfl, rfl⟩))
      all_goals
        go_wp2_with fail
        rw [u8_xor_nat x (gm f y) hx2 (gm_lt hf)]
        have st := O.out.stored k (.int .u8 ((x ^^^ gm f y : Nat) : Int))
        refine ⟨⟨k + 1, by omega, by go_num, Lib.hid ?_, Lib.hid (only_drew (G.out.trans st.2))⟩, by simp [intOf]; omega⟩
        rw [addK_succ hx hy, ← bv_set]
        exact st.1.drew
    · obtain rfl : k = l.length := by omega
      go_wp2_with fail
      go_end0
      exact ⟨rfl, by rw [← addK_full f (Nat.le_refl _)]; exact O.out, G.out⟩
theorem u8_info : (Try.prog.info? 5).map (fun i => (i.zero, i.size, i.bytes)) = some (some (.int .u8 0), 1, 1) := by kernel_rfl
theorem sl_info : (Try.prog.info? 57).map (fun i => (i.zero, i.size, i.bytes)) = some (some (.slice none 0 0), 1, 24) := by kernel_rfl
theorem clone_calls (A : Option Addr) (c B : Nat) (l : List Nat) (w : World) (hc : l.length ≤ 140737488355328) (hr : RBA B w A l) :
    Calls Try.prog 54 #[.slice A l.length c] w fun e w' => ∃ v, e = .returned v ∧ OB w.heap.size w' v l ∧ Below w.heap.size w w' := by
  obtain ⟨i0, hi0, hz0, hz1, hz2⟩ := info_parts u8_info
  cases A with
  | none =>
    have hl : l = [] := by
      rcases l with _ | ⟨x, l⟩
      · rfl
      · obtain ⟨b, off, e, _⟩ := hr.at_ (k := 0) (x := x) rfl
        cases e
    subst hl
    have e0 := fun W => Lib.run_eql_slice_nil (P := Try.prog) W 57 5 none 0 c 0 0 Try.underlying57
    go_enter Try.func54, Try.ntmps54
    go_wp2_with fail
    go_ret
    exact ⟨_, rfl, World.ownsRow_nil _ _ _ _, Below.refl _ _⟩
  | some a =>
    have e0 := fun W => Lib.run_eql_slice_nil (P := Try.prog) W 57 5 (some a) l.length c 0 0 Try.underlying57
    have ow : (w.alloc (.cells #[] 5)).ownsRow w.heap.size 5 1 (.slice (some ⟨w.heap.size, 0, none⟩) 0 0) 0 [] :=
      ⟨rfl, .inr ⟨w.heap.size, 0, #[], rfl, Nat.le_refl _, heap_alloc_new w _, Nat.le_refl _, by simp [maxLen], rfl, rfl⟩⟩
    have OW := Lib.hid ow
    have HR := Lib.hid hr
    clear ow hr
    go_enter Try.func54, Try.ntmps54
    go_wp2_with (at_builtin; refine wpList_append_rd _ rfl (.tmp 5) (.tmp 6) _ rfl w.heap.size 5 i0 _ 1 1 Try.underlying57 hi0 hz0 hz1 hz2 rfl (by omega) _ 0 [] rfl OW.out (some a) l.length c (bv l) rfl ((HR.out.2.next (Bal (Below.refl _ _) _)).rd (bv_len l)) (bv_one l) (by simp only [maxLen]; omega) (by omega) (by simp) ?_; intro v1 w1 hown1 hg1 hat1)
    go_ret
    refine ⟨v1, rfl, by simpa using hown1, (Bal (Below.refl _ _) _).grown hg1 (by simp) (fun k hk => ?_)⟩
    have hk' : some w.heap.size = some k := hk
    cases hk'
    exact Nat.le_refl _
def bstr (l : List Nat) : ByteArray := ⟨(l.map UInt8.ofNat).toArray⟩
theorem bstr_inj : ∀ {l l' : List Nat}, Byt l → Byt l' → l.map UInt8.ofNat = l'.map UInt8.ofNat → l = l'
  | [], [], _, _, _ => rfl
  | [], x :: l', _, _, h => by simp at h
  | x :: l, [], _, _, h => by simp at h
  | x :: l, y :: l', h1, h2, h => by
    simp only [List.map_cons, List.cons.injEq] at h
    have hx : x < 256 := h1 x List.mem_cons_self
    have hy : y < 256 := h2 y List.mem_cons_self
    have e : x = y := by
      have := congrArg UInt8.toNat h.1
      simp only [UInt8.toNat_ofNat'] at this
      omega
    rw [e, bstr_inj (fun z hz => h1 z (List.mem_cons_of_mem _ hz)) (fun z hz => h2 z (List.mem_cons_of_mem _ hz)) h.2]
theorem bstr_eq {l l' : List Nat} (h : Byt l) (h' : Byt l') : ((bstr l).toList == (bstr l').toList) = decide (l = l') := by
  rw [Bool.eq_iff_iff, beq_iff_eq, decide_eq_true_eq]
  unfold bstr
  rw [ByteArray.toList_mk, ByteArray.toList_mk]
  exact ⟨bstr_inj h h', fun e => by rw [e]⟩
theorem conv_rba {B : Nat} {w : World} {A : Option Addr} {l : List Nat} (c : Nat) (h : RBA B w A l) : (convert 57 9 (.slice A l.length c)).run Try.prog w = .ok (.string (bstr l)) w := by
  rcases Nat.eq_zero_or_pos l.length with h0 | h0
  · have : l = [] := List.eq_nil_of_length_eq_zero h0
    subst this
    show (convert 57 9 (.slice A 0 c)).run Try.prog w = _
    rw [run_convert_bytes_string w 57 9 5 _ 0 c Try.underlying57 Try.underlying5 Try.underlying9]
    cases A <;> simp [Conv.bytesToString, loadCells]
    all_goals rfl
  · obtain ⟨b, off, rfl, _⟩ := h.at_ (List.getElem?_eq_getElem h0)
    have := run_convert_bytes_arg (P := Try.prog) w 57 5 Try.underlying57 Try.underlying5 b off l.length c (l.map fun (x : Nat) => (x : Int)) (by simp) (fun i hi => by
      obtain ⟨b', off', e', _, hc, _⟩ := h.at_ (List.getElem?_eq_getElem hi)
      injection e' with e'
      injection e' with e1 e2
      subst e1 e2
      rw [hc]; simp [List.getD_eq_getElem?_getD, hi]) 9 Try.underlying9
    rw [this]
    congr 2
    unfold strOfNums bstr
    simp [Function.comp_def]
theorem equal_calls (A A' : Option Addr) (c c' B B' : Nat) (l l' : List Nat) (w : World) (hlc : l.length ≤ c) (hc : c ≤ 9223372036854775807) (hr : RBA B w A l) (hlc' : l'.length ≤ c') (hc' : c' ≤ 9223372036854775807) (hr' : RBA B' w A' l') :
    Calls Try.prog 52 #[.slice A l.length c, .slice A' l'.length c'] w fun e w' => e = .returned (.bool (decide (l = l'))) ∧ w = w' := by
  have e1 := conv_rba c hr
  have e2 := conv_rba c' hr'
  have e3 := bstr_eq hr.1 hr'.1
  generalize decide (l = l') = z at *
  generalize bstr l = s at *
  generalize bstr l' = s' at *
  go_enter Try.func52, Try.ntmps52
  go_wp2_with fail
  go_ret
  exact ⟨rfl, rfl⟩
end Go.Proofs.Ytmpmeeacdllomaa
