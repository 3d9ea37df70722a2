/- Contracts of layer 1: small functions of the laws, and Floor. -/
import Derived.Test.YtpeoecgehdicmaaDoorFru
namespace Go.Proofs.YtpeoecgehdicmaaDoor
open Go.ChangeShapes Go.WideShapes Go.ChangeAt Go.RowKit
set_option linter.unusedVariables false
attribute [local go_sem ↓] Go.wp_at_zero Go.wp_at_succ

theorem of_calls (n d : Int) (w : World) :
    Calls Tryd.prog 20 #[.int .i64 n, .int .i64 d] w fun e w' => e = .returned (Fv n d) ∧ Below w.heap.size w w' := by
  go_enter Tryd.func20, Tryd.ntmps20
  go_wp2
  exact bodyPost_ret (v := Fv n d) (by simp [results, Tryd.results20, go_sem]) rfl ⟨rfl, Bal (Below.refl _ _) _⟩
theorem Rd.num {w : World} {A : Option Addr} {L : List Int} (h : Rd w 1 A L.length (lv L)) {i : Nat} (hi : i < L.length) : ∃ b off, A = some ⟨b, off, none⟩ ∧ b < w.heap.size ∧ w.cell? ⟨b, off + i, none⟩ = some (.int .i64 L[i]) := by
  obtain ⟨b, off, e, hl, hc⟩ := h.2 (by omega)
  exact ⟨b, off, e, hl, hc i _ (lv_get (List.getElem?_eq_getElem hi))⟩
set_option maxHeartbeats 1000000 in
theorem same_calls (a b : Option Addr) (ca cb : Nat) (L : List Int) (w : World) (h1 : L.length ≤ ca) (h2 : ca ≤ 9223372036854775807) (h3 : L.length ≤ cb) (h4 : cb ≤ 9223372036854775807) (ha : Rd w 1 a L.length (lv L)) (hb : Rd w 1 b L.length (lv L)) :
    Calls Tryd.prog 14 #[.slice a L.length ca, .slice b L.length cb] w fun e w' => e = .returned (.bool true) ∧ ∃ n, w' = w.drewN n := by
  have HA := Lib.hid ha
  have HB := Lib.hid hb
  clear ha hb
  have hne : (((L.length : Nat) : Int) != ((L.length : Nat) : Int)) = false := by simp
  go_enter Tryd.func14, Tryd.ntmps14
  go_wp2_with fail
  go_loopw [5] (fun i wr => ∃ k n : Nat, k ≤ L.length ∧ i = .int .i64 k ∧ wr = w.drewN n) (fun i _ => L.length - (intOf i).toNat)
  case atStart => exact ⟨0, 0, by omega, rfl, rfl⟩
  case round =>
    obtain ⟨k, n, hk, rfl, rfl⟩ := hrel
    by_cases hlt : k < L.length
    · obtain ⟨b1, o1, rfl, _, c0⟩ := HA.out.num hlt
      obtain ⟨b2, o2, rfl, _, d0⟩ := HB.out.num hlt
      have km0 : (0 : Int) ≤ (k : Int) := by omega
      have km1 : (k : Int) < (L.length : Int) := by omega
      have xx : (L[k] != L[k]) = false := by simp
      go_wp2_with fail
      go_quiet (fail)
      go_wp2_with fail
      exact ⟨⟨k + 1, n + nq, by omega, by go_num, by first | rfl | rw [World.drewN_drewN]⟩, by simp [intOf]; omega⟩
    · obtain rfl : k = L.length := by omega
      go_wp2_with fail
      go_ret
      exact ⟨rfl, n, rfl⟩
def flR (n d : Int) : Int := if errF n d = 0 then n / d else 0
set_option maxHeartbeats 1000000 in
theorem floorF_calls (n d : Int) (w : World) :
    Calls Tryd.prog 17 #[Fv n d] w fun e w' => e = .returned (.tuple #[.int .i64 (flR n d), .int .i64 (errF n d)]) ∧ Below w.heap.size w w' := by
  have C1 := Lib.hid (fun W => check_calls n d W)
  by_cases ck : errF n d = 0
  · have F : Hid (flR n d = n / d) := Lib.hid (by unfold flR; rw [if_pos ck])
    have v := errF_ok ck
    have FC := Lib.hid (fun W => floor_calls n d W (by have := v.n1; omega) (by have := v.n2; omega) v.d1 (by have := v.d2; omega))
    rw [ck] at C1 ⊢
    generalize flR n d = res at *
    generalize n / d = r at *
    clear ck v
    go_enter Tryd.func17, Tryd.ntmps17
    go_wp2_with fail
    refine (C1.out _).mono ?_
    rintro e w1 ⟨rfl, hb⟩
    have K := blk_next hb (blk_new w (.cells #[.int .i64 n, .int .i64 d] 23))
    have NN := Lib.hid (Bgo (Bal (Below.refl _ _) _) hb)
    have a0 := blk_cell K 0 _ rfl
    have a1 := blk_cell K 1 _ rfl
    have al := blk_lt K
    clear K hb
    go_wp2_with fail
    refine (FC.out _).mono ?_
    rintro e w2 ⟨rfl, rfl⟩
    go_wp2_with fail
    go_ret2
    exact ⟨by rw [F.out]; rfl, NN.out⟩
  · have F : Hid (flR n d = 0) := Lib.hid (by unfold flR; rw [if_neg ck])
    have ck' : (errF n d != 0) = true := by rw [bne_iff_ne]; exact ck
    generalize flR n d = res at *
    generalize errF n d = er at *
    clear ck
    go_enter Tryd.func17, Tryd.ntmps17
    go_wp2_with fail
    refine (C1.out _).mono ?_
    rintro e w1 ⟨rfl, hb⟩
    have NN := Lib.hid (Bgo (Bal (Below.refl _ _) _) hb)
    clear hb
    go_wp2_with fail
    go_ret2
    exact ⟨by rw [F.out]; rfl, NN.out⟩
set_option maxRecDepth 100000 in
set_option maxHeartbeats 4000000 in
theorem nearL_calls (m n d : Int) (w : World) (hn : NearR 43 30 m (n, d, 0)) :
    Calls Tryd.prog 41 #[.int .i64 m, .int .i64 n, .int .i64 d] w fun e w' => e = .returned (.bool true) ∧ Below w.heap.size w w' := by
  have HN := Lib.hid hn
  clear hn
  go_enter Tryd.func41, Tryd.ntmps41
  go_wp2_with fail
  refine (of_calls 43 30 _).mono ?_
  rintro e w1 ⟨rfl, hb⟩
  have NN := Lib.hid hb
  clear hb
  go_wp2_with fail
  refine (near_calls 43 30 m _).mono ?_
  rintro e w2 ⟨r, rfl, hr, hb⟩
  obtain rfl := HN.out.unique hr
  replace NN := Lib.hid (Bal (Bgo NN.out hb) (.cells #[.int .i64 n, .int .i64 d] 23))
  have B := Lib.hid (blk_new w2 (.cells #[.int .i64 n, .int .i64 d] 23))
  clear hb hr HN
  go_wp2_with fail
  generalize w2.alloc (.cells #[.int .i64 n, .int .i64 d] 23) = W at *
  generalize w2.heap.size = g at *
  refine region_I (S := SK [(3, g, .cells #[.int .i64 n, .int .i64 d] 23)]) (by kernel_rfl) ?_
  have HAL := Lib.hid (fun (k : Nat) => (show SK [(3, g, .cells #[.int .i64 n, .int .i64 d] 23)] k W.drew from fun p hp e => by
    simp only [List.mem_cons, List.not_mem_nil, or_false] at hp
    rcases hp with rfl
    · exact B.out))
  refine only_I 0 (by kernel_rfl) rfl (fun K' hK' => ?_)
  go_simp
  refine hK'.out _ _ (fun k _ h => h) ?_
  clear hK' K'
  try simp only [Act.put, List.setIfInBounds_toArray, List.set_cons_zero, List.set_cons_succ]
  refine only_I 1 (by kernel_rfl) rfl (fun K' hK' => ?_)
  go_simp
  refine hK'.out _ _ (fun k _ h => h) ?_
  clear hK' K'
  try simp only [Act.put, List.setIfInBounds_toArray, List.set_cons_zero, List.set_cons_succ]
  refine only_I 2 (by kernel_rfl) rfl (fun K' hK' => ?_)
  go_simp
  refine hK'.out _ _ (fun k _ h => h) ?_
  clear hK' K'
  try simp only [Act.put, List.setIfInBounds_toArray, List.set_cons_zero, List.set_cons_succ]
  refine take_I 3 (Fv n d) (some 18) rfl (by kernel_rfl) (by kernel_rfl) (by kernel_rfl) rfl (fun _ _ _ h => h) (Or.inl ⟨by rfl, ?_⟩) (HAL.out 3) ?_
  · intro X hX
    have hh := hX (3, g, .cells #[.int .i64 n, .int .i64 d] 23) (List.Mem.head _) rfl
    have hh0 := blk_cell hh 0 _ rfl
    have hh1 := blk_cell hh 1 _ rfl
    have hhl := blk_lt hh
    clear hh
    clear hX 
    go_simp
  try simp only [Act.put, List.setIfInBounds_toArray, List.set_cons_zero, List.set_cons_succ]
  refine take_I 4 (.int .i64 n) (some 19) rfl (by kernel_rfl) (by kernel_rfl) (by kernel_rfl) rfl (fun _ _ _ h => h) (Or.inl ⟨by rfl, ?_⟩) (SK.drop (by simp)) ?_
  · intro X hX
    clear hX 
    go_simp
  try simp only [Act.put, List.setIfInBounds_toArray, List.set_cons_zero, List.set_cons_succ]
  refine take_I 5 (.int .i64 d) (some 20) rfl (by kernel_rfl) (by kernel_rfl) (by kernel_rfl) rfl (fun _ _ _ h => h) (Or.inl ⟨by rfl, ?_⟩) (SK.drop (by simp)) ?_
  · intro X hX
    clear hX 
    go_simp
  try simp only [Act.put, List.setIfInBounds_toArray, List.set_cons_zero, List.set_cons_succ]
  refine only_I 6 (by kernel_rfl) rfl (fun K' hK' => ?_)
  go_simp
  go_at_call 20
  refine (of_calls n d _).mono ?_
  rintro e w3 ⟨rfl, hb⟩
  go_simp
  refine hK'.out _ _ (fun k _ hS => hS.next hb) ?_
  clear hK' K'
  try simp only [Act.put, List.setIfInBounds_toArray, List.set_cons_zero, List.set_cons_succ]
  replace NN := Lib.hid (Bgo NN.out (undrewB hb))
  clear hb HAL B
  refine only_I 7 (by kernel_rfl) rfl (fun K' hK' => ?_)
  go_simp
  refine hK'.out _ _ (fun k _ h => h) ?_
  clear hK' K'
  try simp only [Act.put, List.setIfInBounds_toArray, List.set_cons_zero, List.set_cons_succ]
  refine only_I 8 (by kernel_rfl) rfl (fun K' hK' => ?_)
  go_simp
  refine hK'.out _ _ (fun k _ h => h) ?_
  clear hK' K'
  try simp only [Act.put, List.setIfInBounds_toArray, List.set_cons_zero, List.set_cons_succ]
  refine only_I 9 (by kernel_rfl) rfl (fun K' hK' => ?_)
  go_simp
  refine hK'.out _ _ (fun k _ h => h) ?_
  clear hK' K'
  try simp only [Act.put, List.setIfInBounds_toArray, List.set_cons_zero, List.set_cons_succ]
  refine done_I (by kernel_rfl) ?_ _
  go_wp2_with fail
  go_ret
  exact ⟨by simp, NN.out⟩
end Go.Proofs.YtpeoecgehdicmaaDoor
