/- Contract of layer 1: the chapter's examples. -/
import Derived.Test.YtpeoecgehdicmaaDoorFrv
namespace Go.Proofs.YtpeoecgehdicmaaDoor
open Go.ChangeShapes Go.WideShapes Go.ChangeAt Go.RowKit
set_option linter.unusedVariables false
attribute [local go_sem ↓] Go.wp_at_zero Go.wp_at_succ

theorem ex43 : exR 43 30 = [1, 2, 3, 4] := by
  unfold exR
  rw [if_pos (by decide), Farey.ex_pos (by decide), show (43 : Int) / 30 = 1 from rfl, show (43 : Int) % 30 = 13 from rfl, Farey.ex_pos (by decide), show (30 : Int) / 13 = 2 from rfl, show (30 : Int) % 13 = 4 from rfl, Farey.ex_pos (by decide), show (13 : Int) / 4 = 3 from rfl, show (13 : Int) % 4 = 1 from rfl, Farey.ex_pos (by decide), show (4 : Int) / 1 = 4 from rfl, show (4 : Int) % 1 = 0 from rfl, Farey.ex_zero (by decide)]
theorem ex72 : exR (-7) 2 = [-4, 2] := by
  unfold exR
  rw [if_pos (by decide), Farey.ex_pos (by decide), show (-7 : Int) / 2 = -4 from rfl, show (-7 : Int) % 2 = 1 from rfl, Farey.ex_pos (by decide), show (2 : Int) / 1 = 2 from rfl, show (2 : Int) % 1 = 0 from rfl, Farey.ex_zero (by decide)]
def ExC (w : World) (n : Nat) (l : List Int) (e : Ending) (w' : World) : Prop := ∃ A c, e = .returned (.tuple #[.slice A n c, .int .i64 0]) ∧ n ≤ c ∧ c ≤ 9223372036854775807 ∧ Rd w' 1 A n (lv l) ∧ Below w.heap.size w w'
theorem exC {N D : Int} {n : Nat} {l : List Int} (h : exR N D = l) (hn : l.length = n) (he : errF N D = 0) (w : World) : Calls Tryd.prog 6 #[Fv N D] w (ExC w n l) :=
  (expand_calls N D w).mono fun e w' ⟨v, h1, h2, h3⟩ => by
    rw [h, hn] at h2
    rw [he] at h1
    obtain ⟨A, c, rfl, c1, c2, hr⟩ := Rd.of_own h2
    exact ⟨A, c, h1, c1, c2, hr, h3⟩
theorem Rd.new {w : World} {l : List Int} {vs : Array Value} {t : TypeId} {n : Nat} (h : vs.toList = lv l) (hn : l.length = n) : Rd (w.alloc (.cells vs t)) 1 (some ⟨w.heap.size, 0, none⟩) n (lv l) := by
  refine ⟨by rw [lv_len, hn]; omega, fun _ => ⟨_, _, rfl, blk_lt (blk_new w _), fun j u hu => blk_cell (blk_new w _) (0 + j) u ?_⟩⟩
  rw [← h] at hu
  simpa using hu
theorem sameC {a b : Option Addr} {n ca cb : Nat} {l : List Int} (hn : l.length = n) (w : World) (h1 : n ≤ ca) (h2 : ca ≤ 9223372036854775807) (h3 : n ≤ cb) (h4 : cb ≤ 9223372036854775807) (ha : Rd w 1 a n (lv l)) (hb : Rd w 1 b n (lv l)) :
    Calls Tryd.prog 14 #[.slice a n ca, .slice b n cb] w fun e w' => e = .returned (.bool true) ∧ Below w.heap.size w w' := by
  subst hn
  exact (same_calls a b ca cb l w h1 h2 h3 h4 ha hb).mono fun e w' ⟨h, k, hk⟩ => ⟨h, by rw [hk]; exact below_drewN (Below.refl _ _) k⟩
theorem nearC {N D n p q p' q' x y : Int} (he : errF N D = 0) (h1 : 1 ≤ n) (h2 : n ≤ 1000000000000000000) (h3 : n < D) (hf : Farey.FP N D n p q p' q') (hx : ((N * q - p * D) * q' ≤ (p' * D - N * q') * q ∧ x = p ∧ y = q) ∨ ((p' * D - N * q') * q < (N * q - p * D) * q' ∧ x = p' ∧ y = q')) : NearR N D n (x, y, 0) :=
  .inr (.inr (.inr ⟨he, h1, h2, h3, x, y, ⟨p, q, p', q', hf, hx⟩, rfl⟩))
theorem n1 : NearR 43 30 1 (1, 1, 0) := nearC (p := 1) (q := 1) (p' := 2) (q' := 1) (by decide) (by decide) (by decide) (by decide) (by constructor <;> decide) (by decide)
theorem n2 : NearR 43 30 2 (3, 2, 0) := nearC (p := 1) (q := 1) (p' := 3) (q' := 2) (by decide) (by decide) (by decide) (by decide) (by constructor <;> decide) (by decide)
theorem n7 : NearR 43 30 7 (10, 7, 0) := nearC (p := 10) (q := 7) (p' := 3) (q' := 2) (by decide) (by decide) (by decide) (by decide) (by constructor <;> decide) (by decide)
theorem n16 : NearR 43 30 16 (23, 16, 0) := nearC (p := 10) (q := 7) (p' := 23) (q' := 16) (by decide) (by decide) (by decide) (by decide) (by constructor <;> decide) (by decide)
theorem n29 : NearR 43 30 29 (33, 23, 0) := nearC (p := 10) (q := 7) (p' := 33) (q' := 23) (by decide) (by decide) (by decide) (by decide) (by constructor <;> decide) (by decide)
theorem nh : NearR 1 2 1 (0, 1, 0) := nearC (p := 0) (q := 1) (p' := 1) (q' := 1) (by decide) (by decide) (by decide) (by decide) (by constructor <;> decide) (by decide)
theorem mulG : mulR 1000000000000000000 3 3 1000000000000000000 = (1, 1, 0) := by decide +kernel
theorem flG : flR (-7) 2 = -4 := by decide
set_option maxRecDepth 100000 in
set_option maxHeartbeats 16000000 in
theorem alive_calls (w : World) : Calls Tryd.prog 16 #[] w fun e w' => e = .returned (.bool true) ∧ Below w.heap.size w w' := by
  go_enter Tryd.func16, Tryd.ntmps16
  go_wp2_with fail
  refine (of_calls 43 30 _).mono ?_
  rintro e w1 ⟨rfl, hb⟩
  have NN := Lib.hid hb
  clear hb
  go_wp2_with fail
  refine (exC (n := 4) ex43 rfl (by decide) _).mono ?_
  rintro e w2 ⟨A1, c1, rfl, p1, p2, hr, hb⟩
  replace NN := Lib.hid (Bgo NN.out hb)
  have RA := Lib.hid hr
  clear hr
  clear hb
  go_wp2_with fail
  refine (of_calls (-7) 2 _).mono ?_
  rintro e w3 ⟨rfl, hb⟩
  replace NN := Lib.hid (Bgo NN.out hb)
  replace RA := Lib.hid (RA.out.next hb)
  clear hb
  go_wp2_with fail
  refine (exC (n := 2) ex72 rfl (by decide) _).mono ?_
  rintro e w4 ⟨A2, c2, rfl, p3, p4, hr, hb⟩
  replace NN := Lib.hid (Bgo NN.out hb)
  replace RA := Lib.hid (RA.out.next hb)
  have RB := Lib.hid hr
  clear hr
  clear hb
  go_wp2_with fail
  refine (of_calls (-7) 2 _).mono ?_
  rintro e w5 ⟨rfl, hb⟩
  replace NN := Lib.hid (Bgo NN.out hb)
  replace RA := Lib.hid (RA.out.next hb)
  replace RB := Lib.hid (RB.out.next hb)
  clear hb
  go_wp2_with fail
  refine (floorF_calls (-7) 2 _).mono ?_
  rintro e w6 ⟨rfl, hb⟩
  replace NN := Lib.hid (Bgo NN.out hb)
  replace RA := Lib.hid (RA.out.next hb)
  replace RB := Lib.hid (RB.out.next hb)
  rw [flG, show errF (-7) 2 = 0 by decide]
  clear hb
  go_wp2_with fail
  refine (of_calls 1 2 _).mono ?_
  rintro e w7 ⟨rfl, hb⟩
  replace NN := Lib.hid (Bgo NN.out hb)
  replace RA := Lib.hid (RA.out.next hb)
  replace RB := Lib.hid (RB.out.next hb)
  clear hb
  go_wp2_with fail
  refine (near_calls 1 2 1 _).mono ?_
  rintro e w8 ⟨r, rfl, hr, hb⟩
  obtain rfl := nh.unique hr
  clear hr
  replace NN := Lib.hid (Bgo NN.out hb)
  replace RA := Lib.hid (RA.out.next hb)
  replace RB := Lib.hid (RB.out.next hb)
  clear hb
  have hb : Below w8.heap.size w8 (w8.alloc (.cells #[.int .i64 0, .int .i64 1] 23)) := Bal (Below.refl _ _) _
  replace NN := Lib.hid (Bgo NN.out hb)
  replace RA := Lib.hid (RA.out.next hb)
  replace RB := Lib.hid (RB.out.next hb)
  have BA := Lib.hid (blk_new w8 (.cells #[.int .i64 0, .int .i64 1] 23))
  clear hb
  go_wp2_with fail
  generalize w8.alloc (.cells #[.int .i64 0, .int .i64 1] 23) = W8 at *
  generalize w8.heap.size = gBA at *
  refine (of_calls 1000000000000000000 3 _).mono ?_
  rintro e w9 ⟨rfl, hb⟩
  replace NN := Lib.hid (Bgo NN.out hb)
  replace RA := Lib.hid (RA.out.next hb)
  replace RB := Lib.hid (RB.out.next hb)
  replace BA := Lib.hid (blk_next hb BA.out)
  clear hb
  go_wp2_with fail
  refine (of_calls 3 1000000000000000000 _).mono ?_
  rintro e w10 ⟨rfl, hb⟩
  replace NN := Lib.hid (Bgo NN.out hb)
  replace RA := Lib.hid (RA.out.next hb)
  replace RB := Lib.hid (RB.out.next hb)
  replace BA := Lib.hid (blk_next hb BA.out)
  clear hb
  go_wp2_with fail
  refine (mul_calls 1000000000000000000 3 3 1000000000000000000 _).mono ?_
  rintro e w11 ⟨rfl, hb⟩
  rw [mulG]
  replace NN := Lib.hid (Bgo NN.out hb)
  replace RA := Lib.hid (RA.out.next hb)
  replace RB := Lib.hid (RB.out.next hb)
  replace BA := Lib.hid (blk_next hb BA.out)
  clear hb
  have hb : Below w11.heap.size w11 (w11.alloc (.cells #[.int .i64 1, .int .i64 1] 23)) := Bal (Below.refl _ _) _
  replace NN := Lib.hid (Bgo NN.out hb)
  replace RA := Lib.hid (RA.out.next hb)
  replace RB := Lib.hid (RB.out.next hb)
  replace BA := Lib.hid (blk_next hb BA.out)
  have BB := Lib.hid (blk_new w11 (.cells #[.int .i64 1, .int .i64 1] 23))
  clear hb
  go_wp2_with fail
  generalize w11.alloc (.cells #[.int .i64 1, .int .i64 1] 23) = W11 at *
  generalize w11.heap.size = gBB at *
  refine region_I (S := SK [(44, gBA, .cells #[.int .i64 0, .int .i64 1] 23), (53, gBB, .cells #[.int .i64 1, .int .i64 1] 23)]) (by kernel_rfl) ?_
  have HAL := Lib.hid (fun (k : Nat) => (show SK [(44, gBA, .cells #[.int .i64 0, .int .i64 1] 23), (53, gBB, .cells #[.int .i64 1, .int .i64 1] 23)] k W11.drew from fun p hp e => by
    simp only [List.mem_cons, List.not_mem_nil, or_false] at hp
    rcases hp with rfl | rfl
    · exact BA.out
    · exact BB.out))
  have UD : Below W11.heap.size W11 W11.drew := Below.drew (Below.refl _ _)
  replace NN := Lib.hid (Bgo NN.out UD)
  replace RA := Lib.hid (RA.out.next UD)
  replace RB := Lib.hid (RB.out.next UD)
  clear UD BA BB
  refine only_I 0 (by kernel_rfl) rfl (fun K' hK' => ?_)
  go_simp
  refine hK'.out _ _ (fun k _ h => h) ?_
  clear hK' K'
  try simp only [Act.put, List.setIfInBounds_toArray, List.set_cons_zero, List.set_cons_succ]
  refine only_I 1 (by kernel_rfl) rfl (fun K' hK' => ?_)
  go_simp
  refine hK'.out _ _ (fun k _ h => h) ?_
  clear hK' K'
  try simp only [Act.put, List.setIfInBounds_toArray, List.set_cons_zero, List.set_cons_succ]
  refine only_I 2 (by kernel_rfl) rfl (fun K' hK' => ?_)
  go_simp
  refine hK'.out _ _ (fun k _ h => h) ?_
  clear hK' K'
  try simp only [Act.put, List.setIfInBounds_toArray, List.set_cons_zero, List.set_cons_succ]
  refine take_I 3 (.slice A1 4 c1) (some 40) rfl (by kernel_rfl) (by kernel_rfl) (by kernel_rfl) rfl (fun _ _ _ h => h) (Or.inl ⟨by rfl, ?_⟩) (SK.drop (by simp)) ?_
  · intro X hX
    clear hX 
    go_simp
  try simp only [Act.put, List.setIfInBounds_toArray, List.set_cons_zero, List.set_cons_succ]
  refine only_I 4 (by kernel_rfl) rfl (fun K' hK' => ?_)
  go_simp
  refine hK'.out _ _ (fun k _ hS => hS.next (Bal (Below.refl _ _) _)) ?_
  clear hK' K'
  try simp only [Act.put, List.setIfInBounds_toArray, List.set_cons_zero, List.set_cons_succ]
  have hb : Below W11.drew.heap.size W11.drew (W11.drew.alloc (.cells #[.int .i64 (1), .int .i64 (2), .int .i64 (3), .int .i64 (4)] 2)) := Bal (Below.refl _ _) _
  replace HAL := Lib.hid (fun k => (HAL.out k).next hb)
  replace NN := Lib.hid (Bgo NN.out hb)
  replace RA := Lib.hid (RA.out.next hb)
  replace RB := Lib.hid (RB.out.next hb)
  have RN : Hid (Rd (W11.drew.alloc (.cells #[.int .i64 (1), .int .i64 (2), .int .i64 (3), .int .i64 (4)] 2)) 1 (some ⟨W11.drew.heap.size, 0, none⟩) 4 (lv [1, 2, 3, 4])) := Lib.hid (Rd.new rfl rfl)
  clear hb
  refine only_I 5 (by kernel_rfl) rfl (fun K' hK' => ?_)
  go_simp
  go_at_call 14
  refine (sameC (n := 4) (l := [1, 2, 3, 4]) rfl _ p1 p2 (by omega) (by omega) RA.out RN.out).mono ?_
  rintro e x1 ⟨rfl, hb⟩
  go_simp
  refine hK'.out _ _ (fun k _ hS => hS.next hb) ?_
  clear hK' K'
  try simp only [Act.put, List.setIfInBounds_toArray, List.set_cons_zero, List.set_cons_succ]
  replace HAL := Lib.hid (fun k => (HAL.out k).next hb)
  replace NN := Lib.hid (Bgo NN.out hb)
  replace RA := Lib.hid (RA.out.next hb)
  replace RB := Lib.hid (RB.out.next hb)
  clear hb
  clear RN
  refine only_I 6 (by kernel_rfl) rfl (fun K' hK' => ?_)
  go_simp
  refine hK'.out _ _ (fun k _ h => h) ?_
  clear hK' K'
  try simp only [Act.put, List.setIfInBounds_toArray, List.set_cons_zero, List.set_cons_succ]
  refine only_I 7 (by kernel_rfl) rfl (fun K' hK' => ?_)
  go_simp
  refine hK'.out _ _ (fun k _ h => h) ?_
  clear hK' K'
  try simp only [Act.put, List.setIfInBounds_toArray, List.set_cons_zero, List.set_cons_succ]
  refine only_I 8 (by kernel_rfl) rfl (fun K' hK' => ?_)
  go_simp
  go_at_call 41
  refine (nearL_calls _ _ _ _ n1).mono ?_
  rintro e x2 ⟨rfl, hb⟩
  go_simp
  refine hK'.out _ _ (fun k _ hS => hS.next hb) ?_
  clear hK' K'
  try simp only [Act.put, List.setIfInBounds_toArray, List.set_cons_zero, List.set_cons_succ]
  replace HAL := Lib.hid (fun k => (HAL.out k).next hb)
  replace NN := Lib.hid (Bgo NN.out hb)
  replace RA := Lib.hid (RA.out.next hb)
  replace RB := Lib.hid (RB.out.next hb)
  clear hb
  refine only_I 9 (by kernel_rfl) rfl (fun K' hK' => ?_)
  go_simp
  refine hK'.out _ _ (fun k _ h => h) ?_
  clear hK' K'
  try simp only [Act.put, List.setIfInBounds_toArray, List.set_cons_zero, List.set_cons_succ]
  refine only_I 10 (by kernel_rfl) rfl (fun K' hK' => ?_)
  go_simp
  refine hK'.out _ _ (fun k _ h => h) ?_
  clear hK' K'
  try simp only [Act.put, List.setIfInBounds_toArray, List.set_cons_zero, List.set_cons_succ]
  refine only_I 11 (by kernel_rfl) rfl (fun K' hK' => ?_)
  go_simp
  go_at_call 41
  refine (nearL_calls _ _ _ _ n2).mono ?_
  rintro e x3 ⟨rfl, hb⟩
  go_simp
  refine hK'.out _ _ (fun k _ hS => hS.next hb) ?_
  clear hK' K'
  try simp only [Act.put, List.setIfInBounds_toArray, List.set_cons_zero, List.set_cons_succ]
  replace HAL := Lib.hid (fun k => (HAL.out k).next hb)
  replace NN := Lib.hid (Bgo NN.out hb)
  replace RA := Lib.hid (RA.out.next hb)
  replace RB := Lib.hid (RB.out.next hb)
  clear hb
  refine only_I 12 (by kernel_rfl) rfl (fun K' hK' => ?_)
  go_simp
  refine hK'.out _ _ (fun k _ h => h) ?_
  clear hK' K'
  try simp only [Act.put, List.setIfInBounds_toArray, List.set_cons_zero, List.set_cons_succ]
  refine only_I 13 (by kernel_rfl) rfl (fun K' hK' => ?_)
  go_simp
  refine hK'.out _ _ (fun k _ h => h) ?_
  clear hK' K'
  try simp only [Act.put, List.setIfInBounds_toArray, List.set_cons_zero, List.set_cons_succ]
  refine only_I 14 (by kernel_rfl) rfl (fun K' hK' => ?_)
  go_simp
  go_at_call 41
  refine (nearL_calls _ _ _ _ n7).mono ?_
  rintro e x4 ⟨rfl, hb⟩
  go_simp
  refine hK'.out _ _ (fun k _ hS => hS.next hb) ?_
  clear hK' K'
  try simp only [Act.put, List.setIfInBounds_toArray, List.set_cons_zero, List.set_cons_succ]
  replace HAL := Lib.hid (fun k => (HAL.out k).next hb)
  replace NN := Lib.hid (Bgo NN.out hb)
  replace RA := Lib.hid (RA.out.next hb)
  replace RB := Lib.hid (RB.out.next hb)
  clear hb
  refine only_I 15 (by kernel_rfl) rfl (fun K' hK' => ?_)
  go_simp
  refine hK'.out _ _ (fun k _ h => h) ?_
  clear hK' K'
  try simp only [Act.put, List.setIfInBounds_toArray, List.set_cons_zero, List.set_cons_succ]
  refine only_I 16 (by kernel_rfl) rfl (fun K' hK' => ?_)
  go_simp
  refine hK'.out _ _ (fun k _ h => h) ?_
  clear hK' K'
  try simp only [Act.put, List.setIfInBounds_toArray, List.set_cons_zero, List.set_cons_succ]
  refine only_I 17 (by kernel_rfl) rfl (fun K' hK' => ?_)
  go_simp
  go_at_call 41
  refine (nearL_calls _ _ _ _ n16).mono ?_
  rintro e x5 ⟨rfl, hb⟩
  go_simp
  refine hK'.out _ _ (fun k _ hS => hS.next hb) ?_
  clear hK' K'
  try simp only [Act.put, List.setIfInBounds_toArray, List.set_cons_zero, List.set_cons_succ]
  replace HAL := Lib.hid (fun k => (HAL.out k).next hb)
  replace NN := Lib.hid (Bgo NN.out hb)
  replace RA := Lib.hid (RA.out.next hb)
  replace RB := Lib.hid (RB.out.next hb)
  clear hb
  refine only_I 18 (by kernel_rfl) rfl (fun K' hK' => ?_)
  go_simp
  refine hK'.out _ _ (fun k _ h => h) ?_
  clear hK' K'
  try simp only [Act.put, List.setIfInBounds_toArray, List.set_cons_zero, List.set_cons_succ]
  refine only_I 19 (by kernel_rfl) rfl (fun K' hK' => ?_)
  go_simp
  refine hK'.out _ _ (fun k _ h => h) ?_
  clear hK' K'
  try simp only [Act.put, List.setIfInBounds_toArray, List.set_cons_zero, List.set_cons_succ]
  refine only_I 20 (by kernel_rfl) rfl (fun K' hK' => ?_)
  go_simp
  go_at_call 41
  refine (nearL_calls _ _ _ _ n29).mono ?_
  rintro e x6 ⟨rfl, hb⟩
  go_simp
  refine hK'.out _ _ (fun k _ hS => hS.next hb) ?_
  clear hK' K'
  try simp only [Act.put, List.setIfInBounds_toArray, List.set_cons_zero, List.set_cons_succ]
  replace HAL := Lib.hid (fun k => (HAL.out k).next hb)
  replace NN := Lib.hid (Bgo NN.out hb)
  replace RA := Lib.hid (RA.out.next hb)
  replace RB := Lib.hid (RB.out.next hb)
  clear hb
  refine only_I 21 (by kernel_rfl) rfl (fun K' hK' => ?_)
  go_simp
  refine hK'.out _ _ (fun k _ h => h) ?_
  clear hK' K'
  try simp only [Act.put, List.setIfInBounds_toArray, List.set_cons_zero, List.set_cons_succ]
  refine only_I 22 (by kernel_rfl) rfl (fun K' hK' => ?_)
  go_simp
  refine hK'.out _ _ (fun k _ h => h) ?_
  clear hK' K'
  try simp only [Act.put, List.setIfInBounds_toArray, List.set_cons_zero, List.set_cons_succ]
  refine only_I 23 (by kernel_rfl) rfl (fun K' hK' => ?_)
  go_simp
  refine hK'.out _ _ (fun k _ h => h) ?_
  clear hK' K'
  try simp only [Act.put, List.setIfInBounds_toArray, List.set_cons_zero, List.set_cons_succ]
  refine only_I 24 (by kernel_rfl) rfl (fun K' hK' => ?_)
  go_simp
  refine hK'.out _ _ (fun k _ h => h) ?_
  clear hK' K'
  try simp only [Act.put, List.setIfInBounds_toArray, List.set_cons_zero, List.set_cons_succ]
  refine only_I 25 (by kernel_rfl) rfl (fun K' hK' => ?_)
  go_simp
  refine hK'.out _ _ (fun k _ h => h) ?_
  clear hK' K'
  try simp only [Act.put, List.setIfInBounds_toArray, List.set_cons_zero, List.set_cons_succ]
  refine only_I 26 (by kernel_rfl) rfl (fun K' hK' => ?_)
  go_simp
  refine hK'.out _ _ (fun k _ h => h) ?_
  clear hK' K'
  try simp only [Act.put, List.setIfInBounds_toArray, List.set_cons_zero, List.set_cons_succ]
  refine take_I 27 (.slice A2 2 c2) (some 64) rfl (by kernel_rfl) (by kernel_rfl) (by kernel_rfl) rfl (fun _ _ _ h => h) (Or.inl ⟨by rfl, ?_⟩) (SK.drop (by simp)) ?_
  · intro X hX
    clear hX 
    go_simp
  try simp only [Act.put, List.setIfInBounds_toArray, List.set_cons_zero, List.set_cons_succ]
  refine only_I 28 (by kernel_rfl) rfl (fun K' hK' => ?_)
  go_simp
  refine hK'.out _ _ (fun k _ hS => hS.next (Bal (Below.refl _ _) _)) ?_
  clear hK' K'
  try simp only [Act.put, List.setIfInBounds_toArray, List.set_cons_zero, List.set_cons_succ]
  have hb : Below x6.heap.size x6 (x6.alloc (.cells #[.int .i64 (-4), .int .i64 (2)] 2)) := Bal (Below.refl _ _) _
  replace HAL := Lib.hid (fun k => (HAL.out k).next hb)
  replace NN := Lib.hid (Bgo NN.out hb)
  replace RA := Lib.hid (RA.out.next hb)
  replace RB := Lib.hid (RB.out.next hb)
  have RN : Hid (Rd (x6.alloc (.cells #[.int .i64 (-4), .int .i64 (2)] 2)) 1 (some ⟨x6.heap.size, 0, none⟩) 2 (lv [-4, 2])) := Lib.hid (Rd.new rfl rfl)
  clear hb
  refine only_I 29 (by kernel_rfl) rfl (fun K' hK' => ?_)
  go_simp
  go_at_call 14
  refine (sameC (n := 2) (l := [-4, 2]) rfl _ p3 p4 (by omega) (by omega) RB.out RN.out).mono ?_
  rintro e x7 ⟨rfl, hb⟩
  go_simp
  refine hK'.out _ _ (fun k _ hS => hS.next hb) ?_
  clear hK' K'
  try simp only [Act.put, List.setIfInBounds_toArray, List.set_cons_zero, List.set_cons_succ]
  replace HAL := Lib.hid (fun k => (HAL.out k).next hb)
  replace NN := Lib.hid (Bgo NN.out hb)
  replace RA := Lib.hid (RA.out.next hb)
  replace RB := Lib.hid (RB.out.next hb)
  clear hb
  clear RN
  refine only_I 30 (by kernel_rfl) rfl (fun K' hK' => ?_)
  go_simp
  refine hK'.out _ _ (fun k _ h => h) ?_
  clear hK' K'
  try simp only [Act.put, List.setIfInBounds_toArray, List.set_cons_zero, List.set_cons_succ]
  refine only_I 31 (by kernel_rfl) rfl (fun K' hK' => ?_)
  go_simp
  refine hK'.out _ _ (fun k _ h => h) ?_
  clear hK' K'
  try simp only [Act.put, List.setIfInBounds_toArray, List.set_cons_zero, List.set_cons_succ]
  refine only_I 32 (by kernel_rfl) rfl (fun K' hK' => ?_)
  go_simp
  refine hK'.out _ _ (fun k _ h => h) ?_
  clear hK' K'
  try simp only [Act.put, List.setIfInBounds_toArray, List.set_cons_zero, List.set_cons_succ]
  refine only_I 33 (by kernel_rfl) rfl (fun K' hK' => ?_)
  go_simp
  refine hK'.out _ _ (fun k _ h => h) ?_
  clear hK' K'
  try simp only [Act.put, List.setIfInBounds_toArray, List.set_cons_zero, List.set_cons_succ]
  refine only_I 34 (by kernel_rfl) rfl (fun K' hK' => ?_)
  go_simp
  refine hK'.out _ _ (fun k _ h => h) ?_
  clear hK' K'
  try simp only [Act.put, List.setIfInBounds_toArray, List.set_cons_zero, List.set_cons_succ]
  refine only_I 35 (by kernel_rfl) rfl (fun K' hK' => ?_)
  go_simp
  refine hK'.out _ _ (fun k _ h => h) ?_
  clear hK' K'
  try simp only [Act.put, List.setIfInBounds_toArray, List.set_cons_zero, List.set_cons_succ]
  refine only_I 36 (by kernel_rfl) rfl (fun K' hK' => ?_)
  go_simp
  refine hK'.out _ _ (fun k _ h => h) ?_
  clear hK' K'
  try simp only [Act.put, List.setIfInBounds_toArray, List.set_cons_zero, List.set_cons_succ]
  refine only_I 37 (by kernel_rfl) rfl (fun K' hK' => ?_)
  go_simp
  refine hK'.out _ _ (fun k _ h => h) ?_
  clear hK' K'
  try simp only [Act.put, List.setIfInBounds_toArray, List.set_cons_zero, List.set_cons_succ]
  refine only_I 38 (by kernel_rfl) rfl (fun K' hK' => ?_)
  go_simp
  refine hK'.out _ _ (fun k _ h => h) ?_
  clear hK' K'
  try simp only [Act.put, List.setIfInBounds_toArray, List.set_cons_zero, List.set_cons_succ]
  refine only_I 39 (by kernel_rfl) rfl (fun K' hK' => ?_)
  go_simp
  refine hK'.out _ _ (fun k _ h => h) ?_
  clear hK' K'
  try simp only [Act.put, List.setIfInBounds_toArray, List.set_cons_zero, List.set_cons_succ]
  refine only_I 40 (by kernel_rfl) rfl (fun K' hK' => ?_)
  go_simp
  refine hK'.out _ _ (fun k _ h => h) ?_
  clear hK' K'
  try simp only [Act.put, List.setIfInBounds_toArray, List.set_cons_zero, List.set_cons_succ]
  refine only_I 41 (by kernel_rfl) rfl (fun K' hK' => ?_)
  go_simp
  refine hK'.out _ _ (fun k _ h => h) ?_
  clear hK' K'
  try simp only [Act.put, List.setIfInBounds_toArray, List.set_cons_zero, List.set_cons_succ]
  refine only_I 42 (by kernel_rfl) rfl (fun K' hK' => ?_)
  go_simp
  refine hK'.out _ _ (fun k _ h => h) ?_
  clear hK' K'
  try simp only [Act.put, List.setIfInBounds_toArray, List.set_cons_zero, List.set_cons_succ]
  refine only_I 43 (by kernel_rfl) rfl (fun K' hK' => ?_)
  go_simp
  refine hK'.out _ _ (fun k _ h => h) ?_
  clear hK' K'
  try simp only [Act.put, List.setIfInBounds_toArray, List.set_cons_zero, List.set_cons_succ]
  refine take_I 44 (Fv 0 1) (some 81) rfl (by kernel_rfl) (by kernel_rfl) (by kernel_rfl) rfl (fun _ _ _ h => h) (Or.inl ⟨by rfl, ?_⟩) (HAL.out 44) ?_
  · intro X hX
    have hh := hX (44, gBA, .cells #[.int .i64 0, .int .i64 1] 23) (List.Mem.head _) rfl
    have hh0 := blk_cell hh 0 _ rfl
    have hh1 := blk_cell hh 1 _ rfl
    have hhl := blk_lt hh
    clear hh
    clear hX 
    go_simp
  try simp only [Act.put, List.setIfInBounds_toArray, List.set_cons_zero, List.set_cons_succ]
  refine only_I 45 (by kernel_rfl) rfl (fun K' hK' => ?_)
  go_simp
  go_at_call 20
  refine (of_calls 0 1 _).mono ?_
  rintro e x8 ⟨rfl, hb⟩
  go_simp
  refine hK'.out _ _ (fun k _ hS => hS.next hb) ?_
  clear hK' K'
  try simp only [Act.put, List.setIfInBounds_toArray, List.set_cons_zero, List.set_cons_succ]
  replace HAL := Lib.hid (fun k => (HAL.out k).next hb)
  replace NN := Lib.hid (Bgo NN.out hb)
  replace RA := Lib.hid (RA.out.next hb)
  replace RB := Lib.hid (RB.out.next hb)
  clear hb
  refine only_I 46 (by kernel_rfl) rfl (fun K' hK' => ?_)
  go_simp
  refine hK'.out _ _ (fun k _ h => h) ?_
  clear hK' K'
  try simp only [Act.put, List.setIfInBounds_toArray, List.set_cons_zero, List.set_cons_succ]
  refine only_I 47 (by kernel_rfl) rfl (fun K' hK' => ?_)
  go_simp
  refine hK'.out _ _ (fun k _ h => h) ?_
  clear hK' K'
  try simp only [Act.put, List.setIfInBounds_toArray, List.set_cons_zero, List.set_cons_succ]
  refine only_I 48 (by kernel_rfl) rfl (fun K' hK' => ?_)
  go_simp
  refine hK'.out _ _ (fun k _ h => h) ?_
  clear hK' K'
  try simp only [Act.put, List.setIfInBounds_toArray, List.set_cons_zero, List.set_cons_succ]
  refine only_I 49 (by kernel_rfl) rfl (fun K' hK' => ?_)
  go_simp
  refine hK'.out _ _ (fun k _ h => h) ?_
  clear hK' K'
  try simp only [Act.put, List.setIfInBounds_toArray, List.set_cons_zero, List.set_cons_succ]
  refine only_I 50 (by kernel_rfl) rfl (fun K' hK' => ?_)
  go_simp
  refine hK'.out _ _ (fun k _ h => h) ?_
  clear hK' K'
  try simp only [Act.put, List.setIfInBounds_toArray, List.set_cons_zero, List.set_cons_succ]
  refine only_I 51 (by kernel_rfl) rfl (fun K' hK' => ?_)
  go_simp
  refine hK'.out _ _ (fun k _ h => h) ?_
  clear hK' K'
  try simp only [Act.put, List.setIfInBounds_toArray, List.set_cons_zero, List.set_cons_succ]
  refine only_I 52 (by kernel_rfl) rfl (fun K' hK' => ?_)
  go_simp
  refine hK'.out _ _ (fun k _ h => h) ?_
  clear hK' K'
  try simp only [Act.put, List.setIfInBounds_toArray, List.set_cons_zero, List.set_cons_succ]
  refine take_I 53 (Fv 1 1) (some 90) rfl (by kernel_rfl) (by kernel_rfl) (by kernel_rfl) rfl (fun _ _ _ h => h) (Or.inl ⟨by rfl, ?_⟩) (HAL.out 53) ?_
  · intro X hX
    have hh := hX (53, gBB, .cells #[.int .i64 1, .int .i64 1] 23) (List.Mem.tail _ (List.Mem.head _)) rfl
    have hh0 := blk_cell hh 0 _ rfl
    have hh1 := blk_cell hh 1 _ rfl
    have hhl := blk_lt hh
    clear hh
    clear hX 
    go_simp
  try simp only [Act.put, List.setIfInBounds_toArray, List.set_cons_zero, List.set_cons_succ]
  refine only_I 54 (by kernel_rfl) rfl (fun K' hK' => ?_)
  go_simp
  go_at_call 20
  refine (of_calls 1 1 _).mono ?_
  rintro e x9 ⟨rfl, hb⟩
  go_simp
  refine hK'.out _ _ (fun k _ hS => hS.next hb) ?_
  clear hK' K'
  try simp only [Act.put, List.setIfInBounds_toArray, List.set_cons_zero, List.set_cons_succ]
  replace HAL := Lib.hid (fun k => (HAL.out k).next hb)
  replace NN := Lib.hid (Bgo NN.out hb)
  replace RA := Lib.hid (RA.out.next hb)
  replace RB := Lib.hid (RB.out.next hb)
  clear hb
  refine only_I 55 (by kernel_rfl) rfl (fun K' hK' => ?_)
  go_simp
  refine hK'.out _ _ (fun k _ h => h) ?_
  clear hK' K'
  try simp only [Act.put, List.setIfInBounds_toArray, List.set_cons_zero, List.set_cons_succ]
  refine only_I 56 (by kernel_rfl) rfl (fun K' hK' => ?_)
  go_simp
  refine hK'.out _ _ (fun k _ h => h) ?_
  clear hK' K'
  try simp only [Act.put, List.setIfInBounds_toArray, List.set_cons_zero, List.set_cons_succ]
  refine only_I 57 (by kernel_rfl) rfl (fun K' hK' => ?_)
  go_simp
  refine hK'.out _ _ (fun k _ h => h) ?_
  clear hK' K'
  try simp only [Act.put, List.setIfInBounds_toArray, List.set_cons_zero, List.set_cons_succ]
  refine done_I (by kernel_rfl) ?_ _
  go_wp2_with fail
  go_ret
  exact ⟨rfl, NN.out⟩
end Go.Proofs.YtpeoecgehdicmaaDoor
