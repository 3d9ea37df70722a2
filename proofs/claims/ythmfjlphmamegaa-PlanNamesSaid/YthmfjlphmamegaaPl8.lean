/- The examples of layer 43's chapter hold. -/
import Derived.Test.YthmfjlphmamegaaPl7
namespace Go.Proofs.Ythmfjlphmamegaa
open Go.ChangeShapes Go.WideShapes Go.ChangeAt Go.RowKit
set_option linter.unusedVariables false
attribute [local go_sem ↓] Go.wp_at_zero Go.wp_at_succ

theorem bres_rd {w : World} {a : Option Addr} {L : List Bre} (h : Rd w 3 a L.length (bre L)) : BresIn w a L := fun i hi => by
  obtain ⟨b, off, e, hl, hc⟩ := Rd.at_ (n := 0) (f := br3) h br3_len hi
  exact ⟨b, off, e, hl, hc 0 _ rfl, hc 1 _ rfl, hc 2 _ rfl⟩
set_option maxHeartbeats 4000000 in
set_option maxRecDepth 100000 in
theorem alive_calls (w : World) : Calls Try.prog 29 #[] w fun e w' => e = .returned (.bool true) ∧ Below w.heap.size w w' := by
  go_enter Try.func29, Try.ntmps29
  go_wp2_with fail
  refine (given_calls _).mono ?_
  rintro e w1 ⟨A1, c1, rfl, o1, g1, f1, hb1⟩
  have N1 := Lib.hid hb1
  have O1 := Lib.hid o1
  clear o1 hb1
  go_wp2_with fail
  refine (obO GL_len rfl O1.out (nilR w1 0)).mono ?_
  rw [v_ob0.1, v_ob0.2]
  rintro e w2 ⟨rfl, hb⟩
  have N2 := Lib.hid (Bgo N1.out hb)
  clear hb O1 N1 g1 f1
  go_wp2_with fail
  refine (given_calls _).mono ?_
  rintro e w3 ⟨A3, c3, rfl, o3, g3, f3, hb⟩
  have N3 := Lib.hid (Bgo N2.out hb)
  have O3 := Lib.hid o3
  clear o3 hb N2
  go_wp2_with fail
  have XW : Hid (((w3.alloc (.cells #[.slice A3 2 c3, .slice (some ⟨w3.heap.size + 1, 0, none⟩) 1 1] 25)).alloc (.cells #[.int .u8 4, .string ⟨#[]⟩, .string ⟨#[]⟩, .int .i64 0, .int .i64 2, .string ⟨#[]⟩] 61)).heap[w3.heap.size]? = some (.cells #[.slice A3 2 c3, .slice (some ⟨w3.heap.size + 1, 0, none⟩) 1 1] 25)) := Lib.hid (blk_alloc (blk_new w3 _) _)
  have SW : Hid (OwnsS ((w3.alloc (.cells #[.slice A3 2 c3, .slice (some ⟨w3.heap.size + 1, 0, none⟩) 1 1] 25)).alloc (.cells #[.int .u8 4, .string ⟨#[]⟩, .string ⟨#[]⟩, .int .i64 0, .int .i64 2, .string ⟨#[]⟩] 61)) w2.heap.size A3 2 c3 GL) := Lib.hid ((O3.out.alloc _).alloc _)
  have RW : Hid (OwnsR ((w3.alloc (.cells #[.slice A3 2 c3, .slice (some ⟨w3.heap.size + 1, 0, none⟩) 1 1] 25)).alloc (.cells #[.int .u8 4, .string ⟨#[]⟩, .string ⟨#[]⟩, .int .i64 0, .int .i64 2, .string ⟨#[]⟩] 61)) 0 (some ⟨w3.heap.size + 1, 0, none⟩) 1 1 RL1) := Lib.hid (by
    have := (newR (w3.alloc (.cells #[.slice A3 2 c3, .slice (some ⟨w3.heap.size + 1, 0, none⟩) 1 1] 25)) ⟨4, sE, sE, 0, 2, sE⟩).mono (Nat.zero_le _)
    simpa [RL1] using this)
  have NW : Hid (Below w.heap.size w ((w3.alloc (.cells #[.slice A3 2 c3, .slice (some ⟨w3.heap.size + 1, 0, none⟩) 1 1] 25)).alloc (.cells #[.int .u8 4, .string ⟨#[]⟩, .string ⟨#[]⟩, .int .i64 0, .int .i64 2, .string ⟨#[]⟩] 61))) := Lib.hid (Bal (Bal N3.out _) _)
  clear O3 N3 g3 f3
  generalize (w3.alloc (.cells #[.slice A3 2 c3, .slice (some ⟨w3.heap.size + 1, 0, none⟩) 1 1] 25)).alloc (.cells #[.int .u8 4, .string ⟨#[]⟩, .string ⟨#[]⟩, .int .i64 0, .int .i64 2, .string ⟨#[]⟩] 61) = W3 at *
  refine (brO GL_len (show RL1.length = 1 from rfl) SW.out RW.out).mono ?_
  rw [v_br1.1, v_br1.2]
  rintro e w4 ⟨v4, rfl, o4, hb⟩
  obtain ⟨A4, c4, rfl, g4, f4, _⟩ := Rd.of_own o4
  have Q4 := Lib.hid o4
  have X4 : Hid (w4.heap[w3.heap.size]? = some (.cells #[.slice A3 2 c3, .slice (some ⟨w3.heap.size + 1, 0, none⟩) 1 1] 25)) := Lib.hid (blk_next hb XW.out)
  have S4 := Lib.hid (own_next hb SW.out)
  have R4 := Lib.hid (own_next hb RW.out)
  have N4 : Hid (Below w.heap.size w w4) := Lib.hid (Bgo NW.out hb)
  clear o4 hb XW SW RW NW
  have x0 : w4.cell? ⟨w3.heap.size, 0, none⟩ = some (.slice A3 2 c3) := blk_cell X4.out 0 _ rfl
  have x1 : w4.cell? ⟨w3.heap.size, 1, none⟩ = some (.slice (some ⟨w3.heap.size + 1, 0, none⟩) 1 1) := blk_cell X4.out 1 _ rfl
  go_wp2_with fail
  clear x0 x1
  refine (obO GL_len (show RL1.length = 1 from rfl) S4.out R4.out).mono ?_
  rw [v_ob1, v_br1.2]
  rintro e w5 ⟨rfl, hb⟩
  have Q5 := Lib.hid (own_next hb Q4.out)
  have X5 : Hid (w5.heap[w3.heap.size]? = some (.cells #[.slice A3 2 c3, .slice (some ⟨w3.heap.size + 1, 0, none⟩) 1 1] 25)) := Lib.hid (blk_next hb X4.out)
  have S5 := Lib.hid (own_next hb S4.out)
  have R5 := Lib.hid (own_next hb R4.out)
  have N5 : Hid (Below w.heap.size w w5) := Lib.hid (Bgo N4.out hb)
  clear hb Q4 X4 S4 R4 N4
  have x0 : w5.cell? ⟨w3.heap.size, 0, none⟩ = some (.slice A3 2 c3) := blk_cell X5.out 0 _ rfl
  have x1 : w5.cell? ⟨w3.heap.size, 1, none⟩ = some (.slice (some ⟨w3.heap.size + 1, 0, none⟩) 1 1) := blk_cell X5.out 1 _ rfl
  go_wp2_with fail
  clear x0 x1
  refine (ovO GL_len (show RL1.length = 1 from rfl) S5.out R5.out 0 sT (by decide)).mono ?_
  rw [v_ov, v_ovL, v_ovR]
  rintro e w6 ⟨v1, v2, rfl, o1, o2, hb⟩
  rw [GL_len] at o1
  rw [show RL1t.length = 1 from rfl] at o2
  obtain ⟨A6, c6, rfl, _, _, _⟩ := Rd.of_own o1
  obtain ⟨B6, d6, rfl, _, _, _⟩ := Rd.of_own o2
  have Q6 := Lib.hid (own_next hb Q5.out)
  have S6 := Lib.hid o1
  have R6 := Lib.hid o2
  have N6 : Hid (Below w.heap.size w w6) := Lib.hid (Bgo N5.out hb)
  clear hb Q5 X5 S5 R5 N5 o1 o2
  go_wp2_with fail
  refine (obO GL_len (show RL1t.length = 1 from rfl) (S6.out.alloc _) (R6.out.alloc _)).mono ?_
  rw [v_ob1t.1, v_ob1t.2]
  rintro e w7 ⟨rfl, hb⟩
  have Q7 := Lib.hid (own_next hb (Q6.out.alloc _))
  have N7 : Hid (Below w.heap.size w w7) := Lib.hid (Bgo (Bal N6.out _) hb)
  clear hb Q6 S6 R6 N6
  go_wp2_with fail
  have X7 : Hid ((w7.alloc (.cells #[.string ⟨#[99]⟩, .int .i64 0, .int .i64 0, .int .i64 2] 47)).heap[w7.heap.size]? = some (.cells #[.string ⟨#[99]⟩, .int .i64 0, .int .i64 0, .int .i64 2] 47)) := Lib.hid (blk_new w7 _)
  have QW := Lib.hid (Q7.out.alloc (.cells #[.string ⟨#[99]⟩, .int .i64 0, .int .i64 0, .int .i64 2] 47))
  have NW : Hid (Below w.heap.size w (w7.alloc (.cells #[.string ⟨#[99]⟩, .int .i64 0, .int .i64 0, .int .i64 2] 47))) := Lib.hid (Bal N7.out _)
  clear Q7 N7
  generalize w7.alloc (.cells #[.string ⟨#[99]⟩, .int .i64 0, .int .i64 0, .int .i64 2] 47) = W7 at *
  go_region_held3 (fun W => W.cell? ⟨w7.heap.size, 0, none⟩ = some (.string ⟨#[99]⟩) ∧ W.cell? ⟨w7.heap.size, 1, none⟩ = some (.int .i64 0) ∧ W.cell? ⟨w7.heap.size, 2, none⟩ = some (.int .i64 0) ∧ W.cell? ⟨w7.heap.size, 3, none⟩ = some (.int .i64 2)) (first | (exact ⟨blk_cell X9.out 0 _ rfl, blk_cell X9.out 1 _ rfl, blk_cell X9.out 2 _ rfl, blk_cell X9.out 3 _ rfl⟩) | (exact ⟨blk_cell X8.out 0 _ rfl, blk_cell X8.out 1 _ rfl, blk_cell X8.out 2 _ rfl, blk_cell X8.out 3 _ rfl⟩) | (exact ⟨blk_cell X7.out 0 _ rfl, blk_cell X7.out 1 _ rfl, blk_cell X7.out 2 _ rfl, blk_cell X7.out 3 _ rfl⟩) | go_keep) (first | (go_at_call 34; refine (given_calls _).mono ?_; rintro e w8 ⟨A8, c8, rfl, o8, g8, f8, hb⟩; have O8 := Lib.hid o8; have X8 := Lib.hid (blk_next hb X7.out); have Q8 := Lib.hid (own_next hb QW.out); have N8 : Hid (Below w.heap.size w w8) := Lib.hid (by first | exact Bgo NW.out hb | exact Bgo NW.out.drew hb); clear o8 hb) | (go_at_call 26; refine (eaO GL_len rfl O8.out (nilR _ 0) sc).mono ?_; rw [v_ea0]; rintro e w9 ⟨rfl, hb⟩; have X9 := Lib.hid (blk_next hb X8.out); have Q9 := Lib.hid (own_next hb Q8.out); have N9 : Hid (Below w.heap.size w w9) := Lib.hid (by first | exact Bgo N8.out hb | exact Bgo N8.out.drew hb); clear hb))
  all_goals
    clear X7 X8 QW Q8 NW N8 O8 g8 f8
    go_wp2_with fail
    refine (given_calls _).mono ?_
    rintro e w10 ⟨A10, c10, rfl, o10, g10, f10, hb⟩
    have X10 := Lib.hid (blk_next hb X9.out)
    have Q10 := Lib.hid (own_next hb Q9.out)
    have N10 : Hid (Below w.heap.size w w10) := Lib.hid (Bgo N9.out hb)
    have O10 := Lib.hid o10
    clear o10 hb X9 Q9 N9
    have k0 : w10.cell? ⟨w7.heap.size, 0, none⟩ = some (.string ⟨#[99]⟩) := blk_cell X10.out 0 _ rfl
    have k1 : w10.cell? ⟨w7.heap.size, 1, none⟩ = some (.int .i64 0) := blk_cell X10.out 1 _ rfl
    have k2 : w10.cell? ⟨w7.heap.size, 2, none⟩ = some (.int .i64 0) := blk_cell X10.out 2 _ rfl
    have k3 : w10.cell? ⟨w7.heap.size, 3, none⟩ = some (.int .i64 2) := blk_cell X10.out 3 _ rfl
    have kl := blk_lt X10.out
    go_wp2_with fail
    clear k0 k1 k2 k3 kl
    have SW : Hid (OwnsS ((w10.alloc (.cells #[.slice A10 2 c10, .slice (some ⟨w10.heap.size + 1, 0, none⟩) 1 1] 25)).alloc (.cells #[.int .u8 2, .string ⟨#[99]⟩, .string ⟨#[98]⟩, .int .i64 0, .int .i64 0, .string ⟨#[]⟩] 61)) w9.heap.size A10 2 c10 GL) := Lib.hid ((O10.out.alloc _).alloc _)
    have RW : Hid (OwnsR ((w10.alloc (.cells #[.slice A10 2 c10, .slice (some ⟨w10.heap.size + 1, 0, none⟩) 1 1] 25)).alloc (.cells #[.int .u8 2, .string ⟨#[99]⟩, .string ⟨#[98]⟩, .int .i64 0, .int .i64 0, .string ⟨#[]⟩] 61)) 0 (some ⟨w10.heap.size + 1, 0, none⟩) 1 1 RL2) := Lib.hid (by
      have := (newR (w10.alloc (.cells #[.slice A10 2 c10, .slice (some ⟨w10.heap.size + 1, 0, none⟩) 1 1] 25)) ⟨2, sC, sB, 0, 0, sE⟩).mono (Nat.zero_le _)
      simpa [RL2] using this)
    have QW := Lib.hid ((Q10.out.alloc (.cells #[.slice A10 2 c10, .slice (some ⟨w10.heap.size + 1, 0, none⟩) 1 1] 25)).alloc (.cells #[.int .u8 2, .string ⟨#[99]⟩, .string ⟨#[98]⟩, .int .i64 0, .int .i64 0, .string ⟨#[]⟩] 61))
    have NW : Hid (Below w.heap.size w ((w10.alloc (.cells #[.slice A10 2 c10, .slice (some ⟨w10.heap.size + 1, 0, none⟩) 1 1] 25)).alloc (.cells #[.int .u8 2, .string ⟨#[99]⟩, .string ⟨#[98]⟩, .int .i64 0, .int .i64 0, .string ⟨#[]⟩] 61))) := Lib.hid (Bal (Bal N10.out _) _)
    clear Q10 N10 O10 X10
    generalize (w10.alloc (.cells #[.slice A10 2 c10, .slice (some ⟨w10.heap.size + 1, 0, none⟩) 1 1] 25)).alloc (.cells #[.int .u8 2, .string ⟨#[99]⟩, .string ⟨#[98]⟩, .int .i64 0, .int .i64 0, .string ⟨#[]⟩] 61) = W10 at *
    refine (eaO GL_len (show RL2.length = 1 from rfl) SW.out RW.out sc).mono ?_
    rw [v_ea2]
    rintro e w11 ⟨rfl, hb⟩
    have Q11 := Lib.hid (own_next hb QW.out)
    have N11 : Hid (Below w.heap.size w w11) := Lib.hid (Bgo NW.out hb)
    clear hb QW NW SW RW
    go_wp2_with fail
    have Y1 : Hid (BresIn (w11.alloc (.cells #[.int .i64 0, .int .i64 0, .int .i64 1] 68)) A4 [(0, 0, 1)]) := Lib.hid (bres_rd (own_rd (Q11.out.alloc _)))
    have Y2 : Hid (BresIn (w11.alloc (.cells #[.int .i64 0, .int .i64 0, .int .i64 1] 68)) (some ⟨w11.heap.size, 0, none⟩) [(0, 0, 1)]) := Lib.hid (bres_rd (own_rd (own_single w11 0 0 1)))
    refine (sameBreaches_calls A4 (some ⟨w11.heap.size, 0, none⟩) c4 1 [(0, 0, 1)] _ g4 f4 (by decide) (by decide) Y1.out Y2.out).mono ?_
    rintro e w12 ⟨rfl, n12, rfl⟩
    go_wp2_with fail
    go_ret
    exact ⟨rfl, below_drewN (Bal N11.out _) _⟩
end Go.Proofs.Ythmfjlphmamegaa
