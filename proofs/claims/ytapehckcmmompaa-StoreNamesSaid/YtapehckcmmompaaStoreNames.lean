/- For every input the law StoreNames returns true and leaves its arguments as they were. -/
import Derived.Test.YtapehckcmmompaaRows
import Derived.Test.YtapehckcmmompaaM29
import Derived.Test.YtapehckcmmompaaM30
import Derived.WalkKit
import Derived.ProofKit
import Derived.OpenShut
import Derived.ShutString
import Derived.ChangeOld
import Derived.Below
import Derived.Lib.SmallJoins
namespace Go.Proofs.Ytapehckcmmompaa.storeNames
open Go.ChangeShapes Go.WideShapes Go.ChangeAt Go.RowKit Go.Joins
open Go.ChangeMaps (open_string shut_string)
open Go.Deep
set_option linter.unusedVariables false

theorem own : ownKnob Try.prog.godebug = none := by kernel_rfl
theorem laidOut : laidOutB Try.prog = true := by kernel_rfl
theorem at_getD {l : List Ob} {j : Nat} (h : j < l.length) : l[j]? = some (l.getD j zob) := by simp [List.getD, h]
theorem SZ.far {L : List (Nat × Addr × Value)} {k b off : Nat} {X : World} {v : Value} (h : SZ L [] k X) (hn : ∀ p ∈ L, p.2.1.block ≠ b) : SZ L [] k (X.setCell ⟨b, off, none⟩ v) :=
 ⟨fun p hp e => by
  obtain ⟨h1, h2⟩ := h.1 p hp e
  exact ⟨by show _ < (X.heap.modify _ _).size; rw [Array.size_modify]; exact h1, (World.cell?_of_block (Below.heap_setCell X ⟨b, off, none⟩ v p.2.1.block (hn p hp))).trans h2⟩, fun p hp => by cases hp⟩
theorem suff8 {R : Prop} {G F : World → Nat → Option Addr → Nat → Option Addr → Option Addr → Nat → Nat → Prop} (h1 : ∀ W g a b c d e f, F W g a b c d e f → G W g a b c d e f) (h2 : (∀ W g a b c d e f, F W g a b c d e f → G W g a b c d e f) → R) : R := h2 h1
theorem snames_facts : ∃ (s0 : So) (s1 : So) (s2 : So) (s3 : So) (s4 : So) (s5 : So) (s6 : So) (s7 : So) (s8 : So) (s9 : So) (s10 : So) (s11 : So) (s13 : List Nat) (s14 : List Nat) (s15 : So) (s16 : So) (s17 : So) (s18 : So) (s19 : So) (s20 : So) (s21 : So), newS (0) (0) = s0 ∧ newE (0) (0) = 2 ∧ newS (9) (0) = s1 ∧ newE (9) (0) = 2 ∧ newS (1) (5) = s2 ∧ newE (1) (5) = 2 ∧ newS (1) (-1) = s3 ∧ newE (1) (-1) = 2 ∧ newS (3) (2) = s4 ∧ newE (3) (2) = 0 ∧ smallB s4.2.2.2 = true ∧ putS s4.1 s4.2.1 s4.2.2.1 s4.2.2.2 ⟨#[110, 111, 110, 101]⟩ [] = s5 ∧ putE s4.1 s4.2.1 s4.2.2.1 s4.2.2.2 ⟨#[110, 111, 110, 101]⟩ [] = 0 ∧ smallB s5.2.2.2 = true ∧ putS s5.1 s5.2.1 s5.2.2.1 s5.2.2.2 ⟨#[97, 108, 108]⟩ (txtL 256) = s6 ∧ putE s5.1 s5.2.1 s5.2.2.1 s5.2.2.2 ⟨#[97, 108, 108]⟩ (txtL 256) = 0 ∧ smallB s6.2.2.2 = true ∧ putS s6.1 s6.2.1 s6.2.2.1 s6.2.2.2 ⟨#[111, 110, 101, 45, 50, 52]⟩ (txtL 24) = s7 ∧ putE s6.1 s6.2.1 s6.2.2.1 s6.2.2.2 ⟨#[111, 110, 101, 45, 50, 52]⟩ (txtL 24) = 0 ∧ smallB s7.2.2.2 = true ∧ putS s7.1 s7.2.1 s7.2.2.1 s7.2.2.2 ⟨#[97, 108, 108]⟩ [] = s8 ∧ putE s7.1 s7.2.1 s7.2.2.1 s7.2.2.2 ⟨#[97, 108, 108]⟩ [] = 14 ∧ putS s7.1 s7.2.1 s7.2.2.1 s7.2.2.2 ⟨#[65, 108, 108]⟩ [] = s9 ∧ putE s7.1 s7.2.1 s7.2.2.1 s7.2.2.2 ⟨#[65, 108, 108]⟩ [] = 8 ∧ putS s7.1 s7.2.1 s7.2.2.1 s7.2.2.2 ⟨#[]⟩ [] = s10 ∧ putE s7.1 s7.2.1 s7.2.2.1 s7.2.2.2 ⟨#[]⟩ [] = 8 ∧ putS s7.1 s7.2.1 s7.2.2.1 s7.2.2.2 ⟨#[108, 111, 110, 103]⟩ (txtL 257) = s11 ∧ putE s7.1 s7.2.1 s7.2.2.1 s7.2.2.2 ⟨#[108, 111, 110, 103]⟩ (txtL 257) = 4 ∧ (getR s7.1 s7.2.1 s7.2.2.1 s7.2.2.2 ⟨#[120]⟩).2 = 6 ∧ getR s7.1 s7.2.1 s7.2.2.1 s7.2.2.2 ⟨#[110, 111, 110, 101]⟩ = (s13, 0) ∧ s13 = [] ∧ getR s7.1 s7.2.1 s7.2.2.1 s7.2.2.2 ⟨#[97, 108, 108]⟩ = (s14, 0) ∧ s14 = txtL 256 ∧ faiS s7.1 s7.2.1 s7.2.2.1 s7.2.2.2 5 = s15 ∧ faiE s7.1 s7.2.1 s7.2.2.1 s7.2.2.2 5 = 2 ∧ repS s7.1 s7.2.1 s7.2.2.1 s7.2.2.2 (-1) = s16 ∧ repE s7.1 s7.2.1 s7.2.2.1 s7.2.2.2 (-1) = 2 ∧ repS s7.1 s7.2.1 s7.2.2.1 s7.2.2.2 0 = s17 ∧ repE s7.1 s7.2.1 s7.2.2.1 s7.2.2.2 0 = 36 ∧ faiS s7.1 s7.2.1 s7.2.2.1 s7.2.2.2 4 = s18 ∧ faiE s7.1 s7.2.1 s7.2.2.1 s7.2.2.2 4 = 0 ∧ smallB s18.2.2.2 = true ∧ faiS s18.1 s18.2.1 s18.2.2.1 s18.2.2.2 4 = s19 ∧ faiE s18.1 s18.2.1 s18.2.2.1 s18.2.2.2 4 = 36 ∧ menS s18.1 s18.2.1 s18.2.2.1 s18.2.2.2 12 = s20 ∧ menE s18.1 s18.2.1 s18.2.2.1 s18.2.2.2 12 = 2 ∧ menD s18.1 s18.2.1 s18.2.2.1 s18.2.2.2 12 = 0 ∧ menS s18.1 s18.2.1 s18.2.2.1 s18.2.2.2 0 = s21 ∧ menE s18.1 s18.2.1 s18.2.2.1 s18.2.2.2 0 = 2 ∧ menD s18.1 s18.2.1 s18.2.2.1 s18.2.2.2 0 = 0 ∧ scrR s18.1 s18.2.1 s18.2.2.1 s18.2.2.2 = [] ∧ scrE s18.1 s18.2.1 s18.2.2.1 s18.2.2.2 = 0 ∧ s7.2.2.2.length = 3 ∧ (s7.2.2.2.getD 0 zob).many = 0 ∧ (s7.2.2.2.getD 1 zob).many = 11 ∧ (s7.2.2.2.getD 2 zob).from_ = 11 ∧ (s7.2.2.2.getD 2 zob).many = 1 :=
 ⟨_, _, _, _, _, _, _, _, _, _, _, _, [], (txtL 256), _, _, _, _, _, _, _, rfl, by kernel_rfl, rfl, by kernel_rfl, rfl, by kernel_rfl, rfl, by kernel_rfl, rfl, by kernel_rfl, by kernel_rfl, rfl, by kernel_rfl, by kernel_rfl, rfl, by kernel_rfl, by kernel_rfl, rfl, by kernel_rfl, by kernel_rfl, rfl, by kernel_rfl, rfl, by kernel_rfl, rfl, by kernel_rfl, rfl, by kernel_rfl, by kernel_rfl, by kernel_rfl, by kernel_rfl, by kernel_rfl, rfl, rfl, by kernel_rfl, rfl, by kernel_rfl, rfl, by kernel_rfl, rfl, by kernel_rfl, by kernel_rfl, rfl, by kernel_rfl, rfl, by kernel_rfl, by kernel_rfl, rfl, by kernel_rfl, by kernel_rfl, by kernel_rfl, by kernel_rfl, by kernel_rfl, by kernel_rfl, by kernel_rfl, by kernel_rfl, by kernel_rfl⟩
set_option maxHeartbeats 16000000 in
set_option maxRecDepth 100000 in
theorem walk (w : World) : Calls Try.prog 9 #[] w fun e w' => e = .returned (.bool true) ∧ Below w.heap.size w w' := by
 have NN := Lib.hid (Below.refl w.heap.size w)
 obtain ⟨⟨s0a, s0b, s0c, s0d⟩, ⟨s1a, s1b, s1c, s1d⟩, ⟨s2a, s2b, s2c, s2d⟩, ⟨s3a, s3b, s3c, s3d⟩, ⟨s4a, s4b, s4c, s4d⟩, ⟨s5a, s5b, s5c, s5d⟩, ⟨s6a, s6b, s6c, s6d⟩, ⟨s7a, s7b, s7c, s7d⟩, ⟨s8a, s8b, s8c, s8d⟩, ⟨s9a, s9b, s9c, s9d⟩, ⟨s10a, s10b, s10c, s10d⟩, ⟨s11a, s11b, s11c, s11d⟩, s13, s14, ⟨s15a, s15b, s15c, s15d⟩, ⟨s16a, s16b, s16c, s16d⟩, ⟨s17a, s17b, s17c, s17d⟩, ⟨s18a, s18b, s18c, s18d⟩, ⟨s19a, s19b, s19c, s19d⟩, ⟨s20a, s20b, s20c, s20d⟩, ⟨s21a, s21b, s21c, s21d⟩, e0, e1, e2, e3, e4, e5, e6, e7, e8, e9, e10, e11, e12, e13, e14, e15, e16, e17, e18, e19, e20, e21, e22, e23, e24, e25, e26, e27, e28, e29, e30, e31, e32, e33, e34, e35, e36, e37, e38, e39, e40, e41, e42, e43, e44, e45, e46, e47, e48, e49, e50, e51, e52, e53, e54, e55, e56⟩ := snames_facts
 simp only at e10 e11 e12 e13 e14 e15 e16 e17 e18 e19 e20 e21 e22 e23 e24 e25 e26 e27 e28 e29 e30 e31 e32 e33 e34 e35 e36 e37 e38 e39 e40 e41 e42 e43 e44 e45 e46 e47 e48 e49 e50 e51 e52 e53 e54 e55 e56
 have N0 := Lib.hid (fun (W : World) => new_calls (0) (0) W)
 rw [e0, e1] at N0
 have N1 := Lib.hid (fun (W : World) => new_calls (9) (0) W)
 rw [e2, e3] at N1
 have N2 := Lib.hid (fun (W : World) => new_calls (1) (5) W)
 rw [e4, e5] at N2
 have N3 := Lib.hid (fun (W : World) => new_calls (1) (-1) W)
 rw [e6, e7] at N3
 have N4 := Lib.hid (fun (W : World) => new_calls (3) (2) W)
 rw [e8, e9] at N4
 have C5 := Lib.hid (fun (D A : Option Addr) (cd ca B : Nat) (W : World) h1 h2 h3 h4 h5 h6 (Ab : Option Addr) (cb Bb : Nat) hb1 hb2 hb3 => put_calls s4a s4b D A cd ca B s4c s4d ⟨#[110, 111, 110, 101]⟩ Ab cb Bb [] W h1 h2 h3 h4 h5 h6 (smallB_lh e10) (by decide) hb1 hb2 hb3)
 rw [e11, e12] at C5
 have C6 := Lib.hid (fun (D A : Option Addr) (cd ca B : Nat) (W : World) h1 h2 h3 h4 h5 h6 (Ab : Option Addr) (cb Bb : Nat) hb1 hb2 hb3 => put_calls s5a s5b D A cd ca B s5c s5d ⟨#[97, 108, 108]⟩ Ab cb Bb (txtL 256) W h1 h2 h3 h4 h5 h6 (smallB_lh e13) (by decide) hb1 hb2 hb3)
 rw [e14, e15] at C6
 have C7 := Lib.hid (fun (D A : Option Addr) (cd ca B : Nat) (W : World) h1 h2 h3 h4 h5 h6 (Ab : Option Addr) (cb Bb : Nat) hb1 hb2 hb3 => put_calls s6a s6b D A cd ca B s6c s6d ⟨#[111, 110, 101, 45, 50, 52]⟩ Ab cb Bb (txtL 24) W h1 h2 h3 h4 h5 h6 (smallB_lh e16) (by decide) hb1 hb2 hb3)
 rw [e17, e18] at C7
 have C8 := Lib.hid (fun (D A : Option Addr) (cd ca B : Nat) (W : World) h1 h2 h3 h4 h5 h6 (Ab : Option Addr) (cb Bb : Nat) hb1 hb2 hb3 => put_calls s7a s7b D A cd ca B s7c s7d ⟨#[97, 108, 108]⟩ Ab cb Bb [] W h1 h2 h3 h4 h5 h6 (smallB_lh e19) (by decide) hb1 hb2 hb3)
 rw [e20, e21] at C8
 have C9 := Lib.hid (fun (D A : Option Addr) (cd ca B : Nat) (W : World) h1 h2 h3 h4 h5 h6 (Ab : Option Addr) (cb Bb : Nat) hb1 hb2 hb3 => put_calls s7a s7b D A cd ca B s7c s7d ⟨#[65, 108, 108]⟩ Ab cb Bb [] W h1 h2 h3 h4 h5 h6 (smallB_lh e19) (by decide) hb1 hb2 hb3)
 rw [e22, e23] at C9
 have C10 := Lib.hid (fun (D A : Option Addr) (cd ca B : Nat) (W : World) h1 h2 h3 h4 h5 h6 (Ab : Option Addr) (cb Bb : Nat) hb1 hb2 hb3 => put_calls s7a s7b D A cd ca B s7c s7d ⟨#[]⟩ Ab cb Bb [] W h1 h2 h3 h4 h5 h6 (smallB_lh e19) (by decide) hb1 hb2 hb3)
 rw [e24, e25] at C10
 have C11 := Lib.hid (fun (D A : Option Addr) (cd ca B : Nat) (W : World) h1 h2 h3 h4 h5 h6 (Ab : Option Addr) (cb Bb : Nat) hb1 hb2 hb3 => put_calls s7a s7b D A cd ca B s7c s7d ⟨#[108, 111, 110, 103]⟩ Ab cb Bb (txtL 257) W h1 h2 h3 h4 h5 h6 (smallB_lh e19) (by decide) hb1 hb2 hb3)
 rw [e26, e27] at C11
 have C12 := Lib.hid (fun (D A : Option Addr) (cd ca B : Nat) (W : World) h1 h2 h3 h4 h5 h6 => get_calls s7a s7b D A cd ca B s7c s7d ⟨#[120]⟩ W h1 h2 h3 h4 h5 h6 (smallB_lh e19))
 obtain ⟨⟨s12', z12⟩, hz12⟩ : ∃ r, getR s7a s7b s7c s7d ⟨#[120]⟩ = r := ⟨_, rfl⟩
 rw [hz12] at C12 e28
 simp only at e28
 subst e28
 clear hz12
 have s12 := s12'
 have C13 := Lib.hid (fun (D A : Option Addr) (cd ca B : Nat) (W : World) h1 h2 h3 h4 h5 h6 => get_calls s7a s7b D A cd ca B s7c s7d ⟨#[110, 111, 110, 101]⟩ W h1 h2 h3 h4 h5 h6 (smallB_lh e19))
 rw [e29] at C13
 have C14 := Lib.hid (fun (D A : Option Addr) (cd ca B : Nat) (W : World) h1 h2 h3 h4 h5 h6 => get_calls s7a s7b D A cd ca B s7c s7d ⟨#[97, 108, 108]⟩ W h1 h2 h3 h4 h5 h6 (smallB_lh e19))
 rw [e31] at C14
 have C15 := Lib.hid (fun (D A : Option Addr) (cd ca B : Nat) (W : World) h1 h2 h3 h4 h5 h6 => fail_calls s7a s7b D A cd ca B s7c s7d 5 W h1 h2 h3 h4 h5 h6 (smallB_lh e19))
 rw [e33, e34] at C15
 have C16 := Lib.hid (fun (D A : Option Addr) (cd ca B : Nat) (W : World) h1 h2 h3 h4 h5 h6 => replace_calls s7a s7b D A cd ca B s7c s7d (-1) W h1 h2 h3 h4 h5 h6 (smallB_lh e19))
 rw [e35, e36] at C16
 have C17 := Lib.hid (fun (D A : Option Addr) (cd ca B : Nat) (W : World) h1 h2 h3 h4 h5 h6 => replace_calls s7a s7b D A cd ca B s7c s7d 0 W h1 h2 h3 h4 h5 h6 (smallB_lh e19))
 rw [e37, e38] at C17
 have C18 := Lib.hid (fun (D A : Option Addr) (cd ca B : Nat) (W : World) h1 h2 h3 h4 h5 h6 => fail_calls s7a s7b D A cd ca B s7c s7d 4 W h1 h2 h3 h4 h5 h6 (smallB_lh e19))
 rw [e39, e40] at C18
 have C19 := Lib.hid (fun (D A : Option Addr) (cd ca B : Nat) (W : World) h1 h2 h3 h4 h5 h6 => fail_calls s18a s18b D A cd ca B s18c s18d 4 W h1 h2 h3 h4 h5 h6 (smallB_lh e41))
 rw [e42, e43] at C19
 have C20 := Lib.hid (fun (D A : Option Addr) (cd ca B : Nat) (W : World) h1 h2 h3 h4 h5 h6 => mend_calls s18a s18b D A cd ca B s18c s18d 12 W h1 h2 h3 h4 h5 h6 (smallB_lh e41))
 rw [e44, e45, e46] at C20
 have C21 := Lib.hid (fun (D A : Option Addr) (cd ca B : Nat) (W : World) h1 h2 h3 h4 h5 h6 => mend_calls s18a s18b D A cd ca B s18c s18d 0 W h1 h2 h3 h4 h5 h6 (smallB_lh e41))
 rw [e47, e48, e49] at C21
 have C22 := Lib.hid (fun (D A : Option Addr) (cd ca B : Nat) (W : World) h1 h2 h3 h4 h5 h6 => scrub_calls s18a s18b D A cd ca B s18c s18d W h1 h2 h3 h4 h5 h6 (smallB_lh e41))
 rw [e50, e51] at C22
 subst e30 e32
 have TX256 : Hid (∀ W : World, Calls Try.prog 38 #[.int .i64 256] W fun e w' => ∃ v, e = .returned v ∧ OB W.heap.size w' v (txtL 256) ∧ Below W.heap.size W w') := Lib.hid (fun (W : World) => text_calls 256 (by decide) W)
 have TB256 := Lib.hid (txtL_byt 256)
 have TL256 := Lib.hid (txtL_len 256)
 generalize txtL 256 = t256 at *
 have TX24 : Hid (∀ W : World, Calls Try.prog 38 #[.int .i64 24] W fun e w' => ∃ v, e = .returned v ∧ OB W.heap.size w' v (txtL 24) ∧ Below W.heap.size W w') := Lib.hid (fun (W : World) => text_calls 24 (by decide) W)
 have TB24 := Lib.hid (txtL_byt 24)
 have TL24 := Lib.hid (txtL_len 24)
 generalize txtL 24 = t24 at *
 have TX257 : Hid (∀ W : World, Calls Try.prog 38 #[.int .i64 257] W fun e w' => ∃ v, e = .returned v ∧ OB W.heap.size w' v (txtL 257) ∧ Below W.heap.size W w') := Lib.hid (fun (W : World) => text_calls 257 (by decide) W)
 have TB257 := Lib.hid (txtL_byt 257)
 have TL257 := Lib.hid (txtL_len 257)
 generalize txtL 257 = t257 at *
 have EO := Lib.hid e52
 have EM0 := Lib.hid e53
 have EM1 := Lib.hid e54
 have EM2 := Lib.hid e55
 have EM3 := Lib.hid e56
 clear e0 e1 e2 e3 e4 e5 e6 e7 e8 e9 e10 e11 e12 e13 e14 e15 e16 e17 e18 e19 e20 e21 e22 e23 e24 e25 e26 e27 e29 e31 e33 e34 e35 e36 e37 e38 e39 e40 e41 e42 e43 e44 e45 e46 e47 e48 e49 e50 e51 e52 e53 e54 e55 e56
 go_enter Try.func9, Try.ntmps9
 go_wp2_with fail
 refine (N0.out _).mono ?_
 rintro e w1 ⟨v, u, rfl, ht, hu, hb⟩
 try simp only at ht hu
 obtain ⟨A0, c0, rfl, k0a, k0b⟩ := ht.form
 obtain ⟨B0, d0, rfl, k0c, k0d⟩ := hu.form
 have T0 := Lib.hid ht
 have U0 := Lib.hid hu
 clear ht hu
 replace NN := Lib.hid (Bgo NN.out hb)
 clear hb
 have HB : Hid (Below w1.heap.size w1 (w1.alloc (.cells #[.int .i64 s0a, .int .i64 s0b, .slice A0 s0c.length c0, .slice B0 s0d.length d0] 25))) := Lib.hid (Bal (Below.refl _ _) _)
 have V1 := Lib.hid (blk_new w1 (.cells #[.int .i64 s0a, .int .i64 s0b, .slice A0 s0c.length c0, .slice B0 s0d.length d0] 25))
 have LT_V1 : Hid (w.heap.size ≤ w1.heap.size) := Lib.hid NN.out.size
 replace NN := Lib.hid (Bgo NN.out HB.out)
 replace T0 := Lib.hid (T0.out.next HB.out)
 replace U0 := Lib.hid (U0.out.next HB.out)
 clear HB
 go_wp2_with fail
 generalize w1.alloc (.cells #[.int .i64 s0a, .int .i64 s0b, .slice A0 s0c.length c0, .slice B0 s0d.length d0] 25) = W2 at *
 generalize w1.heap.size = g2 at *
 clear V1 T0 U0
 refine (N1.out _).mono ?_
 rintro e w3 ⟨v, u, rfl, ht, hu, hb⟩
 try simp only at ht hu
 obtain ⟨A1, c1, rfl, k1a, k1b⟩ := ht.form
 obtain ⟨B1, d1, rfl, k1c, k1d⟩ := hu.form
 have T1 := Lib.hid ht
 have U1 := Lib.hid hu
 clear ht hu
 replace NN := Lib.hid (Bgo NN.out hb)
 clear hb
 have HB : Hid (Below w3.heap.size w3 (w3.alloc (.cells #[.int .i64 s1a, .int .i64 s1b, .slice A1 s1c.length c1, .slice B1 s1d.length d1] 25))) := Lib.hid (Bal (Below.refl _ _) _)
 have V3 := Lib.hid (blk_new w3 (.cells #[.int .i64 s1a, .int .i64 s1b, .slice A1 s1c.length c1, .slice B1 s1d.length d1] 25))
 have LT_V3 : Hid (w.heap.size ≤ w3.heap.size) := Lib.hid NN.out.size
 replace NN := Lib.hid (Bgo NN.out HB.out)
 replace T1 := Lib.hid (T1.out.next HB.out)
 replace U1 := Lib.hid (U1.out.next HB.out)
 clear HB
 go_wp2_with fail
 generalize w3.alloc (.cells #[.int .i64 s1a, .int .i64 s1b, .slice A1 s1c.length c1, .slice B1 s1d.length d1] 25) = W4 at *
 generalize w3.heap.size = g4 at *
 clear V3 T1 U1
 refine (N2.out _).mono ?_
 rintro e w5 ⟨v, u, rfl, ht, hu, hb⟩
 try simp only at ht hu
 obtain ⟨A2, c2, rfl, k2a, k2b⟩ := ht.form
 obtain ⟨B2, d2, rfl, k2c, k2d⟩ := hu.form
 have T2 := Lib.hid ht
 have U2 := Lib.hid hu
 clear ht hu
 replace NN := Lib.hid (Bgo NN.out hb)
 clear hb
 have HB : Hid (Below w5.heap.size w5 (w5.alloc (.cells #[.int .i64 s2a, .int .i64 s2b, .slice A2 s2c.length c2, .slice B2 s2d.length d2] 25))) := Lib.hid (Bal (Below.refl _ _) _)
 have V5 := Lib.hid (blk_new w5 (.cells #[.int .i64 s2a, .int .i64 s2b, .slice A2 s2c.length c2, .slice B2 s2d.length d2] 25))
 have LT_V5 : Hid (w.heap.size ≤ w5.heap.size) := Lib.hid NN.out.size
 replace NN := Lib.hid (Bgo NN.out HB.out)
 replace T2 := Lib.hid (T2.out.next HB.out)
 replace U2 := Lib.hid (U2.out.next HB.out)
 clear HB
 go_wp2_with fail
 generalize w5.alloc (.cells #[.int .i64 s2a, .int .i64 s2b, .slice A2 s2c.length c2, .slice B2 s2d.length d2] 25) = W6 at *
 generalize w5.heap.size = g6 at *
 clear V5 T2 U2
 refine (N3.out _).mono ?_
 rintro e w7 ⟨v, u, rfl, ht, hu, hb⟩
 try simp only at ht hu
 obtain ⟨A3, c3, rfl, k3a, k3b⟩ := ht.form
 obtain ⟨B3, d3, rfl, k3c, k3d⟩ := hu.form
 have T3 := Lib.hid ht
 have U3 := Lib.hid hu
 clear ht hu
 replace NN := Lib.hid (Bgo NN.out hb)
 clear hb
 have HB : Hid (Below w7.heap.size w7 (w7.alloc (.cells #[.int .i64 s3a, .int .i64 s3b, .slice A3 s3c.length c3, .slice B3 s3d.length d3] 25))) := Lib.hid (Bal (Below.refl _ _) _)
 have V7 := Lib.hid (blk_new w7 (.cells #[.int .i64 s3a, .int .i64 s3b, .slice A3 s3c.length c3, .slice B3 s3d.length d3] 25))
 have LT_V7 : Hid (w.heap.size ≤ w7.heap.size) := Lib.hid NN.out.size
 replace NN := Lib.hid (Bgo NN.out HB.out)
 replace T3 := Lib.hid (T3.out.next HB.out)
 replace U3 := Lib.hid (U3.out.next HB.out)
 clear HB
 go_wp2_with fail
 generalize w7.alloc (.cells #[.int .i64 s3a, .int .i64 s3b, .slice A3 s3c.length c3, .slice B3 s3d.length d3] 25) = W8 at *
 generalize w7.heap.size = g8 at *
 clear V7 T3 U3
 refine (N4.out _).mono ?_
 rintro e w9 ⟨v, u, rfl, ht, hu, hb⟩
 try simp only at ht hu
 obtain ⟨A4, c4, rfl, k4a, k4b⟩ := ht.form
 obtain ⟨B4, d4, rfl, k4c, k4d⟩ := hu.form
 have T4 := Lib.hid ht
 have U4 := Lib.hid hu
 clear ht hu
 replace NN := Lib.hid (Bgo NN.out hb)
 clear hb
 have HB : Hid (Below w9.heap.size w9 (w9.alloc (.cells #[.int .i64 s4a, .int .i64 s4b, .slice A4 s4c.length c4, .slice B4 s4d.length d4] 25))) := Lib.hid (Bal (Below.refl _ _) _)
 have V9 := Lib.hid (blk_new w9 (.cells #[.int .i64 s4a, .int .i64 s4b, .slice A4 s4c.length c4, .slice B4 s4d.length d4] 25))
 have LT_V9 : Hid (w.heap.size ≤ w9.heap.size) := Lib.hid NN.out.size
 replace NN := Lib.hid (Bgo NN.out HB.out)
 replace T4 := Lib.hid (T4.out.next HB.out)
 replace U4 := Lib.hid (U4.out.next HB.out)
 clear HB
 have c_V9_0 := blk_cell V9.out 0 _ rfl
 have f_V9_0 := blk_frozen V9.out 0
 have c_V9_1 := blk_cell V9.out 1 _ rfl
 have f_V9_1 := blk_frozen V9.out 1
 have c_V9_2 := blk_cell V9.out 2 _ rfl
 have f_V9_2 := blk_frozen V9.out 2
 have c_V9_3 := blk_cell V9.out 3 _ rfl
 have f_V9_3 := blk_frozen V9.out 3
 have l_V9 := blk_lt V9.out
 go_wp2_with fail
 clear c_V9_0 f_V9_0 c_V9_1 f_V9_1 c_V9_2 f_V9_2 c_V9_3 f_V9_3 l_V9
 generalize w9.alloc (.cells #[.int .i64 s4a, .int .i64 s4b, .slice A4 s4c.length c4, .slice B4 s4d.length d4] 25) = W10 at *
 generalize w9.heap.size = g10 at *
 as_aux_lemma =>
  refine (C5.out A4 B4 c4 d4 _ _ k4a k4b k4c k4d T4.out.rd U4.out.ro none 0 0 (by decide) (by decide) ⟨Byt.nil, Hd.nil _ _ _⟩).mono ?_
  rintro e w11 ⟨v, u, rfl, ht, hu, hb⟩
  try simp only at ht hu
  obtain ⟨A5, c5, rfl, k5a, k5b⟩ := ht.form
  obtain ⟨B5, d5, rfl, k5c, k5d⟩ := hu.form
  have T5 := Lib.hid ht
  have U5 := Lib.hid hu
  clear ht hu
  replace NN := Lib.hid (Bgo NN.out hb)
  replace T4 := Lib.hid (T4.out.next hb)
  replace U4 := Lib.hid (U4.out.next hb)
  replace V9 := Lib.hid (blk_next hb V9.out)
  clear hb
  have c_V9_0 := blk_cell V9.out 0 _ rfl
  have f_V9_0 := blk_frozen V9.out 0
  have c_V9_1 := blk_cell V9.out 1 _ rfl
  have f_V9_1 := blk_frozen V9.out 1
  have c_V9_2 := blk_cell V9.out 2 _ rfl
  have f_V9_2 := blk_frozen V9.out 2
  have c_V9_3 := blk_cell V9.out 3 _ rfl
  have f_V9_3 := blk_frozen V9.out 3
  have l_V9 := blk_lt V9.out
  go_wp2_with fail
  clear c_V9_0 f_V9_0 c_V9_1 f_V9_1 c_V9_2 f_V9_2 c_V9_3 f_V9_3 l_V9
  clear T4 U4
  replace T5 := Lib.hid (OT.same_ (o := 3) (OT.same_ (o := 2) (OT.same_ (o := 1) (OT.same_ (o := 0) (T5.out) (V9.out) ne_sto_u8 ne_sto_sl ne_sto_dk (.int .i64 s5a)) (blk_set (V9.out) 0 (.int .i64 s5a)) ne_sto_u8 ne_sto_sl ne_sto_dk (.int .i64 s5b)) (blk_set (blk_set (V9.out) 0 (.int .i64 s5a)) 1 (.int .i64 s5b)) ne_sto_u8 ne_sto_sl ne_sto_dk (.slice A5 s5c.length c5)) (blk_set (blk_set (blk_set (V9.out) 0 (.int .i64 s5a)) 1 (.int .i64 s5b)) 2 (.slice A5 s5c.length c5)) ne_sto_u8 ne_sto_sl ne_sto_dk (.slice B5 s5d.length d5))
  replace U5 := Lib.hid (OO.set_ (o := 3) (OO.set_ (o := 2) (OO.set_ (o := 1) (OO.set_ (o := 0) (U5.out) (V9.out) ne_sto_ob (.int .i64 s5a)) (blk_set (V9.out) 0 (.int .i64 s5a)) ne_sto_ob (.int .i64 s5b)) (blk_set (blk_set (V9.out) 0 (.int .i64 s5a)) 1 (.int .i64 s5b)) ne_sto_ob (.slice A5 s5c.length c5)) (blk_set (blk_set (blk_set (V9.out) 0 (.int .i64 s5a)) 1 (.int .i64 s5b)) 2 (.slice A5 s5c.length c5)) ne_sto_ob (.slice B5 s5d.length d5))
  replace V9 : Hid (((((w11.setCell ⟨g10, 0, none⟩ (.int .i64 s5a)).setCell ⟨g10, 1, none⟩ (.int .i64 s5b)).setCell ⟨g10, 2, none⟩ (.slice A5 s5c.length c5)).setCell ⟨g10, 3, none⟩ (.slice B5 s5d.length d5)).heap[g10]? = some (.cells #[.int .i64 s5a, .int .i64 s5b, .slice A5 s5c.length c5, .slice B5 s5d.length d5] 25)) := Lib.hid (blk_set (blk_set (blk_set (blk_set (V9.out) 0 (.int .i64 s5a)) 1 (.int .i64 s5b)) 2 (.slice A5 s5c.length c5)) 3 (.slice B5 s5d.length d5))
  replace NN := Lib.hid (Bset1 (Bset1 (Bset1 (Bset1 (NN.out) (show w.heap.size ≤ g10 by have := LT_V9.out; omega) 0 (.int .i64 s5a)) (show w.heap.size ≤ g10 by have := LT_V9.out; omega) 1 (.int .i64 s5b)) (show w.heap.size ≤ g10 by have := LT_V9.out; omega) 2 (.slice A5 s5c.length c5)) (show w.heap.size ≤ g10 by have := LT_V9.out; omega) 3 (.slice B5 s5d.length d5))
  generalize ((((w11.setCell ⟨g10, 0, none⟩ (.int .i64 s5a)).setCell ⟨g10, 1, none⟩ (.int .i64 s5b)).setCell ⟨g10, 2, none⟩ (.slice A5 s5c.length c5)).setCell ⟨g10, 3, none⟩ (.slice B5 s5d.length d5)) = W12 at *
  as_aux_lemma =>
   have HDRW := Lib.hid (Below.drew (Below.refl W12.heap.size W12))
   replace NN := Lib.hid (Bgo NN.out HDRW.out)
   replace T5 := Lib.hid (T5.out.next HDRW.out)
   replace U5 := Lib.hid (U5.out.next HDRW.out)
   replace V9 := Lib.hid (blk_next HDRW.out V9.out)
   clear HDRW
   have HAL : Hid (∀ kx9 : Nat, SZ [(0, ⟨g10, 0, none⟩, .int .i64 s5a), (0, ⟨g10, 1, none⟩, .int .i64 s5b), (0, ⟨g10, 2, none⟩, .slice A5 s5c.length c5), (0, ⟨g10, 3, none⟩, .slice B5 s5d.length d5)] [] kx9 W12.drew) := Lib.hid (fun kx9 => by
    constructor
    ·intro p hp e
     simp only [List.mem_cons, List.not_mem_nil, or_false] at hp
     rcases hp with rfl | rfl | rfl | rfl
     ·exact ⟨blk_lt V9.out, blk_cell V9.out 0 _ rfl⟩
     ·exact ⟨blk_lt V9.out, blk_cell V9.out 1 _ rfl⟩
     ·exact ⟨blk_lt V9.out, blk_cell V9.out 2 _ rfl⟩
     ·exact ⟨blk_lt V9.out, blk_cell V9.out 3 _ rfl⟩
    ·intro p hp e
     exact absurd hp (by simp)
    )
   refine region_I (S := SZ [(0, ⟨g10, 0, none⟩, .int .i64 s5a), (0, ⟨g10, 1, none⟩, .int .i64 s5b), (0, ⟨g10, 2, none⟩, .slice A5 s5c.length c5), (0, ⟨g10, 3, none⟩, .slice B5 s5d.length d5)] []) (by kernel_rfl) ?_
   refine tJ 0 (.agg #[.int .i64 s5a, .int .i64 s5b, .slice A5 s5c.length c5, .slice B5 s5d.length d5]) (some 74) rfl (HAL.out 0) (Or.inl ⟨by rfl, ?_⟩) ?_
   ·intro X hX
    obtain ⟨hz0, hc0⟩ := hX.1 (0, ⟨g10, 0, none⟩, .int .i64 s5a) (List.Mem.head _) rfl
    simp only at hz0 hc0
    obtain ⟨hz1, hc1⟩ := hX.1 (0, ⟨g10, 1, none⟩, .int .i64 s5b) (List.Mem.tail _ (List.Mem.head _)) rfl
    simp only at hz1 hc1
    obtain ⟨hz2, hc2⟩ := hX.1 (0, ⟨g10, 2, none⟩, .slice A5 s5c.length c5) (List.Mem.tail _ (List.Mem.tail _ (List.Mem.head _))) rfl
    simp only at hz2 hc2
    obtain ⟨hz3, hc3⟩ := hX.1 (0, ⟨g10, 3, none⟩, .slice B5 s5d.length d5) (List.Mem.tail _ (List.Mem.tail _ (List.Mem.tail _ (List.Mem.head _)))) rfl
    simp only at hz3 hc3
    clear hX
    go_simp
   try simp only [Act.put, zA, zB, zC]
   refine only_I 1 (by kernel_rfl) rfl (fun K' hK' => ?_)
   go_simp
   go_at_call 38
   refine (TX256.out _).mono ?_
   rintro e x13 ⟨v, rfl, hv, hb⟩
   obtain ⟨Av, cv, rfl, va, vb, hv⟩ := OB.rb hv TB256.out
   have VB := Lib.hid hv
   clear hv
   replace NN := Lib.hid (Bgo NN.out hb)
   replace T5 := Lib.hid (T5.out.next hb)
   replace U5 := Lib.hid (U5.out.next hb)
   replace V9 := Lib.hid (blk_next hb V9.out)
   go_simp
   refine hK'.out _ _ (fun _ _ hS => hS.next hb) ?_
   clear hK' K'
   try simp only [Act.put, zA, zB, zC]
   replace HAL := Lib.hid (fun kx9 => (HAL.out kx9).next hb)
   clear hb
   refine only_I 2 (by kernel_rfl) rfl (fun K' hK' => ?_)
   go_simp
   go_at_call 14
   refine (C6.out A5 B5 c5 d5 _ _ k5a k5b k5c k5d T5.out.rd U5.out.ro Av cv _ va vb VB.out).mono ?_
   rintro e x14 ⟨v, u, rfl, ht, hu, hb⟩
   try simp only at ht hu
   obtain ⟨A6, c6, rfl, k6a, k6b⟩ := ht.form
   obtain ⟨B6, d6, rfl, k6c, k6d⟩ := hu.form
   have T6 := Lib.hid ht
   have U6 := Lib.hid hu
   clear ht hu
   replace NN := Lib.hid (Bgo NN.out hb)
   replace T5 := Lib.hid (T5.out.next hb)
   replace U5 := Lib.hid (U5.out.next hb)
   replace V9 := Lib.hid (blk_next hb V9.out)
   go_simp
   refine hK'.out _ _ (fun _ _ hS => hS.next hb) ?_
   clear hK' K'
   try simp only [Act.put, zA, zB, zC]
   replace HAL := Lib.hid (fun kx9 => (HAL.out kx9).next hb)
   clear hb
   refine tJ 3 (.tuple #[Tv s6a s6b (.slice A6 s6c.length c6) (.slice B6 s6d.length d6), .int .i64 0]) (some 73) rfl (SZ.drop (by simp) (by simp)) (Or.inl ⟨by rfl, ?_⟩) ?_
   ·intro X hX
    clear hX
    go_simp
   try simp only [Act.put, zA, zB, zC]
   refine tJ 4 (Tv s6a s6b (.slice A6 s6c.length c6) (.slice B6 s6d.length d6)) (some 77) rfl (SZ.drop (by simp) (by simp)) (Or.inl ⟨by rfl, ?_⟩) ?_
   ·intro X hX
    clear hX
    go_simp
   try simp only [Act.put, zA, zB, zC]
   refine tJ 5 (.int .i64 0) (some 78) rfl (SZ.drop (by simp) (by simp)) (Or.inl ⟨by rfl, ?_⟩) ?_
   ·intro X hX
    clear hX
    go_simp
   try simp only [Act.put, zA, zB, zC]
   refine only_I 6 (by kernel_rfl) rfl (fun K' hK' => ?_)
   have sc0 := blk_cell V9.out 0 _ rfl
   have sf0 := blk_frozen V9.out 0
   have sc1 := blk_cell V9.out 1 _ rfl
   have sf1 := blk_frozen V9.out 1
   have sc2 := blk_cell V9.out 2 _ rfl
   have sf2 := blk_frozen V9.out 2
   have sc3 := blk_cell V9.out 3 _ rfl
   have sf3 := blk_frozen V9.out 3
   have sl := blk_lt V9.out
   go_simp
   refine hK'.out _ _ (fun kk hk hS => ⟨fun p hp e => ?_, fun p hp e => ?_⟩) ?_
   ·simp only [List.mem_cons, List.not_mem_nil, or_false] at hp
    rcases hp with rfl | rfl | rfl | rfl
    ·subst e; exact bfl (by kernel_rfl) hk
    ·subst e; exact bfl (by kernel_rfl) hk
    ·subst e; exact bfl (by kernel_rfl) hk
    ·subst e; exact bfl (by kernel_rfl) hk
   ·exact absurd hp (by simp)
   clear hK' K'
   try simp only [Act.put, zA, zB, zC]
   refine tJ 7 (.int .i64 0) (some 12) rfl (SZ.drop (by simp) (by simp)) (Or.inl ⟨by rfl, ?_⟩) ?_
   ·intro X hX
    clear hX
    go_simp
   try simp only [Act.put, zA, zB, zC]
   clear HAL
   refine done_I (by kernel_rfl) ?_ _
   clear T5 U5 VB
   replace T6 := Lib.hid (OT.same_ (o := 3) (OT.same_ (o := 2) (OT.same_ (o := 1) (OT.same_ (o := 0) (T6.out) (V9.out) ne_sto_u8 ne_sto_sl ne_sto_dk (.int .i64 s6a)) (blk_set (V9.out) 0 (.int .i64 s6a)) ne_sto_u8 ne_sto_sl ne_sto_dk (.int .i64 s6b)) (blk_set (blk_set (V9.out) 0 (.int .i64 s6a)) 1 (.int .i64 s6b)) ne_sto_u8 ne_sto_sl ne_sto_dk (.slice A6 s6c.length c6)) (blk_set (blk_set (blk_set (V9.out) 0 (.int .i64 s6a)) 1 (.int .i64 s6b)) 2 (.slice A6 s6c.length c6)) ne_sto_u8 ne_sto_sl ne_sto_dk (.slice B6 s6d.length d6))
   replace U6 := Lib.hid (OO.set_ (o := 3) (OO.set_ (o := 2) (OO.set_ (o := 1) (OO.set_ (o := 0) (U6.out) (V9.out) ne_sto_ob (.int .i64 s6a)) (blk_set (V9.out) 0 (.int .i64 s6a)) ne_sto_ob (.int .i64 s6b)) (blk_set (blk_set (V9.out) 0 (.int .i64 s6a)) 1 (.int .i64 s6b)) ne_sto_ob (.slice A6 s6c.length c6)) (blk_set (blk_set (blk_set (V9.out) 0 (.int .i64 s6a)) 1 (.int .i64 s6b)) 2 (.slice A6 s6c.length c6)) ne_sto_ob (.slice B6 s6d.length d6))
   replace V9 : Hid (((((x14.setCell ⟨g10, 0, none⟩ (.int .i64 s6a)).setCell ⟨g10, 1, none⟩ (.int .i64 s6b)).setCell ⟨g10, 2, none⟩ (.slice A6 s6c.length c6)).setCell ⟨g10, 3, none⟩ (.slice B6 s6d.length d6)).heap[g10]? = some (.cells #[.int .i64 s6a, .int .i64 s6b, .slice A6 s6c.length c6, .slice B6 s6d.length d6] 25)) := Lib.hid (blk_set (blk_set (blk_set (blk_set (V9.out) 0 (.int .i64 s6a)) 1 (.int .i64 s6b)) 2 (.slice A6 s6c.length c6)) 3 (.slice B6 s6d.length d6))
   replace NN := Lib.hid (Bset1 (Bset1 (Bset1 (Bset1 (NN.out) (show w.heap.size ≤ g10 by have := LT_V9.out; omega) 0 (.int .i64 s6a)) (show w.heap.size ≤ g10 by have := LT_V9.out; omega) 1 (.int .i64 s6b)) (show w.heap.size ≤ g10 by have := LT_V9.out; omega) 2 (.slice A6 s6c.length c6)) (show w.heap.size ≤ g10 by have := LT_V9.out; omega) 3 (.slice B6 s6d.length d6))
   generalize ((((x14.setCell ⟨g10, 0, none⟩ (.int .i64 s6a)).setCell ⟨g10, 1, none⟩ (.int .i64 s6b)).setCell ⟨g10, 2, none⟩ (.slice A6 s6c.length c6)).setCell ⟨g10, 3, none⟩ (.slice B6 s6d.length d6)) = W15 at *
   go_wp2_with fail
   as_aux_lemma =>
    have HDRW := Lib.hid (Below.drew (Below.refl W15.heap.size W15))
    replace NN := Lib.hid (Bgo NN.out HDRW.out)
    replace T6 := Lib.hid (T6.out.next HDRW.out)
    replace U6 := Lib.hid (U6.out.next HDRW.out)
    replace V9 := Lib.hid (blk_next HDRW.out V9.out)
    clear HDRW
    have HAL : Hid (∀ kx9 : Nat, SZ [(0, ⟨g10, 0, none⟩, .int .i64 s6a), (0, ⟨g10, 1, none⟩, .int .i64 s6b), (0, ⟨g10, 2, none⟩, .slice A6 s6c.length c6), (0, ⟨g10, 3, none⟩, .slice B6 s6d.length d6)] [] kx9 W15.drew) := Lib.hid (fun kx9 => by
     constructor
     ·intro p hp e
      simp only [List.mem_cons, List.not_mem_nil, or_false] at hp
      rcases hp with rfl | rfl | rfl | rfl
      ·exact ⟨blk_lt V9.out, blk_cell V9.out 0 _ rfl⟩
      ·exact ⟨blk_lt V9.out, blk_cell V9.out 1 _ rfl⟩
      ·exact ⟨blk_lt V9.out, blk_cell V9.out 2 _ rfl⟩
      ·exact ⟨blk_lt V9.out, blk_cell V9.out 3 _ rfl⟩
     ·intro p hp e
      exact absurd hp (by simp)
     )
    refine region_I (S := SZ [(0, ⟨g10, 0, none⟩, .int .i64 s6a), (0, ⟨g10, 1, none⟩, .int .i64 s6b), (0, ⟨g10, 2, none⟩, .slice A6 s6c.length c6), (0, ⟨g10, 3, none⟩, .slice B6 s6d.length d6)] []) (by kernel_rfl) ?_
    refine tJ 0 (.agg #[.int .i64 s6a, .int .i64 s6b, .slice A6 s6c.length c6, .slice B6 s6d.length d6]) (some 80) rfl (HAL.out 0) (Or.inl ⟨by rfl, ?_⟩) ?_
    ·intro X hX
     obtain ⟨hz0, hc0⟩ := hX.1 (0, ⟨g10, 0, none⟩, .int .i64 s6a) (List.Mem.head _) rfl
     simp only at hz0 hc0
     obtain ⟨hz1, hc1⟩ := hX.1 (0, ⟨g10, 1, none⟩, .int .i64 s6b) (List.Mem.tail _ (List.Mem.head _)) rfl
     simp only at hz1 hc1
     obtain ⟨hz2, hc2⟩ := hX.1 (0, ⟨g10, 2, none⟩, .slice A6 s6c.length c6) (List.Mem.tail _ (List.Mem.tail _ (List.Mem.head _))) rfl
     simp only at hz2 hc2
     obtain ⟨hz3, hc3⟩ := hX.1 (0, ⟨g10, 3, none⟩, .slice B6 s6d.length d6) (List.Mem.tail _ (List.Mem.tail _ (List.Mem.tail _ (List.Mem.head _)))) rfl
     simp only at hz3 hc3
     clear hX
     go_simp
    try simp only [Act.put, zA, zB, zC]
    refine only_I 1 (by kernel_rfl) rfl (fun K' hK' => ?_)
    go_simp
    go_at_call 38
    refine (TX24.out _).mono ?_
    rintro e x16 ⟨v, rfl, hv, hb⟩
    obtain ⟨Av, cv, rfl, va, vb, hv⟩ := OB.rb hv TB24.out
    have VB := Lib.hid hv
    clear hv
    replace NN := Lib.hid (Bgo NN.out hb)
    replace T6 := Lib.hid (T6.out.next hb)
    replace U6 := Lib.hid (U6.out.next hb)
    replace V9 := Lib.hid (blk_next hb V9.out)
    go_simp
    refine hK'.out _ _ (fun _ _ hS => hS.next hb) ?_
    clear hK' K'
    try simp only [Act.put, zA, zB, zC]
    replace HAL := Lib.hid (fun kx9 => (HAL.out kx9).next hb)
    clear hb
    refine only_I 2 (by kernel_rfl) rfl (fun K' hK' => ?_)
    go_simp
    go_at_call 14
    refine (C7.out A6 B6 c6 d6 _ _ k6a k6b k6c k6d T6.out.rd U6.out.ro Av cv _ va vb VB.out).mono ?_
    rintro e x17 ⟨v, u, rfl, ht, hu, hb⟩
    try simp only at ht hu
    obtain ⟨A7, c7, rfl, k7a, k7b⟩ := ht.form
    obtain ⟨B7, d7, rfl, k7c, k7d⟩ := hu.form
    have T7 := Lib.hid ht
    have U7 := Lib.hid hu
    clear ht hu
    replace NN := Lib.hid (Bgo NN.out hb)
    replace T6 := Lib.hid (T6.out.next hb)
    replace U6 := Lib.hid (U6.out.next hb)
    replace V9 := Lib.hid (blk_next hb V9.out)
    go_simp
    refine hK'.out _ _ (fun _ _ hS => hS.next hb) ?_
    clear hK' K'
    try simp only [Act.put, zA, zB, zC]
    replace HAL := Lib.hid (fun kx9 => (HAL.out kx9).next hb)
    clear hb
    refine tJ 3 (.tuple #[Tv s7a s7b (.slice A7 s7c.length c7) (.slice B7 s7d.length d7), .int .i64 0]) (some 79) rfl (SZ.drop (by simp) (by simp)) (Or.inl ⟨by rfl, ?_⟩) ?_
    ·intro X hX
     clear hX
     go_simp
    try simp only [Act.put, zA, zB, zC]
    refine tJ 4 (Tv s7a s7b (.slice A7 s7c.length c7) (.slice B7 s7d.length d7)) (some 83) rfl (SZ.drop (by simp) (by simp)) (Or.inl ⟨by rfl, ?_⟩) ?_
    ·intro X hX
     clear hX
     go_simp
    try simp only [Act.put, zA, zB, zC]
    refine tJ 5 (.int .i64 0) (some 84) rfl (SZ.drop (by simp) (by simp)) (Or.inl ⟨by rfl, ?_⟩) ?_
    ·intro X hX
     clear hX
     go_simp
    try simp only [Act.put, zA, zB, zC]
    refine only_I 6 (by kernel_rfl) rfl (fun K' hK' => ?_)
    have sc0 := blk_cell V9.out 0 _ rfl
    have sf0 := blk_frozen V9.out 0
    have sc1 := blk_cell V9.out 1 _ rfl
    have sf1 := blk_frozen V9.out 1
    have sc2 := blk_cell V9.out 2 _ rfl
    have sf2 := blk_frozen V9.out 2
    have sc3 := blk_cell V9.out 3 _ rfl
    have sf3 := blk_frozen V9.out 3
    have sl := blk_lt V9.out
    go_simp
    refine hK'.out _ _ (fun kk hk hS => ⟨fun p hp e => ?_, fun p hp e => ?_⟩) ?_
    ·simp only [List.mem_cons, List.not_mem_nil, or_false] at hp
     rcases hp with rfl | rfl | rfl | rfl
     ·subst e; exact bfl (by kernel_rfl) hk
     ·subst e; exact bfl (by kernel_rfl) hk
     ·subst e; exact bfl (by kernel_rfl) hk
     ·subst e; exact bfl (by kernel_rfl) hk
    ·exact absurd hp (by simp)
    clear hK' K'
    try simp only [Act.put, zA, zB, zC]
    refine tJ 7 (.int .i64 0) (some 13) rfl (SZ.drop (by simp) (by simp)) (Or.inl ⟨by rfl, ?_⟩) ?_
    ·intro X hX
     clear hX
     go_simp
    try simp only [Act.put, zA, zB, zC]
    clear HAL
    refine done_I (by kernel_rfl) ?_ _
    clear T6 U6 VB
    replace T7 := Lib.hid (OT.same_ (o := 3) (OT.same_ (o := 2) (OT.same_ (o := 1) (OT.same_ (o := 0) (T7.out) (V9.out) ne_sto_u8 ne_sto_sl ne_sto_dk (.int .i64 s7a)) (blk_set (V9.out) 0 (.int .i64 s7a)) ne_sto_u8 ne_sto_sl ne_sto_dk (.int .i64 s7b)) (blk_set (blk_set (V9.out) 0 (.int .i64 s7a)) 1 (.int .i64 s7b)) ne_sto_u8 ne_sto_sl ne_sto_dk (.slice A7 s7c.length c7)) (blk_set (blk_set (blk_set (V9.out) 0 (.int .i64 s7a)) 1 (.int .i64 s7b)) 2 (.slice A7 s7c.length c7)) ne_sto_u8 ne_sto_sl ne_sto_dk (.slice B7 s7d.length d7))
    replace U7 := Lib.hid (OO.set_ (o := 3) (OO.set_ (o := 2) (OO.set_ (o := 1) (OO.set_ (o := 0) (U7.out) (V9.out) ne_sto_ob (.int .i64 s7a)) (blk_set (V9.out) 0 (.int .i64 s7a)) ne_sto_ob (.int .i64 s7b)) (blk_set (blk_set (V9.out) 0 (.int .i64 s7a)) 1 (.int .i64 s7b)) ne_sto_ob (.slice A7 s7c.length c7)) (blk_set (blk_set (blk_set (V9.out) 0 (.int .i64 s7a)) 1 (.int .i64 s7b)) 2 (.slice A7 s7c.length c7)) ne_sto_ob (.slice B7 s7d.length d7))
    replace V9 : Hid (((((x17.setCell ⟨g10, 0, none⟩ (.int .i64 s7a)).setCell ⟨g10, 1, none⟩ (.int .i64 s7b)).setCell ⟨g10, 2, none⟩ (.slice A7 s7c.length c7)).setCell ⟨g10, 3, none⟩ (.slice B7 s7d.length d7)).heap[g10]? = some (.cells #[.int .i64 s7a, .int .i64 s7b, .slice A7 s7c.length c7, .slice B7 s7d.length d7] 25)) := Lib.hid (blk_set (blk_set (blk_set (blk_set (V9.out) 0 (.int .i64 s7a)) 1 (.int .i64 s7b)) 2 (.slice A7 s7c.length c7)) 3 (.slice B7 s7d.length d7))
    replace NN := Lib.hid (Bset1 (Bset1 (Bset1 (Bset1 (NN.out) (show w.heap.size ≤ g10 by have := LT_V9.out; omega) 0 (.int .i64 s7a)) (show w.heap.size ≤ g10 by have := LT_V9.out; omega) 1 (.int .i64 s7b)) (show w.heap.size ≤ g10 by have := LT_V9.out; omega) 2 (.slice A7 s7c.length c7)) (show w.heap.size ≤ g10 by have := LT_V9.out; omega) 3 (.slice B7 s7d.length d7))
    generalize ((((x17.setCell ⟨g10, 0, none⟩ (.int .i64 s7a)).setCell ⟨g10, 1, none⟩ (.int .i64 s7b)).setCell ⟨g10, 2, none⟩ (.slice A7 s7c.length c7)).setCell ⟨g10, 3, none⟩ (.slice B7 s7d.length d7)) = W18 at *
    as_aux_lemma =>
     have c_V9_0 := blk_cell V9.out 0 _ rfl
     have f_V9_0 := blk_frozen V9.out 0
     have c_V9_1 := blk_cell V9.out 1 _ rfl
     have f_V9_1 := blk_frozen V9.out 1
     have c_V9_2 := blk_cell V9.out 2 _ rfl
     have f_V9_2 := blk_frozen V9.out 2
     have c_V9_3 := blk_cell V9.out 3 _ rfl
     have f_V9_3 := blk_frozen V9.out 3
     have l_V9 := blk_lt V9.out
     go_wp2_with fail
     refine (C8.out A7 B7 c7 d7 _ _ k7a k7b k7c k7d T7.out.rd U7.out.ro none 0 0 (by decide) (by decide) ⟨Byt.nil, Hd.nil _ _ _⟩).mono ?_
     rintro e w19 ⟨v, u, rfl, ht, hu, hb⟩
     try simp only at ht hu
     obtain ⟨A8, c8, rfl, k8a, k8b⟩ := ht.form
     obtain ⟨B8, d8, rfl, k8c, k8d⟩ := hu.form
     have T8 := Lib.hid ht
     have U8 := Lib.hid hu
     clear ht hu
     clear c_V9_0 f_V9_0 c_V9_1 f_V9_1 c_V9_2 f_V9_2 c_V9_3 f_V9_3 l_V9
     replace NN := Lib.hid (Bgo NN.out hb)
     replace T7 := Lib.hid (T7.out.next hb)
     replace U7 := Lib.hid (U7.out.next hb)
     replace V9 := Lib.hid (blk_next hb V9.out)
     clear hb
     have HB : Hid (Below w19.heap.size w19 (w19.alloc (.cells #[.int .i64 s8a, .int .i64 s8b, .slice A8 s8c.length c8, .slice B8 s8d.length d8] 25))) := Lib.hid (Bal (Below.refl _ _) _)
     have V14 := Lib.hid (blk_new w19 (.cells #[.int .i64 s8a, .int .i64 s8b, .slice A8 s8c.length c8, .slice B8 s8d.length d8] 25))
     have LT_V14 : Hid (g10 < w19.heap.size ∧ w.heap.size ≤ w19.heap.size) := Lib.hid ⟨blk_lt V9.out, NN.out.size⟩
     replace NN := Lib.hid (Bgo NN.out HB.out)
     replace T7 := Lib.hid (T7.out.next HB.out)
     replace U7 := Lib.hid (U7.out.next HB.out)
     replace T8 := Lib.hid (T8.out.next HB.out)
     replace U8 := Lib.hid (U8.out.next HB.out)
     replace V9 := Lib.hid (blk_next HB.out V9.out)
     clear HB
     have c_V9_0 := blk_cell V9.out 0 _ rfl
     have f_V9_0 := blk_frozen V9.out 0
     have c_V9_1 := blk_cell V9.out 1 _ rfl
     have f_V9_1 := blk_frozen V9.out 1
     have c_V9_2 := blk_cell V9.out 2 _ rfl
     have f_V9_2 := blk_frozen V9.out 2
     have c_V9_3 := blk_cell V9.out 3 _ rfl
     have f_V9_3 := blk_frozen V9.out 3
     have l_V9 := blk_lt V9.out
     go_wp2_with fail
     clear c_V9_0 f_V9_0 c_V9_1 f_V9_1 c_V9_2 f_V9_2 c_V9_3 f_V9_3 l_V9
     generalize w19.alloc (.cells #[.int .i64 s8a, .int .i64 s8b, .slice A8 s8c.length c8, .slice B8 s8d.length d8] 25) = W20 at *
     generalize w19.heap.size = g20 at *
     clear V14 T8 U8
     refine (C9.out A7 B7 c7 d7 _ _ k7a k7b k7c k7d T7.out.rd U7.out.ro none 0 0 (by decide) (by decide) ⟨Byt.nil, Hd.nil _ _ _⟩).mono ?_
     rintro e w21 ⟨v, u, rfl, ht, hu, hb⟩
     try simp only at ht hu
     obtain ⟨A9, c9, rfl, k9a, k9b⟩ := ht.form
     obtain ⟨B9, d9, rfl, k9c, k9d⟩ := hu.form
     have T9 := Lib.hid ht
     have U9 := Lib.hid hu
     clear ht hu
     replace NN := Lib.hid (Bgo NN.out hb)
     replace T7 := Lib.hid (T7.out.next hb)
     replace U7 := Lib.hid (U7.out.next hb)
     replace V9 := Lib.hid (blk_next hb V9.out)
     clear hb
     have HB : Hid (Below w21.heap.size w21 (w21.alloc (.cells #[.int .i64 s9a, .int .i64 s9b, .slice A9 s9c.length c9, .slice B9 s9d.length d9] 25))) := Lib.hid (Bal (Below.refl _ _) _)
     have V16 := Lib.hid (blk_new w21 (.cells #[.int .i64 s9a, .int .i64 s9b, .slice A9 s9c.length c9, .slice B9 s9d.length d9] 25))
     have LT_V16 : Hid (g10 < w21.heap.size ∧ w.heap.size ≤ w21.heap.size) := Lib.hid ⟨blk_lt V9.out, NN.out.size⟩
     replace NN := Lib.hid (Bgo NN.out HB.out)
     replace T7 := Lib.hid (T7.out.next HB.out)
     replace U7 := Lib.hid (U7.out.next HB.out)
     replace T9 := Lib.hid (T9.out.next HB.out)
     replace U9 := Lib.hid (U9.out.next HB.out)
     replace V9 := Lib.hid (blk_next HB.out V9.out)
     clear HB
     have c_V9_0 := blk_cell V9.out 0 _ rfl
     have f_V9_0 := blk_frozen V9.out 0
     have c_V9_1 := blk_cell V9.out 1 _ rfl
     have f_V9_1 := blk_frozen V9.out 1
     have c_V9_2 := blk_cell V9.out 2 _ rfl
     have f_V9_2 := blk_frozen V9.out 2
     have c_V9_3 := blk_cell V9.out 3 _ rfl
     have f_V9_3 := blk_frozen V9.out 3
     have l_V9 := blk_lt V9.out
     go_wp2_with fail
     clear c_V9_0 f_V9_0 c_V9_1 f_V9_1 c_V9_2 f_V9_2 c_V9_3 f_V9_3 l_V9
     generalize w21.alloc (.cells #[.int .i64 s9a, .int .i64 s9b, .slice A9 s9c.length c9, .slice B9 s9d.length d9] 25) = W22 at *
     generalize w21.heap.size = g22 at *
     clear V16 T9 U9
     refine (C10.out A7 B7 c7 d7 _ _ k7a k7b k7c k7d T7.out.rd U7.out.ro none 0 0 (by decide) (by decide) ⟨Byt.nil, Hd.nil _ _ _⟩).mono ?_
     rintro e w23 ⟨v, u, rfl, ht, hu, hb⟩
     try simp only at ht hu
     obtain ⟨A10, c10, rfl, k10a, k10b⟩ := ht.form
     obtain ⟨B10, d10, rfl, k10c, k10d⟩ := hu.form
     have T10 := Lib.hid ht
     have U10 := Lib.hid hu
     clear ht hu
     replace NN := Lib.hid (Bgo NN.out hb)
     replace T7 := Lib.hid (T7.out.next hb)
     replace U7 := Lib.hid (U7.out.next hb)
     replace V9 := Lib.hid (blk_next hb V9.out)
     clear hb
     have HB : Hid (Below w23.heap.size w23 (w23.alloc (.cells #[.int .i64 s10a, .int .i64 s10b, .slice A10 s10c.length c10, .slice B10 s10d.length d10] 25))) := Lib.hid (Bal (Below.refl _ _) _)
     have V18 := Lib.hid (blk_new w23 (.cells #[.int .i64 s10a, .int .i64 s10b, .slice A10 s10c.length c10, .slice B10 s10d.length d10] 25))
     have LT_V18 : Hid (g10 < w23.heap.size ∧ w.heap.size ≤ w23.heap.size) := Lib.hid ⟨blk_lt V9.out, NN.out.size⟩
     replace NN := Lib.hid (Bgo NN.out HB.out)
     replace T7 := Lib.hid (T7.out.next HB.out)
     replace U7 := Lib.hid (U7.out.next HB.out)
     replace T10 := Lib.hid (T10.out.next HB.out)
     replace U10 := Lib.hid (U10.out.next HB.out)
     replace V9 := Lib.hid (blk_next HB.out V9.out)
     clear HB
     go_upto_region 12 with fail
     generalize (w23.alloc (.cells #[.int .i64 s10a, .int .i64 s10b, .slice A10 s10c.length c10, .slice B10 s10d.length d10] 25)) = WV18 at *
     generalize w23.heap.size = gV18 at *
     clear V18 T10 U10
     as_aux_lemma =>
      have HDRW := Lib.hid (Below.drew (Below.refl WV18.heap.size WV18))
      replace NN := Lib.hid (Bgo NN.out HDRW.out)
      replace T7 := Lib.hid (T7.out.next HDRW.out)
      replace U7 := Lib.hid (U7.out.next HDRW.out)
      replace V9 := Lib.hid (blk_next HDRW.out V9.out)
      clear HDRW
      refine region_I (S := SZ [(0, ⟨g10, 0, none⟩, .int .i64 s7a), (0, ⟨g10, 1, none⟩, .int .i64 s7b), (0, ⟨g10, 2, none⟩, .slice A7 s7c.length c7), (0, ⟨g10, 3, none⟩, .slice B7 s7d.length d7)] []) (by kernel_rfl) ?_
      generalize WV18.drew = WD at *
      refine suff8 (F := fun WH g Av cv A B c d => Hid (Below WD.heap.size WD WH)) (G := ?G) ?rest (fun REST => ?main)
      case main =>
       have NN := Lib.hid (Below.refl WD.heap.size WD)
       have L9W : Hid (g10 < WD.heap.size) := Lib.hid (blk_lt V9.out)
       have HAL : Hid (SZ [(0, ⟨g10, 0, none⟩, .int .i64 s7a), (0, ⟨g10, 1, none⟩, .int .i64 s7b), (0, ⟨g10, 2, none⟩, .slice A7 s7c.length c7), (0, ⟨g10, 3, none⟩, .slice B7 s7d.length d7)] [] 0 WD) := Lib.hid (by
        constructor
        ·intro p hp e
         simp only [List.mem_cons, List.not_mem_nil, or_false] at hp
         rcases hp with rfl | rfl | rfl | rfl
         ·exact ⟨blk_lt V9.out, blk_cell V9.out 0 _ rfl⟩
         ·exact ⟨blk_lt V9.out, blk_cell V9.out 1 _ rfl⟩
         ·exact ⟨blk_lt V9.out, blk_cell V9.out 2 _ rfl⟩
         ·exact ⟨blk_lt V9.out, blk_cell V9.out 3 _ rfl⟩
        ·intro p hp e
         exact absurd hp (by simp))
       refine tJ 0 (.agg #[.int .i64 s7a, .int .i64 s7b, .slice A7 s7c.length c7, .slice B7 s7d.length d7]) (some 101) rfl HAL.out (Or.inl ⟨by rfl, ?_⟩) ?_
       ·intro X hX
        obtain ⟨hz0, hc0⟩ := hX.1 (0, ⟨g10, 0, none⟩, .int .i64 s7a) (by simp) rfl
        obtain ⟨hz1, hc1⟩ := hX.1 (0, ⟨g10, 1, none⟩, .int .i64 s7b) (by simp) rfl
        obtain ⟨hz2, hc2⟩ := hX.1 (0, ⟨g10, 2, none⟩, .slice A7 s7c.length c7) (by simp) rfl
        obtain ⟨hz3, hc3⟩ := hX.1 (0, ⟨g10, 3, none⟩, .slice B7 s7d.length d7) (by simp) rfl
        simp only at hz0 hc0
        simp only at hz1 hc1
        simp only at hz2 hc2
        simp only at hz3 hc3
        clear hX
        go_simp
       try simp only [Act.put, zA, zB, zC]
       clear HAL
       refine two_I 1 6 (by kernel_rfl) rfl rfl (fun K' hK' => ?_) (fun K' hK' => ?_)
       ·go_simp
        go_at_call 38
        refine (TX257.out _).mono ?_
        rintro e X25 ⟨v, rfl, hv, hb⟩
        obtain ⟨Av, cv, rfl, va, vb, hv⟩ := OB.rb hv TB257.out
        have VB := Lib.hid hv
        clear hv
        replace NN := Lib.hid (Bgo NN.out hb)
        go_simp
        refine hK'.out _ _ (fun _ _ hS => hS.next (hb)) ?_
        clear hK' K'
        try simp only [Act.put, zA, zB, zC]
        clear hb
        refine two_I 2 6 (by kernel_rfl) rfl rfl (fun K' hK' => ?_) (fun K' hK' => ?_)
        ·go_simp
         go_at_call 14
         refine (C11.out A7 B7 c7 d7 _ _ k7a k7b k7c k7d (T7.out.next NN.out).rd (U7.out.next NN.out).ro Av cv _ va vb VB.out).mono ?_
         rintro e X26 ⟨v, u, rfl, ht, hu, hb⟩
         try simp only at ht hu
         obtain ⟨A11, c11, rfl, k11a, k11b⟩ := ht.form
         obtain ⟨B11, d11, rfl, k11c, k11d⟩ := hu.form
         have T11 := Lib.hid ht
         have U11 := Lib.hid hu
         clear ht hu
         clear T11 U11
         replace NN := Lib.hid (Bgo NN.out hb)
         replace VB := Lib.hid (RBA.next hb VB.out)
         go_simp
         refine hK'.out _ _ (fun kk hk hS => ⟨fun p hp e => ?_, fun p hp e => ?_⟩) ?_
         ·simp only [List.mem_cons, List.not_mem_nil, or_false] at hp
          rcases hp with rfl | rfl | rfl | rfl
          ·subst e; exact bfl (by kernel_rfl) hk
          ·subst e; exact bfl (by kernel_rfl) hk
          ·subst e; exact bfl (by kernel_rfl) hk
          ·subst e; exact bfl (by kernel_rfl) hk
         ·exact absurd hp (by simp)
         clear hK' K'
         try simp only [Act.put, zA, zB, zC]
         clear hb
         refine tJ 3 (.tuple #[.agg #[.int .i64 s11a, .int .i64 s11b, .slice A11 s11c.length c11, .slice B11 s11d.length d11], .int .i64 4]) (some 100) rfl (SZ.drop (by simp) (by simp)) (Or.inl ⟨by rfl, ?_⟩) ?_
         ·intro X hX
          clear hX
          go_simp
         try simp only [Act.put, zA, zB, zC]
         refine tJ 4 (.agg #[.int .i64 s11a, .int .i64 s11b, .slice A11 s11c.length c11, .slice B11 s11d.length d11]) (some 104) rfl (SZ.drop (by simp) (by simp)) (Or.inl ⟨by rfl, ?_⟩) ?_
         ·intro X hX
          clear hX
          go_simp
         try simp only [Act.put, zA, zB, zC]
         refine tJ 5 (.int .i64 4) (some 105) rfl (SZ.drop (by simp) (by simp)) (Or.inl ⟨by rfl, ?_⟩) ?_
         ·intro X hX
          clear hX
          go_simp
         try simp only [Act.put, zA, zB, zC]
         refine only_I 6 (by kernel_rfl) rfl (fun K' hK' => ?_)
         go_simp
         refine hK'.out _ _ (fun _ _ hS => hS.next (Bal (Below.refl _ _) _)) ?_
         clear hK' K'
         try simp only [Act.put, zA, zB, zC]
         have HB := Lib.hid (Bal (Below.refl X26.heap.size X26) (.cells #[.int .i64 0, .int .i64 0, .slice none 0 0, .slice none 0 0] 25))
         have LGZ : Hid (WD.heap.size ≤ X26.heap.size) := Lib.hid NN.out.size
         replace NN := Lib.hid (Bgo NN.out HB.out)
         replace VB := Lib.hid (RBA.next HB.out VB.out)
         have VZ := Lib.hid (blk_new X26 (.cells #[.int .i64 0, .int .i64 0, .slice none 0 0, .slice none 0 0] 25))
         clear HB
         generalize X26.alloc (.cells #[.int .i64 0, .int .i64 0, .slice none 0 0, .slice none 0 0] 25) = X27 at *
         generalize X26.heap.size = gz at *
         have c_VZ_0 := blk_cell VZ.out 0 _ rfl
         have f_VZ_0 := blk_frozen VZ.out 0
         have c_VZ_1 := blk_cell VZ.out 1 _ rfl
         have f_VZ_1 := blk_frozen VZ.out 1
         have c_VZ_2 := blk_cell VZ.out 2 _ rfl
         have f_VZ_2 := blk_frozen VZ.out 2
         have c_VZ_3 := blk_cell VZ.out 3 _ rfl
         have f_VZ_3 := blk_frozen VZ.out 3
         have l_VZ := blk_lt VZ.out
         refine only_I 7 (by kernel_rfl) rfl (fun K' hK' => ?_)
         go_simp
         have hn : ∀ p ∈ ([(0, ⟨g10, 0, none⟩, .int .i64 s7a), (0, ⟨g10, 1, none⟩, .int .i64 s7b), (0, ⟨g10, 2, none⟩, .slice A7 s7c.length c7), (0, ⟨g10, 3, none⟩, .slice B7 s7d.length d7)] : List (Nat × Addr × Value)), p.2.1.block ≠ gz := by
          intro p hp
          simp only [List.mem_cons, List.not_mem_nil, or_false] at hp
          have := L9W.out
          have := LGZ.out
          have hne : g10 ≠ gz := by omega
          rcases hp with rfl | rfl | rfl | rfl <;> exact hne
         refine hK'.out _ _ (fun _ _ hS => SZ.far (SZ.far (SZ.far (SZ.far hS hn) hn) hn) hn) ?_
         clear hK' K' hn
         try simp only [Act.put, zA, zB, zC]
         clear c_VZ_0 f_VZ_0 c_VZ_1 f_VZ_1 c_VZ_2 f_VZ_2 c_VZ_3 f_VZ_3 l_VZ
         replace VZ : Hid (((((X27.setCell ⟨gz, 0, none⟩ (.int .i64 s11a)).setCell ⟨gz, 1, none⟩ (.int .i64 s11b)).setCell ⟨gz, 2, none⟩ (.slice A11 s11c.length c11)).setCell ⟨gz, 3, none⟩ (.slice B11 s11d.length d11)).heap[gz]? = some (.cells #[.int .i64 s11a, .int .i64 s11b, .slice A11 s11c.length c11, .slice B11 s11d.length d11] 25)) := Lib.hid (blk_set (blk_set (blk_set (blk_set (VZ.out) 0 (.int .i64 s11a)) 1 (.int .i64 s11b)) 2 (.slice A11 s11c.length c11)) 3 (.slice B11 s11d.length d11))
         replace NN := Lib.hid (Bset1 (Bset1 (Bset1 (Bset1 (NN.out) (show WD.heap.size ≤ gz by have := LGZ.out; omega) 0 (.int .i64 s11a)) (show WD.heap.size ≤ gz by have := LGZ.out; omega) 1 (.int .i64 s11b)) (show WD.heap.size ≤ gz by have := LGZ.out; omega) 2 (.slice A11 s11c.length c11)) (show WD.heap.size ≤ gz by have := LGZ.out; omega) 3 (.slice B11 s11d.length d11))
         generalize ((((X27.setCell ⟨gz, 0, none⟩ (.int .i64 s11a)).setCell ⟨gz, 1, none⟩ (.int .i64 s11b)).setCell ⟨gz, 2, none⟩ (.slice A11 s11c.length c11)).setCell ⟨gz, 3, none⟩ (.slice B11 s11d.length d11)) = W28 at *
         refine tJ 8 (.int .i64 4) (some 21) rfl (SZ.drop (by simp) (by simp)) (Or.inl ⟨by rfl, ?_⟩) ?_
         ·intro X hX
          clear hX
          go_simp
         try simp only [Act.put, zA, zB, zC]
         exact REST W28 gz Av cv A11 B11 c11 d11 NN
        ·go_simp
         refine hK'.out _ _ (fun _ _ hS => hS.next (Bal (Below.refl _ _) _)) ?_
         clear hK' K'
         try simp only [Act.put, zA, zB, zC]
         have HB := Lib.hid (Bal (Below.refl X25.heap.size X25) (.cells #[.int .i64 0, .int .i64 0, .slice none 0 0, .slice none 0 0] 25))
         have LGZ : Hid (WD.heap.size ≤ X25.heap.size) := Lib.hid NN.out.size
         replace NN := Lib.hid (Bgo NN.out HB.out)
         replace VB := Lib.hid (RBA.next HB.out VB.out)
         have VZ := Lib.hid (blk_new X25 (.cells #[.int .i64 0, .int .i64 0, .slice none 0 0, .slice none 0 0] 25))
         clear HB
         generalize X25.alloc (.cells #[.int .i64 0, .int .i64 0, .slice none 0 0, .slice none 0 0] 25) = X29 at *
         generalize X25.heap.size = gz at *
         refine only_I 2 (by kernel_rfl) rfl (fun K' hK' => ?_)
         go_simp
         go_at_call 14
         refine (C11.out A7 B7 c7 d7 _ _ k7a k7b k7c k7d (T7.out.next NN.out).rd (U7.out.next NN.out).ro Av cv _ va vb VB.out).mono ?_
         rintro e X30 ⟨v, u, rfl, ht, hu, hb⟩
         try simp only at ht hu
         obtain ⟨A11, c11, rfl, k11a, k11b⟩ := ht.form
         obtain ⟨B11, d11, rfl, k11c, k11d⟩ := hu.form
         have T11 := Lib.hid ht
         have U11 := Lib.hid hu
         clear ht hu
         clear T11 U11
         replace NN := Lib.hid (Bgo NN.out hb)
         replace VB := Lib.hid (RBA.next hb VB.out)
         replace VZ := Lib.hid (blk_next hb VZ.out)
         go_simp
         refine hK'.out _ _ (fun kk hk hS => ⟨fun p hp e => ?_, fun p hp e => ?_⟩) ?_
         ·simp only [List.mem_cons, List.not_mem_nil, or_false] at hp
          rcases hp with rfl | rfl | rfl | rfl
          ·subst e; exact bfl (by kernel_rfl) hk
          ·subst e; exact bfl (by kernel_rfl) hk
          ·subst e; exact bfl (by kernel_rfl) hk
          ·subst e; exact bfl (by kernel_rfl) hk
         ·exact absurd hp (by simp)
         clear hK' K'
         try simp only [Act.put, zA, zB, zC]
         clear hb
         refine tJ 3 (.tuple #[.agg #[.int .i64 s11a, .int .i64 s11b, .slice A11 s11c.length c11, .slice B11 s11d.length d11], .int .i64 4]) (some 100) rfl (SZ.drop (by simp) (by simp)) (Or.inl ⟨by rfl, ?_⟩) ?_
         ·intro X hX
          clear hX
          go_simp
         try simp only [Act.put, zA, zB, zC]
         refine tJ 4 (.agg #[.int .i64 s11a, .int .i64 s11b, .slice A11 s11c.length c11, .slice B11 s11d.length d11]) (some 104) rfl (SZ.drop (by simp) (by simp)) (Or.inl ⟨by rfl, ?_⟩) ?_
         ·intro X hX
          clear hX
          go_simp
         try simp only [Act.put, zA, zB, zC]
         refine tJ 5 (.int .i64 4) (some 105) rfl (SZ.drop (by simp) (by simp)) (Or.inl ⟨by rfl, ?_⟩) ?_
         ·intro X hX
          clear hX
          go_simp
         try simp only [Act.put, zA, zB, zC]
         have c_VZ_0 := blk_cell VZ.out 0 _ rfl
         have f_VZ_0 := blk_frozen VZ.out 0
         have c_VZ_1 := blk_cell VZ.out 1 _ rfl
         have f_VZ_1 := blk_frozen VZ.out 1
         have c_VZ_2 := blk_cell VZ.out 2 _ rfl
         have f_VZ_2 := blk_frozen VZ.out 2
         have c_VZ_3 := blk_cell VZ.out 3 _ rfl
         have f_VZ_3 := blk_frozen VZ.out 3
         have l_VZ := blk_lt VZ.out
         refine only_I 7 (by kernel_rfl) rfl (fun K' hK' => ?_)
         go_simp
         have hn : ∀ p ∈ ([(0, ⟨g10, 0, none⟩, .int .i64 s7a), (0, ⟨g10, 1, none⟩, .int .i64 s7b), (0, ⟨g10, 2, none⟩, .slice A7 s7c.length c7), (0, ⟨g10, 3, none⟩, .slice B7 s7d.length d7)] : List (Nat × Addr × Value)), p.2.1.block ≠ gz := by
          intro p hp
          simp only [List.mem_cons, List.not_mem_nil, or_false] at hp
          have := L9W.out
          have := LGZ.out
          have hne : g10 ≠ gz := by omega
          rcases hp with rfl | rfl | rfl | rfl <;> exact hne
         refine hK'.out _ _ (fun _ _ hS => SZ.far (SZ.far (SZ.far (SZ.far hS hn) hn) hn) hn) ?_
         clear hK' K' hn
         try simp only [Act.put, zA, zB, zC]
         clear c_VZ_0 f_VZ_0 c_VZ_1 f_VZ_1 c_VZ_2 f_VZ_2 c_VZ_3 f_VZ_3 l_VZ
         replace VZ : Hid (((((X30.setCell ⟨gz, 0, none⟩ (.int .i64 s11a)).setCell ⟨gz, 1, none⟩ (.int .i64 s11b)).setCell ⟨gz, 2, none⟩ (.slice A11 s11c.length c11)).setCell ⟨gz, 3, none⟩ (.slice B11 s11d.length d11)).heap[gz]? = some (.cells #[.int .i64 s11a, .int .i64 s11b, .slice A11 s11c.length c11, .slice B11 s11d.length d11] 25)) := Lib.hid (blk_set (blk_set (blk_set (blk_set (VZ.out) 0 (.int .i64 s11a)) 1 (.int .i64 s11b)) 2 (.slice A11 s11c.length c11)) 3 (.slice B11 s11d.length d11))
         replace NN := Lib.hid (Bset1 (Bset1 (Bset1 (Bset1 (NN.out) (show WD.heap.size ≤ gz by have := LGZ.out; omega) 0 (.int .i64 s11a)) (show WD.heap.size ≤ gz by have := LGZ.out; omega) 1 (.int .i64 s11b)) (show WD.heap.size ≤ gz by have := LGZ.out; omega) 2 (.slice A11 s11c.length c11)) (show WD.heap.size ≤ gz by have := LGZ.out; omega) 3 (.slice B11 s11d.length d11))
         generalize ((((X30.setCell ⟨gz, 0, none⟩ (.int .i64 s11a)).setCell ⟨gz, 1, none⟩ (.int .i64 s11b)).setCell ⟨gz, 2, none⟩ (.slice A11 s11c.length c11)).setCell ⟨gz, 3, none⟩ (.slice B11 s11d.length d11)) = W31 at *
         refine tJ 8 (.int .i64 4) (some 21) rfl (SZ.drop (by simp) (by simp)) (Or.inl ⟨by rfl, ?_⟩) ?_
         ·intro X hX
          clear hX
          go_simp
         try simp only [Act.put, zA, zB, zC]
         exact REST W31 gz Av cv A11 B11 c11 d11 NN
       ·go_simp
        refine hK'.out _ _ (fun _ _ hS => hS.next (Bal (Below.refl _ _) _)) ?_
        clear hK' K'
        try simp only [Act.put, zA, zB, zC]
        have HB := Lib.hid (Bal (Below.refl WD.heap.size WD) (.cells #[.int .i64 0, .int .i64 0, .slice none 0 0, .slice none 0 0] 25))
        have LGZ : Hid (WD.heap.size ≤ WD.heap.size) := Lib.hid NN.out.size
        replace NN := Lib.hid (Bgo NN.out HB.out)
        have VZ := Lib.hid (blk_new WD (.cells #[.int .i64 0, .int .i64 0, .slice none 0 0, .slice none 0 0] 25))
        clear HB
        generalize WD.alloc (.cells #[.int .i64 0, .int .i64 0, .slice none 0 0, .slice none 0 0] 25) = X32 at *
        obtain ⟨gz, hgz⟩ : ∃ n, n = WD.heap.size := ⟨_, rfl⟩
        rw [← hgz] at VZ ⊢
        replace LGZ : Hid (WD.heap.size ≤ gz) := Lib.hid (by omega)
        clear hgz
        refine only_I 1 (by kernel_rfl) rfl (fun K' hK' => ?_)
        go_simp
        go_at_call 38
        refine (TX257.out _).mono ?_
        rintro e X33 ⟨v, rfl, hv, hb⟩
        obtain ⟨Av, cv, rfl, va, vb, hv⟩ := OB.rb hv TB257.out
        have VB := Lib.hid hv
        clear hv
        replace NN := Lib.hid (Bgo NN.out hb)
        replace VZ := Lib.hid (blk_next hb VZ.out)
        go_simp
        refine hK'.out _ _ (fun _ _ hS => hS.next (hb)) ?_
        clear hK' K'
        try simp only [Act.put, zA, zB, zC]
        clear hb
        refine only_I 2 (by kernel_rfl) rfl (fun K' hK' => ?_)
        go_simp
        go_at_call 14
        refine (C11.out A7 B7 c7 d7 _ _ k7a k7b k7c k7d (T7.out.next NN.out).rd (U7.out.next NN.out).ro Av cv _ va vb VB.out).mono ?_
        rintro e X34 ⟨v, u, rfl, ht, hu, hb⟩
        try simp only at ht hu
        obtain ⟨A11, c11, rfl, k11a, k11b⟩ := ht.form
        obtain ⟨B11, d11, rfl, k11c, k11d⟩ := hu.form
        have T11 := Lib.hid ht
        have U11 := Lib.hid hu
        clear ht hu
        clear T11 U11
        replace NN := Lib.hid (Bgo NN.out hb)
        replace VB := Lib.hid (RBA.next hb VB.out)
        replace VZ := Lib.hid (blk_next hb VZ.out)
        go_simp
        refine hK'.out _ _ (fun kk hk hS => ⟨fun p hp e => ?_, fun p hp e => ?_⟩) ?_
        ·simp only [List.mem_cons, List.not_mem_nil, or_false] at hp
         rcases hp with rfl | rfl | rfl | rfl
         ·subst e; exact bfl (by kernel_rfl) hk
         ·subst e; exact bfl (by kernel_rfl) hk
         ·subst e; exact bfl (by kernel_rfl) hk
         ·subst e; exact bfl (by kernel_rfl) hk
        ·exact absurd hp (by simp)
        clear hK' K'
        try simp only [Act.put, zA, zB, zC]
        clear hb
        refine tJ 3 (.tuple #[.agg #[.int .i64 s11a, .int .i64 s11b, .slice A11 s11c.length c11, .slice B11 s11d.length d11], .int .i64 4]) (some 100) rfl (SZ.drop (by simp) (by simp)) (Or.inl ⟨by rfl, ?_⟩) ?_
        ·intro X hX
         clear hX
         go_simp
        try simp only [Act.put, zA, zB, zC]
        refine tJ 4 (.agg #[.int .i64 s11a, .int .i64 s11b, .slice A11 s11c.length c11, .slice B11 s11d.length d11]) (some 104) rfl (SZ.drop (by simp) (by simp)) (Or.inl ⟨by rfl, ?_⟩) ?_
        ·intro X hX
         clear hX
         go_simp
        try simp only [Act.put, zA, zB, zC]
        refine tJ 5 (.int .i64 4) (some 105) rfl (SZ.drop (by simp) (by simp)) (Or.inl ⟨by rfl, ?_⟩) ?_
        ·intro X hX
         clear hX
         go_simp
        try simp only [Act.put, zA, zB, zC]
        have c_VZ_0 := blk_cell VZ.out 0 _ rfl
        have f_VZ_0 := blk_frozen VZ.out 0
        have c_VZ_1 := blk_cell VZ.out 1 _ rfl
        have f_VZ_1 := blk_frozen VZ.out 1
        have c_VZ_2 := blk_cell VZ.out 2 _ rfl
        have f_VZ_2 := blk_frozen VZ.out 2
        have c_VZ_3 := blk_cell VZ.out 3 _ rfl
        have f_VZ_3 := blk_frozen VZ.out 3
        have l_VZ := blk_lt VZ.out
        refine only_I 7 (by kernel_rfl) rfl (fun K' hK' => ?_)
        go_simp
        have hn : ∀ p ∈ ([(0, ⟨g10, 0, none⟩, .int .i64 s7a), (0, ⟨g10, 1, none⟩, .int .i64 s7b), (0, ⟨g10, 2, none⟩, .slice A7 s7c.length c7), (0, ⟨g10, 3, none⟩, .slice B7 s7d.length d7)] : List (Nat × Addr × Value)), p.2.1.block ≠ gz := by
         intro p hp
         simp only [List.mem_cons, List.not_mem_nil, or_false] at hp
         have := L9W.out
         have := LGZ.out
         have hne : g10 ≠ gz := by omega
         rcases hp with rfl | rfl | rfl | rfl <;> exact hne
        refine hK'.out _ _ (fun _ _ hS => SZ.far (SZ.far (SZ.far (SZ.far hS hn) hn) hn) hn) ?_
        clear hK' K' hn
        try simp only [Act.put, zA, zB, zC]
        clear c_VZ_0 f_VZ_0 c_VZ_1 f_VZ_1 c_VZ_2 f_VZ_2 c_VZ_3 f_VZ_3 l_VZ
        replace VZ : Hid (((((X34.setCell ⟨gz, 0, none⟩ (.int .i64 s11a)).setCell ⟨gz, 1, none⟩ (.int .i64 s11b)).setCell ⟨gz, 2, none⟩ (.slice A11 s11c.length c11)).setCell ⟨gz, 3, none⟩ (.slice B11 s11d.length d11)).heap[gz]? = some (.cells #[.int .i64 s11a, .int .i64 s11b, .slice A11 s11c.length c11, .slice B11 s11d.length d11] 25)) := Lib.hid (blk_set (blk_set (blk_set (blk_set (VZ.out) 0 (.int .i64 s11a)) 1 (.int .i64 s11b)) 2 (.slice A11 s11c.length c11)) 3 (.slice B11 s11d.length d11))
        replace NN := Lib.hid (Bset1 (Bset1 (Bset1 (Bset1 (NN.out) (show WD.heap.size ≤ gz by have := LGZ.out; omega) 0 (.int .i64 s11a)) (show WD.heap.size ≤ gz by have := LGZ.out; omega) 1 (.int .i64 s11b)) (show WD.heap.size ≤ gz by have := LGZ.out; omega) 2 (.slice A11 s11c.length c11)) (show WD.heap.size ≤ gz by have := LGZ.out; omega) 3 (.slice B11 s11d.length d11))
        generalize ((((X34.setCell ⟨gz, 0, none⟩ (.int .i64 s11a)).setCell ⟨gz, 1, none⟩ (.int .i64 s11b)).setCell ⟨gz, 2, none⟩ (.slice A11 s11c.length c11)).setCell ⟨gz, 3, none⟩ (.slice B11 s11d.length d11)) = W35 at *
        refine tJ 8 (.int .i64 4) (some 21) rfl (SZ.drop (by simp) (by simp)) (Or.inl ⟨by rfl, ?_⟩) ?_
        ·intro X hX
         clear hX
         go_simp
        try simp only [Act.put, zA, zB, zC]
        exact REST W35 gz Av cv A11 B11 c11 d11 NN
      case rest =>
       intro WH gz Av cv A B c d NB
       replace NN := Lib.hid (Bgo NN.out NB.out)
       replace T7 := Lib.hid (T7.out.next NB.out)
       replace U7 := Lib.hid (U7.out.next NB.out)
       replace V9 := Lib.hid (blk_next NB.out V9.out)
       clear NB
       refine done_I (by kernel_rfl) ?_ _
       as_aux_lemma =>
        have c_V9_0 := blk_cell V9.out 0 _ rfl
        have f_V9_0 := blk_frozen V9.out 0
        have c_V9_1 := blk_cell V9.out 1 _ rfl
        have f_V9_1 := blk_frozen V9.out 1
        have c_V9_2 := blk_cell V9.out 2 _ rfl
        have f_V9_2 := blk_frozen V9.out 2
        have c_V9_3 := blk_cell V9.out 3 _ rfl
        have f_V9_3 := blk_frozen V9.out 3
        have l_V9 := blk_lt V9.out
        go_wp2_with fail
        refine (C12.out A7 B7 c7 d7 _ _ k7a k7b k7c k7d T7.out.rd U7.out.ro).mono ?_
        rintro e w36 ⟨v, rfl, hr, hb⟩
        simp only at hr
        obtain ⟨A12, c12, rfl, k12a, k12b, hr⟩ := hr
        clear hr
        clear c_V9_0 f_V9_0 c_V9_1 f_V9_1 c_V9_2 f_V9_2 c_V9_3 f_V9_3 l_V9
        replace NN := Lib.hid (Bgo NN.out hb)
        replace T7 := Lib.hid (T7.out.next hb)
        replace U7 := Lib.hid (U7.out.next hb)
        replace V9 := Lib.hid (blk_next hb V9.out)
        clear hb
        have c_V9_0 := blk_cell V9.out 0 _ rfl
        have f_V9_0 := blk_frozen V9.out 0
        have c_V9_1 := blk_cell V9.out 1 _ rfl
        have f_V9_1 := blk_frozen V9.out 1
        have c_V9_2 := blk_cell V9.out 2 _ rfl
        have f_V9_2 := blk_frozen V9.out 2
        have c_V9_3 := blk_cell V9.out 3 _ rfl
        have f_V9_3 := blk_frozen V9.out 3
        have l_V9 := blk_lt V9.out
        go_wp2_with fail
        refine (C13.out A7 B7 c7 d7 _ _ k7a k7b k7c k7d T7.out.rd U7.out.ro).mono ?_
        rintro e w37 ⟨v, rfl, hr, hb⟩
        simp only at hr
        obtain ⟨A13, c13, rfl, k13a, k13b, hr⟩ := hr
        clear hr
        clear c_V9_0 f_V9_0 c_V9_1 f_V9_1 c_V9_2 f_V9_2 c_V9_3 f_V9_3 l_V9
        replace NN := Lib.hid (Bgo NN.out hb)
        replace T7 := Lib.hid (T7.out.next hb)
        replace U7 := Lib.hid (U7.out.next hb)
        replace V9 := Lib.hid (blk_next hb V9.out)
        clear hb
        have c_V9_0 := blk_cell V9.out 0 _ rfl
        have f_V9_0 := blk_frozen V9.out 0
        have c_V9_1 := blk_cell V9.out 1 _ rfl
        have f_V9_1 := blk_frozen V9.out 1
        have c_V9_2 := blk_cell V9.out 2 _ rfl
        have f_V9_2 := blk_frozen V9.out 2
        have c_V9_3 := blk_cell V9.out 3 _ rfl
        have f_V9_3 := blk_frozen V9.out 3
        have l_V9 := blk_lt V9.out
        go_wp2_with fail
        refine (C14.out A7 B7 c7 d7 _ _ k7a k7b k7c k7d T7.out.rd U7.out.ro).mono ?_
        rintro e w38 ⟨v, rfl, hr, hb⟩
        simp only at hr
        obtain ⟨A14, c14, rfl, k14a, k14b, hr⟩ := hr
        have R14 := Lib.hid hr
        clear hr
        clear c_V9_0 f_V9_0 c_V9_1 f_V9_1 c_V9_2 f_V9_2 c_V9_3 f_V9_3 l_V9
        replace NN := Lib.hid (Bgo NN.out hb)
        replace T7 := Lib.hid (T7.out.next hb)
        replace U7 := Lib.hid (U7.out.next hb)
        replace V9 := Lib.hid (blk_next hb V9.out)
        clear hb
        have c_V9_0 := blk_cell V9.out 0 _ rfl
        have f_V9_0 := blk_frozen V9.out 0
        have c_V9_1 := blk_cell V9.out 1 _ rfl
        have f_V9_1 := blk_frozen V9.out 1
        have c_V9_2 := blk_cell V9.out 2 _ rfl
        have f_V9_2 := blk_frozen V9.out 2
        have c_V9_3 := blk_cell V9.out 3 _ rfl
        have f_V9_3 := blk_frozen V9.out 3
        have l_V9 := blk_lt V9.out
        go_wp2_with fail
        as_aux_lemma =>
         refine (C15.out A7 B7 c7 d7 _ _ k7a k7b k7c k7d T7.out.rd U7.out.ro).mono ?_
         rintro e w39 ⟨v, u, rfl, ht, hu, hb⟩
         try simp only at ht hu
         obtain ⟨A15, c15, rfl, k15a, k15b⟩ := ht.form
         obtain ⟨B15, d15, rfl, k15c, k15d⟩ := hu.form
         have T15 := Lib.hid ht
         have U15 := Lib.hid hu
         clear ht hu
         clear c_V9_0 f_V9_0 c_V9_1 f_V9_1 c_V9_2 f_V9_2 c_V9_3 f_V9_3 l_V9
         replace NN := Lib.hid (Bgo NN.out hb)
         replace T7 := Lib.hid (T7.out.next hb)
         replace U7 := Lib.hid (U7.out.next hb)
         replace R14 := Lib.hid (RBA.next hb R14.out)
         replace V9 := Lib.hid (blk_next hb V9.out)
         clear hb
         have HB : Hid (Below w39.heap.size w39 (w39.alloc (.cells #[.int .i64 s15a, .int .i64 s15b, .slice A15 s15c.length c15, .slice B15 s15d.length d15] 25))) := Lib.hid (Bal (Below.refl _ _) _)
         have V28 := Lib.hid (blk_new w39 (.cells #[.int .i64 s15a, .int .i64 s15b, .slice A15 s15c.length c15, .slice B15 s15d.length d15] 25))
         have LT_V28 : Hid (g10 < w39.heap.size ∧ w.heap.size ≤ w39.heap.size) := Lib.hid ⟨blk_lt V9.out, NN.out.size⟩
         replace NN := Lib.hid (Bgo NN.out HB.out)
         replace T7 := Lib.hid (T7.out.next HB.out)
         replace U7 := Lib.hid (U7.out.next HB.out)
         replace R14 := Lib.hid (RBA.next HB.out R14.out)
         replace T15 := Lib.hid (T15.out.next HB.out)
         replace U15 := Lib.hid (U15.out.next HB.out)
         replace V9 := Lib.hid (blk_next HB.out V9.out)
         clear HB
         have c_V9_0 := blk_cell V9.out 0 _ rfl
         have f_V9_0 := blk_frozen V9.out 0
         have c_V9_1 := blk_cell V9.out 1 _ rfl
         have f_V9_1 := blk_frozen V9.out 1
         have c_V9_2 := blk_cell V9.out 2 _ rfl
         have f_V9_2 := blk_frozen V9.out 2
         have c_V9_3 := blk_cell V9.out 3 _ rfl
         have f_V9_3 := blk_frozen V9.out 3
         have l_V9 := blk_lt V9.out
         go_wp2_with fail
         clear c_V9_0 f_V9_0 c_V9_1 f_V9_1 c_V9_2 f_V9_2 c_V9_3 f_V9_3 l_V9
         generalize w39.alloc (.cells #[.int .i64 s15a, .int .i64 s15b, .slice A15 s15c.length c15, .slice B15 s15d.length d15] 25) = W40 at *
         generalize w39.heap.size = g40 at *
         clear V28 T15 U15
         refine (C16.out A7 B7 c7 d7 _ _ k7a k7b k7c k7d T7.out.rd U7.out.ro).mono ?_
         rintro e w41 ⟨v, u, rfl, ht, hu, hb⟩
         try simp only at ht hu
         obtain ⟨A16, c16, rfl, k16a, k16b⟩ := ht.form
         obtain ⟨B16, d16, rfl, k16c, k16d⟩ := hu.form
         have T16 := Lib.hid ht
         have U16 := Lib.hid hu
         clear ht hu
         replace NN := Lib.hid (Bgo NN.out hb)
         replace T7 := Lib.hid (T7.out.next hb)
         replace U7 := Lib.hid (U7.out.next hb)
         replace R14 := Lib.hid (RBA.next hb R14.out)
         replace V9 := Lib.hid (blk_next hb V9.out)
         clear hb
         have HB : Hid (Below w41.heap.size w41 (w41.alloc (.cells #[.int .i64 s16a, .int .i64 s16b, .slice A16 s16c.length c16, .slice B16 s16d.length d16] 25))) := Lib.hid (Bal (Below.refl _ _) _)
         have V30 := Lib.hid (blk_new w41 (.cells #[.int .i64 s16a, .int .i64 s16b, .slice A16 s16c.length c16, .slice B16 s16d.length d16] 25))
         have LT_V30 : Hid (g10 < w41.heap.size ∧ w.heap.size ≤ w41.heap.size) := Lib.hid ⟨blk_lt V9.out, NN.out.size⟩
         replace NN := Lib.hid (Bgo NN.out HB.out)
         replace T7 := Lib.hid (T7.out.next HB.out)
         replace U7 := Lib.hid (U7.out.next HB.out)
         replace R14 := Lib.hid (RBA.next HB.out R14.out)
         replace T16 := Lib.hid (T16.out.next HB.out)
         replace U16 := Lib.hid (U16.out.next HB.out)
         replace V9 := Lib.hid (blk_next HB.out V9.out)
         clear HB
         have c_V9_0 := blk_cell V9.out 0 _ rfl
         have f_V9_0 := blk_frozen V9.out 0
         have c_V9_1 := blk_cell V9.out 1 _ rfl
         have f_V9_1 := blk_frozen V9.out 1
         have c_V9_2 := blk_cell V9.out 2 _ rfl
         have f_V9_2 := blk_frozen V9.out 2
         have c_V9_3 := blk_cell V9.out 3 _ rfl
         have f_V9_3 := blk_frozen V9.out 3
         have l_V9 := blk_lt V9.out
         go_wp2_with fail
         clear c_V9_0 f_V9_0 c_V9_1 f_V9_1 c_V9_2 f_V9_2 c_V9_3 f_V9_3 l_V9
         generalize w41.alloc (.cells #[.int .i64 s16a, .int .i64 s16b, .slice A16 s16c.length c16, .slice B16 s16d.length d16] 25) = W42 at *
         generalize w41.heap.size = g42 at *
         clear V30 T16 U16
         refine (C17.out A7 B7 c7 d7 _ _ k7a k7b k7c k7d T7.out.rd U7.out.ro).mono ?_
         rintro e w43 ⟨v, u, rfl, ht, hu, hb⟩
         try simp only at ht hu
         obtain ⟨A17, c17, rfl, k17a, k17b⟩ := ht.form
         obtain ⟨B17, d17, rfl, k17c, k17d⟩ := hu.form
         have T17 := Lib.hid ht
         have U17 := Lib.hid hu
         clear ht hu
         replace NN := Lib.hid (Bgo NN.out hb)
         replace T7 := Lib.hid (T7.out.next hb)
         replace U7 := Lib.hid (U7.out.next hb)
         replace R14 := Lib.hid (RBA.next hb R14.out)
         replace V9 := Lib.hid (blk_next hb V9.out)
         clear hb
         have HB : Hid (Below w43.heap.size w43 (w43.alloc (.cells #[.int .i64 s17a, .int .i64 s17b, .slice A17 s17c.length c17, .slice B17 s17d.length d17] 25))) := Lib.hid (Bal (Below.refl _ _) _)
         have V32 := Lib.hid (blk_new w43 (.cells #[.int .i64 s17a, .int .i64 s17b, .slice A17 s17c.length c17, .slice B17 s17d.length d17] 25))
         have LT_V32 : Hid (g10 < w43.heap.size ∧ w.heap.size ≤ w43.heap.size) := Lib.hid ⟨blk_lt V9.out, NN.out.size⟩
         replace NN := Lib.hid (Bgo NN.out HB.out)
         replace T7 := Lib.hid (T7.out.next HB.out)
         replace U7 := Lib.hid (U7.out.next HB.out)
         replace R14 := Lib.hid (RBA.next HB.out R14.out)
         replace T17 := Lib.hid (T17.out.next HB.out)
         replace U17 := Lib.hid (U17.out.next HB.out)
         replace V9 := Lib.hid (blk_next HB.out V9.out)
         clear HB
         have c_V9_0 := blk_cell V9.out 0 _ rfl
         have f_V9_0 := blk_frozen V9.out 0
         have c_V9_1 := blk_cell V9.out 1 _ rfl
         have f_V9_1 := blk_frozen V9.out 1
         have c_V9_2 := blk_cell V9.out 2 _ rfl
         have f_V9_2 := blk_frozen V9.out 2
         have c_V9_3 := blk_cell V9.out 3 _ rfl
         have f_V9_3 := blk_frozen V9.out 3
         have l_V9 := blk_lt V9.out
         go_wp2_with fail
         clear c_V9_0 f_V9_0 c_V9_1 f_V9_1 c_V9_2 f_V9_2 c_V9_3 f_V9_3 l_V9
         generalize w43.alloc (.cells #[.int .i64 s17a, .int .i64 s17b, .slice A17 s17c.length c17, .slice B17 s17d.length d17] 25) = W44 at *
         generalize w43.heap.size = g44 at *
         clear V32 T17 U17
         as_aux_lemma =>
          refine (C18.out A7 B7 c7 d7 _ _ k7a k7b k7c k7d T7.out.rd U7.out.ro).mono ?_
          rintro e w45 ⟨v, u, rfl, ht, hu, hb⟩
          try simp only at ht hu
          obtain ⟨A18, c18, rfl, k18a, k18b⟩ := ht.form
          obtain ⟨B18, d18, rfl, k18c, k18d⟩ := hu.form
          have T18 := Lib.hid ht
          have U18 := Lib.hid hu
          clear ht hu
          replace NN := Lib.hid (Bgo NN.out hb)
          replace T7 := Lib.hid (T7.out.next hb)
          replace U7 := Lib.hid (U7.out.next hb)
          replace R14 := Lib.hid (RBA.next hb R14.out)
          replace V9 := Lib.hid (blk_next hb V9.out)
          clear hb
          have HB : Hid (Below w45.heap.size w45 (w45.alloc (.cells #[.int .i64 s18a, .int .i64 s18b, .slice A18 s18c.length c18, .slice B18 s18d.length d18] 25))) := Lib.hid (Bal (Below.refl _ _) _)
          have V34 := Lib.hid (blk_new w45 (.cells #[.int .i64 s18a, .int .i64 s18b, .slice A18 s18c.length c18, .slice B18 s18d.length d18] 25))
          have LT_V34 : Hid (g10 < w45.heap.size ∧ w.heap.size ≤ w45.heap.size) := Lib.hid ⟨blk_lt V9.out, NN.out.size⟩
          replace NN := Lib.hid (Bgo NN.out HB.out)
          replace T7 := Lib.hid (T7.out.next HB.out)
          replace U7 := Lib.hid (U7.out.next HB.out)
          replace R14 := Lib.hid (RBA.next HB.out R14.out)
          replace T18 := Lib.hid (T18.out.next HB.out)
          replace U18 := Lib.hid (U18.out.next HB.out)
          replace V9 := Lib.hid (blk_next HB.out V9.out)
          clear HB
          have c_V34_0 := blk_cell V34.out 0 _ rfl
          have f_V34_0 := blk_frozen V34.out 0
          have c_V34_1 := blk_cell V34.out 1 _ rfl
          have f_V34_1 := blk_frozen V34.out 1
          have c_V34_2 := blk_cell V34.out 2 _ rfl
          have f_V34_2 := blk_frozen V34.out 2
          have c_V34_3 := blk_cell V34.out 3 _ rfl
          have f_V34_3 := blk_frozen V34.out 3
          have l_V34 := blk_lt V34.out
          go_wp2_with fail
          clear c_V34_0 f_V34_0 c_V34_1 f_V34_1 c_V34_2 f_V34_2 c_V34_3 f_V34_3 l_V34
          generalize w45.alloc (.cells #[.int .i64 s18a, .int .i64 s18b, .slice A18 s18c.length c18, .slice B18 s18d.length d18] 25) = W46 at *
          generalize w45.heap.size = g46 at *
          refine (C19.out A18 B18 c18 d18 _ _ k18a k18b k18c k18d T18.out.rd U18.out.ro).mono ?_
          rintro e w47 ⟨v, u, rfl, ht, hu, hb⟩
          try simp only at ht hu
          obtain ⟨A19, c19, rfl, k19a, k19b⟩ := ht.form
          obtain ⟨B19, d19, rfl, k19c, k19d⟩ := hu.form
          have T19 := Lib.hid ht
          have U19 := Lib.hid hu
          clear ht hu
          replace NN := Lib.hid (Bgo NN.out hb)
          replace T7 := Lib.hid (T7.out.next hb)
          replace U7 := Lib.hid (U7.out.next hb)
          replace R14 := Lib.hid (RBA.next hb R14.out)
          replace T18 := Lib.hid (T18.out.next hb)
          replace U18 := Lib.hid (U18.out.next hb)
          replace V9 := Lib.hid (blk_next hb V9.out)
          replace V34 := Lib.hid (blk_next hb V34.out)
          clear hb
          have HB : Hid (Below w47.heap.size w47 (w47.alloc (.cells #[.int .i64 s19a, .int .i64 s19b, .slice A19 s19c.length c19, .slice B19 s19d.length d19] 25))) := Lib.hid (Bal (Below.refl _ _) _)
          have V36 := Lib.hid (blk_new w47 (.cells #[.int .i64 s19a, .int .i64 s19b, .slice A19 s19c.length c19, .slice B19 s19d.length d19] 25))
          have LT_V36 : Hid (g10 < w47.heap.size ∧ g46 < w47.heap.size ∧ w.heap.size ≤ w47.heap.size) := Lib.hid ⟨blk_lt V9.out, blk_lt V34.out, NN.out.size⟩
          replace NN := Lib.hid (Bgo NN.out HB.out)
          replace T7 := Lib.hid (T7.out.next HB.out)
          replace U7 := Lib.hid (U7.out.next HB.out)
          replace R14 := Lib.hid (RBA.next HB.out R14.out)
          replace T18 := Lib.hid (T18.out.next HB.out)
          replace U18 := Lib.hid (U18.out.next HB.out)
          replace T19 := Lib.hid (T19.out.next HB.out)
          replace U19 := Lib.hid (U19.out.next HB.out)
          replace V9 := Lib.hid (blk_next HB.out V9.out)
          replace V34 := Lib.hid (blk_next HB.out V34.out)
          clear HB
          have c_V34_0 := blk_cell V34.out 0 _ rfl
          have f_V34_0 := blk_frozen V34.out 0
          have c_V34_1 := blk_cell V34.out 1 _ rfl
          have f_V34_1 := blk_frozen V34.out 1
          have c_V34_2 := blk_cell V34.out 2 _ rfl
          have f_V34_2 := blk_frozen V34.out 2
          have c_V34_3 := blk_cell V34.out 3 _ rfl
          have f_V34_3 := blk_frozen V34.out 3
          have l_V34 := blk_lt V34.out
          go_wp2_with fail
          clear c_V34_0 f_V34_0 c_V34_1 f_V34_1 c_V34_2 f_V34_2 c_V34_3 f_V34_3 l_V34
          generalize w47.alloc (.cells #[.int .i64 s19a, .int .i64 s19b, .slice A19 s19c.length c19, .slice B19 s19d.length d19] 25) = W48 at *
          generalize w47.heap.size = g48 at *
          clear V36 T19 U19
          refine (C20.out A18 B18 c18 d18 _ _ k18a k18b k18c k18d T18.out.rd U18.out.ro).mono ?_
          rintro e w49 ⟨v, u, rfl, ht, hu, hb⟩
          try simp only at ht hu
          obtain ⟨A20, c20, rfl, k20a, k20b⟩ := ht.form
          obtain ⟨B20, d20, rfl, k20c, k20d⟩ := hu.form
          have T20 := Lib.hid ht
          have U20 := Lib.hid hu
          clear ht hu
          replace NN := Lib.hid (Bgo NN.out hb)
          replace T7 := Lib.hid (T7.out.next hb)
          replace U7 := Lib.hid (U7.out.next hb)
          replace R14 := Lib.hid (RBA.next hb R14.out)
          replace T18 := Lib.hid (T18.out.next hb)
          replace U18 := Lib.hid (U18.out.next hb)
          replace V9 := Lib.hid (blk_next hb V9.out)
          replace V34 := Lib.hid (blk_next hb V34.out)
          clear hb
          have HB : Hid (Below w49.heap.size w49 (w49.alloc (.cells #[.int .i64 s20a, .int .i64 s20b, .slice A20 s20c.length c20, .slice B20 s20d.length d20] 25))) := Lib.hid (Bal (Below.refl _ _) _)
          have V38 := Lib.hid (blk_new w49 (.cells #[.int .i64 s20a, .int .i64 s20b, .slice A20 s20c.length c20, .slice B20 s20d.length d20] 25))
          have LT_V38 : Hid (g10 < w49.heap.size ∧ g46 < w49.heap.size ∧ w.heap.size ≤ w49.heap.size) := Lib.hid ⟨blk_lt V9.out, blk_lt V34.out, NN.out.size⟩
          replace NN := Lib.hid (Bgo NN.out HB.out)
          replace T7 := Lib.hid (T7.out.next HB.out)
          replace U7 := Lib.hid (U7.out.next HB.out)
          replace R14 := Lib.hid (RBA.next HB.out R14.out)
          replace T18 := Lib.hid (T18.out.next HB.out)
          replace U18 := Lib.hid (U18.out.next HB.out)
          replace T20 := Lib.hid (T20.out.next HB.out)
          replace U20 := Lib.hid (U20.out.next HB.out)
          replace V9 := Lib.hid (blk_next HB.out V9.out)
          replace V34 := Lib.hid (blk_next HB.out V34.out)
          clear HB
          have c_V34_0 := blk_cell V34.out 0 _ rfl
          have f_V34_0 := blk_frozen V34.out 0
          have c_V34_1 := blk_cell V34.out 1 _ rfl
          have f_V34_1 := blk_frozen V34.out 1
          have c_V34_2 := blk_cell V34.out 2 _ rfl
          have f_V34_2 := blk_frozen V34.out 2
          have c_V34_3 := blk_cell V34.out 3 _ rfl
          have f_V34_3 := blk_frozen V34.out 3
          have l_V34 := blk_lt V34.out
          go_wp2_with fail
          clear c_V34_0 f_V34_0 c_V34_1 f_V34_1 c_V34_2 f_V34_2 c_V34_3 f_V34_3 l_V34
          generalize w49.alloc (.cells #[.int .i64 s20a, .int .i64 s20b, .slice A20 s20c.length c20, .slice B20 s20d.length d20] 25) = W50 at *
          generalize w49.heap.size = g50 at *
          clear V38 T20 U20
          refine (C21.out A18 B18 c18 d18 _ _ k18a k18b k18c k18d T18.out.rd U18.out.ro).mono ?_
          rintro e w51 ⟨v, u, rfl, ht, hu, hb⟩
          try simp only at ht hu
          obtain ⟨A21, c21, rfl, k21a, k21b⟩ := ht.form
          obtain ⟨B21, d21, rfl, k21c, k21d⟩ := hu.form
          have T21 := Lib.hid ht
          have U21 := Lib.hid hu
          clear ht hu
          replace NN := Lib.hid (Bgo NN.out hb)
          replace T7 := Lib.hid (T7.out.next hb)
          replace U7 := Lib.hid (U7.out.next hb)
          replace R14 := Lib.hid (RBA.next hb R14.out)
          replace T18 := Lib.hid (T18.out.next hb)
          replace U18 := Lib.hid (U18.out.next hb)
          replace V9 := Lib.hid (blk_next hb V9.out)
          replace V34 := Lib.hid (blk_next hb V34.out)
          clear hb
          have HB : Hid (Below w51.heap.size w51 (w51.alloc (.cells #[.int .i64 s21a, .int .i64 s21b, .slice A21 s21c.length c21, .slice B21 s21d.length d21] 25))) := Lib.hid (Bal (Below.refl _ _) _)
          have V41 := Lib.hid (blk_new w51 (.cells #[.int .i64 s21a, .int .i64 s21b, .slice A21 s21c.length c21, .slice B21 s21d.length d21] 25))
          have LT_V41 : Hid (g10 < w51.heap.size ∧ g46 < w51.heap.size ∧ w.heap.size ≤ w51.heap.size) := Lib.hid ⟨blk_lt V9.out, blk_lt V34.out, NN.out.size⟩
          replace NN := Lib.hid (Bgo NN.out HB.out)
          replace T7 := Lib.hid (T7.out.next HB.out)
          replace U7 := Lib.hid (U7.out.next HB.out)
          replace R14 := Lib.hid (RBA.next HB.out R14.out)
          replace T18 := Lib.hid (T18.out.next HB.out)
          replace U18 := Lib.hid (U18.out.next HB.out)
          replace T21 := Lib.hid (T21.out.next HB.out)
          replace U21 := Lib.hid (U21.out.next HB.out)
          replace V9 := Lib.hid (blk_next HB.out V9.out)
          replace V34 := Lib.hid (blk_next HB.out V34.out)
          clear HB
          have c_V34_0 := blk_cell V34.out 0 _ rfl
          have f_V34_0 := blk_frozen V34.out 0
          have c_V34_1 := blk_cell V34.out 1 _ rfl
          have f_V34_1 := blk_frozen V34.out 1
          have c_V34_2 := blk_cell V34.out 2 _ rfl
          have f_V34_2 := blk_frozen V34.out 2
          have c_V34_3 := blk_cell V34.out 3 _ rfl
          have f_V34_3 := blk_frozen V34.out 3
          have l_V34 := blk_lt V34.out
          go_wp2_with fail
          clear c_V34_0 f_V34_0 c_V34_1 f_V34_1 c_V34_2 f_V34_2 c_V34_3 f_V34_3 l_V34
          generalize w51.alloc (.cells #[.int .i64 s21a, .int .i64 s21b, .slice A21 s21c.length c21, .slice B21 s21d.length d21] 25) = W52 at *
          generalize w51.heap.size = g52 at *
          clear V41 T21 U21
          as_aux_lemma =>
           refine (C22.out A18 B18 c18 d18 _ _ k18a k18b k18c k18d T18.out.rd U18.out.ro).mono ?_
           rintro e w53 ⟨v, rfl, hr, hb⟩
           obtain ⟨A22, c22, rfl, k22a, k22b, _⟩ := own_form hr
           clear hr
           replace NN := Lib.hid (Bgo NN.out hb)
           replace T7 := Lib.hid (T7.out.next hb)
           replace U7 := Lib.hid (U7.out.next hb)
           replace R14 := Lib.hid (RBA.next hb R14.out)
           replace T18 := Lib.hid (T18.out.next hb)
           replace U18 := Lib.hid (U18.out.next hb)
           replace V9 := Lib.hid (blk_next hb V9.out)
           replace V34 := Lib.hid (blk_next hb V34.out)
           clear hb
           clear V34 T18 U18
           have eo := EO.out
           obtain ⟨bo, oo, eb, lo0, -, -, -, x3, -⟩ := U7.out.ro.at_ (at_getD (j := 0) (by omega))
           subst eb
           obtain ⟨bo', oo', eb, -, -, -, y12, y13, -⟩ := U7.out.ro.at_ (at_getD (j := 1) (by omega))
           injection eb with eb
           injection eb with e1 e2 _
           subst e1 e2
           obtain ⟨bo', oo', eb, -, -, -, y22, y23, -⟩ := U7.out.ro.at_ (at_getD (j := 2) (by omega))
           injection eb with eb
           injection eb with e1 e2 _
           subst e1 e2
           rw [EM0.out] at x3
           rw [EM1.out] at y13
           rw [EM2.out] at y22
           rw [EM3.out] at y23
           have ln : s7d.length = 3 := eo
           clear eo
           have c_V9_0 := blk_cell V9.out 0 _ rfl
           have f_V9_0 := blk_frozen V9.out 0
           have c_V9_1 := blk_cell V9.out 1 _ rfl
           have f_V9_1 := blk_frozen V9.out 1
           have c_V9_2 := blk_cell V9.out 2 _ rfl
           have f_V9_2 := blk_frozen V9.out 2
           have c_V9_3 := blk_cell V9.out 3 _ rfl
           have f_V9_3 := blk_frozen V9.out 3
           have l_V9 := blk_lt V9.out
           go_wp2_with fail
           clear c_V9_0 f_V9_0 c_V9_1 f_V9_1 c_V9_2 f_V9_2 c_V9_3 f_V9_3 l_V9
           as_aux_lemma =>
            have z3 : Hid (w53.cell? ⟨bo, oo + 3, none⟩ = some (.int .i64 0)) := Lib.hid (by have h := x3; simpa [Nat.add_assoc] using h)
            have z8 : Hid (w53.cell? ⟨bo, oo + 8, none⟩ = some (.int .i64 11)) := Lib.hid (by have h := y13; simpa [Nat.add_assoc] using h)
            have z12 : Hid (w53.cell? ⟨bo, oo + 12, none⟩ = some (.int .i64 11)) := Lib.hid (by have h := y22; simpa [Nat.add_assoc] using h)
            have z13 : Hid (w53.cell? ⟨bo, oo + 13, none⟩ = some (.int .i64 1)) := Lib.hid (by have h := y23; simpa [Nat.add_assoc] using h)
            clear x3 y12 y13 y22 y23
            have LO : Hid (bo < w53.heap.size) := Lib.hid lo0
            have HDRW := Lib.hid (Below.drew (Below.refl w53.heap.size w53))
            replace NN := Lib.hid (Bgo NN.out HDRW.out)
            replace T7 := Lib.hid (T7.out.next HDRW.out)
            replace U7 := Lib.hid (U7.out.next HDRW.out)
            replace R14 := Lib.hid (RBA.next HDRW.out R14.out)
            replace V9 := Lib.hid (blk_next HDRW.out V9.out)
            clear HDRW
            have HAL : Hid (∀ kx9 : Nat, SZ [(18, ⟨g10, 3, none⟩, .slice (some ⟨bo, oo, none⟩) s7d.length d7), (24, ⟨g10, 3, none⟩, .slice (some ⟨bo, oo, none⟩) s7d.length d7), (27, ⟨bo, oo + 3, none⟩, .int .i64 0), (32, ⟨g10, 3, none⟩, .slice (some ⟨bo, oo, none⟩) s7d.length d7), (35, ⟨bo, oo + 8, none⟩, .int .i64 11), (40, ⟨g10, 3, none⟩, .slice (some ⟨bo, oo, none⟩) s7d.length d7), (43, ⟨bo, oo + 12, none⟩, .int .i64 11), (48, ⟨g10, 3, none⟩, .slice (some ⟨bo, oo, none⟩) s7d.length d7), (51, ⟨bo, oo + 13, none⟩, .int .i64 1)] [(69, A14, t256)] kx9 w53.drew) := Lib.hid (fun kx9 => by
             constructor
             ·intro p hp e
              simp only [List.mem_cons, List.not_mem_nil, or_false] at hp
              rcases hp with rfl | rfl | rfl | rfl | rfl | rfl | rfl | rfl | rfl
              ·exact ⟨blk_lt V9.out, blk_cell V9.out 3 _ rfl⟩
              ·exact ⟨blk_lt V9.out, blk_cell V9.out 3 _ rfl⟩
              ·exact ⟨LO.out, z3.out⟩
              ·exact ⟨blk_lt V9.out, blk_cell V9.out 3 _ rfl⟩
              ·exact ⟨LO.out, z8.out⟩
              ·exact ⟨blk_lt V9.out, blk_cell V9.out 3 _ rfl⟩
              ·exact ⟨LO.out, z12.out⟩
              ·exact ⟨blk_lt V9.out, blk_cell V9.out 3 _ rfl⟩
              ·exact ⟨LO.out, z13.out⟩
             ·intro p hp e
              simp only [List.mem_cons, List.not_mem_nil, or_false] at hp
              subst hp
              exact R14.out
             )
            refine region_I (S := SZ [(18, ⟨g10, 3, none⟩, .slice (some ⟨bo, oo, none⟩) s7d.length d7), (24, ⟨g10, 3, none⟩, .slice (some ⟨bo, oo, none⟩) s7d.length d7), (27, ⟨bo, oo + 3, none⟩, .int .i64 0), (32, ⟨g10, 3, none⟩, .slice (some ⟨bo, oo, none⟩) s7d.length d7), (35, ⟨bo, oo + 8, none⟩, .int .i64 11), (40, ⟨g10, 3, none⟩, .slice (some ⟨bo, oo, none⟩) s7d.length d7), (43, ⟨bo, oo + 12, none⟩, .int .i64 11), (48, ⟨g10, 3, none⟩, .slice (some ⟨bo, oo, none⟩) s7d.length d7), (51, ⟨bo, oo + 13, none⟩, .int .i64 1)] [(69, A14, t256)]) (by kernel_rfl) ?_
            refine tJ 0 (.bool true) (some 163) rfl (SZ.drop (by simp) (by simp)) (Or.inl ⟨by rfl, ?_⟩) ?_
            ·intro X hX
             clear hX
             go_simp
            try simp only [Act.put, zA, zB, zC]
            refine tJ 1 (.int .i64 0) (some 164) rfl (SZ.drop (by simp) (by simp)) (Or.inl ⟨by rfl, ?_⟩) ?_
            ·intro X hX
             clear hX
             go_simp
            try simp only [Act.put, zA, zB, zC]
            refine tJ 2 (.bool true) (some 165) rfl (SZ.drop (by simp) (by simp)) (Or.inl ⟨by rfl, ?_⟩) ?_
            ·intro X hX
             clear hX
             go_simp
            try simp only [Act.put, zA, zB, zC]
            refine tJ 3 (.bool true) (some 166) rfl (SZ.drop (by simp) (by simp)) (Or.inl ⟨by rfl, ?_⟩) ?_
            ·intro X hX
             clear hX
             go_simp
            try simp only [Act.put, zA, zB, zC]
            refine tJ 4 (.bool true) (some 167) rfl (SZ.drop (by simp) (by simp)) (Or.inl ⟨by rfl, ?_⟩) ?_
            ·intro X hX
             clear hX
             go_simp
            try simp only [Act.put, zA, zB, zC]
            refine tJ 5 (.int .i64 0) (some 168) rfl (SZ.drop (by simp) (by simp)) (Or.inl ⟨by rfl, ?_⟩) ?_
            ·intro X hX
             clear hX
             go_simp
            try simp only [Act.put, zA, zB, zC]
            refine tJ 6 (.bool true) (some 169) rfl (SZ.drop (by simp) (by simp)) (Or.inl ⟨by rfl, ?_⟩) ?_
            ·intro X hX
             clear hX
             go_simp
            try simp only [Act.put, zA, zB, zC]
            refine tJ 7 (.bool true) (some 170) rfl (SZ.drop (by simp) (by simp)) (Or.inl ⟨by rfl, ?_⟩) ?_
            ·intro X hX
             clear hX
             go_simp
            try simp only [Act.put, zA, zB, zC]
            refine tJ 8 (.bool true) (some 171) rfl (SZ.drop (by simp) (by simp)) (Or.inl ⟨by rfl, ?_⟩) ?_
            ·intro X hX
             clear hX
             go_simp
            try simp only [Act.put, zA, zB, zC]
            refine tJ 9 (.int .i64 0) (some 172) rfl (SZ.drop (by simp) (by simp)) (Or.inl ⟨by rfl, ?_⟩) ?_
            ·intro X hX
             clear hX
             go_simp
            try simp only [Act.put, zA, zB, zC]
            refine tJ 10 (.bool true) (some 173) rfl (SZ.drop (by simp) (by simp)) (Or.inl ⟨by rfl, ?_⟩) ?_
            ·intro X hX
             clear hX
             go_simp
            try simp only [Act.put, zA, zB, zC]
            refine tJ 11 (.bool true) (some 174) rfl (SZ.drop (by simp) (by simp)) (Or.inl ⟨by rfl, ?_⟩) ?_
            ·intro X hX
             clear hX
             go_simp
            try simp only [Act.put, zA, zB, zC]
            refine tJ 12 (.bool true) (some 175) rfl (SZ.drop (by simp) (by simp)) (Or.inl ⟨by rfl, ?_⟩) ?_
            ·intro X hX
             clear hX
             go_simp
            try simp only [Act.put, zA, zB, zC]
            refine tJ 13 (.int .i64 0) (some 176) rfl (SZ.drop (by simp) (by simp)) (Or.inl ⟨by rfl, ?_⟩) ?_
            ·intro X hX
             clear hX
             go_simp
            try simp only [Act.put, zA, zB, zC]
            refine tJ 14 (.bool true) (some 177) rfl (SZ.drop (by simp) (by simp)) (Or.inl ⟨by rfl, ?_⟩) ?_
            ·intro X hX
             clear hX
             go_simp
            try simp only [Act.put, zA, zB, zC]
            refine tJ 15 (.bool true) (some 178) rfl (SZ.drop (by simp) (by simp)) (Or.inl ⟨by rfl, ?_⟩) ?_
            ·intro X hX
             clear hX
             go_simp
            try simp only [Act.put, zA, zB, zC]
            refine tJ 16 (.bool true) (some 179) rfl (SZ.drop (by simp) (by simp)) (Or.inl ⟨by rfl, ?_⟩) ?_
            ·intro X hX
             clear hX
             go_simp
            try simp only [Act.put, zA, zB, zC]
            refine tJ 17 (.pointer (some ⟨g10, 3, none⟩)) (some 180) rfl (SZ.drop (by simp) (by simp)) (Or.inl ⟨by rfl, ?_⟩) ?_
            ·intro X hX
             clear hX
             go_simp
            try simp only [Act.put, zA, zB, zC]
            refine tJ 18 (.slice (some ⟨bo, oo, none⟩) s7d.length d7) (some 181) rfl (HAL.out 18) (Or.inl ⟨by rfl, ?_⟩) ?_
            ·intro X hX
             obtain ⟨hz0, hc0⟩ := hX.1 (18, ⟨g10, 3, none⟩, .slice (some ⟨bo, oo, none⟩) s7d.length d7) (List.Mem.head _) rfl
             simp only at hz0 hc0
             clear hX
             go_simp
            try simp only [Act.put, zA, zB, zC]
            refine tJ 19 (.int .i64 (s7d.length : Nat)) (some 182) rfl (SZ.drop (by simp) (by simp)) (Or.inl ⟨by rfl, ?_⟩) ?_
            ·intro X hX
             clear hX
             go_simp
            try simp only [Act.put, zA, zB, zC]
            refine tJ 20 (.bool true) (some 183) rfl (SZ.drop (by simp) (by simp)) (Or.inl ⟨by rfl, ?_⟩) ?_
            ·intro X hX
             clear hX
             go_simp
            try simp only [Act.put, zA, zB, zC]
            refine tJ 21 (.bool true) (some 184) rfl (SZ.drop (by simp) (by simp)) (Or.inl ⟨by rfl, ?_⟩) ?_
            ·intro X hX
             clear hX
             go_simp
            try simp only [Act.put, zA, zB, zC]
            refine tJ 22 (.bool true) (some 185) rfl (SZ.drop (by simp) (by simp)) (Or.inl ⟨by rfl, ?_⟩) ?_
            ·intro X hX
             clear hX
             go_simp
            try simp only [Act.put, zA, zB, zC]
            refine tJ 23 (.pointer (some ⟨g10, 3, none⟩)) (some 186) rfl (SZ.drop (by simp) (by simp)) (Or.inl ⟨by rfl, ?_⟩) ?_
            ·intro X hX
             clear hX
             go_simp
            try simp only [Act.put, zA, zB, zC]
            refine tJ 24 (.slice (some ⟨bo, oo, none⟩) s7d.length d7) (some 187) rfl (HAL.out 24) (Or.inl ⟨by rfl, ?_⟩) ?_
            ·intro X hX
             obtain ⟨hz1, hc1⟩ := hX.1 (24, ⟨g10, 3, none⟩, .slice (some ⟨bo, oo, none⟩) s7d.length d7) (List.Mem.tail _ (List.Mem.head _)) rfl
             simp only at hz1 hc1
             clear hX
             go_simp
            try simp only [Act.put, zA, zB, zC]
            refine tJ 25 (.pointer (some ⟨bo, oo, none⟩)) (some 188) rfl (SZ.drop (by simp) (by simp)) (Or.inl ⟨by rfl, ?_⟩) ?_
            ·intro X hX
             clear hX
             go_simp
            try simp only [Act.put, zA, zB, zC]
            refine tJ 26 (.pointer (some ⟨bo, oo + 3, none⟩)) (some 189) rfl (SZ.drop (by simp) (by simp)) (Or.inl ⟨by rfl, ?_⟩) ?_
            ·intro X hX
             clear hX
             go_simp
            try simp only [Act.put, zA, zB, zC]
            refine tJ 27 (.int .i64 0) (some 190) rfl (HAL.out 27) (Or.inl ⟨by rfl, ?_⟩) ?_
            ·intro X hX
             obtain ⟨hz2, hc2⟩ := hX.1 (27, ⟨bo, oo + 3, none⟩, .int .i64 0) (List.Mem.tail _ (List.Mem.tail _ (List.Mem.head _))) rfl
             simp only at hz2 hc2
             clear hX
             go_simp
            try simp only [Act.put, zA, zB, zC]
            refine tJ 28 (.bool true) (some 191) rfl (SZ.drop (by simp) (by simp)) (Or.inl ⟨by rfl, ?_⟩) ?_
            ·intro X hX
             clear hX
             go_simp
            try simp only [Act.put, zA, zB, zC]
            refine tJ 29 (.bool true) (some 192) rfl (SZ.drop (by simp) (by simp)) (Or.inl ⟨by rfl, ?_⟩) ?_
            ·intro X hX
             clear hX
             go_simp
            try simp only [Act.put, zA, zB, zC]
            refine tJ 30 (.bool true) (some 193) rfl (SZ.drop (by simp) (by simp)) (Or.inl ⟨by rfl, ?_⟩) ?_
            ·intro X hX
             clear hX
             go_simp
            try simp only [Act.put, zA, zB, zC]
            refine tJ 31 (.pointer (some ⟨g10, 3, none⟩)) (some 194) rfl (SZ.drop (by simp) (by simp)) (Or.inl ⟨by rfl, ?_⟩) ?_
            ·intro X hX
             clear hX
             go_simp
            try simp only [Act.put, zA, zB, zC]
            refine tJ 32 (.slice (some ⟨bo, oo, none⟩) s7d.length d7) (some 195) rfl (HAL.out 32) (Or.inl ⟨by rfl, ?_⟩) ?_
            ·intro X hX
             obtain ⟨hz3, hc3⟩ := hX.1 (32, ⟨g10, 3, none⟩, .slice (some ⟨bo, oo, none⟩) s7d.length d7) (List.Mem.tail _ (List.Mem.tail _ (List.Mem.tail _ (List.Mem.head _)))) rfl
             simp only at hz3 hc3
             clear hX
             go_simp
            try simp only [Act.put, zA, zB, zC]
            refine tJ 33 (.pointer (some ⟨bo, oo + 5, none⟩)) (some 196) rfl (SZ.drop (by simp) (by simp)) (Or.inl ⟨by rfl, ?_⟩) ?_
            ·intro X hX
             clear hX
             go_simp
            try simp only [Act.put, zA, zB, zC]
            refine tJ 34 (.pointer (some ⟨bo, oo + 8, none⟩)) (some 197) rfl (SZ.drop (by simp) (by simp)) (Or.inl ⟨by rfl, ?_⟩) ?_
            ·intro X hX
             clear hX
             go_simp
            try simp only [Act.put, zA, zB, zC]
            refine tJ 35 (.int .i64 11) (some 198) rfl (HAL.out 35) (Or.inl ⟨by rfl, ?_⟩) ?_
            ·intro X hX
             obtain ⟨hz4, hc4⟩ := hX.1 (35, ⟨bo, oo + 8, none⟩, .int .i64 11) (List.Mem.tail _ (List.Mem.tail _ (List.Mem.tail _ (List.Mem.tail _ (List.Mem.head _))))) rfl
             simp only at hz4 hc4
             clear hX
             go_simp
            try simp only [Act.put, zA, zB, zC]
            refine tJ 36 (.bool true) (some 199) rfl (SZ.drop (by simp) (by simp)) (Or.inl ⟨by rfl, ?_⟩) ?_
            ·intro X hX
             clear hX
             go_simp
            try simp only [Act.put, zA, zB, zC]
            refine tJ 37 (.bool true) (some 200) rfl (SZ.drop (by simp) (by simp)) (Or.inl ⟨by rfl, ?_⟩) ?_
            ·intro X hX
             clear hX
             go_simp
            try simp only [Act.put, zA, zB, zC]
            refine tJ 38 (.bool true) (some 201) rfl (SZ.drop (by simp) (by simp)) (Or.inl ⟨by rfl, ?_⟩) ?_
            ·intro X hX
             clear hX
             go_simp
            try simp only [Act.put, zA, zB, zC]
            refine tJ 39 (.pointer (some ⟨g10, 3, none⟩)) (some 202) rfl (SZ.drop (by simp) (by simp)) (Or.inl ⟨by rfl, ?_⟩) ?_
            ·intro X hX
             clear hX
             go_simp
            try simp only [Act.put, zA, zB, zC]
            refine tJ 40 (.slice (some ⟨bo, oo, none⟩) s7d.length d7) (some 203) rfl (HAL.out 40) (Or.inl ⟨by rfl, ?_⟩) ?_
            ·intro X hX
             obtain ⟨hz5, hc5⟩ := hX.1 (40, ⟨g10, 3, none⟩, .slice (some ⟨bo, oo, none⟩) s7d.length d7) (List.Mem.tail _ (List.Mem.tail _ (List.Mem.tail _ (List.Mem.tail _ (List.Mem.tail _ (List.Mem.head _)))))) rfl
             simp only at hz5 hc5
             clear hX
             go_simp
            try simp only [Act.put, zA, zB, zC]
            refine tJ 41 (.pointer (some ⟨bo, oo + 10, none⟩)) (some 204) rfl (SZ.drop (by simp) (by simp)) (Or.inl ⟨by rfl, ?_⟩) ?_
            ·intro X hX
             clear hX
             go_simp
            try simp only [Act.put, zA, zB, zC]
            refine tJ 42 (.pointer (some ⟨bo, oo + 12, none⟩)) (some 205) rfl (SZ.drop (by simp) (by simp)) (Or.inl ⟨by rfl, ?_⟩) ?_
            ·intro X hX
             clear hX
             go_simp
            try simp only [Act.put, zA, zB, zC]
            refine tJ 43 (.int .i64 11) (some 206) rfl (HAL.out 43) (Or.inl ⟨by rfl, ?_⟩) ?_
            ·intro X hX
             obtain ⟨hz6, hc6⟩ := hX.1 (43, ⟨bo, oo + 12, none⟩, .int .i64 11) (List.Mem.tail _ (List.Mem.tail _ (List.Mem.tail _ (List.Mem.tail _ (List.Mem.tail _ (List.Mem.tail _ (List.Mem.head _))))))) rfl
             simp only at hz6 hc6
             clear hX
             go_simp
            try simp only [Act.put, zA, zB, zC]
            refine tJ 44 (.bool true) (some 207) rfl (SZ.drop (by simp) (by simp)) (Or.inl ⟨by rfl, ?_⟩) ?_
            ·intro X hX
             clear hX
             go_simp
            try simp only [Act.put, zA, zB, zC]
            refine tJ 45 (.bool true) (some 208) rfl (SZ.drop (by simp) (by simp)) (Or.inl ⟨by rfl, ?_⟩) ?_
            ·intro X hX
             clear hX
             go_simp
            try simp only [Act.put, zA, zB, zC]
            refine tJ 46 (.bool true) (some 209) rfl (SZ.drop (by simp) (by simp)) (Or.inl ⟨by rfl, ?_⟩) ?_
            ·intro X hX
             clear hX
             go_simp
            try simp only [Act.put, zA, zB, zC]
            refine tJ 47 (.pointer (some ⟨g10, 3, none⟩)) (some 210) rfl (SZ.drop (by simp) (by simp)) (Or.inl ⟨by rfl, ?_⟩) ?_
            ·intro X hX
             clear hX
             go_simp
            try simp only [Act.put, zA, zB, zC]
            refine tJ 48 (.slice (some ⟨bo, oo, none⟩) s7d.length d7) (some 211) rfl (HAL.out 48) (Or.inl ⟨by rfl, ?_⟩) ?_
            ·intro X hX
             obtain ⟨hz7, hc7⟩ := hX.1 (48, ⟨g10, 3, none⟩, .slice (some ⟨bo, oo, none⟩) s7d.length d7) (List.Mem.tail _ (List.Mem.tail _ (List.Mem.tail _ (List.Mem.tail _ (List.Mem.tail _ (List.Mem.tail _ (List.Mem.tail _ (List.Mem.head _)))))))) rfl
             simp only at hz7 hc7
             clear hX
             go_simp
            try simp only [Act.put, zA, zB, zC]
            refine tJ 49 (.pointer (some ⟨bo, oo + 10, none⟩)) (some 212) rfl (SZ.drop (by simp) (by simp)) (Or.inl ⟨by rfl, ?_⟩) ?_
            ·intro X hX
             clear hX
             go_simp
            try simp only [Act.put, zA, zB, zC]
            refine tJ 50 (.pointer (some ⟨bo, oo + 13, none⟩)) (some 213) rfl (SZ.drop (by simp) (by simp)) (Or.inl ⟨by rfl, ?_⟩) ?_
            ·intro X hX
             clear hX
             go_simp
            try simp only [Act.put, zA, zB, zC]
            refine tJ 51 (.int .i64 1) (some 214) rfl (HAL.out 51) (Or.inl ⟨by rfl, ?_⟩) ?_
            ·intro X hX
             obtain ⟨hz8, hc8⟩ := hX.1 (51, ⟨bo, oo + 13, none⟩, .int .i64 1) (List.Mem.tail _ (List.Mem.tail _ (List.Mem.tail _ (List.Mem.tail _ (List.Mem.tail _ (List.Mem.tail _ (List.Mem.tail _ (List.Mem.tail _ (List.Mem.head _))))))))) rfl
             simp only at hz8 hc8
             clear hX
             go_simp
            try simp only [Act.put, zA, zB, zC]
            refine tJ 52 (.bool true) (some 215) rfl (SZ.drop (by simp) (by simp)) (Or.inl ⟨by rfl, ?_⟩) ?_
            ·intro X hX
             clear hX
             go_simp
            try simp only [Act.put, zA, zB, zC]
            refine tJ 53 (.bool true) (some 216) rfl (SZ.drop (by simp) (by simp)) (Or.inl ⟨by rfl, ?_⟩) ?_
            ·intro X hX
             clear hX
             go_simp
            try simp only [Act.put, zA, zB, zC]
            refine tJ 54 (.bool true) (some 217) rfl (SZ.drop (by simp) (by simp)) (Or.inl ⟨by rfl, ?_⟩) ?_
            ·intro X hX
             clear hX
             go_simp
            try simp only [Act.put, zA, zB, zC]
            refine tJ 55 (.int .i64 0) (some 218) rfl (SZ.drop (by simp) (by simp)) (Or.inl ⟨by rfl, ?_⟩) ?_
            ·intro X hX
             clear hX
             go_simp
            try simp only [Act.put, zA, zB, zC]
            refine tJ 56 (.bool true) (some 219) rfl (SZ.drop (by simp) (by simp)) (Or.inl ⟨by rfl, ?_⟩) ?_
            ·intro X hX
             clear hX
             go_simp
            try simp only [Act.put, zA, zB, zC]
            refine tJ 57 (.bool true) (some 220) rfl (SZ.drop (by simp) (by simp)) (Or.inl ⟨by rfl, ?_⟩) ?_
            ·intro X hX
             clear hX
             go_simp
            try simp only [Act.put, zA, zB, zC]
            refine tJ 58 (.bool true) (some 221) rfl (SZ.drop (by simp) (by simp)) (Or.inl ⟨by rfl, ?_⟩) ?_
            ·intro X hX
             clear hX
             go_simp
            try simp only [Act.put, zA, zB, zC]
            refine tJ 59 (.slice A13 0 c13) (some 222) rfl (SZ.drop (by simp) (by simp)) (Or.inl ⟨by rfl, ?_⟩) ?_
            ·intro X hX
             clear hX
             go_simp
            try simp only [Act.put, zA, zB, zC]
            refine tJ 60 (.int .i64 (0 : Nat)) (some 223) rfl (SZ.drop (by simp) (by simp)) (Or.inl ⟨by rfl, ?_⟩) ?_
            ·intro X hX
             clear hX
             go_simp
            try simp only [Act.put, zA, zB, zC]
            refine tJ 61 (.bool true) (some 224) rfl (SZ.drop (by simp) (by simp)) (Or.inl ⟨by rfl, ?_⟩) ?_
            ·intro X hX
             clear hX
             go_simp
            try simp only [Act.put, zA, zB, zC]
            refine tJ 62 (.bool true) (some 225) rfl (SZ.drop (by simp) (by simp)) (Or.inl ⟨by rfl, ?_⟩) ?_
            ·intro X hX
             clear hX
             go_simp
            try simp only [Act.put, zA, zB, zC]
            refine tJ 63 (.bool true) (some 226) rfl (SZ.drop (by simp) (by simp)) (Or.inl ⟨by rfl, ?_⟩) ?_
            ·intro X hX
             clear hX
             go_simp
            try simp only [Act.put, zA, zB, zC]
            refine tJ 64 (.int .i64 0) (some 227) rfl (SZ.drop (by simp) (by simp)) (Or.inl ⟨by rfl, ?_⟩) ?_
            ·intro X hX
             clear hX
             go_simp
            try simp only [Act.put, zA, zB, zC]
            refine tJ 65 (.bool true) (some 228) rfl (SZ.drop (by simp) (by simp)) (Or.inl ⟨by rfl, ?_⟩) ?_
            ·intro X hX
             clear hX
             go_simp
            try simp only [Act.put, zA, zB, zC]
            refine tJ 66 (.bool true) (some 229) rfl (SZ.drop (by simp) (by simp)) (Or.inl ⟨by rfl, ?_⟩) ?_
            ·intro X hX
             clear hX
             go_simp
            try simp only [Act.put, zA, zB, zC]
            refine tJ 67 (.bool true) (some 230) rfl (SZ.drop (by simp) (by simp)) (Or.inl ⟨by rfl, ?_⟩) ?_
            ·intro X hX
             clear hX
             go_simp
            try simp only [Act.put, zA, zB, zC]
            refine tJ 68 (.slice A14 t256.length c14) (some 231) rfl (SZ.drop (by simp) (by simp)) (Or.inl ⟨by rfl, ?_⟩) ?_
            ·intro X hX
             clear hX
             go_simp
            try simp only [Act.put, zA, zB, zC]
            refine tJ 69 (.string (bstr t256)) (some 232) rfl (HAL.out 69) (Or.inl ⟨by rfl, ?_⟩) ?_
            ·intro X hX
             have cv1 := fun c => conv_rba c (hX.2 (69, A14, t256) (List.Mem.head _) rfl)
             clear hX
             go_simp
            try simp only [Act.put, zA, zB, zC]
            refine only_I 70 (by kernel_rfl) rfl (fun K' hK' => ?_)
            go_simp
            go_at_call 38
            refine (TX256.out _).mono ?_
            rintro e x54 ⟨v, rfl, hv, hb⟩
            obtain ⟨Av, cv, rfl, va, vb, hv⟩ := OB.rb hv TB256.out
            have VB := Lib.hid hv
            clear hv
            replace NN := Lib.hid (Bgo NN.out hb)
            replace T7 := Lib.hid (T7.out.next hb)
            replace U7 := Lib.hid (U7.out.next hb)
            replace R14 := Lib.hid (RBA.next hb R14.out)
            replace V9 := Lib.hid (blk_next hb V9.out)
            go_simp
            refine hK'.out _ _ (fun _ _ hS => hS.next hb) ?_
            clear hK' K'
            try simp only [Act.put, zA, zB, zC]
            replace HAL := Lib.hid (fun kx9 => (HAL.out kx9).next hb)
            clear hb
            refine only_I 71 (by kernel_rfl) rfl (fun K' hK' => ?_)
            have cv1 := conv_rba cv VB.out
            go_simp
            refine hK'.out _ _ (fun _ _ hS => hS) ?_
            clear hK' K'
            try simp only [Act.put, zA, zB, zC]
            refine tJ 72 (.bool true) (some 235) rfl (SZ.drop (by simp) (by simp)) (Or.inl ⟨by rfl, ?_⟩) ?_
            ·intro X hX
             clear hX
             go_simp
            try simp only [Act.put, zA, zB, zC]
            refine tJ 73 (.bool true) (some 236) rfl (SZ.drop (by simp) (by simp)) (Or.inl ⟨by rfl, ?_⟩) ?_
            ·intro X hX
             clear hX
             go_simp
            try simp only [Act.put, zA, zB, zC]
            refine tJ 74 (.bool true) (some 237) rfl (SZ.drop (by simp) (by simp)) (Or.inl ⟨by rfl, ?_⟩) ?_
            ·intro X hX
             clear hX
             go_simp
            try simp only [Act.put, zA, zB, zC]
            refine tJ 75 (.int .i64 0) (some 238) rfl (SZ.drop (by simp) (by simp)) (Or.inl ⟨by rfl, ?_⟩) ?_
            ·intro X hX
             clear hX
             go_simp
            try simp only [Act.put, zA, zB, zC]
            refine tJ 76 (.bool true) (some 239) rfl (SZ.drop (by simp) (by simp)) (Or.inl ⟨by rfl, ?_⟩) ?_
            ·intro X hX
             clear hX
             go_simp
            try simp only [Act.put, zA, zB, zC]
            refine tJ 77 (.bool true) (some 240) rfl (SZ.drop (by simp) (by simp)) (Or.inl ⟨by rfl, ?_⟩) ?_
            ·intro X hX
             clear hX
             go_simp
            try simp only [Act.put, zA, zB, zC]
            refine tJ 78 (.bool true) (some 241) rfl (SZ.drop (by simp) (by simp)) (Or.inl ⟨by rfl, ?_⟩) ?_
            ·intro X hX
             clear hX
             go_simp
            try simp only [Act.put, zA, zB, zC]
            refine tJ 79 (.slice A22 0 c22) (some 242) rfl (SZ.drop (by simp) (by simp)) (Or.inl ⟨by rfl, ?_⟩) ?_
            ·intro X hX
             clear hX
             go_simp
            try simp only [Act.put, zA, zB, zC]
            refine tJ 80 (.int .i64 (0 : Nat)) (some 243) rfl (SZ.drop (by simp) (by simp)) (Or.inl ⟨by rfl, ?_⟩) ?_
            ·intro X hX
             clear hX
             go_simp
            try simp only [Act.put, zA, zB, zC]
            refine tJ 81 (.bool true) (some 244) rfl (SZ.drop (by simp) (by simp)) (Or.inl ⟨by rfl, ?_⟩) ?_
            ·intro X hX
             clear hX
             go_simp
            try simp only [Act.put, zA, zB, zC]
            refine tJ 82 (.bool true) (some 245) rfl (SZ.drop (by simp) (by simp)) (Or.inl ⟨by rfl, ?_⟩) ?_
            ·intro X hX
             clear hX
             go_simp
            try simp only [Act.put, zA, zB, zC]
            refine tJ 83 (.bool true) (some 46) rfl (SZ.drop (by simp) (by simp)) (Or.inl ⟨by rfl, ?_⟩) ?_
            ·intro X hX
             clear hX
             go_simp
            try simp only [Act.put, zA, zB, zC]
            clear HAL
            refine done_I (by kernel_rfl) ?_ _
            go_wp2_with fail
            as_aux_lemma =>
             refine (sLost_calls _).mono ?_
             rintro e w55 ⟨rfl, hb⟩
             replace NN := Lib.hid (Bgo NN.out hb)
             clear hb
             go_wp2_with fail
             refine (wrong_calls _).mono ?_
             rintro e w56 ⟨rfl, hb⟩
             replace NN := Lib.hid (Bgo NN.out hb)
             clear hb
             go_wp2_with fail
             refine (alive_calls _).mono ?_
             rintro e w57 ⟨rfl, hb⟩
             replace NN := Lib.hid (Bgo NN.out hb)
             clear hb
             go_wp2_with fail
             go_ret
             exact ⟨rfl, NN.out⟩

set_option maxRecDepth 100000 in
theorem lifted (os : Os) (started : os.Started) (H : Type) (enc : TypeId × Value → H) :
  ReturnsInHanded {} Try.checked os 9 .any (Rows.storeNamesSpec.pre6 enc Try.prog Try.f9 Rows.storeNamesRow.domain false) (Rows.storeNamesSpec.post enc Try.prog Try.f9 false true false false) := by
 refine returnsInHanded_of_change (C := Try.checked) own started (by kernel_rfl) Try.func9
  (ChangeSpec.witness6 (enc := enc) (C := Try.checked) false ⟨#[], #[], []⟩ 8 (by kernel_rfl) (by kernel_rfl) (by kernel_rfl) (by kernel_rfl)) ?_
 intro W base args ds gs before hval0 hW hcnd _
 have hval : ∀ (j : Nat) t v, Try.f9.params[j]? = some t → args[j]? = some v → Value.okWide Try.prog W .any base t v := hval0
 have hW' := hW
 obtain ⟨p, q, hA0, hV, rfl, hfz, hnd⟩ := hW
 have hA : DataW.TrodAll enc Try.prog W 0 (fun _ => true) true Try.f9.params.toList args.toList ds p := hA0
 rw [Try.params9] at hA hval
 obtain ⟨hargs, rfl, rfl⟩ := trodAll_nil hA
 obtain rfl : args = #[] := by cases args; simp_all
 obtain ⟨rfl, rfl⟩ := trodVars_none hV
 clear hA0 hval0
 refine (walk W).mono fun e W' ⟨he, bel⟩ => ?_
 subst he
 exact ⟨_, rfl, _, _, _, [], _, [], hW', trodAll_mk1 (shut_bool Try.underlying4 _), trodAll_mk0, rfl, bel.frame _, fun h => by cases h⟩

theorem over : Rows.storeNamesRow.holds Try.pinned (OpenSpec.ofChange Rows.storeNamesSpec) :=
 OpenClaim.holds_of_wide 9 Try.f9 rfl rfl rfl rfl rfl rfl rfl ⟨rfl, rfl, rfl, rfl, rfl⟩ rfl rfl rfl rfl rfl (by kernel_rfl) Try.func9 (by kernel_rfl)
  (of_decide_eq_true (by kernel_rfl)) (by unfold Func.isWrapper; first | (rw [if_pos (by decide +kernel)]; kernel_rfl) | (rw [if_neg (by decide +kernel)]; exact ⟨rfl, rfl⟩))
  (fun os started H enc _ => lifted os started H enc)

theorem proved : Rows.StoreNamesSaid := over
#print axioms proved
end Go.Proofs.Ytapehckcmmompaa.storeNames
