/- Contracts of layer 43: Add, of the program and of the reference. -/
import Derived.Test.YthmfjlphmamegaaPl3
namespace Go.Proofs.Ythmfjlphmamegaa
open Go.ChangeShapes Go.WideShapes Go.ChangeAt Go.RowKit
set_option linter.unusedVariables false
attribute [local go_sem ↓] Go.wp_at_zero Go.wp_at_succ

def adE (l : List Slt) (rs : List Rul) (s : Slt) : Int := if checkE l rs ≠ 0 then checkE l rs else checkE (l ++ [s]) rs
def adL (l : List Slt) (rs : List Rul) (s : Slt) : List Slt := if adE l rs s = 0 then l ++ [s] else []
def adR (l : List Slt) (rs : List Rul) (s : Slt) : List Rul := if adE l rs s = 0 then rs else []
theorem ad_nil {l : List Slt} {rs : List Rul} {s : Slt} {e : Int} (h : adE l rs s = e) (he : e ≠ 0) : adL l rs s = [] ∧ adR l rs s = [] := by
  unfold adL adR; rw [h, if_neg he, if_neg he]; exact ⟨rfl, rfl⟩
theorem own_lt_ne {W : World} {base b : Nat} {e : TypeId} {size n : Nat} {v : Value} {xs : List Value} (h : W.ownsRow base e size v n xs) (hb : W.heap.size ≤ b) : some b ≠ v.ownBlock := by
  intro hh
  have := h.lt b hh.symm
  omega
theorem sl4_one (s : Slt) : ∀ u ∈ sl4 s, u.oneCell' = true := by
  intro u hu
  simp [sl4] at hu
  rcases hu with rfl | rfl | rfl | rfl <;> rfl
theorem new4 (w : World) (s : Slt) (t : TypeId) : ∀ (j : Nat) (u : Value), (sl4 s)[j]? = some u → (w.alloc (.cells #[.string s.name, .int .i64 s.st, .int .i64 s.fr, .int .i64 s.to] t)).cell? ((⟨w.heap.size, 0, none⟩ : Addr).add j) = some u := by
  intro j u h
  have e : (⟨w.heap.size, 0, none⟩ : Addr).add j = ⟨w.heap.size, j, none⟩ := by simp [Addr.add]; intro h; exact h.symm
  rw [e]
  exact blk_cell (blk_new w _) j u (by simpa [sl4] using h)
theorem blk3a (w : World) (x y z : Obj) : (((w.alloc x).alloc y).alloc z).heap[w.heap.size]? = some x := blk_alloc (blk_alloc (blk_new w x) y) z
theorem blk3b (w : World) (x y z : Obj) : (((w.alloc x).alloc y).alloc z).heap[w.heap.size + 1]? = some y := blk_alloc (blk_at y (by simp)) z
theorem blk3c (w : World) (x y z : Obj) : (((w.alloc x).alloc y).alloc z).heap[w.heap.size + 1 + 1]? = some z := blk_at z (by simp)
theorem own_rd {W : World} {base : Nat} {e : TypeId} {size n c : Nat} {A : Option Addr} {xs : List Value} (h : W.ownsRow base e size (.slice A n c) n xs) : Rd W size A n xs := by
  obtain ⟨A', c', hv, _, _, rd⟩ := Rd.of_own h
  injection hv with h1
  subst h1; exact rd
theorem own_lt_base {W : World} {base b : Nat} {e : TypeId} {size n : Nat} {v : Value} {xs : List Value} (h : W.ownsRow base e size v n xs) (hb : b < base) : some b ≠ v.ownBlock := by
  intro hh
  have := h.lt b hh.symm
  omega
theorem own_own {W : World} {base base' : Nat} {e e' : TypeId} {size size' n n' : Nat} {v v' : Value} {xs xs' : List Value} (h : W.ownsRow base e size v n xs) (h' : W.ownsRow base' e' size' v' n' xs') (hne : e ≠ e') : v'.ownBlock = none ∨ v'.ownBlock ≠ v.ownBlock := by
  rcases h'.2 with ⟨rfl, _⟩ | ⟨g', cap, cur, rfl, _, hh, _⟩
  · exact .inl rfl
  · exact .inr (fun hh' => own_ne h hh hne hh'.symm)
set_option maxHeartbeats 4000000 in
set_option maxRecDepth 100000 in
theorem add_calls (a : Option Addr) (cap : Nat) (l : List Slt) (a' : Option Addr) (cap' : Nat) (rs : List Rul) (w : World) (hn : l.length ≤ cap) (hcap : cap ≤ 9223372036854775807) (hs : SlotsIn w a l)
    (hn' : rs.length ≤ cap') (hcap' : cap' ≤ 9223372036854775807) (hr : RulesIn w a' rs) (s : Slt) :
    Calls Try.prog 24 #[Pv a l.length cap a' rs.length cap', Sv s] w (PlanEPost w (adL l rs s) (adR l rs s) (adE l rs s)) := by
  have HS := Lib.hid hs
  have HR := Lib.hid hr
  clear hs hr
  have CK := Lib.hid (fun (W : World) (hW : Below w.heap.size w W) => check_calls a cap l a' cap' rs W hn hcap (HS.out.next hW) hn' hcap' (HR.out.next hW))
  by_cases hE : checkE l rs = 0
  case neg =>
    have FE : Hid (adE l rs s = checkE l rs) := Lib.hid (by unfold adE; rw [if_pos hE])
    have FL : Hid (adL l rs s = []) := Lib.hid (ad_nil FE.out hE).1
    have FR : Hid (adR l rs s = []) := Lib.hid (ad_nil FE.out hE).2
    generalize adL l rs s = L at *
    generalize adR l rs s = RS at *
    generalize adE l rs s = E at *
    generalize checkE l rs = ce at *
    have hne : (ce != 0) = true := by simpa using hE
    go_enter Try.func24, Try.ntmps24
    go_wp2_with fail
    refine (CK.out _ (Bal (Bal (Bal (Below.refl _ _) _) _) _)).mono ?_
    rintro e w1 ⟨rfl, hb⟩
    have HX : Hid (w1.heap[w.heap.size]? = some (.cells #[.slice a l.length cap, .slice a' rs.length cap'] 25)) := Lib.hid (blk_next hb (blk3a w _ _ _))
    have HY : Hid (w1.heap[w.heap.size + 1]? = some (.cells #[.string s.name, .int .i64 s.st, .int .i64 s.fr, .int .i64 s.to] 47)) := Lib.hid (blk_next hb (blk3b w _ _ _))
    have HZ : Hid (w1.heap[w.heap.size + 1 + 1]? = some (.cells #[.slice none 0 0, .slice none 0 0] 25)) := Lib.hid (blk_next hb (blk3c w _ _ _))
    have HB : Hid (Below w.heap.size w w1) := Lib.hid (Bgo (Bal (Bal (Bal (Below.refl _ _) _) _) _) hb)
    clear hb CK
    have p0 : w1.cell? ⟨w.heap.size, 0, none⟩ = some (.slice a l.length cap) := blk_cell HX.out 0 _ rfl
    have p1 : w1.cell? ⟨w.heap.size, 1, none⟩ = some (.slice a' rs.length cap') := blk_cell HX.out 1 _ rfl
    have s0 : w1.cell? ⟨w.heap.size + 1, 0, none⟩ = some (.string s.name) := blk_cell HY.out 0 _ rfl
    have s1 : w1.cell? ⟨w.heap.size + 1, 1, none⟩ = some (.int .i64 s.st) := blk_cell HY.out 1 _ rfl
    have s2 : w1.cell? ⟨w.heap.size + 1, 2, none⟩ = some (.int .i64 s.fr) := blk_cell HY.out 2 _ rfl
    have s3 : w1.cell? ⟨w.heap.size + 1, 3, none⟩ = some (.int .i64 s.to) := blk_cell HY.out 3 _ rfl
    have r0 : w1.cell? ⟨w.heap.size + 1 + 1, 0, none⟩ = some (.slice none 0 0) := blk_cell HZ.out 0 _ rfl
    have r1 : w1.cell? ⟨w.heap.size + 1 + 1, 1, none⟩ = some (.slice none 0 0) := blk_cell HZ.out 1 _ rfl
    have q0 : w1.frozen? ⟨w.heap.size + 1 + 1, 0, none⟩ = false := blk_frozen HZ.out 0
    have q1 : w1.frozen? ⟨w.heap.size + 1 + 1, 1, none⟩ = false := blk_frozen HZ.out 1
    go_wp2_with fail
    have e1 : ((w1.setCell ⟨w.heap.size + 1 + 1, 0, none⟩ (.slice none 0 0)).setCell ⟨w.heap.size + 1 + 1, 1, none⟩ (.slice none 0 0)).cell? ⟨w.heap.size + 1 + 1, 0, none⟩ = some (.slice none 0 0) := blk_cell (blk_set (blk_set HZ.out 0 _) 1 _) 0 _ rfl
    have e2 : ((w1.setCell ⟨w.heap.size + 1 + 1, 0, none⟩ (.slice none 0 0)).setCell ⟨w.heap.size + 1 + 1, 1, none⟩ (.slice none 0 0)).cell? ⟨w.heap.size + 1 + 1, 1, none⟩ = some (.slice none 0 0) := blk_cell (blk_set (blk_set HZ.out 0 _) 1 _) 1 _ rfl
    refine bodyPost_ret (v := .tuple #[.agg #[.slice none 0 0, .slice none 0 0], .int .i64 ce]) (by simp [results, Try.results24, go_sem, e1, e2]) rfl ?_
    rw [FE.out]
    exact planE_nil FL.out FR.out (Bset1 (Bset1 HB.out (by omega) _ _) (by omega) _ _)
  case pos =>
    obtain ⟨i0, hi, hz0, hz1, hz2⟩ := info_parts infoSl
    have HI := Lib.hid (And.intro hi (And.intro hz0 (And.intro hz1 hz2)))
    clear hi hz0 hz1 hz2
    have h20 := (okp_of hE).ls
    have h20' := (okp_of hE).rl
    have FE : Hid (adE l rs s = checkE (l ++ [s]) rs) := Lib.hid (by unfold adE; rw [if_neg (by simpa using hE)])
    have FLe : Hid (adL l rs s = if checkE (l ++ [s]) rs = 0 then l ++ [s] else []) := Lib.hid (by unfold adL; rw [FE.out])
    have FRe : Hid (adR l rs s = if checkE (l ++ [s]) rs = 0 then rs else []) := Lib.hid (by unfold adR; rw [FE.out])
    have CP := Lib.hid (fun (W : World) (hW : Below w.heap.size w W) => copied_calls a cap l a' cap' rs W hn hcap (HS.out.next hW) hn' hcap' (HR.out.next hW) (by omega) (by omega))
    have C2 : Hid (∀ (A B : Option Addr) (c d : Nat) (W : World), l.length + 1 ≤ c → c ≤ 9223372036854775807 → SlotsIn W A (l ++ [s]) → rs.length ≤ d → d ≤ 9223372036854775807 → RulesIn W B rs → Calls Try.prog 17 #[Pv A (l.length + 1) c B rs.length d] W fun e w' => e = .returned (.int .i64 (checkE (l ++ [s]) rs)) ∧ Below W.heap.size W w') := Lib.hid (fun A B c d W g1 g2 g3 g4 g5 g6 => by
      have := check_calls A c (l ++ [s]) B d rs W (by simpa using g1) g2 g3 g4 g5 g6
      simpa using this)
    generalize adL l rs s = L at *
    generalize adR l rs s = RS at *
    generalize adE l rs s = E at *
    generalize checkE l rs = ce at *
    generalize checkE (l ++ [s]) rs = cf at *
    subst hE
    go_enter Try.func24, Try.ntmps24
    go_wp2_with fail
    refine (CK.out _ (Bal (Bal (Bal (Below.refl _ _) _) _) _)).mono ?_
    rintro e w1 ⟨rfl, hb⟩
    have HX : Hid (w1.heap[w.heap.size]? = some (.cells #[.slice a l.length cap, .slice a' rs.length cap'] 25)) := Lib.hid (blk_next hb (blk3a w _ _ _))
    have HY : Hid (w1.heap[w.heap.size + 1]? = some (.cells #[.string s.name, .int .i64 s.st, .int .i64 s.fr, .int .i64 s.to] 47)) := Lib.hid (blk_next hb (blk3b w _ _ _))
    have HZ : Hid (w1.heap[w.heap.size + 1 + 1]? = some (.cells #[.slice none 0 0, .slice none 0 0] 25)) := Lib.hid (blk_next hb (blk3c w _ _ _))
    have HB : Hid (Below w.heap.size w w1) := Lib.hid (Bgo (Bal (Bal (Bal (Below.refl _ _) _) _) _) hb)
    clear hb CK
    have p0 : w1.cell? ⟨w.heap.size, 0, none⟩ = some (.slice a l.length cap) := blk_cell HX.out 0 _ rfl
    have p1 : w1.cell? ⟨w.heap.size, 1, none⟩ = some (.slice a' rs.length cap') := blk_cell HX.out 1 _ rfl
    have s0 : w1.cell? ⟨w.heap.size + 1, 0, none⟩ = some (.string s.name) := blk_cell HY.out 0 _ rfl
    have s1 : w1.cell? ⟨w.heap.size + 1, 1, none⟩ = some (.int .i64 s.st) := blk_cell HY.out 1 _ rfl
    have s2 : w1.cell? ⟨w.heap.size + 1, 2, none⟩ = some (.int .i64 s.fr) := blk_cell HY.out 2 _ rfl
    have s3 : w1.cell? ⟨w.heap.size + 1, 3, none⟩ = some (.int .i64 s.to) := blk_cell HY.out 3 _ rfl
    have r0 : w1.cell? ⟨w.heap.size + 1 + 1, 0, none⟩ = some (.slice none 0 0) := blk_cell HZ.out 0 _ rfl
    have r1 : w1.cell? ⟨w.heap.size + 1 + 1, 1, none⟩ = some (.slice none 0 0) := blk_cell HZ.out 1 _ rfl
    have q0 : w1.frozen? ⟨w.heap.size + 1 + 1, 0, none⟩ = false := blk_frozen HZ.out 0
    have q1 : w1.frozen? ⟨w.heap.size + 1 + 1, 1, none⟩ = false := blk_frozen HZ.out 1
    go_wp2_with fail
    refine (CP.out _ HB.out).mono ?_
    rintro e w2 ⟨v1, v2, rfl, o1, o2, hb2⟩
    obtain ⟨A1, k1, rfl, _, _, _⟩ := Rd.of_own o1
    obtain ⟨A2, k2, rfl, y1, y2, rd2⟩ := Rd.of_own o2
    have hz9 := blk_lt HZ.out
    have HXn := Lib.hid (blk_next hb2 HX.out)
    have HYn := Lib.hid (blk_next hb2 HY.out)
    have HZn := Lib.hid (blk_next hb2 HZ.out)
    have HBn : Hid (Below w.heap.size w w2) := Lib.hid (Bgo HB.out hb2)
    have hb2s := hb2.size
    have O1 := Lib.hid o1
    have O2 := Lib.hid o2
    clear p0 p1 s0 s1 s2 s3 r0 r1 q0 q1 o1 o2 hb2 HX HY HZ HB rd2
    have HX := HXn
    have HY := HYn
    have HZ := HZn
    have HB := HBn
    clear HXn HYn HZn HBn
    have p0 : w2.cell? ⟨w.heap.size, 0, none⟩ = some (.slice a l.length cap) := blk_cell HX.out 0 _ rfl
    have p1 : w2.cell? ⟨w.heap.size, 1, none⟩ = some (.slice a' rs.length cap') := blk_cell HX.out 1 _ rfl
    have s0 : w2.cell? ⟨w.heap.size + 1, 0, none⟩ = some (.string s.name) := blk_cell HY.out 0 _ rfl
    have s1 : w2.cell? ⟨w.heap.size + 1, 1, none⟩ = some (.int .i64 s.st) := blk_cell HY.out 1 _ rfl
    have s2 : w2.cell? ⟨w.heap.size + 1, 2, none⟩ = some (.int .i64 s.fr) := blk_cell HY.out 2 _ rfl
    have s3 : w2.cell? ⟨w.heap.size + 1, 3, none⟩ = some (.int .i64 s.to) := blk_cell HY.out 3 _ rfl
    have d7 : w.heap.size + 1 < w2.heap.size := by omega
    have d8 : w.heap.size + 1 + 1 < w2.heap.size := by omega
    have G1 : Hid (l.length + 1 ≤ maxLen) := Lib.hid (by unfold maxLen; omega)
    have G2 : Hid ((l.length + 1) * 40 ≤ 140737488355328) := Lib.hid (by omega)
    have G3 : Hid (∀ X Y, w1.heap.size ≤ ((w2.alloc X).alloc Y).heap.size) := Lib.hid (fun X Y => by simp; omega)
    have NW : Hid (∀ X, ∀ (j : Nat) (u : Value), (sl4 s)[j]? = some u → ((w2.alloc X).alloc (.cells #[.string s.name, .int .i64 s.st, .int .i64 s.fr, .int .i64 s.to] 47)).cell? ((⟨w2.heap.size + 1, 0, none⟩ : Addr).add j) = some u) := Lib.hid (fun X => by
      have := new4 (w2.alloc X) s 47
      simpa using this)
    have ZN : Hid (w2.heap.size + 1 = (w2.alloc (.cells #[.slice A1 l.length k1, .slice A2 rs.length k2] 25)).heap.size) := Lib.hid (by simp)
    go_wp2_with (at_builtin; refine wpList_append_own _ rfl _ _ 22 rfl w1.heap.size 47 i0 zS 4 40 Try.underlying22 HI.out.1 HI.out.2.1 HI.out.2.2.1 HI.out.2.2.2 rfl (by decide) _ _ _ rfl ((O1.out.alloc _).alloc _) ⟨w2.heap.size + 1, 0, none⟩ 1 1 (sl4 s) rfl rfl (NW.out _) (sl4_one s) G1.out G2.out (G3.out _ _) ?_; intro v3 w3 hown3 hgrow3 hnil3; obtain ⟨A3, k3, rfl, y3, y4, rd3⟩ := Rd.of_own hown3; have O3 := Lib.hid hown3; have M1 : Hid (w3.heap[w2.heap.size]? = some (.cells #[.slice A1 l.length k1, .slice A2 rs.length k2] 25)) := Lib.hid (gblk hgrow3 (blk_alloc (blk_new w2 _) _) (own_lt_ne O1.out (Nat.le_refl _))); have M2 : Hid (w3.heap[w.heap.size + 1 + 1]? = some (.cells #[.slice none 0 0, .slice none 0 0] 25)) := Lib.hid (gblk hgrow3 (blk_alloc (blk_alloc HZ.out _) _) (own_lt_base O1.out (by omega))); have M3 : Hid (Below w.heap.size w w3) := Lib.hid (own_below2 ((O1.out.alloc _).alloc _) (Bal (Bal HB.out _) _) (by omega) hgrow3); have O4 : Hid (w3.ownsRow w1.heap.size 61 6 (.slice A2 rs.length k2) rs.length (rlc rs)) := Lib.hid (((O2.out.alloc _).alloc _).kept hgrow3 (own_own O1.out O2.out (by decide))); have c0 : w3.cell? ⟨w2.heap.size, 0, none⟩ = some (.slice A1 l.length k1) := blk_cell M1.out 0 _ rfl; have c1 : w3.cell? ⟨w2.heap.size, 1, none⟩ = some (.slice A2 rs.length k2) := blk_cell M1.out 1 _ rfl; have cq : w3.frozen? ⟨w2.heap.size, 0, none⟩ = false := blk_frozen M1.out 0; clear hown3 hgrow3 hnil3 rd3)
    have CB4 : Hid ((w3.setCell ⟨w2.heap.size, 0, none⟩ (.slice A3 (l.length + 1) k3)).heap[w2.heap.size]? = some (.cells #[.slice A3 (l.length + 1) k3, .slice A2 rs.length k2] 25)) := Lib.hid (blk_set M1.out 0 _)
    have Z4 : Hid ((w3.setCell ⟨w2.heap.size, 0, none⟩ (.slice A3 (l.length + 1) k3)).heap[w.heap.size + 1 + 1]? = some (.cells #[.slice none 0 0, .slice none 0 0] 25)) := Lib.hid (blk_set_other M2.out (by omega) 0 _)
    have N4 : Hid (Below w.heap.size w (w3.setCell ⟨w2.heap.size, 0, none⟩ (.slice A3 (l.length + 1) k3))) := Lib.hid (Bset1 M3.out (by omega) _ _)
    have P1 : Hid ((w3.setCell ⟨w2.heap.size, 0, none⟩ (.slice A3 (l.length + 1) k3)).ownsRow w1.heap.size 47 4 (.slice A3 (l.length + 1) k3) (l.length + 1) (slc (l ++ [s]))) := Lib.hid (by
      have := own_set_ne O3.out (own_ne O3.out M1.out (by decide)) 0 (.slice A3 (l.length + 1) k3)
      rw [slc_append]
      simpa [slc] using this)
    have P2 : Hid ((w3.setCell ⟨w2.heap.size, 0, none⟩ (.slice A3 (l.length + 1) k3)).ownsRow w1.heap.size 61 6 (.slice A2 rs.length k2) rs.length (rlc rs)) := Lib.hid (own_set_ne O4.out (own_ne O4.out M1.out (by decide)) 0 _)
    clear M1 M2 M3 O1 O2 O3 O4 c0 c1 cq p0 p1 s0 s1 s2 s3 d7 d8 G1 G2 G3 NW ZN HX HY HZ HB
    generalize (w3.setCell ⟨w2.heap.size, 0, none⟩ (.slice A3 (l.length + 1) k3)) = W4 at *
    have T1 := Lib.hid (own_rd P1.out)
    have T2 := Lib.hid (own_rd P2.out)
    refine (C2.out A3 A2 k3 k2 _ y3 y4 (Rd.slots (by simpa using T1.out)) y1 y2 (Rd.rules T2.out)).mono ?_
    rintro e w5 ⟨rfl, hb5⟩
    have HZ := Lib.hid (blk_next hb5 Z4.out)
    have HC := Lib.hid (blk_next hb5 CB4.out)
    have HB : Hid (Below w.heap.size w w5) := Lib.hid (Bgo N4.out hb5)
    have Q1 := Lib.hid (own_next hb5 P1.out)
    have Q2 := Lib.hid (own_next hb5 P2.out)
    have c0 : w5.cell? ⟨w2.heap.size, 0, none⟩ = some (.slice A3 (l.length + 1) k3) := blk_cell HC.out 0 _ rfl
    have c1 : w5.cell? ⟨w2.heap.size, 1, none⟩ = some (.slice A2 rs.length k2) := blk_cell HC.out 1 _ rfl
    clear hb5
    have r0 : w5.cell? ⟨w.heap.size + 1 + 1, 0, none⟩ = some (.slice none 0 0) := blk_cell HZ.out 0 _ rfl
    have r1 : w5.cell? ⟨w.heap.size + 1 + 1, 1, none⟩ = some (.slice none 0 0) := blk_cell HZ.out 1 _ rfl
    have q0 : w5.frozen? ⟨w.heap.size + 1 + 1, 0, none⟩ = false := blk_frozen HZ.out 0
    have q1 : w5.frozen? ⟨w.heap.size + 1 + 1, 1, none⟩ = false := blk_frozen HZ.out 1
    by_cases hF : cf = 0
    case neg =>
      have FL : Hid (L = []) := Lib.hid (by rw [FLe.out, if_neg hF])
      have FR : Hid (RS = []) := Lib.hid (by rw [FRe.out, if_neg hF])
      have hne : (cf != 0) = true := by simpa using hF
      go_wp2_with fail
      have e1 : ((w5.setCell ⟨w.heap.size + 1 + 1, 0, none⟩ (.slice none 0 0)).setCell ⟨w.heap.size + 1 + 1, 1, none⟩ (.slice none 0 0)).cell? ⟨w.heap.size + 1 + 1, 0, none⟩ = some (.slice none 0 0) := blk_cell (blk_set (blk_set HZ.out 0 _) 1 _) 0 _ rfl
      have e2 : ((w5.setCell ⟨w.heap.size + 1 + 1, 0, none⟩ (.slice none 0 0)).setCell ⟨w.heap.size + 1 + 1, 1, none⟩ (.slice none 0 0)).cell? ⟨w.heap.size + 1 + 1, 1, none⟩ = some (.slice none 0 0) := blk_cell (blk_set (blk_set HZ.out 0 _) 1 _) 1 _ rfl
      refine bodyPost_ret (v := .tuple #[.agg #[.slice none 0 0, .slice none 0 0], .int .i64 cf]) (by simp [results, Try.results24, go_sem, e1, e2]) rfl ?_
      rw [FE.out]
      exact planE_nil FL.out FR.out (Bset1 (Bset1 HB.out (by omega) _ _) (by omega) _ _)
    case pos =>
      have FL : Hid (L = l ++ [s]) := Lib.hid (by rw [FLe.out, if_pos hF])
      have FR : Hid (RS = rs) := Lib.hid (by rw [FRe.out, if_pos hF])
      clear FLe FRe C2
      subst hF
      go_wp2_with fail
      have e1 : ((w5.setCell ⟨w.heap.size + 1 + 1, 0, none⟩ (.slice A3 (l.length + 1) k3)).setCell ⟨w.heap.size + 1 + 1, 1, none⟩ (.slice A2 rs.length k2)).cell? ⟨w.heap.size + 1 + 1, 0, none⟩ = some (.slice A3 (l.length + 1) k3) := blk_cell (blk_set (blk_set HZ.out 0 _) 1 _) 0 _ rfl
      have e2 : ((w5.setCell ⟨w.heap.size + 1 + 1, 0, none⟩ (.slice A3 (l.length + 1) k3)).setCell ⟨w.heap.size + 1 + 1, 1, none⟩ (.slice A2 rs.length k2)).cell? ⟨w.heap.size + 1 + 1, 1, none⟩ = some (.slice A2 rs.length k2) := blk_cell (blk_set (blk_set HZ.out 0 _) 1 _) 1 _ rfl
      refine bodyPost_ret (v := .tuple #[.agg #[.slice A3 (l.length + 1) k3, .slice A2 rs.length k2], .int .i64 0]) (by simp [results, Try.results24, go_sem, e1, e2]) rfl ?_
      rw [FE.out, FL.out, FR.out]
      refine ⟨_, _, rfl, ?_, ?_, ?_⟩
      · rw [List.length_append]
        refine World.ownsRow.mono (ownsRow_setCell_below (ownsRow_setCell_below Q1.out ?_ _) ?_ _) (by omega) <;> exact hz9
      · refine World.ownsRow.mono (ownsRow_setCell_below (ownsRow_setCell_below Q2.out ?_ _) ?_ _) (by omega) <;> exact hz9
      · exact Bset1 (Bset1 HB.out (by omega) _ _) (by omega) _ _
set_option maxHeartbeats 4000000 in
set_option maxRecDepth 100000 in
theorem refAdd_calls (a : Option Addr) (cap : Nat) (l : List Slt) (a' : Option Addr) (cap' : Nat) (rs : List Rul) (w : World) (hn : l.length ≤ cap) (hcap : cap ≤ 9223372036854775807) (hs : SlotsIn w a l)
    (hn' : rs.length ≤ cap') (hcap' : cap' ≤ 9223372036854775807) (hr : RulesIn w a' rs) (s : Slt) :
    Calls Try.prog 25 #[Pv a l.length cap a' rs.length cap', Sv s] w (PlanEPost w (adL l rs s) (adR l rs s) (adE l rs s)) := by
  have HS := Lib.hid hs
  have HR := Lib.hid hr
  clear hs hr
  have CK := Lib.hid (fun (W : World) (hW : Below w.heap.size w W) => refCheck_calls a cap l a' cap' rs W hn hcap (HS.out.next hW) hn' hcap' (HR.out.next hW))
  by_cases hE : checkE l rs = 0
  case neg =>
    have FE : Hid (adE l rs s = checkE l rs) := Lib.hid (by unfold adE; rw [if_pos hE])
    have FL : Hid (adL l rs s = []) := Lib.hid (ad_nil FE.out hE).1
    have FR : Hid (adR l rs s = []) := Lib.hid (ad_nil FE.out hE).2
    generalize adL l rs s = L at *
    generalize adR l rs s = RS at *
    generalize adE l rs s = E at *
    generalize checkE l rs = ce at *
    have hne : (ce != 0) = true := by simpa using hE
    go_enter Try.func25, Try.ntmps25
    go_wp2_with fail
    refine (CK.out _ (Bal (Bal (Bal (Below.refl _ _) _) _) _)).mono ?_
    rintro e w1 ⟨rfl, hb⟩
    have HX : Hid (w1.heap[w.heap.size]? = some (.cells #[.slice a l.length cap, .slice a' rs.length cap'] 25)) := Lib.hid (blk_next hb (blk3a w _ _ _))
    have HY : Hid (w1.heap[w.heap.size + 1]? = some (.cells #[.string s.name, .int .i64 s.st, .int .i64 s.fr, .int .i64 s.to] 47)) := Lib.hid (blk_next hb (blk3b w _ _ _))
    have HZ : Hid (w1.heap[w.heap.size + 1 + 1]? = some (.cells #[.slice none 0 0, .slice none 0 0] 25)) := Lib.hid (blk_next hb (blk3c w _ _ _))
    have HB : Hid (Below w.heap.size w w1) := Lib.hid (Bgo (Bal (Bal (Bal (Below.refl _ _) _) _) _) hb)
    clear hb CK
    have p0 : w1.cell? ⟨w.heap.size, 0, none⟩ = some (.slice a l.length cap) := blk_cell HX.out 0 _ rfl
    have p1 : w1.cell? ⟨w.heap.size, 1, none⟩ = some (.slice a' rs.length cap') := blk_cell HX.out 1 _ rfl
    have s0 : w1.cell? ⟨w.heap.size + 1, 0, none⟩ = some (.string s.name) := blk_cell HY.out 0 _ rfl
    have s1 : w1.cell? ⟨w.heap.size + 1, 1, none⟩ = some (.int .i64 s.st) := blk_cell HY.out 1 _ rfl
    have s2 : w1.cell? ⟨w.heap.size + 1, 2, none⟩ = some (.int .i64 s.fr) := blk_cell HY.out 2 _ rfl
    have s3 : w1.cell? ⟨w.heap.size + 1, 3, none⟩ = some (.int .i64 s.to) := blk_cell HY.out 3 _ rfl
    have r0 : w1.cell? ⟨w.heap.size + 1 + 1, 0, none⟩ = some (.slice none 0 0) := blk_cell HZ.out 0 _ rfl
    have r1 : w1.cell? ⟨w.heap.size + 1 + 1, 1, none⟩ = some (.slice none 0 0) := blk_cell HZ.out 1 _ rfl
    have q0 : w1.frozen? ⟨w.heap.size + 1 + 1, 0, none⟩ = false := blk_frozen HZ.out 0
    have q1 : w1.frozen? ⟨w.heap.size + 1 + 1, 1, none⟩ = false := blk_frozen HZ.out 1
    go_wp2_with fail
    have e1 : ((w1.setCell ⟨w.heap.size + 1 + 1, 0, none⟩ (.slice none 0 0)).setCell ⟨w.heap.size + 1 + 1, 1, none⟩ (.slice none 0 0)).cell? ⟨w.heap.size + 1 + 1, 0, none⟩ = some (.slice none 0 0) := blk_cell (blk_set (blk_set HZ.out 0 _) 1 _) 0 _ rfl
    have e2 : ((w1.setCell ⟨w.heap.size + 1 + 1, 0, none⟩ (.slice none 0 0)).setCell ⟨w.heap.size + 1 + 1, 1, none⟩ (.slice none 0 0)).cell? ⟨w.heap.size + 1 + 1, 1, none⟩ = some (.slice none 0 0) := blk_cell (blk_set (blk_set HZ.out 0 _) 1 _) 1 _ rfl
    refine bodyPost_ret (v := .tuple #[.agg #[.slice none 0 0, .slice none 0 0], .int .i64 ce]) (by simp [results, Try.results25, go_sem, e1, e2]) rfl ?_
    rw [FE.out]
    exact planE_nil FL.out FR.out (Bset1 (Bset1 HB.out (by omega) _ _) (by omega) _ _)
  case pos =>
    obtain ⟨i0, hi, hz0, hz1, hz2⟩ := info_parts infoSl
    have HI := Lib.hid (And.intro hi (And.intro hz0 (And.intro hz1 hz2)))
    clear hi hz0 hz1 hz2
    have h20 := (okp_of hE).ls
    have h20' := (okp_of hE).rl
    have FE : Hid (adE l rs s = checkE (l ++ [s]) rs) := Lib.hid (by unfold adE; rw [if_neg (by simpa using hE)])
    have FLe : Hid (adL l rs s = if checkE (l ++ [s]) rs = 0 then l ++ [s] else []) := Lib.hid (by unfold adL; rw [FE.out])
    have FRe : Hid (adR l rs s = if checkE (l ++ [s]) rs = 0 then rs else []) := Lib.hid (by unfold adR; rw [FE.out])
    have CP := Lib.hid (fun (W : World) (hW : Below w.heap.size w W) => twin_calls a cap l a' cap' rs W hn hcap (HS.out.next hW) hn' hcap' (HR.out.next hW) (by omega) (by omega))
    have C2 : Hid (∀ (A B : Option Addr) (c d : Nat) (W : World), l.length + 1 ≤ c → c ≤ 9223372036854775807 → SlotsIn W A (l ++ [s]) → rs.length ≤ d → d ≤ 9223372036854775807 → RulesIn W B rs → Calls Try.prog 18 #[Pv A (l.length + 1) c B rs.length d] W fun e w' => e = .returned (.int .i64 (checkE (l ++ [s]) rs)) ∧ Below W.heap.size W w') := Lib.hid (fun A B c d W g1 g2 g3 g4 g5 g6 => by
      have := refCheck_calls A c (l ++ [s]) B d rs W (by simpa using g1) g2 g3 g4 g5 g6
      simpa using this)
    generalize adL l rs s = L at *
    generalize adR l rs s = RS at *
    generalize adE l rs s = E at *
    generalize checkE l rs = ce at *
    generalize checkE (l ++ [s]) rs = cf at *
    subst hE
    go_enter Try.func25, Try.ntmps25
    go_wp2_with fail
    refine (CK.out _ (Bal (Bal (Bal (Below.refl _ _) _) _) _)).mono ?_
    rintro e w1 ⟨rfl, hb⟩
    have HX : Hid (w1.heap[w.heap.size]? = some (.cells #[.slice a l.length cap, .slice a' rs.length cap'] 25)) := Lib.hid (blk_next hb (blk3a w _ _ _))
    have HY : Hid (w1.heap[w.heap.size + 1]? = some (.cells #[.string s.name, .int .i64 s.st, .int .i64 s.fr, .int .i64 s.to] 47)) := Lib.hid (blk_next hb (blk3b w _ _ _))
    have HZ : Hid (w1.heap[w.heap.size + 1 + 1]? = some (.cells #[.slice none 0 0, .slice none 0 0] 25)) := Lib.hid (blk_next hb (blk3c w _ _ _))
    have HB : Hid (Below w.heap.size w w1) := Lib.hid (Bgo (Bal (Bal (Bal (Below.refl _ _) _) _) _) hb)
    clear hb CK
    have p0 : w1.cell? ⟨w.heap.size, 0, none⟩ = some (.slice a l.length cap) := blk_cell HX.out 0 _ rfl
    have p1 : w1.cell? ⟨w.heap.size, 1, none⟩ = some (.slice a' rs.length cap') := blk_cell HX.out 1 _ rfl
    have s0 : w1.cell? ⟨w.heap.size + 1, 0, none⟩ = some (.string s.name) := blk_cell HY.out 0 _ rfl
    have s1 : w1.cell? ⟨w.heap.size + 1, 1, none⟩ = some (.int .i64 s.st) := blk_cell HY.out 1 _ rfl
    have s2 : w1.cell? ⟨w.heap.size + 1, 2, none⟩ = some (.int .i64 s.fr) := blk_cell HY.out 2 _ rfl
    have s3 : w1.cell? ⟨w.heap.size + 1, 3, none⟩ = some (.int .i64 s.to) := blk_cell HY.out 3 _ rfl
    have r0 : w1.cell? ⟨w.heap.size + 1 + 1, 0, none⟩ = some (.slice none 0 0) := blk_cell HZ.out 0 _ rfl
    have r1 : w1.cell? ⟨w.heap.size + 1 + 1, 1, none⟩ = some (.slice none 0 0) := blk_cell HZ.out 1 _ rfl
    have q0 : w1.frozen? ⟨w.heap.size + 1 + 1, 0, none⟩ = false := blk_frozen HZ.out 0
    have q1 : w1.frozen? ⟨w.heap.size + 1 + 1, 1, none⟩ = false := blk_frozen HZ.out 1
    go_wp2_with fail
    refine (CP.out _ HB.out).mono ?_
    rintro e w2 ⟨v1, v2, rfl, o1, o2, hb2⟩
    obtain ⟨A1, k1, rfl, _, _, _⟩ := Rd.of_own o1
    obtain ⟨A2, k2, rfl, y1, y2, rd2⟩ := Rd.of_own o2
    have hz9 := blk_lt HZ.out
    have HXn := Lib.hid (blk_next hb2 HX.out)
    have HYn := Lib.hid (blk_next hb2 HY.out)
    have HZn := Lib.hid (blk_next hb2 HZ.out)
    have HBn : Hid (Below w.heap.size w w2) := Lib.hid (Bgo HB.out hb2)
    have hb2s := hb2.size
    have O1 := Lib.hid o1
    have O2 := Lib.hid o2
    clear p0 p1 s0 s1 s2 s3 r0 r1 q0 q1 o1 o2 hb2 HX HY HZ HB rd2
    have HX := HXn
    have HY := HYn
    have HZ := HZn
    have HB := HBn
    clear HXn HYn HZn HBn
    have p0 : w2.cell? ⟨w.heap.size, 0, none⟩ = some (.slice a l.length cap) := blk_cell HX.out 0 _ rfl
    have p1 : w2.cell? ⟨w.heap.size, 1, none⟩ = some (.slice a' rs.length cap') := blk_cell HX.out 1 _ rfl
    have s0 : w2.cell? ⟨w.heap.size + 1, 0, none⟩ = some (.string s.name) := blk_cell HY.out 0 _ rfl
    have s1 : w2.cell? ⟨w.heap.size + 1, 1, none⟩ = some (.int .i64 s.st) := blk_cell HY.out 1 _ rfl
    have s2 : w2.cell? ⟨w.heap.size + 1, 2, none⟩ = some (.int .i64 s.fr) := blk_cell HY.out 2 _ rfl
    have s3 : w2.cell? ⟨w.heap.size + 1, 3, none⟩ = some (.int .i64 s.to) := blk_cell HY.out 3 _ rfl
    have d7 : w.heap.size + 1 < w2.heap.size := by omega
    have d8 : w.heap.size + 1 + 1 < w2.heap.size := by omega
    have G1 : Hid (l.length + 1 ≤ maxLen) := Lib.hid (by unfold maxLen; omega)
    have G2 : Hid ((l.length + 1) * 40 ≤ 140737488355328) := Lib.hid (by omega)
    have G3 : Hid (∀ X Y, w1.heap.size ≤ ((w2.alloc X).alloc Y).heap.size) := Lib.hid (fun X Y => by simp; omega)
    have NW : Hid (∀ X, ∀ (j : Nat) (u : Value), (sl4 s)[j]? = some u → ((w2.alloc X).alloc (.cells #[.string s.name, .int .i64 s.st, .int .i64 s.fr, .int .i64 s.to] 47)).cell? ((⟨w2.heap.size + 1, 0, none⟩ : Addr).add j) = some u) := Lib.hid (fun X => by
      have := new4 (w2.alloc X) s 47
      simpa using this)
    have ZN : Hid (w2.heap.size + 1 = (w2.alloc (.cells #[.slice A1 l.length k1, .slice A2 rs.length k2] 25)).heap.size) := Lib.hid (by simp)
    go_wp2_with (at_builtin; refine wpList_append_own _ rfl _ _ 22 rfl w1.heap.size 47 i0 zS 4 40 Try.underlying22 HI.out.1 HI.out.2.1 HI.out.2.2.1 HI.out.2.2.2 rfl (by decide) _ _ _ rfl ((O1.out.alloc _).alloc _) ⟨w2.heap.size + 1, 0, none⟩ 1 1 (sl4 s) rfl rfl (NW.out _) (sl4_one s) G1.out G2.out (G3.out _ _) ?_; intro v3 w3 hown3 hgrow3 hnil3; obtain ⟨A3, k3, rfl, y3, y4, rd3⟩ := Rd.of_own hown3; have O3 := Lib.hid hown3; have M1 : Hid (w3.heap[w2.heap.size]? = some (.cells #[.slice A1 l.length k1, .slice A2 rs.length k2] 25)) := Lib.hid (gblk hgrow3 (blk_alloc (blk_new w2 _) _) (own_lt_ne O1.out (Nat.le_refl _))); have M2 : Hid (w3.heap[w.heap.size + 1 + 1]? = some (.cells #[.slice none 0 0, .slice none 0 0] 25)) := Lib.hid (gblk hgrow3 (blk_alloc (blk_alloc HZ.out _) _) (own_lt_base O1.out (by omega))); have M3 : Hid (Below w.heap.size w w3) := Lib.hid (own_below2 ((O1.out.alloc _).alloc _) (Bal (Bal HB.out _) _) (by omega) hgrow3); have O4 : Hid (w3.ownsRow w1.heap.size 61 6 (.slice A2 rs.length k2) rs.length (rlc rs)) := Lib.hid (((O2.out.alloc _).alloc _).kept hgrow3 (own_own O1.out O2.out (by decide))); have c0 : w3.cell? ⟨w2.heap.size, 0, none⟩ = some (.slice A1 l.length k1) := blk_cell M1.out 0 _ rfl; have c1 : w3.cell? ⟨w2.heap.size, 1, none⟩ = some (.slice A2 rs.length k2) := blk_cell M1.out 1 _ rfl; have cq : w3.frozen? ⟨w2.heap.size, 0, none⟩ = false := blk_frozen M1.out 0; clear hown3 hgrow3 hnil3 rd3)
    have CB4 : Hid ((w3.setCell ⟨w2.heap.size, 0, none⟩ (.slice A3 (l.length + 1) k3)).heap[w2.heap.size]? = some (.cells #[.slice A3 (l.length + 1) k3, .slice A2 rs.length k2] 25)) := Lib.hid (blk_set M1.out 0 _)
    have Z4 : Hid ((w3.setCell ⟨w2.heap.size, 0, none⟩ (.slice A3 (l.length + 1) k3)).heap[w.heap.size + 1 + 1]? = some (.cells #[.slice none 0 0, .slice none 0 0] 25)) := Lib.hid (blk_set_other M2.out (by omega) 0 _)
    have N4 : Hid (Below w.heap.size w (w3.setCell ⟨w2.heap.size, 0, none⟩ (.slice A3 (l.length + 1) k3))) := Lib.hid (Bset1 M3.out (by omega) _ _)
    have P1 : Hid ((w3.setCell ⟨w2.heap.size, 0, none⟩ (.slice A3 (l.length + 1) k3)).ownsRow w1.heap.size 47 4 (.slice A3 (l.length + 1) k3) (l.length + 1) (slc (l ++ [s]))) := Lib.hid (by
      have := own_set_ne O3.out (own_ne O3.out M1.out (by decide)) 0 (.slice A3 (l.length + 1) k3)
      rw [slc_append]
      simpa [slc] using this)
    have P2 : Hid ((w3.setCell ⟨w2.heap.size, 0, none⟩ (.slice A3 (l.length + 1) k3)).ownsRow w1.heap.size 61 6 (.slice A2 rs.length k2) rs.length (rlc rs)) := Lib.hid (own_set_ne O4.out (own_ne O4.out M1.out (by decide)) 0 _)
    clear M1 M2 M3 O1 O2 O3 O4 c0 c1 cq p0 p1 s0 s1 s2 s3 d7 d8 G1 G2 G3 NW ZN HX HY HZ HB
    generalize (w3.setCell ⟨w2.heap.size, 0, none⟩ (.slice A3 (l.length + 1) k3)) = W4 at *
    have T1 := Lib.hid (own_rd P1.out)
    have T2 := Lib.hid (own_rd P2.out)
    refine (C2.out A3 A2 k3 k2 _ y3 y4 (Rd.slots (by simpa using T1.out)) y1 y2 (Rd.rules T2.out)).mono ?_
    rintro e w5 ⟨rfl, hb5⟩
    have HZ := Lib.hid (blk_next hb5 Z4.out)
    have HC := Lib.hid (blk_next hb5 CB4.out)
    have HB : Hid (Below w.heap.size w w5) := Lib.hid (Bgo N4.out hb5)
    have Q1 := Lib.hid (own_next hb5 P1.out)
    have Q2 := Lib.hid (own_next hb5 P2.out)
    have c0 : w5.cell? ⟨w2.heap.size, 0, none⟩ = some (.slice A3 (l.length + 1) k3) := blk_cell HC.out 0 _ rfl
    have c1 : w5.cell? ⟨w2.heap.size, 1, none⟩ = some (.slice A2 rs.length k2) := blk_cell HC.out 1 _ rfl
    clear hb5
    have r0 : w5.cell? ⟨w.heap.size + 1 + 1, 0, none⟩ = some (.slice none 0 0) := blk_cell HZ.out 0 _ rfl
    have r1 : w5.cell? ⟨w.heap.size + 1 + 1, 1, none⟩ = some (.slice none 0 0) := blk_cell HZ.out 1 _ rfl
    have q0 : w5.frozen? ⟨w.heap.size + 1 + 1, 0, none⟩ = false := blk_frozen HZ.out 0
    have q1 : w5.frozen? ⟨w.heap.size + 1 + 1, 1, none⟩ = false := blk_frozen HZ.out 1
    by_cases hF : cf = 0
    case neg =>
      have FL : Hid (L = []) := Lib.hid (by rw [FLe.out, if_neg hF])
      have FR : Hid (RS = []) := Lib.hid (by rw [FRe.out, if_neg hF])
      have hne : (cf != 0) = true := by simpa using hF
      go_wp2_with fail
      have e1 : ((w5.setCell ⟨w.heap.size + 1 + 1, 0, none⟩ (.slice none 0 0)).setCell ⟨w.heap.size + 1 + 1, 1, none⟩ (.slice none 0 0)).cell? ⟨w.heap.size + 1 + 1, 0, none⟩ = some (.slice none 0 0) := blk_cell (blk_set (blk_set HZ.out 0 _) 1 _) 0 _ rfl
      have e2 : ((w5.setCell ⟨w.heap.size + 1 + 1, 0, none⟩ (.slice none 0 0)).setCell ⟨w.heap.size + 1 + 1, 1, none⟩ (.slice none 0 0)).cell? ⟨w.heap.size + 1 + 1, 1, none⟩ = some (.slice none 0 0) := blk_cell (blk_set (blk_set HZ.out 0 _) 1 _) 1 _ rfl
      refine bodyPost_ret (v := .tuple #[.agg #[.slice none 0 0, .slice none 0 0], .int .i64 cf]) (by simp [results, Try.results25, go_sem, e1, e2]) rfl ?_
      rw [FE.out]
      exact planE_nil FL.out FR.out (Bset1 (Bset1 HB.out (by omega) _ _) (by omega) _ _)
    case pos =>
      have FL : Hid (L = l ++ [s]) := Lib.hid (by rw [FLe.out, if_pos hF])
      have FR : Hid (RS = rs) := Lib.hid (by rw [FRe.out, if_pos hF])
      clear FLe FRe C2
      subst hF
      go_wp2_with fail
      have e1 : ((w5.setCell ⟨w.heap.size + 1 + 1, 0, none⟩ (.slice A3 (l.length + 1) k3)).setCell ⟨w.heap.size + 1 + 1, 1, none⟩ (.slice A2 rs.length k2)).cell? ⟨w.heap.size + 1 + 1, 0, none⟩ = some (.slice A3 (l.length + 1) k3) := blk_cell (blk_set (blk_set HZ.out 0 _) 1 _) 0 _ rfl
      have e2 : ((w5.setCell ⟨w.heap.size + 1 + 1, 0, none⟩ (.slice A3 (l.length + 1) k3)).setCell ⟨w.heap.size + 1 + 1, 1, none⟩ (.slice A2 rs.length k2)).cell? ⟨w.heap.size + 1 + 1, 1, none⟩ = some (.slice A2 rs.length k2) := blk_cell (blk_set (blk_set HZ.out 0 _) 1 _) 1 _ rfl
      refine bodyPost_ret (v := .tuple #[.agg #[.slice A3 (l.length + 1) k3, .slice A2 rs.length k2], .int .i64 0]) (by simp [results, Try.results25, go_sem, e1, e2]) rfl ?_
      rw [FE.out, FL.out, FR.out]
      refine ⟨_, _, rfl, ?_, ?_, ?_⟩
      · rw [List.length_append]
        refine World.ownsRow.mono (ownsRow_setCell_below (ownsRow_setCell_below Q1.out ?_ _) ?_ _) (by omega) <;> exact hz9
      · refine World.ownsRow.mono (ownsRow_setCell_below (ownsRow_setCell_below Q2.out ?_ _) ?_ _) (by omega) <;> exact hz9
      · exact Bset1 (Bset1 HB.out (by omega) _ _) (by omega) _ _
end Go.Proofs.Ythmfjlphmamegaa
