/- Contracts of layer 45: Lose. -/
import Derived.Test.YtmpmeeacdllomaaPag
namespace Go.Proofs.Ytmpmeeacdllomaa
open Go.ChangeShapes Go.WideShapes Go.ChangeAt Go.RowKit Gf
set_option linter.unusedVariables false
attribute [local go_sem ↓] Go.wp_at_zero Go.wp_at_succ

/- a slice of ints that reads as a list -/
def ivI (l : List Int) : List Value := l.map fun (x : Int) => Value.int .i64 x
theorem ivI_get {l : List Int} {k : Nat} {x : Int} (h : l[k]? = some x) : (ivI l)[k]? = some (.int .i64 x) := by simp [ivI, h]
def RI (B : Nat) (w : World) (A : Option Addr) (l : List Int) : Prop := Hd B w A (ivI l)
theorem RI.next {B : Nat} {w w' : World} {A : Option Addr} {l : List Int} (hb : Below w.heap.size w w') (h : RI B w A l) : RI B w' A l := Hd.next hb h
theorem RI.at_ {B : Nat} {w : World} {A : Option Addr} {l : List Int} (h : RI B w A l) {k : Nat} {x : Int} (hk : l[k]? = some x) :
    ∃ b off, A = some ⟨b, off, none⟩ ∧ b < w.heap.size ∧ w.cell? ⟨b, off + k, none⟩ = some (.int .i64 x) := by
  obtain ⟨b, off, e, _, h2, h3⟩ := h k _ (ivI_get hk)
  exact ⟨b, off, e, h2, h3⟩
/- is a disk among those that are lost? -/
def goneB (ds : List Int) (k : Nat) : Bool := ds.any fun d => d == (k : Int)
def inB (n : Nat) (ds : List Int) : Bool := ds.all fun d => decide (0 ≤ d) && decide (d < (n : Int))
def loseE (D M : Int) (m : List (List Nat)) (ds : List Int) : Int :=
  if chkE D M m ≠ 0 then chkE D M m else if inB m.length ds = false then 2 else if ds.Nodup then (if szL (keepL m (goneB ds)) = 0 then 32 else 0) else 14
def loseS (D M : Int) (m : List (List Nat)) (ds : List Int) : St := if loseE D M m ds = 0 then (D, M, keepL m (goneB ds)) else (0, 0, [])
theorem loseS_err {D M : Int} {m : List (List Nat)} {ds : List Int} {er : Int} (h : loseE D M m ds = er) (h0 : er ≠ 0) : loseS D M m ds = (0, 0, []) := by unfold loseS; rw [h, if_neg h0]
theorem goneB_snoc {ds : List Int} {k x : Nat} {d : Int} (h : ds[k]? = some d) : goneB (ds.take (k + 1)) x = (goneB (ds.take k) x || (d == (x : Int))) := by
  unfold goneB
  rw [take_snoc' h, List.any_append]; simp
theorem nodup_snoc {ds : List Int} {k : Nat} {d : Int} (h : ds[k]? = some d) (hn : (ds.take k).Nodup) (hd : d ∉ ds.take k) : (ds.take (k + 1)).Nodup := by
  rw [take_snoc' h, List.nodup_append]
  exact ⟨hn, by simp, fun a ha b hb e => hd (by simp at hb; rw [← hb, ← e]; exact ha)⟩
theorem dup_not {ds : List Int} {k : Nat} {d : Int} (h : ds[k]? = some d) (hd : d ∈ ds.take k) : ¬ ds.Nodup := fun hn => by
  have hs : (ds.take (k + 1)).Nodup := hn.sublist (List.take_sublist _ _)
  rw [take_snoc' h, List.nodup_append] at hs
  exact hs.2.2 d hd d (by simp) rfl
theorem goneB_mem {ds : List Int} {x : Nat} : goneB ds x = true ↔ (x : Int) ∈ ds := by
  unfold goneB
  simp only [List.any_eq_true, beq_iff_eq]
  exact ⟨fun ⟨d, hd, e⟩ => e ▸ hd, fun h => ⟨_, h, rfl⟩⟩
theorem inB_false {n : Nat} {ds : List Int} {k : Nat} {d : Int} (h : ds[k]? = some d) (hd : d < 0 ∨ (n : Int) ≤ d) : inB n ds = false := by
  unfold inB
  rw [List.all_eq_false]
  exact ⟨d, List.mem_of_getElem? h, by simp; omega⟩
theorem inB_true {n : Nat} {ds : List Int} (h : ∀ (j : Nat) (d : Int), ds[j]? = some d → 0 ≤ d ∧ d < (n : Int)) : inB n ds = true := by
  unfold inB
  rw [List.all_eq_true]
  intro d hd
  obtain ⟨j, hj, rfl⟩ := List.mem_iff_getElem.1 hd
  have := h j _ (List.getElem?_eq_getElem hj)
  simp; omega
theorem inB_out {n : Nat} {ds : List Int} (h : inB n ds = true) {k : Nat} {d : Int} (hk : ds[k]? = some d) : 0 ≤ d ∧ d < (n : Int) := by
  unfold inB at h
  rw [List.all_eq_true] at h
  have := h d (List.mem_of_getElem? hk)
  simpa using this
theorem lose1_calls (x gb : Nat) (b : Bool) (w : World) (hx : x < 12) (h : w.cell? ⟨gb, x, none⟩ = some (.bool b)) :
    Calls Try.prog 49 #[.int .i64 (x : Int), .pointer (some ⟨gb, 0, none⟩)] w fun e w' => e = .returned (.bool b) ∧ w = w' := by
  go_enter Try.func49, Try.ntmps49
  go_wp2_with fail
  go_ret
  exact ⟨rfl, rfl⟩
theorem call_lose1 (args : Array Value) (W : World) : Sem.run Try.prog (callFunc 49 args) W = .ok (.enter 49 args) W := by kernel_rfl
theorem lost_all {m : List (List Nat)} : lostN m = m.length ↔ szL m = 0 := by
  induction m with
  | nil => simp [lostN, szL]
  | cons x m ih =>
    have := lostN_le m
    by_cases h : x.length = 0
    · simp only [lostN, szL, if_pos h, List.length_cons]
      rw [← ih]; omega
    · simp only [lostN, szL, if_neg h, List.length_cons]
      constructor
      · omega
      · intro h'; exact absurd h' h
set_option maxHeartbeats 2000000 in
theorem lose_calls (D M : Int) (A : Option Addr) (c B : Nat) (m : List (List Nat)) (Ad : Option Addr) (cd Bd : Nat) (ds : List Int) (w : World) (hn : m.length ≤ c) (hc : c ≤ 9223372036854775807) (hs : RMA B w A m) (hdn : ds.length ≤ cd) (hdc : cd ≤ 9223372036854775807) (hd : RI Bd w Ad ds) :
    Calls Try.prog 26 #[Sv D M (.slice A m.length c), .slice Ad ds.length cd] w (SEPost w (loseS D M m ds) (loseE D M m ds)) := by
  have HS := Lib.hid hs
  have HD := Lib.hid hd
  clear hs hd
  have CC := Lib.hid (fun W (h : RMA B W A m) => check_calls D M A c B m W hn hc h)
  by_cases ck : chkE D M m = 0
  · have OKS := (chkE_ok ck).1
    have hmn : m.length ≤ 12 := by have := OKS.len; have := OKS.d8; have := OKS.m4; omega
    have F0 : Hid (loseE D M m ds = if inB m.length ds = false then 2 else if ds.Nodup then (if szL (keepL m (goneB ds)) = 0 then 32 else 0) else 14) := Lib.hid (by unfold loseE; rw [if_neg (by rw [ck]; decide)])
    rw [ck] at CC
    have OK := Lib.hid OKS
    clear ck OKS
    go_enter Try.func26, Try.ntmps26
    go_wp2_with fail
    refine (CC.out _ (HS.out.next (Bal (Bal (Below.refl _ _) _) _))).mono ?_
    rintro e w1 ⟨rfl, hb1⟩
    have N1 : Hid (Below w.heap.size w w1) := Lib.hid (Bgo (Bal (Bal (Below.refl _ _) _) _) hb1)
    have SB : Hid (w1.heap[w.heap.size]? = some (.cells #[.int .i64 D, .int .i64 M, .slice A m.length c] 31)) := Lib.hid (blk_next hb1 (blk_alloc (blk_new w _) _))
    have X1 : Hid (w1.heap[w.heap.size + 1]? = some (.cells #[.int .i64 0, .int .i64 0, .slice none 0 0] 31)) := Lib.hid (blk_next hb1 (blk_at _ (by simp)))
    clear hb1
    go_wp2_with fail
    go_loop [21] (fun i => ∃ k : Nat, k ≤ ds.length ∧ i = .int .i64 k ∧ Hid (∀ (j : Nat) (d : Int), j < k → ds[j]? = some d → 0 ≤ d ∧ d < (m.length : Int))) (fun i => ds.length - (intOf i).toNat)
    case atStart => exact ⟨0, by omega, rfl, Lib.hid (fun j l' h => by omega)⟩
    case round =>
      obtain ⟨k, hk, rfl, HN⟩ := hrel
      have s2 : w1.cell? ⟨w.heap.size, 2, none⟩ = some (.slice A m.length c) := blk_cell SB.out 2 _ rfl
      by_cases hlt : k < ds.length
      · obtain ⟨d, hdk⟩ := get_some hlt
        obtain ⟨bd, od, rfl, hbd, hcd⟩ := (HD.out.next N1.out).at_ hdk
        have HDK := Lib.hid hdk
        clear hdk
        have cs : d < 0 ∨ (0 ≤ d ∧ (m.length : Int) ≤ d) ∨ (0 ≤ d ∧ d < (m.length : Int)) := by omega
        have x0 : w1.cell? ⟨w.heap.size + 1, 0, none⟩ = some (.int .i64 0) := blk_cell X1.out 0 _ rfl
        have x1 : w1.cell? ⟨w.heap.size + 1, 1, none⟩ = some (.int .i64 0) := blk_cell X1.out 1 _ rfl
        have x2 : w1.cell? ⟨w.heap.size + 1, 2, none⟩ = some (.slice none 0 0) := blk_cell X1.out 2 _ rfl
        have f0 : w1.frozen? ⟨w.heap.size + 1, 0, none⟩ = false := blk_frozen X1.out 0
        have f1 : w1.frozen? ⟨w.heap.size + 1, 1, none⟩ = false := blk_frozen X1.out 1
        have f2 : w1.frozen? ⟨w.heap.size + 1, 2, none⟩ = false := blk_frozen X1.out 2
        rcases cs with a | ⟨a, a2⟩ | ⟨a, a2⟩
        · have FE : Hid (loseE D M m ds = 2) := Lib.hid (by rw [F0.out, if_pos (inB_false HDK.out (.inl a))])
          go_wp2_with fail
          have Z := blk_set3 X1.out (.int .i64 0) (.int .i64 0) (.slice none 0 0)
          have e0 := blk_cell Z 0 _ rfl
          have e1 := blk_cell Z 1 _ rfl
          have e2 := blk_cell Z 2 _ rfl
          rw [loseS_err FE.out (by decide), FE.out]
          refine bodyPost_ret (v := .tuple #[Sv 0 0 (.slice none 0 0), .int .i64 2]) (by simp [results, Try.results26, go_sem, e0, e1, e2]) rfl (SEPost.none_ ?_)
          exact Bset3 N1.out (by omega) _ _ _
        · have FE : Hid (loseE D M m ds = 2) := Lib.hid (by rw [F0.out, if_pos (inB_false HDK.out (.inr a2))])
          go_wp2_with fail
          have Z := blk_set3 X1.out (.int .i64 0) (.int .i64 0) (.slice none 0 0)
          have e0 := blk_cell Z 0 _ rfl
          have e1 := blk_cell Z 1 _ rfl
          have e2 := blk_cell Z 2 _ rfl
          rw [loseS_err FE.out (by decide), FE.out]
          refine bodyPost_ret (v := .tuple #[Sv 0 0 (.slice none 0 0), .int .i64 2]) (by simp [results, Try.results26, go_sem, e0, e1, e2]) rfl (SEPost.none_ ?_)
          exact Bset3 N1.out (by omega) _ _ _
        · go_wp2_with fail
          refine ⟨⟨k + 1, by omega, by go_num, Lib.hid ?_⟩, by simp [intOf]; omega⟩
          intro j d' hj hd'
          by_cases e : j = k
          · subst e; rw [HDK.out] at hd'; cases hd'; exact ⟨a, a2⟩
          · exact HN.out j d' (by omega) hd'
      · obtain rfl : k = ds.length := by omega
        have IN : Hid (inB m.length ds = true) := Lib.hid (inB_true (fun j d h => HN.out j d (get_lt h) h))
        have F1 : Hid (loseE D M m ds = if ds.Nodup then (if szL (keepL m (goneB ds)) = 0 then 32 else 0) else 14) := Lib.hid (by rw [F0.out, IN.out, if_neg (by decide)])
        clear HN F0 hlt hk s2
        go_wp2_with fail
        have G0 : Hid (∃ cs : Array Value, (w1.alloc (.cells #[.bool false, .bool false, .bool false, .bool false, .bool false, .bool false, .bool false, .bool false, .bool false, .bool false, .bool false, .bool false] 71)).heap[w1.heap.size]? = some (.cells cs 71) ∧ cs.size = 12 ∧ ∀ x, x < 12 → cs[x]? = some (.bool (goneB (ds.take 0) x))) := Lib.hid ⟨_, blk_new w1 _, rfl, fun x hx => by
          rw [List.take_zero]
          have : ∀ x < 12, (#[Value.bool false, .bool false, .bool false, .bool false, .bool false, .bool false, .bool false, .bool false, .bool false, .bool false, .bool false, .bool false])[x]? = some (.bool false) := by
            intro x hx
            match x, hx with
            | 0, _ | 1, _ | 2, _ | 3, _ | 4, _ | 5, _ | 6, _ | 7, _ | 8, _ | 9, _ | 10, _ | 11, _ => rfl
          exact this x hx⟩
        go_loopw [38] (fun i wr => ∃ k : Nat, k ≤ ds.length ∧ i = .int .i64 k ∧ Hid (Below w1.heap.size w1 wr) ∧ Hid ((ds.take k).Nodup) ∧ Hid (∃ cs : Array Value, wr.heap[w1.heap.size]? = some (.cells cs 71) ∧ cs.size = 12 ∧ ∀ x, x < 12 → cs[x]? = some (.bool (goneB (ds.take k) x)))) (fun i _ => ds.length - (intOf i).toNat)
        case atStart => exact ⟨0, by omega, rfl, Lib.hid (Bal (Below.refl _ _) _), Lib.hid (by simp), G0⟩
        case round =>
          clear G0
          obtain ⟨k, hk, rfl, N2, ND, G⟩ := hrel
          have SS := Lib.hid (blk_next N2.out SB.out)
          have XX := Lib.hid (blk_next N2.out X1.out)
          have x0 : wr.cell? ⟨w.heap.size + 1, 0, none⟩ = some (.int .i64 0) := blk_cell XX.out 0 _ rfl
          have x1 : wr.cell? ⟨w.heap.size + 1, 1, none⟩ = some (.int .i64 0) := blk_cell XX.out 1 _ rfl
          have x2 : wr.cell? ⟨w.heap.size + 1, 2, none⟩ = some (.slice none 0 0) := blk_cell XX.out 2 _ rfl
          have f0 : wr.frozen? ⟨w.heap.size + 1, 0, none⟩ = false := blk_frozen XX.out 0
          have f1 : wr.frozen? ⟨w.heap.size + 1, 1, none⟩ = false := blk_frozen XX.out 1
          have f2 : wr.frozen? ⟨w.heap.size + 1, 2, none⟩ = false := blk_frozen XX.out 2
          have hz1 : w.heap.size + 1 < w1.heap.size := blk_lt X1.out
          by_cases hlt : k < ds.length
          · obtain ⟨d, hdk⟩ := get_some hlt
            obtain ⟨bd, od, rfl, hbd, hcd⟩ := (HD.out.next (Bgo N1.out N2.out)).at_ hdk
            obtain ⟨dp, dl⟩ := inB_out IN.out hdk
            obtain ⟨x, rfl⟩ := Int.eq_ofNat_of_zero_le dp
            have hx : x < 12 := by omega
            have HDK := Lib.hid hdk
            obtain ⟨cs, gb, gs, gc⟩ := G.out
            have c0 : wr.cell? ⟨w1.heap.size, x, none⟩ = some (.bool (goneB (ds.take k) x)) := blk_cell gb x _ (gc x hx)
            have fz : wr.frozen? ⟨w1.heap.size, x, none⟩ = false := blk_frozen gb x
            have GB := Lib.hid gb
            have GC := Lib.hid gc
            clear hdk gb gc G
            cases hg : goneB (ds.take k) x
            · rw [hg] at c0
              have HG := Lib.hid hg
              clear hg
              go_wp2_with fail
              refine ⟨⟨k + 1, by omega, by go_num, Lib.hid ?_, Lib.hid ?_, Lib.hid ⟨_, blk_set GB.out x (.bool true), by simpa using gs, ?_⟩⟩, by simp [intOf]; omega⟩
              · exact N2.out.setCell (Nat.le_refl _) _
              · refine nodup_snoc HDK.out ND.out (fun hm => ?_)
                rw [goneB_mem.2 hm] at HG
                exact absurd HG.out (by decide)
              · intro y hy
                rw [goneB_snoc HDK.out, Array.getElem?_setIfInBounds]
                by_cases e : x = y
                · subst e; rw [if_pos rfl, if_pos (by omega)]; simp
                · rw [if_neg e, GC.out y hy]
                  have : (((x : Nat) : Int) == (y : Int)) = false := by rw [beq_eq_false_iff_ne]; omega
                  rw [this, Bool.or_false]
            · rw [hg] at c0
              have FE : Hid (loseE D M m ds = 14) := Lib.hid (by rw [F1.out, if_neg (dup_not HDK.out (goneB_mem.1 hg))])
              clear hg
              go_wp2_with fail
              have Z := blk_set3 XX.out (.int .i64 0) (.int .i64 0) (.slice none 0 0)
              have e0 := blk_cell Z 0 _ rfl
              have e1 := blk_cell Z 1 _ rfl
              have e2 := blk_cell Z 2 _ rfl
              rw [loseS_err FE.out (by decide), FE.out]
              refine bodyPost_ret (v := .tuple #[Sv 0 0 (.slice none 0 0), .int .i64 14]) (by simp [results, Try.results26, go_sem, e0, e1, e2]) rfl (SEPost.none_ ?_)
              exact Bset3 (Bgo N1.out N2.out) (by omega) _ _ _
          · obtain rfl : k = ds.length := by omega
            have ND2 : Hid ds.Nodup := Lib.hid (by have := ND.out; rwa [List.take_of_length_le (Nat.le_refl _)] at this)
            have F2 : Hid (loseE D M m ds = if szL (keepL m (goneB ds)) = 0 then 32 else 0) := Lib.hid (by rw [F1.out, if_pos ND2.out])
            obtain ⟨cs, gb, gs, gc⟩ := G.out
            rw [List.take_of_length_le (Nat.le_refl _)] at gc
            have s0 : wr.cell? ⟨w.heap.size, 0, none⟩ = some (.int .i64 D) := blk_cell SS.out 0 _ rfl
            have s1 : wr.cell? ⟨w.heap.size, 1, none⟩ = some (.int .i64 M) := blk_cell SS.out 1 _ rfl
            have s2 : wr.cell? ⟨w.heap.size, 2, none⟩ = some (.slice A m.length c) := blk_cell SS.out 2 _ rfl
            have NN := Lib.hid (Bgo N1.out N2.out)
            have LE : Hid (∀ l ∈ m, l.length ≤ 100) := Lib.hid (fun l hl => by have h := OK.out.each l hl; have := OK.out.s64; omega)
            have WC := Lib.hid (without_calls D M A c B 49 (.pointer (some ⟨w1.heap.size, 0, none⟩)) (goneB ds) m wr hn hc (by omega) (HS.out.next NN.out) LE.out call_lose1 (fun W hW k hk => lose1_calls k w1.heap.size _ W (by omega) (blk_cell (blk_next hW gb) k _ (gc k (by omega)))))
            clear G gb gc F1 ND hlt hk
            go_wp2_with fail
            refine WC.out.mono ?_
            rintro e w2 ⟨v, rfl, ⟨us, ho⟩, hb2⟩
            obtain ⟨Av, cv, rfl, hv1, hv2, _⟩ := own_form ho.top
            have KL : Hid ((keepL m (goneB ds)).length = m.length) := Lib.hid (keepL_len _ _)
            have X2 := Lib.hid (blk_next hb2 XX.out)
            have N3 := Lib.hid (Bgo NN.out hb2)
            have O2 := Lib.hid (ho.mono (B' := w.heap.size) NN.out.size)
            rw [KL.out] at hv1 O2
            have LC := Lib.hid (fun W (hW : Below w2.heap.size w2 W) => lost_calls D M Av cv w.heap.size (keepL m (goneB ds)) W (by rw [KL.out]; exact hv1) hv2 ((O2.out.next hW).rma))
            rw [KL.out] at LC
            simp only [KL.out]
            clear ho hb2 x0 x1 x2 f0 f1 f2 s0 s1 s2
            go_wp2_with fail
            have C0 : Hid ((w2.alloc (.cells #[.int .i64 D, .int .i64 M, .slice Av m.length cv] 31)).heap[w2.heap.size]? = some (.cells #[.int .i64 D, .int .i64 M, .slice Av m.length cv] 31)) := Lib.hid (blk_new w2 _)
            have B4 : Hid (Below w2.heap.size w2 (w2.alloc (.cells #[.int .i64 D, .int .i64 M, .slice Av m.length cv] 31))) := Lib.hid (Bal (Below.refl _ _) _)
            generalize w2.alloc (.cells #[.int .i64 D, .int .i64 M, .slice Av m.length cv] 31) = W2 at *
            have X4 := Lib.hid (blk_next B4.out X2.out)
            have N4 := Lib.hid (Bgo N3.out B4.out)
            have O4 := Lib.hid (O2.out.next B4.out)
            have LC4 := Lib.hid (fun W (hW : Below W2.heap.size W2 W) => LC.out W (Bgo B4.out hW))
            have LA : Hid (lostN (keepL m (goneB ds)) = m.length ↔ szL (keepL m (goneB ds)) = 0) := Lib.hid (by have := lost_all (m := keepL m (goneB ds)); rw [KL.out] at this; exact this)
            obtain ⟨z, hz⟩ : ∃ z, lostN (keepL m (goneB ds)) = z := ⟨_, rfl⟩
            rw [hz] at LC4 LA
            clear hz LC
            have c0 : W2.cell? ⟨w2.heap.size, 0, none⟩ = some (.int .i64 D) := blk_cell C0.out 0 _ rfl
            have c1 : W2.cell? ⟨w2.heap.size, 1, none⟩ = some (.int .i64 M) := blk_cell C0.out 1 _ rfl
            have c2 : W2.cell? ⟨w2.heap.size, 2, none⟩ = some (.slice Av m.length cv) := blk_cell C0.out 2 _ rfl
            go_region_held3 (fun W => W.cell? ⟨w2.heap.size, 0, none⟩ = some (.int .i64 D) ∧ W.cell? ⟨w2.heap.size, 1, none⟩ = some (.int .i64 M) ∧ W.cell? ⟨w2.heap.size, 2, none⟩ = some (.slice Av m.length cv)) (first | (exact ⟨blk_cell C5.out 0 _ rfl, blk_cell C5.out 1 _ rfl, blk_cell C5.out 2 _ rfl⟩) | (exact ⟨blk_cell C0.out 0 _ rfl, blk_cell C0.out 1 _ rfl, blk_cell C0.out 2 _ rfl⟩))
              ((go_at_call 43; refine (LC4.out _ ?_).mono ?_; (first | exact Below.refl _ _ | exact (Below.refl _ _).drew); rintro e w5 ⟨rfl, hb5⟩; have B5 : Hid (Below W2.heap.size W2 w5) := Lib.hid (by first | exact hb5 | exact (Below.refl _ _).drew.trans hb5); have C5 := Lib.hid (blk_next B5.out C0.out); clear hb5))
            have X5 := Lib.hid (blk_next B5.out X4.out)
            have N5 := Lib.hid (Bgo N4.out B5.out)
            have O5 := Lib.hid (O4.out.next B5.out)
            clear c0 c1 c2 X4 N4 O4 X2 N3 O2
            have c0 : w5.cell? ⟨w2.heap.size, 0, none⟩ = some (.int .i64 D) := blk_cell C5.out 0 _ rfl
            have c1 : w5.cell? ⟨w2.heap.size, 1, none⟩ = some (.int .i64 M) := blk_cell C5.out 1 _ rfl
            have c2 : w5.cell? ⟨w2.heap.size, 2, none⟩ = some (.slice Av m.length cv) := blk_cell C5.out 2 _ rfl
            have x0 : w5.cell? ⟨w.heap.size + 1, 0, none⟩ = some (.int .i64 0) := blk_cell X5.out 0 _ rfl
            have x1 : w5.cell? ⟨w.heap.size + 1, 1, none⟩ = some (.int .i64 0) := blk_cell X5.out 1 _ rfl
            have x2 : w5.cell? ⟨w.heap.size + 1, 2, none⟩ = some (.slice none 0 0) := blk_cell X5.out 2 _ rfl
            have f0 : w5.frozen? ⟨w.heap.size + 1, 0, none⟩ = false := blk_frozen X5.out 0
            have f1 : w5.frozen? ⟨w.heap.size + 1, 1, none⟩ = false := blk_frozen X5.out 1
            have f2 : w5.frozen? ⟨w.heap.size + 1, 2, none⟩ = false := blk_frozen X5.out 2
            by_cases hzm : z = m.length
            · have FE : Hid (loseE D M m ds = 32) := Lib.hid (by rw [F2.out, if_pos (LA.out.1 hzm)])
              have q : ((z : Int) == (m.length : Int)) = true := by rw [hzm]; simp
              clear hzm
              go_wp2_with fail
              have Z := blk_set3 X5.out (.int .i64 0) (.int .i64 0) (.slice none 0 0)
              have e0 := blk_cell Z 0 _ rfl
              have e1 := blk_cell Z 1 _ rfl
              have e2 := blk_cell Z 2 _ rfl
              rw [loseS_err FE.out (by decide), FE.out]
              refine bodyPost_ret (v := .tuple #[Sv 0 0 (.slice none 0 0), .int .i64 32]) (by simp [results, Try.results26, go_sem, e0, e1, e2]) rfl (SEPost.none_ ?_)
              exact Bset3 N5.out (by omega) _ _ _
            · have FE : Hid (loseE D M m ds = 0) := Lib.hid (by rw [F2.out, if_neg (fun h => hzm (LA.out.2 h))])
              have q : ((z : Int) == (m.length : Int)) = false := by rw [beq_eq_false_iff_ne]; omega
              clear hzm
              go_wp2_with fail
              have Z := blk_set3 X5.out (.int .i64 D) (.int .i64 M) (.slice Av m.length cv)
              have e0 := blk_cell Z 0 _ rfl
              have e1 := blk_cell Z 1 _ rfl
              have e2 := blk_cell Z 2 _ rfl
              rw [show loseS D M m ds = (D, M, keepL m (goneB ds)) by unfold loseS; rw [FE.out, if_pos rfl], FE.out]
              refine bodyPost_ret (v := .tuple #[Sv D M (.slice Av m.length cv), .int .i64 0]) (by simp [results, Try.results26, go_sem, e0, e1, e2]) rfl ⟨_, rfl, ⟨us, ?_⟩, ?_⟩
              · exact O5.out.set3_ X5.out _ _ _
              · exact Bset3 N5.out (by omega) _ _ _
  · have FE : Hid (loseE D M m ds = chkE D M m) := Lib.hid (by unfold loseE; rw [if_pos ck])
    have q : (chkE D M m != 0) = true := by rw [bne_iff_ne]; exact ck
    rw [loseS_err FE.out ck, FE.out]
    generalize chkE D M m = er at *
    clear ck FE
    go_enter Try.func26, Try.ntmps26
    go_wp2_with fail
    refine (CC.out _ (HS.out.next (Bal (Bal (Below.refl _ _) _) _))).mono ?_
    rintro e w1 ⟨rfl, hb1⟩
    have N1 : Hid (Below w.heap.size w w1) := Lib.hid (Bgo (Bal (Bal (Below.refl _ _) _) _) hb1)
    have X1 : Hid (w1.heap[w.heap.size + 1]? = some (.cells #[.int .i64 0, .int .i64 0, .slice none 0 0] 31)) := Lib.hid (blk_next hb1 (blk_at _ (by simp)))
    clear hb1
    have x0 : w1.cell? ⟨w.heap.size + 1, 0, none⟩ = some (.int .i64 0) := blk_cell X1.out 0 _ rfl
    have x1 : w1.cell? ⟨w.heap.size + 1, 1, none⟩ = some (.int .i64 0) := blk_cell X1.out 1 _ rfl
    have x2 : w1.cell? ⟨w.heap.size + 1, 2, none⟩ = some (.slice none 0 0) := blk_cell X1.out 2 _ rfl
    have f0 : w1.frozen? ⟨w.heap.size + 1, 0, none⟩ = false := blk_frozen X1.out 0
    have f1 : w1.frozen? ⟨w.heap.size + 1, 1, none⟩ = false := blk_frozen X1.out 1
    have f2 : w1.frozen? ⟨w.heap.size + 1, 2, none⟩ = false := blk_frozen X1.out 2
    go_wp2_with fail
    have Z := blk_set3 X1.out (.int .i64 0) (.int .i64 0) (.slice none 0 0)
    have e0 := blk_cell Z 0 _ rfl
    have e1 := blk_cell Z 1 _ rfl
    have e2 := blk_cell Z 2 _ rfl
    refine bodyPost_ret (v := .tuple #[Sv 0 0 (.slice none 0 0), .int .i64 er]) (by simp [results, Try.results26, go_sem, e0, e1, e2]) rfl (SEPost.none_ ?_)
    exact Bset3 N1.out (by omega) _ _ _
end Go.Proofs.Ytmpmeeacdllomaa
