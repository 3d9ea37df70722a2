/- Openings and small laws for the laws of layer 1 over lists and texts. -/
import Derived.Test.YtpeoecgehdicmaaDoorFtf
import Derived.Test.YtpeoecgehdicmaaDoorFte
import Derived.Test.YtpeoecgehdicmaaDoorFtc
import Derived.Test.YtpeoecgehdicmaaDoorFrw
import Derived.Test.YtpeoecgehdicmaaDoorRows
import Derived.Deep.DeepHandedRow
import Derived.ProofKit
import Derived.SizedLaws
import Derived.ChangeSlices
import Derived.Stop.LaidErr
import Derived.Lib.LaidTab
namespace Go.Proofs.YtpeoecgehdicmaaDoor
open Go.ChangeShapes Go.WideShapes Go.ChangeAt Go.RowKit
set_option linter.unusedVariables false
theorem own_empty {w : World} {g : Nat} {t : TypeId} (h : w.heap[g]? = some (.cells #[] t)) {base : Nat} (hb : base ≤ g) : w.ownsRow base t 1 (.slice (some ⟨g, 0, none⟩) 0 0) 0 [] :=
  ⟨rfl, .inr ⟨g, 0, #[], rfl, hb, h, Nat.le_refl _, by simp [maxLen], rfl, rfl⟩⟩
theorem lv_one (l : List Int) : ∀ u ∈ lv l, u.oneCell' = true := by
  intro u hu
  obtain ⟨x, _, rfl⟩ := List.mem_map.1 hu
  rfl
theorem gfresh {w w1 : World} {o : Obj} {n c : Nat} (hg : (w.alloc o).grownBy w1 (Value.slice (some ⟨w.heap.size, 0, none⟩) n c).ownBlock) : Below w.heap.size w w1 :=
  (Bal (Below.refl w.heap.size w) o).grown hg (by simp) (fun q hq => by cases hq; exact Nat.le_refl _)
theorem rd_blk {w : World} {g : Nat} {cur : Array Value} {t : TypeId} {l : List Int} (h : w.heap[g]? = some (.cells cur t)) (hc : ∀ (j : Nat) (u : Value), (lv l)[j]? = some u → cur[j]? = some u) : Rd w 1 (some ⟨g, 0, none⟩) l.length (lv l) :=
  ⟨by rw [lv_len, Nat.mul_one], fun _ => ⟨g, 0, rfl, blk_lt h, fun j u hu => blk_cell h (0 + j) u (by rw [Nat.zero_add]; exact hc j u hu)⟩⟩
/- a row that was copied, as a block -/
theorem own_blk {w : World} {base : Nat} {t : TypeId} {n : Nat} {v : Value} {xs : List Value} (h : w.ownsRow base t 1 v n xs) (hn : 0 < n) :
    ∃ g cap cur, v = .slice (some ⟨g, 0, none⟩) n cap ∧ base ≤ g ∧ w.heap[g]? = some (.cells cur t) ∧ n ≤ cap ∧ cap ≤ 9223372036854775807 ∧ (∀ (j : Nat) (u : Value), xs[j]? = some u → cur[j]? = some u) := by
  obtain ⟨h1, h2 | ⟨g, cap, cur, hv, hb, hg, hc, hm, hs, ht⟩⟩ := h
  · have := h2.1
    exfalso
    rw [h2.2] at h1
    simp at h1
    omega
  · refine ⟨g, cap, cur, hv, hb, hg, hc, by simpa [maxLen] using hm, fun j u hu => ?_⟩
    rw [← ht, List.getElem?_take] at hu
    split at hu
    · simpa using hu
    · cases hu
theorem plain_addr {w : World} {a : Addr} {v : Value} (h : w.cell? a = some v) : a = ⟨a.block, a.off, none⟩ := by
  rcases a with ⟨b, o, s⟩
  cases s with
  | none => rfl
  | some s =>
    unfold World.cell? at h
    split at h
    · simp at h
    · cases h
theorem add_plain (b o j : Nat) : (⟨b, o, none⟩ : Addr).add j = ⟨b, o + j, none⟩ := by
  unfold Addr.add; split
  · rename_i h; subst h; rfl
  · rfl
section
variable {H : Type} {enc : TypeId × Value → H} {w : World} {base : Nat} {held : Bool}
theorem open_nums {fuel : Nat} {cs : List Value} {x : DataW H × List MemPlace} (h : DataW.trod enc Tryd.prog w base (fun _ => true) held fuel 24 cs = some x) :
    ∃ (a : Option Addr) (l : List Int) (cap : Nat), cs = [.slice a l.length cap] ∧ l.length ≤ cap ∧ cap ≤ 9223372036854775807 ∧ Rd w 1 a l.length (lv l) ∧ ∀ x ∈ l, -9223372036854775808 ≤ x ∧ x ≤ 9223372036854775807 := by
  rcases open_ints Tryd.underlying24 Tryd.underlying2 (by kernel_rfl) h with ⟨rfl, _⟩ | ⟨a, len, cap, zs, rfl, hb, hl, hm, hz, _, hcell, hw⟩
  · exact ⟨none, [], 0, rfl, by simp, by omega, ⟨rfl, fun h => absurd h (by simp)⟩, fun x hx => by simp at hx⟩
  · simp only [if_true] at hz
    have el : (zs.take len).length = len := by rw [List.length_take]; omega
    refine ⟨some a, zs.take len, cap, by rw [el], by rw [el]; exact hl, by simpa [maxLen] using hm, ⟨by rw [lv_len, Nat.mul_one], fun h0 => ?_⟩, fun x hx => ?_⟩
    · rw [el] at h0
      have c0 := hcell 0 (by omega)
      have ha : a = ⟨a.block, a.off, none⟩ := plain_addr (by simpa [Addr.add] using c0)
      have hlt : a.block < w.heap.size := by
        rw [ha, add_plain] at c0
        exact World.block_lt_of_cell? w ⟨a.block, a.off + 0, none⟩ c0
      refine ⟨a.block, a.off, by rw [← ha], hlt, fun j u hu => ?_⟩
      simp only [lv, List.getElem?_map, List.getElem?_take] at hu
      split at hu
      · obtain ⟨z, hz', rfl⟩ := Option.map_eq_some_iff.1 hu
        have := hcell j (get_lt hz')
        rw [ha, add_plain, List.getD_eq_getElem?_getD, hz'] at this
        exact this
      · simp at hu
    · exact bounds_i64 (hw x (List.mem_of_mem_take hx))
end
theorem star : "*" ++ "errors.errorString" = "*errors.errorString" := by decide
theorem rowE (u : TypeId) (h : Tryd.prog.typeName? 3 u = some "*errors.errorString") : u = 123 :=
  typeName_ptr_named (nm := "errors.errorString") (by rw [star]; kernel_rfl) (by kernel_rfl) (by decide) u (by rw [star]; exact h)
theorem gl_of {W : World} (hL : laidMet Tryd.prog [("math/bits.deBruijn32tab", Rows.laid_math_bits_deBruijn32tab), ("math/bits.deBruijn64tab", Rows.laid_math_bits_deBruijn64tab), ("internal/strconv.uint64pow10", Rows.laid_internal_strconv_uint64pow10), ("strconv.ErrRange", Rows.laid_strconv_ErrRange), ("strconv.ErrSyntax", Rows.laid_strconv_ErrSyntax)] W) (hsh : W.ShapedOpen Tryd.prog) : GL W := by
  have h1 := hL.tail.tail
  have h2 := h1.tail
  have h3 := h2.tail
  refine ⟨Lib.tabIs_of_head (g := 2) (by kernel_rfl) (t := 108) (by kernel_rfl) Tryd.underlying108 Tryd.underlying67 (by kernel_rfl) (by kernel_rfl) h1, ?_, ?_, Tryd.laysM145.s1_3 W hsh⟩
  · obtain ⟨a, s, hv, _⟩ := laid_sentinel h3 (g := 4) (by kernel_rfl) (ti := 62) (by kernel_rfl) Tryd.underlying62 rowE Tryd.underlying123 Tryd.underlying125 rfl rfl Tryd.underlying9 (by kernel_rfl) (by kernel_rfl)
    exact ⟨_, _, hv⟩
  · obtain ⟨a, s, hv, _⟩ := laid_sentinel h2 (g := 5) (by kernel_rfl) (ti := 62) (by kernel_rfl) Tryd.underlying62 rowE Tryd.underlying123 Tryd.underlying125 rfl rfl Tryd.underlying9 (by kernel_rfl) (by kernel_rfl)
    exact ⟨_, _, hv⟩
/- the expansion of a valid fraction -/
structure EXV (n d : Int) (L : List Int) : Prop where
  z : exR n d = L
  pos : 0 < L.length
  le : L.length ≤ 100
  hd : L[0]? = some (n / d)
  el : ∀ x ∈ L, -9223372036854775808 ≤ x ∧ x ≤ 9223372036854775807
  tl : ∀ k x, 1 ≤ k → L[k]? = some x → 1 ≤ x ∧ (k + 1 = L.length → 2 ≤ x)
  fold : foldR L = (n, d, 0)
theorem exv {n d : Int} (v : VF n d) : EXV n d (exR n d) := by
  have d1 := v.d1
  have e0 : exR n d = Farey.ex n d := by unfold exR; rw [if_pos v.err]
  have m1 := Int.emod_nonneg n (show d ≠ 0 by omega)
  have m2 := Int.emod_lt_of_pos n (show 0 < d by omega)
  have iv : inr n := ⟨v.n1, v.n2⟩
  have iq := ediv_inr iv (show 0 < d by omega)
  have len := Farey.ex_len (x := n) (y := d) (by omega) v.d2
  have fo := fold_ex d.toNat n d (by omega) (by omega) v.d2 iv v.g
  have ce := ex_cons (x := n) (show 0 < d by omega)
  have T : (∀ z ∈ Farey.ex d (n % d), 1 ≤ z ∧ z ≤ 1000000000000000000) ∧ (∀ z, (Farey.ex d (n % d)).getLast? = some z → 2 ≤ z) := by
    by_cases z : n % d = 0
    · rw [z, Farey.ex_zero (by decide)]; simp
    · have t := ex_tail (n % d).toNat d (n % d) (by omega) (by omega) m2 v.d2
      exact ⟨t.el, t.la⟩
  unfold inr at iq
  rw [e0]
  refine ⟨e0, by rw [ce]; simp, by omega, by rw [ce]; rfl, fun x hx => ?_, fun k x hk hx => ?_, ?_⟩
  · rw [ce] at hx
    rcases List.mem_cons.1 hx with rfl | h
    · omega
    · have := T.1 x h; omega
  · obtain ⟨k, rfl⟩ : ∃ j, k = j + 1 := ⟨k - 1, by omega⟩
    rw [ce, List.getElem?_cons_succ] at hx
    refine ⟨(T.1 x (List.mem_of_getElem? hx)).1, fun hl => T.2 x ?_⟩
    rw [ce, List.length_cons] at hl
    rw [List.getLast?_eq_getElem?, show (Farey.ex d (n % d)).length - 1 = k by omega]
    exact hx
  · unfold foldR
    have l0 : 0 < (Farey.ex n d).length := by rw [ce]; simp
    have hh : (Farey.ex n d).headD 0 = n / d := by rw [ce]; rfl
    have tt : (Farey.ex n d).tail = Farey.ex d (n % d) := by rw [ce]; rfl
    rw [if_neg (by omega), hh, if_neg (fun h => h iq), tt, if_neg, fo]
    rintro ⟨x, hx, h1⟩
    have := T.1 x hx
    omega
/- what a list that was folded has for its expansion -/
theorem fold_ok {l : List Int} {x y : Int} (h : foldR l = (x, y, 0)) : 0 < l.length ∧ l.length ≤ 100 ∧ VF x y ∧ exR x y = wantF l ∧ ∀ z ∈ l, z ≤ 1000000000000000000 := by
  unfold foldR at h
  by_cases c1 : l.length = 0 ∨ 100 < l.length
  · rw [if_pos c1] at h; cases h
  rw [if_neg c1] at h
  by_cases c2 : inr (l.headD 0)
  rotate_left
  · rw [if_pos c2] at h; cases h
  rw [if_neg (fun k => k c2)] at h
  by_cases c3 : ∃ x ∈ l.tail, x < 1
  · rw [if_pos c3] at h; cases h
  rw [if_neg c3] at h
  have tp : ∀ z ∈ l.tail, 1 ≤ z := fun z hz => by
    by_cases t : z < 1
    · exact absurd ⟨z, hz, t⟩ c3
    · omega
  have V : ∀ (l : List Int) (x y : Int), (∀ z ∈ l.tail, 1 ≤ z) → foldF l = (x, y, 0) → VF x y ∧ ∀ z ∈ l, z ≤ 1000000000000000000 := by
    intro l
    induction l with
    | nil => intro x y _ h; cases h
    | cons c r ih =>
      intro x y tp h
      cases hr : r with
      | nil =>
        subst hr
        unfold foldF at h
        split at h
        · rename_i k
          cases h
          exact ⟨⟨by omega, by omega, k.1, k.2, by simp⟩, fun z hz => by simp at hz; subst hz; exact k.2⟩
        · cases h
      | cons c' r' =>
        rw [← hr]
        have rn : r ≠ [] := by rw [hr]; simp
        obtain ⟨n, d, h1⟩ := fold_some rn h
        have tpr : ∀ z ∈ r, 1 ≤ z := fun z hz => tp z (by simpa using hz)
        obtain ⟨vn, _⟩ := foldF_pos r tpr n d h1
        obtain ⟨rfl, rfl⟩ := fold_step rn h1 h
        have hr2 := ih y d (fun z hz => tpr z (List.mem_of_mem_tail hz)) h1
        rw [foldF_cons rn, h1] at h
        simp only at h
        split at h
        · rename_i k
          have nd := vn.d1
          refine ⟨⟨?_, vn.n2, k.2.2.1, k.2.2.2, gcd_shift (by rw [Nat.gcd_comm]; exact vn.g)⟩, fun z hz => ?_⟩
          · have := (foldF_pos r tpr y d h1).2
            omega
          · rcases List.mem_cons.1 hz with rfl | hz
            · exact k.2.1.2
            · exact hr2.2 z hz
        · exact absurd (congrArg (fun t : Int × Int × Int => t.2.2) h) (by simp)
  obtain ⟨v1, v2⟩ := V l x y tp h
  exact ⟨by omega, by omega, v1, by unfold exR; rw [if_pos v1.err]; exact ex_fold l tp x y h, v2⟩
theorem foldR_err (l : List Int) : (foldR l).2.2 = 0 ∨ foldR l = (0, 0, 4) ∨ foldR l = (0, 0, 2) ∨ foldR l = (0, 0, 16) := by
  unfold foldR
  split
  · exact .inr (.inl rfl)
  · split
    · exact .inr (.inr (.inl rfl))
    · split
      · exact .inr (.inr (.inl rfl))
      · by_cases h : (foldF l).2.2 = 0
        · exact .inl h
        · exact .inr (.inr (.inr (foldF_err l h)))
end Go.Proofs.YtpeoecgehdicmaaDoor
