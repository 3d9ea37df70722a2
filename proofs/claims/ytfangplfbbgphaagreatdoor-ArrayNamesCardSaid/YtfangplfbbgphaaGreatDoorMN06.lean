/- Several texts in one. -/
import Derived.Lib.ItoaNum
import Derived.Lib.ItoaMem
import Derived.Lib.ItoaLen
import Derived.Lib.ParseIntB
import Derived.Lib.IndexMore
import Derived.Lib.IndexBytes
import Derived.Lib.IndexLaws
import Derived.Shelf.Strings.Builder1
import Derived.Shelf.Small.Bits
import Derived.Shelf.Strings.BuilderF
import Derived.Shelf.Strings.BuilderK
import Derived.Shelf.Strconv.Itoa0
import Derived.Shelf.Strconv.Itoa1
import Derived.Shelf.LaysM
import Derived.Shelf.Strconv.Itoa2
import Derived.Shelf.Strconv.Itoa3
import Derived.Shelf.Strconv.Itoa4
import Derived.Shelf.Strconv.ParseIntEmpty
import Derived.Shelf.Strconv.Clone
import Derived.Shelf.Strconv.SyntaxError
import Derived.Shelf.LaysC
import Derived.Shelf.Strconv.ToError
import Derived.Shelf.Strconv.Lower
import Derived.Shelf.Strconv.ParseUint10
import Derived.Shelf.Strconv.ParseUint10Empty
import Derived.Shelf.Strconv.ParseUint10Any
import Derived.Shelf.Strconv.ParseInt10
import Derived.Shelf.Strconv.RangeError
import Derived.Shelf.Strconv.ToErrorRange
import Derived.Shelf.Strconv.ParseUintEmpty
import Derived.Shelf.Strconv.ParseUint10b64
import Derived.Shelf.Strconv.ParseUint10b32
import Derived.Shelf.Strconv.ParseUint10b16
import Derived.Shelf.Strconv.ParseUint10b8
import Derived.Shelf.Strconv.ParseUint10At
import Derived.Shelf.Strconv.ParseInt10At64
import Derived.Shelf.Strconv.ParseInt10At32
import Derived.Shelf.Strconv.ParseInt10At16
import Derived.Shelf.Strconv.ParseInt10At8
import Derived.Shelf.Strconv.ParseInt10All
import Derived.Shelf.Strconv.ParseIntPublic10
import Derived.Shelf.Strconv.ErrVarParseInt
import Derived.Shelf.Strings.Search1
import Derived.Shelf.Strings.Search2
import Derived.Shelf.Strings.Cut
import Derived.Shelf.Strings.Shaped
import Derived.Shelf.Bits.Mul64
import Derived.Shelf.Strings.BuilderCap
import Derived.Test.YtfangplfbbgphaaGreatDoorProg
import Derived.Test.YtfangplfbbgphaaGreatDoorMN00
import Derived.Test.YtfangplfbbgphaaGreatDoorMN03
import Derived.Test.YtfangplfbbgphaaGreatDoorMN04
import Derived.Test.YtfangplfbbgphaaGreatDoorMN05
namespace Go.Proofs.YtfangplfbbgphaaGreatDoor
open Go.ChangeShapes Go.WideShapes Go.ChangeAt Go.RowKit
set_option linter.unusedVariables false
set_option maxRecDepth 100000
set_option linter.unusedSimpArgs false
theorem fm_len {α : Type} (f : α → List Value) (sz : Nat) (hf : ∀ x, (f x).length = sz) (l : List α) : (l.flatMap f).length = l.length * sz := by
 induction l with
 | nil => simp
 | cons x l ih => rw [List.flatMap_cons, List.length_append, ih, hf, List.length_cons, Nat.succ_mul]; omega
theorem fm_get {α : Type} (f : α → List Value) (sz : Nat) (hf : ∀ x, (f x).length = sz) (l : List α) (i j : Nat) (x : α) (hi : l[i]? = some x) (hj : j < sz) : (l.flatMap f)[i * sz + j]? = (f x)[j]? := by
 induction l generalizing i with
 | nil => simp at hi
 | cons y l ih =>
  cases i with
  | zero =>
   simp at hi
   subst hi
   rw [List.flatMap_cons, Nat.zero_mul, Nat.zero_add, List.getElem?_append_left (by rw [hf]; exact hj)]
  | succ i =>
   rw [List.flatMap_cons, List.getElem?_append_right (by rw [hf, Nat.succ_mul]; omega), hf]
   have := ih i (by simpa using hi)
   rw [show (i + 1) * sz + j - sz = i * sz + j by rw [Nat.succ_mul]; omega]
   exact this
theorem fm_take {α : Type} (f : α → List Value) (sz : Nat) (hf : ∀ x, (f x).length = sz) (l : List α) (k : Nat) : (l.flatMap f).take (k * sz) = (l.take k).flatMap f := by
 induction l generalizing k with
 | nil => simp
 | cons x l ih =>
  cases k with
  | zero => simp
  | succ k =>
   rw [List.take_succ_cons, List.flatMap_cons, List.flatMap_cons, List.take_append, List.take_of_length_le (by rw [hf, Nat.succ_mul]; omega), hf, show (k + 1) * sz - sz = k * sz by rw [Nat.succ_mul]; omega, ih]
theorem fm_drop {α : Type} (f : α → List Value) (sz : Nat) (hf : ∀ x, (f x).length = sz) (l : List α) (k : Nat) : (l.flatMap f).drop (k * sz) = (l.drop k).flatMap f := by
 induction l generalizing k with
 | nil => simp
 | cons x l ih =>
  cases k with
  | zero => simp
  | succ k =>
   rw [List.drop_succ_cons, List.flatMap_cons, List.drop_append, List.drop_eq_nil_of_le (by rw [hf, Nat.succ_mul]; omega), hf, show (k + 1) * sz - sz = k * sz by rw [Nat.succ_mul]; omega, ih, List.nil_append]
theorem fm_set {α : Type} (f : α → List Value) (sz : Nat) (hf : ∀ x, (f x).length = sz) (l : List α) (k : Nat) (x : α) (hk : k < l.length) :
  (l.flatMap f).take (k * sz) ++ f x ++ (l.flatMap f).drop (k * sz + sz) = (l.set k x).flatMap f := by
 rw [fm_take f sz hf, show k * sz + sz = (k + 1) * sz by rw [Nat.succ_mul], fm_drop f sz hf, List.set_eq_take_append_cons_drop, if_pos hk, List.flatMap_append, List.flatMap_cons, List.append_assoc]
theorem fm_one {α : Type} (f : α → List Value) (hf : ∀ x, ∀ u ∈ f x, u.oneCell' = true) (l : List α) : ∀ u ∈ l.flatMap f, u.oneCell' = true := by
 intro u hu
 obtain ⟨s, _, hs⟩ := List.mem_flatMap.1 hu
 exact hf s u hs
theorem Rd.rec_ {w : World} {size n : Nat} {A : Option Addr} {α : Type} {f : α → List Value} {l : List α} (h : Rd w size A n (l.flatMap f)) (hn : l.length ≤ n) (hf : ∀ x, (f x).length = size) {i : Nat} {x : α} (hi : l[i]? = some x) :
  ∃ b off, A = some ⟨b, off, none⟩ ∧ b < w.heap.size ∧ ∀ j u, (f x)[j]? = some u → w.cell? ⟨b, off + i * size + j, none⟩ = some u := by
 have hlt := get_lt hi
 obtain ⟨b, off, e, hl, hc⟩ := h.2 (by omega)
 refine ⟨b, off, e, hl, fun j u hu => ?_⟩
 have hj : j < size := by
  have := (List.getElem?_eq_some_iff.1 hu).1
  rw [hf] at this; exact this
 rw [Nat.add_assoc]
 exact hc (i * size + j) u (by rw [fm_get f size hf l i j x hi hj]; exact hu)
theorem Rd.blk {w : World} {g size n : Nat} {xs : List Value} {T : TypeId} (h : w.heap[g]? = some (.cells xs.toArray T)) (hn : xs.length = n * size) : Rd w size (some ⟨g, 0, none⟩) n xs :=
 ⟨hn, fun _ => ⟨g, 0, rfl, blk_lt h, fun j u hu => blk_cell h (0 + j) u (by simpa using hu)⟩⟩
theorem Rd.below {B : Nat} {W X : World} {size n : Nat} {A : Option Addr} {xs : List Value} (h : Rd W size A n xs) (hb : Below B W X) (hA : ∀ b off, A = some ⟨b, off, none⟩ → b < B) : Rd X size A n xs :=
 ⟨h.1, fun hn => by
  obtain ⟨b, off, e, hl, hc⟩ := h.2 hn
  have hlt := hA b off e
  exact ⟨b, off, e, Nat.lt_of_lt_of_le hl hb.size, fun j u hu => (hb.cell (p := ⟨b, off + j, none⟩) hlt).trans (hc j u hu)⟩⟩
theorem Rd.lt {W : World} {size n b off : Nat} {xs : List Value} (h : Rd W size (some ⟨b, off, none⟩) n xs) (hn : 0 < n) : b < W.heap.size := by
 obtain ⟨b', off', e, hl, _⟩ := h.2 hn
 injection e with e
 injection e with e1 e2
 subst e1
 exact hl
theorem wpList_store_rec {P : Program} {ops : Array Oper} {rest : List Oper} {o : Oper} {a : Act} {w : World} {Q : Exit → Act → World → Prop} (hgd : o.guard = none) (ty : TypeId) (x y : Operand) (ho : o.op = .store ty x y)
  {α : Type} (f : α → List Value) (sz : Nat) (hf : ∀ x, (f x).length = sz) (h1 : ∀ x, ∀ u ∈ f x, u.oneCell' = true) (g k : Nat) (l : List α) (r : α) (hk : k < l.length)
  (off : Nat) (hoff : off = k * sz) (hx : a.eval x = .pointer (some ⟨g, off, none⟩)) (hy : a.eval y = .agg (f r).toArray)
  (t : TypeId) (hg : w.heap[g]? = some (.cells (l.flatMap f).toArray t (0, 0))) (hi : (P.info? ty).map (·.size) = some sz)
  (h : wpList P ops Q rest (a.put o.dst undef) (w.setRow g ((l.set k r).flatMap f).toArray)) : wpList P ops Q (o :: rest) a w := by
 subst hoff
 refine wpList_plain hgd fun K hK => ?_
 have hfit : k * sz + (f r).length ≤ (l.flatMap f).length := by
  rw [fm_len f sz hf, hf]
  have := Nat.mul_le_mul_right sz (show k + 1 ≤ l.length from hk)
  rw [Nat.succ_mul] at this; exact this
 have hst := run_storeCells_at P g (k * sz) t (f r) 0 (l.flatMap f).toArray w hg (by simpa using hfit) (h1 r)
 simp only [Nat.add_zero, hf, List.size_toArray] at hst
 rw [fm_set f sz hf l k r hk] at hst
 cases hq : P.info? ty with
 | none => simp [hq] at hi
 | some i =>
  have hs : i.size = sz := by simpa [hq] using hi
  have hv : (storeVar ty ⟨g, k * sz, none⟩ (.agg (f r).toArray)).run P w = .ok () (w.setRow g ((l.set k r).flatMap f).toArray) := by
   simp [storeVar, sizeOf, typeInfo, hq, Value.cells, hs, hf, hst]
  unfold Oper.wp execOp
  simp only [ho, hx, hy, Instr.storeAt, Instr.sureAddr, Sem.run_bind, Sem.run_pure, Result.andThen_ok, hv]
  exact hK _ _ h
structure St where
 nm : ByteArray
 sn : Int
 sd : Int
 tn : Int
 td : Int
structure V6 where
 x1 : Int
 x2 : Int
 y1 : Int
 y2 : Int
 z1 : Int
 z2 : Int
 deriving DecidableEq
abbrev Sv (s : St) : Value := .agg #[.string s.nm, .int .i64 s.sn, .int .i64 s.sd, .int .i64 s.tn, .int .i64 s.td]
abbrev Vv (v : V6) : Value := .agg #[.int .i64 v.x1, .int .i64 v.x2, .int .i64 v.y1, .int .i64 v.y2, .int .i64 v.z1, .int .i64 v.z2]
def st5 (s : St) : List Value := [.string s.nm, .int .i64 s.sn, .int .i64 s.sd, .int .i64 s.tn, .int .i64 s.td]
def v6 (v : V6) : List Value := [.int .i64 v.x1, .int .i64 v.x2, .int .i64 v.y1, .int .i64 v.y2, .int .i64 v.z1, .int .i64 v.z2]
def pl11 (p : St × V6) : List Value := [.string p.1.nm, .int .i64 p.1.sn, .int .i64 p.1.sd, .int .i64 p.1.tn, .int .i64 p.1.td, .int .i64 p.2.x1, .int .i64 p.2.x2, .int .i64 p.2.y1, .int .i64 p.2.y2, .int .i64 p.2.z1, .int .i64 p.2.z2]
def pr2 (p : Nat × Nat) : List Value := [.int .i64 (p.1 : Int), .int .i64 (p.2 : Int)]
theorem st5_len (s : St) : (st5 s).length = 5 := rfl
theorem v6_len (s : V6) : (v6 s).length = 6 := rfl
theorem pl11_len (s : St × V6) : (pl11 s).length = 11 := rfl
theorem pr2_len (s : Nat × Nat) : (pr2 s).length = 2 := rfl
theorem st5_one (s : St) : ∀ u ∈ st5 s, u.oneCell' = true := by
 intro u hu; simp [st5] at hu; rcases hu with rfl | rfl | rfl | rfl | rfl <;> rfl
theorem v6_one (s : V6) : ∀ u ∈ v6 s, u.oneCell' = true := by
 intro u hu; simp [v6] at hu; rcases hu with rfl | rfl | rfl | rfl | rfl | rfl <;> rfl
theorem pl11_one (s : St × V6) : ∀ u ∈ pl11 s, u.oneCell' = true := by
 intro u hu; simp [pl11] at hu; rcases hu with rfl | rfl | rfl | rfl | rfl | rfl | rfl | rfl | rfl | rfl | rfl <;> rfl
theorem pr2_one (s : Nat × Nat) : ∀ u ∈ pr2 s, u.oneCell' = true := by
 intro u hu; simp [pr2] at hu; rcases hu with rfl | rfl <;> rfl
abbrev RSt (w : World) (A : Option Addr) (l : List St) : Prop := Rd w 5 A l.length (l.flatMap st5)
abbrev RPr (w : World) (A : Option Addr) (l : List (Nat × Nat)) : Prop := Rd w 2 A l.length (l.flatMap pr2)
def lowB (c : Nat) : Bool := decide (97 ≤ c ∧ c ≤ 122)
def namC (c : Nat) : Bool := decide ((97 ≤ c ∧ c ≤ 122) ∨ (48 ≤ c ∧ c ≤ 57) ∨ c = 45)
def namB (l : List UInt8) : Bool := decide (1 ≤ l.length ∧ l.length ≤ 40) && (lowB (l.headD 0).toNat && l.all fun c => namC c.toNat)
def valS (s : St) : Bool := namB s.nm.data.toList && plB s.sn s.sd s.tn s.td
def stsE (l : List St) : Int := if 8 < l.length then 4 else if l.all valS then 0 else 8
def plV (A B : Int) (s : St) : V6 := ⟨(plX A s.sn s.sd s.tn s.td).1, (plX A s.sn s.sd s.tn s.td).2.1, (plY A s.sn s.sd s.tn s.td).1, (plY A s.sn s.sd s.tn s.td).2.1, (plZ B s.sn s.sd).1, (plZ B s.sn s.sd).2.1⟩
def pls (A B : Int) (l : List St) : List (St × V6) := l.map fun s => (s, plV A B s)
def dupP (a b : St × V6) : Bool := (a.1.nm.toList == b.1.nm.toList) || decide (a.2 = b.2)
def dupB (rs : List (St × V6)) : Bool := (List.range rs.length).any fun j => (List.range j).any fun i => match rs[i]?, rs[j]? with | some a, some b => dupP a b | _, _ => false
theorem dupB_iff {rs : List (St × V6)} : dupB rs = true ↔ ∃ (i j : Nat) (a b : St × V6), i < j ∧ rs[i]? = some a ∧ rs[j]? = some b ∧ dupP a b = true := by
 unfold dupB
 simp only [List.any_eq_true, List.mem_range]
 constructor
 ·rintro ⟨j, hj, i, hi, h⟩
  have e1 : rs[i]? = some rs[i] := List.getElem?_eq_getElem (by omega)
  have e2 : rs[j]? = some rs[j] := List.getElem?_eq_getElem hj
  rw [e1, e2] at h
  exact ⟨i, j, _, _, hi, e1, e2, h⟩
 ·rintro ⟨i, j, a, b, hij, h1, h2, h⟩
  exact ⟨j, get_lt h2, i, hij, by rw [h1, h2]; exact h⟩
def plE (A B : Int) (l : List St) : Int := if errG A B ≠ 0 then errG A B else if stsE l ≠ 0 then stsE l else if dupB (pls A B l) then 14 else 0
def prs (n : Nat) : List (Nat × Nat) := (List.range n).flatMap fun i => (List.range' (i + 1) (n - 1 - i)).map fun j => (i, j)
def pix (n i j : Nat) : Nat := i * n - i * (i + 1) / 2 + (j - i - 1)
def pixB (n : Nat) : Bool := (pix n 0 1 == 0) && (pix n n (n + 1) == (prs n).length) && (List.range n).all fun i => (pix n i n == pix n (i + 1) (i + 2)) && (decide (pix n i n ≤ (prs n).length) &&
 ((List.range n).all fun j => !(decide (i < j)) || (((prs n)[pix n i j]? == some (i, j)) && (pix n i (j + 1) == pix n i j + 1))))
theorem pixB_all : (List.range 9).all pixB = true := by decide +kernel
theorem pix_all {n : Nat} (hn : n < 9) : pix n 0 1 = 0 ∧ pix n n (n + 1) = (prs n).length ∧ (∀ i, i < n → pix n i n = pix n (i + 1) (i + 2) ∧ pix n i n ≤ (prs n).length ∧ ∀ j, j < n → i < j → (prs n)[pix n i j]? = some (i, j) ∧ pix n i (j + 1) = pix n i j + 1) := by
 have h := List.all_eq_true.1 pixB_all n (List.mem_range.2 hn)
 unfold pixB at h
 simp only [Bool.and_eq_true, beq_iff_eq, List.all_eq_true, List.mem_range, decide_eq_true_eq] at h
 refine ⟨h.1.1, h.1.2, fun i hi => ?_⟩
 have h2 := h.2 i hi
 refine ⟨h2.1, h2.2.1, fun j hj hij => ?_⟩
 have h3 := h2.2.2 j hj
 simp only [decide_eq_true hij, Bool.not_true, Bool.false_or, Bool.and_eq_true, beq_iff_eq] at h3
 exact h3
def prsB (n : Nat) : Bool := (prs n).all fun p => decide (p.1 < p.2) && decide (p.2 < n)
theorem prsB_all : (List.range 9).all prsB = true := by decide +kernel
theorem prs_lt {n : Nat} (hn : n < 9) {p : Nat × Nat} (hp : p ∈ prs n) : p.1 < p.2 ∧ p.2 < n := by
 have h := List.all_eq_true.1 (List.all_eq_true.1 prsB_all n (List.mem_range.2 hn)) p hp
 simpa using h
def prE (n : Int) : Int := if n < 0 ∨ 8 < n then 2 else 0
end Go.Proofs.YtfangplfbbgphaaGreatDoor
namespace Go.Proofs.YtfangplfbbgphaaGreatDoor
open Go.ChangeShapes Go.WideShapes Go.ChangeAt Go.RowKit
set_option linter.unusedVariables false
set_option maxRecDepth 100000
set_option linter.unusedSimpArgs false
attribute [local go_sem ↓] Go.wp_at_zero Go.wp_at_succ
def fr2 (p : Int × Int) : List Value := [.int .i64 p.1, .int .i64 p.2]
theorem fr2_len (p : Int × Int) : (fr2 p).length = 2 := rfl
def okP (p : Int × Int) : Bool := okF p.1 p.2
def allE (l : List (Int × Int)) : Int := if l.all okP then 0 else 8
def okV (v : V6) : Bool := okF v.x1 v.x2 && (okF v.y1 v.y2 && okF v.z1 v.z2)
def vE (v : V6) : Int := if okV v then 0 else 8
def vsE (l : List V6) : Int := if l.all okV then 0 else 8
theorem take_all {α : Type} {p : α → Bool} {l : List α} {k : Nat} {x : α} (hx : l[k]? = some x) (h : ∀ (j : Nat) (y : α), j < k → l[j]? = some y → p y = true) (hp : p x = true) : ∀ (j : Nat) (y : α), j < k + 1 → l[j]? = some y → p y = true := by
 intro j y hj hy
 by_cases e : j = k
 ·subst e; rw [hx] at hy; cases hy; exact hp
 ·exact h j y (by omega) hy
theorem all_get {α : Type} {p : α → Bool} {l : List α} (h : ∀ (j : Nat) (y : α), j < l.length → l[j]? = some y → p y = true) : l.all p = true := by
 rw [List.all_eq_true]
 intro x hx
 obtain ⟨i, hi, e⟩ := List.mem_iff_getElem.1 hx
 exact h i x hi (by rw [List.getElem?_eq_getElem hi, e])
theorem all_not {α : Type} {p : α → Bool} {l : List α} {k : Nat} {x : α} (hx : l[k]? = some x) (hp : p x = false) : l.all p = false := by
 cases h : l.all p
 ·rfl
 ·rw [List.all_eq_true] at h
  have := h x (List.mem_of_getElem? hx)
  rw [hp] at this; cases this
set_option maxRecDepth 100000 in
set_option maxHeartbeats 4000000 in
theorem good_calls (A : Option Addr) (c : Nat) (l : List (Int × Int)) (w : World) (hl : Rd w 2 A l.length (l.flatMap fr2)) (hc : l.length ≤ c) (hc' : c ≤ 9223372036854775807) : Calls Tryz.prog 99 #[.slice A l.length c] w fun e w' =>
  e = .returned (.int .i64 (allE l)) ∧ Below w.heap.size w w' := by
 have HL := Lib.hid hl
 clear hl
 have YES : Hid ((∀ (j : Nat) (y : (Int × Int)), j < l.length → l[j]? = some y → okP y = true) → allE l = 0) := Lib.hid (fun h => by unfold allE; rw [if_pos (all_get h)])
 have NO : Hid (∀ (k : Nat) (x : (Int × Int)), l[k]? = some x → okP x = false → allE l = 8) := Lib.hid (fun k x h h' => by unfold allE; rw [if_neg (by rw [all_not h h']; simp)])
 generalize allE l = v at *
 go_enter Tryz.func99, Tryz.ntmps99
 go_wp2_with fail
 go_loopw [7] (fun i wr => ∃ k : Nat, k ≤ l.length ∧ i = .int .i64 k ∧ Hid (Below w.heap.size w wr) ∧ Hid (∀ (j : Nat) (y : (Int × Int)), j < k → l[j]? = some y → okP y = true)) (fun i _ => l.length - (intOf i).toNat)
 case atStart => exact ⟨0, by omega, rfl, Lib.hid (Below.refl _ _), Lib.hid (by omega)⟩
 case round =>
  obtain ⟨k, hk, rfl, NN, GD⟩ := hrel
  by_cases hlt : k < l.length
  ·obtain ⟨x, hx⟩ := get_some hlt
   obtain ⟨b, off, e, hb, hc0⟩ := Rd.rec_ HL.out (Nat.le_refl _) fr2_len hx
   subst e
   have c0 := (NN.out.cell (p := ⟨b, off + k * 2, none⟩) hb).trans (hc0 0 _ rfl)
   have c1 := (NN.out.cell (p := ⟨b, off + k * 2 + 1, none⟩) hb).trans (hc0 1 _ rfl)
   have hbr : b < wr.heap.size := Nat.lt_of_lt_of_le hb NN.out.size
   have HX := Lib.hid hx
   have kk : k + 1 ≤ l.length := hlt
   clear hc0 hx
   go_wp2_with fail
   refine (check_calls x.1 x.2 _).mono ?_
   rintro e w1 ⟨rfl, hb1⟩
   replace NN := Lib.hid (Bgo (Bal NN.out (.cells #[.int .i64 x.1, .int .i64 x.2] 36)) hb1)
   cases hp : okP x
   ·have FV := Lib.hid (NO.out k x HX.out hp)
    have E : errF x.1 x.2 = 8 := by unfold errF; rw [show okF x.1 x.2 = false from hp]; rfl
    rw [E]
    clear GD YES NO HX hp E hb1 c0 c1
    go_wp2_with fail
    go_ret
    exact ⟨ret_int FV.out.symm, NN.out⟩
   ·have E : errF x.1 x.2 = 0 := by unfold errF; rw [show okF x.1 x.2 = true from hp]; rfl
    have G2 := Lib.hid (take_all HX.out GD.out hp)
    rw [E]
    clear GD YES NO HX hp E hb1 c0 c1
    go_wp2_with fail
    go_roundw
    case rel => exact ⟨k + 1, kk, by go_num, NN, G2⟩
    case measure => simp [intOf]; omega
  ·obtain rfl : k = l.length := by omega
   have FV := Lib.hid (YES.out GD.out)
   clear GD YES NO
   go_wp2_with fail
   go_ret
   exact ⟨ret_int FV.out.symm, NN.out⟩
set_option maxRecDepth 100000 in
set_option maxHeartbeats 4000000 in
theorem vcheck_calls (v : V6) (w : World) : Calls Tryz.prog 69 #[Vv v] w fun e w' => e = .returned (.int .i64 (vE v)) ∧ Below w.heap.size w w' := by
 have NN := Lib.hid (Below.refl w.heap.size w)
 have EV : Hid (allE [(v.x1, v.x2), (v.y1, v.y2), (v.z1, v.z2)] = vE v) := Lib.hid (by unfold allE vE okV; simp [okP])
 have HG := Lib.hid (fun (A : Option Addr) (W : World) (h : Rd W 2 A 3 (List.flatMap fr2 [(v.x1, v.x2), (v.y1, v.y2), (v.z1, v.z2)])) => good_calls A 3 [(v.x1, v.x2), (v.y1, v.y2), (v.z1, v.z2)] W h (Nat.le_refl _) (by decide))
 rw [EV.out] at HG
 generalize vE v = r at *
 go_enter Tryz.func69, Tryz.ntmps69
 go_wp2_with fail
 refine (HG.out _ _ (Rd.blk (T := 36) (blk_at _ (by simp)) rfl)).mono ?_
 rintro e w2 ⟨rfl, hb⟩
 replace NN := Lib.hid (Bgo (Bal (Bal NN.out (.cells #[.int .i64 v.x1, .int .i64 v.x2, .int .i64 v.y1, .int .i64 v.y2, .int .i64 v.z1, .int .i64 v.z2] 38)) (.cells #[.int .i64 v.x1, .int .i64 v.x2, .int .i64 v.y1, .int .i64 v.y2, .int .i64 v.z1, .int .i64 v.z2] 36)) hb)
 clear hb
 go_wp2_with fail
 go_ret
 exact ⟨rfl, NN.out⟩
set_option maxRecDepth 100000 in
set_option maxHeartbeats 4000000 in
theorem vectors_calls (A : Option Addr) (c : Nat) (l : List V6) (w : World) (hl : Rd w 6 A l.length (l.flatMap v6)) (hc : l.length ≤ c) (hc' : c ≤ 9223372036854775807) : Calls Tryz.prog 41 #[.slice A l.length c] w fun e w' =>
  e = .returned (.int .i64 (vsE l)) ∧ Below w.heap.size w w' := by
 have HL := Lib.hid hl
 clear hl
 have YES : Hid ((∀ (j : Nat) (y : V6), j < l.length → l[j]? = some y → okV y = true) → vsE l = 0) := Lib.hid (fun h => by unfold vsE; rw [if_pos (all_get h)])
 have NO : Hid (∀ (k : Nat) (x : V6), l[k]? = some x → okV x = false → vsE l = 8) := Lib.hid (fun k x h h' => by unfold vsE; rw [if_neg (by rw [all_not h h']; simp)])
 generalize vsE l = v at *
 go_enter Tryz.func41, Tryz.ntmps41
 go_wp2_with fail
 go_loopw [8] (fun i wr => ∃ k : Nat, k ≤ l.length ∧ i = .int .i64 k ∧ Hid (Below w.heap.size w wr) ∧ Hid (∀ (j : Nat) (y : V6), j < k → l[j]? = some y → okV y = true)) (fun i _ => l.length - (intOf i).toNat)
 case atStart => exact ⟨0, by omega, rfl, Lib.hid (Below.refl _ _), Lib.hid (by omega)⟩
 case round =>
  obtain ⟨k, hk, rfl, NN, GD⟩ := hrel
  by_cases hlt : k < l.length
  ·obtain ⟨x, hx⟩ := get_some hlt
   obtain ⟨b, off, e, hb, hc0⟩ := Rd.rec_ HL.out (Nat.le_refl _) v6_len hx
   subst e
   have c0 := (NN.out.cell (p := ⟨b, off + k * 6, none⟩) hb).trans (hc0 0 _ rfl)
   have c1 := (NN.out.cell (p := ⟨b, off + k * 6 + 1, none⟩) hb).trans (hc0 1 _ rfl)
   have c2 := (NN.out.cell (p := ⟨b, off + k * 6 + 2, none⟩) hb).trans (hc0 2 _ rfl)
   have c3 := (NN.out.cell (p := ⟨b, off + k * 6 + 3, none⟩) hb).trans (hc0 3 _ rfl)
   have c4 := (NN.out.cell (p := ⟨b, off + k * 6 + 4, none⟩) hb).trans (hc0 4 _ rfl)
   have c5 := (NN.out.cell (p := ⟨b, off + k * 6 + 5, none⟩) hb).trans (hc0 5 _ rfl)
   have hbr : b < wr.heap.size := Nat.lt_of_lt_of_le hb NN.out.size
   have HX := Lib.hid hx
   have kk : k + 1 ≤ l.length := hlt
   clear hc0 hx
   go_wp2_with fail
   refine (vcheck_calls x _).mono ?_
   rintro e w1 ⟨rfl, hb1⟩
   replace NN := Lib.hid (Bgo (Bal NN.out (.cells #[.int .i64 x.x1, .int .i64 x.x2, .int .i64 x.y1, .int .i64 x.y2, .int .i64 x.z1, .int .i64 x.z2] 38)) hb1)
   cases hp : okV x
   ·have FV := Lib.hid (NO.out k x HX.out hp)
    have E : vE x = 8 := by unfold vE; rw [show okV x = false from hp]; rfl
    rw [E]
    clear GD YES NO HX hp E hb1 c0 c1 c2 c3 c4 c5
    go_wp2_with fail
    go_ret
    exact ⟨ret_int FV.out.symm, NN.out⟩
   ·have E : vE x = 0 := by unfold vE; rw [show okV x = true from hp]; rfl
    have G2 := Lib.hid (take_all HX.out GD.out hp)
    rw [E]
    clear GD YES NO HX hp E hb1 c0 c1 c2 c3 c4 c5
    go_wp2_with fail
    go_roundw
    case rel => exact ⟨k + 1, kk, by go_num, NN, G2⟩
    case measure => simp [intOf]; omega
  ·obtain rfl : k = l.length := by omega
   have FV := Lib.hid (YES.out GD.out)
   clear GD YES NO
   go_wp2_with fail
   go_ret
   exact ⟨ret_int FV.out.symm, NN.out⟩
set_option maxRecDepth 100000 in
set_option maxHeartbeats 4000000 in
theorem vlist_calls (v : V6) (w : World) : Calls Tryz.prog 43 #[Vv v] w fun e w' => e = .returned (Vv v) ∧ Below w.heap.size w w' := by
 have NN := Lib.hid (Below.refl w.heap.size w)
 go_enter Tryz.func43, Tryz.ntmps43
 go_wp2_with fail
 have Z := blk_at (w := w.alloc (.cells #[.int .i64 v.x1, .int .i64 v.x2, .int .i64 v.y1, .int .i64 v.y2, .int .i64 v.z1, .int .i64 v.z2] 38)) (.cells #[.int .i64 v.x1, .int .i64 v.x2, .int .i64 v.y1, .int .i64 v.y2, .int .i64 v.z1, .int .i64 v.z2] 93) (show w.heap.size + 1 = _ by simp)
 have e0 := blk_cell Z 0 _ rfl
 have e1 := blk_cell Z 1 _ rfl
 have e2 := blk_cell Z 2 _ rfl
 have e3 := blk_cell Z 3 _ rfl
 have e4 := blk_cell Z 4 _ rfl
 have e5 := blk_cell Z 5 _ rfl
 exact bodyPost_ret (v := Vv v) (by simp [results, Tryz.results43, go_sem, e0, e1, e2, e3, e4, e5]) rfl ⟨rfl, Bal (Bal NN.out _) _⟩
end Go.Proofs.YtfangplfbbgphaaGreatDoor
namespace Go.Proofs.YtfangplfbbgphaaGreatDoor
open Go Go.RowKit
set_option linter.unusedVariables false
set_option maxRecDepth 100000
section
variable {P : Program} {ops : Array Oper} {Q : Exit → Act → World → Prop} {md : Region.Mode} {S : Nat → World → Prop}
theorem below_go {w X Y : World} (h : Below w.heap.size w X) (h' : Below X.heap.size X Y) : Below w.heap.size w Y := h.trans (h'.mono h.size)
def Shutd (md : Region.Mode) (ops : Array Oper) (done : Array Bool) : Prop := ∀ (m : Nat) (om : Oper), ops[m]? = some om → done.getD m false = true → ∀ e ∈ om.after, Region.binds md e = true → done.getD e.on false = true
def waitsT (md : Region.Mode) (ops : Array Oper) : Nat → Nat → Nat → Bool
 | 0, _, _ => false
 | f + 1, j, k => Region.waitsFor md ops j k || (List.range ops.size).any fun m => Region.waitsFor md ops j m && waitsT md ops f m k
theorem shut_T {done : Array Bool} (hc : Shutd md ops done) : ∀ (f j k : Nat), waitsT md ops f j k = true → done.getD j false = true → done.getD k false = true
 | 0, _, _, h, _ => by cases h
 | f + 1, j, k, h, hj => by
  unfold waitsT at h
  rw [Bool.or_eq_true, List.any_eq_true] at h
  rcases h with h | ⟨m, _, h⟩
  ·obtain ⟨oj, hoj, e, he, hb, hon⟩ := Region.waitsFor_spec h
   rw [← hon]; exact hc j oj hoj hj e he hb
  ·rw [Bool.and_eq_true] at h
   obtain ⟨oj, hoj, e, he, hb, hon⟩ := Region.waitsFor_spec h.1
   exact shut_T hc f m k h.2 (by rw [← hon]; exact hc j oj hoj hj e he hb)
theorem ready_T {done : Array Bool} (hc : Shutd md ops done) {f j k : Nat} (hj : j ∈ Region.ready md ops done) (h : waitsT md ops f j k = true) : done.getD k false = true := by
 obtain ⟨_, o', ho', hall⟩ := mem_ready.1 hj
 cases f with
 | zero => cases h
 | succ f =>
  unfold waitsT at h
  rw [Bool.or_eq_true, List.any_eq_true] at h
  rcases h with h | ⟨m, _, h⟩
  ·obtain ⟨oj, hoj, e, he, hb, hon⟩ := Region.waitsFor_spec h
   have : o' = oj := Option.some.inj (ho'.symm.trans hoj)
   subst this
   rw [← hon]; exact hall e he hb
  ·rw [Bool.and_eq_true] at h
   obtain ⟨oj, hoj, e, he, hb, hon⟩ := Region.waitsFor_spec h.1
   have : o' = oj := Option.some.inj (ho'.symm.trans hoj)
   subst this
   exact shut_T hc f m k h.2 (by rw [← hon]; exact hall e he hb)
theorem shut_set {done : Array Bool} (hc : Shutd md ops done) {i : Nat} (hi : i ∈ Region.ready md ops done) : Shutd md ops (done.setIfInBounds i true) := by
 intro m om ho hm e he hb
 refine getD_set_true ?_
 by_cases h : i = m
 ·subst h
  obtain ⟨_, o', ho', hall⟩ := mem_ready.1 hi
  have : o' = om := Option.some.inj (ho'.symm.trans ho)
  subst this
  exact hall e he hb
 ·rw [getD_set_ne false h] at hm
  exact hc m om ho hm e he hb
abbrev Keeps (md : Region.Mode) (ops : Array Oper) (S : Nat → World → Prop) (i : Nat) (X W : World) : Prop := ∀ k, waitsT md ops ops.size i k = false → S k X → S k W
def wpAnyG (P : Program) (md : Region.Mode) (ops : Array Oper) (Q : Exit → Act → World → Prop) (S : Nat → World → Prop) : Nat → Array Bool → Act → World → Prop
 | 0, done, a, w => ∀ X : World, Below w.heap.size w X → Region.ready md ops done = [] ∧ Q .normal a X
 | f + 1, done, a, w => ∀ X : World, Below w.heap.size w X → (Region.ready md ops done = [] → Q .normal a X) ∧
  ∀ i ∈ Region.ready md ops done, wpOp P ops Q i (fun a' w' => Keeps md ops S i X w' ∧ wpAnyG P md ops Q S f (done.setIfInBounds i true) a' w') a X
theorem wpAny_of_G : ∀ (f : Nat) (done : Array Bool) (a : Act) (w : World), wpAnyG P md ops Q S f done a w → wpAny P md ops Q f done a w
 | 0, _, _, w, h => h w (Below.refl _ _)
 | f + 1, _, _, w, h => ⟨(h w (Below.refl _ _)).1, fun i hi => wpOp_mono (fun a' w' h' => wpAny_of_G f _ a' w' h'.2) ((h w (Below.refl _ _)).2 i hi)⟩
theorem wpAnyG_grow : ∀ (f : Nat) (done : Array Bool) (a : Act) (w X : World), Below w.heap.size w X → wpAnyG P md ops Q S f done a w → wpAnyG P md ops Q S f done a X
 | 0, _, _, _, _, hb, h => fun Y hY => h Y (below_go hb hY)
 | _ + 1, _, _, _, _, hb, h => fun Y hY => h Y (below_go hb hY)
def YieldsG (P : Program) (ops : Array Oper) (S : World → Prop) (o : Oper) (v : Value) (a : Act) : Prop :=
 (Region.wanted o (yielded ops a.tmps) = true ∧ ∀ w, S w → (execOp a.eval o).run P w = .ok (.value v) w ∨ ∃ f args, (execOp a.eval o).run P w = .ok (.enter f args) w ∧ Calls P f args w fun e w' => e = .returned v ∧ Below w.heap.size w w') ∨
 (Region.wanted o (yielded ops a.tmps) = false ∧ v = undef)
theorem YieldsIf.toG {S : World → Prop} {o : Oper} {v : Value} {a : Act} (h : YieldsIf P ops S o v a) : YieldsG P ops S o v a :=
 h.imp (fun ⟨hw, hv⟩ => ⟨hw, fun w hs => .inl (hv w hs)⟩) id
theorem yieldsG_call {S : World → Prop} {o : Oper} {v : Value} {a : Act} (f : Nat) (args : Array Value) (hw : Region.wanted o (yielded ops a.tmps) = true) (hr : ∀ w, S w → (execOp a.eval o).run P w = .ok (.enter f args) w)
  (hc : ∀ w, S w → Calls P f args w fun e w' => e = .returned v ∧ Below w.heap.size w w') : YieldsG P ops S o v a := .inl ⟨hw, fun w hs => .inr ⟨f, args, hr w hs, hc w hs⟩⟩
theorem YieldsG.wpOp {S : World → Prop} {i : Nat} {o : Oper} {v : Value} {a : Act} (hi : ops[i]? = some o) (hy : YieldsG P ops S o v a)
  {K : Act → World → Prop} {w : World} (hS : S w) (h : ∀ X, Below w.heap.size w X → K (a.put o.dst v) X) : wpOp P ops Q i K a w := by
 unfold Go.wpOp
 simp only [hi]
 rcases hy with ⟨hw, hv⟩ | ⟨hw, rfl⟩
 ·simp only [hw, if_true]
  rcases hv w hS with hv | ⟨f, args, hv, hc⟩
  ·simp only [Oper.wp, hv, Oper.upon]; exact .inl (h w (Below.refl _ _))
  ·simp only [Oper.wp, hv, Oper.upon]
   refine .inl (hc.mono ?_)
   rintro e w' ⟨rfl, hb⟩
   exact h w' hb
 ·simp only [hw, Bool.false_eq_true, if_false]; exact h w (Below.refl _ _)
theorem YieldsG.of_same {S : World → Prop} {o : Oper} {v : Value} {a a' : Act} (hy : YieldsG P ops S o v a) (he : execOp a'.eval o = execOp a.eval o)
  (hw : Region.wanted o (yielded ops a'.tmps) = Region.wanted o (yielded ops a.tmps)) : YieldsG P ops S o v a' := by
 unfold YieldsG at *
 rw [he, hw]
 exact hy
theorem wpOp_putG {S : World → Prop} {j : Nat} {oi oj : Oper} {v : Value} (hj : ops[j]? = some oj) (hap : oi.apart ops oj = true)
  (hsi : ∀ cs b, oi.op ≠ .select cs b) (hsj : ∀ cs b, oj.op ≠ .select cs b)
  (hQ : ∀ c a w, Q (.panic c) (a.put oi.dst v) w → Q (.panic c) a w) {K : Act → World → Prop} {a : Act} {w : World}
  (hy : YieldsG P ops S oi v a) (h : wpOp P ops Q j K (a.put oi.dst v) w) :
  wpOp P ops Q j (fun a' w' => YieldsG P ops S oi v a' ∧ K (a'.put oi.dst v) w') a w := by
 obtain ⟨h1, h2, h3⟩ := Oper.apart_spec hap
 have keep : ∀ (a : Act), YieldsG P ops S oi v a → ∀ u, YieldsG P ops S oi v (a.put oj.dst u) := fun a hy u =>
  hy.of_same (execOp_put oi hsi a oj.dst u h3) (wanted_put oi a oj.dst u h3)
 have keepD : ∀ d, YieldsG P ops S oi v { a with defers := d :: a.defers } := fun d => hy.of_same rfl rfl
 unfold wpOp at *
 simp only [hj] at *
 rw [wanted_put oj a oi.dst v h1] at h
 split
 ·rename_i hw
  simp only [hw, if_true] at h
  rcases h with h | ⟨hasks, hlets⟩
  case inr => exact .inr ⟨by unfold Oper.asks at *; rw [execOp_put oj hsj a oi.dst v h1] at hasks; exact hasks, hlets⟩
  refine .inl ?_
  unfold Oper.wp at *
  rw [execOp_put oj hsj a oi.dst v h1] at h
  generalize (execOp a.eval oj).run P w = r at *
  cases r with
  | ok n w' =>
   cases n <;> simp only [Oper.upon] at h ⊢
   case value u => exact ⟨keep a hy u, by rw [← Act.put_comm a v u h2]; exact h⟩
   case skip => exact ⟨keep a hy _, by rw [← Act.put_comm a v undef h2]; exact h⟩
   case defer d =>
    refine ⟨keep _ (keepD d) _, ?_⟩
    rw [← Act.put_comm _ v undef h2, ← Act.put_defers]
    exact h
   case enter f args =>
    refine Calls.mono h fun e w'' he => ?_
    cases e with
    | returned u => exact ⟨keep a hy u, by rw [← Act.put_comm a v u h2]; exact he⟩
    | panicked c => exact hQ _ _ _ he
    | outgrown => exact he
   case row row args => exact Rows.mono h fun u w'' he => ⟨keep a hy u, by rw [← Act.put_comm a v u h2]; exact he⟩
  | halt x w' =>
   cases x <;> simp only [Oper.upon] at h ⊢
   case panic u => exact hQ _ _ _ h
 ·rename_i hw
  simp only [hw] at h
  exact ⟨keep a hy _, by rw [← Act.put_comm a v undef h2]; exact h⟩
theorem wpAnyG_first {i : Nat} {oi : Oper} {v : Value} (hi : ops[i]? = some oi) (hsel : ∀ (j : Nat) (o : Oper) cs b, ops[j]? = some o → o.op ≠ .select cs b)
  (hQ : ∀ c a w, Q (.panic c) (a.put oi.dst v) w → Q (.panic c) a w) (hg : ∀ k w X, S k w → Below w.heap.size w X → S k X) :
  ∀ (f : Nat) (done : Array Bool) (a : Act) (w : World), Shutd md ops done →
   (∀ j oj, ops[j]? = some oj → j ≠ i → done.getD j true = false → (∀ e ∈ oj.after, Region.binds md e = true → e.on ≠ i) → oi.apart ops oj = true) →
   i ∈ Region.ready md ops done → YieldsG P ops (S i) oi v a → S i w →
   wpAnyG P md ops Q S f (done.setIfInBounds i true) (a.put oi.dst v) w → wpAnyG P md ops Q S (f + 1) done a w := by
 intro f
 induction f with
 | zero =>
  intro done a w hsh _ hr hy hS H X hX
  refine ⟨fun h => (by rw [h] at hr; cases hr), fun j hj => ?_⟩
  by_cases e : j = i
  ·subst e; exact hy.wpOp hi (hg _ _ _ hS hX) fun Y hY => ⟨fun k _ hk => hg k _ _ hk hY, fun Z hZ => H Z (below_go (below_go hX hY) hZ)⟩
  ·have := ready_mono hj e
   rw [(H X hX).1] at this
   cases this
 | succ f ih =>
  intro done a w hsh hfree hr hy hS H X hX
  refine ⟨fun h => (by rw [h] at hr; cases hr), fun j hj => ?_⟩
  by_cases e : j = i
  ·subst e; exact hy.wpOp hi (hg _ _ _ hS hX) fun Y hY => ⟨fun k _ hk => hg k _ _ hk hY, wpAnyG_grow _ _ _ _ _ (below_go hX hY) H⟩
  ·have h1 := (H X hX).2 j (ready_mono hj e)
   obtain ⟨hjun, oj, hoj, _⟩ := mem_ready.1 hj
   have nw : waitsT md ops ops.size j i = false := by
    cases h : waitsT md ops ops.size j i with
    | false => rfl
    | true =>
     have h0 := ready_T hsh hj h
     have h2 := getD_both (mem_ready.1 hr).1
     rw [h0] at h2
     cases h2
   have h2 := wpOp_putG hoj (hfree j oj hoj e hjun (edge_ne hoj hj hr)) (fun cs b => hsel i oi cs b hi) (fun cs b => hsel j oj cs b hoj) hQ hy h1
   have hfree' : ∀ k ok, ops[k]? = some ok → k ≠ i → (done.setIfInBounds j true).getD k true = false → (∀ e ∈ ok.after, Region.binds md e = true → e.on ≠ i) → oi.apart ops ok = true := fun k ok hk hki hun hno => by
    refine hfree k ok hk hki ?_ hno
    by_cases hjk : j = k
    ·subst hjk; exact hjun
    ·rw [getD_set_ne true hjk] at hun; exact hun
   have hSX := hg _ _ _ hS hX
   refine wpOp_mono (fun a' w' h3 => ⟨h3.2.1, ?_⟩) h2
   have r2 := ready_mono hr (Ne.symm e)
   refine ih (done.setIfInBounds j true) a' w' (shut_set hsh hj) hfree' r2 h3.1 (h3.2.1 i nw hSX) ?_
   rw [Array.setIfInBounds_comm _ _ e]
   exact h3.2.2
def shutB (md : Region.Mode) (ops : Array Oper) (done : Array Bool) : Bool := (List.range ops.size).all fun m => match ops[m]? with
 | none => true
 | some om => !(done.getD m false) || om.after.all fun e => !(Region.binds md e) || done.getD e.on false
theorem shutB_spec {done : Array Bool} (h : shutB md ops done = true) : Shutd md ops done := by
 intro m om ho hm e he hb
 unfold shutB at h
 have h1 := List.all_eq_true.1 h m (List.mem_range.2 (Array.getElem?_eq_some_iff.1 ho).1)
 rw [ho] at h1
 simp only [hm, Bool.not_true, Bool.false_or, Array.all_eq_true_iff_forall_mem] at h1
 have h2 := h1 e he
 rw [hb] at h2
 simpa using h2
theorem take_G {oi : Oper} {f : Nat} {done : Array Bool} {a : Act} {w : World} (i : Nat) (v : Value) (d : Option Nat) (hg : ∀ k w X, S k w → Below w.heap.size w X → S k X) (hsh : shutB md ops done = true) (hi : ops[i]? = some oi) (hs : Region.noSelect ops = true) (hf : Region.free md ops done i = true)
  (hr : (Region.ready md ops done).contains i = true) (hd : oi.dst = d) (hQ : ∀ c a w, Q (.panic c) (a.put oi.dst v) w → Q (.panic c) a w) (hy : YieldsG P ops (S i) oi v a) (hS : S i w)
  (h : wpAnyG P md ops Q S f (done.setIfInBounds i true) (a.put d v) w) : wpAnyG P md ops Q S (f + 1) done a w :=
 wpAnyG_first hi (Region.noSelect_spec hs) hQ hg f done a w (shutB_spec hsh) (Region.free_spec hi hf) (by simpa using hr) hy hS (by rw [hd]; exact h)
theorem tG {oi : Oper} {f : Nat} {done : Array Bool} {a : Act} {w : World} (i : Nat) (v : Value) (d : Option Nat) (hg : ∀ k w X, S k w → Below w.heap.size w X → S k X) (hi : ops[i]? = some oi) (hy : YieldsG P ops (S i) oi v a) (hS : S i w)
 (h : wpAnyG P md ops Q S f (done.setIfInBounds i true) (a.put d v) w) (hsh : shutB md ops done = true := by kernel_rfl) (hs : Region.noSelect ops = true := by kernel_rfl) (hf : Region.free md ops done i = true := by kernel_rfl)
 (hr : (Region.ready md ops done).contains i = true := by kernel_rfl) (hd : oi.dst = d := by rfl) (hQ : ∀ c a w, Q (.panic c) (a.put oi.dst v) w → Q (.panic c) a w := by exact fun _ _ _ h => h) : wpAnyG P md ops Q S (f + 1) done a w :=
 take_G i v d hg hsh hi hs hf hr hd hQ hy hS h
theorem only_G {o : Oper} {f : Nat} {done : Array Bool} {a : Act} {w : World} (i : Nat) (hr : Region.ready md ops done = [i]) (ho : ops[i]? = some o)
  (h : ∀ X : World, Below w.heap.size w X → ∀ K' : Act → World → Prop, Shut (∀ a' w', Keeps md ops S i X w' → wpAnyG P md ops Q S f (done.setIfInBounds i true) a' w' → K' a' w') → if Region.wanted o (yielded ops a.tmps) = true then Oper.wp P o a X K' Q else K' (a.put o.dst undef) X) :
  wpAnyG P md ops Q S (f + 1) done a w := fun X hX =>
 ⟨fun h0 => (by rw [hr] at h0; cases h0), fun j hj => by
  rw [hr] at hj
  have e : j = i := by simpa using hj
  subst e
  exact wpOp_step ho (fun K' hK => h X hX K' (fun a' w' h1 h2 => hK a' w' ⟨h1, h2⟩))⟩
theorem done_G {done : Array Bool} {a : Act} {w : World} (hr : Region.ready md ops done = []) (h : ∀ X : World, Below w.heap.size w X → Q .normal a X) : ∀ f, wpAnyG P md ops Q S f done a w
 | 0 => fun X hX => ⟨hr, h X hX⟩
 | _ + 1 => fun X hX => ⟨fun _ => h X hX, by rw [hr]; simp⟩
theorem region_G {id : Nat} {a : Act} {w : World} (hm : P.follows .mixedOrders = true) (h : wpAnyG P .any ops Q S ops.size (Array.replicate ops.size false) a w.drew) : (Code.region id ops true).wp P Q a w :=
 wp_region_any hm (wpAny_of_G _ _ _ _ h)
end
def GK (L : List (Nat × Nat × Obj)) (k : Nat) (X : World) : Prop := ∀ p ∈ L, p.1 = k → X.heap[p.2.1]? = some p.2.2
theorem GK.grow (L : List (Nat × Nat × Obj)) : ∀ k (w X : World), GK L k w → Below w.heap.size w X → GK L k X := fun k w X h hb p hp e => blk_next hb (h p hp e)
theorem GK.drop {L : List (Nat × Nat × Obj)} {k : Nat} {Y : World} (h : ∀ p ∈ L, p.1 ≠ k) : GK L k Y := fun p hp e => absurd e (h p hp)
theorem GK.drew {L : List (Nat × Nat × Obj)} {k : Nat} {w : World} (h : GK L k w) : GK L k w.drew := fun p hp e => h p hp e
theorem GK.set {L : List (Nat × Nat × Obj)} {k b off : Nat} {X : World} {v : Value} (h : GK L k X) (hn : ∀ p ∈ L, p.1 = k → p.2.1 ≠ b) : GK L k (X.setCell ⟨b, off, none⟩ v) := fun p hp e => blk_set_other (h p hp e) (fun hh => hn p hp e hh.symm) _ _
theorem GK.alloc {L : List (Nat × Nat × Obj)} {k : Nat} {X : World} (h : GK L k X) (o : Obj) : GK L k (X.alloc o) := fun p hp e => blk_alloc (h p hp e) o
end Go.Proofs.YtfangplfbbgphaaGreatDoor
namespace Go.Proofs.YtfangplfbbgphaaGreatDoor
open Go.ChangeShapes Go.WideShapes Go.ChangeAt Go.RowKit
set_option linter.unusedVariables false
set_option maxRecDepth 100000
set_option linter.unusedSimpArgs false
attribute [local go_sem ↓] Go.wp_at_zero Go.wp_at_succ
theorem okF_neg (n d : Int) : okF (-n) d = okF n d := by
 unfold okF
 rw [Int.natAbs_neg]
 congr 1
 exact decide_eq_decide.2 (by omega)
theorem errB_yes {an ad bn bd : Int} (h : okF an ad = true) (h' : okF bn bd = true) : errB an ad bn bd = 0 := by
 unfold errB errF
 rw [h, h']; rfl
theorem okV_x {v : V6} (h : okV v = true) : okF v.x1 v.x2 = true ∧ okF v.y1 v.y2 = true ∧ okF v.z1 v.z2 = true := by
 unfold okV at h
 simpa using h
def negV (v : V6) : V6 := ⟨-v.x1, v.x2, -v.y1, v.y2, -v.z1, v.z2⟩
theorem okV_neg {v : V6} (h : okV v = true) : okV (negV v) = true := by
 obtain ⟨h1, h2, h3⟩ := okV_x h
 unfold okV negV
 rw [okF_neg, okF_neg, okF_neg, h1, h2, h3]; rfl
def addV (v u : V6) : V6 := ⟨(addR v.x1 v.x2 u.x1 u.x2).1, (addR v.x1 v.x2 u.x1 u.x2).2.1, (addR v.y1 v.y2 u.y1 u.y2).1, (addR v.y1 v.y2 u.y1 u.y2).2.1, (addR v.z1 v.z2 u.z1 u.z2).1, (addR v.z1 v.z2 u.z1 u.z2).2.1⟩
def subV (v u : V6) : V6 := ⟨(subR v.x1 v.x2 u.x1 u.x2).1, (subR v.x1 v.x2 u.x1 u.x2).2.1, (subR v.y1 v.y2 u.y1 u.y2).1, (subR v.y1 v.y2 u.y1 u.y2).2.1, (subR v.z1 v.z2 u.z1 u.z2).1, (subR v.z1 v.z2 u.z1 u.z2).2.1⟩
structure AddOk (v u : V6) : Prop where
 ov : okV v = true
 ou : okV u = true
 x : (addR v.x1 v.x2 u.x1 u.x2).2.2 = 0
 y : (addR v.y1 v.y2 u.y1 u.y2).2.2 = 0
 z : (addR v.z1 v.z2 u.z1 u.z2).2.2 = 0
structure SubOk (v u : V6) : Prop where
 ov : okV v = true
 ou : okV u = true
 x : (subR v.x1 v.x2 u.x1 u.x2).2.2 = 0
 y : (subR v.y1 v.y2 u.y1 u.y2).2.2 = 0
 z : (subR v.z1 v.z2 u.z1 u.z2).2.2 = 0
theorem subR_neg {an ad bn bd : Int} (h : okF an ad = true) (h' : okF bn bd = true) : addR an ad (-bn) bd = subR an ad bn bd := by
 unfold addR subR
 rw [errB_yes h h', errB_yes h (by rw [okF_neg]; exact h')]
theorem SubOk.neg {v u : V6} (h : SubOk v u) : AddOk v (negV u) ∧ addV v (negV u) = subV v u := by
 obtain ⟨a1, a2, a3⟩ := okV_x h.ov
 obtain ⟨b1, b2, b3⟩ := okV_x h.ou
 have ex : addR v.x1 v.x2 (negV u).x1 (negV u).x2 = subR v.x1 v.x2 u.x1 u.x2 := subR_neg a1 b1
 have ey : addR v.y1 v.y2 (negV u).y1 (negV u).y2 = subR v.y1 v.y2 u.y1 u.y2 := subR_neg a2 b2
 have ez : addR v.z1 v.z2 (negV u).z1 (negV u).z2 = subR v.z1 v.z2 u.z1 u.z2 := subR_neg a3 b3
 refine ⟨⟨h.ov, okV_neg h.ou, by rw [ex]; exact h.x, by rw [ey]; exact h.y, by rw [ez]; exact h.z⟩, ?_⟩
 unfold addV subV
 rw [ex, ey, ez]
end Go.Proofs.YtfangplfbbgphaaGreatDoor
namespace Go.Proofs.YtfangplfbbgphaaGreatDoor
set_option linter.unusedVariables false
set_option maxRecDepth 100000
theorem okF_VF {n d : Int} (h : okF n d = true) : VF n d := errF_ok (by unfold errF; rw [h]; rfl)
theorem VF_okF {n d : Int} (h : VF n d) : okF n d = true := by
 unfold okF
 rw [h.g, decide_eq_true ⟨h.d1, h.d2, h.n1, h.n2⟩]; rfl
end Go.Proofs.YtfangplfbbgphaaGreatDoor
namespace Go.Proofs.YtfangplfbbgphaaGreatDoor
open Go
set_option linter.unusedVariables false
theorem dec_small {u : Nat} (h : u < 10) : Lib.decDigits u = [UInt8.ofNat (48 + u)] := by rw [Lib.decDigits, dif_pos h]
theorem dec_big {u : Nat} (h : ¬ u < 10) : Lib.decDigits u = Lib.decDigits (u / 10) ++ [UInt8.ofNat (48 + u % 10)] := by rw [Lib.decDigits, dif_neg h]
theorem dig_nat {k : Nat} (h : k < 10) : (UInt8.ofNat (48 + k)).toNat = 48 + k := by
 rw [UInt8.toNat_ofNat']; omega
theorem dec_digit : ∀ (n u : Nat), u < n → ∀ c ∈ Lib.decDigits u, 48 ≤ c.toNat ∧ c.toNat ≤ 57 := by
 intro n
 induction n with
 | zero => intro u h; omega
 | succ n ih =>
  intro u h c hc
  by_cases hu : u < 10
  ·rw [dec_small hu] at hc
   simp only [List.mem_singleton] at hc
   subst hc
   rw [dig_nat hu]; omega
  ·rw [dec_big hu] at hc
   rcases List.mem_append.1 hc with h1 | h1
   ·exact ih (u / 10) (by omega) c h1
   ·simp only [List.mem_singleton] at h1
    subst h1
    rw [dig_nat (by omega)]; omega
theorem dec_ne (u : Nat) : Lib.decDigits u ≠ [] := by
 by_cases hu : u < 10
 ·rw [dec_small hu]; simp
 ·rw [dec_big hu]; simp
def spell (acc : Nat) (l : List UInt8) : Nat := l.foldl (fun a c => a * 10 + (c.toNat - 48)) acc
theorem spell_cons (acc : Nat) (c : UInt8) (l : List UInt8) : spell acc (c :: l) = spell (acc * 10 + (c.toNat - 48)) l := by unfold spell; rw [List.foldl_cons]
theorem spell_snoc (acc : Nat) (l : List UInt8) (c : UInt8) : spell acc (l ++ [c]) = spell acc l * 10 + (c.toNat - 48) := by unfold spell; rw [List.foldl_append, List.foldl_cons, List.foldl_nil]
theorem spell_ge : ∀ (l : List UInt8) (acc : Nat), acc ≤ spell acc l
 | [], acc => Nat.le_refl _
 | c :: l, acc => by
  rw [spell_cons]
  exact Nat.le_trans (by omega) (spell_ge l (acc * 10 + (c.toNat - 48)))
theorem spell_dec : ∀ (n u : Nat), u < n → spell 0 (Lib.decDigits u) = u := by
 intro n
 induction n with
 | zero => intro u h; omega
 | succ n ih =>
  intro u h
  by_cases hu : u < 10
  ·rw [dec_small hu, show [UInt8.ofNat (48 + u)] = [] ++ [UInt8.ofNat (48 + u)] from rfl, spell_snoc, dig_nat hu]
   simp [spell]
  ·rw [dec_big hu, spell_snoc, ih (u / 10) (by omega), dig_nat (by omega)]
   omega
theorem parseU_spell {M : Nat} (hM : M = 18446744073709551615) : ∀ (l : List UInt8) (acc : Nat), (∀ c ∈ l, 48 ≤ c.toNat ∧ c.toNat ≤ 57) → spell acc l ≤ M → Lib.parseUintM M acc l = .ok (spell acc l)
 | [], acc, _, _ => rfl
 | c :: l, acc, hd, hs => by
  have h1 := hd c (by simp)
  rw [spell_cons] at hs ⊢
  have h2 := spell_ge l (acc * 10 + (c.toNat - 48))
  unfold Lib.parseUintM
  rw [if_pos h1, if_neg (by omega), if_neg (by omega)]
  exact parseU_spell hM l _ (fun x hx => hd x (by simp [hx])) hs
theorem parseI_minus {r : List UInt8} {u : Nat} (h : Lib.parseUintB 64 r = .ok u) (hu : u ≤ 9223372036854775808) : Lib.parseIntB 64 (45 :: r) = .ok (-(u : Int)) := by
 unfold Lib.parseIntB
 have e : (if (45 : UInt8).toNat = 43 ∨ (45 : UInt8).toNat = 45 then r else 45 :: r) = r := if_pos (.inr rfl)
 simp only [e, h]
 have n : (45 : UInt8).toNat = 45 := rfl
 rw [if_neg (fun k => k.1 n), if_neg (fun k => by have := k.2; rw [show (2 : Nat) ^ (64 - 1) = 9223372036854775808 from rfl] at this; omega), if_pos n]
theorem parseI_plain {c : UInt8} {r : List UInt8} {u : Nat} (hc : 48 ≤ c.toNat) (h : Lib.parseUintB 64 (c :: r) = .ok u) (hu : u < 9223372036854775808) : Lib.parseIntB 64 (c :: r) = .ok (u : Int) := by
 unfold Lib.parseIntB
 have e : (if c.toNat = 43 ∨ c.toNat = 45 then r else c :: r) = c :: r := if_neg (by omega)
 simp only [e, h]
 rw [if_neg (fun k => by have := k.2; rw [show (2 : Nat) ^ (64 - 1) = 9223372036854775808 from rfl] at this; omega), if_neg (fun k => by have := k.1; omega), if_neg (by omega)]
theorem parseI_itoa {n : Int} (h1 : -9223372036854775808 ≤ n) (h2 : n ≤ 9223372036854775807) : Lib.parseIntB 64 (Lib.itoa n) = .ok n := by
 have U : ∀ u : Nat, u ≤ 9223372036854775808 → Lib.parseUintB 64 (Lib.decDigits u) = .ok u := fun u hu => by
  unfold Lib.parseUintB
  have hs := spell_dec (u + 1) u (by omega)
  rw [if_neg (dec_ne u), parseU_spell (by decide) _ _ (dec_digit (u + 1) u (by omega)) (by rw [hs]; omega), hs]
 by_cases hn : n < 0
 ·have e : Lib.itoa n = 45 :: Lib.decDigits n.natAbs := by unfold Lib.itoa; rw [if_pos hn]
  rw [e, parseI_minus (U n.natAbs (by omega)) (by omega)]
  congr 1; omega
 ·have e : Lib.itoa n = Lib.decDigits n.toNat := by unfold Lib.itoa; rw [if_neg hn]
  rw [e]
  have u := U n.toNat (by omega)
  have dg := dec_digit (n.toNat + 1) n.toNat (by omega)
  cases hl : Lib.decDigits n.toNat with
  | nil => exact absurd hl (dec_ne _)
  | cons c r =>
   rw [hl] at u dg
   rw [parseI_plain (dg c (by simp)).1 u (by omega)]
   congr 1; omega
theorem itoa_byte {n : Int} : ∀ c ∈ Lib.itoa n, c ≠ 47 := fun c hc e => by
 subst e
 unfold Lib.itoa at hc
 have t : (47 : UInt8).toNat = 47 := rfl
 split at hc
 ·rcases List.mem_cons.1 hc with h | h
  ·cases h
  ·have := dec_digit (n.natAbs + 1) n.natAbs (by omega) _ h; omega
 ·have := dec_digit (n.toNat + 1) n.toNat (by omega) _ hc; omega
def textL (n d : Int) : List UInt8 := if d = 1 then Lib.itoa n else Lib.itoa n ++ 47 :: Lib.itoa d
theorem byte_none : ∀ (l : List UInt8) (c : UInt8), (∀ x ∈ l, x ≠ c) → Lib.indexByte l c = -1
 | [], _, _ => rfl
 | b :: l, c, h => by
  have hb : (b == c) = false := by rw [beq_eq_false_iff_ne]; exact h b (by simp)
  unfold Lib.indexByte
  rw [hb, byte_none l c (fun x hx => h x (by simp [hx]))]
  rfl
theorem byte_at : ∀ (l : List UInt8) (c : UInt8) (r : List UInt8), (∀ x ∈ l, x ≠ c) → Lib.indexByte (l ++ c :: r) c = (l.length : Int)
 | [], c, r, _ => by simp [Lib.indexByte]
 | b :: l, c, r, h => by
  have hb : (b == c) = false := by rw [beq_eq_false_iff_ne]; exact h b (by simp)
  have ih := byte_at l c r (fun x hx => h x (by simp [hx]))
  rw [List.cons_append]
  unfold Lib.indexByte
  rw [hb, ih]
  have : ((l.length : Int) == -1) = false := by rw [beq_eq_false_iff_ne]; omega
  rw [this]
  simp
theorem cut_none {l : List UInt8} (h : ∀ x ∈ l, x ≠ 47) : Lib.cut l [47] = (l, [], false) := by
 unfold Lib.cut
 rw [Lib.index_one, byte_none l 47 h, if_neg (by decide)]
theorem cut_at {l r : List UInt8} (h : ∀ x ∈ l, x ≠ 47) : Lib.cut (l ++ 47 :: r) [47] = (l, r, true) := by
 unfold Lib.cut
 rw [Lib.index_one, byte_at l 47 r h, if_pos (by omega)]
 simp [List.drop_append]
theorem cut_text (n d : Int) : Lib.cut (textL n d) [47] = (Lib.itoa n, if d = 1 then [] else Lib.itoa d, !decide (d = 1)) := by
 unfold textL
 by_cases h : d = 1
 ·rw [if_pos h, if_pos h, cut_none itoa_byte]; simp [h]
 ·rw [if_neg h, if_neg h, cut_at itoa_byte]; simp [h]
theorem text_len {n d : Int} (v : VF n d) : (textL n d).length ≤ 40 := by
 have L : ∀ x : Int, -1000000000000000000 ≤ x → x ≤ 1000000000000000000 → (Lib.itoa x).length ≤ 20 ∧ (0 ≤ x → (Lib.itoa x).length ≤ 19) := by
  intro x h1 h2
  have D : ∀ (k u : Nat), u < 10 ^ (k + 1) → (Lib.decDigits u).length ≤ k + 1 := by
   intro k
   induction k with
   | zero => intro u hu; rw [dec_small (by simpa using hu)]; simp
   | succ k ih =>
    intro u hu
    by_cases h : u < 10
    ·rw [dec_small h]; simp
    ·rw [dec_big h, List.length_append]
     have := ih (u / 10) (by rw [Nat.pow_succ] at hu; omega)
     simp; omega
  unfold Lib.itoa
  split
  ·have := D 18 x.natAbs (by omega)
   simp; omega
  ·have := D 18 x.toNat (by omega)
   omega
 have a := L n v.n1 v.n2
 have b := L d (by have := v.d1; omega) v.d2
 have b2 := b.2 (by have := v.d1; omega)
 unfold textL
 split
 ·omega
 ·simp; omega
def PR (l : List UInt8) (r : Int × Int × Int) : Prop := (r.2.2 = 0 ∧ VF r.1 r.2.1 ∧ textL r.1 r.2.1 = l) ∨ (r = (0, 0, 12) ∧ ∀ n d, VF n d → textL n d ≠ l)
theorem text_inj {n d m k : Int} (v : VF n d) (u : VF m k) (h : textL n d = textL m k) : n = m ∧ d = k := by
 have c := congrArg (fun l => Lib.cut l [47]) h
 simp only [cut_text, Prod.mk.injEq] at c
 obtain ⟨c1, c2, c3⟩ := c
 have vn := parseI_itoa (n := n) (by have := v.n1; omega) (by have := v.n2; omega)
 have um := parseI_itoa (n := m) (by have := u.n1; omega) (by have := u.n2; omega)
 have vd := parseI_itoa (n := d) (by have := v.d1; omega) (by have := v.d2; omega)
 have uk := parseI_itoa (n := k) (by have := u.d1; omega) (by have := u.d2; omega)
 rw [c1, um] at vn
 refine ⟨by cases vn; rfl, ?_⟩
 by_cases h1 : d = 1
 ·by_cases h2 : k = 1
  ·omega
  ·simp [h1, h2] at c3
 ·by_cases h2 : k = 1
  ·simp [h1, h2] at c3
  ·rw [if_neg h1, if_neg h2] at c2
   rw [c2, uk] at vd
   cases vd; rfl
theorem PR.unique {l : List UInt8} {r r' : Int × Int × Int} (h : PR l r) (h' : PR l r') : r = r' := by
 obtain ⟨a, b, c⟩ := r
 obtain ⟨a', b', c'⟩ := r'
 rcases h with ⟨h1, h2, h3⟩ | ⟨h1, h2⟩
 ·rcases h' with ⟨k1, k2, k3⟩ | ⟨k1, k2⟩
  ·obtain ⟨e1, e2⟩ := text_inj h2 k2 (h3.trans k3.symm)
   simp only at h1 k1 e1 e2
   rw [h1, k1, e1, e2]
  ·exact absurd h3 (k2 _ _ h2)
 ·rcases h' with ⟨k1, k2, k3⟩ | ⟨k1, k2⟩
  ·exact absurd k3 (h2 _ _ k2)
  ·rw [h1, k1]
end Go.Proofs.YtfangplfbbgphaaGreatDoor
namespace Go.Proofs
open Go.Shelf
def Tryz.lays169_ren : Go.Shelf.Ren := ⟨fun | 169 => 53 | n => n, fun | 70 => 107 | 9 => 9 | 0 => 0 | 72 => 110 | 37 => 108 | 127 => 140 | 3 => 3 | 5 => 5 | n => n, fun | n => n⟩
theorem Tryz.lays169 : Go.Proofs.Lays.n169 Tryz.prog Tryz.lays169_ren := {
 mixed := by kernel_rfl
 f169 := Tryz.func53.trans (congrArg some (by kernel_rfl))
 t0 := Tryz.underlying0
 a0 := Tryz.isAgg0
 z0 := Tryz.sizeOf0
 v0 := Tryz.zeroValue0
 t3 := Tryz.underlying3
 a3 := Tryz.isAgg3
 z3 := Tryz.sizeOf3
 v3 := Tryz.zeroValue3
 t9 := Tryz.underlying9
 a9 := Tryz.isAgg9
 z9 := Tryz.sizeOf9
 v9 := Tryz.zeroValue9
 t37 := Tryz.underlying108
 a37 := Tryz.isAgg108
 z37 := Tryz.sizeOf108
 v37 := Tryz.zeroValue108
 t70 := Tryz.underlying107
 a70 := Tryz.isAgg107
 z70 := Tryz.sizeOf107
 v70 := Tryz.zeroValue107
 t72 := Tryz.underlying110
 a72 := Tryz.isAgg110
 z72 := Tryz.sizeOf110
 v72 := Tryz.zeroValue110
 t127 := Tryz.underlying140
 a127 := Tryz.isAgg140
 z127 := Tryz.sizeOf140
 v127 := Tryz.zeroValue140 }
theorem Tryz.Builder_Extra_169 : Builder.Extra Tryz.prog Tryz.lays169_ren := {
 sizeBuilder := by kernel_rfl
 liesBuilder := by kernel_rfl
 t5 := Tryz.underlying5
 a5 := Tryz.isAgg5
 z5 := Tryz.sizeOf5
 v5 := Tryz.zeroValue5
 infoByte := by kernel_rfl
 cellsByte := by kernel_rfl
 sizeByte := by kernel_rfl
 neB5 := by decide }
open Go.RowKit in
theorem Tryz.Builder_String_any (B b : Nat) (l : List UInt8) (w : World) (h : Lib.IsBuilder 110 5 B b (Lib.byteCells l) w) (hBw : B ≤ w.heap.size) :
  Calls Tryz.prog 53 #[.pointer (some ⟨b, 0, none⟩)] w fun e w' => e = .returned (.string ⟨l.toArray⟩) ∧ Below B w w' := Any.Builder_String_any Tryz.lays169 Tryz.Builder_Extra_169 B b l w h hBw
def Tryz.laysM173_ren : Go.Shelf.Ren := ⟨fun | 173 => 76 | 246 => 111 | 283 => 128 | 284 => 129 | 285 => 130 | 286 => 131 | 129 => 138 | 317 => 139 | 318 => 140 | 319 => 141 | 320 => 142 | 337 => 150 | 338 => 151 | n => n, fun | 2 => 2 | 3 => 3 | 9 => 9 | 4 => 4 | 171 => 188 | 0 => 0 | 53 => 150 | 37 => 108 | 5 => 5 | 173 => 190 | 212 => 196 | 51 => 197 | 20 => 20 | 213 => 198 | 46 => 183 | 232 => 214 | 233 => 215 | n => n, fun | 17 => 3 | 18 => 6 | 19 => 7 | n => n⟩
theorem Tryz.laysM173 : Go.Proofs.LaysM.n173 Tryz.prog Tryz.laysM173_ren := {
 mixed := by kernel_rfl
 f129 := Tryz.func138.trans (congrArg some (by kernel_rfl))
 f173 := Tryz.func76.trans (congrArg some (by kernel_rfl))
 f246 := Tryz.func111.trans (congrArg some (by kernel_rfl))
 f283 := Tryz.func128.trans (congrArg some (by kernel_rfl))
 f284 := Tryz.func129.trans (congrArg some (by kernel_rfl))
 f285 := Tryz.func130.trans (congrArg some (by kernel_rfl))
 f286 := Tryz.func131.trans (congrArg some (by kernel_rfl))
 f317 := Tryz.func139.trans (congrArg some (by kernel_rfl))
 f318 := Tryz.func140.trans (congrArg some (by kernel_rfl))
 f319 := Tryz.func141.trans (congrArg some (by kernel_rfl))
 f320 := Tryz.func142.trans (congrArg some (by kernel_rfl))
 f337 := Tryz.func150.trans (congrArg some (by kernel_rfl))
 f338 := Tryz.func151.trans (congrArg some (by kernel_rfl))
 t0 := Tryz.underlying0
 a0 := Tryz.isAgg0
 z0 := Tryz.sizeOf0
 v0 := Tryz.zeroValue0
 t2 := Tryz.underlying2
 a2 := Tryz.isAgg2
 z2 := Tryz.sizeOf2
 v2 := Tryz.zeroValue2
 t3 := Tryz.underlying3
 a3 := Tryz.isAgg3
 z3 := Tryz.sizeOf3
 v3 := Tryz.zeroValue3
 t4 := Tryz.underlying4
 a4 := Tryz.isAgg4
 z4 := Tryz.sizeOf4
 v4 := Tryz.zeroValue4
 t5 := Tryz.underlying5
 a5 := Tryz.isAgg5
 z5 := Tryz.sizeOf5
 v5 := Tryz.zeroValue5
 t9 := Tryz.underlying9
 a9 := Tryz.isAgg9
 z9 := Tryz.sizeOf9
 v9 := Tryz.zeroValue9
 t20 := Tryz.underlying20
 a20 := Tryz.isAgg20
 z20 := Tryz.sizeOf20
 v20 := Tryz.zeroValue20
 t37 := Tryz.underlying108
 a37 := Tryz.isAgg108
 z37 := Tryz.sizeOf108
 v37 := Tryz.zeroValue108
 t46 := Tryz.underlying183
 a46 := Tryz.isAgg183
 z46 := Tryz.sizeOf183
 v46 := Tryz.zeroValue183
 t51 := Tryz.underlying197
 a51 := Tryz.isAgg197
 z51 := Tryz.sizeOf197
 v51 := Tryz.zeroValue197
 t53 := Tryz.underlying150
 a53 := Tryz.isAgg150
 z53 := Tryz.sizeOf150
 v53 := Tryz.zeroValue150
 t171 := Tryz.underlying188
 a171 := Tryz.isAgg188
 z171 := Tryz.sizeOf188
 v171 := Tryz.zeroValue188
 t173 := Tryz.underlying190
 a173 := Tryz.isAgg190
 z173 := Tryz.sizeOf190
 v173 := Tryz.zeroValue190
 t212 := Tryz.underlying196
 a212 := Tryz.isAgg196
 z212 := Tryz.sizeOf196
 v212 := Tryz.zeroValue196
 t213 := Tryz.underlying198
 a213 := Tryz.isAgg198
 z213 := Tryz.sizeOf198
 t232 := Tryz.underlying214
 a232 := Tryz.isAgg214
 z232 := Tryz.sizeOf214
 v232 := Tryz.zeroValue214
 t233 := Tryz.underlying215
 a233 := Tryz.isAgg215
 z233 := Tryz.sizeOf215
 v233 := Tryz.zeroValue215
 g17 := by kernel_rfl
 g18 := by kernel_rfl
 g19 := by kernel_rfl
 i0 := by kernel_rfl
 i2 := by kernel_rfl
 i3 := by kernel_rfl
 i4 := by kernel_rfl
 i5 := by kernel_rfl
 i9 := by kernel_rfl
 i20 := by kernel_rfl
 i37 := by kernel_rfl
 i46 := by kernel_rfl
 i51 := by kernel_rfl
 i53 := by kernel_rfl
 i171 := by kernel_rfl
 i173 := by kernel_rfl
 i212 := by kernel_rfl
 i232 := by kernel_rfl
 i233 := by kernel_rfl
 m17 := by kernel_rfl
 m18 := by kernel_rfl
 m19 := by kernel_rfl }
open Go.RowKit Go.Sort Go.Lib in
theorem Tryz.strconv_FormatInt_10 (n : Int) (h0 : -9223372036854775808 ≤ n) (h1 : n ≤ 9223372036854775807) (w : World) (htab : Lib.TabIs Tryz.prog w "internal/strconv.uint64pow10" .u64 Lib.pow10Tab) :
  Calls Tryz.prog 76 #[.int .i64 n, .int .i64 10] w fun e w' => e = .returned (.string ⟨(Lib.itoa n).toArray⟩) ∧ ∃ k os, w' = grow (w.drewN k) os := Any.strconv_FormatInt_10 Tryz.laysM173 n h0 h1 w htab
def Tryz.laysC174_ren : Go.Shelf.Ren := ⟨fun | 174 => 117 | 247 => 136 | 245 => 137 | 287 => 145 | 279 => 146 | 280 => 147 | 281 => 148 | 282 => 149 | 321 => 152 | 322 => 153 | 316 => 118 | 171 => 155 | 205 => 154 | 243 => 156 | 246 => 111 | 283 => 128 | 284 => 129 | 285 => 130 | 286 => 131 | 129 => 138 | 317 => 139 | 318 => 140 | 319 => 141 | 320 => 142 | 337 => 150 | 338 => 151 | n => n, fun | 9 => 9 | 3 => 3 | 2 => 2 | 75 => 113 | 85 => 175 | 4 => 4 | 167 => 203 | 5 => 5 | 53 => 150 | 175 => 204 | 46 => 183 | 168 => 206 | 37 => 108 | 0 => 0 | 210 => 212 | 21 => 21 | 127 => 140 | 145 => 218 | 143 => 216 | 171 => 188 | 173 => 190 | 212 => 196 | 51 => 197 | 20 => 20 | 213 => 198 | 232 => 214 | 233 => 215 | 80 => 116 | n => n, fun | 15 => 4 | 16 => 5 | 17 => 3 | 18 => 6 | 19 => 7 | n => n⟩
theorem Tryz.laysC174 : Go.Proofs.LaysC.n174 Tryz.prog Tryz.laysC174_ren := {
 mixed := by kernel_rfl
 f129 := Tryz.func138.trans (congrArg some (by kernel_rfl))
 f171 := Tryz.func155.trans (congrArg some (by kernel_rfl))
 f174 := Tryz.func117.trans (congrArg some (by kernel_rfl))
 f205 := Tryz.func154.trans (congrArg some (by kernel_rfl))
 f243 := Tryz.func156.trans (congrArg some (by kernel_rfl))
 f245 := Tryz.func137.trans (congrArg some (by kernel_rfl))
 f246 := Tryz.func111.trans (congrArg some (by kernel_rfl))
 f247 := Tryz.func136.trans (congrArg some (by kernel_rfl))
 f279 := Tryz.func146.trans (congrArg some (by kernel_rfl))
 f280 := Tryz.func147.trans (congrArg some (by kernel_rfl))
 f281 := Tryz.func148.trans (congrArg some (by kernel_rfl))
 f282 := Tryz.func149.trans (congrArg some (by kernel_rfl))
 f283 := Tryz.func128.trans (congrArg some (by kernel_rfl))
 f284 := Tryz.func129.trans (congrArg some (by kernel_rfl))
 f285 := Tryz.func130.trans (congrArg some (by kernel_rfl))
 f286 := Tryz.func131.trans (congrArg some (by kernel_rfl))
 f287 := Tryz.func145.trans (congrArg some (by kernel_rfl))
 f316 := Tryz.func118.trans (congrArg some (by kernel_rfl))
 f317 := Tryz.func139.trans (congrArg some (by kernel_rfl))
 f318 := Tryz.func140.trans (congrArg some (by kernel_rfl))
 f319 := Tryz.func141.trans (congrArg some (by kernel_rfl))
 f320 := Tryz.func142.trans (congrArg some (by kernel_rfl))
 f321 := Tryz.func152.trans (congrArg some (by kernel_rfl))
 f322 := Tryz.func153.trans (congrArg some (by kernel_rfl))
 f337 := Tryz.func150.trans (congrArg some (by kernel_rfl))
 f338 := Tryz.func151.trans (congrArg some (by kernel_rfl))
 t0 := Tryz.underlying0
 a0 := Tryz.isAgg0
 z0 := Tryz.sizeOf0
 v0 := Tryz.zeroValue0
 t2 := Tryz.underlying2
 a2 := Tryz.isAgg2
 z2 := Tryz.sizeOf2
 v2 := Tryz.zeroValue2
 t3 := Tryz.underlying3
 a3 := Tryz.isAgg3
 z3 := Tryz.sizeOf3
 v3 := Tryz.zeroValue3
 t4 := Tryz.underlying4
 a4 := Tryz.isAgg4
 z4 := Tryz.sizeOf4
 v4 := Tryz.zeroValue4
 t5 := Tryz.underlying5
 a5 := Tryz.isAgg5
 z5 := Tryz.sizeOf5
 v5 := Tryz.zeroValue5
 t9 := Tryz.underlying9
 a9 := Tryz.isAgg9
 z9 := Tryz.sizeOf9
 v9 := Tryz.zeroValue9
 t20 := Tryz.underlying20
 a20 := Tryz.isAgg20
 z20 := Tryz.sizeOf20
 v20 := Tryz.zeroValue20
 t21 := Tryz.underlying21
 a21 := Tryz.isAgg21
 z21 := Tryz.sizeOf21
 v21 := Tryz.zeroValue21
 t37 := Tryz.underlying108
 a37 := Tryz.isAgg108
 z37 := Tryz.sizeOf108
 v37 := Tryz.zeroValue108
 t46 := Tryz.underlying183
 a46 := Tryz.isAgg183
 z46 := Tryz.sizeOf183
 v46 := Tryz.zeroValue183
 t51 := Tryz.underlying197
 a51 := Tryz.isAgg197
 z51 := Tryz.sizeOf197
 v51 := Tryz.zeroValue197
 t53 := Tryz.underlying150
 a53 := Tryz.isAgg150
 z53 := Tryz.sizeOf150
 v53 := Tryz.zeroValue150
 t75 := Tryz.underlying113
 a75 := Tryz.isAgg113
 z75 := Tryz.sizeOf113
 v75 := Tryz.zeroValue113
 t85 := Tryz.underlying175
 a85 := Tryz.isAgg175
 z85 := Tryz.sizeOf175
 v85 := Tryz.zeroValue175
 t127 := Tryz.underlying140
 a127 := Tryz.isAgg140
 z127 := Tryz.sizeOf140
 v127 := Tryz.zeroValue140
 t143 := Tryz.underlying216
 a143 := Tryz.isAgg216
 z143 := Tryz.sizeOf216
 v143 := Tryz.zeroValue216
 t145 := Tryz.underlying218
 a145 := Tryz.isAgg218
 z145 := Tryz.sizeOf218
 v145 := Tryz.zeroValue218
 t167 := Tryz.underlying203
 a167 := Tryz.isAgg203
 z167 := Tryz.sizeOf203
 v167 := Tryz.zeroValue203
 t168 := Tryz.underlying206
 a168 := Tryz.isAgg206
 z168 := Tryz.sizeOf206
 v168 := Tryz.zeroValue206
 t171 := Tryz.underlying188
 a171 := Tryz.isAgg188
 z171 := Tryz.sizeOf188
 v171 := Tryz.zeroValue188
 t173 := Tryz.underlying190
 a173 := Tryz.isAgg190
 z173 := Tryz.sizeOf190
 v173 := Tryz.zeroValue190
 t175 := Tryz.underlying204
 a175 := Tryz.isAgg204
 z175 := Tryz.sizeOf204
 v175 := Tryz.zeroValue204
 t210 := Tryz.underlying212
 a210 := Tryz.isAgg212
 z210 := Tryz.sizeOf212
 v210 := Tryz.zeroValue212
 t212 := Tryz.underlying196
 a212 := Tryz.isAgg196
 z212 := Tryz.sizeOf196
 v212 := Tryz.zeroValue196
 t213 := Tryz.underlying198
 a213 := Tryz.isAgg198
 z213 := Tryz.sizeOf198
 t232 := Tryz.underlying214
 a232 := Tryz.isAgg214
 z232 := Tryz.sizeOf214
 v232 := Tryz.zeroValue214
 t233 := Tryz.underlying215
 a233 := Tryz.isAgg215
 z233 := Tryz.sizeOf215
 v233 := Tryz.zeroValue215
 g15 := by kernel_rfl
 g16 := by kernel_rfl
 g17 := by kernel_rfl
 g18 := by kernel_rfl
 g19 := by kernel_rfl
 t80 := Tryz.underlying116
 a80 := Tryz.isAgg116
 z80 := Tryz.sizeOf116
 v80 := Tryz.zeroValue116
 i0 := by kernel_rfl
 i2 := by kernel_rfl
 i3 := by kernel_rfl
 i4 := by kernel_rfl
 i5 := by kernel_rfl
 i9 := by kernel_rfl
 i20 := by kernel_rfl
 i21 := by kernel_rfl
 i37 := by kernel_rfl
 i46 := by kernel_rfl
 i51 := by kernel_rfl
 i53 := by kernel_rfl
 i75 := by kernel_rfl
 i80 := by kernel_rfl
 i85 := by kernel_rfl
 i127 := by kernel_rfl
 i143 := by kernel_rfl
 i145 := by kernel_rfl
 i167 := by kernel_rfl
 i168 := by kernel_rfl
 i171 := by kernel_rfl
 i173 := by kernel_rfl
 i175 := by kernel_rfl
 i210 := by kernel_rfl
 i212 := by kernel_rfl
 i232 := by kernel_rfl
 i233 := by kernel_rfl
 m15 := by kernel_rfl
 m16 := by kernel_rfl
 m17 := by kernel_rfl
 m18 := by kernel_rfl
 m19 := by kernel_rfl
 c0 := by kernel_rfl
 c2 := by kernel_rfl
 c3 := by kernel_rfl
 c4 := by kernel_rfl
 c5 := by kernel_rfl
 c9 := by kernel_rfl
 c20 := by kernel_rfl
 c21 := by kernel_rfl
 c37 := by kernel_rfl
 c46 := by kernel_rfl
 c51 := by kernel_rfl
 c53 := by kernel_rfl
 c75 := by kernel_rfl
 c80 := by kernel_rfl
 c85 := by kernel_rfl
 c127 := by kernel_rfl
 c143 := by kernel_rfl
 c145 := by kernel_rfl
 c167 := by kernel_rfl
 c168 := by kernel_rfl
 c171 := by kernel_rfl
 c173 := by kernel_rfl
 c175 := by kernel_rfl
 c210 := by kernel_rfl
 c212 := by kernel_rfl
 c213 := by kernel_rfl
 c232 := by kernel_rfl
 c233 := by kernel_rfl }
open Go.RowKit in
theorem Tryz.strconv_ParseInt_10_at64_ok (s : ByteArray) (hmax : s.size ≤ 9223372036854775806) (v : Int) (h : Lib.parseIntB 64 s.data.toList = .ok v) (w : World) :
  Calls Tryz.prog 117 #[.string s, .int .i64 10, .int .i64 64] w fun e w' => e = .returned (.tuple #[.int .i64 v, .nilIface]) ∧ (w' = w ∨ ∃ t, w' = Lib.bytesWorld w 5 t) := Any.strconv_ParseInt_10_at64_ok Tryz.laysC174 s hmax v h w
open Go.RowKit in
theorem Tryz.strconv_ParseInt_10_at64_syntax_var (s : ByteArray) (hlim : s.size ≤ 281474976710656) (h : (∀ v, Lib.parseIntB 64 s.data.toList ≠ .ok v) ∧ Lib.parseIntB 64 s.data.toList ≠ .range) (tp : TypeId) (p : Value) (w : World) (hvar : w.var? Tryz.prog "strconv.ErrSyntax" = some #[.iface tp p]) :
  Calls Tryz.prog 117 #[.string s, .int .i64 10, .int .i64 64] w fun e w' => ∃ N, e = .returned (.tuple #[.int .i64 (0), .iface 206 (.pointer (some ⟨N, 0, none⟩))]) ∧ w.heap.size ≤ N ∧ w'.heap[N]? = some (.cells #[.string ⟨#[80, 97, 114, 115, 101, 73, 110, 116]⟩, .string s, .iface tp p] 212 (0, 0)) ∧ Below w.heap.size w w' := Any.strconv_ParseInt_10_at64_syntax_var Tryz.laysC174 s hlim (by cases k : Lib.parseIntB 64 s.data.toList with | ok v => exact absurd k (h.1 v) | range => exact absurd k h.2 | _ => rfl) tp p w hvar
open Go.RowKit in
theorem Tryz.strconv_ParseInt_10_at64_range_var (s : ByteArray) (hlim : s.size ≤ 281474976710656) (h : Lib.parseIntB 64 s.data.toList = .range) (tp : TypeId) (p : Value) (w : World) (hvar : w.var? Tryz.prog "strconv.ErrRange" = some #[.iface tp p]) :
  Calls Tryz.prog 117 #[.string s, .int .i64 10, .int .i64 64] w fun e w' => ∃ N, e = .returned (.tuple #[.int .i64 (Lib.intSat 64 s.data.toList), .iface 206 (.pointer (some ⟨N, 0, none⟩))]) ∧ w.heap.size ≤ N ∧ w'.heap[N]? = some (.cells #[.string ⟨#[80, 97, 114, 115, 101, 73, 110, 116]⟩, .string s, .iface tp p] 212 (0, 0)) ∧ Below w.heap.size w w' := Any.strconv_ParseInt_10_at64_range_var Tryz.laysC174 s hlim h tp p w hvar
def Tryz.lays145_ren : Go.Shelf.Ren := ⟨fun | 145 => 56 | 220 => 82 | 219 => 116 | 217 => 132 | 225 => 133 | 224 => 134 | 267 => 135 | 266 => 143 | 314 => 144 | n => n, fun | 9 => 9 | 4 => 4 | 59 => 119 | 3 => 3 | 5 => 5 | 46 => 183 | 146 => 201 | 51 => 197 | n => n, fun | 1 => 2 | n => n⟩
theorem Tryz.lays145 : Go.Proofs.Lays.n145 Tryz.prog Tryz.lays145_ren := {
 mixed := by kernel_rfl
 f145 := Tryz.func56.trans (congrArg some (by kernel_rfl))
 f217 := Tryz.func132.trans (congrArg some (by kernel_rfl))
 f219 := Tryz.func116.trans (congrArg some (by kernel_rfl))
 f220 := Tryz.func82.trans (congrArg some (by kernel_rfl))
 f224 := Tryz.func134.trans (congrArg some (by kernel_rfl))
 f225 := Tryz.func133.trans (congrArg some (by kernel_rfl))
 f266 := Tryz.func143.trans (congrArg some (by kernel_rfl))
 f267 := Tryz.func135.trans (congrArg some (by kernel_rfl))
 f314 := Tryz.func144.trans (congrArg some (by kernel_rfl))
 t3 := Tryz.underlying3
 a3 := Tryz.isAgg3
 z3 := Tryz.sizeOf3
 v3 := Tryz.zeroValue3
 t4 := Tryz.underlying4
 a4 := Tryz.isAgg4
 z4 := Tryz.sizeOf4
 v4 := Tryz.zeroValue4
 t5 := Tryz.underlying5
 a5 := Tryz.isAgg5
 z5 := Tryz.sizeOf5
 v5 := Tryz.zeroValue5
 t9 := Tryz.underlying9
 a9 := Tryz.isAgg9
 z9 := Tryz.sizeOf9
 v9 := Tryz.zeroValue9
 t46 := Tryz.underlying183
 a46 := Tryz.isAgg183
 z46 := Tryz.sizeOf183
 v46 := Tryz.zeroValue183
 t51 := Tryz.underlying197
 a51 := Tryz.isAgg197
 z51 := Tryz.sizeOf197
 v51 := Tryz.zeroValue197
 t59 := Tryz.underlying119
 a59 := Tryz.isAgg119
 z59 := Tryz.sizeOf119
 v59 := Tryz.zeroValue119
 t146 := Tryz.underlying201
 a146 := Tryz.isAgg201
 z146 := Tryz.sizeOf201
 v146 := Tryz.zeroValue201
 g1 := by kernel_rfl }
open Go.RowKit Go.Lib in
theorem Tryz.strings_Cut (s sep : ByteArray) (m : Int) (w : World) (hs : s.size < 4294967281) (hm : w.cell? ⟨2, 0, none⟩ = some (.int .i64 m)) :
  Calls Tryz.prog 56 #[.string s, .string sep] w fun e w' => e = .returned (.tuple #[.string ⟨(Lib.cut s.data.toList sep.data.toList).1.toArray⟩, .string ⟨(Lib.cut s.data.toList sep.data.toList).2.1.toArray⟩, .bool (Lib.cut s.data.toList sep.data.toList).2.2]) ∧ ∃ n, w' = w.drewN n := Any.strings_Cut Tryz.lays145 s sep m w hs hm
def Tryz.laysM145_ren : Go.Shelf.Ren := ⟨fun | 145 => 56 | 220 => 82 | 219 => 116 | 217 => 132 | 225 => 133 | 224 => 134 | 267 => 135 | 266 => 143 | 314 => 144 | n => n, fun | 9 => 9 | 4 => 4 | 59 => 119 | 3 => 3 | 5 => 5 | 46 => 183 | 146 => 201 | 51 => 197 | n => n, fun | 1 => 2 | n => n⟩
theorem Tryz.laysM145 : Go.Proofs.LaysM.n145 Tryz.prog Tryz.laysM145_ren := {
 mixed := by kernel_rfl
 f145 := Tryz.func56.trans (congrArg some (by kernel_rfl))
 f217 := Tryz.func132.trans (congrArg some (by kernel_rfl))
 f219 := Tryz.func116.trans (congrArg some (by kernel_rfl))
 f220 := Tryz.func82.trans (congrArg some (by kernel_rfl))
 f224 := Tryz.func134.trans (congrArg some (by kernel_rfl))
 f225 := Tryz.func133.trans (congrArg some (by kernel_rfl))
 f266 := Tryz.func143.trans (congrArg some (by kernel_rfl))
 f267 := Tryz.func135.trans (congrArg some (by kernel_rfl))
 f314 := Tryz.func144.trans (congrArg some (by kernel_rfl))
 t3 := Tryz.underlying3
 a3 := Tryz.isAgg3
 z3 := Tryz.sizeOf3
 v3 := Tryz.zeroValue3
 t4 := Tryz.underlying4
 a4 := Tryz.isAgg4
 z4 := Tryz.sizeOf4
 v4 := Tryz.zeroValue4
 t5 := Tryz.underlying5
 a5 := Tryz.isAgg5
 z5 := Tryz.sizeOf5
 v5 := Tryz.zeroValue5
 t9 := Tryz.underlying9
 a9 := Tryz.isAgg9
 z9 := Tryz.sizeOf9
 v9 := Tryz.zeroValue9
 t46 := Tryz.underlying183
 a46 := Tryz.isAgg183
 z46 := Tryz.sizeOf183
 v46 := Tryz.zeroValue183
 t51 := Tryz.underlying197
 a51 := Tryz.isAgg197
 z51 := Tryz.sizeOf197
 v51 := Tryz.zeroValue197
 t59 := Tryz.underlying119
 a59 := Tryz.isAgg119
 z59 := Tryz.sizeOf119
 v59 := Tryz.zeroValue119
 t146 := Tryz.underlying201
 a146 := Tryz.isAgg201
 z146 := Tryz.sizeOf201
 v146 := Tryz.zeroValue201
 g1 := by kernel_rfl
 i3 := by kernel_rfl
 i4 := by kernel_rfl
 i5 := by kernel_rfl
 i9 := by kernel_rfl
 i46 := by kernel_rfl
 i51 := by kernel_rfl
 i59 := by kernel_rfl
 i146 := by kernel_rfl
 m1 := by kernel_rfl
 s1_3 := fun w h => Go.Proofs.cell_of_shapedOpen_int (zero := #[.int .i64 0]) (t := 3) h (of_decide_eq_true (by kernel_rfl)) (by kernel_rfl) rfl (by kernel_rfl) (by kernel_rfl) Tryz.underlying3 }
end Go.Proofs
