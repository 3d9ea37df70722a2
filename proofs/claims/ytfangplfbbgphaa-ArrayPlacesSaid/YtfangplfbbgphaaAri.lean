/- Rows of records in memory (layer 4): sites, placed sites, vectors, pairs of numbers; what the functions answer, as plain functions. -/
import Derived.Test.YtfangplfbbgphaaArf
import Derived.Test.YtfangplfbbgphaaFrm
namespace Go.Proofs.Ytfangplfbbgphaa
open Go.ChangeShapes Go.WideShapes Go.ChangeAt Go.RowKit
set_option linter.unusedVariables false
set_option linter.unusedSimpArgs false
theorem ret_bool' {a b : Bool} (h : a = b) : Ending.returned (.bool a) = .returned (.bool b) := by rw [h]
theorem fm_len {α : Type} (f : α → List Value) (sz : Nat) (hf : ∀ x, (f x).length = sz) (l : List α) : (l.flatMap f).length = l.length * sz := by
  induction l with
  | nil => simp
  | cons x l ih => rw [List.flatMap_cons, List.length_append, ih, hf, List.length_cons, Nat.succ_mul]; omega
theorem fm_get {α : Type} (f : α → List Value) (sz : Nat) (hf : ∀ x, (f x).length = sz) (l : List α) (i j : Nat) (x : α) (hi : l[i]? = some x) (hj : j < sz) : (l.flatMap f)[i * sz + j]? = (f x)[j]? := by
  induction l generalizing i with
  | nil => simp at hi
  | cons y l ih =>
    cases i with
    | zero =>
      simp at hi
      subst hi
      rw [List.flatMap_cons, Nat.zero_mul, Nat.zero_add, List.getElem?_append_left (by rw [hf]; exact hj)]
    | succ i =>
      rw [List.flatMap_cons, List.getElem?_append_right (by rw [hf, Nat.succ_mul]; omega), hf]
      have := ih i (by simpa using hi)
      rw [show (i + 1) * sz + j - sz = i * sz + j by rw [Nat.succ_mul]; omega]
      exact this
theorem fm_take {α : Type} (f : α → List Value) (sz : Nat) (hf : ∀ x, (f x).length = sz) (l : List α) (k : Nat) : (l.flatMap f).take (k * sz) = (l.take k).flatMap f := by
  induction l generalizing k with
  | nil => simp
  | cons x l ih =>
    cases k with
    | zero => simp
    | succ k =>
      rw [List.take_succ_cons, List.flatMap_cons, List.flatMap_cons, List.take_append, List.take_of_length_le (by rw [hf, Nat.succ_mul]; omega), hf, show (k + 1) * sz - sz = k * sz by rw [Nat.succ_mul]; omega, ih]
theorem fm_drop {α : Type} (f : α → List Value) (sz : Nat) (hf : ∀ x, (f x).length = sz) (l : List α) (k : Nat) : (l.flatMap f).drop (k * sz) = (l.drop k).flatMap f := by
  induction l generalizing k with
  | nil => simp
  | cons x l ih =>
    cases k with
    | zero => simp
    | succ k =>
      rw [List.drop_succ_cons, List.flatMap_cons, List.drop_append, List.drop_eq_nil_of_le (by rw [hf, Nat.succ_mul]; omega), hf, show (k + 1) * sz - sz = k * sz by rw [Nat.succ_mul]; omega, ih, List.nil_append]
theorem fm_set {α : Type} (f : α → List Value) (sz : Nat) (hf : ∀ x, (f x).length = sz) (l : List α) (k : Nat) (x : α) (hk : k < l.length) :
    (l.flatMap f).take (k * sz) ++ f x ++ (l.flatMap f).drop (k * sz + sz) = (l.set k x).flatMap f := by
  rw [fm_take f sz hf, show k * sz + sz = (k + 1) * sz by rw [Nat.succ_mul], fm_drop f sz hf, List.set_eq_take_append_cons_drop, if_pos hk, List.flatMap_append, List.flatMap_cons, List.append_assoc]
theorem fm_one {α : Type} (f : α → List Value) (hf : ∀ x, ∀ u ∈ f x, u.oneCell' = true) (l : List α) : ∀ u ∈ l.flatMap f, u.oneCell' = true := by
  intro u hu
  obtain ⟨s, _, hs⟩ := List.mem_flatMap.1 hu
  exact hf s u hs
/- reading a row as a list of records -/
theorem Rd.rec_ {w : World} {size n : Nat} {A : Option Addr} {α : Type} {f : α → List Value} {l : List α} (h : Rd w size A n (l.flatMap f)) (hn : l.length ≤ n) (hf : ∀ x, (f x).length = size) {i : Nat} {x : α} (hi : l[i]? = some x) :
    ∃ b off, A = some ⟨b, off, none⟩ ∧ b < w.heap.size ∧ ∀ j u, (f x)[j]? = some u → w.cell? ⟨b, off + i * size + j, none⟩ = some u := by
  have hlt := get_lt hi
  obtain ⟨b, off, e, hl, hc⟩ := h.2 (by omega)
  refine ⟨b, off, e, hl, fun j u hu => ?_⟩
  have hj : j < size := by
    have := (List.getElem?_eq_some_iff.1 hu).1
    rw [hf] at this; exact this
  rw [Nat.add_assoc]
  exact hc (i * size + j) u (by rw [fm_get f size hf l i j x hi hj]; exact hu)
theorem Rd.blk {w : World} {g size n : Nat} {xs : List Value} {T : TypeId} (h : w.heap[g]? = some (.cells xs.toArray T)) (hn : xs.length = n * size) : Rd w size (some ⟨g, 0, none⟩) n xs :=
  ⟨hn, fun _ => ⟨g, 0, rfl, blk_lt h, fun j u hu => blk_cell h (0 + j) u (by simpa using hu)⟩⟩
theorem Rd.below {B : Nat} {W X : World} {size n : Nat} {A : Option Addr} {xs : List Value} (h : Rd W size A n xs) (hb : Below B W X) (hA : ∀ b off, A = some ⟨b, off, none⟩ → b < B) : Rd X size A n xs :=
  ⟨h.1, fun hn => by
    obtain ⟨b, off, e, hl, hc⟩ := h.2 hn
    have hlt := hA b off e
    exact ⟨b, off, e, Nat.lt_of_lt_of_le hl hb.size, fun j u hu => (hb.cell (p := ⟨b, off + j, none⟩) hlt).trans (hc j u hu)⟩⟩
theorem Rd.lt {W : World} {size n b off : Nat} {xs : List Value} (h : Rd W size (some ⟨b, off, none⟩) n xs) (hn : 0 < n) : b < W.heap.size := by
  obtain ⟨b', off', e, hl, _⟩ := h.2 hn
  injection e with e
  injection e with e1 e2
  subst e1
  exact hl
/- a row of a slice is stored -/
theorem wpList_store_rec {P : Program} {ops : Array Oper} {rest : List Oper} {o : Oper} {a : Act} {w : World} {Q : Exit → Act → World → Prop} (hgd : o.guard = none) (ty : TypeId) (x y : Operand) (ho : o.op = .store ty x y)
    {α : Type} (f : α → List Value) (sz : Nat) (hf : ∀ x, (f x).length = sz) (h1 : ∀ x, ∀ u ∈ f x, u.oneCell' = true) (g k : Nat) (l : List α) (r : α) (hk : k < l.length)
    (off : Nat) (hoff : off = k * sz) (hx : a.eval x = .pointer (some ⟨g, off, none⟩)) (hy : a.eval y = .agg (f r).toArray)
    (t : TypeId) (hg : w.heap[g]? = some (.cells (l.flatMap f).toArray t (0, 0))) (hi : (P.info? ty).map (·.size) = some sz)
    (h : wpList P ops Q rest (a.put o.dst undef) (w.setRow g ((l.set k r).flatMap f).toArray)) : wpList P ops Q (o :: rest) a w := by
  subst hoff
  refine wpList_plain hgd fun K hK => ?_
  have hfit : k * sz + (f r).length ≤ (l.flatMap f).length := by
    rw [fm_len f sz hf, hf]
    have := Nat.mul_le_mul_right sz (show k + 1 ≤ l.length from hk)
    rw [Nat.succ_mul] at this; exact this
  have hst := run_storeCells_at P g (k * sz) t (f r) 0 (l.flatMap f).toArray w hg (by simpa using hfit) (h1 r)
  simp only [Nat.add_zero, hf, List.size_toArray] at hst
  rw [fm_set f sz hf l k r hk] at hst
  cases hq : P.info? ty with
  | none => simp [hq] at hi
  | some i =>
    have hs : i.size = sz := by simpa [hq] using hi
    have hv : (storeVar ty ⟨g, k * sz, none⟩ (.agg (f r).toArray)).run P w = .ok () (w.setRow g ((l.set k r).flatMap f).toArray) := by
      simp [storeVar, sizeOf, typeInfo, hq, Value.cells, hs, hf, hst]
    unfold Oper.wp execOp
    simp only [ho, hx, hy, Instr.storeAt, Instr.sureAddr, Sem.run_bind, Sem.run_pure, Result.andThen_ok, hv]
    exact hK _ _ h
/- sites -/
structure St where
  nm : ByteArray
  sn : Int
  sd : Int
  tn : Int
  td : Int
structure V6 where
  x1 : Int
  x2 : Int
  y1 : Int
  y2 : Int
  z1 : Int
  z2 : Int
  deriving DecidableEq
abbrev Sv (s : St) : Value := .agg #[.string s.nm, .int .i64 s.sn, .int .i64 s.sd, .int .i64 s.tn, .int .i64 s.td]
abbrev Vv (v : V6) : Value := .agg #[.int .i64 v.x1, .int .i64 v.x2, .int .i64 v.y1, .int .i64 v.y2, .int .i64 v.z1, .int .i64 v.z2]
def st5 (s : St) : List Value := [.string s.nm, .int .i64 s.sn, .int .i64 s.sd, .int .i64 s.tn, .int .i64 s.td]
def v6 (v : V6) : List Value := [.int .i64 v.x1, .int .i64 v.x2, .int .i64 v.y1, .int .i64 v.y2, .int .i64 v.z1, .int .i64 v.z2]
def pl11 (p : St × V6) : List Value := [.string p.1.nm, .int .i64 p.1.sn, .int .i64 p.1.sd, .int .i64 p.1.tn, .int .i64 p.1.td, .int .i64 p.2.x1, .int .i64 p.2.x2, .int .i64 p.2.y1, .int .i64 p.2.y2, .int .i64 p.2.z1, .int .i64 p.2.z2]
def pr2 (p : Nat × Nat) : List Value := [.int .i64 (p.1 : Int), .int .i64 (p.2 : Int)]
theorem st5_len (s : St) : (st5 s).length = 5 := rfl
theorem v6_len (s : V6) : (v6 s).length = 6 := rfl
theorem pl11_len (s : St × V6) : (pl11 s).length = 11 := rfl
theorem pr2_len (s : Nat × Nat) : (pr2 s).length = 2 := rfl
theorem st5_one (s : St) : ∀ u ∈ st5 s, u.oneCell' = true := by
  intro u hu; simp [st5] at hu; rcases hu with rfl | rfl | rfl | rfl | rfl <;> rfl
theorem v6_one (s : V6) : ∀ u ∈ v6 s, u.oneCell' = true := by
  intro u hu; simp [v6] at hu; rcases hu with rfl | rfl | rfl | rfl | rfl | rfl <;> rfl
theorem pl11_one (s : St × V6) : ∀ u ∈ pl11 s, u.oneCell' = true := by
  intro u hu; simp [pl11] at hu; rcases hu with rfl | rfl | rfl | rfl | rfl | rfl | rfl | rfl | rfl | rfl | rfl <;> rfl
theorem pr2_one (s : Nat × Nat) : ∀ u ∈ pr2 s, u.oneCell' = true := by
  intro u hu; simp [pr2] at hu; rcases hu with rfl | rfl <;> rfl
abbrev RSt (w : World) (A : Option Addr) (l : List St) : Prop := Rd w 5 A l.length (l.flatMap st5)
abbrev RVe (w : World) (A : Option Addr) (l : List V6) : Prop := Rd w 6 A l.length (l.flatMap v6)
abbrev RPl (w : World) (A : Option Addr) (l : List (St × V6)) : Prop := Rd w 11 A l.length (l.flatMap pl11)
abbrev RPr (w : World) (A : Option Addr) (l : List (Nat × Nat)) : Prop := Rd w 2 A l.length (l.flatMap pr2)
theorem RSt.at_ {w : World} {A : Option Addr} {l : List St} (h : RSt w A l) {i : Nat} {s : St} (hi : l[i]? = some s) : ∃ b off, A = some ⟨b, off, none⟩ ∧ b < w.heap.size ∧
    w.cell? ⟨b, off + i * 5, none⟩ = some (.string s.nm) ∧ w.cell? ⟨b, off + i * 5 + 1, none⟩ = some (.int .i64 s.sn) ∧ w.cell? ⟨b, off + i * 5 + 2, none⟩ = some (.int .i64 s.sd) ∧ w.cell? ⟨b, off + i * 5 + 3, none⟩ = some (.int .i64 s.tn) ∧ w.cell? ⟨b, off + i * 5 + 4, none⟩ = some (.int .i64 s.td) := by
  obtain ⟨b, off, e, hl, hc⟩ := Rd.rec_ h (Nat.le_refl _) st5_len hi
  exact ⟨b, off, e, hl, hc 0 _ rfl, hc 1 _ rfl, hc 2 _ rfl, hc 3 _ rfl, hc 4 _ rfl⟩
theorem RVe.at_ {w : World} {A : Option Addr} {l : List V6} (h : RVe w A l) {i : Nat} {s : V6} (hi : l[i]? = some s) : ∃ b off, A = some ⟨b, off, none⟩ ∧ b < w.heap.size ∧
    w.cell? ⟨b, off + i * 6, none⟩ = some (.int .i64 s.x1) ∧ w.cell? ⟨b, off + i * 6 + 1, none⟩ = some (.int .i64 s.x2) ∧ w.cell? ⟨b, off + i * 6 + 2, none⟩ = some (.int .i64 s.y1) ∧ w.cell? ⟨b, off + i * 6 + 3, none⟩ = some (.int .i64 s.y2) ∧ w.cell? ⟨b, off + i * 6 + 4, none⟩ = some (.int .i64 s.z1) ∧ w.cell? ⟨b, off + i * 6 + 5, none⟩ = some (.int .i64 s.z2) := by
  obtain ⟨b, off, e, hl, hc⟩ := Rd.rec_ h (Nat.le_refl _) v6_len hi
  exact ⟨b, off, e, hl, hc 0 _ rfl, hc 1 _ rfl, hc 2 _ rfl, hc 3 _ rfl, hc 4 _ rfl, hc 5 _ rfl⟩
theorem RPl.at_ {w : World} {A : Option Addr} {l : List (St × V6)} (h : RPl w A l) {i : Nat} {s : St × V6} (hi : l[i]? = some s) : ∃ b off, A = some ⟨b, off, none⟩ ∧ b < w.heap.size ∧
    w.cell? ⟨b, off + i * 11, none⟩ = some (.string s.1.nm) ∧ w.cell? ⟨b, off + i * 11 + 1, none⟩ = some (.int .i64 s.1.sn) ∧ w.cell? ⟨b, off + i * 11 + 2, none⟩ = some (.int .i64 s.1.sd) ∧ w.cell? ⟨b, off + i * 11 + 3, none⟩ = some (.int .i64 s.1.tn) ∧ w.cell? ⟨b, off + i * 11 + 4, none⟩ = some (.int .i64 s.1.td) ∧
    w.cell? ⟨b, off + i * 11 + 5, none⟩ = some (.int .i64 s.2.x1) ∧ w.cell? ⟨b, off + i * 11 + 6, none⟩ = some (.int .i64 s.2.x2) ∧ w.cell? ⟨b, off + i * 11 + 7, none⟩ = some (.int .i64 s.2.y1) ∧ w.cell? ⟨b, off + i * 11 + 8, none⟩ = some (.int .i64 s.2.y2) ∧ w.cell? ⟨b, off + i * 11 + 9, none⟩ = some (.int .i64 s.2.z1) ∧ w.cell? ⟨b, off + i * 11 + 10, none⟩ = some (.int .i64 s.2.z2) := by
  obtain ⟨b, off, e, hl, hc⟩ := Rd.rec_ h (Nat.le_refl _) pl11_len hi
  exact ⟨b, off, e, hl, hc 0 _ rfl, hc 1 _ rfl, hc 2 _ rfl, hc 3 _ rfl, hc 4 _ rfl, hc 5 _ rfl, hc 6 _ rfl, hc 7 _ rfl, hc 8 _ rfl, hc 9 _ rfl, hc 10 _ rfl⟩
theorem RPr.at_ {w : World} {A : Option Addr} {l : List (Nat × Nat)} (h : RPr w A l) {i : Nat} {s : Nat × Nat} (hi : l[i]? = some s) : ∃ b off, A = some ⟨b, off, none⟩ ∧ b < w.heap.size ∧
    w.cell? ⟨b, off + i * 2, none⟩ = some (.int .i64 (s.1 : Int)) ∧ w.cell? ⟨b, off + i * 2 + 1, none⟩ = some (.int .i64 (s.2 : Int)) := by
  obtain ⟨b, off, e, hl, hc⟩ := Rd.rec_ h (Nat.le_refl _) pr2_len hi
  exact ⟨b, off, e, hl, hc 0 _ rfl, hc 1 _ rfl⟩
/- names -/
def lowB (c : Nat) : Bool := decide (97 ≤ c ∧ c ≤ 122)
def namC (c : Nat) : Bool := decide ((97 ≤ c ∧ c ≤ 122) ∨ (48 ≤ c ∧ c ≤ 57) ∨ c = 45)
def namB (l : List UInt8) : Bool := decide (1 ≤ l.length ∧ l.length ≤ 40) && (lowB (l.headD 0).toNat && l.all fun c => namC c.toNat)
def valS (s : St) : Bool := namB s.nm.data.toList && plB s.sn s.sd s.tn s.td
def stsE (l : List St) : Int := if 8 < l.length then 4 else if l.all valS then 0 else 8
def plV (A B : Int) (s : St) : V6 := ⟨(plX A s.sn s.sd s.tn s.td).1, (plX A s.sn s.sd s.tn s.td).2.1, (plY A s.sn s.sd s.tn s.td).1, (plY A s.sn s.sd s.tn s.td).2.1, (plZ B s.sn s.sd).1, (plZ B s.sn s.sd).2.1⟩
def pls (A B : Int) (l : List St) : List (St × V6) := l.map fun s => (s, plV A B s)
def dupP (a b : St × V6) : Bool := (a.1.nm.toList == b.1.nm.toList) || decide (a.2 = b.2)
def dupB (rs : List (St × V6)) : Bool := (List.range rs.length).any fun j => (List.range j).any fun i => match rs[i]?, rs[j]? with | some a, some b => dupP a b | _, _ => false
theorem dupB_iff {rs : List (St × V6)} : dupB rs = true ↔ ∃ (i j : Nat) (a b : St × V6), i < j ∧ rs[i]? = some a ∧ rs[j]? = some b ∧ dupP a b = true := by
  unfold dupB
  simp only [List.any_eq_true, List.mem_range]
  constructor
  · rintro ⟨j, hj, i, hi, h⟩
    have e1 : rs[i]? = some rs[i] := List.getElem?_eq_getElem (by omega)
    have e2 : rs[j]? = some rs[j] := List.getElem?_eq_getElem hj
    rw [e1, e2] at h
    exact ⟨i, j, _, _, hi, e1, e2, h⟩
  · rintro ⟨i, j, a, b, hij, h1, h2, h⟩
    exact ⟨j, get_lt h2, i, hij, by rw [h1, h2]; exact h⟩
theorem dupP_comm (a b : St × V6) : dupP a b = dupP b a := by
  unfold dupP
  congr 1
  · rw [Bool.eq_iff_iff]; simp only [beq_iff_eq]; exact eq_comm
  · exact decide_eq_decide.2 eq_comm
def plE (A B : Int) (l : List St) : Int := if errG A B ≠ 0 then errG A B else if stsE l ≠ 0 then stsE l else if dupB (pls A B l) then 14 else 0
def plL (A B : Int) (l : List St) : List V6 := if plE A B l = 0 then l.map (plV A B) else []
/- pairs of stations -/
def prs (n : Nat) : List (Nat × Nat) := (List.range n).flatMap fun i => (List.range' (i + 1) (n - 1 - i)).map fun j => (i, j)
def pix (n i j : Nat) : Nat := i * n - i * (i + 1) / 2 + (j - i - 1)
def pixB (n : Nat) : Bool := (pix n 0 1 == 0) && (pix n n (n + 1) == (prs n).length) && (List.range n).all fun i => (pix n i n == pix n (i + 1) (i + 2)) && (decide (pix n i n ≤ (prs n).length) &&
  ((List.range n).all fun j => !(decide (i < j)) || (((prs n)[pix n i j]? == some (i, j)) && (pix n i (j + 1) == pix n i j + 1))))
theorem pixB_all : (List.range 9).all pixB = true := by decide +kernel
theorem pix_all {n : Nat} (hn : n < 9) : pix n 0 1 = 0 ∧ pix n n (n + 1) = (prs n).length ∧ (∀ i, i < n → pix n i n = pix n (i + 1) (i + 2) ∧ pix n i n ≤ (prs n).length ∧ ∀ j, j < n → i < j → (prs n)[pix n i j]? = some (i, j) ∧ pix n i (j + 1) = pix n i j + 1) := by
  have h := List.all_eq_true.1 pixB_all n (List.mem_range.2 hn)
  unfold pixB at h
  simp only [Bool.and_eq_true, beq_iff_eq, List.all_eq_true, List.mem_range, decide_eq_true_eq] at h
  refine ⟨h.1.1, h.1.2, fun i hi => ?_⟩
  have h2 := h.2 i hi
  refine ⟨h2.1, h2.2.1, fun j hj hij => ?_⟩
  have h3 := h2.2.2 j hj
  simp only [decide_eq_true hij, Bool.not_true, Bool.false_or, Bool.and_eq_true, beq_iff_eq] at h3
  exact h3
def prsB (n : Nat) : Bool := (prs n).all fun p => decide (p.1 < p.2) && decide (p.2 < n)
theorem prsB_all : (List.range 9).all prsB = true := by decide +kernel
theorem prs_lt {n : Nat} (hn : n < 9) {p : Nat × Nat} (hp : p ∈ prs n) : p.1 < p.2 ∧ p.2 < n := by
  have h := List.all_eq_true.1 (List.all_eq_true.1 prsB_all n (List.mem_range.2 hn)) p hp
  simpa using h
def prE (n : Int) : Int := if n < 0 ∨ 8 < n then 2 else 0
def prL (n : Int) : List (Nat × Nat) := if prE n = 0 then prs n.toNat else []
end Go.Proofs.Ytfangplfbbgphaa
