/- Several texts in one. -/
import Derived.Test.YtapehckcmmompaaM01
import Derived.Test.YtapehckcmmompaaM02
import Derived.Test.YtapehckcmmompaaM03
import Derived.Test.YtapehckcmmompaaM06
import Derived.Test.YtapehckcmmompaaM11
import Derived.Test.YtapehckcmmompaaM12
namespace Go.Proofs.Ytapehckcmmompaa
open Go.ChangeShapes Go.WideShapes Go.ChangeAt Go.RowKit
set_option linter.unusedVariables false
set_option maxRecDepth 100000
abbrev So := Int × Int × List Dk × List Ob
def noS : So := (0, 0, [], [])
def strp (ds : List Dk) (k : Nat) : List (List Nat) := ds.map fun x => if x.failed then [] else x.blocks.getD k []
theorem strp_len (ds : List Dk) (k : Nat) : (strp ds k).length = ds.length := by simp [strp]
theorem strp_get {ds : List Dk} {k i : Nat} {x : Dk} (h : ds[i]? = some x) : (strp ds k)[i]? = some (if x.failed then [] else x.blocks.getD k []) := by simp [strp, h]
def padL (b : List Nat) (n : Nat) : List Nat := b ++ List.replicate (n - b.length) 0
def rowsL (d : Nat) (q : List Nat) (k : Nat) : List (List Nat) := (List.range d).map fun i => (q.drop ((k * d + i) * 8)).take 8
def putDk (d p : Nat) (q : List Nat) (k i : Nat) (x : Dk) : Dk := if x.failed then x else ⟨false, x.blocks ++ (List.range k).map fun j => (enc (rowsL d q j) p).getD i []⟩
def putM (d p : Nat) (q : List Nat) (k n : Nat) (ds : List Dk) : List Dk := ds.mapIdx fun i x => if i < n then putDk d p q (k + 1) i x else putDk d p q k i x
def putDs (d p : Nat) (q : List Nat) (k : Nat) (ds : List Dk) : List Dk := ds.mapIdx fun i x => putDk d p q k i x
theorem putM_zero (d p : Nat) (q : List Nat) (k : Nat) (ds : List Dk) : putM d p q k 0 ds = putDs d p q k ds := by simp [putM, putDs]
theorem putM_all (d p : Nat) (q : List Nat) (k : Nat) (ds : List Dk) : putM d p q k ds.length ds = putDs d p q (k + 1) ds := by
 refine List.ext_getElem? fun i => ?_
 simp only [putM, putDs, List.getElem?_mapIdx]
 cases h : ds[i]? with
 | none => rfl
 | some x => simp [get_lt h]
theorem putDs_zero (d p : Nat) (q : List Nat) (ds : List Dk) : putDs d p q 0 ds = ds := by
 refine List.ext_getElem? fun i => ?_
 simp only [putDs, List.getElem?_mapIdx]
 cases h : ds[i]? with
 | none => rfl
 | some x =>
  have : putDk d p q 0 i x = x := by
   unfold putDk
   split
   ·rfl
   ·rename_i hf
    cases x with
    | mk f b => simp at hf; subst hf; simp
  simp [this]
theorem putM_len (d p : Nat) (q : List Nat) (k n : Nat) (ds : List Dk) : (putM d p q k n ds).length = ds.length := by simp [putM]
theorem putDs_len (d p : Nat) (q : List Nat) (k : Nat) (ds : List Dk) : (putDs d p q k ds).length = ds.length := by simp [putDs]
theorem putM_get {d p : Nat} {q : List Nat} {k n : Nat} {ds : List Dk} {i : Nat} {x : Dk} (h : ds[i]? = some x) : (putM d p q k n ds)[i]? = some (if i < n then putDk d p q (k + 1) i x else putDk d p q k i x) := by simp [putM, h]
theorem putDk_gone {d p : Nat} {q : List Nat} {k i : Nat} {x : Dk} (h : x.failed = true) : putDk d p q k i x = x := by simp [putDk, h]
theorem putDk_succ {d p : Nat} {q : List Nat} {k i : Nat} {x : Dk} (h : x.failed = false) : putDk d p q (k + 1) i x = ⟨(putDk d p q k i x).failed, (putDk d p q k i x).blocks ++ [(enc (rowsL d q k) p).getD i []]⟩ := by
 simp [putDk, h, List.range_succ]
theorem putM_skip {d p : Nat} {q : List Nat} {k n : Nat} {ds : List Dk} {x : Dk} (hx : ds[n]? = some x) (h : x.failed = true) : putM d p q k (n + 1) ds = putM d p q k n ds := by
 refine List.ext_getElem? fun i => ?_
 simp only [putM, List.getElem?_mapIdx]
 cases hi : ds[i]? with
 | none => rfl
 | some y =>
  by_cases e : i = n
  ·subst e; rw [hx] at hi; cases hi; simp [putDk_gone h]
  ·have : (i < n + 1) = (i < n) := by simp; omega
   simp [this]
theorem putM_step {d p : Nat} {q : List Nat} {k n : Nat} {ds : List Dk} {x : Dk} (hx : ds[n]? = some x) : putM d p q k (n + 1) ds = (putM d p q k n ds).set n (putDk d p q (k + 1) n x) := by
 refine List.ext_getElem? fun i => ?_
 rw [List.getElem?_set]
 simp only [putM, List.getElem?_mapIdx, List.length_mapIdx]
 by_cases e : n = i
 ·subst e; rw [if_pos rfl, if_pos (get_lt hx), hx]; simp
 ·rw [if_neg e]
  cases hi : ds[i]? with
  | none => rfl
  | some y =>
   have : (i < n + 1) = (i < n) := by simp; omega
   simp [this]
def putE (d p : Int) (ds : List Dk) (os : List Ob) (nm : ByteArray) (b : List Nat) : Int :=
 if chS d p ds os = 0 then
  if namB nm.data.toList = true then
   if 0 ≤ findL os nm.toList then 14
   else if 16 ≤ os.length ∨ 256 < b.length then 4
   else if p < (faN ds : Int) then 32
   else 0
  else 8
 else chS d p ds os
def manyL (d : Int) (b : List Nat) : Nat := (ned b.length d).toNat
def newO (d : Int) (os : List Ob) (nm : ByteArray) (b : List Nat) : Ob := ⟨nm, b.length, strN os, ned b.length d, (digL b : Nat)⟩
def padB (d : Int) (b : List Nat) : List Nat := padL b (manyL d b * 8 * d.toNat)
def putS (d p : Int) (ds : List Dk) (os : List Ob) (nm : ByteArray) (b : List Nat) : So :=
 if putE d p ds os nm b = 0 then (d, p, putDs d.toNat p.toNat (padB d b) (manyL d b) ds, os ++ [newO d os nm b]) else noS
def getTo (d p : Int) (ds : List Dk) (fr : Nat) : Nat → List Nat × Int
 | 0 => ([], 0)
 | k + 1 => if (getTo d p ds fr k).2 = 0 then
   if resE d p (strp ds (fr + k)) = 0 then ((getTo d p ds fr k).1 ++ ((resS d p (strp ds (fr + k))).2.2.take d.toNat).flatten, 0)
   else ([], resE d p (strp ds (fr + k)))
  else getTo d p ds fr k
def getR (d p : Int) (ds : List Dk) (os : List Ob) (nm : ByteArray) : List Nat × Int :=
 if chS d p ds os = 0 then
  match os[(findL os nm.toList).toNat]?, decide (0 ≤ findL os nm.toList) with
  | some o, true =>
   if (getTo d p ds o.from_.toNat o.many.toNat).2 = 0 then
    if ((digL ((getTo d p ds o.from_.toNat o.many.toNat).1.take o.size.toNat) : Nat) : Int) = o.dig then ((getTo d p ds o.from_.toNat o.many.toNat).1.take o.size.toNat, 0) else ([], 30)
   else ([], (getTo d p ds o.from_.toNat o.many.toNat).2)
  | _, _ => ([], 6)
 else ([], chS d p ds os)
def newE (d p : Int) : Int := if szB d p = true then 0 else 2
def newS (d p : Int) : So := if szB d p = true then (d, p, List.replicate (d + p).toNat ⟨false, []⟩, []) else noS
def faiE (d p : Int) (ds : List Dk) (os : List Ob) (x : Int) : Int :=
 if chS d p ds os = 0 then
  match ds[x.toNat]?, decide (0 ≤ x) with
  | some k, true => if k.failed then 36 else if 0 < strN os ∧ faN ds + 1 = ds.length then 32 else 0
  | _, _ => 2
 else chS d p ds os
def faiS (d p : Int) (ds : List Dk) (os : List Ob) (x : Int) : So := if faiE d p ds os x = 0 then (d, p, ds.set x.toNat ⟨true, []⟩, os) else noS
def repTo (d p : Int) (ds : List Dk) (x : Nat) : Nat → List (List Nat) × Int
 | 0 => ([], 0)
 | k + 1 => if (repTo d p ds x k).2 = 0 then
   if resE d p (strp ds k) = 0 then ((repTo d p ds x k).1 ++ [(resS d p (strp ds k)).2.2.getD x []], 0)
   else ([], resE d p (strp ds k))
  else repTo d p ds x k
def repE (d p : Int) (ds : List Dk) (os : List Ob) (x : Int) : Int :=
 if chS d p ds os = 0 then
  match ds[x.toNat]?, decide (0 ≤ x) with
  | some k, true => if k.failed then (repTo d p ds x.toNat (strN os).toNat).2 else 36
  | _, _ => 2
 else chS d p ds os
def repS (d p : Int) (ds : List Dk) (os : List Ob) (x : Int) : So := if repE d p ds os x = 0 then (d, p, ds.set x.toNat ⟨false, (repTo d p ds x.toNat (strN os).toNat).1⟩, os) else noS
def scrL (d p : Int) (ds : List Dk) (n : Nat) : List Int := ((List.range n).filter fun k => !decide (resE d p (strp ds k) = 0)).map fun (k : Nat) => (k : Int)
def scrE (d p : Int) (ds : List Dk) (os : List Ob) : Int :=
 if chS d p ds os = 0 then if 0 < strN os ∧ p < (faN ds : Int) then 32 else 0 else chS d p ds os
def scrR (d p : Int) (ds : List Dk) (os : List Ob) : List Int := if scrE d p ds os = 0 then scrL d p ds (strN os).toNat else []
theorem szL_zero {m : List (List Nat)} (h : szL m = 0) : ∀ l ∈ m, l.length = 0 := by
 induction m with
 | nil => simp
 | cons x m ih =>
  unfold szL at h
  by_cases hx : x.length = 0
  ·rw [if_pos hx] at h
   intro l hl
   rcases List.mem_cons.1 hl with rfl | h1
   ·exact hx
   ·exact ih h l h1
  ·rw [if_neg hx] at h; exact absurd h hx
end Go.Proofs.Ytapehckcmmompaa
namespace Go.Proofs.Ytapehckcmmompaa
open Go.ChangeShapes Go.WideShapes Go.ChangeAt Go.RowKit
set_option linter.unusedVariables false
set_option maxRecDepth 100000
def flatD : List Dk → List Value → List Value
 | d :: ds, h :: hs => .bool d.failed :: h :: flatD ds hs
 | _, _ => []
theorem flatD_len : ∀ {ds : List Dk} {hs : List Value}, hs.length = ds.length → (flatD ds hs).length = ds.length * 2
 | [], [], _ => rfl
 | d :: ds, h :: hs, e => by
  have := flatD_len (ds := ds) (hs := hs) (by simpa using e)
  simp only [flatD, List.length_cons, this]; omega
 | [], h :: hs, e => by simp at e
 | d :: ds, [], e => by simp at e
theorem flatD_get : ∀ {ds : List Dk} {hs : List Value} {i : Nat} {d : Dk} {h : Value}, ds[i]? = some d → hs[i]? = some h → (flatD ds hs)[i * 2]? = some (.bool d.failed) ∧ (flatD ds hs)[i * 2 + 1]? = some h
 | [], _, i, d, h, e, _ => by simp at e
 | d0 :: ds, [], i, d, h, _, e => by simp at e
 | d0 :: ds, h0 :: hs, 0, d, h, e, e' => by simp at e e'; subst e e'; exact ⟨rfl, rfl⟩
 | d0 :: ds, h0 :: hs, i + 1, d, h, e, e' => by
  have := flatD_get (ds := ds) (hs := hs) (i := i) (d := d) (h := h) (by simpa using e) (by simpa using e')
  simpa [flatD, show (i + 1) * 2 = i * 2 + 1 + 1 by omega] using this
structure OS (B : Nat) (w : World) (v : Value) (hs : List Value) (us : List (List Value)) (ds : List Dk) : Prop where
 top : w.ownsRow B 46 2 v ds.length (flatD ds hs)
 lenH : hs.length = ds.length
 lenU : us.length = ds.length
 row : ∀ (i : Nat) (d : Dk) (h : Value) (u : List Value), ds[i]? = some d → hs[i]? = some h → us[i]? = some u → OMx B w h u d.blocks
 tops : ∀ (i j : Nat) (h h' : Value), i ≠ j → hs[i]? = some h → hs[j]? = some h' → h.ownBlock = none ∨ h.ownBlock ≠ h'.ownBlock
 rows : ∀ (i j k l : Nat) (u u' : List Value) (x y : Value), i ≠ j → us[i]? = some u → us[j]? = some u' → u[k]? = some x → u'[l]? = some y → x.ownBlock = none ∨ x.ownBlock ≠ y.ownBlock
def OT (B : Nat) (w : World) (v : Value) (ds : List Dk) : Prop := ∃ hs us, OS B w v hs us ds
theorem OS.next {B : Nat} {w w' : World} {v : Value} {hs : List Value} {us : List (List Value)} {ds : List Dk} (hb : Below w.heap.size w w') (h : OS B w v hs us ds) : OS B w' v hs us ds :=
 ⟨own_next hb h.top, h.lenH, h.lenU, fun i d x u h1 h2 h3 => (h.row i d x u h1 h2 h3).next hb, h.tops, h.rows⟩
theorem OT.next {B : Nat} {w w' : World} {v : Value} {ds : List Dk} (hb : Below w.heap.size w w') (h : OT B w v ds) : OT B w' v ds := by
 obtain ⟨hs, us, h⟩ := h
 exact ⟨hs, us, h.next hb⟩
theorem OS.mono {B B' : Nat} {w : World} {v : Value} {hs : List Value} {us : List (List Value)} {ds : List Dk} (h : OS B w v hs us ds) (hB : B' ≤ B) : OS B' w v hs us ds :=
 ⟨own_mono h.top hB, h.lenH, h.lenU, fun i d x u h1 h2 h3 => (h.row i d x u h1 h2 h3).mono hB, h.tops, h.rows⟩
theorem OS.nil (B : Nat) (w : World) : OS B w (.slice none 0 0) [] [] [] :=
 ⟨World.ownsRow_nil _ _ _ _, rfl, rfl, fun i d x u h => by simp at h, fun i j h h' _ e => by simp at e, fun i j k l u u' x y _ e => by simp at e⟩
theorem own_form2 {w : World} {base : Nat} {e : TypeId} {n size : Nat} {v : Value} {xs : List Value} (h : w.ownsRow base e size v n xs) : ∃ A cap, v = .slice A n cap ∧ n ≤ cap ∧ cap ≤ 9223372036854775807 := by
 rcases h.2 with ⟨h3, h2⟩ | ⟨g, cap, cur, hv, hb, hg, hc, hm, hs, ht⟩
 ·subst h2; exact ⟨none, 0, h3, by omega, by omega⟩
 ·exact ⟨_, cap, hv, hc, by simpa [maxLen] using hm⟩
theorem own_cell2 {w : World} {B : Nat} {e : TypeId} {A : Option Addr} {n cap i size : Nat} {us : List Value} {u : Value} (h : w.ownsRow B e size (.slice A n cap) n us) (hu : us[i]? = some u) : ∃ b, A = some ⟨b, 0, none⟩ ∧ w.cell? ⟨b, i, none⟩ = some u ∧ b < w.heap.size ∧ B ≤ b := by
 have hl : i < n * size := by have := get_lt hu; have h1 := h.1; omega
 rcases h.2 with ⟨h', hn⟩ | ⟨g, cap', cur, h', hb, hg, _, _, _, ht⟩
 ·subst hn; simp at hl
 ·simp only [Value.slice.injEq, true_and] at h'
  refine ⟨g, h'.1, blk_cell hg i u ?_, blk_lt hg, hb⟩
  rw [← ht, List.getElem?_take, if_pos hl] at hu
  simpa using hu
theorem OS.rd {B : Nat} {w : World} {A : Option Addr} {n c : Nat} {hs : List Value} {us : List (List Value)} {ds : List Dk} (h : OS B w (.slice A n c) hs us ds) : RD B w A ds := fun i d hd => by
 have hn : n = ds.length := by
  obtain ⟨A', c', e, _⟩ := own_form2 h.top
  simp only [Value.slice.injEq] at e; exact e.2.1
 subst hn
 obtain ⟨x, hx⟩ := get_some (show i < hs.length by rw [h.lenH]; exact get_lt hd)
 obtain ⟨u, hu⟩ := get_some (show i < us.length by rw [h.lenU]; exact get_lt hd)
 obtain ⟨f1, f2⟩ := flatD_get hd hx
 obtain ⟨b, e, k1, k2, k3⟩ := own_cell2 h.top f1
 obtain ⟨b', e', k1', _⟩ := own_cell2 h.top f2
 rw [e] at e'
 injection e' with e'
 injection e' with e' _
 subst e'
 refine ⟨b, 0, x, e, k3, k2, by simpa using k1, by simpa using k1', ?_⟩
 exact OM.rm ⟨u, h.row i d x u hd hx hu⟩
end Go.Proofs.Ytapehckcmmompaa
namespace Go.Proofs.Ytapehckcmmompaa
open Go.ChangeShapes Go.WideShapes Go.ChangeAt Go.RowKit
set_option linter.unusedVariables false
set_option maxRecDepth 100000
theorem ne_dk_u8 : (46 : TypeId) ≠ 5 := by decide
theorem ne_dk_sl : (46 : TypeId) ≠ 26 := by decide
theorem OMx.kept {B : Nat} {W W' : World} {x : Value} {u : List Value} {m : List (List Nat)} (h : OMx B W x u m) {base n size : Nat} {e : TypeId} {v : Value} {xs : List Value} (ht : W.ownsRow base e size v n xs) (h1 : e ≠ 5) (h2 : e ≠ 26) (hg : W.grownBy W' v.ownBlock) : OMx B W' x u m :=
 h.same fun g cs t _ hh htt => hg.block g (blk_lt hh) (fun e' => own_ne ht hh (by rcases htt with rfl | rfl <;> assumption) e'.symm)
theorem flatD_push : ∀ {ds : List Dk} {hs : List Value} (d : Dk) (h : Value), hs.length = ds.length → flatD (ds ++ [d]) (hs ++ [h]) = flatD ds hs ++ [.bool d.failed, h]
 | [], [], d, h, _ => rfl
 | d0 :: ds, h0 :: hs, d, h, e => by
  have := flatD_push (ds := ds) (hs := hs) d h (by simpa using e)
  simp only [List.cons_append, flatD, this]
 | [], h0 :: hs, d, h, e => by simp at e
 | d0 :: ds, [], d, h, e => by simp at e
theorem OMx.lt_top {B : Nat} {w : World} {x : Value} {u : List Value} {m : List (List Nat)} (h : OMx B w x u m) {g : Nat} (hg : x.ownBlock = some g) : B ≤ g ∧ g < w.heap.size := h.top.lt g hg
theorem OMx.lt_row {B : Nat} {w : World} {x y : Value} {u : List Value} {m : List (List Nat)} (h : OMx B w x u m) {k g : Nat} (hk : u[k]? = some y) (hg : y.ownBlock = some g) : B ≤ g ∧ g < w.heap.size := by
 obtain ⟨l, hl⟩ := get_some (show k < m.length by rw [← h.len]; exact get_lt hk)
 exact (h.row k y l hk hl).lt g hg
theorem OS.push {B : Nat} {W0 W W' : World} {v v' x : Value} {hs : List Value} {us : List (List Value)} {ds : List Dk} {d : Dk} {u : List Value} (h : OS B W0 v hs us ds) (hb : Below W0.heap.size W0 W) (hx : OMx W0.heap.size W x u d.blocks) (hB : B ≤ W0.heap.size)
  (hown : W'.ownsRow B 46 2 v' (ds.length + 1) (flatD ds hs ++ [.bool d.failed, x])) (hg : W.grownBy W' v.ownBlock) : OS B W' v' (hs ++ [x]) (us ++ [u]) (ds ++ [d]) := by
 have ht := own_next hb h.top
 have old : ∀ {i : Nat} {y : Value}, hs[i]? = some y → ∃ d u, ds[i]? = some d ∧ us[i]? = some u ∧ OMx B W0 y u d.blocks := fun {i y} hy => by
  obtain ⟨d, hd⟩ := get_some (show i < ds.length by rw [← h.lenH]; exact get_lt hy)
  obtain ⟨u, hu⟩ := get_some (show i < us.length by rw [h.lenU]; exact get_lt hd)
  exact ⟨d, u, hd, hu, h.row i d y u hd hy hu⟩
 have oldu : ∀ {i : Nat} {q : List Value}, us[i]? = some q → ∃ (d : Dk) (y : Value), OMx B W0 y q d.blocks := fun {i q} hq => by
  obtain ⟨y, hy⟩ := get_some (show i < hs.length by rw [h.lenH, ← h.lenU]; exact get_lt hq)
  obtain ⟨d, u', hd, hu, ho⟩ := old hy
  rw [hq] at hu; cases hu
  exact ⟨d, y, ho⟩
 refine ⟨by rw [flatD_push d x h.lenH]; simpa using hown, by simp [h.lenH], by simp [h.lenU], fun i e y q he hy hq => ?_, fun i j y y' hij hy hy' => ?_, fun i j k l q q' y y' hij hq hq' hy hy' => ?_⟩
 ·rcases get_append_one he with h1 | ⟨h1, rfl⟩
  ·rcases get_append_one hy with h2 | ⟨h2, rfl⟩
   ·rcases get_append_one hq with h3 | ⟨h3, rfl⟩
    ·exact ((h.row i e y q h1 h2 h3).next hb).kept ht ne_dk_u8 ne_dk_sl hg
    ·have := get_lt h1; rw [h.lenU] at h3; omega
   ·have := get_lt h1; rw [h.lenH] at h2; omega
  ·rcases get_append_one hy with h2 | ⟨h2, rfl⟩
   ·have := get_lt h2; rw [h.lenH] at this; omega
   ·rcases get_append_one hq with h3 | ⟨h3, rfl⟩
    ·have := get_lt h3; rw [h.lenU] at this; omega
    ·exact (hx.kept ht ne_dk_u8 ne_dk_sl hg).mono hB
 ·rcases get_append_one hy with h1 | ⟨h1, rfl⟩
  ·rcases get_append_one hy' with h2 | ⟨h2, rfl⟩
   ·exact h.tops i j y y' hij h1 h2
   ·cases e : y.ownBlock with
    | none => exact .inl rfl
    | some g =>
     refine .inr fun e' => ?_
     obtain ⟨_, _, _, _, ho⟩ := old h1
     have := (ho.lt_top e).2
     have := (hx.lt_top e'.symm).1
     omega
  ·rcases get_append_one hy' with h2 | ⟨h2, rfl⟩
   ·cases e : y.ownBlock with
    | none => exact .inl rfl
    | some g =>
     refine .inr fun e' => ?_
     obtain ⟨_, _, _, _, ho⟩ := old h2
     have := (ho.lt_top e'.symm).2
     have := (hx.lt_top e).1
     omega
   ·omega
 ·rcases get_append_one hq with h1 | ⟨h1, rfl⟩
  ·rcases get_append_one hq' with h2 | ⟨h2, rfl⟩
   ·exact h.rows i j k l q q' y y' hij h1 h2 hy hy'
   ·cases e : y.ownBlock with
    | none => exact .inl rfl
    | some g =>
     refine .inr fun e' => ?_
     obtain ⟨_, _, ho⟩ := oldu h1
     have := (ho.lt_row hy e).2
     have := (hx.lt_row hy' e'.symm).1
     omega
  ·rcases get_append_one hq' with h2 | ⟨h2, rfl⟩
   ·cases e : y.ownBlock with
    | none => exact .inl rfl
    | some g =>
     refine .inr fun e' => ?_
     obtain ⟨_, _, ho⟩ := oldu h2
     have := (ho.lt_row hy' e'.symm).2
     have := (hx.lt_row hy e).1
     omega
   ·omega
end Go.Proofs.Ytapehckcmmompaa
namespace Go.Proofs.Ytapehckcmmompaa
open Go.ChangeShapes Go.WideShapes Go.ChangeAt Go.RowKit
set_option linter.unusedVariables false
set_option maxRecDepth 100000
theorem flatD_set : ∀ {ds : List Dk} {hs : List Value} (i : Nat) (d : Dk) (x : Value), flatD (ds.set i d) (hs.set i x) = ((flatD ds hs).set (i * 2) (.bool d.failed)).set (i * 2 + 1) x
 | [], _, i, d, x => by simp [flatD]
 | d0 :: ds, [], i, d, x => by cases i <;> simp [flatD]
 | d0 :: ds, h0 :: hs, 0, d, x => by simp [flatD]
 | d0 :: ds, h0 :: hs, i + 1, d, x => by
  have := flatD_set (ds := ds) (hs := hs) i d x
  simp [flatD, this, show (i + 1) * 2 = i * 2 + 1 + 1 by omega]
theorem OS.set {B : Nat} {W0 W : World} {g n cap i : Nat} {x : Value} {hs : List Value} {us : List (List Value)} {ds : List Dk} {d : Dk} {u : List Value} (h : OS B W0 (.slice (some ⟨g, 0, none⟩) n cap) hs us ds) (hb : Below W0.heap.size W0 W) (hx : OMx W0.heap.size W x u d.blocks) (hB : B ≤ W0.heap.size) :
  OS B ((W.setCell ⟨g, i * 2, none⟩ (.bool d.failed)).setCell ⟨g, i * 2 + 1, none⟩ x) (.slice (some ⟨g, 0, none⟩) n cap) (hs.set i x) (us.set i u) (ds.set i d) := by
 have hn : n = ds.length := by
  obtain ⟨A', c', e, _⟩ := own_form2 h.top
  simp only [Value.slice.injEq] at e; exact e.2.1
 subst hn
 have ht := own_next hb h.top
 have s1 := ht.stored (i * 2) (.bool d.failed)
 have s2 := s1.1.stored (i * 2 + 1) x
 have keep : ∀ {b : Nat} {y : Value} {q : List Value} {m : List (List Nat)}, OMx b W y q m → OMx b ((W.setCell ⟨g, i * 2, none⟩ (.bool d.failed)).setCell ⟨g, i * 2 + 1, none⟩ x) y q m := fun ho =>
  (ho.kept ht ne_dk_u8 ne_dk_sl s1.2).kept s1.1 ne_dk_u8 ne_dk_sl s2.2
 have old : ∀ {i : Nat} {y : Value}, hs[i]? = some y → ∃ d u, ds[i]? = some d ∧ us[i]? = some u ∧ OMx B W0 y u d.blocks := fun {i y} hy => by
  obtain ⟨d, hd⟩ := get_some (show i < ds.length by rw [← h.lenH]; exact get_lt hy)
  obtain ⟨u, hu⟩ := get_some (show i < us.length by rw [h.lenU]; exact get_lt hd)
  exact ⟨d, u, hd, hu, h.row i d y u hd hy hu⟩
 have oldu : ∀ {i : Nat} {q : List Value}, us[i]? = some q → ∃ (d : Dk) (y : Value), OMx B W0 y q d.blocks := fun {i q} hq => by
  obtain ⟨y, hy⟩ := get_some (show i < hs.length by rw [h.lenH, ← h.lenU]; exact get_lt hq)
  obtain ⟨d, u', hd, hu, ho⟩ := old hy
  rw [hq] at hu; cases hu
  exact ⟨d, y, ho⟩
 refine ⟨by rw [flatD_set]; simpa using s2.1, by simp [h.lenH], by simp [h.lenU], fun j e y q he hy hq => ?_, fun j k y y' hij hy hy' => ?_, fun j k a b q q' y y' hij hq hq' hy hy' => ?_⟩
 ·rcases set_get he with ⟨e1, rfl, _⟩ | ⟨e1, he⟩
  ·rcases set_get hy with ⟨_, rfl, _⟩ | ⟨e2, _⟩
   ·rcases set_get hq with ⟨_, rfl, _⟩ | ⟨e3, _⟩
    ·exact (keep hx).mono hB
    ·omega
   ·omega
  ·rcases set_get hy with ⟨e2, _⟩ | ⟨_, hy⟩
   ·omega
   ·rcases set_get hq with ⟨e3, _⟩ | ⟨_, hq⟩
    ·omega
    ·exact keep ((h.row j e y q he hy hq).next hb)
 ·rcases set_get hy with ⟨e1, rfl, _⟩ | ⟨e1, hz⟩
  ·rcases set_get hy' with ⟨e2, _, _⟩ | ⟨_, hy'⟩
   ·omega
   ·cases e : y.ownBlock with
    | none => exact .inl rfl
    | some g =>
     refine .inr fun e' => ?_
     obtain ⟨_, _, _, _, ho⟩ := old hy'
     have := (ho.lt_top e'.symm).2
     have := (hx.lt_top e).1
     omega
  ·rcases set_get hy' with ⟨e2, rfl, _⟩ | ⟨_, hy'⟩
   ·cases e : y.ownBlock with
    | none => exact .inl rfl
    | some g =>
     refine .inr fun e' => ?_
     obtain ⟨_, _, _, _, ho⟩ := old hz
     have := (ho.lt_top e).2
     have := (hx.lt_top e'.symm).1
     omega
   ·exact h.tops j k y y' hij hz hy'
 ·rcases set_get hq with ⟨e1, rfl, _⟩ | ⟨e1, hz⟩
  ·rcases set_get hq' with ⟨e2, _, _⟩ | ⟨_, hq'⟩
   ·omega
   ·cases e : y.ownBlock with
    | none => exact .inl rfl
    | some g =>
     refine .inr fun e' => ?_
     obtain ⟨_, _, ho⟩ := oldu hq'
     have := (ho.lt_row hy' e'.symm).2
     have := (hx.lt_row hy e).1
     omega
  ·rcases set_get hq' with ⟨e2, rfl, _⟩ | ⟨_, hq'⟩
   ·cases e : y.ownBlock with
    | none => exact .inl rfl
    | some g =>
     refine .inr fun e' => ?_
     obtain ⟨_, _, ho⟩ := oldu hz
     have := (ho.lt_row hy e).2
     have := (hx.lt_row hy' e'.symm).1
     omega
   ·exact h.rows j k a b q q' y y' hij hz hq' hy hy'
end Go.Proofs.Ytapehckcmmompaa
namespace Go.Proofs.Ytapehckcmmompaa
open Go.ChangeShapes Go.WideShapes Go.ChangeAt Go.RowKit
set_option linter.unusedVariables false
set_option maxRecDepth 100000
theorem OMx.kept2 {B : Nat} {W W' : World} {x : Value} {u : List Value} {m : List (List Nat)} (h : OMx B W x u m) {base n : Nat} {v : Value} {xs : List Value} (ht : W.ownsRow base 26 1 v n xs) (hne : x.ownBlock = none ∨ x.ownBlock ≠ v.ownBlock) (hg : W.grownBy W' v.ownBlock) : OMx B W' x u m :=
 ⟨h.top.kept hg hne, fun i y l hy hl => (h.row i y l hy hl).kept hg (own_own ht (h.row i y l hy hl) (by decide)), h.byt, h.apart⟩
theorem OS.more {B : Nat} {W0 W W1 : World} {g n cap i k : Nat} {x x' r : Value} {hs : List Value} {us : List (List Value)} {ds : List Dk} {d : Dk} {u : List Value} {l : List Nat} (h : OS B W0 (.slice (some ⟨g, 0, none⟩) n cap) hs us ds) (hb : Below W0.heap.size W0 W) (hB : B ≤ W0.heap.size)
  (hd : ds[i]? = some d) (hh : hs[i]? = some x) (hu : us[i]? = some u) (hr : OB W0.heap.size W r l) (hl : Byt l)
  (hown : W1.ownsRow B 26 1 x' (d.blocks.length + 1) (u ++ [r])) (hg : W.grownBy W1 x.ownBlock) (hat : x'.ownBlock = x.ownBlock ∨ x'.ownBlock = some W.heap.size) :
  OS B (W1.setCell ⟨g, i * 2 + 1, none⟩ x') (.slice (some ⟨g, 0, none⟩) n cap) (hs.set i x') (us.set i (u ++ [r])) (ds.set i ⟨d.failed, d.blocks ++ [l]⟩) := by
 have hn : n = ds.length := by
  obtain ⟨A', c', e, _⟩ := own_form2 h.top
  simp only [Value.slice.injEq] at e; exact e.2.1
 subst hn
 have hi := h.row i d x u hd hh hu
 have hiW := hi.next hb
 have ht0 := own_next hb h.top
 have ht := ht0.kept hg (own_own hiW.top ht0 (by decide))
 have st := ht.stored (i * 2 + 1) x'
 have mine : OMx B W1 x' (u ++ [r]) (d.blocks ++ [l]) := OMx.push hi hb hr hl hB hown hg
 have keep : ∀ {b : Nat} {y : Value} {q : List Value} {m : List (List Nat)}, OMx b W1 y q m → OMx b (W1.setCell ⟨g, i * 2 + 1, none⟩ x') y q m := fun ho => ho.kept ht ne_dk_u8 ne_dk_sl st.2
 have old : ∀ {i : Nat} {y : Value}, hs[i]? = some y → ∃ d u, ds[i]? = some d ∧ us[i]? = some u ∧ OMx B W0 y u d.blocks := fun {i y} hy => by
  obtain ⟨d, hd⟩ := get_some (show i < ds.length by rw [← h.lenH]; exact get_lt hy)
  obtain ⟨u, hu⟩ := get_some (show i < us.length by rw [h.lenU]; exact get_lt hd)
  exact ⟨d, u, hd, hu, h.row i d y u hd hy hu⟩
 have oldu : ∀ {i : Nat} {q : List Value}, us[i]? = some q → ∃ (d : Dk) (y : Value), OMx B W0 y q d.blocks := fun {i q} hq => by
  obtain ⟨y, hy⟩ := get_some (show i < hs.length by rw [h.lenH, ← h.lenU]; exact get_lt hq)
  obtain ⟨d, u', hd, hu, ho⟩ := old hy
  rw [hq] at hu; cases hu
  exact ⟨d, y, ho⟩
 -- the new top against another one
 have tp : ∀ {j : Nat} {y : Value}, i ≠ j → hs[j]? = some y → ∀ a, x'.ownBlock = some a → y.ownBlock = some a → False := fun {j y} hij hy a e e' => by
  obtain ⟨_, _, _, _, ho⟩ := old hy
  have lt := (ho.lt_top e').2
  rcases hat with ha | ha
  ·rcases h.tops i j x y hij hh hy with hn | hn
   ·rw [ha, hn] at e; cases e
   ·exact hn (by rw [← ha, e, e'])
  ·rw [ha] at e
   injection e with e
   have := hb.size
   omega
 refine ⟨?_, by simp [h.lenH], by simp [h.lenU], fun j e y q he hy hq => ?_, fun j k y y' hij hy hy' => ?_, fun j k a b q q' y y' hij hq hq' hy hy' => ?_⟩
 ·rw [flatD_set]
  have e0 : (flatD ds hs).set (i * 2) (.bool d.failed) = flatD ds hs := by
   obtain ⟨f1, _⟩ := flatD_get hd hh
   exact List.ext_getElem? fun j => by
    rw [List.getElem?_set]
    by_cases ej : i * 2 = j
    ·subst ej
     rw [if_pos rfl, if_pos (get_lt f1), f1]
    ·rw [if_neg ej]
  rw [e0]
  simpa using st.1
 ·rcases set_get he with ⟨e1, rfl, _⟩ | ⟨e1, he⟩
  ·rcases set_get hy with ⟨_, rfl, _⟩ | ⟨e2, _⟩
   ·rcases set_get hq with ⟨_, rfl, _⟩ | ⟨e3, _⟩
    ·exact keep mine
    ·omega
   ·omega
  ·rcases set_get hy with ⟨e2, _⟩ | ⟨_, hy⟩
   ·omega
   ·rcases set_get hq with ⟨e3, _⟩ | ⟨_, hq⟩
    ·omega
    ·exact keep (((h.row j e y q he hy hq).next hb).kept2 hiW.top (h.tops j i y x (by omega) hy hh) hg)
 ·rcases set_get hy with ⟨e1, rfl, _⟩ | ⟨e1, hz⟩
  ·rcases set_get hy' with ⟨e2, _, _⟩ | ⟨_, hz'⟩
   ·omega
   ·cases e : y.ownBlock with
    | none => exact .inl rfl
    | some a => exact .inr fun e' => tp (by omega) hz' a e e'.symm
  ·rcases set_get hy' with ⟨e2, rfl, _⟩ | ⟨_, hz'⟩
   ·cases e : y.ownBlock with
    | none => exact .inl rfl
    | some a => exact .inr fun e' => tp (by omega) hz a e'.symm e
   ·exact h.tops j k y y' hij hz hz'
 ·have rw1 : ∀ {j : Nat} {q : List Value} {a b : Nat} {y z : Value}, i ≠ j → us[j]? = some q → q[a]? = some y → (u ++ [r])[b]? = some z → ∀ t, y.ownBlock = some t → z.ownBlock = some t → False := fun {j q a b y z} hij hq hy hz t e e' => by
   obtain ⟨_, _, ho⟩ := oldu hq
   have lt := (ho.lt_row hy e).2
   rcases get_append_one hz with h1 | ⟨_, rfl⟩
   ·rcases h.rows i j b a u q z y hij hu hq h1 hy with hn | hn
    ·rw [hn] at e'; cases e'
    ·exact hn (by rw [e, e'])
   ·have := (hr.lt t e').1
    omega
  rcases set_get hq with ⟨e1, rfl, _⟩ | ⟨e1, hz⟩
  ·rcases set_get hq' with ⟨e2, _, _⟩ | ⟨_, hz'⟩
   ·omega
   ·cases e : y.ownBlock with
    | none => exact .inl rfl
    | some t => exact .inr fun e' => rw1 (by omega) hz' hy' hy t e'.symm e
  ·rcases set_get hq' with ⟨e2, rfl, _⟩ | ⟨_, hz'⟩
   ·cases e : y.ownBlock with
    | none => exact .inl rfl
    | some t => exact .inr fun e' => rw1 (by omega) hz hy hy' t e e'.symm
   ·exact h.rows j k a b q q' y y' hij hz hz' hy hy'
end Go.Proofs.Ytapehckcmmompaa
namespace Go.Proofs.Ytapehckcmmompaa
open Go.ChangeShapes Go.WideShapes Go.ChangeAt Go.RowKit
set_option linter.unusedVariables false
set_option maxRecDepth 100000
def flatO (os : List Ob) : List Value := os.flatMap obL
theorem flatO_len (os : List Ob) : (flatO os).length = os.length * 5 := by
 induction os with
 | nil => rfl
 | cons o os ih => rw [flatO, List.flatMap_cons, List.length_append, ← flatO, ih, List.length_cons]; simp; omega
theorem flatO_push (os : List Ob) (o : Ob) : flatO (os ++ [o]) = flatO os ++ obL o := by simp [flatO]
theorem flatO_get {os : List Ob} {i j : Nat} {o : Ob} {u : Value} (h : os[i]? = some o) (hj : (obL o)[j]? = some u) : (flatO os)[i * 5 + j]? = some u := by
 induction os generalizing i with
 | nil => simp at h
 | cons a os ih =>
  have hj5 : j < 5 := get_lt hj
  cases i with
  | zero =>
   simp at h; subst h
   rw [flatO, List.flatMap_cons, Nat.zero_mul, Nat.zero_add, List.getElem?_append_left hj5]; exact hj
  | succ i =>
   rw [flatO, List.flatMap_cons, List.getElem?_append_right (by simp; omega), show (i + 1) * 5 + j - (obL a).length = i * 5 + j by simp; omega]
   exact ih (by simpa using h)
def OO (B : Nat) (w : World) (v : Value) (os : List Ob) : Prop := w.ownsRow B 50 5 v os.length (flatO os)
theorem OO.next {B : Nat} {w w' : World} {v : Value} {os : List Ob} (hb : Below w.heap.size w w') (h : OO B w v os) : OO B w' v os := own_next hb h
theorem OO.mono {B B' : Nat} {w : World} {v : Value} {os : List Ob} (h : OO B w v os) (hB : B' ≤ B) : OO B' w v os := own_mono h hB
theorem OO.nil (B : Nat) (w : World) : OO B w (.slice none 0 0) [] := World.ownsRow_nil _ _ _ _
theorem OO.form {B : Nat} {w : World} {v : Value} {os : List Ob} (h : OO B w v os) : ∃ A cap, v = .slice A os.length cap ∧ os.length ≤ cap ∧ cap ≤ 9223372036854775807 := own_form2 h
theorem OO.ro {B : Nat} {w : World} {A : Option Addr} {n c : Nat} {os : List Ob} (h : OO B w (.slice A n c) os) : RO B w A os := fun i o ho => by
 have hn : n = os.length := by
  obtain ⟨A', c', e, _⟩ := own_form2 h
  simp only [Value.slice.injEq] at e; exact e.2.1
 subst hn
 obtain ⟨b, e, _, k2, k3⟩ := own_cell2 h (flatO_get (j := 0) ho rfl)
 refine ⟨b, 0, e, k3, k2, fun j u hu => ?_⟩
 obtain ⟨b', e', k1', _⟩ := own_cell2 h (flatO_get (j := j) ho hu)
 rw [e] at e'
 injection e' with e'
 injection e' with e' _
 subst e'
 simpa [Nat.add_assoc] using k1'
end Go.Proofs.Ytapehckcmmompaa
namespace Go.Proofs.Ytapehckcmmompaa
open Go.ChangeShapes Go.WideShapes Go.ChangeAt Go.RowKit
set_option linter.unusedVariables false
set_option maxRecDepth 100000
theorem ne_sl_dk : (26 : TypeId) ≠ 46 := by decide
theorem ne_sl_sto : (26 : TypeId) ≠ 25 := by decide
theorem ne_sl_ob : (26 : TypeId) ≠ 50 := by decide
theorem ne_dk_sto : (46 : TypeId) ≠ 25 := by decide
theorem ne_dk_ob : (46 : TypeId) ≠ 50 := by decide
theorem ne_ob_sto : (50 : TypeId) ≠ 25 := by decide
theorem ne_ob_u8 : (50 : TypeId) ≠ 5 := by decide
theorem ne_ob_sl : (50 : TypeId) ≠ 26 := by decide
theorem ne_ob_dk : (50 : TypeId) ≠ 46 := by decide
theorem ne_sto_u8 : (25 : TypeId) ≠ 5 := by decide
theorem ne_sto_sl : (25 : TypeId) ≠ 26 := by decide
theorem ne_sto_dk : (25 : TypeId) ≠ 46 := by decide
theorem ne_sto_ob : (25 : TypeId) ≠ 50 := by decide
theorem ne_u8_sto : (5 : TypeId) ≠ 25 := by decide
theorem ne_u8_ob : (5 : TypeId) ≠ 50 := by decide
theorem ne_st_dk : (54 : TypeId) ≠ 46 := by decide
theorem ne_st_ob : (54 : TypeId) ≠ 50 := by decide
theorem rd_dk {w : World} {g : Nat} {a b : Value} {t : TypeId} (h : w.heap[g]? = some (.cells #[a, b] t)) : Rd w 2 (some ⟨g, 0, none⟩) 1 [a, b] :=
 ⟨rfl, fun _ => ⟨g, 0, rfl, blk_lt h, fun j x hx => blk_cell h _ _ (by
  match j, hx with
  | 0, hx => simpa using hx
  | 1, hx => simpa using hx
  | j + 2, hx => simp at hx)⟩⟩
theorem rd_ob {w : World} {g : Nat} {o : Ob} {t : TypeId} (h : w.heap[g]? = some (.cells #[.string o.name, .int .i64 o.size, .int .i64 o.from_, .int .i64 o.many, .int .i64 o.dig] t)) : Rd w 5 (some ⟨g, 0, none⟩) 1 (obL o) :=
 ⟨rfl, fun _ => ⟨g, 0, rfl, blk_lt h, fun j x hx => blk_cell h _ _ (by
  match j, hx with
  | 0, hx => simpa using hx
  | 1, hx => simpa using hx
  | 2, hx => simpa using hx
  | 3, hx => simpa using hx
  | 4, hx => simpa using hx
  | j + 5, hx => simp at hx)⟩⟩
theorem obj_one (o : Ob) : ∀ u ∈ obL o, u.oneCell' = true := fun u h => by
 simp only [obL, List.mem_cons, List.not_mem_nil, or_false] at h
 rcases h with rfl | rfl | rfl | rfl | rfl <;> rfl
theorem dk_one {B : Nat} {w : World} {f : Bool} {x : Value} {u : List Value} {m : List (List Nat)} (h : OMx B w x u m) : ∀ u ∈ [Value.bool f, x], u.oneCell' = true := fun y hy => by
 obtain ⟨A, c, rfl, _⟩ := own_form2 h.top
 simp only [List.mem_cons, List.not_mem_nil, or_false] at hy
 rcases hy with rfl | rfl <;> rfl
theorem OS.same {B : Nat} {w w' : World} {v : Value} {hs : List Value} {us : List (List Value)} {ds : List Dk} (h : OS B w v hs us ds) (hk : ∀ g cs t, B ≤ g → w.heap[g]? = some (.cells cs t (0, 0)) → (t = 5 ∨ t = 26 ∨ t = 46) → w'.heap[g]? = w.heap[g]?) : OS B w' v hs us ds :=
 ⟨own_same h.top (fun g cs hg hh => hk g cs _ hg hh (.inr (.inr rfl))), h.lenH, h.lenU, fun i d x u h1 h2 h3 => (h.row i d x u h1 h2 h3).same (fun g cs t hg hh ht => hk g cs t hg hh (by rcases ht with rfl | rfl; exact .inl rfl; exact .inr (.inl rfl))), h.tops, h.rows⟩
theorem set_keep {w : World} {g o g' : Nat} {cs cs' : Array Value} {t t' : TypeId} {fz fz' : Nat × Nat} (hg : w.heap[g]? = some (.cells cs t fz)) (hh : w.heap[g']? = some (.cells cs' t' fz')) (hne : t ≠ t') (x : Value) : (w.setCell ⟨g, o, none⟩ x).heap[g']? = w.heap[g']? :=
 Below.heap_setCell w ⟨g, o, none⟩ x g' (fun e => by
  have e' : g' = g := e
  subst e'
  rw [hg] at hh
  injection hh with hh
  injection hh with _ ht' _
  exact hne ht')
theorem OS.set_ {B : Nat} {w : World} {v : Value} {hs : List Value} {us : List (List Value)} {ds : List Dk} (h : OS B w v hs us ds) {g o : Nat} {cs : Array Value} {t : TypeId} {fz : Nat × Nat} (hg : w.heap[g]? = some (.cells cs t fz)) (h1 : t ≠ 5) (h2 : t ≠ 26) (h3 : t ≠ 46) (x : Value) : OS B (w.setCell ⟨g, o, none⟩ x) v hs us ds :=
 h.same fun g' cs' t' _ hh ht => set_keep hg hh (by rcases ht with rfl | rfl | rfl <;> assumption) x
theorem OS.kept {B : Nat} {W W' : World} {v : Value} {hs : List Value} {us : List (List Value)} {ds : List Dk} (h : OS B W v hs us ds) {base n size : Nat} {e : TypeId} {y : Value} {xs : List Value} (ht : W.ownsRow base e size y n xs) (h1 : e ≠ 5) (h2 : e ≠ 26) (h3 : e ≠ 46) (hg : W.grownBy W' y.ownBlock) : OS B W' v hs us ds :=
 h.same fun g cs t _ hh htt => hg.block g (blk_lt hh) (fun e' => own_ne ht hh (by rcases htt with rfl | rfl | rfl <;> assumption) e'.symm)
theorem OO.set_ {B : Nat} {w : World} {v : Value} {os : List Ob} (h : OO B w v os) {g o : Nat} {cs : Array Value} {t : TypeId} {fz : Nat × Nat} (hg : w.heap[g]? = some (.cells cs t fz)) (h1 : t ≠ 50) (x : Value) : OO B (w.setCell ⟨g, o, none⟩ x) v os :=
 own_same h fun g' cs' _ hh => set_keep hg hh h1 x
theorem OO.kept {B : Nat} {W W' : World} {v : Value} {os : List Ob} (h : OO B W v os) {base n size : Nat} {e : TypeId} {y : Value} {xs : List Value} (ht : W.ownsRow base e size y n xs) (h1 : e ≠ 50) (hg : W.grownBy W' y.ownBlock) : OO B W' v os :=
 own_same h fun g cs _ hh => hg.block g (blk_lt hh) (fun e' => own_ne ht hh h1 e'.symm)
theorem OT.same_ {B : Nat} {w : World} {v : Value} {ds : List Dk} (h : OT B w v ds) {g o : Nat} {cs : Array Value} {t : TypeId} {fz : Nat × Nat} (hg : w.heap[g]? = some (.cells cs t fz)) (h1 : t ≠ 5) (h2 : t ≠ 26) (h3 : t ≠ 46) (x : Value) : OT B (w.setCell ⟨g, o, none⟩ x) v ds := by
 obtain ⟨hs, us, h⟩ := h
 exact ⟨hs, us, h.set_ hg h1 h2 h3 x⟩
theorem OT.mono {B B' : Nat} {w : World} {v : Value} {ds : List Dk} (h : OT B w v ds) (hB : B' ≤ B) : OT B' w v ds := by
 obtain ⟨hs, us, h⟩ := h
 exact ⟨hs, us, h.mono hB⟩
theorem OT.nil (B : Nat) (w : World) : OT B w (.slice none 0 0) [] := ⟨[], [], OS.nil B w⟩
theorem OT.form {B : Nat} {w : World} {v : Value} {ds : List Dk} (h : OT B w v ds) : ∃ A cap, v = .slice A ds.length cap ∧ ds.length ≤ cap ∧ cap ≤ 9223372036854775807 := by
 obtain ⟨hs, us, h⟩ := h
 exact own_form2 h.top
theorem OT.rd {B : Nat} {w : World} {A : Option Addr} {n c : Nat} {ds : List Dk} (h : OT B w (.slice A n c) ds) : RD B w A ds := by
 obtain ⟨hs, us, h⟩ := h
 exact h.rd
abbrev set4 (w : World) (g : Nat) (x y z u : Value) : World := (((w.setCell ⟨g, 0, none⟩ x).setCell ⟨g, 1, none⟩ y).setCell ⟨g, 2, none⟩ z).setCell ⟨g, 3, none⟩ u
theorem blk_set4 {w : World} {g : Nat} {a b c d : Value} {t : TypeId} (h : w.heap[g]? = some (.cells #[a, b, c, d] t)) (x y z u : Value) : (set4 w g x y z u).heap[g]? = some (.cells #[x, y, z, u] t) :=
 blk_set (blk_set (blk_set (blk_set h 0 x) 1 y) 2 z) 3 u
theorem Bset4 {w W : World} (h : Below w.heap.size w W) {g : Nat} (hg : w.heap.size ≤ g) (x y z u : Value) : Below w.heap.size w (set4 W g x y z u) := Bset1 (Bset1 (Bset1 (Bset1 h hg 0 x) hg 1 y) hg 2 z) hg 3 u
theorem blk_set4_other {w : World} {g b : Nat} {o : Obj} (h : w.heap[b]? = some o) (hne : g ≠ b) (x y z u : Value) : (set4 w g x y z u).heap[b]? = some o :=
 blk_set_other (blk_set_other (blk_set_other (blk_set_other h hne 0 x) hne 1 y) hne 2 z) hne 3 u
theorem OS.set4_ {B : Nat} {w : World} {v : Value} {hs : List Value} {us : List (List Value)} {ds : List Dk} (h : OS B w v hs us ds) {g : Nat} {cs : Array Value} (hg : w.heap[g]? = some (.cells cs 25)) (x y z u : Value) : OS B (set4 w g x y z u) v hs us ds :=
 (((h.set_ hg ne_sto_u8 ne_sto_sl ne_sto_dk x).set_ (blk_set hg 0 x) ne_sto_u8 ne_sto_sl ne_sto_dk y).set_ (blk_set (blk_set hg 0 x) 1 y) ne_sto_u8 ne_sto_sl ne_sto_dk z).set_ (blk_set (blk_set (blk_set hg 0 x) 1 y) 2 z) ne_sto_u8 ne_sto_sl ne_sto_dk u
theorem OO.set4_ {B : Nat} {w : World} {v : Value} {os : List Ob} (h : OO B w v os) {g : Nat} {cs : Array Value} (hg : w.heap[g]? = some (.cells cs 25)) (x y z u : Value) : OO B (set4 w g x y z u) v os :=
 (((h.set_ hg ne_sto_ob x).set_ (blk_set hg 0 x) ne_sto_ob y).set_ (blk_set (blk_set hg 0 x) 1 y) ne_sto_ob z).set_ (blk_set (blk_set (blk_set hg 0 x) 1 y) 2 z) ne_sto_ob u
theorem OT.set4_ {B : Nat} {w : World} {v : Value} {ds : List Dk} (h : OT B w v ds) {g : Nat} {cs : Array Value} (hg : w.heap[g]? = some (.cells cs 25)) (x y z u : Value) : OT B (set4 w g x y z u) v ds := by
 obtain ⟨hs, us, h⟩ := h
 exact ⟨hs, us, h.set4_ hg x y z u⟩
end Go.Proofs.Ytapehckcmmompaa
