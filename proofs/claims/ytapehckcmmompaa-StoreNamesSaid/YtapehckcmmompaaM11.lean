/- Several texts in one. -/
import Derived.Deep.DeepCutAuto
import Derived.Test.YtapehckcmmompaaM01
import Derived.Test.YtapehckcmmompaaM02
import Derived.Test.YtapehckcmmompaaM04
import Derived.Test.YtapehckcmmompaaM09
import Derived.Test.YtapehckcmmompaaM10
namespace Go.Proofs.Ytapehckcmmompaa
open Go.ChangeShapes Go.WideShapes Go.ChangeAt Go.RowKit
set_option linter.unusedVariables false
set_option maxRecDepth 100000
abbrev So := Int × Int × List Dk × List Ob
def noS : So := (0, 0, [], [])
def strp (ds : List Dk) (k : Nat) : List (List Nat) := ds.map fun x => if x.failed then [] else x.blocks.getD k []
theorem strp_len (ds : List Dk) (k : Nat) : (strp ds k).length = ds.length := by simp [strp]
theorem strp_get {ds : List Dk} {k i : Nat} {x : Dk} (h : ds[i]? = some x) : (strp ds k)[i]? = some (if x.failed then [] else x.blocks.getD k []) := by simp [strp, h]
def padL (b : List Nat) (n : Nat) : List Nat := b ++ List.replicate (n - b.length) 0
def rowsL (d : Nat) (q : List Nat) (k : Nat) : List (List Nat) := (List.range d).map fun i => (q.drop ((k * d + i) * 8)).take 8
def putDk (d p : Nat) (q : List Nat) (k i : Nat) (x : Dk) : Dk := if x.failed then x else ⟨false, x.blocks ++ (List.range k).map fun j => (enc (rowsL d q j) p).getD i []⟩
def putM (d p : Nat) (q : List Nat) (k n : Nat) (ds : List Dk) : List Dk := ds.mapIdx fun i x => if i < n then putDk d p q (k + 1) i x else putDk d p q k i x
def putDs (d p : Nat) (q : List Nat) (k : Nat) (ds : List Dk) : List Dk := ds.mapIdx fun i x => putDk d p q k i x
theorem putM_zero (d p : Nat) (q : List Nat) (k : Nat) (ds : List Dk) : putM d p q k 0 ds = putDs d p q k ds := by simp [putM, putDs]
theorem putM_all (d p : Nat) (q : List Nat) (k : Nat) (ds : List Dk) : putM d p q k ds.length ds = putDs d p q (k + 1) ds := by
 refine List.ext_getElem? fun i => ?_
 simp only [putM, putDs, List.getElem?_mapIdx]
 cases h : ds[i]? with
 | none => rfl
 | some x => simp [get_lt h]
theorem putDs_zero (d p : Nat) (q : List Nat) (ds : List Dk) : putDs d p q 0 ds = ds := by
 refine List.ext_getElem? fun i => ?_
 simp only [putDs, List.getElem?_mapIdx]
 cases h : ds[i]? with
 | none => rfl
 | some x =>
  have : putDk d p q 0 i x = x := by
   unfold putDk
   split
   ·rfl
   ·rename_i hf
    cases x with
    | mk f b => simp at hf; subst hf; simp
  simp [this]
theorem putM_len (d p : Nat) (q : List Nat) (k n : Nat) (ds : List Dk) : (putM d p q k n ds).length = ds.length := by simp [putM]
theorem putDs_len (d p : Nat) (q : List Nat) (k : Nat) (ds : List Dk) : (putDs d p q k ds).length = ds.length := by simp [putDs]
theorem putM_get {d p : Nat} {q : List Nat} {k n : Nat} {ds : List Dk} {i : Nat} {x : Dk} (h : ds[i]? = some x) : (putM d p q k n ds)[i]? = some (if i < n then putDk d p q (k + 1) i x else putDk d p q k i x) := by simp [putM, h]
theorem putDk_gone {d p : Nat} {q : List Nat} {k i : Nat} {x : Dk} (h : x.failed = true) : putDk d p q k i x = x := by simp [putDk, h]
theorem putDk_succ {d p : Nat} {q : List Nat} {k i : Nat} {x : Dk} (h : x.failed = false) : putDk d p q (k + 1) i x = ⟨(putDk d p q k i x).failed, (putDk d p q k i x).blocks ++ [(enc (rowsL d q k) p).getD i []]⟩ := by
 simp [putDk, h, List.range_succ]
theorem putM_skip {d p : Nat} {q : List Nat} {k n : Nat} {ds : List Dk} {x : Dk} (hx : ds[n]? = some x) (h : x.failed = true) : putM d p q k (n + 1) ds = putM d p q k n ds := by
 refine List.ext_getElem? fun i => ?_
 simp only [putM, List.getElem?_mapIdx]
 cases hi : ds[i]? with
 | none => rfl
 | some y =>
  by_cases e : i = n
  ·subst e; rw [hx] at hi; cases hi; simp [putDk_gone h]
  ·have : (i < n + 1) = (i < n) := by simp; omega
   simp [this]
theorem putM_step {d p : Nat} {q : List Nat} {k n : Nat} {ds : List Dk} {x : Dk} (hx : ds[n]? = some x) : putM d p q k (n + 1) ds = (putM d p q k n ds).set n (putDk d p q (k + 1) n x) := by
 refine List.ext_getElem? fun i => ?_
 rw [List.getElem?_set]
 simp only [putM, List.getElem?_mapIdx, List.length_mapIdx]
 by_cases e : n = i
 ·subst e; rw [if_pos rfl, if_pos (get_lt hx), hx]; simp
 ·rw [if_neg e]
  cases hi : ds[i]? with
  | none => rfl
  | some y =>
   have : (i < n + 1) = (i < n) := by simp; omega
   simp [this]
def putE (d p : Int) (ds : List Dk) (os : List Ob) (nm : ByteArray) (b : List Nat) : Int :=
 if chS d p ds os = 0 then
  if namB nm.data.toList = true then
   if 0 ≤ findL os nm.toList then 14
   else if 16 ≤ os.length ∨ 256 < b.length then 4
   else if p < (faN ds : Int) then 32
   else 0
  else 8
 else chS d p ds os
def manyL (d : Int) (b : List Nat) : Nat := (ned b.length d).toNat
def newO (d : Int) (os : List Ob) (nm : ByteArray) (b : List Nat) : Ob := ⟨nm, b.length, strN os, ned b.length d, (digL b : Nat)⟩
def padB (d : Int) (b : List Nat) : List Nat := padL b (manyL d b * 8 * d.toNat)
def putS (d p : Int) (ds : List Dk) (os : List Ob) (nm : ByteArray) (b : List Nat) : So :=
 if putE d p ds os nm b = 0 then (d, p, putDs d.toNat p.toNat (padB d b) (manyL d b) ds, os ++ [newO d os nm b]) else noS
def getTo (d p : Int) (ds : List Dk) (fr : Nat) : Nat → List Nat × Int
 | 0 => ([], 0)
 | k + 1 => if (getTo d p ds fr k).2 = 0 then
   if resE d p (strp ds (fr + k)) = 0 then ((getTo d p ds fr k).1 ++ ((resS d p (strp ds (fr + k))).2.2.take d.toNat).flatten, 0)
   else ([], resE d p (strp ds (fr + k)))
  else getTo d p ds fr k
def getR (d p : Int) (ds : List Dk) (os : List Ob) (nm : ByteArray) : List Nat × Int :=
 if chS d p ds os = 0 then
  match os[(findL os nm.toList).toNat]?, decide (0 ≤ findL os nm.toList) with
  | some o, true =>
   if (getTo d p ds o.from_.toNat o.many.toNat).2 = 0 then
    if ((digL ((getTo d p ds o.from_.toNat o.many.toNat).1.take o.size.toNat) : Nat) : Int) = o.dig then ((getTo d p ds o.from_.toNat o.many.toNat).1.take o.size.toNat, 0) else ([], 30)
   else ([], (getTo d p ds o.from_.toNat o.many.toNat).2)
  | _, _ => ([], 6)
 else ([], chS d p ds os)
def newE (d p : Int) : Int := if szB d p = true then 0 else 2
def newS (d p : Int) : So := if szB d p = true then (d, p, List.replicate (d + p).toNat ⟨false, []⟩, []) else noS
def faiE (d p : Int) (ds : List Dk) (os : List Ob) (x : Int) : Int :=
 if chS d p ds os = 0 then
  match ds[x.toNat]?, decide (0 ≤ x) with
  | some k, true => if k.failed then 36 else if 0 < strN os ∧ faN ds + 1 = ds.length then 32 else 0
  | _, _ => 2
 else chS d p ds os
def faiS (d p : Int) (ds : List Dk) (os : List Ob) (x : Int) : So := if faiE d p ds os x = 0 then (d, p, ds.set x.toNat ⟨true, []⟩, os) else noS
def repTo (d p : Int) (ds : List Dk) (x : Nat) : Nat → List (List Nat) × Int
 | 0 => ([], 0)
 | k + 1 => if (repTo d p ds x k).2 = 0 then
   if resE d p (strp ds k) = 0 then ((repTo d p ds x k).1 ++ [(resS d p (strp ds k)).2.2.getD x []], 0)
   else ([], resE d p (strp ds k))
  else repTo d p ds x k
def repE (d p : Int) (ds : List Dk) (os : List Ob) (x : Int) : Int :=
 if chS d p ds os = 0 then
  match ds[x.toNat]?, decide (0 ≤ x) with
  | some k, true => if k.failed then (repTo d p ds x.toNat (strN os).toNat).2 else 36
  | _, _ => 2
 else chS d p ds os
def repS (d p : Int) (ds : List Dk) (os : List Ob) (x : Int) : So := if repE d p ds os x = 0 then (d, p, ds.set x.toNat ⟨false, (repTo d p ds x.toNat (strN os).toNat).1⟩, os) else noS
def scrL (d p : Int) (ds : List Dk) (n : Nat) : List Int := ((List.range n).filter fun k => !decide (resE d p (strp ds k) = 0)).map fun (k : Nat) => (k : Int)
def scrE (d p : Int) (ds : List Dk) (os : List Ob) : Int :=
 if chS d p ds os = 0 then if 0 < strN os ∧ p < (faN ds : Int) then 32 else 0 else chS d p ds os
def scrR (d p : Int) (ds : List Dk) (os : List Ob) : List Int := if scrE d p ds os = 0 then scrL d p ds (strN os).toNat else []
theorem szL_zero {m : List (List Nat)} (h : szL m = 0) : ∀ l ∈ m, l.length = 0 := by
 induction m with
 | nil => simp
 | cons x m ih =>
  unfold szL at h
  by_cases hx : x.length = 0
  ·rw [if_pos hx] at h
   intro l hl
   rcases List.mem_cons.1 hl with rfl | h1
   ·exact hx
   ·exact ih h l h1
  ·rw [if_neg hx] at h; exact absurd h hx
end Go.Proofs.Ytapehckcmmompaa
namespace Go.Proofs.Ytapehckcmmompaa
open Go.ChangeShapes Go.WideShapes Go.ChangeAt Go.RowKit
set_option linter.unusedVariables false
set_option maxRecDepth 100000
def flatD : List Dk → List Value → List Value
 | d :: ds, h :: hs => .bool d.failed :: h :: flatD ds hs
 | _, _ => []
theorem flatD_len : ∀ {ds : List Dk} {hs : List Value}, hs.length = ds.length → (flatD ds hs).length = ds.length * 2
 | [], [], _ => rfl
 | d :: ds, h :: hs, e => by
  have := flatD_len (ds := ds) (hs := hs) (by simpa using e)
  simp only [flatD, List.length_cons, this]; omega
 | [], h :: hs, e => by simp at e
 | d :: ds, [], e => by simp at e
theorem flatD_get : ∀ {ds : List Dk} {hs : List Value} {i : Nat} {d : Dk} {h : Value}, ds[i]? = some d → hs[i]? = some h → (flatD ds hs)[i * 2]? = some (.bool d.failed) ∧ (flatD ds hs)[i * 2 + 1]? = some h
 | [], _, i, d, h, e, _ => by simp at e
 | d0 :: ds, [], i, d, h, _, e => by simp at e
 | d0 :: ds, h0 :: hs, 0, d, h, e, e' => by simp at e e'; subst e e'; exact ⟨rfl, rfl⟩
 | d0 :: ds, h0 :: hs, i + 1, d, h, e, e' => by
  have := flatD_get (ds := ds) (hs := hs) (i := i) (d := d) (h := h) (by simpa using e) (by simpa using e')
  simpa [flatD, show (i + 1) * 2 = i * 2 + 1 + 1 by omega] using this
structure OS (B : Nat) (w : World) (v : Value) (hs : List Value) (us : List (List Value)) (ds : List Dk) : Prop where
 top : w.ownsRow B 46 2 v ds.length (flatD ds hs)
 lenH : hs.length = ds.length
 lenU : us.length = ds.length
 row : ∀ (i : Nat) (d : Dk) (h : Value) (u : List Value), ds[i]? = some d → hs[i]? = some h → us[i]? = some u → OMx B w h u d.blocks
 tops : ∀ (i j : Nat) (h h' : Value), i ≠ j → hs[i]? = some h → hs[j]? = some h' → h.ownBlock = none ∨ h.ownBlock ≠ h'.ownBlock
 rows : ∀ (i j k l : Nat) (u u' : List Value) (x y : Value), i ≠ j → us[i]? = some u → us[j]? = some u' → u[k]? = some x → u'[l]? = some y → x.ownBlock = none ∨ x.ownBlock ≠ y.ownBlock
def OT (B : Nat) (w : World) (v : Value) (ds : List Dk) : Prop := ∃ hs us, OS B w v hs us ds
theorem OS.next {B : Nat} {w w' : World} {v : Value} {hs : List Value} {us : List (List Value)} {ds : List Dk} (hb : Below w.heap.size w w') (h : OS B w v hs us ds) : OS B w' v hs us ds :=
 ⟨own_next hb h.top, h.lenH, h.lenU, fun i d x u h1 h2 h3 => (h.row i d x u h1 h2 h3).next hb, h.tops, h.rows⟩
theorem OT.next {B : Nat} {w w' : World} {v : Value} {ds : List Dk} (hb : Below w.heap.size w w') (h : OT B w v ds) : OT B w' v ds := by
 obtain ⟨hs, us, h⟩ := h
 exact ⟨hs, us, h.next hb⟩
theorem OS.mono {B B' : Nat} {w : World} {v : Value} {hs : List Value} {us : List (List Value)} {ds : List Dk} (h : OS B w v hs us ds) (hB : B' ≤ B) : OS B' w v hs us ds :=
 ⟨own_mono h.top hB, h.lenH, h.lenU, fun i d x u h1 h2 h3 => (h.row i d x u h1 h2 h3).mono hB, h.tops, h.rows⟩
theorem OS.nil (B : Nat) (w : World) : OS B w (.slice none 0 0) [] [] [] :=
 ⟨World.ownsRow_nil _ _ _ _, rfl, rfl, fun i d x u h => by simp at h, fun i j h h' _ e => by simp at e, fun i j k l u u' x y _ e => by simp at e⟩
theorem own_form2 {w : World} {base : Nat} {e : TypeId} {n size : Nat} {v : Value} {xs : List Value} (h : w.ownsRow base e size v n xs) : ∃ A cap, v = .slice A n cap ∧ n ≤ cap ∧ cap ≤ 9223372036854775807 := by
 rcases h.2 with ⟨h3, h2⟩ | ⟨g, cap, cur, hv, hb, hg, hc, hm, hs, ht⟩
 ·subst h2; exact ⟨none, 0, h3, by omega, by omega⟩
 ·exact ⟨_, cap, hv, hc, by simpa [maxLen] using hm⟩
theorem own_cell2 {w : World} {B : Nat} {e : TypeId} {A : Option Addr} {n cap i size : Nat} {us : List Value} {u : Value} (h : w.ownsRow B e size (.slice A n cap) n us) (hu : us[i]? = some u) : ∃ b, A = some ⟨b, 0, none⟩ ∧ w.cell? ⟨b, i, none⟩ = some u ∧ b < w.heap.size ∧ B ≤ b := by
 have hl : i < n * size := by have := get_lt hu; have h1 := h.1; omega
 rcases h.2 with ⟨h', hn⟩ | ⟨g, cap', cur, h', hb, hg, _, _, _, ht⟩
 ·subst hn; simp at hl
 ·simp only [Value.slice.injEq, true_and] at h'
  refine ⟨g, h'.1, blk_cell hg i u ?_, blk_lt hg, hb⟩
  rw [← ht, List.getElem?_take, if_pos hl] at hu
  simpa using hu
theorem OS.rd {B : Nat} {w : World} {A : Option Addr} {n c : Nat} {hs : List Value} {us : List (List Value)} {ds : List Dk} (h : OS B w (.slice A n c) hs us ds) : RD B w A ds := fun i d hd => by
 have hn : n = ds.length := by
  obtain ⟨A', c', e, _⟩ := own_form2 h.top
  simp only [Value.slice.injEq] at e; exact e.2.1
 subst hn
 obtain ⟨x, hx⟩ := get_some (show i < hs.length by rw [h.lenH]; exact get_lt hd)
 obtain ⟨u, hu⟩ := get_some (show i < us.length by rw [h.lenU]; exact get_lt hd)
 obtain ⟨f1, f2⟩ := flatD_get hd hx
 obtain ⟨b, e, k1, k2, k3⟩ := own_cell2 h.top f1
 obtain ⟨b', e', k1', _⟩ := own_cell2 h.top f2
 rw [e] at e'
 injection e' with e'
 injection e' with e' _
 subst e'
 refine ⟨b, 0, x, e, k3, k2, by simpa using k1, by simpa using k1', ?_⟩
 exact OM.rm ⟨u, h.row i d x u hd hx hu⟩
end Go.Proofs.Ytapehckcmmompaa
namespace Go.Proofs.Ytapehckcmmompaa
open Go.ChangeShapes Go.WideShapes Go.ChangeAt Go.RowKit
set_option linter.unusedVariables false
set_option maxRecDepth 100000
theorem ne_dk_u8 : (46 : TypeId) ≠ 5 := by decide
theorem ne_dk_sl : (46 : TypeId) ≠ 26 := by decide
theorem OMx.kept {B : Nat} {W W' : World} {x : Value} {u : List Value} {m : List (List Nat)} (h : OMx B W x u m) {base n size : Nat} {e : TypeId} {v : Value} {xs : List Value} (ht : W.ownsRow base e size v n xs) (h1 : e ≠ 5) (h2 : e ≠ 26) (hg : W.grownBy W' v.ownBlock) : OMx B W' x u m :=
 h.same fun g cs t _ hh htt => hg.block g (blk_lt hh) (fun e' => own_ne ht hh (by rcases htt with rfl | rfl <;> assumption) e'.symm)
theorem flatD_push : ∀ {ds : List Dk} {hs : List Value} (d : Dk) (h : Value), hs.length = ds.length → flatD (ds ++ [d]) (hs ++ [h]) = flatD ds hs ++ [.bool d.failed, h]
 | [], [], d, h, _ => rfl
 | d0 :: ds, h0 :: hs, d, h, e => by
  have := flatD_push (ds := ds) (hs := hs) d h (by simpa using e)
  simp only [List.cons_append, flatD, this]
 | [], h0 :: hs, d, h, e => by simp at e
 | d0 :: ds, [], d, h, e => by simp at e
theorem OMx.lt_top {B : Nat} {w : World} {x : Value} {u : List Value} {m : List (List Nat)} (h : OMx B w x u m) {g : Nat} (hg : x.ownBlock = some g) : B ≤ g ∧ g < w.heap.size := h.top.lt g hg
theorem OMx.lt_row {B : Nat} {w : World} {x y : Value} {u : List Value} {m : List (List Nat)} (h : OMx B w x u m) {k g : Nat} (hk : u[k]? = some y) (hg : y.ownBlock = some g) : B ≤ g ∧ g < w.heap.size := by
 obtain ⟨l, hl⟩ := get_some (show k < m.length by rw [← h.len]; exact get_lt hk)
 exact (h.row k y l hk hl).lt g hg
theorem OS.push {B : Nat} {W0 W W' : World} {v v' x : Value} {hs : List Value} {us : List (List Value)} {ds : List Dk} {d : Dk} {u : List Value} (h : OS B W0 v hs us ds) (hb : Below W0.heap.size W0 W) (hx : OMx W0.heap.size W x u d.blocks) (hB : B ≤ W0.heap.size)
  (hown : W'.ownsRow B 46 2 v' (ds.length + 1) (flatD ds hs ++ [.bool d.failed, x])) (hg : W.grownBy W' v.ownBlock) : OS B W' v' (hs ++ [x]) (us ++ [u]) (ds ++ [d]) := by
 have ht := own_next hb h.top
 have old : ∀ {i : Nat} {y : Value}, hs[i]? = some y → ∃ d u, ds[i]? = some d ∧ us[i]? = some u ∧ OMx B W0 y u d.blocks := fun {i y} hy => by
  obtain ⟨d, hd⟩ := get_some (show i < ds.length by rw [← h.lenH]; exact get_lt hy)
  obtain ⟨u, hu⟩ := get_some (show i < us.length by rw [h.lenU]; exact get_lt hd)
  exact ⟨d, u, hd, hu, h.row i d y u hd hy hu⟩
 have oldu : ∀ {i : Nat} {q : List Value}, us[i]? = some q → ∃ (d : Dk) (y : Value), OMx B W0 y q d.blocks := fun {i q} hq => by
  obtain ⟨y, hy⟩ := get_some (show i < hs.length by rw [h.lenH, ← h.lenU]; exact get_lt hq)
  obtain ⟨d, u', hd, hu, ho⟩ := old hy
  rw [hq] at hu; cases hu
  exact ⟨d, y, ho⟩
 refine ⟨by rw [flatD_push d x h.lenH]; simpa using hown, by simp [h.lenH], by simp [h.lenU], fun i e y q he hy hq => ?_, fun i j y y' hij hy hy' => ?_, fun i j k l q q' y y' hij hq hq' hy hy' => ?_⟩
 ·rcases get_append_one he with h1 | ⟨h1, rfl⟩
  ·rcases get_append_one hy with h2 | ⟨h2, rfl⟩
   ·rcases get_append_one hq with h3 | ⟨h3, rfl⟩
    ·exact ((h.row i e y q h1 h2 h3).next hb).kept ht ne_dk_u8 ne_dk_sl hg
    ·have := get_lt h1; rw [h.lenU] at h3; omega
   ·have := get_lt h1; rw [h.lenH] at h2; omega
  ·rcases get_append_one hy with h2 | ⟨h2, rfl⟩
   ·have := get_lt h2; rw [h.lenH] at this; omega
   ·rcases get_append_one hq with h3 | ⟨h3, rfl⟩
    ·have := get_lt h3; rw [h.lenU] at this; omega
    ·exact (hx.kept ht ne_dk_u8 ne_dk_sl hg).mono hB
 ·rcases get_append_one hy with h1 | ⟨h1, rfl⟩
  ·rcases get_append_one hy' with h2 | ⟨h2, rfl⟩
   ·exact h.tops i j y y' hij h1 h2
   ·cases e : y.ownBlock with
    | none => exact .inl rfl
    | some g =>
     refine .inr fun e' => ?_
     obtain ⟨_, _, _, _, ho⟩ := old h1
     have := (ho.lt_top e).2
     have := (hx.lt_top e'.symm).1
     omega
  ·rcases get_append_one hy' with h2 | ⟨h2, rfl⟩
   ·cases e : y.ownBlock with
    | none => exact .inl rfl
    | some g =>
     refine .inr fun e' => ?_
     obtain ⟨_, _, _, _, ho⟩ := old h2
     have := (ho.lt_top e'.symm).2
     have := (hx.lt_top e).1
     omega
   ·omega
 ·rcases get_append_one hq with h1 | ⟨h1, rfl⟩
  ·rcases get_append_one hq' with h2 | ⟨h2, rfl⟩
   ·exact h.rows i j k l q q' y y' hij h1 h2 hy hy'
   ·cases e : y.ownBlock with
    | none => exact .inl rfl
    | some g =>
     refine .inr fun e' => ?_
     obtain ⟨_, _, ho⟩ := oldu h1
     have := (ho.lt_row hy e).2
     have := (hx.lt_row hy' e'.symm).1
     omega
  ·rcases get_append_one hq' with h2 | ⟨h2, rfl⟩
   ·cases e : y.ownBlock with
    | none => exact .inl rfl
    | some g =>
     refine .inr fun e' => ?_
     obtain ⟨_, _, ho⟩ := oldu h2
     have := (ho.lt_row hy' e'.symm).2
     have := (hx.lt_row hy e).1
     omega
   ·omega
end Go.Proofs.Ytapehckcmmompaa
namespace Go.Proofs.Ytapehckcmmompaa
open Go.ChangeShapes Go.WideShapes Go.ChangeAt Go.RowKit
set_option linter.unusedVariables false
set_option maxRecDepth 100000
theorem flatD_set : ∀ {ds : List Dk} {hs : List Value} (i : Nat) (d : Dk) (x : Value), flatD (ds.set i d) (hs.set i x) = ((flatD ds hs).set (i * 2) (.bool d.failed)).set (i * 2 + 1) x
 | [], _, i, d, x => by simp [flatD]
 | d0 :: ds, [], i, d, x => by cases i <;> simp [flatD]
 | d0 :: ds, h0 :: hs, 0, d, x => by simp [flatD]
 | d0 :: ds, h0 :: hs, i + 1, d, x => by
  have := flatD_set (ds := ds) (hs := hs) i d x
  simp [flatD, this, show (i + 1) * 2 = i * 2 + 1 + 1 by omega]
theorem OS.set {B : Nat} {W0 W : World} {g n cap i : Nat} {x : Value} {hs : List Value} {us : List (List Value)} {ds : List Dk} {d : Dk} {u : List Value} (h : OS B W0 (.slice (some ⟨g, 0, none⟩) n cap) hs us ds) (hb : Below W0.heap.size W0 W) (hx : OMx W0.heap.size W x u d.blocks) (hB : B ≤ W0.heap.size) :
  OS B ((W.setCell ⟨g, i * 2, none⟩ (.bool d.failed)).setCell ⟨g, i * 2 + 1, none⟩ x) (.slice (some ⟨g, 0, none⟩) n cap) (hs.set i x) (us.set i u) (ds.set i d) := by
 have hn : n = ds.length := by
  obtain ⟨A', c', e, _⟩ := own_form2 h.top
  simp only [Value.slice.injEq] at e; exact e.2.1
 subst hn
 have ht := own_next hb h.top
 have s1 := ht.stored (i * 2) (.bool d.failed)
 have s2 := s1.1.stored (i * 2 + 1) x
 have keep : ∀ {b : Nat} {y : Value} {q : List Value} {m : List (List Nat)}, OMx b W y q m → OMx b ((W.setCell ⟨g, i * 2, none⟩ (.bool d.failed)).setCell ⟨g, i * 2 + 1, none⟩ x) y q m := fun ho =>
  (ho.kept ht ne_dk_u8 ne_dk_sl s1.2).kept s1.1 ne_dk_u8 ne_dk_sl s2.2
 have old : ∀ {i : Nat} {y : Value}, hs[i]? = some y → ∃ d u, ds[i]? = some d ∧ us[i]? = some u ∧ OMx B W0 y u d.blocks := fun {i y} hy => by
  obtain ⟨d, hd⟩ := get_some (show i < ds.length by rw [← h.lenH]; exact get_lt hy)
  obtain ⟨u, hu⟩ := get_some (show i < us.length by rw [h.lenU]; exact get_lt hd)
  exact ⟨d, u, hd, hu, h.row i d y u hd hy hu⟩
 have oldu : ∀ {i : Nat} {q : List Value}, us[i]? = some q → ∃ (d : Dk) (y : Value), OMx B W0 y q d.blocks := fun {i q} hq => by
  obtain ⟨y, hy⟩ := get_some (show i < hs.length by rw [h.lenH, ← h.lenU]; exact get_lt hq)
  obtain ⟨d, u', hd, hu, ho⟩ := old hy
  rw [hq] at hu; cases hu
  exact ⟨d, y, ho⟩
 refine ⟨by rw [flatD_set]; simpa using s2.1, by simp [h.lenH], by simp [h.lenU], fun j e y q he hy hq => ?_, fun j k y y' hij hy hy' => ?_, fun j k a b q q' y y' hij hq hq' hy hy' => ?_⟩
 ·rcases set_get he with ⟨e1, rfl, _⟩ | ⟨e1, he⟩
  ·rcases set_get hy with ⟨_, rfl, _⟩ | ⟨e2, _⟩
   ·rcases set_get hq with ⟨_, rfl, _⟩ | ⟨e3, _⟩
    ·exact (keep hx).mono hB
    ·omega
   ·omega
  ·rcases set_get hy with ⟨e2, _⟩ | ⟨_, hy⟩
   ·omega
   ·rcases set_get hq with ⟨e3, _⟩ | ⟨_, hq⟩
    ·omega
    ·exact keep ((h.row j e y q he hy hq).next hb)
 ·rcases set_get hy with ⟨e1, rfl, _⟩ | ⟨e1, hz⟩
  ·rcases set_get hy' with ⟨e2, _, _⟩ | ⟨_, hy'⟩
   ·omega
   ·cases e : y.ownBlock with
    | none => exact .inl rfl
    | some g =>
     refine .inr fun e' => ?_
     obtain ⟨_, _, _, _, ho⟩ := old hy'
     have := (ho.lt_top e'.symm).2
     have := (hx.lt_top e).1
     omega
  ·rcases set_get hy' with ⟨e2, rfl, _⟩ | ⟨_, hy'⟩
   ·cases e : y.ownBlock with
    | none => exact .inl rfl
    | some g =>
     refine .inr fun e' => ?_
     obtain ⟨_, _, _, _, ho⟩ := old hz
     have := (ho.lt_top e).2
     have := (hx.lt_top e'.symm).1
     omega
   ·exact h.tops j k y y' hij hz hy'
 ·rcases set_get hq with ⟨e1, rfl, _⟩ | ⟨e1, hz⟩
  ·rcases set_get hq' with ⟨e2, _, _⟩ | ⟨_, hq'⟩
   ·omega
   ·cases e : y.ownBlock with
    | none => exact .inl rfl
    | some g =>
     refine .inr fun e' => ?_
     obtain ⟨_, _, ho⟩ := oldu hq'
     have := (ho.lt_row hy' e'.symm).2
     have := (hx.lt_row hy e).1
     omega
  ·rcases set_get hq' with ⟨e2, rfl, _⟩ | ⟨_, hq'⟩
   ·cases e : y.ownBlock with
    | none => exact .inl rfl
    | some g =>
     refine .inr fun e' => ?_
     obtain ⟨_, _, ho⟩ := oldu hz
     have := (ho.lt_row hy e).2
     have := (hx.lt_row hy' e'.symm).1
     omega
   ·exact h.rows j k a b q q' y y' hij hz hq' hy hy'
end Go.Proofs.Ytapehckcmmompaa
namespace Go.Proofs.Ytapehckcmmompaa
open Go.ChangeShapes Go.WideShapes Go.ChangeAt Go.RowKit
set_option linter.unusedVariables false
set_option maxRecDepth 100000
theorem OMx.kept2 {B : Nat} {W W' : World} {x : Value} {u : List Value} {m : List (List Nat)} (h : OMx B W x u m) {base n : Nat} {v : Value} {xs : List Value} (ht : W.ownsRow base 26 1 v n xs) (hne : x.ownBlock = none ∨ x.ownBlock ≠ v.ownBlock) (hg : W.grownBy W' v.ownBlock) : OMx B W' x u m :=
 ⟨h.top.kept hg hne, fun i y l hy hl => (h.row i y l hy hl).kept hg (own_own ht (h.row i y l hy hl) (by decide)), h.byt, h.apart⟩
theorem OS.more {B : Nat} {W0 W W1 : World} {g n cap i k : Nat} {x x' r : Value} {hs : List Value} {us : List (List Value)} {ds : List Dk} {d : Dk} {u : List Value} {l : List Nat} (h : OS B W0 (.slice (some ⟨g, 0, none⟩) n cap) hs us ds) (hb : Below W0.heap.size W0 W) (hB : B ≤ W0.heap.size)
  (hd : ds[i]? = some d) (hh : hs[i]? = some x) (hu : us[i]? = some u) (hr : OB W0.heap.size W r l) (hl : Byt l)
  (hown : W1.ownsRow B 26 1 x' (d.blocks.length + 1) (u ++ [r])) (hg : W.grownBy W1 x.ownBlock) (hat : x'.ownBlock = x.ownBlock ∨ x'.ownBlock = some W.heap.size) :
  OS B (W1.setCell ⟨g, i * 2 + 1, none⟩ x') (.slice (some ⟨g, 0, none⟩) n cap) (hs.set i x') (us.set i (u ++ [r])) (ds.set i ⟨d.failed, d.blocks ++ [l]⟩) := by
 have hn : n = ds.length := by
  obtain ⟨A', c', e, _⟩ := own_form2 h.top
  simp only [Value.slice.injEq] at e; exact e.2.1
 subst hn
 have hi := h.row i d x u hd hh hu
 have hiW := hi.next hb
 have ht0 := own_next hb h.top
 have ht := ht0.kept hg (own_own hiW.top ht0 (by decide))
 have st := ht.stored (i * 2 + 1) x'
 have mine : OMx B W1 x' (u ++ [r]) (d.blocks ++ [l]) := OMx.push hi hb hr hl hB hown hg
 have keep : ∀ {b : Nat} {y : Value} {q : List Value} {m : List (List Nat)}, OMx b W1 y q m → OMx b (W1.setCell ⟨g, i * 2 + 1, none⟩ x') y q m := fun ho => ho.kept ht ne_dk_u8 ne_dk_sl st.2
 have old : ∀ {i : Nat} {y : Value}, hs[i]? = some y → ∃ d u, ds[i]? = some d ∧ us[i]? = some u ∧ OMx B W0 y u d.blocks := fun {i y} hy => by
  obtain ⟨d, hd⟩ := get_some (show i < ds.length by rw [← h.lenH]; exact get_lt hy)
  obtain ⟨u, hu⟩ := get_some (show i < us.length by rw [h.lenU]; exact get_lt hd)
  exact ⟨d, u, hd, hu, h.row i d y u hd hy hu⟩
 have oldu : ∀ {i : Nat} {q : List Value}, us[i]? = some q → ∃ (d : Dk) (y : Value), OMx B W0 y q d.blocks := fun {i q} hq => by
  obtain ⟨y, hy⟩ := get_some (show i < hs.length by rw [h.lenH, ← h.lenU]; exact get_lt hq)
  obtain ⟨d, u', hd, hu, ho⟩ := old hy
  rw [hq] at hu; cases hu
  exact ⟨d, y, ho⟩
 -- the new top against another one
 have tp : ∀ {j : Nat} {y : Value}, i ≠ j → hs[j]? = some y → ∀ a, x'.ownBlock = some a → y.ownBlock = some a → False := fun {j y} hij hy a e e' => by
  obtain ⟨_, _, _, _, ho⟩ := old hy
  have lt := (ho.lt_top e').2
  rcases hat with ha | ha
  ·rcases h.tops i j x y hij hh hy with hn | hn
   ·rw [ha, hn] at e; cases e
   ·exact hn (by rw [← ha, e, e'])
  ·rw [ha] at e
   injection e with e
   have := hb.size
   omega
 refine ⟨?_, by simp [h.lenH], by simp [h.lenU], fun j e y q he hy hq => ?_, fun j k y y' hij hy hy' => ?_, fun j k a b q q' y y' hij hq hq' hy hy' => ?_⟩
 ·rw [flatD_set]
  have e0 : (flatD ds hs).set (i * 2) (.bool d.failed) = flatD ds hs := by
   obtain ⟨f1, _⟩ := flatD_get hd hh
   exact List.ext_getElem? fun j => by
    rw [List.getElem?_set]
    by_cases ej : i * 2 = j
    ·subst ej
     rw [if_pos rfl, if_pos (get_lt f1), f1]
    ·rw [if_neg ej]
  rw [e0]
  simpa using st.1
 ·rcases set_get he with ⟨e1, rfl, _⟩ | ⟨e1, he⟩
  ·rcases set_get hy with ⟨_, rfl, _⟩ | ⟨e2, _⟩
   ·rcases set_get hq with ⟨_, rfl, _⟩ | ⟨e3, _⟩
    ·exact keep mine
    ·omega
   ·omega
  ·rcases set_get hy with ⟨e2, _⟩ | ⟨_, hy⟩
   ·omega
   ·rcases set_get hq with ⟨e3, _⟩ | ⟨_, hq⟩
    ·omega
    ·exact keep (((h.row j e y q he hy hq).next hb).kept2 hiW.top (h.tops j i y x (by omega) hy hh) hg)
 ·rcases set_get hy with ⟨e1, rfl, _⟩ | ⟨e1, hz⟩
  ·rcases set_get hy' with ⟨e2, _, _⟩ | ⟨_, hz'⟩
   ·omega
   ·cases e : y.ownBlock with
    | none => exact .inl rfl
    | some a => exact .inr fun e' => tp (by omega) hz' a e e'.symm
  ·rcases set_get hy' with ⟨e2, rfl, _⟩ | ⟨_, hz'⟩
   ·cases e : y.ownBlock with
    | none => exact .inl rfl
    | some a => exact .inr fun e' => tp (by omega) hz a e'.symm e
   ·exact h.tops j k y y' hij hz hz'
 ·have rw1 : ∀ {j : Nat} {q : List Value} {a b : Nat} {y z : Value}, i ≠ j → us[j]? = some q → q[a]? = some y → (u ++ [r])[b]? = some z → ∀ t, y.ownBlock = some t → z.ownBlock = some t → False := fun {j q a b y z} hij hq hy hz t e e' => by
   obtain ⟨_, _, ho⟩ := oldu hq
   have lt := (ho.lt_row hy e).2
   rcases get_append_one hz with h1 | ⟨_, rfl⟩
   ·rcases h.rows i j b a u q z y hij hu hq h1 hy with hn | hn
    ·rw [hn] at e'; cases e'
    ·exact hn (by rw [e, e'])
   ·have := (hr.lt t e').1
    omega
  rcases set_get hq with ⟨e1, rfl, _⟩ | ⟨e1, hz⟩
  ·rcases set_get hq' with ⟨e2, _, _⟩ | ⟨_, hz'⟩
   ·omega
   ·cases e : y.ownBlock with
    | none => exact .inl rfl
    | some t => exact .inr fun e' => rw1 (by omega) hz' hy' hy t e'.symm e
  ·rcases set_get hq' with ⟨e2, rfl, _⟩ | ⟨_, hz'⟩
   ·cases e : y.ownBlock with
    | none => exact .inl rfl
    | some t => exact .inr fun e' => rw1 (by omega) hz hy hy' t e e'.symm
   ·exact h.rows j k a b q q' y y' hij hz hz' hy hy'
end Go.Proofs.Ytapehckcmmompaa
namespace Go.Proofs.Ytapehckcmmompaa
open Go.ChangeShapes Go.WideShapes Go.ChangeAt Go.RowKit
set_option linter.unusedVariables false
set_option maxRecDepth 100000
def flatO (os : List Ob) : List Value := os.flatMap obL
theorem flatO_len (os : List Ob) : (flatO os).length = os.length * 5 := by
 induction os with
 | nil => rfl
 | cons o os ih => rw [flatO, List.flatMap_cons, List.length_append, ← flatO, ih, List.length_cons]; simp; omega
theorem flatO_push (os : List Ob) (o : Ob) : flatO (os ++ [o]) = flatO os ++ obL o := by simp [flatO]
theorem flatO_get {os : List Ob} {i j : Nat} {o : Ob} {u : Value} (h : os[i]? = some o) (hj : (obL o)[j]? = some u) : (flatO os)[i * 5 + j]? = some u := by
 induction os generalizing i with
 | nil => simp at h
 | cons a os ih =>
  have hj5 : j < 5 := get_lt hj
  cases i with
  | zero =>
   simp at h; subst h
   rw [flatO, List.flatMap_cons, Nat.zero_mul, Nat.zero_add, List.getElem?_append_left hj5]; exact hj
  | succ i =>
   rw [flatO, List.flatMap_cons, List.getElem?_append_right (by simp; omega), show (i + 1) * 5 + j - (obL a).length = i * 5 + j by simp; omega]
   exact ih (by simpa using h)
def OO (B : Nat) (w : World) (v : Value) (os : List Ob) : Prop := w.ownsRow B 50 5 v os.length (flatO os)
theorem OO.next {B : Nat} {w w' : World} {v : Value} {os : List Ob} (hb : Below w.heap.size w w') (h : OO B w v os) : OO B w' v os := own_next hb h
theorem OO.mono {B B' : Nat} {w : World} {v : Value} {os : List Ob} (h : OO B w v os) (hB : B' ≤ B) : OO B' w v os := own_mono h hB
theorem OO.nil (B : Nat) (w : World) : OO B w (.slice none 0 0) [] := World.ownsRow_nil _ _ _ _
theorem OO.form {B : Nat} {w : World} {v : Value} {os : List Ob} (h : OO B w v os) : ∃ A cap, v = .slice A os.length cap ∧ os.length ≤ cap ∧ cap ≤ 9223372036854775807 := own_form2 h
theorem OO.ro {B : Nat} {w : World} {A : Option Addr} {n c : Nat} {os : List Ob} (h : OO B w (.slice A n c) os) : RO B w A os := fun i o ho => by
 have hn : n = os.length := by
  obtain ⟨A', c', e, _⟩ := own_form2 h
  simp only [Value.slice.injEq] at e; exact e.2.1
 subst hn
 obtain ⟨b, e, _, k2, k3⟩ := own_cell2 h (flatO_get (j := 0) ho rfl)
 refine ⟨b, 0, e, k3, k2, fun j u hu => ?_⟩
 obtain ⟨b', e', k1', _⟩ := own_cell2 h (flatO_get (j := j) ho hu)
 rw [e] at e'
 injection e' with e'
 injection e' with e' _
 subst e'
 simpa [Nat.add_assoc] using k1'
end Go.Proofs.Ytapehckcmmompaa
namespace Go.Proofs.Ytapehckcmmompaa
open Go.ChangeShapes Go.WideShapes Go.ChangeAt Go.RowKit
set_option linter.unusedVariables false
set_option maxRecDepth 100000
theorem ne_sl_dk : (26 : TypeId) ≠ 46 := by decide
theorem ne_sl_sto : (26 : TypeId) ≠ 25 := by decide
theorem ne_sl_ob : (26 : TypeId) ≠ 50 := by decide
theorem ne_dk_sto : (46 : TypeId) ≠ 25 := by decide
theorem ne_dk_ob : (46 : TypeId) ≠ 50 := by decide
theorem ne_ob_sto : (50 : TypeId) ≠ 25 := by decide
theorem ne_ob_u8 : (50 : TypeId) ≠ 5 := by decide
theorem ne_ob_sl : (50 : TypeId) ≠ 26 := by decide
theorem ne_ob_dk : (50 : TypeId) ≠ 46 := by decide
theorem ne_sto_u8 : (25 : TypeId) ≠ 5 := by decide
theorem ne_sto_sl : (25 : TypeId) ≠ 26 := by decide
theorem ne_sto_dk : (25 : TypeId) ≠ 46 := by decide
theorem ne_sto_ob : (25 : TypeId) ≠ 50 := by decide
theorem ne_u8_sto : (5 : TypeId) ≠ 25 := by decide
theorem ne_u8_ob : (5 : TypeId) ≠ 50 := by decide
theorem rd_dk {w : World} {g : Nat} {a b : Value} {t : TypeId} (h : w.heap[g]? = some (.cells #[a, b] t)) : Rd w 2 (some ⟨g, 0, none⟩) 1 [a, b] :=
 ⟨rfl, fun _ => ⟨g, 0, rfl, blk_lt h, fun j x hx => blk_cell h _ _ (by
  match j, hx with
  | 0, hx => simpa using hx
  | 1, hx => simpa using hx
  | j + 2, hx => simp at hx)⟩⟩
theorem rd_ob {w : World} {g : Nat} {o : Ob} {t : TypeId} (h : w.heap[g]? = some (.cells #[.string o.name, .int .i64 o.size, .int .i64 o.from_, .int .i64 o.many, .int .i64 o.dig] t)) : Rd w 5 (some ⟨g, 0, none⟩) 1 (obL o) :=
 ⟨rfl, fun _ => ⟨g, 0, rfl, blk_lt h, fun j x hx => blk_cell h _ _ (by
  match j, hx with
  | 0, hx => simpa using hx
  | 1, hx => simpa using hx
  | 2, hx => simpa using hx
  | 3, hx => simpa using hx
  | 4, hx => simpa using hx
  | j + 5, hx => simp at hx)⟩⟩
theorem obj_one (o : Ob) : ∀ u ∈ obL o, u.oneCell' = true := fun u h => by
 simp only [obL, List.mem_cons, List.not_mem_nil, or_false] at h
 rcases h with rfl | rfl | rfl | rfl | rfl <;> rfl
theorem dk_one {B : Nat} {w : World} {f : Bool} {x : Value} {u : List Value} {m : List (List Nat)} (h : OMx B w x u m) : ∀ u ∈ [Value.bool f, x], u.oneCell' = true := fun y hy => by
 obtain ⟨A, c, rfl, _⟩ := own_form2 h.top
 simp only [List.mem_cons, List.not_mem_nil, or_false] at hy
 rcases hy with rfl | rfl <;> rfl
theorem OS.same {B : Nat} {w w' : World} {v : Value} {hs : List Value} {us : List (List Value)} {ds : List Dk} (h : OS B w v hs us ds) (hk : ∀ g cs t, B ≤ g → w.heap[g]? = some (.cells cs t (0, 0)) → (t = 5 ∨ t = 26 ∨ t = 46) → w'.heap[g]? = w.heap[g]?) : OS B w' v hs us ds :=
 ⟨own_same h.top (fun g cs hg hh => hk g cs _ hg hh (.inr (.inr rfl))), h.lenH, h.lenU, fun i d x u h1 h2 h3 => (h.row i d x u h1 h2 h3).same (fun g cs t hg hh ht => hk g cs t hg hh (by rcases ht with rfl | rfl; exact .inl rfl; exact .inr (.inl rfl))), h.tops, h.rows⟩
theorem set_keep {w : World} {g o g' : Nat} {cs cs' : Array Value} {t t' : TypeId} {fz fz' : Nat × Nat} (hg : w.heap[g]? = some (.cells cs t fz)) (hh : w.heap[g']? = some (.cells cs' t' fz')) (hne : t ≠ t') (x : Value) : (w.setCell ⟨g, o, none⟩ x).heap[g']? = w.heap[g']? :=
 Below.heap_setCell w ⟨g, o, none⟩ x g' (fun e => by
  have e' : g' = g := e
  subst e'
  rw [hg] at hh
  injection hh with hh
  injection hh with _ ht' _
  exact hne ht')
theorem OS.set_ {B : Nat} {w : World} {v : Value} {hs : List Value} {us : List (List Value)} {ds : List Dk} (h : OS B w v hs us ds) {g o : Nat} {cs : Array Value} {t : TypeId} {fz : Nat × Nat} (hg : w.heap[g]? = some (.cells cs t fz)) (h1 : t ≠ 5) (h2 : t ≠ 26) (h3 : t ≠ 46) (x : Value) : OS B (w.setCell ⟨g, o, none⟩ x) v hs us ds :=
 h.same fun g' cs' t' _ hh ht => set_keep hg hh (by rcases ht with rfl | rfl | rfl <;> assumption) x
theorem OS.kept {B : Nat} {W W' : World} {v : Value} {hs : List Value} {us : List (List Value)} {ds : List Dk} (h : OS B W v hs us ds) {base n size : Nat} {e : TypeId} {y : Value} {xs : List Value} (ht : W.ownsRow base e size y n xs) (h1 : e ≠ 5) (h2 : e ≠ 26) (h3 : e ≠ 46) (hg : W.grownBy W' y.ownBlock) : OS B W' v hs us ds :=
 h.same fun g cs t _ hh htt => hg.block g (blk_lt hh) (fun e' => own_ne ht hh (by rcases htt with rfl | rfl | rfl <;> assumption) e'.symm)
theorem OO.set_ {B : Nat} {w : World} {v : Value} {os : List Ob} (h : OO B w v os) {g o : Nat} {cs : Array Value} {t : TypeId} {fz : Nat × Nat} (hg : w.heap[g]? = some (.cells cs t fz)) (h1 : t ≠ 50) (x : Value) : OO B (w.setCell ⟨g, o, none⟩ x) v os :=
 own_same h fun g' cs' _ hh => set_keep hg hh h1 x
theorem OO.kept {B : Nat} {W W' : World} {v : Value} {os : List Ob} (h : OO B W v os) {base n size : Nat} {e : TypeId} {y : Value} {xs : List Value} (ht : W.ownsRow base e size y n xs) (h1 : e ≠ 50) (hg : W.grownBy W' y.ownBlock) : OO B W' v os :=
 own_same h fun g cs _ hh => hg.block g (blk_lt hh) (fun e' => own_ne ht hh h1 e'.symm)
theorem OT.same_ {B : Nat} {w : World} {v : Value} {ds : List Dk} (h : OT B w v ds) {g o : Nat} {cs : Array Value} {t : TypeId} {fz : Nat × Nat} (hg : w.heap[g]? = some (.cells cs t fz)) (h1 : t ≠ 5) (h2 : t ≠ 26) (h3 : t ≠ 46) (x : Value) : OT B (w.setCell ⟨g, o, none⟩ x) v ds := by
 obtain ⟨hs, us, h⟩ := h
 exact ⟨hs, us, h.set_ hg h1 h2 h3 x⟩
theorem OT.mono {B B' : Nat} {w : World} {v : Value} {ds : List Dk} (h : OT B w v ds) (hB : B' ≤ B) : OT B' w v ds := by
 obtain ⟨hs, us, h⟩ := h
 exact ⟨hs, us, h.mono hB⟩
theorem OT.nil (B : Nat) (w : World) : OT B w (.slice none 0 0) [] := ⟨[], [], OS.nil B w⟩
theorem OT.form {B : Nat} {w : World} {v : Value} {ds : List Dk} (h : OT B w v ds) : ∃ A cap, v = .slice A ds.length cap ∧ ds.length ≤ cap ∧ cap ≤ 9223372036854775807 := by
 obtain ⟨hs, us, h⟩ := h
 exact own_form2 h.top
theorem OT.rd {B : Nat} {w : World} {A : Option Addr} {n c : Nat} {ds : List Dk} (h : OT B w (.slice A n c) ds) : RD B w A ds := by
 obtain ⟨hs, us, h⟩ := h
 exact h.rd
abbrev set4 (w : World) (g : Nat) (x y z u : Value) : World := (((w.setCell ⟨g, 0, none⟩ x).setCell ⟨g, 1, none⟩ y).setCell ⟨g, 2, none⟩ z).setCell ⟨g, 3, none⟩ u
theorem blk_set4 {w : World} {g : Nat} {a b c d : Value} {t : TypeId} (h : w.heap[g]? = some (.cells #[a, b, c, d] t)) (x y z u : Value) : (set4 w g x y z u).heap[g]? = some (.cells #[x, y, z, u] t) :=
 blk_set (blk_set (blk_set (blk_set h 0 x) 1 y) 2 z) 3 u
theorem Bset4 {w W : World} (h : Below w.heap.size w W) {g : Nat} (hg : w.heap.size ≤ g) (x y z u : Value) : Below w.heap.size w (set4 W g x y z u) := Bset1 (Bset1 (Bset1 (Bset1 h hg 0 x) hg 1 y) hg 2 z) hg 3 u
theorem blk_set4_other {w : World} {g b : Nat} {o : Obj} (h : w.heap[b]? = some o) (hne : g ≠ b) (x y z u : Value) : (set4 w g x y z u).heap[b]? = some o :=
 blk_set_other (blk_set_other (blk_set_other (blk_set_other h hne 0 x) hne 1 y) hne 2 z) hne 3 u
theorem OS.set4_ {B : Nat} {w : World} {v : Value} {hs : List Value} {us : List (List Value)} {ds : List Dk} (h : OS B w v hs us ds) {g : Nat} {cs : Array Value} (hg : w.heap[g]? = some (.cells cs 25)) (x y z u : Value) : OS B (set4 w g x y z u) v hs us ds :=
 (((h.set_ hg ne_sto_u8 ne_sto_sl ne_sto_dk x).set_ (blk_set hg 0 x) ne_sto_u8 ne_sto_sl ne_sto_dk y).set_ (blk_set (blk_set hg 0 x) 1 y) ne_sto_u8 ne_sto_sl ne_sto_dk z).set_ (blk_set (blk_set (blk_set hg 0 x) 1 y) 2 z) ne_sto_u8 ne_sto_sl ne_sto_dk u
theorem OO.set4_ {B : Nat} {w : World} {v : Value} {os : List Ob} (h : OO B w v os) {g : Nat} {cs : Array Value} (hg : w.heap[g]? = some (.cells cs 25)) (x y z u : Value) : OO B (set4 w g x y z u) v os :=
 (((h.set_ hg ne_sto_ob x).set_ (blk_set hg 0 x) ne_sto_ob y).set_ (blk_set (blk_set hg 0 x) 1 y) ne_sto_ob z).set_ (blk_set (blk_set (blk_set hg 0 x) 1 y) 2 z) ne_sto_ob u
theorem OT.set4_ {B : Nat} {w : World} {v : Value} {ds : List Dk} (h : OT B w v ds) {g : Nat} {cs : Array Value} (hg : w.heap[g]? = some (.cells cs 25)) (x y z u : Value) : OT B (set4 w g x y z u) v ds := by
 obtain ⟨hs, us, h⟩ := h
 exact ⟨hs, us, h.set4_ hg x y z u⟩
end Go.Proofs.Ytapehckcmmompaa
namespace Go.Proofs.Ytapehckcmmompaa
open Go.ChangeShapes Go.WideShapes Go.ChangeAt Go.RowKit
set_option linter.unusedVariables false
set_option maxRecDepth 100000
attribute [local go_sem ↓] Go.wp_at_zero Go.wp_at_succ
abbrev zO : Value := .agg #[.string ⟨#[]⟩, .int .i64 0, .int .i64 0, .int .i64 0, .int .i64 0]
abbrev zD : Value := .agg #[.bool false, .slice none 0 0]
theorem keep4 {W : World} {g : Nat} {a b c e : Value} {t : TypeId} (h : W.heap[g]? = some (.cells #[a, b, c, e] t)) : W.cell? ⟨g, 0, none⟩ = some a ∧ W.cell? ⟨g, 1, none⟩ = some b ∧ W.cell? ⟨g, 3, none⟩ = some e := ⟨blk_cell h 0 _ rfl, blk_cell h 1 _ rfl, blk_cell h 3 _ rfl⟩
theorem infoOb : (Try.prog.info? 50).map (fun i => (i.zero, i.size, i.bytes)) = some (some zO, 5, 48) := by kernel_rfl
theorem infoDk : (Try.prog.info? 46).map (fun i => (i.zero, i.size, i.bytes)) = some (some zD, 2, 32) := by kernel_rfl
theorem own0 {W : World} {base g : Nat} {e : TypeId} {size : Nat} (h : W.heap[g]? = some (.cells #[] e)) (hb : base ≤ g) : W.ownsRow base e size (.slice (some ⟨g, 0, none⟩) 0 0) 0 [] :=
 ⟨by simp, .inr ⟨g, 0, #[], rfl, hb, h, Nat.le_refl _, by unfold maxLen; omega, by simp, by simp⟩⟩
theorem flatO_one (os : List Ob) : ∀ u ∈ flatO os, u.oneCell' = true := fun u hu => by
 rw [flatO, List.mem_flatMap] at hu
 obtain ⟨o, _, h⟩ := hu
 simp only [obL, List.mem_cons, List.not_mem_nil, or_false] at h
 rcases h with rfl | rfl | rfl | rfl | rfl <;> rfl
theorem RO.rd {B : Nat} {w : World} {A : Option Addr} {os : List Ob} (h : RO B w A os) : Rd w 5 A os.length (flatO os) := by
 refine ⟨flatO_len os, fun h0 => ?_⟩
 obtain ⟨o, ho⟩ := get_some h0
 obtain ⟨b, off, e, _, hl, _⟩ := h 0 o ho
 refine ⟨b, off, e, hl, fun j u hu => ?_⟩
 have hj := get_lt hu
 rw [flatO_len] at hj
 obtain ⟨o', ho'⟩ := get_some (show j / 5 < os.length by omega)
 obtain ⟨x, hx⟩ := get_some (show j % 5 < (obL o').length from Nat.mod_lt _ (by decide))
 have hf := flatO_get ho' hx
 rw [show j / 5 * 5 + j % 5 = j by omega, hu] at hf
 cases hf
 obtain ⟨b', off', e', _, _, hc⟩ := h (j / 5) o' ho'
 rw [e] at e'
 injection e' with e'
 injection e' with e1 e2 _
 subst e1 e2
 have := hc (j % 5) u hx
 rwa [Nat.add_assoc, show j / 5 * 5 + j % 5 = j by omega] at this
def TwPost (w : World) (d p : Int) (ds : List Dk) (os : List Ob) (e : Ending) (w' : World) : Prop := ∃ v u, e = .returned (Tv d p v u) ∧ OT w.heap.size w' v ds ∧ OO w.heap.size w' u os ∧ Below w.heap.size w w'
set_option maxHeartbeats 16000000 in
theorem twin_calls (d p : Int) (D A : Option Addr) (cd ca B : Nat) (ds : List Dk) (os : List Ob) (w : World) (hnd : ds.length ≤ cd) (hcd : cd ≤ 9223372036854775807) (hna : os.length ≤ ca) (hca : ca ≤ 9223372036854775807) (hd : RD B w D ds) (hs : RO B w A os)
  (h20 : ds.length ≤ 20) (h20' : os.length ≤ 20) (hbl : ∀ k ∈ ds, k.blocks.length ≤ 1000 ∧ ∀ b ∈ k.blocks, b.length ≤ 100) :
  Calls Try.prog 11 #[Tv d p (.slice D ds.length cd) (.slice A os.length ca)] w (TwPost w d p ds os) := by
 obtain ⟨i0, hi0, hz0, hz1, hz2⟩ := info_parts sl_info
 have HI := Lib.hid (And.intro hi0 (And.intro hz0 (And.intro hz1 hz2)))
 obtain ⟨j0, hj0, hy0, hy1, hy2⟩ := info_parts u8_info
 have HJ := Lib.hid (And.intro hj0 (And.intro hy0 (And.intro hy1 hy2)))
 obtain ⟨k0, hk0, hx0, hx1, hx2⟩ := info_parts infoOb
 have HK := Lib.hid (And.intro hk0 (And.intro hx0 (And.intro hx1 hx2)))
 obtain ⟨m0, hm0, hv0, hv1, hv2⟩ := info_parts infoDk
 have HM0 := Lib.hid (And.intro hm0 (And.intro hv0 (And.intro hv1 hv2)))
 clear hi0 hz0 hz1 hz2 hj0 hy0 hy1 hy2 hk0 hx0 hx1 hx2 hm0 hv0 hv1 hv2
 have RS : Hid (∀ W : World, Below w.heap.size w W → Rd W 5 A os.length (flatO os)) := Lib.hid (fun W hW => (hs.next hW).rd)
 have HD := Lib.hid hd
 have HBL := Lib.hid hbl
 have G1 : Hid (0 + os.length ≤ maxLen) := Lib.hid (by unfold maxLen; omega)
 have G2 : Hid ((0 + os.length) * 48 ≤ 140737488355328) := Lib.hid (by omega)
 clear hs hd hbl
 go_enter Try.func11, Try.ntmps11
 go_upto_region 1 with fail
 have z0 : ((w.alloc (.cells #[.int .i64 d, .int .i64 p, .slice D ds.length cd, .slice A os.length ca] 25)).alloc (.cells #[.int .i64 0, .int .i64 0, .slice none 0 0, .slice none 0 0] 25)).heap[w.heap.size]? = some (.cells #[.int .i64 d, .int .i64 p, .slice D ds.length cd, .slice A os.length ca] 25) := blk_alloc (blk_new w _) _
 have z1 : ((w.alloc (.cells #[.int .i64 d, .int .i64 p, .slice D ds.length cd, .slice A os.length ca] 25)).alloc (.cells #[.int .i64 0, .int .i64 0, .slice none 0 0, .slice none 0 0] 25)).heap[w.heap.size + 1]? = some (.cells #[.int .i64 0, .int .i64 0, .slice none 0 0, .slice none 0 0] 25) := blk_at _ (by simp)
 have b0 : Below w.heap.size w ((w.alloc (.cells #[.int .i64 d, .int .i64 p, .slice D ds.length cd, .slice A os.length ca] 25)).alloc (.cells #[.int .i64 0, .int .i64 0, .slice none 0 0, .slice none 0 0] 25)) := Bal (Bal (Below.refl _ _) _) _
 generalize ((w.alloc (.cells #[.int .i64 d, .int .i64 p, .slice D ds.length cd, .slice A os.length ca] 25)).alloc (.cells #[.int .i64 0, .int .i64 0, .slice none 0 0, .slice none 0 0] 25)) = W0 at *
 have B0 := Lib.hid b0
 have Z0 := Lib.hid z0
 have Z1 := Lib.hid z1
 have sz : w.heap.size + 2 ≤ W0.heap.size := blk_lt z1
 clear z0 z1 b0
 go_cut [3] (fun s3 wx => ∃ (gb : Nat) (u : Value), s3 = .pointer (some ⟨gb, 0, none⟩) ∧ w.heap.size + 1 < gb ∧ Hid (wx.heap[gb]? = some (.cells #[.int .i64 d, .int .i64 p, .slice none 0 0, u] 25)) ∧ Hid (OO w.heap.size wx u os) ∧ Hid (wx.heap[w.heap.size]? = some (.cells #[.int .i64 d, .int .i64 p, .slice D ds.length cd, .slice A os.length ca] 25)) ∧ Hid (wx.heap[w.heap.size + 1]? = some (.cells #[.int .i64 0, .int .i64 0, .slice none 0 0, .slice none 0 0] 25)) ∧ Hid (Below w.heap.size w wx))
 case first =>
  go_region_held3 (fun W => W.cell? ⟨w.heap.size, 0, none⟩ = some (.int .i64 d) ∧ W.cell? ⟨w.heap.size, 1, none⟩ = some (.int .i64 p) ∧ W.cell? ⟨w.heap.size, 3, none⟩ = some (.slice A os.length ca)) (first | (refine keep4 (c := .slice D ds.length cd) (t := 25) ?_; repeat (first | with_reducible exact Z0.out | with_reducible exact Y0.out | with_reducible refine blk_drew ?_ | with_reducible refine blk_alloc ?_ _ | with_reducible refine blk_set_other ?_ (by omega) _ _))) (first | (refine step_append_rd _ (by rfl) _ _ 23 (by rfl) (w.heap.size + 2) 50 k0 zO 5 48 Try.underlying23 HK.out.1 HK.out.2.1 HK.out.2.2.1 HK.out.2.2.2 rfl (by decide) _ 0 [] (by rfl) (own0 ?_ ?_) A os.length ca (flatO os) (by rfl) (RS.out _ ?_) (flatO_one os) G1.out G2.out ?_ ?_; (first | exact blk_new _ _ | exact blk_alloc (blk_new _ _) _ | exact blk_at _ (by simp)); (first | omega | (simp; done) | (simp; omega)); (repeat (first | exact B1.out | exact B0.out | refine Below.drew ?_ | refine Bal ?_ _)); (first | omega | (simp; done) | (simp; omega)); intro v1 w1 hown1 hgrow1 hat1; simp only [Nat.zero_add, List.nil_append] at hown1; (try (with_reducible replace hgrow1 := gundrew hgrow1)); obtain ⟨A1, cp1, rfl, g1, f1⟩ := own_form2 hown1; have O1 := Lib.hid hown1; have Y0 : Hid (w1.heap[w.heap.size]? = some (.cells #[.int .i64 d, .int .i64 p, .slice D ds.length cd, .slice A os.length ca] 25)) := Lib.hid (gblk hgrow1 (by first | exact blk_alloc Z0.out _ | exact blk_alloc (blk_alloc Z0.out _) _) (by simp [Value.ownBlock]; omega)); have Y1 : Hid (w1.heap[w.heap.size + 1]? = some (.cells #[.int .i64 0, .int .i64 0, .slice none 0 0, .slice none 0 0] 25)) := Lib.hid (gblk hgrow1 (by first | exact blk_alloc Z1.out _ | exact blk_alloc (blk_alloc Z1.out _) _) (by simp [Value.ownBlock]; omega)); have B1 : Hid (Below w.heap.size w w1) := Lib.hid (gbel hgrow1 (by repeat (first | exact B0.out | refine Below.drew ?_ | refine Bal ?_ _)) (by simp [Value.ownBlock]; omega)); (first | (have BX2 := Lib.hid (gblk (b := W0.heap.size) (o := .cells #[.int .i64 0, .int .i64 0, .slice none 0 0, .slice none 0 0] 25) hgrow1 (by first | (with_reducible exact blk_alloc (blk_new _ _) _) | (with_reducible exact blk_alloc (blk_at _ (by rfl)) _)) (by simp [Value.ownBlock]; try omega)); have bc0 := blk_cell BX2.out 0 _ rfl; have bf0 := blk_frozen BX2.out 0; have bc1 := blk_cell BX2.out 1 _ rfl; have bf1 := blk_frozen BX2.out 1; have bc2 := blk_cell BX2.out 2 _ rfl; have bf2 := blk_frozen BX2.out 2; have bc3 := blk_cell BX2.out 3 _ rfl; have bf3 := blk_frozen BX2.out 3; have bl := blk_lt BX2.out) | (have BX2 := Lib.hid (gblk (b := W0.heap.size + 1) (o := .cells #[.int .i64 0, .int .i64 0, .slice none 0 0, .slice none 0 0] 25) hgrow1 (by with_reducible exact blk_at _ (by simp)) (by simp [Value.ownBlock]; try omega)); have bc0 := blk_cell BX2.out 0 _ rfl; have bf0 := blk_frozen BX2.out 0; have bc1 := blk_cell BX2.out 1 _ rfl; have bf1 := blk_frozen BX2.out 1; have bc2 := blk_cell BX2.out 2 _ rfl; have bf2 := blk_frozen BX2.out 2; have bc3 := blk_cell BX2.out 3 _ rfl; have bf3 := blk_frozen BX2.out 3; have bl := blk_lt BX2.out) | skip); clear hown1 hgrow1 hat1))
  all_goals
   go_wp2_with fail
   go_meet
   first
    | exact ⟨_, .slice A1 os.length cp1, rfl, (by omega), Lib.hid (blk_set4 BX2.out _ _ _ _), Lib.hid (OO.set4_ (OO.mono O1.out (by omega)) BX2.out _ _ _ _), Lib.hid (blk_set4_other Y0.out (by omega) _ _ _ _), Lib.hid (blk_set4_other Y1.out (by omega) _ _ _ _), Lib.hid (Bset4 B1.out (by omega) _ _ _ _)⟩
    | exact ⟨_, .slice A1 os.length cp1, rfl, (by have := blk_lt Y1.out; omega), Lib.hid (blk_new w1 _), Lib.hid (OO.next (Bal (Below.refl _ _) _) (OO.mono O1.out (by omega))), Lib.hid (blk_alloc Y0.out _), Lib.hid (blk_alloc Y1.out _), Lib.hid (Bal B1.out _)⟩
    | trace_state
 case rest =>
  obtain ⟨gb, u0, rfl, hgb, G0, U0, SB0, XB0, NN0⟩ := hcut
  clear Z0 Z1 B0 RS G1 G2 HK
  go_wp2_with fail
  go_loopw [4] (fun i wr => ∃ (k : Nat) (v : Value) (hs : List Value) (us : List (List Value)), k ≤ ds.length ∧ i = .int .i64 k ∧ Hid (Below w.heap.size w wr) ∧ Hid (wr.heap[w.heap.size]? = some (.cells #[.int .i64 d, .int .i64 p, .slice D ds.length cd, .slice A os.length ca] 25)) ∧ Hid (wr.heap[w.heap.size + 1]? = some (.cells #[.int .i64 0, .int .i64 0, .slice none 0 0, .slice none 0 0] 25)) ∧ Hid (wr.heap[gb]? = some (.cells #[.int .i64 d, .int .i64 p, v, u0] 25)) ∧ Hid (OS w.heap.size wr v hs us (ds.take k)) ∧ Hid (OO w.heap.size wr u0 os)) (fun i _ => ds.length - (intOf i).toNat)
  case atStart => exact ⟨0, _, [], [], by omega, rfl, NN0, SB0, XB0, G0, Lib.hid (by rw [List.take_zero]; exact OS.nil _ _), U0⟩
  case round =>
   clear NN0 SB0 XB0 G0 U0
   obtain ⟨k, v, hs, us, hk, rfl, NN, SB, XB, GB, O, U⟩ := hrel
   obtain ⟨wo, rfl⟩ : ∃ wo : World, wo = wr := ⟨_, rfl⟩
   have hzs := blk_lt XB.out
   have hzg := blk_lt GB.out
   have s2 : wo.cell? ⟨w.heap.size, 2, none⟩ = some (.slice D ds.length cd) := blk_cell SB.out 2 _ rfl
   by_cases hlt : k < ds.length
   ·obtain ⟨dk, hdk⟩ := get_some hlt
    obtain ⟨b, off, Ai, ci, rfl, hb9, c0, c1, h2, h3, hm⟩ := (HD.out.next NN.out).at_ hdk
    have HM := Lib.hid hm
    have HDK := Lib.hid hdk
    have HBK := Lib.hid (HBL.out dk (List.mem_of_getElem? hdk))
    have hbk := HBK.out.1
    clear hm hdk
    have k1 : (0 : Int) ≤ (k : Int) := by omega
    have k2 : (k : Int) < (ds.length : Int) := by omega
    go_wp2_with fail
    have DB0 : Hid ((wo.alloc (.cells #[.bool dk.failed, .slice none 0 0] 46)).heap[wo.heap.size]? = some (.cells #[.bool dk.failed, .slice none 0 0] 46)) := Lib.hid (blk_new _ _)
    have NI0 : Hid (Below wo.heap.size wo (wo.alloc (.cells #[.bool dk.failed, .slice none 0 0] 46))) := Lib.hid (Bal (Below.refl _ _) _)
    clear s2
    go_loopw [6] (fun i wr => ∃ (j : Nat) (x : Value) (ui : List Value), j ≤ dk.blocks.length ∧ i = .int .i64 j ∧ Hid (Below wo.heap.size wo wr) ∧ Hid (wr.heap[wo.heap.size]? = some (.cells #[.bool dk.failed, x] 46)) ∧ Hid (OMx wo.heap.size wr x ui (dk.blocks.take j))) (fun i _ => dk.blocks.length - (intOf i).toNat)
    case atStart => exact ⟨0, _, [], by omega, rfl, NI0, DB0, Lib.hid (by rw [List.take_zero]; exact OMx.nil _ _)⟩
    case round =>
     clear NI0 DB0
     obtain ⟨j, x, ui, hj, rfl, NI, Y, OI⟩ := hrel
     have s2 : wr.cell? ⟨w.heap.size, 2, none⟩ = some (.slice (some ⟨b, off, none⟩) ds.length cd) := blk_cell (blk_next NI.out SB.out) 2 _ rfl
     have c1' : wr.cell? ⟨b, off + k * 2 + 1, none⟩ = some (.slice Ai dk.blocks.length ci) := (NI.out.cell hb9).trans c1
     have hz : wo.heap.size < wr.heap.size := blk_lt Y.out
     have hz' : w.heap.size < wr.heap.size := by omega
     have hb9' : b < wr.heap.size := by omega
     by_cases hlj : j < dk.blocks.length
     ·obtain ⟨l, hl⟩ := get_some hlj
      obtain ⟨b2, off2, A3, c3, rfl, hb2, h1', h2', h3', h4⟩ := (HM.out.next NI.out).at_ hl
      have hln : l.length ≤ 100 := HBK.out.2 l (List.mem_of_getElem? hl)
      have HB4 := Lib.hid h4
      have HL := Lib.hid hl
      have TL : Hid ((dk.blocks.take j).length = j) := Lib.hid (by rw [List.length_take]; omega)
      obtain ⟨Av, cv, hv, hv1, hv2, _⟩ := own_form OI.out.top
      rw [TL.out] at hv hv1
      subst hv
      clear hl h4
      have y2 : wr.cell? ⟨wo.heap.size, 1, none⟩ = some (.slice Av j cv) := blk_cell Y.out 1 _ rfl
      have j1 : (0 : Int) ≤ (j : Int) := by omega
      have j2 : (j : Int) < (dk.blocks.length : Int) := by omega
      have TOP : Hid (wr.ownsRow wo.heap.size 26 1 (.slice Av j cv) j ui) := Lib.hid (by have := OI.out.top; rw [TL.out] at this; exact this)
      go_wp2_with fail
      go_region_law (first
       | (refine step_append_rd _ (by rfl) _ _ 26 (by rfl) wr.heap.size 5 j0 (.int .u8 0) 1 1 Try.underlying26 HJ.out.1 HJ.out.2.1 HJ.out.2.2.1 HJ.out.2.2.2 rfl (by decide) _ 0 [] (by rfl) ?_ A3 l.length c3 (bv l) (by rfl) ?_ (bv_one l) ?_ ?_ ?_ ?_; (exact own_empty (blk_new _ _) (Nat.le_refl _)); (exact (HB4.out.2.next (Bal (Below.refl _ _) _)).rd (bv_len l)); (simp only [maxLen]; omega); omega; simp; intro v1 w1 hown1 hg1 hat1; simp only [Nat.zero_add, List.nil_append] at hown1; obtain ⟨Au, cu, rfl, hu1, hu2, _⟩ := own_form hown1; have U1 : Hid (OB wr.heap.size w1 (.slice Au l.length cu) l) := Lib.hid hown1; have N1 : Hid (Below wr.heap.size wr w1) := Lib.hid (by first | exact gfresh hg1 | exact gfresh (gundrew hg1)); have Y1 := Lib.hid (blk_next N1.out Y.out); have y4 : w1.cell? ⟨wo.heap.size, 1, none⟩ = some (.slice Av j cv) := blk_cell Y1.out 1 _ rfl; have hz1 : wo.heap.size < w1.heap.size := blk_lt Y1.out; clear hown1 hg1 hat1)
       | (refine step_append_rd _ (by rfl) _ _ 44 (by rfl) wo.heap.size 26 i0 (.slice none 0 0) 1 24 Try.underlying44 HI.out.1 HI.out.2.1 HI.out.2.2.1 HI.out.2.2.2 rfl (by decide) _ j ui (by rfl) ?_ (some ⟨w1.heap.size, 0, none⟩) 1 1 [.slice Au l.length cu] (by rfl) ?_ (slice_one _ _ _) ?_ ?_ ?_ ?_; (first | exact (own_next N1.out TOP.out).alloc _ | exact ((own_next N1.out TOP.out).alloc _).drew); (exact rd_one (t := 26) (blk_new _ _)); (simp only [maxLen]; omega); omega; (first | exact NI.out.size | (have q1 := NI.out.size; have q2 := N1.out.size; simp; omega)); intro v2 w2 hown2 hg2 hat2; obtain ⟨A2, c2, rfl, g1, g2, _⟩ := own_form hown2; have G2 : Hid ((w1.alloc (.cells #[.slice Au l.length cu] 26)).grownBy w2 (Value.slice Av j cv).ownBlock) := Lib.hid (by first | exact hg2 | exact gundrew hg2); have Y2 : Hid (w2.heap[wo.heap.size]? = some (.cells #[.bool dk.failed, .slice Av j cv] 46)) := Lib.hid (gblk_ty G2.out ((own_next N1.out TOP.out).alloc _) (blk_alloc Y1.out _) ne_sl_dk); have O2 : Hid (w2.ownsRow wo.heap.size 26 1 (.slice A2 (j + 1) c2) (j + 1) (ui ++ [.slice Au l.length cu])) := Lib.hid hown2; have f2 : w2.frozen? ⟨wo.heap.size, 1, none⟩ = false := blk_frozen Y2.out 1; have y3 : w2.cell? ⟨wo.heap.size, 1, none⟩ = some (.slice Av j cv) := blk_cell Y2.out 1 _ rfl; have hz2 : wo.heap.size < w2.heap.size := blk_lt Y2.out; have N2 : Hid (Below wo.heap.size wo w2) := Lib.hid (gbel G2.out (Bal (Bgo NI.out N1.out) _) (fun g hg => (TOP.out.lt g hg).1)); clear hown2 hg2 hat2))
      all_goals
       go_wp2_with fail
       have P2 : OMx wo.heap.size w2 (.slice A2 (j + 1) c2) (ui ++ [.slice Au l.length cu]) (dk.blocks.take (j + 1)) := by
        rw [take_snoc' HL.out]
        exact OMx.push OI.out (Bal N1.out _) (U1.out.alloc _) HB4.out.1 NI.out.size (by rw [TL.out]; exact O2.out) G2.out
       have Y3 := blk_set Y2.out 1 (.slice A2 (j + 1) c2)
       refine ⟨⟨j + 1, .slice A2 (j + 1) c2, ui ++ [.slice Au l.length cu], by omega, by go_num, Lib.hid ?_, Lib.hid ?_, Lib.hid ?_⟩, by simp [intOf]; omega⟩
       ·first | exact Bset1 N2.out (by omega) 1 _ | exact (Bset1 N2.out (by omega) 1 _).drew
       ·exact Y3
       ·exact P2.set_ Y2.out ne_dk_u8 ne_dk_sl _
     ·obtain rfl : j = dk.blocks.length := by omega
      have OF : Hid (OMx wo.heap.size wr x ui dk.blocks) := Lib.hid (by have := OI.out; rw [List.take_of_length_le (Nat.le_refl _)] at this; exact this)
      have TL : Hid ((ds.take k).length = k) := Lib.hid (by rw [List.length_take]; omega)
      obtain ⟨Av, cv, hv, hv1, hv2⟩ := own_form2 O.out.top
      rw [TL.out] at hv hv1
      subst hv
      have TOP : Hid (wr.ownsRow w.heap.size 46 2 (.slice Av k cv) k (flatD (ds.take k) hs)) := Lib.hid (by have := own_next NI.out O.out.top; rw [TL.out] at this; exact this)
      have GX := Lib.hid (blk_next NI.out GB.out)
      have g2 : wr.cell? ⟨gb, 2, none⟩ = some (.slice Av k cv) := blk_cell GX.out 2 _ rfl
      have y0 : wr.cell? ⟨wo.heap.size, 0, none⟩ = some (.bool dk.failed) := blk_cell Y.out 0 _ rfl
      have y1 : wr.cell? ⟨wo.heap.size, 1, none⟩ = some x := blk_cell Y.out 1 _ rfl
      have hzx : gb < wr.heap.size := blk_lt GX.out
      go_wp2_with (at_builtin; refine wpList_append_rd _ rfl _ _ 22 rfl w.heap.size 46 m0 zD 2 32 Try.underlying22 HM0.out.1 HM0.out.2.1 HM0.out.2.2.1 HM0.out.2.2.2 rfl (by decide) _ k (flatD (ds.take k) hs) rfl (TOP.out.alloc _) (some ⟨wr.heap.size, 0, none⟩) 1 1 [.bool dk.failed, x] rfl (rd_dk (blk_new _ _)) (dk_one OF.out) (by simp only [maxLen]; omega) (by omega) (by have q := NN.out.size; have q2 := NI.out.size; simp; omega) ?_; intro v3 w3 hown3 hg3 hat3; obtain ⟨A3, c3, rfl, g3, g4⟩ := own_form2 hown3; have G3 := Lib.hid hg3; have O3 := Lib.hid hown3; have GY : Hid (w3.heap[gb]? = some (.cells #[.int .i64 d, .int .i64 p, .slice Av k cv, u0] 25)) := Lib.hid (gblk_ty hg3 (TOP.out.alloc _) (blk_alloc GX.out _) ne_dk_sto); have gf := blk_frozen GY.out 2; have gl := blk_lt GY.out; have gc := blk_cell GY.out 2 _ rfl; clear hown3 hg3 hat3)
      have P3 := OS.push O.out (Bal NI.out _) (OF.out.next (Bal (Below.refl _ _) _)) NN.out.size (by rw [TL.out]; exact O3.out) G3.out
      rw [← take_snoc' HDK.out] at P3
      have N3 : Hid (Below w.heap.size w w3) := Lib.hid (gbel G3.out (Bal (Bgo NN.out NI.out) _) (fun g hg => (TOP.out.lt g hg).1))
      have SY : Hid (w3.heap[w.heap.size]? = some (.cells #[.int .i64 d, .int .i64 p, .slice (some ⟨b, off, none⟩) ds.length cd, .slice A os.length ca] 25)) := Lib.hid (gblk_ty G3.out (TOP.out.alloc _) (blk_alloc (blk_next NI.out SB.out) _) ne_dk_sto)
      have XY : Hid (w3.heap[w.heap.size + 1]? = some (.cells #[.int .i64 0, .int .i64 0, .slice none 0 0, .slice none 0 0] 25)) := Lib.hid (gblk_ty G3.out (TOP.out.alloc _) (blk_alloc (blk_next NI.out XB.out) _) ne_dk_sto)
      have U3 : Hid (OO w.heap.size w3 u0 os) := Lib.hid (OO.kept (U.out.next (Bal NI.out _)) (TOP.out.alloc _) ne_dk_ob G3.out)
      refine ⟨⟨k + 1, .slice A3 (k + 1) c3, hs ++ [x], us ++ [ui], by omega, by go_num, Lib.hid ?_, Lib.hid ?_, Lib.hid ?_, Lib.hid ?_, Lib.hid ?_, Lib.hid ?_⟩, by simp [intOf]; omega⟩
      ·exact Bset1 N3.out (by omega) 2 _
      ·exact blk_set_other SY.out (by omega) 2 _
      ·exact blk_set_other XY.out (by omega) 2 _
      ·exact blk_set GY.out 2 _
      ·exact P3.set_ GY.out ne_sto_u8 ne_sto_sl ne_sto_dk _
      ·exact U3.out.set_ GY.out ne_sto_ob _
   ·obtain rfl : k = ds.length := by omega
    have O1 : Hid (OS w.heap.size wo v hs us ds) := Lib.hid (by have := O.out; rw [List.take_of_length_le (Nat.le_refl _)] at this; exact this)
    obtain ⟨Av, cv, rfl, hv1, hv2⟩ := own_form2 O1.out.top
    obtain ⟨Au, cu, rfl, hu1, hu2⟩ := U.out.form
    have g0 := blk_cell GB.out 0 _ rfl
    have g1 := blk_cell GB.out 1 _ rfl
    have g2 := blk_cell GB.out 2 _ rfl
    have g3 := blk_cell GB.out 3 _ rfl
    have x0 := blk_cell XB.out 0 _ rfl
    have x1 := blk_cell XB.out 1 _ rfl
    have x2 := blk_cell XB.out 2 _ rfl
    have x3 := blk_cell XB.out 3 _ rfl
    have f0 := blk_frozen XB.out 0
    have f1 := blk_frozen XB.out 1
    have f2 := blk_frozen XB.out 2
    have f3 := blk_frozen XB.out 3
    go_wp2_with fail
    have Z := blk_set4 XB.out (.int .i64 d) (.int .i64 p) (.slice Av ds.length cv) (.slice Au os.length cu)
    have e0 := blk_cell Z 0 _ rfl
    have e1 := blk_cell Z 1 _ rfl
    have e2 := blk_cell Z 2 _ rfl
    have e3 := blk_cell Z 3 _ rfl
    exact bodyPost_ret (v := Tv d p (.slice Av ds.length cv) (.slice Au os.length cu)) (by simp [results, Try.results11, go_sem, e0, e1, e2, e3]) rfl ⟨_, _, rfl, ⟨hs, us, O1.out.set4_ XB.out _ _ _ _⟩, U.out.set4_ XB.out _ _ _ _, Bset4 NN.out (by omega) _ _ _ _⟩
end Go.Proofs.Ytapehckcmmompaa
