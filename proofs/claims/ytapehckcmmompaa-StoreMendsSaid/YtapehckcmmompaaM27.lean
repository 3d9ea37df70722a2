/- Several texts in one. -/
import Derived.Test.YtapehckcmmompaaM26
namespace Go.Proofs.Ytapehckcmmompaa
open Go.ChangeShapes Go.WideShapes Go.ChangeAt Go.RowKit
set_option linter.unusedVariables false
set_option maxRecDepth 100000
abbrev nmA : ByteArray := ⟨#[97]⟩
theorem faN_zero {ds : List Dk} (h : faN ds = 0) {i : Nat} {x : Dk} (hi : ds[i]? = some x) : x.failed = false := by
 unfold faN at h
 have h1 := List.length_eq_zero_iff.1 h
 have h2 := List.filter_eq_nil_iff.1 h1 x (List.mem_of_getElem? hi)
 simpa using h2
theorem faN_new (n : Nat) : faN (List.replicate n ⟨false, []⟩) = 0 := by
 unfold faN
 rw [List.length_eq_zero_iff, List.filter_eq_nil_iff]
 intro a ha
 rw [(List.mem_replicate.1 ha).2]; decide
theorem Wh.whole {D P n : Nat} {T : Nat → List (List Nat)} {ds : List Dk} (h : Wh D P n T ds) (h0 : faN ds = 0) {k : Nat} (hk : k < n) : strp ds k = enc (T k) P := by
 have hf := h.fits hk
 refine List.ext_getElem? fun i => ?_
 cases hx : ds[i]? with
 | none =>
  have hl : ds.length ≤ i := List.getElem?_eq_none_iff.1 hx
  have l1 := hf.len
  rw [strp_len] at l1
  rw [List.getElem?_eq_none (by rw [strp_len]; exact hl), List.getElem?_eq_none (by omega)]
 | some x =>
  have hi := get_lt hx
  have l1 := hf.len
  rw [strp_len] at l1
  rw [strp_get hx, faN_zero h0 hx]
  simp only [Bool.false_eq_true, if_false]
  rw [h.blk hx (faN_zero h0 hx) hk, List.getD_eq_getElem?_getD, List.getElem?_eq_getElem (by omega), Option.getD_some]
theorem Wh.snd {D P n : Nat} {T : Nat → List (List Nat)} {ds : List Dk} (h : Wh D P n T ds) (h0 : faN ds = 0) {k : Nat} (hk : k < n) : sdB D P (strp ds k) = true ∧ chkE D P (strp ds k) = 0 := by
 obtain ⟨o, b, e⟩ := h.ok k hk
 rw [h.whole h0 hk]
 have h1 := enc_sd o h.p4
 have h2 := enc_chk o h.p4
 rw [e] at h1 h2
 exact ⟨h1, h2⟩
theorem Wh.fitB_ {D P n : Nat} {T : Nat → List (List Nat)} {ds es : List Dk} (h : Wh D P n T ds) (h0 : faN ds = 0) (h' : Wh D P n T es) {k : Nat} (hk : k < n) : fitB (strp es k) (strp ds k) = true := by
 rw [h.whole h0 hk]; exact (h'.fits hk).fitB_
theorem OkS.conds {d p : Int} {ds : List Dk} {os : List Ob} (h : OkS d p ds os) {k : Nat} (hk : (k : Int) < strN os) : ds.length ≤ 20 ∧ (∀ x ∈ ds, x.failed = false → k < x.blocks.length) ∧ ∀ x ∈ ds, ∀ l ∈ x.blocks, l.length ≤ 1000 := by
 have := h.len; have := h.d8; have := h.p4
 exact ⟨by omega, fun x hx hf => by have := (h.dkl hx).2 hf; omega, fun x hx l hl => by have := (h.bd hx).2 l hl; omega⟩
theorem rows_byte {D P mn i k c : Nat} {b : List Nat} (h1 : 1 ≤ D) (hb : b.length ≤ mn * 8 * D) (hi : i < D) (hk : k < mn) (hc : c < 8) :
  ∃ l, (enc (rowsL D (padL b (mn * 8 * D)) k) P).getD i [] = l ∧ l[c]? = some (if (k * D + i) * 8 + c < b.length then b.getD ((k * D + i) * 8 + c) 0 else 0) := by
 refine ⟨_, rfl, ?_⟩
 rw [enc_lo (by rw [rowsL_len]; exact hi), getD_of (rowsL_get hi), List.getElem?_take, if_pos hc, List.getElem?_drop]
 have hf := row_fit hk hi
 unfold padL
 by_cases hn : (k * D + i) * 8 + c < b.length
 ·rw [if_pos hn, List.getElem?_append_left hn, List.getD_eq_getElem?_getD, List.getElem?_eq_getElem hn, Option.getD_some]
 ·rw [if_neg hn, List.getElem?_append_right (by omega), List.getElem?_replicate, if_pos (by omega)]
theorem ned_tight {n d mn : Nat} (h1 : 1 ≤ d) (h : ned n d = (mn : Int)) : ((mn : Int) - 1) * d * 8 < n := by
 have e : ((n : Int) + 8 * d - 1) / (8 * d) = mn := h
 have e1 := Int.emod_add_mul_ediv ((n : Int) + 8 * d - 1) (8 * d)
 have e2 := Int.emod_nonneg ((n : Int) + 8 * d - 1) (show (8 * (d : Int)) ≠ 0 by omega)
 rw [e] at e1
 have : ((mn : Int) - 1) * d * 8 = 8 * d * mn - 8 * d := by grind
 omega
theorem put_ok {D P n : Nat} {T : Nat → List (List Nat)} {ds : List Dk} {os : List Ob} {nm : ByteArray} {b : List Nat} (h : Gd D P n T ds os) (h1 : namB nm.data.toList = true) (h2 : findL os nm.toList = -1) (h3 : os.length < 16) (h4 : b.length ≤ 256) (h5 : faN ds ≤ P) : putE D P ds os nm b = 0 :=
 putE_ok h.chk h1 (by omega) (by omega) (by omega)
theorem namA : namB nmA.data.toList = true := by decide
theorem fndA : findL [] nmA.toList = -1 := rfl
structure Whole (D P mn : Nat) (b : List Nat) (ws : List Dk) (o : Ob) : Prop where
 put : putE D P (List.replicate (D + P) ⟨false, []⟩) [] nmA b = 0
 val : putS D P (List.replicate (D + P) ⟨false, []⟩) [] nmA b = ((D : Int), (P : Int), ws, [o])
 chk : chS D P ws [o] = 0
 fa : faN ws = 0
 len : ws.length = D + P
 size : o.size = b.length
 frm : o.from_ = 0
 many : o.many = mn
 dig : o.dig = (digL b : Nat)
 m38 : mn ≤ 38
 fit : b.length ≤ mn * 8 * D
 tight : ((mn : Int) - 1) * D * 8 < b.length
 nam : o.name = nmA
 snd : ∀ k, k < mn → sdB D P (strp ws k) = true ∧ chkE D P (strp ws k) = 0
 byte : ∀ i k c, i < D → k < mn → c < 8 → ∃ x l, ws[i]? = some x ∧ x.blocks[k]? = some l ∧ l[c]? = some (if (k * D + i) * 8 + c < b.length then b.getD ((k * D + i) * 8 + c) 0 else 0)
 part : ∀ z, faiE D P (List.replicate (D + P) ⟨false, []⟩) [] z = 0 → ∃ ls, faiS D P (List.replicate (D + P) ⟨false, []⟩) [] z = ((D : Int), (P : Int), ls, []) ∧ (P = 0 → putE D P ls [] nmA b = 32) ∧
  (0 < P → ∃ pt, putE D P ls [] nmA b = 0 ∧ putS D P ls [] nmA b = ((D : Int), (P : Int), pt, [o]) ∧ chS D P pt [o] = 0 ∧ pt.length = D + P ∧ ∀ k, k < mn → fitB (strp pt k) (strp ws k) = true)
theorem whole_facts {x y : Int} {b : List Nat} (hz : newE x y = 0) (hb : Byt b) (hl : b.length ≤ 200) :
  ∃ (D P mn : Nat) (ws : List Dk) (o : Ob), x = D ∧ y = P ∧ 1 ≤ D ∧ D ≤ 8 ∧ P ≤ 4 ∧ newS x y = ((D : Int), (P : Int), List.replicate (D + P) ⟨false, []⟩, []) ∧ Whole D P mn b ws o := by
 unfold newE at hz
 split at hz
 ·rename_i hs
  obtain ⟨⟨x1, x8⟩, y0, y4⟩ := szB_iff.1 hs
  obtain ⟨D, rfl⟩ : ∃ D : Nat, x = D := ⟨x.toNat, by omega⟩
  obtain ⟨P, rfl⟩ : ∃ P : Nat, y = P := ⟨y.toNat, by omega⟩
  have G0 : Gd D P 0 (fun _ => []) (List.replicate (D + P) ⟨false, []⟩) [] := Gd.new (by omega) (by omega) (by omega) _
  have he : putE D P (List.replicate (D + P) ⟨false, []⟩) [] nmA b = 0 := put_ok G0 namA fndA (by decide) (by omega) (by rw [faN_new]; omega)
  have G1 := G0.put hb he
  obtain ⟨p1, p2, p3⟩ := pad_fit (D := D) (b := b) (by omega) (by omega) (by omega)
  have p38 : manyL D b ≤ 38 := by have := ned_bd (n := b.length) (d := D) (by omega) (by omega) (by omega) (by omega); omega
  have f1 : faN (putDs D P (padB D b) (manyL D b) (List.replicate (D + P) ⟨false, []⟩)) = 0 := by rw [putDs_fa, faN_new]
  refine ⟨D, P, manyL D b, _, newO D [] nmA b, rfl, rfl, by omega, by omega, by omega, ?_, he, G0.putS he, G1.chk, f1, G1.wh.len, rfl, rfl, p2, rfl, p38, p3, ned_tight (by omega) p2, rfl, fun k hk => G1.wh.snd f1 (by omega), fun i k c hi hk hc => ?_, fun z hz2 => ?_⟩
  ·unfold newS; rw [if_pos hs]; simp [show ((D : Int) + (P : Int)).toNat = D + P by omega]
  ·have hx : (List.replicate (D + P) (⟨false, []⟩ : Dk))[i]? = some ⟨false, []⟩ := by rw [List.getElem?_replicate, if_pos (by omega)]
   have hw : (putDs D P (padB D b) (manyL D b) (List.replicate (D + P) ⟨false, []⟩))[i]? = some (putDk D P (padB D b) (manyL D b) i ⟨false, []⟩) := by simp only [putDs, List.getElem?_mapIdx, hx, Option.map_some]
   obtain ⟨l, e1, e2⟩ := rows_byte (P := P) (by omega) p3 hi hk hc
   refine ⟨_, l, hw, ?_, e2⟩
   have e3 : padB D b = padL b (manyL D b * 8 * D) := by unfold padB; rw [Int.toNat_natCast]
   simp only [putDk, Bool.false_eq_true, if_false, List.nil_append, List.getElem?_map, List.getElem?_range hk, Option.map_some, e3, e1]
  ·obtain ⟨k, hk, z0, hf, _⟩ := fai_zero G0.chk hz2
   have G2 := G0.fail hk hf (fun h => absurd h (by omega))
   have fa := faN_set (y := ⟨true, []⟩) hk
   rw [hf, faN_new] at fa; simp at fa
   refine ⟨_, by unfold faiS; rw [if_pos hz2], fun h0 => ?_, fun h0 => ?_⟩
   ·exact putE_lost G2.chk namA (by rw [fndA]; omega) (by simp; omega) (by rw [fa]; omega)
   ·have he2 : putE D P ((List.replicate (D + P) ⟨false, []⟩).set z.toNat ⟨true, []⟩) [] nmA b = 0 := put_ok G2 namA fndA (by decide) (by omega) (by omega)
    have G3 := G2.put hb he2
    exact ⟨_, he2, G2.putS he2, G3.chk, G3.wh.len, fun k hk => G1.wh.fitB_ f1 G3.wh (by omega)⟩
 ·cases hz
end Go.Proofs.Ytapehckcmmompaa
