/- Contract of layer 4: the places of valid stations (reference); rows that are owned and appended to. Contracts of layer 4: Check, Places, Line of the reference. -/
import Derived.Test.YtfangplfbbgphaaAtb
import Derived.BigQuiet
namespace Go.Proofs.Ytfangplfbbgphaa
open Go.ChangeShapes Go.WideShapes Go.ChangeAt Go.RowKit
set_option linter.unusedVariables false
set_option linter.unusedSimpArgs false
attribute [local go_sem ↓] Go.wp_at_zero Go.wp_at_succ
theorem own_grown {B : Nat} {W W' : World} {e : TypeId} {sz n : Nat} {v : Value} {xs : List Value} (h : W.ownsRow B e sz v n xs) (hg : W.grownBy W' v.ownBlock) (hB : B ≤ W.heap.size) : Below B W W' := by
  refine (Below.refl B W).grown hg hB fun k e => ?_
  rcases h.2 with ⟨h5, _⟩ | ⟨g, cap', cur, hv, hb, _⟩
  · rw [h5] at e; cases e
  · rw [hv] at e; simp [Value.ownBlock] at e; omega
theorem blk_B {B : Nat} {W X : World} (h : Below B W X) {b : Nat} {o : Obj} (hb : W.heap[b]? = some o) (hlt : b < B) : X.heap[b]? = some o := (h.block b hlt).trans hb
theorem info_vec : ∃ i, Try.prog.info? 36 = some i ∧ i.zero = some (.agg #[.int .i64 0, .int .i64 0, .int .i64 0, .int .i64 0, .int .i64 0, .int .i64 0]) ∧ i.size = 6 ∧ i.bytes = 48 := by
  obtain ⟨i, hi, hz, hs, hb⟩ := info_parts infoV
  exact ⟨i, hi, hz, hs, hb⟩
theorem ove_nil (B : Nat) (w : World) : w.ownsRow B 36 6 (.slice none 0 0) 0 [] := World.ownsRow_nil _ _ _ _
theorem cell_same {W X : World} {b : Nat} (h : X.heap[b]? = W.heap[b]?) (o : Nat) : X.cell? ⟨b, o, none⟩ = W.cell? ⟨b, o, none⟩ := by
  unfold World.cell?
  simp only [h]
abbrev OVe (B : Nat) (w : World) (v : Value) (l : List V6) : Prop := w.ownsRow B 36 6 v l.length (l.flatMap v6)
theorem plB_prm {n d m k : Int} (h : plB n d m k = true) : prmB n d = true ∧ prmB m k = true := by
  unfold plB at h
  simp only [Bool.and_eq_true] at h
  exact ⟨h.1, h.2.1⟩
theorem errG_ok {A B : Int} (h : errG A B = 0) : okG A B := by
  unfold errG at h
  split at h
  · assumption
  · omega
theorem place_ok {A B : Int} {x : St} (hg : errG A B = 0) (hx : valS x = true) (W : World) : Calls Try.prog 29 #[Gv A B, Fv x.sn x.sd, Fv x.tn x.td] W fun e w' => e = .returned (Vv (plV A B x)) ∧ Below W.heap.size W w' :=
  refPlace_calls A B x.sn x.sd x.tn x.td (errG_ok hg) (plB_prm (valS_pl hx)).1 (plB_prm (valS_pl hx)).2 W

set_option maxRecDepth 100000 in
set_option maxHeartbeats 8000000 in
theorem all_calls {A B : Int} {a : Option Addr} {c : Nat} {l : List St} {w : World} (hl : RSt w a l) (hc : l.length ≤ c) (hc' : c ≤ 9223372036854775807) (hg : errG A B = 0) (hv : ∀ x ∈ l, valS x = true) (h20 : l.length ≤ 20) : Calls Try.prog 19 #[Gv A B, .slice a l.length c] w fun e w' =>
    ∃ v, e = .returned v ∧ OVe w.heap.size w' v (l.map (plV A B)) ∧ Below w.heap.size w w' := by
  have NN := Lib.hid (Below.refl w.heap.size w)
  have HL := Lib.hid hl
  have HV := Lib.hid hv
  have HG := Lib.hid hg
  have H20 := Lib.hid h20
  obtain ⟨i0, hi, hz, hs0, hb0⟩ := info_vec
  have HI := Lib.hid (And.intro hi (And.intro hz (And.intro hs0 hb0)))
  clear hl hv hg h20 hi hz hs0 hb0
  go_enter Try.func19, Try.ntmps19
  go_wp2_with fail
  have G : Hid ((w.alloc (.cells #[.int .i64 A, .int .i64 B] 23)).heap[w.heap.size]? = some (.cells #[.int .i64 A, .int .i64 B] 23)) := Lib.hid (blk_new w _)
  replace NN : Hid (Below w.heap.size w (w.alloc (.cells #[.int .i64 A, .int .i64 B] 23))) := Lib.hid (Bal NN.out _)
  generalize (w.alloc (.cells #[.int .i64 A, .int .i64 B] 23)) = W1 at *
  go_wp2_with fail
  have OV : Hid (OVe (w.heap.size + 1) W1 (.slice none 0 0) (List.map (plV A B) (l.take 0))) := Lib.hid (ove_nil _ _)
  have LB : Hid (w.heap.size + 1 ≤ W1.heap.size) := Lib.hid (blk_lt G.out)
  go_loopw [5, 6] (fun v i wr => ∃ k : Nat, k ≤ l.length ∧ i = .int .i64 k ∧ Hid (Below w.heap.size w wr) ∧ Hid (w.heap.size + 1 ≤ wr.heap.size) ∧ Hid (wr.heap[w.heap.size]? = some (.cells #[.int .i64 A, .int .i64 B] 23)) ∧ Hid (OVe (w.heap.size + 1) wr v (List.map (plV A B) (l.take k)))) (fun v i _ => l.length - (intOf i).toNat)
  case atStart => exact ⟨0, by omega, rfl, NN, LB, G, OV⟩
  case round =>
    clear NN G OV LB W1
    obtain ⟨k, hk, rfl, NN, LB, G, OV⟩ := hrel
    by_cases hlt : k < l.length
    · obtain ⟨x, hx⟩ := get_some hlt
      have HX := Lib.hid hx
      have CP := Lib.hid (fun W => place_ok HG.out (HV.out x (List.mem_of_getElem? hx)) W)
      have kk : k + 1 ≤ l.length := hlt
      obtain ⟨b, off, e, hb, hc0⟩ := Rd.rec_ HL.out (Nat.le_refl _) st5_len hx
      subst e
      obtain ⟨ob, hob⟩ : ∃ ob, wr.heap[b]? = some ob := ⟨wr.heap[b]'(Nat.lt_of_lt_of_le hb NN.out.size), Array.getElem?_eq_getElem _⟩
      have RX : Hid (∀ X : World, X.heap[b]? = some ob → ∀ j u, (st5 x)[j]? = some u → X.cell? ⟨b, off + k * 5 + j, none⟩ = some u) := Lib.hid (fun X hX j u hu => (cell_same (hX.trans hob.symm) _).trans ((NN.out.cell (p := ⟨b, off + k * 5 + j, none⟩) hb).trans (hc0 j u hu)))
      have BX := Lib.hid hob
      have HB0 := Lib.hid hb
      clear hx hc0 hb hob
      obtain ⟨A0, c0, hv0, hn0, hc1, -⟩ := Rd.of_own OV.out
      have kl : (List.map (plV A B) (l.take k)).length = k := by simp; omega
      have h20 := H20.out
      rw [kl] at hv0 hn0
      subst hv0
      generalize hpv : plV A B x = pv at CP
      go_upto_region 5 with fail
      clear hn0 hc1 h20 kl
      have HDRW := Lib.hid (Below.drew (Below.refl wr.heap.size wr))
      replace NN := Lib.hid (Bgo NN.out HDRW.out)
      replace BX := Lib.hid (blk_next HDRW.out BX.out)
      replace OV := Lib.hid (own_next HDRW.out OV.out)
      replace LB := Lib.hid (Nat.le_trans LB.out HDRW.out.size)
      replace G := Lib.hid (blk_next HDRW.out G.out)
      clear HDRW
      have HAL : Hid (∀ kx9 : Nat, GK [(1, w.heap.size, .cells #[.int .i64 A, .int .i64 B] 23), (6, b, ob), (11, b, ob)] kx9 wr.drew) := Lib.hid (fun kx9 px9 hp e => by
        simp only [List.mem_cons, List.not_mem_nil, or_false] at hp
        rcases hp with rfl | rfl | rfl
        · exact G.out
        · exact BX.out
        · exact BX.out)
      refine region_G (S := GK [(1, w.heap.size, .cells #[.int .i64 A, .int .i64 B] 23), (6, b, ob), (11, b, ob)]) (by kernel_rfl) ?_
      refine take_G 0 (.slice A0 k c0) (some 13) (GK.grow _) (by kernel_rfl) rfl (by kernel_rfl) (by kernel_rfl) (by kernel_rfl) rfl (fun _ _ _ h => h) (YieldsIf.toG (Or.inl ⟨by rfl, ?_⟩)) (GK.drop (by simp)) ?_
      · intro X hX
        clear hX
        go_simp
      try simp only [Act.put, List.setIfInBounds_toArray, List.set_cons_zero, List.set_cons_succ]
      refine take_G 1 (.agg #[.int .i64 A, .int .i64 B]) (some 14) (GK.grow _) (by kernel_rfl) rfl (by kernel_rfl) (by kernel_rfl) (by kernel_rfl) rfl (fun _ _ _ h => h) (YieldsIf.toG (Or.inl ⟨by rfl, ?_⟩)) (HAL.out 1) ?_
      · intro X hX
        have hh := hX (1, w.heap.size, .cells #[.int .i64 A, .int .i64 B] 23) (List.Mem.head _) rfl
        have hh0 := blk_cell hh 0 _ rfl
        have hh1 := blk_cell hh 1 _ rfl
        have hhl := blk_lt hh
        clear hh
        clear hX
        go_simp
      try simp only [Act.put, List.setIfInBounds_toArray, List.set_cons_zero, List.set_cons_succ]
      refine take_G 2 (.slice (some ⟨b, off, none⟩) l.length c) (some 15) (GK.grow _) (by kernel_rfl) rfl (by kernel_rfl) (by kernel_rfl) (by kernel_rfl) rfl (fun _ _ _ h => h) (YieldsIf.toG (Or.inl ⟨by rfl, ?_⟩)) (GK.drop (by simp)) ?_
      · intro X hX
        clear hX
        go_simp
      try simp only [Act.put, List.setIfInBounds_toArray, List.set_cons_zero, List.set_cons_succ]
      refine take_G 3 (.int .i64 (k : Int)) (some 16) (GK.grow _) (by kernel_rfl) rfl (by kernel_rfl) (by kernel_rfl) (by kernel_rfl) rfl (fun _ _ _ h => h) (YieldsIf.toG (Or.inl ⟨by rfl, ?_⟩)) (GK.drop (by simp)) ?_
      · intro X hX
        clear hX
        go_simp
      try simp only [Act.put, List.setIfInBounds_toArray, List.set_cons_zero, List.set_cons_succ]
      refine take_G 4 (.pointer (some ⟨b, off + k * 5, none⟩)) (some 17) (GK.grow _) (by kernel_rfl) rfl (by kernel_rfl) (by kernel_rfl) (by kernel_rfl) rfl (fun _ _ _ h => h) (YieldsIf.toG (Or.inl ⟨by rfl, ?_⟩)) (GK.drop (by simp)) ?_
      · intro X hX
        clear hX
        go_simp
      try simp only [Act.put, List.setIfInBounds_toArray, List.set_cons_zero, List.set_cons_succ]
      refine take_G 5 (.pointer (some ⟨b, off + k * 5 + 1, none⟩)) (some 18) (GK.grow _) (by kernel_rfl) rfl (by kernel_rfl) (by kernel_rfl) (by kernel_rfl) rfl (fun _ _ _ h => h) (YieldsIf.toG (Or.inl ⟨by rfl, ?_⟩)) (GK.drop (by simp)) ?_
      · intro X hX
        clear hX
        go_simp
      try simp only [Act.put, List.setIfInBounds_toArray, List.set_cons_zero, List.set_cons_succ]
      refine take_G 6 (.agg #[.int .i64 x.sn, .int .i64 x.sd]) (some 19) (GK.grow _) (by kernel_rfl) rfl (by kernel_rfl) (by kernel_rfl) (by kernel_rfl) rfl (fun _ _ _ h => h) (YieldsIf.toG (Or.inl ⟨by rfl, ?_⟩)) (HAL.out 6) ?_
      · intro X hX
        have hh := hX (6, b, ob) (List.Mem.tail _ (List.Mem.head _)) rfl
        have hh0 := RX.out _ hh 1 _ rfl
        have hh1 := RX.out _ hh 2 _ rfl
        have hhl := blk_lt hh
        clear hh
        clear hX
        go_simp
      try simp only [Act.put, List.setIfInBounds_toArray, List.set_cons_zero, List.set_cons_succ]
      refine take_G 7 (.slice (some ⟨b, off, none⟩) l.length c) (some 20) (GK.grow _) (by kernel_rfl) rfl (by kernel_rfl) (by kernel_rfl) (by kernel_rfl) rfl (fun _ _ _ h => h) (YieldsIf.toG (Or.inl ⟨by rfl, ?_⟩)) (GK.drop (by simp)) ?_
      · intro X hX
        clear hX
        go_simp
      try simp only [Act.put, List.setIfInBounds_toArray, List.set_cons_zero, List.set_cons_succ]
      refine take_G 8 (.int .i64 (k : Int)) (some 21) (GK.grow _) (by kernel_rfl) rfl (by kernel_rfl) (by kernel_rfl) (by kernel_rfl) rfl (fun _ _ _ h => h) (YieldsIf.toG (Or.inl ⟨by rfl, ?_⟩)) (GK.drop (by simp)) ?_
      · intro X hX
        clear hX
        go_simp
      try simp only [Act.put, List.setIfInBounds_toArray, List.set_cons_zero, List.set_cons_succ]
      refine take_G 9 (.pointer (some ⟨b, off + k * 5, none⟩)) (some 22) (GK.grow _) (by kernel_rfl) rfl (by kernel_rfl) (by kernel_rfl) (by kernel_rfl) rfl (fun _ _ _ h => h) (YieldsIf.toG (Or.inl ⟨by rfl, ?_⟩)) (GK.drop (by simp)) ?_
      · intro X hX
        clear hX
        go_simp
      try simp only [Act.put, List.setIfInBounds_toArray, List.set_cons_zero, List.set_cons_succ]
      refine take_G 10 (.pointer (some ⟨b, off + k * 5 + 3, none⟩)) (some 23) (GK.grow _) (by kernel_rfl) rfl (by kernel_rfl) (by kernel_rfl) (by kernel_rfl) rfl (fun _ _ _ h => h) (YieldsIf.toG (Or.inl ⟨by rfl, ?_⟩)) (GK.drop (by simp)) ?_
      · intro X hX
        clear hX
        go_simp
      try simp only [Act.put, List.setIfInBounds_toArray, List.set_cons_zero, List.set_cons_succ]
      refine take_G 11 (.agg #[.int .i64 x.tn, .int .i64 x.td]) (some 24) (GK.grow _) (by kernel_rfl) rfl (by kernel_rfl) (by kernel_rfl) (by kernel_rfl) rfl (fun _ _ _ h => h) (YieldsIf.toG (Or.inl ⟨by rfl, ?_⟩)) (HAL.out 11) ?_
      · intro X hX
        have hh := hX (11, b, ob) (List.Mem.tail _ (List.Mem.tail _ (List.Mem.head _))) rfl
        have hh0 := RX.out _ hh 3 _ rfl
        have hh1 := RX.out _ hh 4 _ rfl
        have hhl := blk_lt hh
        clear hh
        clear hX
        go_simp
      try simp only [Act.put, List.setIfInBounds_toArray, List.set_cons_zero, List.set_cons_succ]
      have CFn : ∀ (args : Array Value) (W : World), Sem.run Try.prog (callFunc 29 args) W = .ok (.enter 29 args) W := fun _ _ => by kernel_rfl
      refine take_G 12 (.agg #[.int .i64 pv.x1, .int .i64 pv.x2, .int .i64 pv.y1, .int .i64 pv.y2, .int .i64 pv.z1, .int .i64 pv.z2]) (some 25) (GK.grow _) (by kernel_rfl) rfl (by kernel_rfl) (by kernel_rfl) (by kernel_rfl) rfl (fun _ _ _ h => h) (yieldsG_call 29 #[.agg #[.int .i64 A, .int .i64 B], .agg #[.int .i64 x.sn, .int .i64 x.sd], .agg #[.int .i64 x.tn, .int .i64 x.td]] (by rfl) ?_ (fun X hS => CP.out X)) (GK.drop (by simp)) ?_
      · intro X hX
        clear hX
        go_simp
      clear CFn
      try simp only [Act.put, List.setIfInBounds_toArray, List.set_cons_zero, List.set_cons_succ]
      refine only_G 13 (by kernel_rfl) rfl (fun X2 hX K' hK' => ?_)
      replace NN := Lib.hid (Bgo NN.out hX)
      replace BX := Lib.hid (blk_next hX BX.out)
      replace OV := Lib.hid (own_next hX OV.out)
      replace LB := Lib.hid (Nat.le_trans LB.out hX.size)
      replace G := Lib.hid (blk_next hX G.out)
      replace HAL := Lib.hid (fun kx9 => GK.grow _ _ _ _ (HAL.out kx9) hX)
      clear hX
      go_simp
      refine hK'.out _ _ (fun _ _ h => h.alloc _) ?_
      clear hK' K'
      try simp only [Act.put, List.setIfInBounds_toArray, List.set_cons_zero, List.set_cons_succ]
      have HB := Lib.hid (Bal (Below.refl X2.heap.size X2) (.cells #[.int .i64 pv.x1, .int .i64 pv.x2, .int .i64 pv.y1, .int .i64 pv.y2, .int .i64 pv.z1, .int .i64 pv.z2] 36))
      have SL : Hid ((X2.alloc (.cells #[.int .i64 pv.x1, .int .i64 pv.x2, .int .i64 pv.y1, .int .i64 pv.y2, .int .i64 pv.z1, .int .i64 pv.z2] 36)).heap[X2.heap.size]? = some (.cells #[.int .i64 pv.x1, .int .i64 pv.x2, .int .i64 pv.y1, .int .i64 pv.y2, .int .i64 pv.z1, .int .i64 pv.z2] 36)) := Lib.hid (blk_new X2 (.cells #[.int .i64 pv.x1, .int .i64 pv.x2, .int .i64 pv.y1, .int .i64 pv.y2, .int .i64 pv.z1, .int .i64 pv.z2] 36))
      replace NN := Lib.hid (Bgo NN.out HB.out)
      replace BX := Lib.hid (blk_next HB.out BX.out)
      replace OV := Lib.hid (own_next HB.out OV.out)
      replace LB := Lib.hid (Nat.le_trans LB.out HB.out.size)
      replace G := Lib.hid (blk_next HB.out G.out)
      replace HAL := Lib.hid (fun kx9 => GK.grow _ _ _ _ (HAL.out kx9) HB.out)
      clear HB
      generalize X2.alloc (.cells #[.int .i64 pv.x1, .int .i64 pv.x2, .int .i64 pv.y1, .int .i64 pv.y2, .int .i64 pv.z1, .int .i64 pv.z2] 36) = W3 at *
      generalize X2.heap.size = gSL at *
      refine only_G 14 (by kernel_rfl) rfl (fun X4 hX K' hK' => ?_)
      replace NN := Lib.hid (Bgo NN.out hX)
      replace BX := Lib.hid (blk_next hX BX.out)
      replace OV := Lib.hid (own_next hX OV.out)
      replace LB := Lib.hid (Nat.le_trans LB.out hX.size)
      replace G := Lib.hid (blk_next hX G.out)
      replace SL := Lib.hid (blk_next hX SL.out)
      replace HAL := Lib.hid (fun kx9 => GK.grow _ _ _ _ (HAL.out kx9) hX)
      clear hX
      refine step_append_rd (P := Try.prog) X4 rfl _ _ 27 rfl (w.heap.size + 1) 36 i0 (.agg #[.int .i64 0, .int .i64 0, .int .i64 0, .int .i64 0, .int .i64 0, .int .i64 0]) 6 48 und_vecs HI.out.1 HI.out.2.1 HI.out.2.2.1 HI.out.2.2.2 rfl (by decide) (.slice A0 k c0) _ _ rfl OV.out (some ⟨gSL, 0, none⟩) 1 1 (v6 pv) rfl (Rd.blk SL.out rfl) (v6_one pv) ?_ ?_ LB.out ?_
      · have := H20.out; simp [maxLen]; omega
      · have := H20.out; simp; omega
      intro v9 w9 o9 g9 _
      have BG := Lib.hid (own_grown OV.out g9 LB.out)
      have O9 : Hid (OVe (w.heap.size + 1) w9 v9 (List.map (plV A B) (l.take (k + 1)))) := Lib.hid (by
          unfold OVe
          rw [List.take_succ_eq_append_getElem hlt, List.map_append, List.flatMap_append, List.length_append]
          have e : l[k] = x := by have h := HX.out; rw [List.getElem?_eq_getElem hlt] at h; exact Option.some.inj h
          rw [e]
          simpa [hpv] using o9)
      refine hK'.out _ _ (fun kk hk hS => ?_) ?_
      · intro px9 hp e
        simp only [List.mem_cons, List.not_mem_nil, or_false] at hp
        rcases hp with rfl | rfl | rfl <;> (subst e; exact bfl (by kernel_rfl) hk)
      clear hK' K' HAL
      try simp only [Act.put, List.setIfInBounds_toArray, List.set_cons_zero, List.set_cons_succ]
      replace G := Lib.hid (blk_B BG.out G.out (Nat.lt_succ_self _))
      replace NN := Lib.hid (NN.out.trans (BG.out.mono (Nat.le_succ _)))
      replace LB := Lib.hid (Nat.le_trans LB.out BG.out.size)
      clear OV BX SL g9 o9 BG
      refine take_G 15 (v9) (some 5) (GK.grow _) (by kernel_rfl) rfl (by kernel_rfl) (by kernel_rfl) (by kernel_rfl) rfl (fun _ _ _ h => h) (YieldsIf.toG (Or.inl ⟨by rfl, ?_⟩)) (GK.drop (by simp)) ?_
      · intro X hX
        clear hX
        go_simp
      try simp only [Act.put, List.setIfInBounds_toArray, List.set_cons_zero, List.set_cons_succ]
      refine done_G (by kernel_rfl) (fun X5 hX => ?_) _
      replace NN := Lib.hid (Bgo NN.out hX)
      replace LB := Lib.hid (Nat.le_trans LB.out hX.size)
      replace O9 := Lib.hid (own_next hX O9.out)
      replace G := Lib.hid (blk_next hX G.out)
      clear hX
      go_wp2_with fail
      go_roundw
      case rel => exact ⟨k + 1, kk, by go_num, NN, LB, G, O9⟩
      case measure => simp [intOf]; omega
    · obtain rfl : k = l.length := by omega
      rw [List.take_length] at OV
      go_wp2_with fail
      go_ret
      exact ⟨_, rfl, own_mono OV.out (Nat.le_succ _), NN.out⟩
end Go.Proofs.Ytfangplfbbgphaa

namespace Go.Proofs.Ytfangplfbbgphaa
open Go.ChangeShapes Go.WideShapes Go.ChangeAt Go.RowKit
set_option linter.unusedVariables false
set_option linter.unusedSimpArgs false
attribute [local go_sem ↓] Go.wp_at_zero Go.wp_at_succ
attribute [local go_sem ↓] eqVe
theorem Rd.rec2 {w : World} {size n : Nat} {A : Option Addr} {α : Type} {f : α → List Value} {l : List α} (h : Rd w size A n (l.flatMap f)) (hn : l.length ≤ n) (hf : ∀ x, (f x).length = size) {i k : Nat} {x y : α} (hi : l[i]? = some x) (hk : l[k]? = some y) :
    ∃ b off, A = some ⟨b, off, none⟩ ∧ b < w.heap.size ∧ (∀ j u, (f x)[j]? = some u → w.cell? ⟨b, off + i * size + j, none⟩ = some u) ∧ (∀ j u, (f y)[j]? = some u → w.cell? ⟨b, off + k * size + j, none⟩ = some u) := by
  obtain ⟨b, off, e, hb, h1⟩ := Rd.rec_ h hn hf hi
  obtain ⟨b', off', e', _, h2⟩ := Rd.rec_ h hn hf hk
  rw [e] at e'
  injection e' with e'
  injection e' with e1 e2
  subst e1 e2
  exact ⟨b, off, e, hb, h1, h2⟩
theorem own_drewN {W : World} {B : Nat} {e : TypeId} {sz n : Nat} {v : Value} {xs : List Value} (h : W.ownsRow B e sz v n xs) (k : Nat) : (W.drewN k).ownsRow B e sz v n xs := own_next (below_drewN (Below.refl _ _) k) h

set_option maxRecDepth 100000 in
set_option maxHeartbeats 16000000 in
theorem rcheck_calls {A B : Int} {a : Option Addr} {c : Nat} {l : List St} {w : World} (hl : RSt w a l) (hc : l.length ≤ c) (hc' : c ≤ 9223372036854775807) (hn : ∀ x ∈ l, x.nm.size ≤ 9223372036854775807) : Calls Try.prog 14 #[Gv A B, .slice a l.length c] w fun e w' => e = .returned (.int .i64 (plE A B l)) ∧ Below w.heap.size w w' := by
  have NN := Lib.hid (Below.refl w.heap.size w)
  have GC := Lib.hid (fun W => refgcheck_calls A B W)
  have HL := Lib.hid hl
  have HN := Lib.hid hn
  have PE : Hid (plE A B l = if errG A B ≠ 0 then errG A B else if stsE l ≠ 0 then stsE l else if dupB (pls A B l) then 14 else 0) := Lib.hid rfl
  generalize plE A B l = pe at *
  clear hl hn
  by_cases hg : errG A B ≠ 0
  · rw [if_pos hg] at PE
    have q1 : (errG A B != 0) = true := by simpa using hg
    generalize errG A B = eg at *
    clear hg
    go_enter Try.func14, Try.ntmps14
    go_wp2_with fail
    have G : Hid ((w.alloc (.cells #[.int .i64 A, .int .i64 B] 23)).heap[w.heap.size]? = some (.cells #[.int .i64 A, .int .i64 B] 23)) := Lib.hid (blk_new w _)
    replace NN : Hid (Below w.heap.size w (w.alloc (.cells #[.int .i64 A, .int .i64 B] 23))) := Lib.hid (Bal NN.out _)
    generalize (w.alloc (.cells #[.int .i64 A, .int .i64 B] 23)) = W1 at *
    refine (GC.out _).mono ?_
    rintro e w2 ⟨rfl, hb⟩
    replace NN := Lib.hid (Bgo NN.out hb)
    replace G := Lib.hid (blk_next hb G.out)
    clear hb
    have c_G_0 := blk_cell G.out 0 _ rfl
    have f_G_0 := blk_frozen G.out 0
    have c_G_1 := blk_cell G.out 1 _ rfl
    have f_G_1 := blk_frozen G.out 1
    have l_G := blk_lt G.out
    go_wp2_with fail
    refine (GC.out _).mono ?_
    rintro e w3 ⟨rfl, hb⟩
    clear c_G_0 f_G_0 c_G_1 f_G_1 l_G
    replace NN := Lib.hid (Bgo NN.out hb)
    replace G := Lib.hid (blk_next hb G.out)
    clear hb
    go_wp2_with fail
    go_ret
    exact ⟨ret_int PE.out.symm, NN.out⟩
  rw [if_neg hg] at PE
  have hg0 : errG A B = 0 := by omega
  rw [hg0] at GC
  have HG := Lib.hid hg0
  clear hg hg0
  by_cases h8 : 8 < l.length
  · have HP : Hid (pe = 4) := Lib.hid (by rw [PE.out, show stsE l = 4 by unfold stsE; rw [if_pos h8]]; rfl)
    clear PE
    go_enter Try.func14, Try.ntmps14
    go_wp2_with fail
    have G : Hid ((w.alloc (.cells #[.int .i64 A, .int .i64 B] 23)).heap[w.heap.size]? = some (.cells #[.int .i64 A, .int .i64 B] 23)) := Lib.hid (blk_new w _)
    replace NN : Hid (Below w.heap.size w (w.alloc (.cells #[.int .i64 A, .int .i64 B] 23))) := Lib.hid (Bal NN.out _)
    generalize (w.alloc (.cells #[.int .i64 A, .int .i64 B] 23)) = W1 at *
    refine (GC.out _).mono ?_
    rintro e w2 ⟨rfl, hb⟩
    replace NN := Lib.hid (Bgo NN.out hb)
    replace G := Lib.hid (blk_next hb G.out)
    clear hb
    go_wp2_with fail
    go_ret
    exact ⟨ret_int HP.out.symm, NN.out⟩
  have YES : Hid ((∀ (j : Nat) (y : St), j < l.length → l[j]? = some y → valS y = true) → stsE l = 0) := Lib.hid (fun h => by unfold stsE; rw [if_neg h8, if_pos (all_get h)])
  have NO : Hid (∀ (k : Nat) (x : St), l[k]? = some x → valS x = false → pe = 8) := Lib.hid (fun k x h h' => by rw [PE.out, show stsE l = 8 by unfold stsE; rw [if_neg h8, if_neg (by rw [all_not h h']; simp)]]; rfl)
  have H8 := Lib.hid h8
  go_enter Try.func14, Try.ntmps14
  go_wp2_with fail
  have G : Hid ((w.alloc (.cells #[.int .i64 A, .int .i64 B] 23)).heap[w.heap.size]? = some (.cells #[.int .i64 A, .int .i64 B] 23)) := Lib.hid (blk_new w _)
  replace NN : Hid (Below w.heap.size w (w.alloc (.cells #[.int .i64 A, .int .i64 B] 23))) := Lib.hid (Bal NN.out _)
  generalize (w.alloc (.cells #[.int .i64 A, .int .i64 B] 23)) = W1 at *
  refine (GC.out _).mono ?_
  rintro e w2 ⟨rfl, hb⟩
  replace NN := Lib.hid (Bgo NN.out hb)
  replace G := Lib.hid (blk_next hb G.out)
  clear hb
  go_wp2_with fail
  go_loopw [5] (fun i wr => ∃ k : Nat, k ≤ l.length ∧ i = .int .i64 k ∧ Hid (Below w.heap.size w wr) ∧ Hid (wr.heap[w.heap.size]? = some (.cells #[.int .i64 A, .int .i64 B] 23)) ∧ Hid (∀ (j : Nat) (y : St), j < k → l[j]? = some y → valS y = true)) (fun i _ => l.length - (intOf i).toNat)
  case atStart => exact ⟨0, by omega, rfl, NN, G, Lib.hid (by omega)⟩
  case round =>
    clear NN G
    obtain ⟨k, hk, rfl, NN, G, GD⟩ := hrel
    by_cases hlt : k < l.length
    · obtain ⟨x, hx⟩ := get_some hlt
      obtain ⟨b, off, e, hb, hc0⟩ := Rd.rec_ HL.out (Nat.le_refl _) st5_len hx
      subst e
      have c0 := (NN.out.cell (p := ⟨b, off + k * 5, none⟩) hb).trans (hc0 0 _ rfl)
      have c1 := (NN.out.cell (p := ⟨b, off + k * 5 + 1, none⟩) hb).trans (hc0 1 _ rfl)
      have c2 := (NN.out.cell (p := ⟨b, off + k * 5 + 2, none⟩) hb).trans (hc0 2 _ rfl)
      have c3 := (NN.out.cell (p := ⟨b, off + k * 5 + 3, none⟩) hb).trans (hc0 3 _ rfl)
      have c4 := (NN.out.cell (p := ⟨b, off + k * 5 + 4, none⟩) hb).trans (hc0 4 _ rfl)
      have hbr : b < wr.heap.size := Nat.lt_of_lt_of_le hb NN.out.size
      have HX := Lib.hid hx
      have kk : k + 1 ≤ l.length := hlt
      have CV := Lib.hid (fun W => refValid_calls x W (HN.out x (List.mem_of_getElem? hx)))
      clear hc0 hx hb
      go_wp2_with fail
      refine (CV.out _).mono ?_
      rintro e w3 ⟨rfl, hb⟩
      replace NN := Lib.hid (Bgo NN.out hb)
      replace G := Lib.hid (blk_next hb G.out)
      clear hb
      clear hbr c0 c1 c2 c3 c4
      cases hp : valS x
      · have FV := Lib.hid (NO.out k x HX.out hp)
        clear GD YES NO HX hp
        go_wp2_with fail
        go_ret
        exact ⟨ret_int FV.out.symm, NN.out⟩
      · have G2 := Lib.hid (take_all HX.out GD.out hp)
        clear GD YES NO HX hp
        go_wp2_with fail
        go_roundw
        case rel => exact ⟨k + 1, kk, by go_num, NN, G, G2⟩
        case measure => simp [intOf]; omega
    · obtain rfl : k = l.length := by omega
      have S0 := Lib.hid (YES.out GD.out)
      have HV := Lib.hid (stsE_ok S0.out).2
      clear GD YES NO hk hlt
      rw [S0.out, if_neg (by simp)] at PE
      have CA := Lib.hid (fun (W : World) (hb : Below w.heap.size w W) => all_calls (A := A) (B := B) (w := W) (HL.out.next hb) hc hc' HG.out HV.out (by have := H8.out; omega))
      have c_G_0 := blk_cell G.out 0 _ rfl
      have f_G_0 := blk_frozen G.out 0
      have c_G_1 := blk_cell G.out 1 _ rfl
      have f_G_1 := blk_frozen G.out 1
      have l_G := blk_lt G.out
      go_wp2_with fail
      clear c_G_0 f_G_0 c_G_1 f_G_1 l_G
      refine (CA.out _ NN.out).mono ?_
      rintro e w4 ⟨v, rfl, ov, hb⟩
      replace NN := Lib.hid (Bgo NN.out hb)
      replace G := Lib.hid (blk_next hb G.out)
      clear hb
      have OV := Lib.hid ov
      clear ov
      go_wp2_with fail
      obtain ⟨BO, OV⟩ : ∃ BO, Hid (OVe BO w4 v (l.map (plV A B))) := ⟨_, OV⟩
      go_loopw [7] (fun i wr => ∃ i' : Nat, i' ≤ l.length ∧ i = .int .i64 i' ∧ Hid (Below w.heap.size w wr) ∧ Hid (OVe BO wr v (l.map (plV A B))) ∧ Hid (∀ s t p q, t < s → s < i' → (pls A B l)[s]? = some p → (pls A B l)[t]? = some q → dupP q p = false)) (fun i _ => l.length - (intOf i).toNat)
      case atStart => exact ⟨0, by omega, rfl, NN, OV, Lib.hid (by omega)⟩
      case round =>
        skip
        clear NN OV G
        obtain ⟨i, hi, rfl, NN, OV, GD⟩ := hrel
        by_cases hlt : i < l.length
        · obtain ⟨s, hs⟩ := get_some hlt
          have HS := Lib.hid hs
          have HP := Lib.hid (pls_get (A := A) (B := B) hs)
          have kk : i + 1 ≤ l.length := hlt
          have hltc : (i : Int) < (l.length : Int) := by omega
          have HLT := Lib.hid hlt
          clear hs hlt
          go_wp2_with fail
          go_loopw [8] (fun i9 wr => ∃ k : Nat, k ≤ i ∧ i9 = .int .i64 k ∧ Hid (Below w.heap.size w wr) ∧ Hid (OVe BO wr v (l.map (plV A B))) ∧ Hid (∀ t q, t < k → (pls A B l)[t]? = some q → dupP q (s, plV A B s) = false)) (fun i9 _ => i - (intOf i9).toNat)
          case atStart => exact ⟨0, by omega, rfl, NN, OV, Lib.hid (by omega)⟩
          case round =>
            clear NN OV
            obtain ⟨k, hk, rfl, NN, OV, GK9⟩ := hrel
            by_cases hlt : k < i
            · obtain ⟨t, ht⟩ := get_some (show k < l.length by have := HLT.out; omega)
              have HQ := Lib.hid (pls_get (A := A) (B := B) ht)
              obtain ⟨b, off, e, hb, h1, h2⟩ := Rd.rec2 HL.out (Nat.le_refl _) st5_len HS.out ht
              subst e
              have ci0 := (NN.out.cell (p := ⟨b, off + i * 5, none⟩) hb).trans (h1 0 _ rfl)
              have ck0 := (NN.out.cell (p := ⟨b, off + k * 5, none⟩) hb).trans (h2 0 _ rfl)
              have hbr : b < wr.heap.size := Nat.lt_of_lt_of_le hb NN.out.size
              obtain ⟨A1, c1, hv1, hn1, hc1, hr1⟩ := Rd.of_own OV.out
              rw [List.length_map] at hv1 hn1 hr1
              subst hv1
              obtain ⟨b2, off2, e2, hb2, h3, h4⟩ := Rd.rec2 hr1 (by simp) v6_len (show (l.map (plV A B))[i]? = some (plV A B s) by rw [List.getElem?_map, HS.out]; rfl) (show (l.map (plV A B))[k]? = some (plV A B t) by rw [List.getElem?_map, ht]; rfl)
              subst e2
              have vi0 := h3 0 _ rfl
              have vi1 := h3 1 _ rfl
              have vi2 := h3 2 _ rfl
              have vi3 := h3 3 _ rfl
              have vi4 := h3 4 _ rfl
              have vi5 := h3 5 _ rfl
              have vk0 := h4 0 _ rfl
              have vk1 := h4 1 _ rfl
              have vk2 := h4 2 _ rfl
              have vk3 := h4 3 _ rfl
              have vk4 := h4 4 _ rfl
              have vk5 := h4 5 _ rfl
              simp only [Nat.add_zero] at vi0 vk0
              have HK := Lib.hid hlt
              have kn1 : k + 1 ≤ i := hlt
              have kn2 : (k : Int) < (i : Int) := by omega
              have kn3 : (k : Int) < (l.length : Int) := by have := HLT.out; omega
              have kn4 : (0 : Int) ≤ (k : Int) := by omega
              have kn5 : (0 : Int) ≤ (i : Int) := by omega
              clear h1 h2 h3 h4 hr1 ht hlt hb
              generalize plV A B s = sv at *
              generalize plV A B t = tv at *
              cases hnm : (s.nm.toList == t.nm.toList)
              · cases hve : decide (sv = tv)
                · have HD : Hid (dupP (s, sv) (t, tv) = false) := Lib.hid (by unfold dupP; rw [hnm, hve]; rfl)
                  go_wp2_with fail
                  go_quiet (fail)
                  clear ci0 ck0 hbr vi0 vk0 vi1 vk1 vi2 vk2 vi3 vk3 vi4 vk4 vi5 vk5 kn2 kn3 kn4 kn5 hb2
                  replace NN := Lib.hid (below_drewN NN.out nq)
                  replace OV := Lib.hid (own_drewN OV.out nq)
                  have G2 : Hid (∀ t' q, t' < k + 1 → (pls A B l)[t']? = some q → dupP q (s, sv) = false) := Lib.hid (fun t' q ht' hq => by
                    by_cases e : t' = k
                    · subst e; rw [HQ.out] at hq; cases hq; rw [dupP_comm]; exact HD.out
                    · exact GK9.out t' q (by omega) hq)
                  clear GK9
                  go_wp2_with fail
                  go_roundw
                  case rel => exact ⟨k + 1, kn1, by go_num, NN, OV, G2⟩
                  case measure => simp [intOf]; omega
                · have HD : Hid (dupP (s, sv) (t, tv) = true) := Lib.hid (by unfold dupP; rw [hnm, hve]; rfl)
                  go_wp2_with fail
                  go_quiet (fail)
                  clear ci0 ck0 hbr vi0 vk0 vi1 vk1 vi2 vk2 vi3 vk3 vi4 vk4 vi5 vk5 kn2 kn3 kn4 kn5 hb2
                  replace NN := Lib.hid (below_drewN NN.out nq)
                  replace OV := Lib.hid (own_drewN OV.out nq)
                  have HP9 : Hid (pe = 14) := Lib.hid (by rw [PE.out, if_pos (dupB_iff.2 ⟨k, i, _, _, HK.out, HQ.out, HP.out, by rw [dupP_comm]; exact HD.out⟩)])
                  clear PE GD GK9
                  go_wp2_with fail
                  go_ret
                  exact ⟨ret_int HP9.out.symm, NN.out⟩
              · have HD : Hid (dupP (s, sv) (t, tv) = true) := Lib.hid (by unfold dupP; rw [hnm]; rfl)
                go_wp2_with fail
                go_quiet (fail)
                clear ci0 ck0 hbr vi0 vk0 vi1 vk1 vi2 vk2 vi3 vk3 vi4 vk4 vi5 vk5 kn2 kn3 kn4 kn5 hb2
                replace NN := Lib.hid (below_drewN NN.out nq)
                replace OV := Lib.hid (own_drewN OV.out nq)
                have HP9 : Hid (pe = 14) := Lib.hid (by rw [PE.out, if_pos (dupB_iff.2 ⟨k, i, _, _, HK.out, HQ.out, HP.out, by rw [dupP_comm]; exact HD.out⟩)])
                clear PE GD GK9
                go_wp2_with fail
                go_ret
                exact ⟨ret_int HP9.out.symm, NN.out⟩
            · obtain rfl : k = i := by omega
              have G2 : Hid (∀ s t p q, t < s → s < (k + 1) → (pls A B l)[s]? = some p → (pls A B l)[t]? = some q → dupP q p = false) := Lib.hid (fun s' t' p q h1 h2 h3 h4 => by
                by_cases e : s' = k
                · subst e; rw [HP.out] at h3; cases h3; exact GK9.out t' q h1 h4
                · exact GD.out s' t' p q h1 (by omega) h3 h4)
              clear GK9 GD
              go_wp2_with fail
              go_roundw
              case rel => exact ⟨k + 1, kk, by go_num, NN, OV, G2⟩
              case measure => have := HLT.out; simp [intOf]; omega
        · obtain rfl : i = l.length := by omega
          have HD : dupB (pls A B l) = false := by
            cases hd : dupB (pls A B l)
            · rfl
            · obtain ⟨i, j, p, q, h1, h2, h3, h4⟩ := dupB_iff.1 hd
              have h5 := GD.out j i q p h1 (by have := get_lt h3; unfold pls at this; simpa using this) h3 h2
              rw [h4] at h5; cases h5
          have HP9 : Hid (pe = 0) := Lib.hid (by rw [PE.out, HD]; rfl)
          clear PE GD HD
          go_wp2_with fail
          go_ret
          exact ⟨ret_int HP9.out.symm, NN.out⟩
set_option maxRecDepth 100000 in
set_option maxHeartbeats 8000000 in
theorem rplaces_calls {A B : Int} {a : Option Addr} {c : Nat} {l : List St} {w : World} (hl : RSt w a l) (hc : l.length ≤ c) (hc' : c ≤ 9223372036854775807) (hn : ∀ x ∈ l, x.nm.size ≤ 9223372036854775807) : Calls Try.prog 6 #[Gv A B, .slice a l.length c] w fun e w' =>
    ∃ v, e = .returned (.tuple #[v, .int .i64 (plE A B l)]) ∧ Below w.heap.size w w' ∧ (plE A B l ≠ 0 → v = .slice none 0 0) ∧ (plE A B l = 0 → OVe w.heap.size w' v (l.map (plV A B))) := by
  have NN := Lib.hid (Below.refl w.heap.size w)
  have CC := Lib.hid (fun (W : World) (hb : Below w.heap.size w W) => rcheck_calls (A := A) (B := B) (w := W) (hl.next hb) hc hc' hn)
  have CA := Lib.hid (fun (h : plE A B l = 0) (W : World) (hb : Below w.heap.size w W) => all_calls (A := A) (B := B) (w := W) (hl.next hb) hc hc' (plE_ok h).1 (stsE_ok (plE_ok h).2.1).2 (Nat.le_trans (stsE_ok (plE_ok h).2.1).1 (by decide)))
  obtain ⟨pe, hpe⟩ : ∃ pe, plE A B l = pe := ⟨_, rfl⟩
  simp only [hpe] at CC CA ⊢
  clear hl hn hpe
  go_enter Try.func6, Try.ntmps6
  go_wp2_with fail
  have G : Hid ((w.alloc (.cells #[.int .i64 A, .int .i64 B] 23)).heap[w.heap.size]? = some (.cells #[.int .i64 A, .int .i64 B] 23)) := Lib.hid (blk_new w _)
  replace NN : Hid (Below w.heap.size w (w.alloc (.cells #[.int .i64 A, .int .i64 B] 23))) := Lib.hid (Bal NN.out _)
  generalize (w.alloc (.cells #[.int .i64 A, .int .i64 B] 23)) = W1 at *
  refine (CC.out _ NN.out).mono ?_
  rintro e w2 ⟨rfl, hb⟩
  replace NN := Lib.hid (Bgo NN.out hb)
  replace G := Lib.hid (blk_next hb G.out)
  clear hb
  by_cases he : pe ≠ 0
  · have q1 : (pe != 0) = true := by simpa using he
    have HE := Lib.hid he
    clear he CA
    have c_G_0 := blk_cell G.out 0 _ rfl
    have f_G_0 := blk_frozen G.out 0
    have c_G_1 := blk_cell G.out 1 _ rfl
    have f_G_1 := blk_frozen G.out 1
    have l_G := blk_lt G.out
    go_wp2_with fail
    clear c_G_0 f_G_0 c_G_1 f_G_1 l_G
    refine (CC.out _ NN.out).mono ?_
    rintro e w3 ⟨rfl, hb⟩
    replace NN := Lib.hid (Bgo NN.out hb)
    replace G := Lib.hid (blk_next hb G.out)
    clear hb
    go_wp2_with fail
    refine bodyPost_ret (v := .tuple #[.slice none 0 0, .int .i64 pe]) (by simp [results, Try.results6, go_sem]) rfl ⟨_, rfl, NN.out, fun _ => rfl, fun h => absurd h HE.out⟩
  have he0 : pe = 0 := by omega
  have HE := Lib.hid he0
  have q1 : (pe != 0) = false := by simpa using he0
  clear he he0 CC
  have c_G_0 := blk_cell G.out 0 _ rfl
  have f_G_0 := blk_frozen G.out 0
  have c_G_1 := blk_cell G.out 1 _ rfl
  have f_G_1 := blk_frozen G.out 1
  have l_G := blk_lt G.out
  go_wp2_with fail
  clear c_G_0 f_G_0 c_G_1 f_G_1 l_G
  have WB := Lib.hid NN.out.size
  refine (CA.out HE.out _ NN.out).mono ?_
  rintro e w4 ⟨v, rfl, ov, hb⟩
  replace NN := Lib.hid (Bgo NN.out hb)
  replace G := Lib.hid (blk_next hb G.out)
  clear hb
  have OV := Lib.hid ov
  clear ov
  go_wp2_with fail
  refine bodyPost_ret (v := .tuple #[v, .int .i64 0]) (by simp [results, Try.results6, go_sem]) rfl ⟨_, by rw [HE.out], NN.out, fun h => absurd HE.out h, fun _ => own_mono OV.out WB.out⟩
set_option maxRecDepth 100000 in
set_option maxHeartbeats 8000000 in
theorem rline_calls (i j : Int) {A B : Int} {a : Option Addr} {c : Nat} {l : List St} {w : World} (hl : RSt w a l) (hc : l.length ≤ c) (hc' : c ≤ 9223372036854775807) (hn : ∀ x ∈ l, x.nm.size ≤ 9223372036854775807) : Calls Try.prog 8 #[Gv A B, .slice a l.length c, .int .i64 i, .int .i64 j] w fun e w' => e = .returned (.tuple #[Vv (liV A B l i j), .int .i64 (liE A B l i j)]) ∧ Below w.heap.size w w' := by
  have NN := Lib.hid (Below.refl w.heap.size w)
  have PC := Lib.hid (fun (W : World) (hb : Below w.heap.size w W) => rplaces_calls (A := A) (B := B) (w := W) (hl.next hb) hc hc' hn)
  have LE0 : Hid (liE A B l i j = if plE A B l ≠ 0 then plE A B l else if inB i l.length && inB j l.length then 0 else 2) := Lib.hid rfl
  have LV0 : Hid (liV A B l i j = if liE A B l i j = 0 then (match l[i.toNat]?, l[j.toNat]? with | some s, some t => subV (plV A B t) (plV A B s) | _, _ => zV) else zV) := Lib.hid rfl
  have LO := Lib.hid (fun (h : plE A B l = 0) (s t : St) (hs : s ∈ l) (ht : t ∈ l) => line_ok h hs ht)
  generalize liV A B l i j = lv at *
  generalize liE A B l i j = le at *
  obtain ⟨pe, hpe⟩ : ∃ pe, plE A B l = pe := ⟨_, rfl⟩
  simp only [hpe] at PC LE0 LO
  clear hl hn hpe
  go_enter Try.func8, Try.ntmps8
  go_wp2_with fail
  have G : Hid (((w.alloc (.cells #[.int .i64 A, .int .i64 B] 23)).alloc (.cells #[.int .i64 0, .int .i64 0, .int .i64 0, .int .i64 0, .int .i64 0, .int .i64 0] 36)).heap[w.heap.size]? = some (.cells #[.int .i64 A, .int .i64 B] 23)) := Lib.hid (blk_alloc (blk_new w _) _)
  have R : Hid (((w.alloc (.cells #[.int .i64 A, .int .i64 B] 23)).alloc (.cells #[.int .i64 0, .int .i64 0, .int .i64 0, .int .i64 0, .int .i64 0, .int .i64 0] 36)).heap[w.heap.size + 1]? = some (.cells #[.int .i64 0, .int .i64 0, .int .i64 0, .int .i64 0, .int .i64 0, .int .i64 0] 36)) := Lib.hid (blk_at _ (by simp))
  replace NN : Hid (Below w.heap.size w ((w.alloc (.cells #[.int .i64 A, .int .i64 B] 23)).alloc (.cells #[.int .i64 0, .int .i64 0, .int .i64 0, .int .i64 0, .int .i64 0, .int .i64 0] 36))) := Lib.hid (Bal (Bal NN.out _) _)
  generalize ((w.alloc (.cells #[.int .i64 A, .int .i64 B] 23)).alloc (.cells #[.int .i64 0, .int .i64 0, .int .i64 0, .int .i64 0, .int .i64 0, .int .i64 0] 36)) = W1 at *
  have LW := Lib.hid (blk_lt R.out)
  refine (PC.out _ NN.out).mono ?_
  rintro e w2 ⟨v, rfl, hb, hv0, hv1⟩
  replace NN := Lib.hid (Bgo NN.out hb)
  replace G := Lib.hid (blk_next hb G.out)
  replace R := Lib.hid (blk_next hb R.out)
  clear hb
  have V0 := Lib.hid hv0
  have V1 := Lib.hid hv1
  clear hv0 hv1 PC
  by_cases he : pe ≠ 0
  · have q1 : (pe != 0) = true := by simpa using he
    have HL : Hid (le = pe) := Lib.hid (by rw [LE0.out, if_pos he])
    have HV : Hid (lv = zV) := Lib.hid (by rw [LV0.out, HL.out, if_neg he])
    clear he LE0 LV0 LO V0 V1
    have c_R_0 := blk_cell R.out 0 _ rfl
    have f_R_0 := blk_frozen R.out 0
    have c_R_1 := blk_cell R.out 1 _ rfl
    have f_R_1 := blk_frozen R.out 1
    have c_R_2 := blk_cell R.out 2 _ rfl
    have f_R_2 := blk_frozen R.out 2
    have c_R_3 := blk_cell R.out 3 _ rfl
    have f_R_3 := blk_frozen R.out 3
    have c_R_4 := blk_cell R.out 4 _ rfl
    have f_R_4 := blk_frozen R.out 4
    have c_R_5 := blk_cell R.out 5 _ rfl
    have f_R_5 := blk_frozen R.out 5
    have l_R := blk_lt R.out
    go_wp2_with fail
    clear c_R_0 f_R_0 c_R_1 f_R_1 c_R_2 f_R_2 c_R_3 f_R_3 c_R_4 f_R_4 c_R_5 f_R_5 l_R
    replace G : Hid (((((((w2.setCell ⟨w.heap.size + 1, 0, none⟩ (.int .i64 0)).setCell ⟨w.heap.size + 1, 1, none⟩ (.int .i64 0)).setCell ⟨w.heap.size + 1, 2, none⟩ (.int .i64 0)).setCell ⟨w.heap.size + 1, 3, none⟩ (.int .i64 0)).setCell ⟨w.heap.size + 1, 4, none⟩ (.int .i64 0)).setCell ⟨w.heap.size + 1, 5, none⟩ (.int .i64 0)).heap[w.heap.size]? = some (.cells #[.int .i64 A, .int .i64 B] 23)) := Lib.hid (blk_set_other (b' := w.heap.size + 1) (blk_set_other (b' := w.heap.size + 1) (blk_set_other (b' := w.heap.size + 1) (blk_set_other (b' := w.heap.size + 1) (blk_set_other (b' := w.heap.size + 1) (blk_set_other (b' := w.heap.size + 1) (G.out) (by omega) 0 (.int .i64 0)) (by omega) 1 (.int .i64 0)) (by omega) 2 (.int .i64 0)) (by omega) 3 (.int .i64 0)) (by omega) 4 (.int .i64 0)) (by omega) 5 (.int .i64 0))
    replace R : Hid (((((((w2.setCell ⟨w.heap.size + 1, 0, none⟩ (.int .i64 0)).setCell ⟨w.heap.size + 1, 1, none⟩ (.int .i64 0)).setCell ⟨w.heap.size + 1, 2, none⟩ (.int .i64 0)).setCell ⟨w.heap.size + 1, 3, none⟩ (.int .i64 0)).setCell ⟨w.heap.size + 1, 4, none⟩ (.int .i64 0)).setCell ⟨w.heap.size + 1, 5, none⟩ (.int .i64 0)).heap[w.heap.size + 1]? = some (.cells #[.int .i64 0, .int .i64 0, .int .i64 0, .int .i64 0, .int .i64 0, .int .i64 0] 36)) := Lib.hid (blk_set (blk_set (blk_set (blk_set (blk_set (blk_set (R.out) 0 (.int .i64 0)) 1 (.int .i64 0)) 2 (.int .i64 0)) 3 (.int .i64 0)) 4 (.int .i64 0)) 5 (.int .i64 0))
    replace NN := Lib.hid (Bset1 (Bset1 (Bset1 (Bset1 (Bset1 (Bset1 (NN.out) (show w.heap.size ≤ w.heap.size + 1 by omega) 0 (.int .i64 0)) (show w.heap.size ≤ w.heap.size + 1 by omega) 1 (.int .i64 0)) (show w.heap.size ≤ w.heap.size + 1 by omega) 2 (.int .i64 0)) (show w.heap.size ≤ w.heap.size + 1 by omega) 3 (.int .i64 0)) (show w.heap.size ≤ w.heap.size + 1 by omega) 4 (.int .i64 0)) (show w.heap.size ≤ w.heap.size + 1 by omega) 5 (.int .i64 0))
    generalize ((((((w2.setCell ⟨w.heap.size + 1, 0, none⟩ (.int .i64 0)).setCell ⟨w.heap.size + 1, 1, none⟩ (.int .i64 0)).setCell ⟨w.heap.size + 1, 2, none⟩ (.int .i64 0)).setCell ⟨w.heap.size + 1, 3, none⟩ (.int .i64 0)).setCell ⟨w.heap.size + 1, 4, none⟩ (.int .i64 0)).setCell ⟨w.heap.size + 1, 5, none⟩ (.int .i64 0)) = W3 at *
    have c_R_0 := blk_cell R.out 0 _ rfl
    have f_R_0 := blk_frozen R.out 0
    have c_R_1 := blk_cell R.out 1 _ rfl
    have f_R_1 := blk_frozen R.out 1
    have c_R_2 := blk_cell R.out 2 _ rfl
    have f_R_2 := blk_frozen R.out 2
    have c_R_3 := blk_cell R.out 3 _ rfl
    have f_R_3 := blk_frozen R.out 3
    have c_R_4 := blk_cell R.out 4 _ rfl
    have f_R_4 := blk_frozen R.out 4
    have c_R_5 := blk_cell R.out 5 _ rfl
    have f_R_5 := blk_frozen R.out 5
    have l_R := blk_lt R.out
    go_wp2_with fail
    exact bodyPost_ret (v := .tuple #[Vv zV, .int .i64 pe]) (by simp [results, Try.results8, go_sem, c_R_0, c_R_1, c_R_2, c_R_3, c_R_4, c_R_5, zV]) rfl ⟨by rw [HV.out, HL.out], NN.out⟩
  have he0 : pe = 0 := by omega
  subst he0
  clear he
  have OV := Lib.hid (V1.out rfl)
  clear V0 V1
  rw [if_neg (by simp)] at LE0
  have hc4 : i < 0 ∨ (0 ≤ i ∧ j < 0) ∨ (0 ≤ i ∧ 0 ≤ j ∧ (l.length : Int) ≤ i) ∨ (0 ≤ i ∧ 0 ≤ j ∧ i < l.length ∧ (l.length : Int) ≤ j) ∨ (0 ≤ i ∧ 0 ≤ j ∧ i < l.length ∧ j < l.length) := by omega
  rcases hc4 with h | ⟨h, h2⟩ | ⟨h, h2, h1⟩ | ⟨h, h2, h1, h3⟩ | ⟨h, h2, h1, h3⟩
  · have HB0 : (inB i l.length && inB j l.length) = false := by unfold inB; rw [decide_eq_false (by omega : ¬ 0 ≤ i)]; rfl
    have HL : Hid (le = 2) := Lib.hid (by rw [LE0.out, HB0]; rfl)
    have HV : Hid (lv = zV) := Lib.hid (by rw [LV0.out, HL.out, if_neg (by decide)])
    have d0 : decide (i < 0) = true := decide_eq_true (by omega)
    clear HB0 LE0 LV0 LO OV
    have c_R_0 := blk_cell R.out 0 _ rfl
    have f_R_0 := blk_frozen R.out 0
    have c_R_1 := blk_cell R.out 1 _ rfl
    have f_R_1 := blk_frozen R.out 1
    have c_R_2 := blk_cell R.out 2 _ rfl
    have f_R_2 := blk_frozen R.out 2
    have c_R_3 := blk_cell R.out 3 _ rfl
    have f_R_3 := blk_frozen R.out 3
    have c_R_4 := blk_cell R.out 4 _ rfl
    have f_R_4 := blk_frozen R.out 4
    have c_R_5 := blk_cell R.out 5 _ rfl
    have f_R_5 := blk_frozen R.out 5
    have l_R := blk_lt R.out
    go_wp2_with fail
    clear c_R_0 f_R_0 c_R_1 f_R_1 c_R_2 f_R_2 c_R_3 f_R_3 c_R_4 f_R_4 c_R_5 f_R_5 l_R
    replace G : Hid (((((((w2.setCell ⟨w.heap.size + 1, 0, none⟩ (.int .i64 0)).setCell ⟨w.heap.size + 1, 1, none⟩ (.int .i64 0)).setCell ⟨w.heap.size + 1, 2, none⟩ (.int .i64 0)).setCell ⟨w.heap.size + 1, 3, none⟩ (.int .i64 0)).setCell ⟨w.heap.size + 1, 4, none⟩ (.int .i64 0)).setCell ⟨w.heap.size + 1, 5, none⟩ (.int .i64 0)).heap[w.heap.size]? = some (.cells #[.int .i64 A, .int .i64 B] 23)) := Lib.hid (blk_set_other (b' := w.heap.size + 1) (blk_set_other (b' := w.heap.size + 1) (blk_set_other (b' := w.heap.size + 1) (blk_set_other (b' := w.heap.size + 1) (blk_set_other (b' := w.heap.size + 1) (blk_set_other (b' := w.heap.size + 1) (G.out) (by omega) 0 (.int .i64 0)) (by omega) 1 (.int .i64 0)) (by omega) 2 (.int .i64 0)) (by omega) 3 (.int .i64 0)) (by omega) 4 (.int .i64 0)) (by omega) 5 (.int .i64 0))
    replace R : Hid (((((((w2.setCell ⟨w.heap.size + 1, 0, none⟩ (.int .i64 0)).setCell ⟨w.heap.size + 1, 1, none⟩ (.int .i64 0)).setCell ⟨w.heap.size + 1, 2, none⟩ (.int .i64 0)).setCell ⟨w.heap.size + 1, 3, none⟩ (.int .i64 0)).setCell ⟨w.heap.size + 1, 4, none⟩ (.int .i64 0)).setCell ⟨w.heap.size + 1, 5, none⟩ (.int .i64 0)).heap[w.heap.size + 1]? = some (.cells #[.int .i64 0, .int .i64 0, .int .i64 0, .int .i64 0, .int .i64 0, .int .i64 0] 36)) := Lib.hid (blk_set (blk_set (blk_set (blk_set (blk_set (blk_set (R.out) 0 (.int .i64 0)) 1 (.int .i64 0)) 2 (.int .i64 0)) 3 (.int .i64 0)) 4 (.int .i64 0)) 5 (.int .i64 0))
    replace NN := Lib.hid (Bset1 (Bset1 (Bset1 (Bset1 (Bset1 (Bset1 (NN.out) (show w.heap.size ≤ w.heap.size + 1 by omega) 0 (.int .i64 0)) (show w.heap.size ≤ w.heap.size + 1 by omega) 1 (.int .i64 0)) (show w.heap.size ≤ w.heap.size + 1 by omega) 2 (.int .i64 0)) (show w.heap.size ≤ w.heap.size + 1 by omega) 3 (.int .i64 0)) (show w.heap.size ≤ w.heap.size + 1 by omega) 4 (.int .i64 0)) (show w.heap.size ≤ w.heap.size + 1 by omega) 5 (.int .i64 0))
    generalize ((((((w2.setCell ⟨w.heap.size + 1, 0, none⟩ (.int .i64 0)).setCell ⟨w.heap.size + 1, 1, none⟩ (.int .i64 0)).setCell ⟨w.heap.size + 1, 2, none⟩ (.int .i64 0)).setCell ⟨w.heap.size + 1, 3, none⟩ (.int .i64 0)).setCell ⟨w.heap.size + 1, 4, none⟩ (.int .i64 0)).setCell ⟨w.heap.size + 1, 5, none⟩ (.int .i64 0)) = W4 at *
    have c_R_0 := blk_cell R.out 0 _ rfl
    have f_R_0 := blk_frozen R.out 0
    have c_R_1 := blk_cell R.out 1 _ rfl
    have f_R_1 := blk_frozen R.out 1
    have c_R_2 := blk_cell R.out 2 _ rfl
    have f_R_2 := blk_frozen R.out 2
    have c_R_3 := blk_cell R.out 3 _ rfl
    have f_R_3 := blk_frozen R.out 3
    have c_R_4 := blk_cell R.out 4 _ rfl
    have f_R_4 := blk_frozen R.out 4
    have c_R_5 := blk_cell R.out 5 _ rfl
    have f_R_5 := blk_frozen R.out 5
    have l_R := blk_lt R.out
    go_wp2_with fail
    exact bodyPost_ret (v := .tuple #[Vv zV, .int .i64 2]) (by simp [results, Try.results8, go_sem, c_R_0, c_R_1, c_R_2, c_R_3, c_R_4, c_R_5, zV]) rfl ⟨by rw [HV.out, HL.out], NN.out⟩
  · have HB0 : (inB i l.length && inB j l.length) = false := by unfold inB; rw [decide_eq_false (by omega : ¬ 0 ≤ j)]; simp
    have HL : Hid (le = 2) := Lib.hid (by rw [LE0.out, HB0]; rfl)
    have HV : Hid (lv = zV) := Lib.hid (by rw [LV0.out, HL.out, if_neg (by decide)])
    have d0 : decide (i < 0) = false := decide_eq_false (by omega)
    have d1 : decide (j < 0) = true := decide_eq_true (by omega)
    clear HB0 LE0 LV0 LO OV
    have c_R_0 := blk_cell R.out 0 _ rfl
    have f_R_0 := blk_frozen R.out 0
    have c_R_1 := blk_cell R.out 1 _ rfl
    have f_R_1 := blk_frozen R.out 1
    have c_R_2 := blk_cell R.out 2 _ rfl
    have f_R_2 := blk_frozen R.out 2
    have c_R_3 := blk_cell R.out 3 _ rfl
    have f_R_3 := blk_frozen R.out 3
    have c_R_4 := blk_cell R.out 4 _ rfl
    have f_R_4 := blk_frozen R.out 4
    have c_R_5 := blk_cell R.out 5 _ rfl
    have f_R_5 := blk_frozen R.out 5
    have l_R := blk_lt R.out
    go_wp2_with fail
    clear c_R_0 f_R_0 c_R_1 f_R_1 c_R_2 f_R_2 c_R_3 f_R_3 c_R_4 f_R_4 c_R_5 f_R_5 l_R
    replace G : Hid (((((((w2.setCell ⟨w.heap.size + 1, 0, none⟩ (.int .i64 0)).setCell ⟨w.heap.size + 1, 1, none⟩ (.int .i64 0)).setCell ⟨w.heap.size + 1, 2, none⟩ (.int .i64 0)).setCell ⟨w.heap.size + 1, 3, none⟩ (.int .i64 0)).setCell ⟨w.heap.size + 1, 4, none⟩ (.int .i64 0)).setCell ⟨w.heap.size + 1, 5, none⟩ (.int .i64 0)).heap[w.heap.size]? = some (.cells #[.int .i64 A, .int .i64 B] 23)) := Lib.hid (blk_set_other (b' := w.heap.size + 1) (blk_set_other (b' := w.heap.size + 1) (blk_set_other (b' := w.heap.size + 1) (blk_set_other (b' := w.heap.size + 1) (blk_set_other (b' := w.heap.size + 1) (blk_set_other (b' := w.heap.size + 1) (G.out) (by omega) 0 (.int .i64 0)) (by omega) 1 (.int .i64 0)) (by omega) 2 (.int .i64 0)) (by omega) 3 (.int .i64 0)) (by omega) 4 (.int .i64 0)) (by omega) 5 (.int .i64 0))
    replace R : Hid (((((((w2.setCell ⟨w.heap.size + 1, 0, none⟩ (.int .i64 0)).setCell ⟨w.heap.size + 1, 1, none⟩ (.int .i64 0)).setCell ⟨w.heap.size + 1, 2, none⟩ (.int .i64 0)).setCell ⟨w.heap.size + 1, 3, none⟩ (.int .i64 0)).setCell ⟨w.heap.size + 1, 4, none⟩ (.int .i64 0)).setCell ⟨w.heap.size + 1, 5, none⟩ (.int .i64 0)).heap[w.heap.size + 1]? = some (.cells #[.int .i64 0, .int .i64 0, .int .i64 0, .int .i64 0, .int .i64 0, .int .i64 0] 36)) := Lib.hid (blk_set (blk_set (blk_set (blk_set (blk_set (blk_set (R.out) 0 (.int .i64 0)) 1 (.int .i64 0)) 2 (.int .i64 0)) 3 (.int .i64 0)) 4 (.int .i64 0)) 5 (.int .i64 0))
    replace NN := Lib.hid (Bset1 (Bset1 (Bset1 (Bset1 (Bset1 (Bset1 (NN.out) (show w.heap.size ≤ w.heap.size + 1 by omega) 0 (.int .i64 0)) (show w.heap.size ≤ w.heap.size + 1 by omega) 1 (.int .i64 0)) (show w.heap.size ≤ w.heap.size + 1 by omega) 2 (.int .i64 0)) (show w.heap.size ≤ w.heap.size + 1 by omega) 3 (.int .i64 0)) (show w.heap.size ≤ w.heap.size + 1 by omega) 4 (.int .i64 0)) (show w.heap.size ≤ w.heap.size + 1 by omega) 5 (.int .i64 0))
    generalize ((((((w2.setCell ⟨w.heap.size + 1, 0, none⟩ (.int .i64 0)).setCell ⟨w.heap.size + 1, 1, none⟩ (.int .i64 0)).setCell ⟨w.heap.size + 1, 2, none⟩ (.int .i64 0)).setCell ⟨w.heap.size + 1, 3, none⟩ (.int .i64 0)).setCell ⟨w.heap.size + 1, 4, none⟩ (.int .i64 0)).setCell ⟨w.heap.size + 1, 5, none⟩ (.int .i64 0)) = W5 at *
    have c_R_0 := blk_cell R.out 0 _ rfl
    have f_R_0 := blk_frozen R.out 0
    have c_R_1 := blk_cell R.out 1 _ rfl
    have f_R_1 := blk_frozen R.out 1
    have c_R_2 := blk_cell R.out 2 _ rfl
    have f_R_2 := blk_frozen R.out 2
    have c_R_3 := blk_cell R.out 3 _ rfl
    have f_R_3 := blk_frozen R.out 3
    have c_R_4 := blk_cell R.out 4 _ rfl
    have f_R_4 := blk_frozen R.out 4
    have c_R_5 := blk_cell R.out 5 _ rfl
    have f_R_5 := blk_frozen R.out 5
    have l_R := blk_lt R.out
    go_wp2_with fail
    exact bodyPost_ret (v := .tuple #[Vv zV, .int .i64 2]) (by simp [results, Try.results8, go_sem, c_R_0, c_R_1, c_R_2, c_R_3, c_R_4, c_R_5, zV]) rfl ⟨by rw [HV.out, HL.out], NN.out⟩
  · have HB0 : (inB i l.length && inB j l.length) = false := by unfold inB; rw [decide_eq_false (by omega : ¬ i < (l.length : Int))]; simp
    have HL : Hid (le = 2) := Lib.hid (by rw [LE0.out, HB0]; rfl)
    have HV : Hid (lv = zV) := Lib.hid (by rw [LV0.out, HL.out, if_neg (by decide)])
    have d0 : decide (i < 0) = false := decide_eq_false (by omega)
    have d1 : decide (j < 0) = false := decide_eq_false (by omega)
    have d2 : decide ((l.length : Int) ≤ i) = true := decide_eq_true (by omega)
    clear HB0 LE0 LV0 LO OV
    have c_R_0 := blk_cell R.out 0 _ rfl
    have f_R_0 := blk_frozen R.out 0
    have c_R_1 := blk_cell R.out 1 _ rfl
    have f_R_1 := blk_frozen R.out 1
    have c_R_2 := blk_cell R.out 2 _ rfl
    have f_R_2 := blk_frozen R.out 2
    have c_R_3 := blk_cell R.out 3 _ rfl
    have f_R_3 := blk_frozen R.out 3
    have c_R_4 := blk_cell R.out 4 _ rfl
    have f_R_4 := blk_frozen R.out 4
    have c_R_5 := blk_cell R.out 5 _ rfl
    have f_R_5 := blk_frozen R.out 5
    have l_R := blk_lt R.out
    go_wp2_with fail
    clear c_R_0 f_R_0 c_R_1 f_R_1 c_R_2 f_R_2 c_R_3 f_R_3 c_R_4 f_R_4 c_R_5 f_R_5 l_R
    replace G : Hid (((((((w2.setCell ⟨w.heap.size + 1, 0, none⟩ (.int .i64 0)).setCell ⟨w.heap.size + 1, 1, none⟩ (.int .i64 0)).setCell ⟨w.heap.size + 1, 2, none⟩ (.int .i64 0)).setCell ⟨w.heap.size + 1, 3, none⟩ (.int .i64 0)).setCell ⟨w.heap.size + 1, 4, none⟩ (.int .i64 0)).setCell ⟨w.heap.size + 1, 5, none⟩ (.int .i64 0)).heap[w.heap.size]? = some (.cells #[.int .i64 A, .int .i64 B] 23)) := Lib.hid (blk_set_other (b' := w.heap.size + 1) (blk_set_other (b' := w.heap.size + 1) (blk_set_other (b' := w.heap.size + 1) (blk_set_other (b' := w.heap.size + 1) (blk_set_other (b' := w.heap.size + 1) (blk_set_other (b' := w.heap.size + 1) (G.out) (by omega) 0 (.int .i64 0)) (by omega) 1 (.int .i64 0)) (by omega) 2 (.int .i64 0)) (by omega) 3 (.int .i64 0)) (by omega) 4 (.int .i64 0)) (by omega) 5 (.int .i64 0))
    replace R : Hid (((((((w2.setCell ⟨w.heap.size + 1, 0, none⟩ (.int .i64 0)).setCell ⟨w.heap.size + 1, 1, none⟩ (.int .i64 0)).setCell ⟨w.heap.size + 1, 2, none⟩ (.int .i64 0)).setCell ⟨w.heap.size + 1, 3, none⟩ (.int .i64 0)).setCell ⟨w.heap.size + 1, 4, none⟩ (.int .i64 0)).setCell ⟨w.heap.size + 1, 5, none⟩ (.int .i64 0)).heap[w.heap.size + 1]? = some (.cells #[.int .i64 0, .int .i64 0, .int .i64 0, .int .i64 0, .int .i64 0, .int .i64 0] 36)) := Lib.hid (blk_set (blk_set (blk_set (blk_set (blk_set (blk_set (R.out) 0 (.int .i64 0)) 1 (.int .i64 0)) 2 (.int .i64 0)) 3 (.int .i64 0)) 4 (.int .i64 0)) 5 (.int .i64 0))
    replace NN := Lib.hid (Bset1 (Bset1 (Bset1 (Bset1 (Bset1 (Bset1 (NN.out) (show w.heap.size ≤ w.heap.size + 1 by omega) 0 (.int .i64 0)) (show w.heap.size ≤ w.heap.size + 1 by omega) 1 (.int .i64 0)) (show w.heap.size ≤ w.heap.size + 1 by omega) 2 (.int .i64 0)) (show w.heap.size ≤ w.heap.size + 1 by omega) 3 (.int .i64 0)) (show w.heap.size ≤ w.heap.size + 1 by omega) 4 (.int .i64 0)) (show w.heap.size ≤ w.heap.size + 1 by omega) 5 (.int .i64 0))
    generalize ((((((w2.setCell ⟨w.heap.size + 1, 0, none⟩ (.int .i64 0)).setCell ⟨w.heap.size + 1, 1, none⟩ (.int .i64 0)).setCell ⟨w.heap.size + 1, 2, none⟩ (.int .i64 0)).setCell ⟨w.heap.size + 1, 3, none⟩ (.int .i64 0)).setCell ⟨w.heap.size + 1, 4, none⟩ (.int .i64 0)).setCell ⟨w.heap.size + 1, 5, none⟩ (.int .i64 0)) = W6 at *
    have c_R_0 := blk_cell R.out 0 _ rfl
    have f_R_0 := blk_frozen R.out 0
    have c_R_1 := blk_cell R.out 1 _ rfl
    have f_R_1 := blk_frozen R.out 1
    have c_R_2 := blk_cell R.out 2 _ rfl
    have f_R_2 := blk_frozen R.out 2
    have c_R_3 := blk_cell R.out 3 _ rfl
    have f_R_3 := blk_frozen R.out 3
    have c_R_4 := blk_cell R.out 4 _ rfl
    have f_R_4 := blk_frozen R.out 4
    have c_R_5 := blk_cell R.out 5 _ rfl
    have f_R_5 := blk_frozen R.out 5
    have l_R := blk_lt R.out
    go_wp2_with fail
    exact bodyPost_ret (v := .tuple #[Vv zV, .int .i64 2]) (by simp [results, Try.results8, go_sem, c_R_0, c_R_1, c_R_2, c_R_3, c_R_4, c_R_5, zV]) rfl ⟨by rw [HV.out, HL.out], NN.out⟩
  · have HB0 : (inB i l.length && inB j l.length) = false := by unfold inB; rw [decide_eq_false (by omega : ¬ j < (l.length : Int))]; simp
    have HL : Hid (le = 2) := Lib.hid (by rw [LE0.out, HB0]; rfl)
    have HV : Hid (lv = zV) := Lib.hid (by rw [LV0.out, HL.out, if_neg (by decide)])
    have d0 : decide (i < 0) = false := decide_eq_false (by omega)
    have d1 : decide (j < 0) = false := decide_eq_false (by omega)
    have d2 : decide ((l.length : Int) ≤ i) = false := decide_eq_false (by omega)
    have d3 : decide ((l.length : Int) ≤ j) = true := decide_eq_true (by omega)
    clear HB0 LE0 LV0 LO OV
    have c_R_0 := blk_cell R.out 0 _ rfl
    have f_R_0 := blk_frozen R.out 0
    have c_R_1 := blk_cell R.out 1 _ rfl
    have f_R_1 := blk_frozen R.out 1
    have c_R_2 := blk_cell R.out 2 _ rfl
    have f_R_2 := blk_frozen R.out 2
    have c_R_3 := blk_cell R.out 3 _ rfl
    have f_R_3 := blk_frozen R.out 3
    have c_R_4 := blk_cell R.out 4 _ rfl
    have f_R_4 := blk_frozen R.out 4
    have c_R_5 := blk_cell R.out 5 _ rfl
    have f_R_5 := blk_frozen R.out 5
    have l_R := blk_lt R.out
    go_wp2_with fail
    clear c_R_0 f_R_0 c_R_1 f_R_1 c_R_2 f_R_2 c_R_3 f_R_3 c_R_4 f_R_4 c_R_5 f_R_5 l_R
    replace G : Hid (((((((w2.setCell ⟨w.heap.size + 1, 0, none⟩ (.int .i64 0)).setCell ⟨w.heap.size + 1, 1, none⟩ (.int .i64 0)).setCell ⟨w.heap.size + 1, 2, none⟩ (.int .i64 0)).setCell ⟨w.heap.size + 1, 3, none⟩ (.int .i64 0)).setCell ⟨w.heap.size + 1, 4, none⟩ (.int .i64 0)).setCell ⟨w.heap.size + 1, 5, none⟩ (.int .i64 0)).heap[w.heap.size]? = some (.cells #[.int .i64 A, .int .i64 B] 23)) := Lib.hid (blk_set_other (b' := w.heap.size + 1) (blk_set_other (b' := w.heap.size + 1) (blk_set_other (b' := w.heap.size + 1) (blk_set_other (b' := w.heap.size + 1) (blk_set_other (b' := w.heap.size + 1) (blk_set_other (b' := w.heap.size + 1) (G.out) (by omega) 0 (.int .i64 0)) (by omega) 1 (.int .i64 0)) (by omega) 2 (.int .i64 0)) (by omega) 3 (.int .i64 0)) (by omega) 4 (.int .i64 0)) (by omega) 5 (.int .i64 0))
    replace R : Hid (((((((w2.setCell ⟨w.heap.size + 1, 0, none⟩ (.int .i64 0)).setCell ⟨w.heap.size + 1, 1, none⟩ (.int .i64 0)).setCell ⟨w.heap.size + 1, 2, none⟩ (.int .i64 0)).setCell ⟨w.heap.size + 1, 3, none⟩ (.int .i64 0)).setCell ⟨w.heap.size + 1, 4, none⟩ (.int .i64 0)).setCell ⟨w.heap.size + 1, 5, none⟩ (.int .i64 0)).heap[w.heap.size + 1]? = some (.cells #[.int .i64 0, .int .i64 0, .int .i64 0, .int .i64 0, .int .i64 0, .int .i64 0] 36)) := Lib.hid (blk_set (blk_set (blk_set (blk_set (blk_set (blk_set (R.out) 0 (.int .i64 0)) 1 (.int .i64 0)) 2 (.int .i64 0)) 3 (.int .i64 0)) 4 (.int .i64 0)) 5 (.int .i64 0))
    replace NN := Lib.hid (Bset1 (Bset1 (Bset1 (Bset1 (Bset1 (Bset1 (NN.out) (show w.heap.size ≤ w.heap.size + 1 by omega) 0 (.int .i64 0)) (show w.heap.size ≤ w.heap.size + 1 by omega) 1 (.int .i64 0)) (show w.heap.size ≤ w.heap.size + 1 by omega) 2 (.int .i64 0)) (show w.heap.size ≤ w.heap.size + 1 by omega) 3 (.int .i64 0)) (show w.heap.size ≤ w.heap.size + 1 by omega) 4 (.int .i64 0)) (show w.heap.size ≤ w.heap.size + 1 by omega) 5 (.int .i64 0))
    generalize ((((((w2.setCell ⟨w.heap.size + 1, 0, none⟩ (.int .i64 0)).setCell ⟨w.heap.size + 1, 1, none⟩ (.int .i64 0)).setCell ⟨w.heap.size + 1, 2, none⟩ (.int .i64 0)).setCell ⟨w.heap.size + 1, 3, none⟩ (.int .i64 0)).setCell ⟨w.heap.size + 1, 4, none⟩ (.int .i64 0)).setCell ⟨w.heap.size + 1, 5, none⟩ (.int .i64 0)) = W7 at *
    have c_R_0 := blk_cell R.out 0 _ rfl
    have f_R_0 := blk_frozen R.out 0
    have c_R_1 := blk_cell R.out 1 _ rfl
    have f_R_1 := blk_frozen R.out 1
    have c_R_2 := blk_cell R.out 2 _ rfl
    have f_R_2 := blk_frozen R.out 2
    have c_R_3 := blk_cell R.out 3 _ rfl
    have f_R_3 := blk_frozen R.out 3
    have c_R_4 := blk_cell R.out 4 _ rfl
    have f_R_4 := blk_frozen R.out 4
    have c_R_5 := blk_cell R.out 5 _ rfl
    have f_R_5 := blk_frozen R.out 5
    have l_R := blk_lt R.out
    go_wp2_with fail
    exact bodyPost_ret (v := .tuple #[Vv zV, .int .i64 2]) (by simp [results, Try.results8, go_sem, c_R_0, c_R_1, c_R_2, c_R_3, c_R_4, c_R_5, zV]) rfl ⟨by rw [HV.out, HL.out], NN.out⟩
  · have HL : Hid (le = 0) := Lib.hid (by rw [LE0.out, show (inB i l.length && inB j l.length) = true by unfold inB; rw [decide_eq_true h, decide_eq_true h1, decide_eq_true h2, decide_eq_true h3]; rfl]; rfl)
    obtain ⟨i', rfl⟩ := Int.eq_ofNat_of_zero_le h
    obtain ⟨j', rfl⟩ := Int.eq_ofNat_of_zero_le h2
    obtain ⟨s, hs⟩ := get_some (show i' < l.length by omega)
    obtain ⟨t, ht⟩ := get_some (show j' < l.length by omega)
    have HV : Hid (lv = subV (plV A B t) (plV A B s)) := Lib.hid (by rw [LV0.out, HL.out, if_pos rfl, Int.toNat_natCast, Int.toNat_natCast, hs, ht])
    have SK := Lib.hid (LO.out rfl s t (List.mem_of_getElem? hs) (List.mem_of_getElem? ht))
    have d0 : decide ((i' : Int) < 0) = false := decide_eq_false (by omega)
    have d1 : decide ((j' : Int) < 0) = false := decide_eq_false (by omega)
    have d2 : decide ((l.length : Int) ≤ (i' : Int)) = false := decide_eq_false (by omega)
    have d3 : decide ((l.length : Int) ≤ (j' : Int)) = false := decide_eq_false (by omega)
    have k1 : (0 : Int) ≤ (i' : Int) := h
    have k2 : (0 : Int) ≤ (j' : Int) := h2
    have kn1 : i' < l.length := by omega
    have kn2 : j' < l.length := by omega
    obtain ⟨A1, c1, hv1, hn1, hc1, hr1⟩ := Rd.of_own OV.out
    rw [List.length_map] at hv1 hn1 hr1
    subst hv1
    obtain ⟨b2, off2, e2, hb2, h5, h6⟩ := Rd.rec2 hr1 (by simp) v6_len (show (l.map (plV A B))[i']? = some (plV A B s) by rw [List.getElem?_map, hs]; rfl) (show (l.map (plV A B))[j']? = some (plV A B t) by rw [List.getElem?_map, ht]; rfl)
    subst e2
    obtain ⟨ob, hob⟩ : ∃ ob, w2.heap[b2]? = some ob := ⟨w2.heap[b2]'hb2, Array.getElem?_eq_getElem _⟩
    have LB2 : Hid (b2 ≠ w.heap.size + 1) := Lib.hid (fun e => by
      rcases OV.out.2 with ⟨h7, _⟩ | ⟨g7, _, _, h7, h8, _⟩
      · cases h7
      · injection h7 with h7; injection h7 with h7; injection h7 with h7 _; have := LW.out; omega)
    have RI : Hid (∀ X : World, X.heap[b2]? = some ob → ∀ j u, (v6 (plV A B s))[j]? = some u → X.cell? ⟨b2, off2 + i' * 6 + j, none⟩ = some u) := Lib.hid (fun X hX j u hu => (cell_same (hX.trans hob.symm) _).trans (h5 j u hu))
    have RJ : Hid (∀ X : World, X.heap[b2]? = some ob → ∀ j u, (v6 (plV A B t))[j]? = some u → X.cell? ⟨b2, off2 + j' * 6 + j, none⟩ = some u) := Lib.hid (fun X hX j u hu => (cell_same (hX.trans hob.symm) _).trans (h6 j u hu))
    have BX := Lib.hid hob
    have H1 := Lib.hid hn1
    clear LE0 LV0 LO hs ht h h2 h1 h3 h5 h6 hob hb2 hr1 OV hn1 hc1
    generalize plV A B s = sv at *
    generalize plV A B t = tv at *
    have CS := Lib.hid (fun W => rvsub_calls tv sv SK.out W)
    generalize subV tv sv = rv at *
    go_upto_region 6 with fail
    have LB3 := LB2.out
    have HDRW := Lib.hid (Below.drew (Below.refl w2.heap.size w2))
    replace NN := Lib.hid (Bgo NN.out HDRW.out)
    replace BX := Lib.hid (blk_next HDRW.out BX.out)
    replace G := Lib.hid (blk_next HDRW.out G.out)
    replace R := Lib.hid (blk_next HDRW.out R.out)
    clear HDRW
    have HAL : Hid (∀ kx9 : Nat, GK [(3, b2, ob), (7, b2, ob)] kx9 w2.drew) := Lib.hid (fun kx9 px9 hp e => by
      simp only [List.mem_cons, List.not_mem_nil, or_false] at hp
      rcases hp with rfl | rfl
      · exact BX.out
      · exact BX.out)
    refine region_G (S := GK [(3, b2, ob), (7, b2, ob)]) (by kernel_rfl) ?_
    refine take_G 0 (.slice (some ⟨b2, off2, none⟩) l.length c1) (some 41) (GK.grow _) (by kernel_rfl) rfl (by kernel_rfl) (by kernel_rfl) (by kernel_rfl) rfl (fun _ _ _ h => h) (YieldsIf.toG (Or.inl ⟨by rfl, ?_⟩)) (GK.drop (by simp)) ?_
    · intro X hX
      clear hX
      go_simp
    try simp only [Act.put, List.setIfInBounds_toArray, List.set_cons_zero, List.set_cons_succ]
    refine take_G 1 (.int .i64 (j' : Int)) (some 42) (GK.grow _) (by kernel_rfl) rfl (by kernel_rfl) (by kernel_rfl) (by kernel_rfl) rfl (fun _ _ _ h => h) (YieldsIf.toG (Or.inl ⟨by rfl, ?_⟩)) (GK.drop (by simp)) ?_
    · intro X hX
      clear hX
      go_simp
    try simp only [Act.put, List.setIfInBounds_toArray, List.set_cons_zero, List.set_cons_succ]
    refine take_G 2 (.pointer (some ⟨b2, off2 + j' * 6, none⟩)) (some 43) (GK.grow _) (by kernel_rfl) rfl (by kernel_rfl) (by kernel_rfl) (by kernel_rfl) rfl (fun _ _ _ h => h) (YieldsIf.toG (Or.inl ⟨by rfl, ?_⟩)) (GK.drop (by simp)) ?_
    · intro X hX
      clear hX
      go_simp
    try simp only [Act.put, List.setIfInBounds_toArray, List.set_cons_zero, List.set_cons_succ]
    refine take_G 3 (.agg #[.int .i64 tv.x1, .int .i64 tv.x2, .int .i64 tv.y1, .int .i64 tv.y2, .int .i64 tv.z1, .int .i64 tv.z2]) (some 44) (GK.grow _) (by kernel_rfl) rfl (by kernel_rfl) (by kernel_rfl) (by kernel_rfl) rfl (fun _ _ _ h => h) (YieldsIf.toG (Or.inl ⟨by rfl, ?_⟩)) (HAL.out 3) ?_
    · intro X hX
      have hh := hX (3, b2, ob) (List.Mem.head _) rfl
      have hh0 := RJ.out _ hh 0 _ rfl
      simp only [Nat.add_zero] at hh0
      have hh1 := RJ.out _ hh 1 _ rfl
      have hh2 := RJ.out _ hh 2 _ rfl
      have hh3 := RJ.out _ hh 3 _ rfl
      have hh4 := RJ.out _ hh 4 _ rfl
      have hh5 := RJ.out _ hh 5 _ rfl
      have hhl := blk_lt hh
      clear hh
      clear hX
      go_simp
    try simp only [Act.put, List.setIfInBounds_toArray, List.set_cons_zero, List.set_cons_succ]
    refine take_G 4 (.slice (some ⟨b2, off2, none⟩) l.length c1) (some 45) (GK.grow _) (by kernel_rfl) rfl (by kernel_rfl) (by kernel_rfl) (by kernel_rfl) rfl (fun _ _ _ h => h) (YieldsIf.toG (Or.inl ⟨by rfl, ?_⟩)) (GK.drop (by simp)) ?_
    · intro X hX
      clear hX
      go_simp
    try simp only [Act.put, List.setIfInBounds_toArray, List.set_cons_zero, List.set_cons_succ]
    refine take_G 5 (.int .i64 (i' : Int)) (some 46) (GK.grow _) (by kernel_rfl) rfl (by kernel_rfl) (by kernel_rfl) (by kernel_rfl) rfl (fun _ _ _ h => h) (YieldsIf.toG (Or.inl ⟨by rfl, ?_⟩)) (GK.drop (by simp)) ?_
    · intro X hX
      clear hX
      go_simp
    try simp only [Act.put, List.setIfInBounds_toArray, List.set_cons_zero, List.set_cons_succ]
    refine take_G 6 (.pointer (some ⟨b2, off2 + i' * 6, none⟩)) (some 47) (GK.grow _) (by kernel_rfl) rfl (by kernel_rfl) (by kernel_rfl) (by kernel_rfl) rfl (fun _ _ _ h => h) (YieldsIf.toG (Or.inl ⟨by rfl, ?_⟩)) (GK.drop (by simp)) ?_
    · intro X hX
      clear hX
      go_simp
    try simp only [Act.put, List.setIfInBounds_toArray, List.set_cons_zero, List.set_cons_succ]
    refine take_G 7 (.agg #[.int .i64 sv.x1, .int .i64 sv.x2, .int .i64 sv.y1, .int .i64 sv.y2, .int .i64 sv.z1, .int .i64 sv.z2]) (some 48) (GK.grow _) (by kernel_rfl) rfl (by kernel_rfl) (by kernel_rfl) (by kernel_rfl) rfl (fun _ _ _ h => h) (YieldsIf.toG (Or.inl ⟨by rfl, ?_⟩)) (HAL.out 7) ?_
    · intro X hX
      have hh := hX (7, b2, ob) (List.Mem.tail _ (List.Mem.head _)) rfl
      have hh0 := RI.out _ hh 0 _ rfl
      simp only [Nat.add_zero] at hh0
      have hh1 := RI.out _ hh 1 _ rfl
      have hh2 := RI.out _ hh 2 _ rfl
      have hh3 := RI.out _ hh 3 _ rfl
      have hh4 := RI.out _ hh 4 _ rfl
      have hh5 := RI.out _ hh 5 _ rfl
      have hhl := blk_lt hh
      clear hh
      clear hX
      go_simp
    try simp only [Act.put, List.setIfInBounds_toArray, List.set_cons_zero, List.set_cons_succ]
    have CFn : ∀ (args : Array Value) (W : World), Sem.run Try.prog (callFunc 21 args) W = .ok (.enter 21 args) W := fun _ _ => by kernel_rfl
    refine take_G 8 (.tuple #[.agg #[.int .i64 rv.x1, .int .i64 rv.x2, .int .i64 rv.y1, .int .i64 rv.y2, .int .i64 rv.z1, .int .i64 rv.z2], .int .i64 0]) (some 49) (GK.grow _) (by kernel_rfl) rfl (by kernel_rfl) (by kernel_rfl) (by kernel_rfl) rfl (fun _ _ _ h => h) (yieldsG_call 21 #[.agg #[.int .i64 tv.x1, .int .i64 tv.x2, .int .i64 tv.y1, .int .i64 tv.y2, .int .i64 tv.z1, .int .i64 tv.z2], .agg #[.int .i64 sv.x1, .int .i64 sv.x2, .int .i64 sv.y1, .int .i64 sv.y2, .int .i64 sv.z1, .int .i64 sv.z2]] (by rfl) ?_ (fun X hS => CS.out X)) (GK.drop (by simp)) ?_
    · intro X hX
      clear hX
      go_simp
    clear CFn
    try simp only [Act.put, List.setIfInBounds_toArray, List.set_cons_zero, List.set_cons_succ]
    refine take_G 9 (.agg #[.int .i64 rv.x1, .int .i64 rv.x2, .int .i64 rv.y1, .int .i64 rv.y2, .int .i64 rv.z1, .int .i64 rv.z2]) (some 50) (GK.grow _) (by kernel_rfl) rfl (by kernel_rfl) (by kernel_rfl) (by kernel_rfl) rfl (fun _ _ _ h => h) (YieldsIf.toG (Or.inl ⟨by rfl, ?_⟩)) (GK.drop (by simp)) ?_
    · intro X hX
      clear hX
      go_simp
    try simp only [Act.put, List.setIfInBounds_toArray, List.set_cons_zero, List.set_cons_succ]
    refine take_G 10 (.int .i64 0) (some 51) (GK.grow _) (by kernel_rfl) rfl (by kernel_rfl) (by kernel_rfl) (by kernel_rfl) rfl (fun _ _ _ h => h) (YieldsIf.toG (Or.inl ⟨by rfl, ?_⟩)) (GK.drop (by simp)) ?_
    · intro X hX
      clear hX
      go_simp
    try simp only [Act.put, List.setIfInBounds_toArray, List.set_cons_zero, List.set_cons_succ]
    refine only_G 11 (by kernel_rfl) rfl (fun X8 hX K' hK' => ?_)
    replace NN := Lib.hid (Bgo NN.out hX)
    replace BX := Lib.hid (blk_next hX BX.out)
    replace G := Lib.hid (blk_next hX G.out)
    replace R := Lib.hid (blk_next hX R.out)
    replace HAL := Lib.hid (fun kx9 => GK.grow _ _ _ _ (HAL.out kx9) hX)
    clear hX
    have c_R_0 := blk_cell R.out 0 _ rfl
    have f_R_0 := blk_frozen R.out 0
    have c_R_1 := blk_cell R.out 1 _ rfl
    have f_R_1 := blk_frozen R.out 1
    have c_R_2 := blk_cell R.out 2 _ rfl
    have f_R_2 := blk_frozen R.out 2
    have c_R_3 := blk_cell R.out 3 _ rfl
    have f_R_3 := blk_frozen R.out 3
    have c_R_4 := blk_cell R.out 4 _ rfl
    have f_R_4 := blk_frozen R.out 4
    have c_R_5 := blk_cell R.out 5 _ rfl
    have f_R_5 := blk_frozen R.out 5
    have l_R := blk_lt R.out
    go_simp
    clear c_R_0 f_R_0 c_R_1 f_R_1 c_R_2 f_R_2 c_R_3 f_R_3 c_R_4 f_R_4 c_R_5 f_R_5 l_R
    refine hK'.out _ _ (fun kk hk hS => ?_) ?_
    · have HN : ∀ px9 ∈ ([(3, b2, ob), (7, b2, ob)] : List (Nat × Nat × Obj)), px9.1 = kk → px9.2.1 ≠ w.heap.size + 1 := fun px9 hp e => by
        simp only [List.mem_cons, List.not_mem_nil, or_false] at hp
        rcases hp with rfl | rfl
        · subst e
          exact bfl (by kernel_rfl) hk
        · subst e
          exact bfl (by kernel_rfl) hk
      exact GK.set (GK.set (GK.set (GK.set (GK.set (GK.set hS HN) HN) HN) HN) HN) HN
    clear hK' K'
    try simp only [Act.put, List.setIfInBounds_toArray, List.set_cons_zero, List.set_cons_succ]
    clear HAL
    replace BX := Lib.hid (blk_set_other (b' := w.heap.size + 1) (blk_set_other (b' := w.heap.size + 1) (blk_set_other (b' := w.heap.size + 1) (blk_set_other (b' := w.heap.size + 1) (blk_set_other (b' := w.heap.size + 1) (blk_set_other (b' := w.heap.size + 1) (BX.out) (fun e => LB2.out e.symm) 0 (.int .i64 rv.x1)) (fun e => LB2.out e.symm) 1 (.int .i64 rv.x2)) (fun e => LB2.out e.symm) 2 (.int .i64 rv.y1)) (fun e => LB2.out e.symm) 3 (.int .i64 rv.y2)) (fun e => LB2.out e.symm) 4 (.int .i64 rv.z1)) (fun e => LB2.out e.symm) 5 (.int .i64 rv.z2))
    replace G : Hid (((((((X8.setCell ⟨w.heap.size + 1, 0, none⟩ (.int .i64 rv.x1)).setCell ⟨w.heap.size + 1, 1, none⟩ (.int .i64 rv.x2)).setCell ⟨w.heap.size + 1, 2, none⟩ (.int .i64 rv.y1)).setCell ⟨w.heap.size + 1, 3, none⟩ (.int .i64 rv.y2)).setCell ⟨w.heap.size + 1, 4, none⟩ (.int .i64 rv.z1)).setCell ⟨w.heap.size + 1, 5, none⟩ (.int .i64 rv.z2)).heap[w.heap.size]? = some (.cells #[.int .i64 A, .int .i64 B] 23)) := Lib.hid (blk_set_other (b' := w.heap.size + 1) (blk_set_other (b' := w.heap.size + 1) (blk_set_other (b' := w.heap.size + 1) (blk_set_other (b' := w.heap.size + 1) (blk_set_other (b' := w.heap.size + 1) (blk_set_other (b' := w.heap.size + 1) (G.out) (by omega) 0 (.int .i64 rv.x1)) (by omega) 1 (.int .i64 rv.x2)) (by omega) 2 (.int .i64 rv.y1)) (by omega) 3 (.int .i64 rv.y2)) (by omega) 4 (.int .i64 rv.z1)) (by omega) 5 (.int .i64 rv.z2))
    replace R : Hid (((((((X8.setCell ⟨w.heap.size + 1, 0, none⟩ (.int .i64 rv.x1)).setCell ⟨w.heap.size + 1, 1, none⟩ (.int .i64 rv.x2)).setCell ⟨w.heap.size + 1, 2, none⟩ (.int .i64 rv.y1)).setCell ⟨w.heap.size + 1, 3, none⟩ (.int .i64 rv.y2)).setCell ⟨w.heap.size + 1, 4, none⟩ (.int .i64 rv.z1)).setCell ⟨w.heap.size + 1, 5, none⟩ (.int .i64 rv.z2)).heap[w.heap.size + 1]? = some (.cells #[.int .i64 rv.x1, .int .i64 rv.x2, .int .i64 rv.y1, .int .i64 rv.y2, .int .i64 rv.z1, .int .i64 rv.z2] 36)) := Lib.hid (blk_set (blk_set (blk_set (blk_set (blk_set (blk_set (R.out) 0 (.int .i64 rv.x1)) 1 (.int .i64 rv.x2)) 2 (.int .i64 rv.y1)) 3 (.int .i64 rv.y2)) 4 (.int .i64 rv.z1)) 5 (.int .i64 rv.z2))
    replace NN := Lib.hid (Bset1 (Bset1 (Bset1 (Bset1 (Bset1 (Bset1 (NN.out) (show w.heap.size ≤ w.heap.size + 1 by omega) 0 (.int .i64 rv.x1)) (show w.heap.size ≤ w.heap.size + 1 by omega) 1 (.int .i64 rv.x2)) (show w.heap.size ≤ w.heap.size + 1 by omega) 2 (.int .i64 rv.y1)) (show w.heap.size ≤ w.heap.size + 1 by omega) 3 (.int .i64 rv.y2)) (show w.heap.size ≤ w.heap.size + 1 by omega) 4 (.int .i64 rv.z1)) (show w.heap.size ≤ w.heap.size + 1 by omega) 5 (.int .i64 rv.z2))
    generalize ((((((X8.setCell ⟨w.heap.size + 1, 0, none⟩ (.int .i64 rv.x1)).setCell ⟨w.heap.size + 1, 1, none⟩ (.int .i64 rv.x2)).setCell ⟨w.heap.size + 1, 2, none⟩ (.int .i64 rv.y1)).setCell ⟨w.heap.size + 1, 3, none⟩ (.int .i64 rv.y2)).setCell ⟨w.heap.size + 1, 4, none⟩ (.int .i64 rv.z1)).setCell ⟨w.heap.size + 1, 5, none⟩ (.int .i64 rv.z2)) = W9 at *
    refine take_G 12 (.int .i64 0) (some 9) (GK.grow _) (by kernel_rfl) rfl (by kernel_rfl) (by kernel_rfl) (by kernel_rfl) rfl (fun _ _ _ h => h) (YieldsIf.toG (Or.inl ⟨by rfl, ?_⟩)) (GK.drop (by simp)) ?_
    · intro X hX
      clear hX
      go_simp
    try simp only [Act.put, List.setIfInBounds_toArray, List.set_cons_zero, List.set_cons_succ]
    refine done_G (by kernel_rfl) (fun X10 hX => ?_) _
    replace NN := Lib.hid (Bgo NN.out hX)
    replace BX := Lib.hid (blk_next hX BX.out)
    replace G := Lib.hid (blk_next hX G.out)
    replace R := Lib.hid (blk_next hX R.out)
    clear hX
    have c_R_0 := blk_cell R.out 0 _ rfl
    have f_R_0 := blk_frozen R.out 0
    have c_R_1 := blk_cell R.out 1 _ rfl
    have f_R_1 := blk_frozen R.out 1
    have c_R_2 := blk_cell R.out 2 _ rfl
    have f_R_2 := blk_frozen R.out 2
    have c_R_3 := blk_cell R.out 3 _ rfl
    have f_R_3 := blk_frozen R.out 3
    have c_R_4 := blk_cell R.out 4 _ rfl
    have f_R_4 := blk_frozen R.out 4
    have c_R_5 := blk_cell R.out 5 _ rfl
    have f_R_5 := blk_frozen R.out 5
    have l_R := blk_lt R.out
    go_wp2_with fail
    exact bodyPost_ret (v := .tuple #[Vv rv, .int .i64 0]) (by simp [results, Try.results8, go_sem, c_R_0, c_R_1, c_R_2, c_R_3, c_R_4, c_R_5]) rfl ⟨by rw [HV.out, HL.out], NN.out⟩
end Go.Proofs.Ytfangplfbbgphaa
