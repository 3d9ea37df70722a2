/- Contracts of layer 43 at plans whose rows are owned. -/
import Derived.Test.YthmfjlphmamegaaPl6
namespace Go.Proofs.Ythmfjlphmamegaa
open Go.ChangeShapes Go.WideShapes Go.ChangeAt Go.RowKit
set_option linter.unusedVariables false

theorem own_bd {W : World} {base : Nat} {e : TypeId} {size n c : Nat} {A : Option Addr} {xs : List Value} (h : W.ownsRow base e size (.slice A n c) n xs) : n ≤ c ∧ c ≤ 9223372036854775807 := by
  obtain ⟨A', c', hv, h1, h2, _⟩ := Rd.of_own h
  simp only [Value.slice.injEq, true_and] at hv
  rw [hv.2]; exact ⟨h1, h2⟩
theorem obO {W : World} {base base' n m c d : Nat} {A B : Option Addr} {l : List Slt} {rs : List Rul} (hn : l.length = n) (hm : rs.length = m) (oS : OwnsS W base A n c l) (oR : OwnsR W base' B m d rs) :
    Calls Try.prog 13 #[Pv A n c B m d] W (fun e w' => e = .returned (.tuple #[.bool (obL l rs), .int .i64 (checkE l rs)]) ∧ Below W.heap.size W w') := by
  subst hn hm
  exact obeysX_calls A c l B d rs W (own_bd oS).1 (own_bd oS).2 (Rd.slots (own_rd oS)) (own_bd oR).1 (own_bd oR).2 (Rd.rules (own_rd oR))
theorem brO {W : World} {base base' n m c d : Nat} {A B : Option Addr} {l : List Slt} {rs : List Rul} (hn : l.length = n) (hm : rs.length = m) (oS : OwnsS W base A n c l) (oR : OwnsR W base' B m d rs) :
    Calls Try.prog 11 #[Pv A n c B m d] W (BrPost W (brL l rs) (checkE l rs)) := by
  subst hn hm
  exact breachesX_calls A c l B d rs W (own_bd oS).1 (own_bd oS).2 (Rd.slots (own_rd oS)) (own_bd oR).1 (own_bd oR).2 (Rd.rules (own_rd oR))
theorem exO {W : World} {base base' n m c d : Nat} {A B : Option Addr} {l : List Slt} {rs : List Rul} (hn : l.length = n) (hm : rs.length = m) (oS : OwnsS W base A n c l) (oR : OwnsR W base' B m d rs) :
    Calls Try.prog 15 #[Pv A n c B m d] W (StPost W (exL l rs) (checkE l rs)) := by
  subst hn hm
  exact excused_calls A c l B d rs W (own_bd oS).1 (own_bd oS).2 (Rd.slots (own_rd oS)) (own_bd oR).1 (own_bd oR).2 (Rd.rules (own_rd oR))
theorem ckO {W : World} {base base' n m c d : Nat} {A B : Option Addr} {l : List Slt} {rs : List Rul} (hn : l.length = n) (hm : rs.length = m) (oS : OwnsS W base A n c l) (oR : OwnsR W base' B m d rs) :
    Calls Try.prog 17 #[Pv A n c B m d] W (fun e w' => e = .returned (.int .i64 (checkE l rs)) ∧ Below W.heap.size W w') := by
  subst hn hm
  exact check_calls A c l B d rs W (own_bd oS).1 (own_bd oS).2 (Rd.slots (own_rd oS)) (own_bd oR).1 (own_bd oR).2 (Rd.rules (own_rd oR))
theorem rckO {W : World} {base base' n m c d : Nat} {A B : Option Addr} {l : List Slt} {rs : List Rul} (hn : l.length = n) (hm : rs.length = m) (oS : OwnsS W base A n c l) (oR : OwnsR W base' B m d rs) :
    Calls Try.prog 18 #[Pv A n c B m d] W (fun e w' => e = .returned (.int .i64 (checkE l rs)) ∧ Below W.heap.size W w') := by
  subst hn hm
  exact refCheck_calls A c l B d rs W (own_bd oS).1 (own_bd oS).2 (Rd.slots (own_rd oS)) (own_bd oR).1 (own_bd oR).2 (Rd.rules (own_rd oR))
theorem ovO {W : World} {base base' n m c d : Nat} {A B : Option Addr} {l : List Slt} {rs : List Rul} (hn : l.length = n) (hm : rs.length = m) (oS : OwnsS W base A n c l) (oR : OwnsR W base' B m d rs) (rule : Int) (why : ByteArray) (hw : why.size ≤ 9223372036854775807) :
    Calls Try.prog 22 #[Pv A n c B m d, .int .i64 rule, .string why] W (PlanEPost W (ovL l rs rule why) (ovRs l rs rule why) (ovE l rs rule why)) := by
  subst hn hm
  exact override_calls A c l B d rs W (own_bd oS).1 (own_bd oS).2 (Rd.slots (own_rd oS)) (own_bd oR).1 (own_bd oR).2 (Rd.rules (own_rd oR)) rule why hw
theorem adO {W : World} {base base' n m c d : Nat} {A B : Option Addr} {l : List Slt} {rs : List Rul} (hn : l.length = n) (hm : rs.length = m) (oS : OwnsS W base A n c l) (oR : OwnsR W base' B m d rs) (s : Slt) :
    Calls Try.prog 24 #[Pv A n c B m d, Sv s] W (PlanEPost W (adL l rs s) (adR l rs s) (adE l rs s)) := by
  subst hn hm
  exact add_calls A c l B d rs W (own_bd oS).1 (own_bd oS).2 (Rd.slots (own_rd oS)) (own_bd oR).1 (own_bd oR).2 (Rd.rules (own_rd oR)) s
theorem eaO {W : World} {base base' n m c d : Nat} {A B : Option Addr} {l : List Slt} {rs : List Rul} (hn : l.length = n) (hm : rs.length = m) (oS : OwnsS W base A n c l) (oR : OwnsR W base' B m d rs) (s : Slt) :
    Calls Try.prog 26 #[Pv A n c B m d, Sv s] W (fun e w' => e = .returned (.tuple #[.int .i64 (eaV l rs s).1, .int .i64 (eaV l rs s).2]) ∧ Below W.heap.size W w') := by
  subst hn hm
  exact earliest_calls A c l B d rs W (own_bd oS).1 (own_bd oS).2 (Rd.slots (own_rd oS)) (own_bd oR).1 (own_bd oR).2 (Rd.rules (own_rd oR)) s
end Go.Proofs.Ythmfjlphmamegaa
