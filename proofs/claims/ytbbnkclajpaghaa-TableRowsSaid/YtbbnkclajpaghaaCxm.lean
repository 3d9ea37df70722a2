/- Plain arithmetic of complex numbers with rational parts: reduced triples, and quotients in two ways. No program is in sight here. -/
namespace Go.Proofs.Ytbbnkclajpaghaa.Cxm
set_option linter.unusedVariables false

def g2 (a b : Int) : Int := (Int.gcd a b : Nat)
def g3 (a b c : Int) : Int := g2 (g2 a b) c
def fitsB (x : Int) : Bool := decide (-1000000000 ≤ x ∧ x ≤ 1000000000)
def chkB (re im den : Int) : Bool := decide (1 ≤ den ∧ den ≤ 1000000000) && (fitsB re && (fitsB im && decide (g3 re im den = 1)))
def sg (re im den : Int) : Int := if den < 0 then -(g3 re im den) else g3 re im den
/- the reduced number: re, im, den, error -/
def made (re im den : Int) : Int × Int × Int × Int :=
  if den = 0 then (0, 0, 0, 18)
  else if fitsB (re.tdiv (sg re im den)) && (fitsB (im.tdiv (sg re im den)) && fitsB (den.tdiv (sg re im den))) then
    (re.tdiv (sg re im den), im.tdiv (sg re im den), den.tdiv (sg re im den), 0)
  else (0, 0, 0, 16)

theorem g2_nonneg (a b : Int) : 0 ≤ g2 a b := by unfold g2; omega
theorem g3_nonneg (a b c : Int) : 0 ≤ g3 a b c := g2_nonneg _ _
theorem g2_nat (a b : Int) : (g2 a b).natAbs = Nat.gcd a.natAbs b.natAbs := by unfold g2 Int.gcd; omega
theorem g3_nat (a b c : Int) : (g3 a b c).natAbs = Nat.gcd (Nat.gcd a.natAbs b.natAbs) c.natAbs := by unfold g3; rw [g2_nat, g2_nat]
theorem g2_comm (a b : Int) : g2 a b = g2 b a := by unfold g2; rw [Int.gcd_comm]
theorem g2_neg (a b : Int) : g2 (-a) b = g2 a b := by unfold g2 Int.gcd; rw [Int.natAbs_neg]
theorem g2_neg' (a b : Int) : g2 a (-b) = g2 a b := by unfold g2 Int.gcd; rw [Int.natAbs_neg]
theorem g2_abs (a b : Int) : g2 (a.natAbs : Int) (b.natAbs : Int) = g2 a b := by unfold g2 Int.gcd; simp
theorem g2_zero (a : Int) : g2 a 0 = a.natAbs := by unfold g2; simp
/- a round of Euclid's -/
theorem g2_step (a b : Int) : g2 b (a.tmod b) = g2 a b := by
  unfold g2 Int.gcd
  rw [Int.natAbs_tmod]
  congr 1
  rw [Nat.gcd_comm, ← Nat.gcd_rec, Nat.gcd_comm]
theorem tmod_bd (a b : Int) (hb : b ≠ 0) : (a.tmod b).natAbs < b.natAbs := by
  rw [Int.natAbs_tmod]; exact Nat.mod_lt _ (by omega)
theorem g2_pos {a b : Int} (h : a ≠ 0 ∨ b ≠ 0) : 1 ≤ g2 a b := by
  have : 0 < Nat.gcd a.natAbs b.natAbs := by
    rcases h with h | h
    · exact Nat.gcd_pos_of_pos_left _ (by omega)
    · exact Nat.gcd_pos_of_pos_right _ (by omega)
  have e := g2_nat a b
  have n := g2_nonneg a b
  omega
theorem g3_pos {a b c : Int} (h : c ≠ 0) : 1 ≤ g3 a b c := g2_pos (.inr h)
theorem g2_le {a b : Int} (h : b ≠ 0) : g2 a b ≤ b.natAbs := by
  have e := g2_nat a b
  have n := g2_nonneg a b
  have := Nat.le_of_dvd (by omega) (Nat.gcd_dvd_right a.natAbs b.natAbs)
  omega
theorem g2_le_left {a b : Int} (h : a ≠ 0) : g2 a b ≤ a.natAbs := by rw [g2_comm]; exact g2_le h
theorem g2_bd (a b K : Int) (ha : a.natAbs ≤ K) (hb : b.natAbs ≤ K) : g2 a b ≤ K := by
  by_cases h : b = 0
  · subst h; rw [g2_zero]; exact ha
  · have := g2_le (a := a) h; omega
/- quotients of the absolute values -/
theorem tdiv_nat (a g : Int) : (a.tdiv g).natAbs = a.natAbs / g.natAbs := Int.natAbs_tdiv a g
theorem tdiv_bd (a g K : Int) (h : a.natAbs ≤ K) : (a.tdiv g).natAbs ≤ K := by
  have := tdiv_nat a g
  have := Nat.div_le_self a.natAbs g.natAbs
  omega
theorem tdiv_pos {a g : Int} (ha : 1 ≤ a) (hg : 1 ≤ g) (hd : g.natAbs ∣ a.natAbs) : 1 ≤ a.tdiv g := by
  have e := tdiv_nat a g
  have h1 : 0 ≤ a.tdiv g := Int.tdiv_nonneg (by omega) (by omega)
  have : 0 < a.natAbs / g.natAbs := Nat.div_pos (Nat.le_of_dvd (by omega) hd) (by omega)
  omega
theorem sg_nat (a b c : Int) : (sg a b c).natAbs = Nat.gcd (Nat.gcd a.natAbs b.natAbs) c.natAbs := by
  unfold sg; split
  · rw [Int.natAbs_neg, g3_nat]
  · rw [g3_nat]
theorem sg_ne {a b c : Int} (h : c ≠ 0) : sg a b c ≠ 0 := by
  have := g3_pos (a := a) (b := b) h
  unfold sg; split <;> omega
theorem den_pos {a b c : Int} (h : c ≠ 0) : 1 ≤ c.tdiv (sg a b c) := by
  have hp := g3_pos (a := a) (b := b) h
  have hd : (g3 a b c).natAbs ∣ c.natAbs := by rw [g3_nat]; exact Nat.gcd_dvd_right _ _
  unfold sg; split
  · have := tdiv_pos (a := -c) (g := g3 a b c) (by omega) hp (by rw [Int.natAbs_neg]; exact hd)
    rw [Int.neg_tdiv] at this
    rw [Int.tdiv_neg]; exact this
  · exact tdiv_pos (by omega) hp hd
theorem reduced {a b c : Int} (h : c ≠ 0) : g3 (a.tdiv (sg a b c)) (b.tdiv (sg a b c)) (c.tdiv (sg a b c)) = 1 := by
  have key : (g3 (a.tdiv (sg a b c)) (b.tdiv (sg a b c)) (c.tdiv (sg a b c))).natAbs = 1 := by
    rw [g3_nat, tdiv_nat, tdiv_nat, tdiv_nat, sg_nat]
    generalize hG : Nat.gcd (Nat.gcd a.natAbs b.natAbs) c.natAbs = G
    have d1 : G ∣ Nat.gcd a.natAbs b.natAbs := by rw [← hG]; exact Nat.gcd_dvd_left _ _
    have d2 : G ∣ c.natAbs := by rw [← hG]; exact Nat.gcd_dvd_right _ _
    have da : G ∣ a.natAbs := Nat.dvd_trans d1 (Nat.gcd_dvd_left _ _)
    have db : G ∣ b.natAbs := Nat.dvd_trans d1 (Nat.gcd_dvd_right _ _)
    rw [Nat.gcd_div da db, Nat.gcd_div d1 d2, hG]
    have : 0 < G := by rw [← hG]; exact Nat.gcd_pos_of_pos_right _ (by omega)
    exact Nat.div_self this
  have := g3_nonneg (a.tdiv (sg a b c)) (b.tdiv (sg a b c)) (c.tdiv (sg a b c))
  omega
theorem chk_reduced {a b c : Int} (h : c ≠ 0) :
    chkB (a.tdiv (sg a b c)) (b.tdiv (sg a b c)) (c.tdiv (sg a b c)) = (fitsB (a.tdiv (sg a b c)) && (fitsB (b.tdiv (sg a b c)) && fitsB (c.tdiv (sg a b c)))) := by
  have h1 := reduced (a := a) (b := b) h
  have h2 := den_pos (a := a) (b := b) h
  unfold chkB
  rw [h1]
  generalize a.tdiv (sg a b c) = x at *
  generalize b.tdiv (sg a b c) = y at *
  generalize c.tdiv (sg a b c) = z at *
  rw [Bool.eq_iff_iff]
  simp [fitsB]
  omega
theorem made_of_reduced {x y z : Int} (hz : 1 ≤ z) (h : g3 x y z = 1) :
    made x y z = if fitsB x && (fitsB y && fitsB z) then (x, y, z, 0) else (0, 0, 0, 16) := by
  have hs : sg x y z = 1 := by unfold sg; rw [if_neg (by omega), h]
  unfold made
  rw [if_neg (by omega), hs, Int.tdiv_one, Int.tdiv_one, Int.tdiv_one]
theorem chk_neg (a b c : Int) : chkB (-a) (-b) c = chkB a b c := by
  unfold chkB g3
  rw [g2_neg, g2_neg', Bool.eq_iff_iff]
  simp [fitsB]
  omega
theorem chk_iff {a b c : Int} : chkB a b c = true ↔ (1 ≤ c ∧ c ≤ 1000000000) ∧ (-1000000000 ≤ a ∧ a ≤ 1000000000) ∧ (-1000000000 ≤ b ∧ b ≤ 1000000000) ∧ g3 a b c = 1 := by
  simp [chkB, fitsB]
/- products in range -/
theorem mul_bd {a b A B : Int} (ha : -A ≤ a) (ha' : a ≤ A) (hb : -B ≤ b) (hb' : b ≤ B) : -(A * B) ≤ a * b ∧ a * b ≤ A * B := by
  have hA : 0 ≤ A := by omega
  have hB : 0 ≤ B := by omega
  have h : (a * b).natAbs ≤ A.natAbs * B.natAbs := by
    rw [Int.natAbs_mul]; exact Nat.mul_le_mul (by omega) (by omega)
  rw [← Int.natAbs_mul] at h
  have : 0 ≤ A * B := Int.mul_nonneg hA hB
  omega
theorem mul_bd9 {a b : Int} (ha : -1000000000 ≤ a) (ha' : a ≤ 1000000000) (hb : -1000000000 ≤ b) (hb' : b ≤ 1000000000) : -1000000000000000000 ≤ a * b ∧ a * b ≤ 1000000000000000000 := mul_bd ha ha' hb hb'
theorem sq_nonneg (a : Int) : 0 ≤ a * a := by
  rcases Int.le_total 0 a with h | h
  · exact Int.mul_nonneg h h
  · exact Int.mul_nonneg_of_nonpos_of_nonpos h h
/- quotients: what is left when the common divisors are taken out -/
theorem gcd_self_div {a b : Nat} (h : 0 < Nat.gcd a b) : Nat.gcd (a / Nat.gcd a b) (b / Nat.gcd a b) = 1 := by
  rw [Nat.gcd_div (Nat.gcd_dvd_left _ _) (Nat.gcd_dvd_right _ _)]; exact Nat.div_self h
theorem div_pos_of {a b : Nat} (h : 0 < a) (hd : b ∣ a) : 0 < a / b := Nat.div_pos (Nat.le_of_dvd h hd) (Nat.pos_of_dvd_of_pos hd h)
theorem quot_coprime {H N D E : Nat} (hN : 0 < N) (hD : 0 < D) (hE : 0 < E) :
    let g := Nat.gcd H N
    let h := Nat.gcd D E
    let k := Nat.gcd (H / g) (E / h)
    let l := Nat.gcd (D / h) (N / g)
    Nat.gcd (H / g / k * (D / h / l)) (N / g / l * (E / h / k)) = 1 := by
  intro g h k l
  have hg : 0 < g := Nat.gcd_pos_of_pos_right _ hN
  have hh : 0 < h := Nat.gcd_pos_of_pos_right _ hE
  have c1 : Nat.Coprime (H / g) (N / g) := gcd_self_div hg
  have c2 : Nat.Coprime (D / h) (E / h) := gcd_self_div hh
  have pE : 0 < E / h := div_pos_of hE (Nat.gcd_dvd_right _ _)
  have pN : 0 < N / g := div_pos_of hN (Nat.gcd_dvd_right _ _)
  have hk : 0 < k := Nat.gcd_pos_of_pos_right _ pE
  have hl : 0 < l := Nat.gcd_pos_of_pos_right _ pN
  have c3 : Nat.Coprime (H / g / k) (E / h / k) := gcd_self_div hk
  have c4 : Nat.Coprime (D / h / l) (N / g / l) := gcd_self_div hl
  have dHk : H / g / k ∣ H / g := Nat.div_dvd_of_dvd (Nat.gcd_dvd_left _ _)
  have dEk : E / h / k ∣ E / h := Nat.div_dvd_of_dvd (Nat.gcd_dvd_right _ _)
  have dDl : D / h / l ∣ D / h := Nat.div_dvd_of_dvd (Nat.gcd_dvd_left _ _)
  have dNl : N / g / l ∣ N / g := Nat.div_dvd_of_dvd (Nat.gcd_dvd_right _ _)
  have c5 : Nat.Coprime (H / g / k) (N / g / l) := (c1.coprime_dvd_left dHk).coprime_dvd_right dNl
  have c6 : Nat.Coprime (D / h / l) (E / h / k) := (c2.coprime_dvd_left dDl).coprime_dvd_right dEk
  exact Nat.Coprime.mul_left (Nat.Coprime.mul_right c5 c3) (Nat.Coprime.mul_right c4 c6)
theorem g3_quot {p q n d e : Int} (hn : 1 ≤ n) (hd : 1 ≤ d) (he : 1 ≤ e) :
    g3 ((p.tdiv (g3 p q n)).tdiv (g3 (p.tdiv (g3 p q n)) (q.tdiv (g3 p q n)) (e.tdiv (g2 d e))) * (d.tdiv (g2 d e)).tdiv (g2 (d.tdiv (g2 d e)) (n.tdiv (g3 p q n))))
       ((q.tdiv (g3 p q n)).tdiv (g3 (p.tdiv (g3 p q n)) (q.tdiv (g3 p q n)) (e.tdiv (g2 d e))) * (d.tdiv (g2 d e)).tdiv (g2 (d.tdiv (g2 d e)) (n.tdiv (g3 p q n))))
       ((n.tdiv (g3 p q n)).tdiv (g2 (d.tdiv (g2 d e)) (n.tdiv (g3 p q n))) * (e.tdiv (g2 d e)).tdiv (g3 (p.tdiv (g3 p q n)) (q.tdiv (g3 p q n)) (e.tdiv (g2 d e)))) = 1 := by
  have key := quot_coprime (H := Nat.gcd p.natAbs q.natAbs) (N := n.natAbs) (D := d.natAbs) (E := e.natAbs) (by omega) (by omega) (by omega)
  simp only at key
  have fin : ∀ x y z : Int, Nat.gcd (Nat.gcd x.natAbs y.natAbs) z.natAbs = 1 → g3 x y z = 1 := by
    intro x y z h
    have := g3_nonneg x y z
    have := g3_nat x y z
    omega
  apply fin
  simp only [Int.natAbs_mul, tdiv_nat, g3_nat, g2_nat, Nat.gcd_mul_right]
  generalize hg : Nat.gcd (Nat.gcd p.natAbs q.natAbs) n.natAbs = g at *
  generalize hh : Nat.gcd d.natAbs e.natAbs = h at *
  have d1 : g ∣ Nat.gcd p.natAbs q.natAbs := by rw [← hg]; exact Nat.gcd_dvd_left _ _
  have e1 : Nat.gcd (p.natAbs / g) (q.natAbs / g) = Nat.gcd p.natAbs q.natAbs / g := Nat.gcd_div (Nat.dvd_trans d1 (Nat.gcd_dvd_left _ _)) (Nat.dvd_trans d1 (Nat.gcd_dvd_right _ _))
  rw [e1]
  generalize hk : Nat.gcd (Nat.gcd p.natAbs q.natAbs / g) (e.natAbs / h) = k at *
  have d2 : k ∣ Nat.gcd (p.natAbs / g) (q.natAbs / g) := by rw [e1, ← hk]; exact Nat.gcd_dvd_left _ _
  rw [Nat.gcd_div (Nat.dvd_trans d2 (Nat.gcd_dvd_left _ _)) (Nat.dvd_trans d2 (Nat.gcd_dvd_right _ _)), e1]
  exact key
theorem g_dvd (p q n : Int) : (g3 p q n).natAbs ∣ n.natAbs := by rw [g3_nat]; exact Nat.gcd_dvd_right _ _
theorem g2_dvd_right (a b : Int) : (g2 a b).natAbs ∣ b.natAbs := by rw [g2_nat]; exact Nat.gcd_dvd_right _ _
theorem g2_dvd_left (a b : Int) : (g2 a b).natAbs ∣ a.natAbs := by rw [g2_nat]; exact Nat.gcd_dvd_left _ _
theorem fits_mul {p d : Int} (hd : 1 ≤ d) : fitsB (p * d) = decide ((p.natAbs : Int) ≤ (1000000000 : Int).tdiv d) := by
  obtain ⟨D, rfl⟩ := Int.eq_ofNat_of_zero_le (show 0 ≤ d by omega)
  have e : ((1000000000 : Int).tdiv (D : Int)) = ((1000000000 / D : Nat) : Int) := by
    rw [Int.tdiv_eq_ediv_of_nonneg (by omega)]; rfl
  rw [e, Bool.eq_iff_iff]
  simp only [fitsB, decide_eq_true_eq]
  have h := Nat.le_div_iff_mul_le (x := p.natAbs) (y := 1000000000) (k := D) (by omega)
  have m : (p * (D : Int)).natAbs = p.natAbs * D := by rw [Int.natAbs_mul]; simp
  generalize p * (D : Int) = x at *
  generalize p.natAbs * D = y at *
  generalize 1000000000 / D = z at *
  omega
/- the quotient's parts under names -/
structure DivN (p q n d e g p1 q1 n1 h d1 e1 k p2 q2 e2 l d2 n2 : Int) : Prop where
  eg : g2 (g2 p q) n = g
  ep1 : p.tdiv g = p1
  eq1 : q.tdiv g = q1
  en1 : n.tdiv g = n1
  eh : g2 d e = h
  ed1 : d.tdiv h = d1
  ee1 : e.tdiv h = e1
  ek : g2 (g2 p1 q1) e1 = k
  ep2 : p1.tdiv k = p2
  eq2 : q1.tdiv k = q2
  ee2 : e1.tdiv k = e2
  el : g2 d1 n1 = l
  ed2 : d1.tdiv l = d2
  en2 : n1.tdiv l = n2
  bg : 1 ≤ g ∧ g ≤ 2000000000000000000
  bh : 1 ≤ h ∧ h ≤ 1000000000
  bk : 1 ≤ k ∧ k ≤ 1000000000
  bl : 1 ≤ l ∧ l ≤ 1000000000
  bp1 : -2000000000000000000 ≤ p1 ∧ p1 ≤ 2000000000000000000
  bq1 : -2000000000000000000 ≤ q1 ∧ q1 ≤ 2000000000000000000
  bn1 : 1 ≤ n1 ∧ n1 ≤ 2000000000000000000
  bd1 : 1 ≤ d1 ∧ d1 ≤ 1000000000
  be1 : 1 ≤ e1 ∧ e1 ≤ 1000000000
  bp2 : -2000000000000000000 ≤ p2 ∧ p2 ≤ 2000000000000000000
  bq2 : -2000000000000000000 ≤ q2 ∧ q2 ≤ 2000000000000000000
  bn2 : 1 ≤ n2 ∧ n2 ≤ 2000000000000000000
  bd2 : 1 ≤ d2 ∧ d2 ≤ 1000000000
  be2 : 1 ≤ e2 ∧ e2 ≤ 1000000000
  red : g3 (p2 * d2) (q2 * d2) (n2 * e2) = 1
theorem tdiv_le {a g K : Int} (h : a.natAbs ≤ K) : -K ≤ a.tdiv g ∧ a.tdiv g ≤ K := by
  have := tdiv_bd a g K h
  omega
theorem divN {p q n d e : Int} (hp : -2000000000000000000 ≤ p ∧ p ≤ 2000000000000000000) (hq : -2000000000000000000 ≤ q ∧ q ≤ 2000000000000000000) (hn : 1 ≤ n ∧ n ≤ 2000000000000000000) (hd : 1 ≤ d ∧ d ≤ 1000000000) (he : 1 ≤ e ∧ e ≤ 1000000000) :
    ∃ g p1 q1 n1 h d1 e1 k p2 q2 e2 l d2 n2, DivN p q n d e g p1 q1 n1 h d1 e1 k p2 q2 e2 l d2 n2 := by
  refine ⟨(g3 p q n), (p.tdiv (g3 p q n)), (q.tdiv (g3 p q n)), (n.tdiv (g3 p q n)), (g2 d e), (d.tdiv (g2 d e)), (e.tdiv (g2 d e)), (g3 (p.tdiv (g3 p q n)) (q.tdiv (g3 p q n)) (e.tdiv (g2 d e))), ((p.tdiv (g3 p q n)).tdiv (g3 (p.tdiv (g3 p q n)) (q.tdiv (g3 p q n)) (e.tdiv (g2 d e)))), ((q.tdiv (g3 p q n)).tdiv (g3 (p.tdiv (g3 p q n)) (q.tdiv (g3 p q n)) (e.tdiv (g2 d e)))), ((e.tdiv (g2 d e)).tdiv (g3 (p.tdiv (g3 p q n)) (q.tdiv (g3 p q n)) (e.tdiv (g2 d e)))), (g2 (d.tdiv (g2 d e)) (n.tdiv (g3 p q n))), ((d.tdiv (g2 d e)).tdiv (g2 (d.tdiv (g2 d e)) (n.tdiv (g3 p q n)))), ((n.tdiv (g3 p q n)).tdiv (g2 (d.tdiv (g2 d e)) (n.tdiv (g3 p q n)))), ?_⟩
  have red := g3_quot (p := p) (q := q) (n := n) (d := d) (e := e) (by omega) (by omega) (by omega)
  have g1 := g3_pos (a := p) (b := q) (c := n) (by omega)
  have g1' : g3 p q n ≤ n.natAbs := g2_le (by omega)
  have h1 := g2_pos (a := d) (b := e) (.inl (by omega))
  have h1' := g2_le (a := d) (b := e) (by omega)
  have n1 : 1 ≤ n.tdiv (g3 p q n) := tdiv_pos (by omega) g1 (g_dvd p q n)
  have n1' := tdiv_bd n (g3 p q n) 2000000000000000000 (by omega)
  have d1 : 1 ≤ d.tdiv (g2 d e) := tdiv_pos (by omega) h1 (g2_dvd_left d e)
  have d1' := tdiv_bd d (g2 d e) 1000000000 (by omega)
  have e1 : 1 ≤ e.tdiv (g2 d e) := tdiv_pos (by omega) h1 (g2_dvd_right d e)
  have e1' := tdiv_bd e (g2 d e) 1000000000 (by omega)
  have p1 := tdiv_le (a := p) (g := g3 p q n) (K := 2000000000000000000) (by omega)
  have q1 := tdiv_le (a := q) (g := g3 p q n) (K := 2000000000000000000) (by omega)
  have hgl : ∀ a b, g3 a b (e.tdiv (g2 d e)) ≤ (e.tdiv (g2 d e)).natAbs := fun a b => g2_le (by omega)
  have hll := g2_le_left (a := d.tdiv (g2 d e)) (b := n.tdiv (g3 p q n)) (by omega)
  have k1 := g3_pos (a := p.tdiv (g3 p q n)) (b := q.tdiv (g3 p q n)) (c := e.tdiv (g2 d e)) (by omega)
  have k1' := hgl (p.tdiv (g3 p q n)) (q.tdiv (g3 p q n))
  have l1 := g2_pos (a := d.tdiv (g2 d e)) (b := n.tdiv (g3 p q n)) (.inl (by omega))
  have p2 := tdiv_le (a := p.tdiv (g3 p q n)) (g := g3 (p.tdiv (g3 p q n)) (q.tdiv (g3 p q n)) (e.tdiv (g2 d e))) (K := 2000000000000000000) (by omega)
  have q2 := tdiv_le (a := q.tdiv (g3 p q n)) (g := g3 (p.tdiv (g3 p q n)) (q.tdiv (g3 p q n)) (e.tdiv (g2 d e))) (K := 2000000000000000000) (by omega)
  have n2 := tdiv_pos n1 l1 (g2_dvd_right _ _)
  have n2' := tdiv_bd (n.tdiv (g3 p q n)) (g2 (d.tdiv (g2 d e)) (n.tdiv (g3 p q n))) 2000000000000000000 (by omega)
  have d2 := tdiv_pos d1 l1 (g2_dvd_left _ _)
  have d2' := tdiv_bd (d.tdiv (g2 d e)) (g2 (d.tdiv (g2 d e)) (n.tdiv (g3 p q n))) 1000000000 (by omega)
  have e2 := tdiv_pos e1 k1 (g_dvd _ _ _)
  have e2' := tdiv_bd (e.tdiv (g2 d e)) (g3 (p.tdiv (g3 p q n)) (q.tdiv (g3 p q n)) (e.tdiv (g2 d e))) 1000000000 (by omega)
  exact ⟨rfl, rfl, rfl, rfl, rfl, rfl, rfl, rfl, rfl, rfl, rfl, rfl, rfl, rfl, by omega, by omega, by omega, by omega, p1, q1, by omega, by omega, by omega, p2, q2, by omega, by omega, by omega, red⟩
def divR (p2 q2 n2 d2 e2 : Int) : Int × Int × Int × Int :=
  if fitsB (p2 * d2) && (fitsB (q2 * d2) && fitsB (n2 * e2)) then (p2 * d2, q2 * d2, n2 * e2, 0) else (0, 0, 0, 16)
theorem unfit_mul {p d : Int} (hd : 1 ≤ d) (h : fitsB p = false) : fitsB (p * d) = false := by
  rw [fits_mul hd, decide_eq_false_iff_not]
  intro h2
  have h3 : (1000000000 : Int).tdiv d ≤ 1000000000 := by
    have := tdiv_le (a := 1000000000) (g := d) (K := 1000000000) (by decide)
    omega
  simp [fitsB] at h
  omega
theorem divR_made {p2 q2 n2 d2 e2 : Int} (hn : 1 ≤ n2) (he : 1 ≤ e2) (red : g3 (p2 * d2) (q2 * d2) (n2 * e2) = 1) : made (p2 * d2) (q2 * d2) (n2 * e2) = divR p2 q2 n2 d2 e2 := by
  have : 1 ≤ n2 * e2 := by
    have := Int.mul_le_mul hn he (by omega) (by omega)
    omega
  rw [made_of_reduced this red]; rfl
end Go.Proofs.Ytbbnkclajpaghaa.Cxm
