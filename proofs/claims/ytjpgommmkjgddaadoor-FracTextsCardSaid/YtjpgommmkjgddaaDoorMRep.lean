/- What a fraction in lowest terms stands for; comparing and calculating with it. -/
import Derived.Test.YtjpgommmkjgddaaDoorMFracOps
import Derived.Test.YtjpgommmkjgddaaDoorPx12
namespace Go.Proofs.YtjpgommmkjgddaaDoor.Pure
open Go.RowKit Go.Proofs.YtjpgommmkjgddaaDoor.P Go.Proofs.YtjpgommmkjgddaaDoorW.PrintWords Go.Proofs.YtjpgommmkjgddaaDoorW.PrintLast Go.Proofs.YtjpgommmkjgddaaDoorW.PrintMore
set_option linter.unusedVariables false
set_option linter.unusedSimpArgs false

/-- The fraction x / y in lowest terms is N / D. -/
structure Rep (x y N D : Int) : Prop where
  val : ValidP x y
  pos : 0 < D
  eq : x * D = N * y
  n : x.natAbs ≤ N.natAbs
  d : y ≤ D
theorem Rep.in64 {x y N D : Int} (h : Rep x y N D) : In64 x ∧ In64 y := by
  obtain ⟨h1, h2, h3, _⟩ := h.val
  exact ⟨⟨by omega, by omega⟩, ⟨by omega, by omega⟩⟩
theorem ValidP.rep {x y : Int} (h : ValidP x y) : Rep x y x y := ⟨h, by have := h.1; omega, rfl, Nat.le_refl _, Int.le_refl _⟩
theorem cmpZ_mul (x y k : Int) (hk : 0 < k) : cmpZ (x * k) (y * k) = cmpZ x y := by
  unfold cmpZ
  have e1 : (x * k < y * k) ↔ x < y := ⟨fun h => Int.lt_of_mul_lt_mul_right h (by omega), fun h => Int.mul_lt_mul_of_pos_right h hk⟩
  have e2 : (x * k = y * k) ↔ x = y := ⟨fun h => Int.eq_of_mul_eq_mul_right (by omega) h, fun h => by rw [h]⟩
  simp only [e1, e2]
theorem cmpZ_add (x y z : Int) : cmpZ (x + z) (y + z) = cmpZ x y := by
  unfold cmpZ
  have e1 : (x + z < y + z) ↔ x < y := by omega
  have e2 : (x + z = y + z) ↔ x = y := by omega
  simp only [e1, e2]
theorem cmp_rep {x1 x2 y1 y2 N D N' D' : Int} (hx : Rep x1 x2 N D) (hy : Rep y1 y2 N' D') : cmpZ (x1 * y2) (y1 * x2) = cmpZ (N * D') (N' * D) := by
  have p1 : 0 < x2 := by have := hx.val.1; omega
  have p2 : 0 < y2 := by have := hy.val.1; omega
  have e1 := hx.eq
  have e2 := hy.eq
  have q1 : 0 < D * D' := Int.mul_pos hx.pos hy.pos
  have q2 : 0 < x2 * y2 := Int.mul_pos p1 p2
  rw [← cmpZ_mul (x1 * y2) (y1 * x2) (D * D') q1, ← cmpZ_mul (N * D') (N' * D) (x2 * y2) q2]
  have a1 : x1 * y2 * (D * D') = N * D' * (x2 * y2) := by grind
  have a2 : y1 * x2 * (D * D') = N' * D * (x2 * y2) := by grind
  rw [a1, a2]
theorem rep_unique {x1 x2 y1 y2 N D N' D' : Int} (hx : Rep x1 x2 N D) (hy : Rep y1 y2 N' D') (h : N * D' = N' * D) : x1 = y1 ∧ x2 = y2 := by
  refine frac_unique hx.val hy.val ?_
  have := cmp_rep hx hy
  rw [h] at this
  unfold cmpZ at this
  rw [if_neg (show ¬ (N' * D < N' * D) by omega), if_pos rfl] at this
  by_cases h1 : x1 * y2 < y1 * x2
  · rw [if_pos h1] at this; omega
  · rw [if_neg h1] at this
    by_cases h2 : x1 * y2 = y1 * x2
    · exact h2
    · rw [if_neg h2] at this; omega
theorem cmpF_rep {x1 x2 y1 y2 N D N' D' : Int} (hx : Rep x1 x2 N D) (hy : Rep y1 y2 N' D') : cmpF x1 x2 y1 y2 = cmpZ (N * D') (N' * D) := by
  unfold cmpF
  rw [if_pos ⟨hx.val, hy.val⟩]
  exact cmp_rep hx hy
/-! ### lowest terms -/
theorem low_rep (neg : Bool) (n d : Nat) (hd : 0 < d) (h : (lowF neg n d).2.2 = 0) : Rep (lowF neg n d).1 (lowF neg n d).2.1 (if neg = true then -(n : Int) else (n : Int)) (d : Int) := by
  unfold lowF at *
  have hg : 0 < Nat.gcd n d := Nat.gcd_pos_of_pos_right _ hd
  have g1 := Nat.gcd_dvd_left n d
  have g2 := Nat.gcd_dvd_right n d
  have hv := made_valid (p := n / Nat.gcd n d) (q := d / Nat.gcd n d) (neg := neg) (Nat.div_pos (Nat.le_of_dvd hd g2) hg) (Nat.gcd_div_gcd_div_gcd_of_pos_right hd) h
  generalize Nat.gcd n d = g at *
  have m1 : n = n / g * g := (Nat.div_mul_cancel g1).symm
  have m2 : d = d / g * g := (Nat.div_mul_cancel g2).symm
  have l1 : n / g ≤ n := Nat.div_le_self _ _
  have l2 : d / g ≤ d := Nat.div_le_self _ _
  generalize n / g = p at *
  generalize d / g = q at *
  unfold madeF at *
  by_cases hc : 4611686018427387904 < p ∨ 4611686018427387904 < q
  · rw [if_pos hc] at h; exact absurd h (by decide)
  · rw [if_neg hc] at hv ⊢
    refine ⟨hv, by omega, ?_, ?_, by show (q : Int) ≤ _; omega⟩
    · show (if neg = true then -(p : Int) else (p : Int)) * (d : Int) = _ * (q : Int)
      rw [m1, m2]
      simp only [Int.natCast_mul]
      cases neg
      · simp only [Bool.false_eq_true, if_false]; grind
      · simp only [if_true]; grind
    · show (if neg = true then -(p : Int) else (p : Int)).natAbs ≤ _
      cases neg
      · simp only [Bool.false_eq_true, if_false]; omega
      · simp only [if_true]; omega
theorem low_ok (neg : Bool) (n d : Nat) (hn : n ≤ 4611686018427387904) (hd : d ≤ 4611686018427387904) : (lowF neg n d).2.2 = 0 := by
  unfold lowF madeF
  have l1 : n / Nat.gcd n d ≤ n := Nat.div_le_self _ _
  have l2 : d / Nat.gcd n d ≤ d := Nat.div_le_self _ _
  rw [if_neg (by omega)]
theorem lowS_rep (N D : Int) (hD : 0 < D) (h : (lowS N D).2.2 = 0) : Rep (lowS N D).1 (lowS N D).2.1 N D := by
  unfold lowS at *
  have := low_rep (decide (N < 0)) N.natAbs D.natAbs (by omega) h
  have e1 : (if decide (N < 0) = true then -((N.natAbs : Nat) : Int) else ((N.natAbs : Nat) : Int)) = N := by
    by_cases hn : N < 0
    · rw [if_pos (decide_eq_true hn)]; omega
    · rw [if_neg (by simpa using hn)]; omega
  have e2 : ((D.natAbs : Nat) : Int) = D := by omega
  rw [e1, e2] at this
  exact this
theorem lowS_ok (N D : Int) (hn : N.natAbs ≤ 4611686018427387904) (hd : D.natAbs ≤ 4611686018427387904) : (lowS N D).2.2 = 0 := low_ok _ _ _ hn hd
theorem new_low (n d : Int) (hd : 0 < d) (hn : In64 n) (hd2 : d ≤ 9223372036854775807) (hn2 : n ≠ -9223372036854775808) : newF n d = lowS n d := by
  unfold newF lowS
  rw [if_neg (by omega), if_neg (by omega)]
  have : decide (d < 0) = false := decide_eq_false (by omega)
  rw [this]
  simp
theorem mul_low (a b c d : Int) (h1 : ValidP a b) (h2 : ValidP c d) : (mulF a b c d).2.2 = 0 → Rep (mulF a b c d).1 (mulF a b c d).2.1 (a * c) (b * d) := by
  intro h
  unfold mulF at *
  rw [if_pos ⟨h1, h2⟩] at *
  have b1 := h1.1
  have d1 := h2.1
  have := low_rep (neq0 a c) _ _ (Nat.mul_pos (show 0 < b.natAbs by omega) (show 0 < d.natAbs by omega)) h
  have e2 : ((b.natAbs * d.natAbs : Nat) : Int) = b * d := by
    rw [Int.natCast_mul]
    have x1 : ((b.natAbs : Nat) : Int) = b := by omega
    have x2 : ((d.natAbs : Nat) : Int) = d := by omega
    rw [x1, x2]
  have e1 : (if neq0 a c = true then -((a.natAbs * c.natAbs : Nat) : Int) else ((a.natAbs * c.natAbs : Nat) : Int)) = a * c := by
    rw [Int.natCast_mul]
    unfold neq0
    by_cases ha : a < 0 <;> by_cases hc : c < 0
    · have x1 : ((a.natAbs : Nat) : Int) = -a := by omega
      have x2 : ((c.natAbs : Nat) : Int) = -c := by omega
      simp only [ha, hc, decide_true, bne_self_eq_false, Bool.false_eq_true, if_false, x1, x2]; grind
    · have x1 : ((a.natAbs : Nat) : Int) = -a := by omega
      have x2 : ((c.natAbs : Nat) : Int) = c := by omega
      simp only [ha, hc, decide_true, decide_false, x1, x2, Bool.bne_true, Bool.bne_false, Bool.true_bne, Bool.false_bne, Bool.not_false, Bool.not_true, if_true]
      grind
    · have x1 : ((a.natAbs : Nat) : Int) = a := by omega
      have x2 : ((c.natAbs : Nat) : Int) = -c := by omega
      simp only [ha, hc, decide_true, decide_false, x1, x2, Bool.bne_true, Bool.bne_false, Bool.true_bne, Bool.false_bne, Bool.not_false, Bool.not_true, if_true]
      grind
    · have x1 : ((a.natAbs : Nat) : Int) = a := by omega
      have x2 : ((c.natAbs : Nat) : Int) = c := by omega
      simp only [ha, hc, decide_false, bne_self_eq_false, Bool.false_eq_true, if_false, x1, x2]
  rw [e1, e2] at this
  exact this
theorem mul_ok (a b c d : Int) (h1 : ValidP a b) (h2 : ValidP c d) (hn : a.natAbs * c.natAbs ≤ 4611686018427387904) (hd : b.natAbs * d.natAbs ≤ 4611686018427387904) : (mulF a b c d).2.2 = 0 := by
  unfold mulF
  rw [if_pos ⟨h1, h2⟩]
  exact low_ok _ _ _ hn hd
theorem add_low (a b c d : Int) (h1 : ValidP a b) (h2 : ValidP c d) : addF a b c d = lowS (a * d + c * b) (b * d) := by
  unfold addF
  rw [if_pos ⟨h1, h2⟩]
theorem add_rep (a b c d : Int) (h1 : ValidP a b) (h2 : ValidP c d) (h : (addF a b c d).2.2 = 0) : Rep (addF a b c d).1 (addF a b c d).2.1 (a * d + c * b) (b * d) := by
  rw [add_low a b c d h1 h2] at *
  exact lowS_rep _ _ (Int.mul_pos (by have := h1.1; omega) (by have := h2.1; omega)) h

/-! ### generators -/
def arn (n m : Int) : Int := if n < 0 then (-(n + 1)) % m else n % m
theorem arn_bd (n m : Int) (hm : 0 < m) : 0 ≤ arn n m ∧ arn n m < m := by
  unfold arn
  split
  · exact ⟨Int.emod_nonneg _ (by omega), Int.emod_lt_of_pos _ hm⟩
  · exact ⟨Int.emod_nonneg _ (by omega), Int.emod_lt_of_pos _ hm⟩
theorem around (n m : Int) (hn : In64 n) (hm : 0 < m) : intervalmonref01_Around.f n m = some (arn n m) := by
  have h0 := hn.1
  have h1 := hn.2
  unfold intervalmonref01_Around.f arn
  by_cases h : n < 0
  · rw [if_pos h, if_pos h, if_neg (by omega), w64 (n + 1) (by omega) (by omega), w64 _ (by omega) (by omega), Int.tmod_eq_emod_of_nonneg (by omega)]
  · rw [if_neg h, if_neg h, if_neg (by omega), Int.tmod_eq_emod_of_nonneg (by omega)]
theorem tdiv_bd (a m : Int) (h0 : 0 ≤ a) (hm : 0 < m) : 0 ≤ Int.tdiv a m ∧ Int.tdiv a m ≤ a := by
  rw [Int.tdiv_eq_ediv_of_nonneg h0]
  exact ⟨Int.ediv_nonneg h0 (by omega), Int.ediv_le_self _ h0⟩
theorem tmod_bd (a m : Int) (h0 : 0 ≤ a) (hm : 0 < m) : 0 ≤ Int.tmod a m ∧ Int.tmod a m < m := by
  rw [Int.tmod_eq_emod_of_nonneg h0]
  exact ⟨Int.emod_nonneg _ (by omega), Int.emod_lt_of_pos _ hm⟩
/-- A valid fraction made from a number: both parts at most 500. -/
theorem middle_ev (n : Int) (hn : In64 n) : ∃ x y : Int, Ev (fun k => intervalmonref03_Middle.f k n) (x, y) ∧ ValidP x y ∧ x.natAbs ≤ 500 ∧ y ≤ 500 := by
  have hb := arn_bd n 1000000007 (by decide)
  have h1 := tmod_bd (arn n 1000000007) 1001 hb.1 (by decide)
  have h2 := tdiv_bd (arn n 1000000007) 1001 hb.1 (by decide)
  have h3 := tmod_bd (Int.tdiv (arn n 1000000007) 1001) 500 h2.1 (by decide)
  have w1 : wrap64 (Int.tmod (arn n 1000000007) 1001 - 500) = Int.tmod (arn n 1000000007) 1001 - 500 := w64 _ (by omega) (by omega)
  have w2 : wrap64 (Int.tdiv (arn n 1000000007) 1001) = Int.tdiv (arn n 1000000007) 1001 := w64 _ (by omega) (by omega)
  have w3 : wrap64 (1 + Int.tmod (Int.tdiv (arn n 1000000007) 1001) 500) = 1 + Int.tmod (Int.tdiv (arn n 1000000007) 1001) 500 := w64 _ (by omega) (by omega)
  obtain ⟨p, ep⟩ : ∃ p, p = Int.tmod (arn n 1000000007) 1001 - 500 := ⟨_, rfl⟩
  obtain ⟨q, eq⟩ : ∃ q, q = 1 + Int.tmod (Int.tdiv (arn n 1000000007) 1001) 500 := ⟨_, rfl⟩
  have hp : p.natAbs ≤ 500 := by omega
  have hq : 1 ≤ q ∧ q ≤ 500 := by omega
  have hl := new_low p q (by omega) ⟨by omega, by omega⟩ (by omega) (by omega)
  have ok := lowS_ok p q (by omega) (by omega)
  have hr := lowS_rep p q (by omega) ok
  refine ⟨_, _, ?_, hr.val, Nat.le_trans hr.n hp, Int.le_trans hr.d hq.2⟩
  unfold intervalmonref03_Middle.f
  simp only [around n 1000000007 hn (by decide), Option.bind_some, w2, w1, w3]
  rw [← ep, ← eq]
  have := refNew_ev p q ⟨by omega, by omega⟩ ⟨by omega, by omega⟩
  rw [hl] at this
  exact Ev.bind this (Ev.some _)
end Go.Proofs.YtjpgommmkjgddaaDoor.Pure
