/- Mul, Div, Add, Sub, Compare of fractions come to plain functions on numbers. -/
import Derived.Test.YtjpgommmkjgddaaDoorMDiv64
import Derived.Test.YtjpgommmkjgddaaDoorPx11
import Derived.Test.YtjpgommmkjgddaaDoorPx8
namespace Go.Proofs.YtjpgommmkjgddaaDoor.Pure
open Go.RowKit Go.Proofs.YtjpgommmkjgddaaDoor.P Go.Proofs.YtjpgommmkjgddaaDoorW.PrintWords Go.Proofs.YtjpgommmkjgddaaDoorW.PrintLast Go.Proofs.YtjpgommmkjgddaaDoorW.PrintMore
set_option linter.unusedVariables false
set_option linter.unusedSimpArgs false

def In64 (x : Int) : Prop := -9223372036854775808 ≤ x ∧ x ≤ 9223372036854775807
theorem low_scale (neg : Bool) (n d k : Nat) (hk : 0 < k) : lowF neg (n * k) (d * k) = lowF neg n d := by
  unfold lowF
  rw [Nat.gcd_mul_right, Nat.mul_div_mul_right _ _ hk, Nat.mul_div_mul_right _ _ hk]
theorem low_coprime (neg : Bool) (p q : Nat) (h : Nat.gcd p q = 1) : lowF neg p q = madeF neg p q := by
  unfold lowF; rw [h, Nat.div_one, Nat.div_one]
theorem mul64N (x y : Nat) (hx : x < 18446744073709551616) (hy : y < 18446744073709551616) : bits_Mul64.f (x : Int) (y : Int) = some (((x * y / 18446744073709551616 : Nat) : Int), ((x * y % 18446744073709551616 : Nat) : Int)) := by
  unfold bits_Mul64.f
  rw [if_pos (by omega), mulN]
  congr 2
/-- The range check of a fraction of two products of two digits. -/
theorem made_two (neg : Bool) (p q : Nat) : Ev (fun k => if ((p / 18446744073709551616 : Nat) : Int) = 0 then (if ((q / 18446744073709551616 : Nat) : Int) = 0 then ((frac_made.f k neg ((p % 18446744073709551616 : Nat) : Int) ((q % 18446744073709551616 : Nat) : Int)).bind fun bt => Option.some (bt.1, bt.2.1, bt.2.2)) else Option.some (0, 0, 5)) else Option.some (0, 0, 5)) (madeF neg p q) := by
  by_cases h1 : p < 18446744073709551616
  · have e1 : p / 18446744073709551616 = 0 := by omega
    have e2 : p % 18446744073709551616 = p := by omega
    by_cases h2 : q < 18446744073709551616
    · have e3 : q / 18446744073709551616 = 0 := by omega
      have e4 : q % 18446744073709551616 = q := by omega
      simp only [e1, e2, e3, e4, Int.natCast_zero, if_true]
      exact Ev.bind (made_ev neg p q) (Ev.some _)
    · have e3 : ¬ (((q / 18446744073709551616 : Nat) : Int) = 0) := by omega
      simp only [e1, e3, Int.natCast_zero, if_true, if_false]
      have : madeF neg p q = (0, 0, 5) := by unfold madeF; rw [if_pos (by omega)]
      rw [this]; exact Ev.some _
  · have e3 : ¬ (((p / 18446744073709551616 : Nat) : Int) = 0) := by omega
    simp only [e3, if_false]
    have : madeF neg p q = (0, 0, 5) := by unfold madeF; rw [if_pos (by omega)]
    rw [this]; exact Ev.some _

/-! ### Mul, Div -/
def neq0 (a c : Int) : Bool := (decide (a < 0)) != (decide (c < 0))
def mulF (a b c d : Int) : Int × Int × Int := if ValidP a b ∧ ValidP c d then lowF (neq0 a c) (a.natAbs * c.natAbs) (b.natAbs * d.natAbs) else (0, 0, 1)
theorem cop_div {a g : Nat} (b : Nat) (h : Nat.gcd a b = 1) (hg : g ∣ a) : Nat.gcd (a / g) b = 1 := Nat.Coprime.coprime_dvd_left (Nat.div_dvd_of_dvd hg) h
theorem mul_ev (a b c d : Int) (ha : In64 a) (hb : In64 b) (hc : In64 c) (hd : In64 d) : Ev (fun k => frac_Mul.f k a b c d) (mulF a b c d) := by
  unfold frac_Mul.f mulF
  refine Ev.bind (valid_ev a b ha hb) ?_
  by_cases h1 : ValidP a b
  case neg =>
    simp only [h1, decide_false, Bool.false_eq_true, if_false, false_and]
    refine Ev.up ?_
    simp only [frac_Mul.j0, if_true]
    exact Ev.some _
  simp only [h1, decide_true, if_true, true_and]
  refine Ev.bind (valid_ev c d hc hd) ?_
  refine Ev.up ?_
  simp only [frac_Mul.j0]
  by_cases h2 : ValidP c d
  case neg =>
    simp only [h2, decide_false, Bool.not_false, if_true, if_false]
    exact Ev.some _
  simp only [h2, decide_true, Bool.not_true, Bool.false_eq_true, if_false, if_true, size_eq a ha.1 ha.2, size_eq c hc.1 hc.2, Option.bind_some]
  obtain ⟨b1, b2, a2, gab⟩ := h1
  obtain ⟨d1, d2, c2, gcd⟩ := h2
  rw [wu d (by omega) (by omega), wu b (by omega) (by omega)]
  obtain ⟨A, hA⟩ : ∃ A, A = a.natAbs := ⟨_, rfl⟩
  obtain ⟨C, hC⟩ : ∃ A, A = c.natAbs := ⟨_, rfl⟩
  obtain ⟨B, rfl⟩ := Int.eq_ofNat_of_zero_le (show 0 ≤ b by omega)
  obtain ⟨D, rfl⟩ := Int.eq_ofNat_of_zero_le (show 0 ≤ d by omega)
  simp only [Int.natAbs_natCast, ← hA, ← hC] at *
  refine Ev.bind (gcd_ev A D) ?_
  refine Ev.bind (gcd_ev C B) ?_
  have hg : 0 < Nat.gcd A D := Nat.gcd_pos_of_pos_right _ (by omega)
  have hh : 0 < Nat.gcd C B := Nat.gcd_pos_of_pos_right _ (by omega)
  have gA := Nat.gcd_dvd_left A D
  have gD := Nat.gcd_dvd_right A D
  have hC' := Nat.gcd_dvd_left C B
  have hB' := Nat.gcd_dvd_right C B
  have k1 : Nat.gcd (A / Nat.gcd A D) (D / Nat.gcd A D) = 1 := Nat.gcd_div_gcd_div_gcd_of_pos_right (by omega)
  have k2 : Nat.gcd (C / Nat.gcd C B) (B / Nat.gcd C B) = 1 := Nat.gcd_div_gcd_div_gcd_of_pos_right (by omega)
  have k3 : Nat.gcd (A / Nat.gcd A D) (B / Nat.gcd C B) = 1 := Nat.Coprime.coprime_dvd_left (Nat.div_dvd_of_dvd gA) (Nat.Coprime.coprime_dvd_right (Nat.div_dvd_of_dvd hB') gab)
  have k4 : Nat.gcd (C / Nat.gcd C B) (D / Nat.gcd A D) = 1 := Nat.Coprime.coprime_dvd_left (Nat.div_dvd_of_dvd hC') (Nat.Coprime.coprime_dvd_right (Nat.div_dvd_of_dvd gD) gcd)
  generalize Nat.gcd A D = g at *
  generalize Nat.gcd C B = h at *
  simp only [show ¬ ((g : Int) = 0) by omega, show ¬ ((h : Int) = 0) by omega, if_false, tdivN]
  have l1 : A / g ≤ A := Nat.div_le_self _ _
  have l2 : C / h ≤ C := Nat.div_le_self _ _
  have l3 : B / h ≤ B := Nat.div_le_self _ _
  have l4 : D / g ≤ D := Nat.div_le_self _ _
  have n1 : A = A / g * g := (Nat.div_mul_cancel gA).symm
  have n2 : C = C / h * h := (Nat.div_mul_cancel hC').symm
  have n3 : B = B / h * h := (Nat.div_mul_cancel hB').symm
  have n4 : D = D / g * g := (Nat.div_mul_cancel gD).symm
  generalize A / g = A' at *
  generalize C / h = C' at *
  generalize B / h = B' at *
  generalize D / g = D' at *
  rw [wuN A' (by omega), wuN C' (by omega), wuN B' (by omega), wuN D' (by omega), mul64N A' C' (by omega) (by omega), mul64N B' D' (by omega) (by omega)]
  simp only [Option.bind_some]
  have e : lowF (neq0 a c) (A * C) (B * D) = madeF (neq0 a c) (A' * C') (B' * D') := by
    have e1 : A * C = A' * C' * (g * h) := by rw [n1, n2]; grind
    have e2 : B * D = B' * D' * (g * h) := by rw [n3, n4]; grind
    rw [e1, e2, low_scale _ _ _ _ (Nat.mul_pos hg hh), low_coprime]
    exact Nat.Coprime.mul_left (Nat.Coprime.mul_right k3 k1) (Nat.Coprime.mul_right k2 k4)
  rw [e]
  exact made_two _ _ _
def divF (a b c d : Int) : Int × Int × Int := if ValidP a b ∧ ValidP c d then (if c = 0 then (0, 0, 6) else if c < 0 then mulF a b (-d) (-c) else mulF a b d c) else (0, 0, 1)
theorem div_ev (a b c d : Int) (ha : In64 a) (hb : In64 b) (hc : In64 c) (hd : In64 d) : Ev (fun k => frac_Div.f k a b c d) (divF a b c d) := by
  unfold frac_Div.f divF
  refine Ev.bind (valid_ev a b ha hb) ?_
  by_cases h1 : ValidP a b
  case neg =>
    simp only [h1, decide_false, Bool.false_eq_true, if_false, false_and]
    refine Ev.up ?_
    simp only [frac_Div.j0, if_true]
    exact Ev.some _
  simp only [h1, decide_true, if_true, true_and]
  refine Ev.bind (valid_ev c d hc hd) ?_
  refine Ev.up ?_
  simp only [frac_Div.j0]
  by_cases h2 : ValidP c d
  case neg =>
    simp only [h2, decide_false, Bool.not_false, if_true, if_false]
    exact Ev.some _
  simp only [h2, decide_true, Bool.not_true, Bool.false_eq_true, if_false, if_true]
  obtain ⟨d1, d2, c2, gcd⟩ := h2
  by_cases h3 : c = 0
  · simp only [h3, if_true]; exact Ev.some _
  · simp only [h3, if_false]
    by_cases h4 : c < 0
    · simp only [h4, if_true]
      rw [w64 (-d) (by omega) (by omega), w64 (-c) (by omega) (by omega)]
      exact Ev.bind (mul_ev a b (-d) (-c) ha hb ⟨by omega, by omega⟩ ⟨by omega, by omega⟩) (Ev.some _)
    · simp only [h4, if_false]
      exact Ev.bind (mul_ev a b d c ha hb hd hc) (Ev.some _)

/-! ### long numbers -/
abbrev longOf (z : Int) : Bool × Int × Int := (decide (z < 0), ((z.natAbs / 18446744073709551616 : Nat) : Int), ((z.natAbs % 18446744073709551616 : Nat) : Int))
set_option maxRecDepth 100000 in
theorem times_eq (a : Int) (ha : In64 a) (k : Nat) (hk : 0 < k) (hk2 : k < 18446744073709551616) : frac_times.f a (k : Int) = some (longOf (a * k)) := by
  unfold frac_times.f
  rw [size_eq a ha.1 ha.2, Option.bind_some]
  have : a.natAbs < 18446744073709551616 := by have := ha.1; have := ha.2; omega
  rw [mul64N _ _ this hk2, Option.bind_some]
  have e1 : (a * (k : Int)).natAbs = a.natAbs * k := by rw [Int.natAbs_mul, Int.natAbs_natCast]
  have e2 : decide (a * (k : Int) < 0) = decide (a < 0) := by
    rw [Bool.eq_iff_iff, decide_eq_true_iff, decide_eq_true_iff]
    constructor
    · intro h; exact Classical.byContradiction fun h2 => by have := Int.mul_nonneg (show 0 ≤ a by omega) (show 0 ≤ (k : Int) by omega); omega
    · intro h; exact Int.mul_neg_of_neg_of_pos h (by omega)
  unfold longOf
  rw [e1, e2]
theorem add64N (x y c : Nat) (hc : c ≤ 1) : bits_Add64.f (x : Int) (y : Int) (c : Int) = some ((((x + y + c) % 18446744073709551616 : Nat) : Int), (((x + y + c) / 18446744073709551616 : Nat) : Int)) := by
  unfold bits_Add64.f
  rw [if_pos (by omega)]
  congr 2
theorem sub64N (x y c : Nat) (hc : c ≤ 1) (hy : y < 18446744073709551616) : bits_Sub64.f (x : Int) (y : Int) (c : Int) = some (((x : Int) - y - c) % 18446744073709551616, ((if x < y + c then 1 else 0 : Nat) : Int)) := by
  unfold bits_Sub64.f
  rw [if_pos (by omega)]
  congr 2
  by_cases h : x < y + c
  · rw [if_pos h, if_pos (by omega)]; rfl
  · rw [if_neg h, if_neg (by omega)]; rfl
theorem bind3 {α β γ δ : Type} (o : Option (α × β × γ)) (f : α × β × γ → Option δ) : o.bind f = o.bind fun t => f (t.1, t.2.1, t.2.2) := by cases o <;> rfl
theorem long_sub (neg neg2 : Bool) (X Y : Nat) (h : Y ≤ X) (hX : X < 340282366920938463463374607431768211456) : Ev (fun k => frac_long_plus.j0 k neg ((X / 18446744073709551616 : Nat) : Int) ((X % 18446744073709551616 : Nat) : Int) neg2 ((Y / 18446744073709551616 : Nat) : Int) ((Y % 18446744073709551616 : Nat) : Int)) (if X = Y then (false, 0, 0) else (neg, (((X - Y) / 18446744073709551616 : Nat) : Int), (((X - Y) % 18446744073709551616 : Nat) : Int))) := by
  refine Ev.up ?_
  simp only [frac_long_plus.j0]
  have s1 := sub64N (X % 18446744073709551616) (Y % 18446744073709551616) 0 (by omega) (by omega)
  rw [Int.natCast_zero] at s1
  simp only [s1, Option.bind_some]
  have s2 := sub64N (X / 18446744073709551616) (Y / 18446744073709551616) (if X % 18446744073709551616 < Y % 18446744073709551616 + 0 then 1 else 0) (by split <;> omega) (by omega)
  simp only [s2, Option.bind_some]
  have lo : (((X % 18446744073709551616 : Nat) : Int) - ((Y % 18446744073709551616 : Nat) : Int) - 0) % 18446744073709551616 = (((X - Y) % 18446744073709551616 : Nat) : Int) := by omega
  have hi : (((X / 18446744073709551616 : Nat) : Int) - ((Y / 18446744073709551616 : Nat) : Int) - ((if X % 18446744073709551616 < Y % 18446744073709551616 + 0 then 1 else 0 : Nat) : Int)) % 18446744073709551616 = (((X - Y) / 18446744073709551616 : Nat) : Int) := by
    by_cases h1 : X % 18446744073709551616 < Y % 18446744073709551616 + 0
    · rw [if_pos h1]; omega
    · rw [if_neg h1]; omega
  rw [lo, hi]
  by_cases hz : X = Y
  · subst hz
    simp only [Nat.sub_self, Nat.zero_div, Nat.zero_mod, Int.natCast_zero, if_true]
    exact Ev.some _
  · rw [if_neg hz]
    by_cases h1 : (((X - Y) / 18446744073709551616 : Nat) : Int) = 0
    · by_cases h2 : (((X - Y) % 18446744073709551616 : Nat) : Int) = 0
      · exfalso; omega
      · simp only [h1, h2, if_true, if_false]
        exact Ev.some _
    · simp only [h1, if_false]
      exact Ev.some _
theorem long_plus (x y : Int) (hx : x.natAbs < 85070591730234615865843651857942052864) (hy : y.natAbs < 85070591730234615865843651857942052864) :
    Ev (fun k => frac_long_plus.f k (longOf x).1 (longOf x).2.1 (longOf x).2.2 (longOf y).1 (longOf y).2.1 (longOf y).2.2) (longOf (x + y)) := by
  unfold frac_long_plus.f
  simp only [longOf]
  by_cases hs : (decide (x < 0) == decide (y < 0)) = true
  · simp only [hs, if_true]
    have hs' : (x < 0 ↔ y < 0) := by rw [beq_iff_eq] at hs; constructor <;> intro h <;> simpa [h] using hs
    have s1 := add64N (x.natAbs % 18446744073709551616) (y.natAbs % 18446744073709551616) 0 (by omega)
    rw [Int.natCast_zero] at s1
    simp only [s1, Option.bind_some]
    have s2 := add64N (x.natAbs / 18446744073709551616) (y.natAbs / 18446744073709551616) ((x.natAbs % 18446744073709551616 + y.natAbs % 18446744073709551616 + 0) / 18446744073709551616) (by omega)
    simp only [s2, Option.bind_some]
    have e : (x + y).natAbs = x.natAbs + y.natAbs := by omega
    have e0 : decide (x + y < 0) = decide (x < 0) := by rw [Bool.eq_iff_iff, decide_eq_true_iff, decide_eq_true_iff]; omega
    rw [e, e0]
    have lo : (x.natAbs % 18446744073709551616 + y.natAbs % 18446744073709551616 + 0) % 18446744073709551616 = (x.natAbs + y.natAbs) % 18446744073709551616 := by omega
    have hi : (x.natAbs / 18446744073709551616 + y.natAbs / 18446744073709551616 + (x.natAbs % 18446744073709551616 + y.natAbs % 18446744073709551616 + 0) / 18446744073709551616) % 18446744073709551616 = (x.natAbs + y.natAbs) / 18446744073709551616 := by omega
    rw [lo, hi]
    exact Ev.some _
  · simp only [hs, if_false, Bool.false_eq_true]
    have hs' : ¬ (x < 0 ↔ y < 0) := by
      intro h; apply hs
      rw [beq_iff_eq, Bool.eq_iff_iff, decide_eq_true_iff, decide_eq_true_iff]; exact h
    have hl : frac_long_less.f (decide (x < 0)) ((x.natAbs / 18446744073709551616 : Nat) : Int) ((x.natAbs % 18446744073709551616 : Nat) : Int) (decide (y < 0)) ((y.natAbs / 18446744073709551616 : Nat) : Int) ((y.natAbs % 18446744073709551616 : Nat) : Int) = Option.some (decide (x.natAbs < y.natAbs)) := by
      unfold frac_long_less.f
      by_cases h1 : ((x.natAbs / 18446744073709551616 : Nat) : Int) < ((y.natAbs / 18446744073709551616 : Nat) : Int)
      · rw [if_pos h1]; congr 1; rw [eq_comm, decide_eq_true_iff]; omega
      · rw [if_neg h1]
        by_cases h2 : ((x.natAbs / 18446744073709551616 : Nat) : Int) = ((y.natAbs / 18446744073709551616 : Nat) : Int)
        · rw [if_pos h2]; congr 1; rw [Bool.eq_iff_iff, decide_eq_true_iff, decide_eq_true_iff]; omega
        · rw [if_neg h2]; congr 1; rw [eq_comm, decide_eq_false_iff_not]; omega
    simp only [hl, Option.bind_some]
    by_cases hlt : x.natAbs < y.natAbs
    · simp only [hlt, decide_true, if_true]
      have := long_sub (decide (y < 0)) (decide (x < 0)) y.natAbs x.natAbs (by omega) (by omega)
      rw [if_neg (by omega)] at this
      have e : (x + y).natAbs = y.natAbs - x.natAbs := by omega
      have e0 : decide (x + y < 0) = decide (y < 0) := by rw [Bool.eq_iff_iff, decide_eq_true_iff, decide_eq_true_iff]; omega
      rw [e, e0]
      exact this
    · simp only [hlt, decide_false, Bool.false_eq_true, if_false]
      have := long_sub (decide (x < 0)) (decide (y < 0)) x.natAbs y.natAbs (by omega) (by omega)
      by_cases hz : x.natAbs = y.natAbs
      · rw [if_pos hz] at this
        have e : x + y = 0 := by omega
        rw [e]
        exact this
      · rw [if_neg hz] at this
        have e : (x + y).natAbs = x.natAbs - y.natAbs := by omega
        have e0 : decide (x + y < 0) = decide (x < 0) := by rw [Bool.eq_iff_iff, decide_eq_true_iff, decide_eq_true_iff]; omega
        rw [e, e0]
        exact this

/-! ### Compare -/
theorem frac_unique {a b c d : Int} (h1 : ValidP a b) (h2 : ValidP c d) (h : a * d = c * b) : a = c ∧ b = d := by
  obtain ⟨b1, b2, a2, gab⟩ := h1
  obtain ⟨d1, d2, c2, gcd⟩ := h2
  obtain ⟨B, rfl⟩ := Int.eq_ofNat_of_zero_le (show 0 ≤ b by omega)
  obtain ⟨D, rfl⟩ := Int.eq_ofNat_of_zero_le (show 0 ≤ d by omega)
  have hn : a.natAbs * D = c.natAbs * B := by
    have := congrArg Int.natAbs h
    rw [Int.natAbs_mul, Int.natAbs_mul, Int.natAbs_natCast, Int.natAbs_natCast] at this
    exact this
  rw [Int.natAbs_natCast] at gab gcd
  have e1 : B ∣ D := Nat.Coprime.dvd_of_dvd_mul_left (Nat.Coprime.symm gab) ⟨c.natAbs, by rw [hn, Nat.mul_comm]⟩
  have e2 : D ∣ B := Nat.Coprime.dvd_of_dvd_mul_left (Nat.Coprime.symm gcd) ⟨a.natAbs, by rw [← hn, Nat.mul_comm]⟩
  have e3 : B = D := Nat.dvd_antisymm e1 e2
  subst e3
  exact ⟨Int.eq_of_mul_eq_mul_right (by omega) h, rfl⟩
def cmpZ (x y : Int) : Int := if x < y then -1 else if x = y then 0 else 1
def cmpF (a b c d : Int) : Int := if ValidP a b ∧ ValidP c d then cmpZ (a * d) (c * b) else 0
theorem abs_mul_lt {a : Int} {k : Nat} (ha : a.natAbs ≤ 4611686018427387904) (hk : k ≤ 4611686018427387904) : (a * (k : Int)).natAbs < 85070591730234615865843651857942052864 := by
  rw [Int.natAbs_mul, Int.natAbs_natCast]
  exact Nat.lt_of_le_of_lt (Nat.mul_le_mul ha hk) (by decide)
theorem compare_ev (a b c d : Int) (ha : In64 a) (hb : In64 b) (hc : In64 c) (hd : In64 d) : Ev (fun k => frac_Compare.f k a b c d) (cmpF a b c d) := by
  unfold frac_Compare.f cmpF
  refine Ev.bind (valid_ev a b ha hb) ?_
  by_cases h1 : ValidP a b
  case neg =>
    simp only [h1, decide_false, Bool.false_eq_true, if_false, false_and]
    refine Ev.up ?_
    simp only [frac_Compare.j0, if_true]
    exact Ev.some _
  simp only [h1, decide_true, if_true, true_and]
  refine Ev.bind (valid_ev c d hc hd) ?_
  by_cases h2 : ValidP c d
  case neg =>
    simp only [h2, decide_false, Bool.false_eq_true, if_false]
    refine Ev.up ?_
    simp only [frac_Compare.j0, if_true]
    exact Ev.some _
  simp only [h2, decide_true, if_true]
  refine Ev.up ?_
  simp only [frac_Compare.j0]
  by_cases h3 : (a == c && b == d) = true
  · simp only [h3, if_true]
    rw [Bool.and_eq_true, beq_iff_eq, beq_iff_eq] at h3
    rw [h3.1, h3.2]
    unfold cmpZ
    rw [if_neg (by omega), if_pos rfl]
    exact Ev.some _
  · simp only [h3, if_false, Bool.false_eq_true]
    have hne : a * d ≠ c * b := fun e => h3 (by obtain ⟨e1, e2⟩ := frac_unique h1 h2 e; rw [e1, e2]; simp)
    obtain ⟨b1, b2, a2, gab⟩ := h1
    obtain ⟨d1, d2, c2, gcd⟩ := h2
    obtain ⟨B, rfl⟩ := Int.eq_ofNat_of_zero_le (show 0 ≤ b by omega)
    obtain ⟨D, rfl⟩ := Int.eq_ofNat_of_zero_le (show 0 ≤ d by omega)
    rw [w64 (-c) (by omega) (by omega), wuN D (by omega), wuN B (by omega), times_eq a ha D (by omega) (by omega), times_eq (-c) ⟨by omega, by omega⟩ B (by omega) (by omega)]
    simp only [Option.bind_some]
    refine Ev.bind (long_plus _ _ (abs_mul_lt a2 (by omega)) (abs_mul_lt (by omega) (by omega))) ?_
    have e : a * (D : Int) + -c * (B : Int) = a * D - c * B := by rw [Int.neg_mul]; omega
    simp only [longOf]
    rw [e]
    unfold cmpZ
    by_cases h4 : a * (D : Int) < c * (B : Int)
    · rw [if_pos h4]
      simp only [show (a * (D : Int) - c * (B : Int) < 0) by omega, decide_true, if_true]
      exact Ev.some _
    · rw [if_neg h4, if_neg hne]
      simp only [show ¬ (a * (D : Int) - c * (B : Int) < 0) by omega, decide_false, Bool.false_eq_true, if_false]
      exact Ev.some _

/-! ### Add, Sub -/
theorem rem64_ev (S y : Nat) (hy : 0 < y) (hy2 : y < 18446744073709551616) : Ev (fun k => bits_Rem64.f k ((S / 18446744073709551616 : Nat) : Int) ((S % 18446744073709551616 : Nat) : Int) (y : Int)) ((S % y : Nat) : Int) := by
  unfold bits_Rem64.f
  simp only [show ¬ ((y : Int) = 0) by omega, if_false, tmodN]
  have := div64_ev (S / 18446744073709551616 % y) (S % 18446744073709551616) y (Nat.mod_lt _ hy) hy2 (by omega)
  have e : (S / 18446744073709551616 % y * 18446744073709551616 + S % 18446744073709551616) % y = S % y := by
    have h1 : S = S / 18446744073709551616 * 18446744073709551616 + S % 18446744073709551616 := by omega
    conv => rhs; rw [h1]
    rw [Nat.add_mod, Nat.mul_mod, Nat.mod_mod, ← Nat.mul_mod, ← Nat.add_mod]
  rw [e] at this
  exact Ev.bind this (Ev.some _)
theorem over_ev (neg : Bool) (S y : Nat) (hy : 0 < y) (hy2 : y < 18446744073709551616) (hS : S / 18446744073709551616 < 18446744073709551616) : Ev (fun k => frac_long_over.f k neg ((S / 18446744073709551616 : Nat) : Int) ((S % 18446744073709551616 : Nat) : Int) (y : Int))
    ((((S / 18446744073709551616 % y * 18446744073709551616 + S % 18446744073709551616) / y : Nat) : Int), decide (S / 18446744073709551616 / y = 0)) := by
  unfold frac_long_over.f
  simp only [show ¬ ((y : Int) = 0) by omega, if_false, tmodN, tdivN]
  rw [wuN _ (Nat.lt_of_le_of_lt (Nat.div_le_self _ _) hS)]
  refine Ev.bind (div64_ev (S / 18446744073709551616 % y) (S % 18446744073709551616) y (Nat.mod_lt _ hy) hy2 (by omega)) ?_
  have : (((S / 18446744073709551616 / y : Nat) : Int) == 0) = decide (S / 18446744073709551616 / y = 0) := by
    rw [Bool.eq_iff_iff, beq_iff_eq, decide_eq_true_iff]
    exact Int.natCast_eq_zero
  rw [this]
  exact Ev.some _
def lowS (N D : Int) : Int × Int × Int := lowF (decide (N < 0)) N.natAbs D.natAbs
def addF (a b c d : Int) : Int × Int × Int := if ValidP a b ∧ ValidP c d then lowS (a * d + c * b) (b * d) else (0, 0, 1)
theorem add_core (a c : Int) (B D : Nat) (hB : 0 < B) (hD : 0 < D) (gab : Nat.gcd a.natAbs B = 1) (gcd : Nat.gcd c.natAbs D = 1) (s : Int) (hs : s = a * ((D / Nat.gcd B D : Nat) : Int) + c * ((B / Nat.gcd B D : Nat) : Int)) :
    lowS (a * D + c * B) ((B : Int) * D) = madeF (decide (s < 0)) (s.natAbs / Nat.gcd (Nat.gcd B D) s.natAbs) (B / Nat.gcd B D * (D / Nat.gcd (Nat.gcd B D) s.natAbs)) := by
  have hg : 0 < Nat.gcd B D := Nat.gcd_pos_of_pos_right _ hD
  have k1 : Nat.gcd (B / Nat.gcd B D) (D / Nat.gcd B D) = 1 := Nat.gcd_div_gcd_div_gcd_of_pos_right hD
  have gB := Nat.gcd_dvd_left B D
  have gD := Nat.gcd_dvd_right B D
  generalize Nat.gcd B D = g at *
  have n3 : B = B / g * g := (Nat.div_mul_cancel gB).symm
  have n4 : D = D / g * g := (Nat.div_mul_cancel gD).symm
  generalize B / g = B' at *
  generalize D / g = D' at *
  have hN : a * D + c * B = s * g := by
    rw [hs, n3, n4]
    simp only [Int.natCast_mul]
    grind
  -- s is prime to B' and to D'
  have p1 : Nat.gcd s.natAbs B' = 1 := by
    have q1 : Nat.gcd (a.natAbs * D') B' = 1 := Nat.Coprime.mul_left (Nat.Coprime.coprime_dvd_right ⟨g, n3⟩ gab) (Nat.Coprime.symm k1)
    have q2 := Nat.gcd_dvd_left s.natAbs B'
    have q3 := Nat.gcd_dvd_right s.natAbs B'
    have q4 : ((Nat.gcd s.natAbs B' : Nat) : Int) ∣ a * (D' : Int) := by
      have r1 : ((Nat.gcd s.natAbs B' : Nat) : Int) ∣ s := Int.ofNat_dvd_left.2 q2
      have r2 : ((Nat.gcd s.natAbs B' : Nat) : Int) ∣ c * (B' : Int) := Int.dvd_trans (Int.natCast_dvd_natCast.2 q3) (Int.dvd_mul_left _ _)
      have : a * (D' : Int) = s - c * (B' : Int) := by omega
      rw [this]; exact Int.dvd_sub r1 r2
    have q5 : Nat.gcd s.natAbs B' ∣ a.natAbs * D' := by
      have := Int.ofNat_dvd_left.1 q4
      rw [Int.natAbs_mul, Int.natAbs_natCast] at this
      exact this
    have := Nat.dvd_gcd q5 q3
    rw [q1] at this
    exact Nat.dvd_one.1 this
  have p2 : Nat.gcd s.natAbs D' = 1 := by
    have q1 : Nat.gcd (c.natAbs * B') D' = 1 := Nat.Coprime.mul_left (Nat.Coprime.coprime_dvd_right ⟨g, n4⟩ gcd) k1
    have q2 := Nat.gcd_dvd_left s.natAbs D'
    have q3 := Nat.gcd_dvd_right s.natAbs D'
    have q4 : ((Nat.gcd s.natAbs D' : Nat) : Int) ∣ c * (B' : Int) := by
      have r1 : ((Nat.gcd s.natAbs D' : Nat) : Int) ∣ s := Int.ofNat_dvd_left.2 q2
      have r2 : ((Nat.gcd s.natAbs D' : Nat) : Int) ∣ a * (D' : Int) := Int.dvd_trans (Int.natCast_dvd_natCast.2 q3) (Int.dvd_mul_left _ _)
      have : c * (B' : Int) = s - a * (D' : Int) := by omega
      rw [this]; exact Int.dvd_sub r1 r2
    have q5 : Nat.gcd s.natAbs D' ∣ c.natAbs * B' := by
      have := Int.ofNat_dvd_left.1 q4
      rw [Int.natAbs_mul, Int.natAbs_natCast] at this
      exact this
    have := Nat.dvd_gcd q5 q3
    rw [q1] at this
    exact Nat.dvd_one.1 this
  have p3 : Nat.gcd s.natAbs D = Nat.gcd g s.natAbs := by
    conv => lhs; rw [n4]
    rw [Nat.Coprime.gcd_mul_left_cancel_right g (Nat.Coprime.symm p2), Nat.gcd_comm]
  have hh : 0 < Nat.gcd g s.natAbs := Nat.gcd_pos_of_pos_left _ hg
  have hS' := Nat.gcd_dvd_right g s.natAbs
  have hDh : Nat.gcd g s.natAbs ∣ D := by rw [← p3]; exact Nat.gcd_dvd_right _ _
  have p4 : Nat.gcd (s.natAbs / Nat.gcd g s.natAbs) (D / Nat.gcd g s.natAbs) = 1 := by rw [← p3]; exact Nat.gcd_div_gcd_div_gcd_of_pos_right hD
  have p5 : Nat.gcd (s.natAbs / Nat.gcd g s.natAbs) B' = 1 := Nat.Coprime.coprime_dvd_left (Nat.div_dvd_of_dvd hS') p1
  have m1 : s.natAbs = s.natAbs / Nat.gcd g s.natAbs * Nat.gcd g s.natAbs := (Nat.div_mul_cancel hS').symm
  have m2 : D = D / Nat.gcd g s.natAbs * Nat.gcd g s.natAbs := (Nat.div_mul_cancel hDh).symm
  have e0 : decide (a * D + c * B < 0) = decide (s < 0) := by
    rw [hN, Bool.eq_iff_iff, decide_eq_true_iff, decide_eq_true_iff]
    constructor
    · intro h; exact Classical.byContradiction fun h2 => by have := Int.mul_nonneg (show 0 ≤ s by omega) (show 0 ≤ (g : Int) by omega); omega
    · intro h; exact Int.mul_neg_of_neg_of_pos h (by omega)
  unfold lowS
  rw [e0, hN, Int.natAbs_mul, Int.natAbs_mul, Int.natAbs_natCast, Int.natAbs_natCast, Int.natAbs_natCast]
  have e1 : B * D = B' * D * g := by conv => lhs; rw [n3]
                                     grind
  rw [e1, low_scale _ _ _ _ hg]
  generalize Nat.gcd g s.natAbs = h at *
  have e2 : lowF (decide (s < 0)) s.natAbs (B' * D) = lowF (decide (s < 0)) (s.natAbs / h) (B' * (D / h)) := by
    conv => lhs; rw [m1, m2]
    rw [← Nat.mul_assoc, low_scale _ _ _ _ hh]
  rw [e2, low_coprime]
  exact Nat.Coprime.mul_right p5 p4
theorem add_zero (a c : Int) (B D : Nat) (hB : 0 < B) (hD : 0 < D) (hs : a * ((D / Nat.gcd B D : Nat) : Int) + c * ((B / Nat.gcd B D : Nat) : Int) = 0) : lowS (a * D + c * B) ((B : Int) * D) = (0, 1, 0) := by
  have gB := Nat.gcd_dvd_left B D
  have gD := Nat.gcd_dvd_right B D
  generalize Nat.gcd B D = g at *
  have n3 : B = B / g * g := (Nat.div_mul_cancel gB).symm
  have n4 : D = D / g * g := (Nat.div_mul_cancel gD).symm
  generalize B / g = B' at *
  generalize D / g = D' at *
  have hN : a * (D : Int) + c * (B : Int) = 0 := by
    have : a * (D : Int) + c * (B : Int) = (a * (D' : Int) + c * (B' : Int)) * g := by
      rw [n3, n4]
      simp only [Int.natCast_mul]
      grind
    rw [this, hs, Int.zero_mul]
  unfold lowS
  rw [hN, Int.natAbs_mul, Int.natAbs_natCast, Int.natAbs_natCast]
  have hp : 0 < B * D := Nat.mul_pos hB hD
  generalize B * D = x at *
  unfold lowF
  have : Nat.gcd (0 : Int).natAbs x = x := Nat.gcd_zero_left x
  rw [this, Nat.div_self hp]
  have : (0 : Int).natAbs / x = 0 := Nat.zero_div x
  rw [this]
  rfl
theorem add_ev (a b c d : Int) (ha : In64 a) (hb : In64 b) (hc : In64 c) (hd : In64 d) : Ev (fun k => frac_Add.f k a b c d) (addF a b c d) := by
  unfold frac_Add.f addF
  refine Ev.bind (valid_ev a b ha hb) ?_
  by_cases h1 : ValidP a b
  case neg =>
    simp only [h1, decide_false, Bool.false_eq_true, if_false, false_and]
    refine Ev.up ?_
    simp only [frac_Add.j0, if_true]
    exact Ev.some _
  simp only [h1, decide_true, if_true, true_and]
  refine Ev.bind (valid_ev c d hc hd) ?_
  refine Ev.up ?_
  simp only [frac_Add.j0]
  by_cases h2 : ValidP c d
  case neg =>
    simp only [h2, decide_false, Bool.not_false, if_true, if_false]
    exact Ev.some _
  simp only [h2, decide_true, Bool.not_true, Bool.false_eq_true, if_false, if_true]
  obtain ⟨b1, b2, a2, gab⟩ := h1
  obtain ⟨d1, d2, c2, gcd⟩ := h2
  obtain ⟨B, rfl⟩ := Int.eq_ofNat_of_zero_le (show 0 ≤ b by omega)
  obtain ⟨D, rfl⟩ := Int.eq_ofNat_of_zero_le (show 0 ≤ d by omega)
  rw [Int.natAbs_natCast] at gab gcd
  rw [wuN D (by omega), wuN B (by omega)]
  refine Ev.bind (gcd_ev B D) ?_
  have hg : 0 < Nat.gcd B D := Nat.gcd_pos_of_pos_right _ (by omega)
  have core := add_core a c B D (by omega) (by omega) gab gcd _ rfl
  have core0 := add_zero a c B D (by omega) (by omega)
  have gB := Nat.gcd_dvd_left B D
  have gD := Nat.gcd_dvd_right B D
  have gle : Nat.gcd B D ≤ B := Nat.gcd_le_left _ (by omega)
  have l1 : B / Nat.gcd B D ≤ B := Nat.div_le_self _ _
  have l2 : D / Nat.gcd B D ≤ D := Nat.div_le_self _ _
  have l3 : 0 < D / Nat.gcd B D := Nat.div_pos (Nat.le_of_dvd (by omega) gD) hg
  have l4 : 0 < B / Nat.gcd B D := Nat.div_pos (Nat.le_of_dvd (by omega) gB) hg
  generalize Nat.gcd B D = g at *
  simp only [show ¬ ((g : Int) = 0) by omega, if_false, tdivN]
  generalize B / g = B' at *
  generalize D / g = D' at *
  rw [wuN D' (by omega), wuN B' (by omega), times_eq a ha D' l3 (by omega), times_eq c hc B' l4 (by omega)]
  simp only [Option.bind_some]
  refine Ev.bind (long_plus _ _ (abs_mul_lt a2 (by omega)) (abs_mul_lt c2 (by omega))) ?_
  have bs : (a * (D' : Int) + c * (B' : Int)).natAbs < 170141183460469231731687303715884105728 := by
    have e1 := abs_mul_lt (k := D') a2 (by omega)
    have e2 := abs_mul_lt (k := B') c2 (by omega)
    have := Int.natAbs_add_le (a * (D' : Int)) (c * (B' : Int))
    omega
  obtain ⟨s, es⟩ : ∃ s, s = a * (D' : Int) + c * (B' : Int) := ⟨_, rfl⟩
  rw [← es] at bs core core0 ⊢
  simp only [longOf]
  have hz : (!(decide (s < 0)) && (((s.natAbs / 18446744073709551616 : Nat) : Int) == 0 && ((s.natAbs % 18446744073709551616 : Nat) : Int) == 0)) = decide (s = 0) := by
    rw [Bool.eq_iff_iff]
    simp only [Bool.and_eq_true, Bool.not_eq_true', decide_eq_false_iff_not, beq_iff_eq, decide_eq_true_iff]
    omega
  rw [hz]
  by_cases h0 : s = 0
  · rw [core0 h0]
    simp only [h0, decide_true, if_true]
    exact Ev.some _
  · rw [core]
    simp only [h0, decide_false, Bool.false_eq_true, if_false]
    refine Ev.bind (rem64_ev s.natAbs g hg (by omega)) ?_
    refine Ev.bind (gcd_ev (s.natAbs % g) g) ?_
    rw [← Nat.gcd_rec g s.natAbs]
    have hh : 0 < Nat.gcd g s.natAbs := Nat.gcd_pos_of_pos_left _ hg
    have hle : Nat.gcd g s.natAbs ≤ g := Nat.gcd_le_left _ hg
    obtain ⟨h, eh⟩ : ∃ h, h = Nat.gcd g s.natAbs := ⟨_, rfl⟩
    rw [← eh] at hh hle ⊢
    refine Ev.bind (over_ev _ s.natAbs h hh (by omega) (by omega)) ?_
    have l5 : D / h ≤ D := Nat.div_le_self _ _
    simp only [show ¬ ((h : Int) = 0) by omega, if_false, tdivN]
    rw [wuN (D / h) (by omega), mul64N B' (D / h) (by omega) (by omega)]
    simp only [Option.bind_some]
    by_cases hsm : s.natAbs / 18446744073709551616 / h = 0
    · have e1 : s.natAbs / 18446744073709551616 % h = s.natAbs / 18446744073709551616 := Nat.mod_eq_of_lt (by
        rcases Nat.div_eq_zero_iff.1 hsm with h5 | h5
        · omega
        · exact h5)
      have e2 : (s.natAbs / 18446744073709551616 * 18446744073709551616 + s.natAbs % 18446744073709551616) / h = s.natAbs / h := by
        congr 1; omega
      have e3 : s.natAbs / h < 18446744073709551616 := by
        rw [Nat.div_lt_iff_lt_mul hh]
        have := (Nat.div_eq_zero_iff.1 hsm).resolve_left (by omega)
        omega
      simp only [hsm, decide_true, if_true]
      rw [e1, e2]
      have m := made_two (decide (s < 0)) (s.natAbs / h) (B' * (D / h))
      have e4 : s.natAbs / h / 18446744073709551616 = 0 := Nat.div_eq_of_lt e3
      have e5 : s.natAbs / h % 18446744073709551616 = s.natAbs / h := Nat.mod_eq_of_lt e3
      rw [e4, e5] at m
      simp only [Int.natCast_zero, if_true] at m
      exact m
    · simp only [hsm, decide_false, Bool.false_eq_true, if_false]
      have : madeF (decide (s < 0)) (s.natAbs / h) (B' * (D / h)) = (0, 0, 5) := by
        unfold madeF
        rw [if_pos]
        left
        have : 18446744073709551616 ≤ s.natAbs / h := by
          rw [Nat.le_div_iff_mul_le hh]
          have : ¬ (s.natAbs / 18446744073709551616 < h) := fun h5 => hsm (Nat.div_eq_zero_iff.2 (.inr h5))
          omega
        omega
      rw [this]
      exact Ev.some _
end Go.Proofs.YtjpgommmkjgddaaDoor.Pure
