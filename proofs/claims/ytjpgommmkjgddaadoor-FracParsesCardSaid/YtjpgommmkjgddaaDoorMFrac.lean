/- Fractions: size, gcd, made, New, Valid and their references come to plain functions on numbers. -/
import Derived.Test.YtjpgommmkjgddaaDoorPx5
import Derived.Test.YtjpgommmkjgddaaDoorPx12
namespace Go.Proofs.YtjpgommmkjgddaaDoor.Pure
open Go.RowKit Go.Proofs.YtjpgommmkjgddaaDoor.P Go.Proofs.YtjpgommmkjgddaaDoorW.PrintWords Go.Proofs.YtjpgommmkjgddaaDoorW.PrintLast Go.Proofs.YtjpgommmkjgddaaDoorW.PrintMore
set_option linter.unusedVariables false
set_option linter.unusedSimpArgs false

theorem w64 (x : Int) (h0 : -9223372036854775808 ≤ x) (h1 : x ≤ 9223372036854775807) : wrap64 x = x := by unfold wrap64; omega
theorem wu (x : Int) (h0 : 0 ≤ x) (h1 : x < 18446744073709551616) : IntKind.u64.wrap x = x := by rw [IntKind.wrap_u64]; omega
theorem wuN (p : Nat) (h : p < 18446744073709551616) : IntKind.u64.wrap (p : Int) = (p : Int) := wu _ (Int.natCast_nonneg _) (by omega)
theorem wf64 {x : Int} (h : (Lit.int .i64 x).wf = true) : -9223372036854775808 ≤ x ∧ x ≤ 9223372036854775807 := by
  simp only [Lit.wf, Bool.and_eq_true, decide_eq_true_eq] at h
  have a : IntKind.i64.min = -9223372036854775808 := by decide
  have b : IntKind.i64.max = 9223372036854775807 := by decide
  rw [a, b] at h
  exact h
theorem wfMk {x : Int} (h0 : -9223372036854775808 ≤ x) (h1 : x ≤ 9223372036854775807) : (Lit.int .i64 x).wf = true := by
  simp only [Lit.wf, Bool.and_eq_true, decide_eq_true_eq]
  have a : IntKind.i64.min = -9223372036854775808 := by decide
  have b : IntKind.i64.max = 9223372036854775807 := by decide
  rw [a, b]; omega
theorem Ev.some {α : Type} (r : α) : Ev (fun _ => Option.some r) r := ⟨0, fun _ _ => rfl⟩
theorem Ev.up {α : Type} {g : Nat → Option α} {r : α} (h : Ev (fun k => g (k + 1)) r) : Ev g r := Ev.step (fun _ => rfl) h

/-! ### size, gcd -/
theorem size_eq (a : Int) (h0 : -9223372036854775808 ≤ a) (h1 : a ≤ 9223372036854775807) : frac_size.f a = some (a.natAbs : Int) := by
  unfold frac_size.f
  by_cases h : a < 0
  · rw [if_pos h]
    congr 1
    rw [IntKind.wrap_u64, IntKind.wrap_u64]; omega
  · rw [if_neg h]
    congr 1
    rw [IntKind.wrap_u64]; omega
theorem refSize_eq (a : Int) (h0 : -9223372036854775808 ≤ a) (h1 : a ≤ 9223372036854775807) : intervalmonref03_Size.f a = some (a.natAbs : Int) := size_eq a h0 h1
theorem tmodN (a b : Nat) : Int.tmod (a : Int) (b : Int) = ((a % b : Nat) : Int) := by
  rw [Int.tmod_eq_emod_of_nonneg (by omega)]; rfl
theorem tdivN (a b : Nat) : Int.tdiv (a : Int) (b : Int) = ((a / b : Nat) : Int) := by
  rw [Int.tdiv_eq_ediv_of_nonneg (by omega)]; rfl
theorem gcd_loop (b : Nat) : ∀ a : Nat, Ev (fun k => frac_gcd_uint64.l0 k (a : Int) (b : Int)) (Nat.gcd a b : Int) := by
  induction b using Nat.strongRecOn with
  | ind b ih =>
    intro a
    refine Ev.up ?_
    simp only [frac_gcd_uint64.l0]
    by_cases h : b = 0
    · subst h
      simp only [Int.natCast_zero, if_true, Nat.gcd_zero_right]
      exact Ev.some _
    · simp only [show ¬ ((b : Int) = 0) by omega, if_false, tmodN]
      have := ih (a % b) (Nat.mod_lt _ (by omega)) b
      rw [Nat.gcd_comm b (a % b), ← Nat.gcd_rec, Nat.gcd_comm] at this
      exact this
theorem gcd_ev (a b : Nat) : Ev (fun k => frac_gcd_uint64.f k (a : Int) (b : Int)) (Nat.gcd a b : Int) := gcd_loop b a
theorem refCommon_loop (b : Nat) : ∀ a : Nat, Ev (fun k => intervalmonref03_common.l0 k (a : Int) (b : Int)) (Nat.gcd a b : Int) := by
  induction b using Nat.strongRecOn with
  | ind b ih =>
    intro a
    refine Ev.up ?_
    simp only [intervalmonref03_common.l0]
    by_cases h : b = 0
    · subst h
      simp only [Int.natCast_zero, if_true, Nat.gcd_zero_right]
      exact Ev.some _
    · simp only [show ¬ ((b : Int) = 0) by omega, if_false, tmodN]
      have := ih (a % b) (Nat.mod_lt _ (by omega)) b
      rw [Nat.gcd_comm b (a % b), ← Nat.gcd_rec, Nat.gcd_comm] at this
      exact this
theorem refCommon_ev (a b : Nat) : Ev (fun k => intervalmonref03_common.f k (a : Int) (b : Int)) (Nat.gcd a b : Int) := refCommon_loop b a

/-! ### made, New -/
/-- The fraction with a sign and two parts, if they are in range. -/
def madeF (neg : Bool) (p q : Nat) : Int × Int × Int := if 4611686018427387904 < p ∨ 4611686018427387904 < q then (0, 0, 5) else (if neg = true then -(p : Int) else (p : Int), (q : Int), 0)
theorem made_ev (neg : Bool) (p q : Nat) : Ev (fun k => frac_made.f k neg (p : Int) (q : Int)) (madeF neg p q) := by
  unfold frac_made.f madeF
  by_cases h : 4611686018427387904 < p
  · simp only [show ((p : Int) > 4611686018427387904) by omega, if_true, h, true_or]
    refine Ev.up ?_
    simp only [frac_made.j0, if_true]
    exact Ev.some _
  · simp only [show ¬ ((p : Int) > 4611686018427387904) by omega, if_false, h, false_or]
    refine Ev.up ?_
    simp only [frac_made.j0]
    by_cases h2 : 4611686018427387904 < q
    · simp only [show ((q : Int) > 4611686018427387904) by omega, decide_true, if_true, h2]
      exact Ev.some _
    · simp only [show ¬ ((q : Int) > 4611686018427387904) by omega, decide_false, Bool.false_eq_true, if_false, h2]
      rw [w64 (p : Int) (by omega) (by omega), w64 (q : Int) (by omega) (by omega), w64 (-(p : Int)) (by omega) (by omega)]
      cases neg
      · simp only [Bool.false_eq_true, if_false]; exact Ev.some _
      · simp only [if_true]; exact Ev.some _
/-- n / d in lowest terms. -/
def lowF (neg : Bool) (n d : Nat) : Int × Int × Int := madeF neg (n / Nat.gcd n d) (d / Nat.gcd n d)
def newF (n d : Int) : Int × Int × Int :=
  if d = 0 then (0, 0, 6) else if n = -9223372036854775808 ∨ d = -9223372036854775808 then (0, 0, 5) else lowF ((decide (n < 0)) != (decide (d < 0))) n.natAbs d.natAbs
theorem new_ev (n d : Int) (hn : -9223372036854775808 ≤ n ∧ n ≤ 9223372036854775807) (hd : -9223372036854775808 ≤ d ∧ d ≤ 9223372036854775807) : Ev (fun k => frac_New.f k n d) (newF n d) := by
  unfold frac_New.f newF
  by_cases h0 : d = 0
  · simp only [h0, if_true]; exact Ev.some _
  · simp only [h0, if_false]
    by_cases h1 : n = -9223372036854775808
    · simp only [h1, if_true, true_or]
      refine Ev.up ?_
      simp only [frac_New.j0, if_true]
      exact Ev.some _
    · simp only [h1, if_false, false_or]
      refine Ev.up ?_
      simp only [frac_New.j0, beq_iff_eq]
      by_cases h2 : d = -9223372036854775808
      · simp only [h2, if_true]; exact Ev.some _
      · simp only [h2, if_false, size_eq n hn.1 hn.2, size_eq d hd.1 hd.2, Option.bind_some]
        refine Ev.bind (gcd_ev n.natAbs d.natAbs) ?_
        have hg : 0 < Nat.gcd n.natAbs d.natAbs := Nat.gcd_pos_of_pos_right _ (by omega)
        have b1 : n.natAbs / Nat.gcd n.natAbs d.natAbs ≤ n.natAbs := Nat.div_le_self _ _
        have b2 : d.natAbs / Nat.gcd n.natAbs d.natAbs ≤ d.natAbs := Nat.div_le_self _ _
        unfold lowF
        generalize Nat.gcd n.natAbs d.natAbs = g at *
        simp only [show ¬ ((g : Int) = 0) by omega, if_false, tdivN]
        rw [wuN (n.natAbs / g) (Nat.lt_of_le_of_lt b1 (by omega)), wuN (d.natAbs / g) (Nat.lt_of_le_of_lt b2 (by omega))]
        refine Ev.bind (made_ev _ _ _) ?_
        exact Ev.some _
theorem refNew_ev (n d : Int) (hn : -9223372036854775808 ≤ n ∧ n ≤ 9223372036854775807) (hd : -9223372036854775808 ≤ d ∧ d ≤ 9223372036854775807) : Ev (fun k => intervalmonref03_New.f k n d) (newF n d) := by
  unfold intervalmonref03_New.f newF
  by_cases h0 : d = 0
  · simp only [h0, if_true]; exact Ev.some _
  · simp only [h0, if_false, refSize_eq n hn.1 hn.2, refSize_eq d hd.1 hd.2, Option.bind_some]
    by_cases h1 : n = -9223372036854775808
    · simp only [show ((n.natAbs : Int) > 9223372036854775807) by omega, if_true, h1, true_or]
      refine Ev.up ?_
      simp only [intervalmonref03_New.j0, if_true]
      exact Ev.some _
    · simp only [show ¬ ((n.natAbs : Int) > 9223372036854775807) by omega, if_false, h1, false_or]
      refine Ev.up ?_
      simp only [intervalmonref03_New.j0]
      by_cases h2 : d = -9223372036854775808
      · simp only [show ((d.natAbs : Int) > 9223372036854775807) by omega, decide_true, if_true, h2]
        exact Ev.some _
      · simp only [show ¬ ((d.natAbs : Int) > 9223372036854775807) by omega, decide_false, Bool.false_eq_true, if_false, h2]
        refine Ev.bind (refCommon_ev n.natAbs d.natAbs) ?_
        have hg : 0 < Nat.gcd n.natAbs d.natAbs := Nat.gcd_pos_of_pos_right _ (by omega)
        have b1 : n.natAbs / Nat.gcd n.natAbs d.natAbs ≤ n.natAbs := Nat.div_le_self _ _
        have b2 : d.natAbs / Nat.gcd n.natAbs d.natAbs ≤ d.natAbs := Nat.div_le_self _ _
        unfold lowF madeF
        generalize Nat.gcd n.natAbs d.natAbs = g at *
        simp only [show ¬ ((g : Int) = 0) by omega, if_false, tdivN]
        rw [wuN (n.natAbs / g) (Nat.lt_of_le_of_lt b1 (by omega)), wuN (d.natAbs / g) (Nat.lt_of_le_of_lt b2 (by omega))]
        generalize n.natAbs / g = p at *
        generalize d.natAbs / g = q at *
        by_cases h3 : 4611686018427387904 < p
        · simp only [show ((p : Int) > 4611686018427387904) by omega, if_true, h3, true_or]
          refine Ev.up ?_
          simp only [intervalmonref03_New.j1, if_true]
          exact Ev.some _
        · simp only [show ¬ ((p : Int) > 4611686018427387904) by omega, if_false, h3, false_or]
          refine Ev.up ?_
          simp only [intervalmonref03_New.j1]
          by_cases h4 : 4611686018427387904 < q
          · simp only [show ((q : Int) > 4611686018427387904) by omega, decide_true, if_true, h4]
            exact Ev.some _
          · simp only [show ¬ ((q : Int) > 4611686018427387904) by omega, decide_false, Bool.false_eq_true, if_false, h4]
            rw [w64 (p : Int) (by omega) (by omega), w64 (q : Int) (by omega) (by omega), w64 (-(p : Int)) (by omega) (by omega)]
            cases ((decide (n < 0)) != (decide (d < 0)))
            · simp only [Bool.false_eq_true, if_false]; exact Ev.some _
            · simp only [if_true]; exact Ev.some _

/-! ### Valid -/
def ValidP (n d : Int) : Prop := 1 ≤ d ∧ d ≤ 4611686018427387904 ∧ n.natAbs ≤ 4611686018427387904 ∧ Nat.gcd n.natAbs d.natAbs = 1
instance (n d : Int) : Decidable (ValidP n d) := by unfold ValidP; infer_instance
theorem valid_ev (n d : Int) (hn : -9223372036854775808 ≤ n ∧ n ≤ 9223372036854775807) (hd : -9223372036854775808 ≤ d ∧ d ≤ 9223372036854775807) : Ev (fun k => frac_Valid.f k n d) (decide (ValidP n d)) := by
  unfold frac_Valid.f
  by_cases h0 : d < 1
  · simp only [h0, if_true]
    refine Ev.up ?_
    simp only [frac_Valid.j0, if_true, decide_eq_false (show ¬ ValidP n d from fun h => by have := h.1; omega)]
    exact Ev.some _
  · simp only [h0, if_false]
    by_cases h1 : d > 4611686018427387904
    · simp only [h1, if_true]
      refine Ev.up ?_
      simp only [frac_Valid.j0, if_true, decide_eq_false (show ¬ ValidP n d from fun h => by have := h.2.1; omega)]
      exact Ev.some _
    · simp only [h1, if_false, size_eq n hn.1 hn.2, Option.bind_some]
      refine Ev.up ?_
      simp only [frac_Valid.j0, size_eq n hn.1 hn.2, Option.bind_some]
      by_cases h2 : (n.natAbs : Int) > 4611686018427387904
      · simp only [h2, decide_true, if_true, decide_eq_false (show ¬ ValidP n d from fun h => by have := h.2.2.1; omega)]
        exact Ev.some _
      · simp only [h2, decide_false, Bool.false_eq_true, if_false]
        rw [wu d (by omega) (by omega)]
        have e : d = (d.natAbs : Int) := by omega
        have g := gcd_ev n.natAbs d.natAbs
        rw [← e] at g
        refine Ev.bind g ?_
        have : ((Nat.gcd n.natAbs d.natAbs : Int) == 1) = decide (ValidP n d) := by
          rw [Bool.eq_iff_iff, beq_iff_eq, decide_eq_true_iff]
          unfold ValidP
          constructor
          · intro h; exact ⟨by omega, by omega, by omega, by omega⟩
          · intro h; have := h.2.2.2; omega
        rw [this]
        exact Ev.some _
theorem made_valid {neg : Bool} {p q : Nat} (hq : 0 < q) (hg : Nat.gcd p q = 1) (h : (madeF neg p q).2.2 = 0) : ValidP (madeF neg p q).1 (madeF neg p q).2.1 := by
  unfold madeF at *
  by_cases hc : 4611686018427387904 < p ∨ 4611686018427387904 < q
  · rw [if_pos hc] at h; exact absurd h (by decide)
  · rw [if_neg hc]
    have e : (if neg = true then -(p : Int) else (p : Int)).natAbs = p := by split <;> omega
    refine ⟨by show (1 : Int) ≤ q; omega, by show (q : Int) ≤ _; omega, ?_, ?_⟩
    · show (if neg = true then -(p : Int) else (p : Int)).natAbs ≤ _
      rw [e]; omega
    · show Nat.gcd (if neg = true then -(p : Int) else (p : Int)).natAbs ((q : Int)).natAbs = 1
      rw [e]; exact hg
theorem new_valid {n d : Int} (h : (newF n d).2.2 = 0) : ValidP (newF n d).1 (newF n d).2.1 := by
  unfold newF at *
  by_cases h0 : d = 0
  · rw [if_pos h0] at h; exact absurd h (by decide)
  · rw [if_neg h0] at h ⊢
    by_cases h1 : n = -9223372036854775808 ∨ d = -9223372036854775808
    · rw [if_pos h1] at h; exact absurd h (by decide)
    · rw [if_neg h1] at h ⊢
      unfold lowF at *
      have hg : 0 < Nat.gcd n.natAbs d.natAbs := Nat.gcd_pos_of_pos_right _ (by omega)
      refine made_valid ?_ ?_ h
      · exact Nat.div_pos (Nat.le_of_dvd (by omega) (Nat.gcd_dvd_right _ _)) hg
      · exact Nat.gcd_div_gcd_div_gcd_of_pos_right (by omega)
theorem new_self {n d : Int} (h : ValidP n d) : newF n d = (n, d, 0) := by
  obtain ⟨h1, h2, h3, h4⟩ := h
  unfold newF
  rw [if_neg (by omega), if_neg (by omega)]
  unfold lowF madeF
  rw [h4, Nat.div_one, Nat.div_one, if_neg (by omega)]
  have : (decide (d < 0)) = false := decide_eq_false (by omega)
  rw [this]
  by_cases hn : n < 0
  · simp only [hn, decide_true]
    simp
    omega
  · simp only [hn, decide_false]
    simp
    omega
theorem valid_iff (n d : Int) : decide (ValidP n d) = (decide ((newF n d).2.2 = 0) && ((newF n d).1 == n && (newF n d).2.1 == d)) := by
  rw [Bool.eq_iff_iff]
  simp only [Bool.and_eq_true, decide_eq_true_iff, beq_iff_eq]
  constructor
  · intro h; rw [new_self h]; exact ⟨rfl, rfl, rfl⟩
  · rintro ⟨h1, h2, h3⟩
    have := new_valid h1
    rw [h2, h3] at this
    exact this
end Go.Proofs.YtjpgommmkjgddaaDoor.Pure
