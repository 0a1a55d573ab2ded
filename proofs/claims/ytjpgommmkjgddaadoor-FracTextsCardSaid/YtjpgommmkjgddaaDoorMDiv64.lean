/- math/bits.Div64 comes to quotient and remainder of a number of two digits. -/
import Derived.Test.YtjpgommmkjgddaaDoorMFrac
import Derived.Test.YtjpgommmkjgddaaDoorPx9
import Derived.Laws.BitsAllLaws
import Derived.Laws.MathBits
namespace Go.Proofs.YtjpgommmkjgddaaDoor.Pure
open Go.RowKit Go.Proofs.YtjpgommmkjgddaaDoor.P Go.Proofs.YtjpgommmkjgddaaDoorW.PrintWords Go.Proofs.YtjpgommmkjgddaaDoorW.PrintLast Go.Proofs.YtjpgommmkjgddaaDoorW.PrintMore
set_option linter.unusedVariables false
set_option linter.unusedSimpArgs false

/-! ### one digit -/
section
variable {Y yn1 yn0 u32 u1 q r : Nat}
theorem dig_mul (hY : Y = yn1 * 4294967296 + yn0) (hq : q * yn1 + r = u32) : q * Y + r * 4294967296 = u32 * 4294967296 + q * yn0 := by
  subst hY; subst hq
  rw [Nat.mul_add, Nat.add_mul, ← Nat.mul_assoc]; omega
theorem dig_test (hY : Y = yn1 * 4294967296 + yn0) (hq : q * yn1 + r = u32) : (4294967296 * r + u1 < q * yn0) ↔ u32 * 4294967296 + u1 < q * Y := by
  have := dig_mul hY hq
  omega
theorem dig_lt (hu : u32 < Y) (h1 : u1 < 4294967296) : (u32 * 4294967296 + u1) / Y < 4294967296 := by
  rw [Nat.div_lt_iff_lt_mul (by omega)]
  have : (u32 + 1) * 4294967296 ≤ Y * 4294967296 := Nat.mul_le_mul_right _ hu
  rw [Nat.mul_comm 4294967296 Y]
  omega
theorem dig_gt (hY : 0 < Y) (h : u32 * 4294967296 + u1 < q * Y) : (u32 * 4294967296 + u1) / Y < q := (Nat.div_lt_iff_lt_mul hY).2 h
theorem dig_eq (hY : 0 < Y) (h : q * Y ≤ u32 * 4294967296 + u1) (h2 : (u32 * 4294967296 + u1) / Y ≤ q) : q = (u32 * 4294967296 + u1) / Y :=
  Nat.le_antisymm ((Nat.le_div_iff_mul_le hY).2 h) h2
end
theorem uge (a b : Nat) : ((a : Int) ≥ (b : Int)) = (b ≤ a) := by simp
theorem ugt (a b : Nat) : ((a : Int) > (b : Int)) = (b < a) := by simp
theorem mulN (a b : Nat) : (a : Int) * (b : Int) = ((a * b : Nat) : Int) := by simp
theorem addN (a b : Nat) : (a : Int) + (b : Int) = ((a + b : Nat) : Int) := by simp
theorem subN (a b : Nat) (h : b ≤ a) : (a : Int) - (b : Int) = ((a - b : Nat) : Int) := by omega
theorem cW : (4294967296 : Int) = ((4294967296 : Nat) : Int) := rfl
theorem c1 : (1 : Int) = ((1 : Nat) : Int) := rfl

structure Dg (Y yn1 yn0 u32 u1 : Nat) : Prop where
  hY : Y = yn1 * 4294967296 + yn0
  y1 : 2147483648 ≤ yn1
  y1' : yn1 < 4294967296
  y0 : yn0 < 4294967296
  hu : u32 < Y
  h1 : u1 < 4294967296
theorem Dg.first {Y yn1 yn0 u32 u1 : Nat} (D : Dg Y yn1 yn0 u32 u1) : u32 / yn1 * yn1 + u32 % yn1 = u32 ∧ u32 % yn1 < 4294967296 ∧ (u32 * 4294967296 + u1) / Y ≤ u32 / yn1 ∧ u32 / yn1 ≤ 4294967297 := by
  obtain ⟨hY, y1, y1', y0, hu, h1⟩ := D
  have e : u32 / yn1 * yn1 + u32 % yn1 = u32 := by rw [Nat.mul_comm]; exact Nat.div_add_mod _ _
  have hr : u32 % yn1 < yn1 := Nat.mod_lt _ (by omega)
  refine ⟨e, by omega, ?_, ?_⟩
  · have hle : yn1 * 4294967296 ≤ Y := by omega
    have : (u32 * 4294967296 + u1) / Y ≤ (u32 * 4294967296 + u1) / (yn1 * 4294967296) := Nat.div_le_div_left hle (by omega)
    refine Nat.le_trans this ?_
    rw [Nat.mul_comm yn1, ← Nat.div_div_eq_div_mul]
    have : (u32 * 4294967296 + u1) / 4294967296 = u32 := by omega
    rw [this]
    exact Nat.le_refl _
  · have : u32 / yn1 < 4294967298 := by
      rw [Nat.div_lt_iff_lt_mul (by omega)]
      omega
    omega

theorem digit0 {Y yn1 yn0 u32 u1 : Nat} (D : Dg Y yn1 yn0 u32 u1) (s u0 : Int) (r : Int × Int) (qd : Nat) (hqd : qd = (u32 * 4294967296 + u1) / Y)
    (hr : Ev (fun k => bits_Div64.j2 k Y s yn1 yn0 u32 u1 u0 (qd : Int)) r) (q : Nat) :
    ∀ rh : Nat, q * yn1 + rh = u32 → rh < 4294967296 → (u32 * 4294967296 + u1) / Y ≤ q → q ≤ 4294967297 → Ev (fun k => bits_Div64.l0 k Y s yn1 yn0 u32 u1 u0 q rh) r := by
  obtain ⟨hY, y1, y1', y0, hu, h1⟩ := D
  have hlt := dig_lt hu h1
  rw [hqd] at hr
  clear hqd
  induction q with
  | zero =>
    intro rh e1 e2 e3 e4
    have hq : (u32 * 4294967296 + u1) / Y = 0 := Nat.le_zero.1 e3
    rw [hq] at hr
    refine Ev.up ?_
    simp only [bits_Div64.l0]
    simp only [show ¬ (((0 : Nat) : Int) ≥ 4294967296) by omega, if_false]
    refine Ev.up ?_
    simp only [bits_Div64.j1]
    have : ¬ (IntKind.u64.wrap (((0 : Nat) : Int) * (yn0 : Int)) > IntKind.u64.wrap (IntKind.u64.wrap (4294967296 * (rh : Int)) + (u1 : Int))) := by
      rw [IntKind.wrap_u64, IntKind.wrap_u64, IntKind.wrap_u64]; omega
    simp only [this, decide_false, Bool.false_eq_true, if_false]
    exact hr
  | succ q ih =>
    intro rh e1 e2 e3 e4
    -- a step down, if the digit is too great
    have down : (u32 * 4294967296 + u1) / Y < q + 1 → Ev (fun k => bits_Div64.j1 k Y s yn1 yn0 u32 u1 u0 ((q + 1 : Nat) : Int) rh true) r := by
      intro hgt
      refine Ev.up ?_
      simp only [bits_Div64.j1, if_true]
      have w1 : IntKind.u64.wrap ((rh : Int) + (yn1 : Int)) = ((rh + yn1 : Nat) : Int) := by rw [IntKind.wrap_u64]; omega
      have w2 : IntKind.u64.wrap (((q + 1 : Nat) : Int) - 1) = (q : Int) := by rw [IntKind.wrap_u64]; omega
      rw [w1, w2]
      have e5 : q * yn1 + (rh + yn1) = u32 := by rw [← e1, Nat.succ_mul]; omega
      by_cases hb : 4294967296 ≤ rh + yn1
      · simp only [show (((rh + yn1 : Nat) : Int) ≥ 4294967296) by omega, if_true]
        have hle : q * Y ≤ u32 * 4294967296 + u1 := by
          have h5 := not_congr (dig_test (u1 := u1) hY e5)
          have h6 : q * yn0 ≤ 4294967296 * 4294967296 := Nat.mul_le_mul (by omega) (by omega)
          have := h5.1 (by omega)
          omega
        have := dig_eq (by omega) hle (by omega)
        rw [← this] at hr
        exact hr
      · simp only [show ¬ (((rh + yn1 : Nat) : Int) ≥ 4294967296) by omega, if_false]
        exact ih (rh + yn1) e5 (by omega) (by omega) (by omega)
    refine Ev.up ?_
    simp only [bits_Div64.l0]
    by_cases hb : 4294967296 ≤ q + 1
    · simp only [show (((q + 1 : Nat) : Int) ≥ 4294967296) by omega, if_true]
      exact down (by omega)
    · simp only [show ¬ (((q + 1 : Nat) : Int) ≥ 4294967296) by omega, if_false]
      have hm : (q + 1) * yn0 ≤ 4294967295 * 4294967295 := Nat.mul_le_mul (by omega) (by omega)
      have w3 : IntKind.u64.wrap (((q + 1 : Nat) : Int) * (yn0 : Int)) = (((q + 1) * yn0 : Nat) : Int) := by rw [mulN]; exact wuN _ (by omega)
      have w4 : IntKind.u64.wrap (IntKind.u64.wrap (4294967296 * (rh : Int)) + (u1 : Int)) = ((4294967296 * rh + u1 : Nat) : Int) := by rw [IntKind.wrap_u64, IntKind.wrap_u64]; omega
      rw [w3, w4]
      have ht := dig_test (u1 := u1) hY e1
      by_cases hc : 4294967296 * rh + u1 < (q + 1) * yn0
      · have : (((q + 1) * yn0 : Nat) : Int) > ((4294967296 * rh + u1 : Nat) : Int) := by rw [ugt]; exact hc
        simp only [this, decide_true]
        exact down (dig_gt (by omega) (ht.1 hc))
      · have : ¬ ((((q + 1) * yn0 : Nat) : Int) > ((4294967296 * rh + u1 : Nat) : Int)) := by rw [ugt]; exact hc
        simp only [this, decide_false]
        refine Ev.up ?_
        simp only [bits_Div64.j1, Bool.false_eq_true, if_false]
        have hle : (q + 1) * Y ≤ u32 * 4294967296 + u1 := by
          have := (not_congr ht).1 hc
          omega
        have := dig_eq (by omega) hle e3
        rw [← this] at hr
        exact hr
theorem digit1 {Y yn1 yn0 u32 u1 : Nat} (D : Dg Y yn1 yn0 u32 u1) (s q1 : Int) (r : Int × Int)
    (qd : Nat) (hqd : qd = (u32 * 4294967296 + u1) / Y) (hr : Ev (fun k => bits_Div64.j4 k Y s yn1 yn0 u1 q1 0 u32 (qd : Int) false) r)
    (hr2 : ∀ (k : Nat) (a b : Int), bits_Div64.j4 k Y s yn1 yn0 u1 q1 a u32 b false = bits_Div64.j4 k Y s yn1 yn0 u1 q1 0 u32 b false)
    (hr3 : ∀ (k : Nat) (a b : Int), IntKind.u64.wrap (a + (yn1 : Int)) ≥ 4294967296 → bits_Div64.j4 k Y s yn1 yn0 u1 q1 a u32 b true = bits_Div64.j4 k Y s yn1 yn0 u1 q1 0 u32 (IntKind.u64.wrap (b - 1)) false) (q : Nat) :
    ∀ rh : Nat, q * yn1 + rh = u32 → rh < 4294967296 → (u32 * 4294967296 + u1) / Y ≤ q → q ≤ 4294967297 → Ev (fun k => bits_Div64.l1 k Y s yn1 yn0 u1 q1 rh u32 q) r := by
  obtain ⟨hY, y1, y1', y0, hu, h1⟩ := D
  have hlt := dig_lt hu h1
  rw [hqd] at hr
  clear hqd
  induction q with
  | zero =>
    intro rh e1 e2 e3 e4
    have hq : (u32 * 4294967296 + u1) / Y = 0 := Nat.le_zero.1 e3
    rw [hq] at hr
    refine Ev.up ?_
    simp only [bits_Div64.l1]
    simp only [show ¬ (((0 : Nat) : Int) ≥ 4294967296) by omega, if_false]
    have : ¬ (IntKind.u64.wrap (((0 : Nat) : Int) * (yn0 : Int)) > IntKind.u64.wrap (IntKind.u64.wrap (4294967296 * (rh : Int)) + (u1 : Int))) := by
      rw [IntKind.wrap_u64, IntKind.wrap_u64, IntKind.wrap_u64]; omega
    simp only [this, decide_false]
    refine Ev.congr (fun k => ?_) hr
    exact hr2 _ _ _
  | succ q ih =>
    intro rh e1 e2 e3 e4
    have down : (u32 * 4294967296 + u1) / Y < q + 1 → Ev (fun k => bits_Div64.j4 k Y s yn1 yn0 u1 q1 rh u32 ((q + 1 : Nat) : Int) true) r := by
      intro hgt
      have w1 : IntKind.u64.wrap ((rh : Int) + (yn1 : Int)) = ((rh + yn1 : Nat) : Int) := by rw [IntKind.wrap_u64]; omega
      have w2 : IntKind.u64.wrap (((q + 1 : Nat) : Int) - 1) = (q : Int) := by rw [IntKind.wrap_u64]; omega
      have e5 : q * yn1 + (rh + yn1) = u32 := by rw [← e1, Nat.succ_mul]; omega
      by_cases hb : 4294967296 ≤ rh + yn1
      · have hle : q * Y ≤ u32 * 4294967296 + u1 := by
          have h5 := not_congr (dig_test (u1 := u1) hY e5)
          have h6 : q * yn0 ≤ 4294967296 * 4294967296 := Nat.mul_le_mul (by omega) (by omega)
          have := h5.1 (by omega)
          omega
        have := dig_eq (by omega) hle (by omega)
        rw [← this] at hr
        refine Ev.congr (fun k => ?_) hr
        rw [hr3 k (rh : Int) _ (by rw [w1]; omega), w2]
      · refine Ev.up ?_
        simp only [bits_Div64.j4, if_true]
        rw [w1, w2]
        simp only [show ¬ (((rh + yn1 : Nat) : Int) ≥ 4294967296) by omega, if_false]
        exact ih (rh + yn1) e5 (by omega) (by omega) (by omega)
    refine Ev.up ?_
    simp only [bits_Div64.l1]
    by_cases hb : 4294967296 ≤ q + 1
    · simp only [show (((q + 1 : Nat) : Int) ≥ 4294967296) by omega, if_true]
      exact down (by omega)
    · simp only [show ¬ (((q + 1 : Nat) : Int) ≥ 4294967296) by omega, if_false]
      have hm : (q + 1) * yn0 ≤ 4294967295 * 4294967295 := Nat.mul_le_mul (by omega) (by omega)
      have w3 : IntKind.u64.wrap (((q + 1 : Nat) : Int) * (yn0 : Int)) = (((q + 1) * yn0 : Nat) : Int) := by rw [mulN]; exact wuN _ (by omega)
      have w4 : IntKind.u64.wrap (IntKind.u64.wrap (4294967296 * (rh : Int)) + (u1 : Int)) = ((4294967296 * rh + u1 : Nat) : Int) := by rw [IntKind.wrap_u64, IntKind.wrap_u64]; omega
      rw [w3, w4]
      have ht := dig_test (u1 := u1) hY e1
      by_cases hc : 4294967296 * rh + u1 < (q + 1) * yn0
      · have : (((q + 1) * yn0 : Nat) : Int) > ((4294967296 * rh + u1 : Nat) : Int) := by rw [ugt]; exact hc
        simp only [this, decide_true]
        exact down (dig_gt (by omega) (ht.1 hc))
      · have : ¬ ((((q + 1) * yn0 : Nat) : Int) > ((4294967296 * rh + u1 : Nat) : Int)) := by rw [ugt]; exact hc
        simp only [this, decide_false]
        have hle : (q + 1) * Y ≤ u32 * 4294967296 + u1 := by
          have := (not_congr ht).1 hc
          omega
        have := dig_eq (by omega) hle e3
        rw [← this] at hr
        refine Ev.congr (fun k => ?_) hr
        exact hr2 _ _ _
/-! ### the whole -/
theorem div_two {V Y q1 q0 U u0 R1 R2 : Nat} (hY : 0 < Y) (e1 : Y * q1 + R1 = U) (e2 : Y * q0 + R2 = R1 * 4294967296 + u0) (hlt : R2 < Y) (hV : V = U * 4294967296 + u0) :
    V / Y = q1 * 4294967296 + q0 ∧ V % Y = R2 := by
  have e3 : V = R2 + (q1 * 4294967296 + q0) * Y := by
    have : (q1 * 4294967296 + q0) * Y = Y * q1 * 4294967296 + Y * q0 := by grind
    omega
  constructor
  · rw [e3, Nat.add_mul_div_right _ _ hY, Nat.div_eq_of_lt hlt]; omega
  · rw [e3, Nat.add_mul_mod_self_right, Nat.mod_eq_of_lt hlt]
theorem or_add (a b i : Nat) (h : b < 2 ^ i) : (a * 2 ^ i) ||| b = a * 2 ^ i + b := by
  rw [← Nat.shiftLeft_eq, Nat.shiftLeft_add_eq_or_of_lt h]
theorem bitLen_bd (y : Nat) (h0 : 0 < y) (h : y < 18446744073709551616) : 0 < Lib.bitLen y ∧ Lib.bitLen y ≤ 64 ∧ 2 ^ (Lib.bitLen y - 1) ≤ y ∧ y < 2 ^ Lib.bitLen y := by
  have key : ∀ f x : Nat, 0 < x → x < 2 ^ f → 0 < Lib.bitLenAux f x ∧ Lib.bitLenAux f x ≤ f ∧ 2 ^ (Lib.bitLenAux f x - 1) ≤ x ∧ x < 2 ^ Lib.bitLenAux f x := by
    intro f
    induction f with
    | zero => intro x hx h; simp at h; omega
    | succ f ih =>
      intro x hx h
      unfold Lib.bitLenAux
      rw [if_neg (by omega)]
      rw [Nat.pow_succ] at h
      by_cases h1 : x = 1
      · subst h1
        have : Lib.bitLenAux f (1 / 2) = 0 := by cases f <;> simp [Lib.bitLenAux]
        rw [this]; simp
      · obtain ⟨a1, a2, a3, a4⟩ := ih (x / 2) (by omega) (by omega)
        generalize Lib.bitLenAux f (x / 2) = b at *
        obtain ⟨c, rfl⟩ : ∃ c, b = c + 1 := ⟨b - 1, by omega⟩
        rw [Nat.add_sub_cancel] at a3
        refine ⟨by omega, by omega, ?_, ?_⟩
        · rw [show 1 + (c + 1) - 1 = c + 1 by omega, Nat.pow_succ]; omega
        · rw [show 1 + (c + 1) = (c + 1) + 1 by omega, Nat.pow_succ]; omega
  exact key 64 y h0 h
theorem shlN (x s : Nat) (hs : s ≤ 64) : shl .u64 (x : Int) (s : Int) = ((x * 2 ^ s % 18446744073709551616 : Nat) : Int) := by
  unfold shl
  have e : min (s : Int).toNat IntKind.u64.bits = s := by show min s 64 = s; omega
  rw [e, IntKind.wrap_u64]
  have : (x : Int) * 2 ^ s = ((x * 2 ^ s : Nat) : Int) := by simp
  rw [this]; omega
theorem shrN (x s : Nat) (hs : s ≤ 64) : shr .u64 (x : Int) (s : Int) = ((x / 2 ^ s : Nat) : Int) := by
  unfold shr
  have e : min (s : Int).toNat IntKind.u64.bits = s := by show min s 64 = s; omega
  rw [e]
  simp
theorem divN (a b : Nat) : (a : Int) / (b : Int) = ((a / b : Nat) : Int) := by simp

theorem div64_core (Y yn1 yn0 u32 u1 u0 s : Nat) (D : Dg Y yn1 yn0 u32 u1) (hY : Y < 18446744073709551616) (h0 : u0 < 4294967296) (hs : s ≤ 64) (V : Nat) (hV : V = (u32 * 4294967296 + u1) * 4294967296 + u0) :
    Ev (fun k => bits_Div64.l0 k Y s yn1 yn0 u32 u1 u0 ((u32 / yn1 : Nat) : Int) ((u32 % yn1 : Nat) : Int)) (((V / Y : Nat) : Int), ((V % Y / 2 ^ s : Nat) : Int)) := by
  have hYp : 0 < Y := by have := D.hu; omega
  have y1p := D.y1
  obtain ⟨f1, f2, f3, f4⟩ := D.first
  have hlt := dig_lt D.hu D.h1
  obtain ⟨q1, hq1⟩ : ∃ x, x = (u32 * 4294967296 + u1) / Y := ⟨_, rfl⟩
  obtain ⟨R1, hR1⟩ : ∃ x, x = (u32 * 4294967296 + u1) % Y := ⟨_, rfl⟩
  have hm : Y * q1 + R1 = u32 * 4294967296 + u1 := by rw [hq1, hR1]; exact Nat.div_add_mod _ _
  have hR : R1 < Y := by rw [hR1]; exact Nat.mod_lt _ hYp
  rw [← hq1] at hlt f3
  have D2 : Dg Y yn1 yn0 R1 u0 := ⟨D.hY, D.y1, D.y1', D.y0, hR, h0⟩
  obtain ⟨g1, g2, g3, g4⟩ := D2.first
  have hlt2 := dig_lt D2.hu D2.h1
  obtain ⟨q0, hq0⟩ : ∃ x, x = (R1 * 4294967296 + u0) / Y := ⟨_, rfl⟩
  obtain ⟨R2, hR2⟩ : ∃ x, x = (R1 * 4294967296 + u0) % Y := ⟨_, rfl⟩
  have hm2 : Y * q0 + R2 = R1 * 4294967296 + u0 := by rw [hq0, hR2]; exact Nat.div_add_mod _ _
  have hR2' : R2 < Y := by rw [hR2]; exact Nat.mod_lt _ hYp
  rw [← hq0] at hlt2 g3
  obtain ⟨e1, e2⟩ := div_two hYp hm hm2 hR2' hV
  rw [e1, e2]
  refine digit0 D _ _ _ q1 hq1 ?_ _ _ f1 f2 (by rw [← hq1]; exact f3) f4
  refine Ev.up ?_
  simp only [bits_Div64.j2]
  simp only [show ¬ ((yn1 : Int) = 0) by omega, if_false]
  have w1 : IntKind.u64.wrap (IntKind.u64.wrap (IntKind.u64.wrap ((u32 : Int) * 4294967296) + (u1 : Int)) - IntKind.u64.wrap ((q1 : Int) * (Y : Int))) = (R1 : Int) := by
    rw [mulN, Nat.mul_comm q1 Y]
    simp only [IntKind.wrap_u64]; omega
  have w2 : IntKind.u64.wrap (Int.tdiv (R1 : Int) (yn1 : Int)) = ((R1 / yn1 : Nat) : Int) := by
    rw [tdivN]; exact wuN _ (Nat.lt_of_le_of_lt (Nat.div_le_self _ _) (by omega))
  have w3 : IntKind.u64.wrap ((R1 : Int) - IntKind.u64.wrap (((R1 / yn1 : Nat) : Int) * (yn1 : Int))) = ((R1 % yn1 : Nat) : Int) := by
    rw [mulN]
    have : R1 / yn1 * yn1 ≤ R1 := Nat.div_mul_le_self _ _
    rw [wuN _ (by omega), subN _ _ this, wuN _ (by omega)]
    congr 1
    have h6 : R1 / yn1 * yn1 + R1 % yn1 = R1 := by rw [Nat.mul_comm]; exact Nat.div_add_mod _ _
    omega
  rw [w1, w2, w3]
  refine digit1 D2 _ _ _ q0 hq0 ?_ (fun k a b => by cases k <;> simp [bits_Div64.j4]) (fun k a b h => by cases k <;> simp [bits_Div64.j4, h]) _ _ g1 g2 (by rw [← hq0]; exact g3) g4
  refine Ev.up ?_
  simp only [bits_Div64.j4, Bool.false_eq_true, if_false, Int.natCast_nonneg, if_true]
  have w4 : IntKind.u64.wrap (IntKind.u64.wrap ((q1 : Int) * 4294967296) + (q0 : Int)) = ((q1 * 4294967296 + q0 : Nat) : Int) := by
    simp only [IntKind.wrap_u64]; omega
  have w5 : IntKind.u64.wrap (IntKind.u64.wrap (IntKind.u64.wrap ((R1 : Int) * 4294967296) + (u0 : Int)) - IntKind.u64.wrap ((q0 : Int) * (Y : Int))) = (R2 : Int) := by
    rw [mulN, Nat.mul_comm q0 Y]
    simp only [IntKind.wrap_u64]; omega
  rw [w4, w5, shrN R2 s hs]
  exact Ev.some _

theorem div64_ev (hi lo y : Nat) (h1 : hi < y) (h2 : y < 18446744073709551616) (h3 : lo < 18446744073709551616) :
    Ev (fun k => bits_Div64.f k (hi : Int) (lo : Int) (y : Int)) ((((hi * 18446744073709551616 + lo) / y : Nat) : Int), (((hi * 18446744073709551616 + lo) % y : Nat) : Int)) := by
  unfold bits_Div64.f
  simp only [show ¬ ((y : Int) = 0) by omega, if_false, show ¬ ((y : Int) ≤ (hi : Int)) by omega]
  by_cases h0 : hi = 0
  · subst h0
    simp only [Int.natCast_zero, if_true, tdivN, tmodN]
    rw [wuN (lo / y) (Nat.lt_of_le_of_lt (Nat.div_le_self _ _) h3)]
    simp only [Nat.zero_mul, Nat.zero_add]
    exact Ev.some _
  · simp only [show ¬ ((hi : Int) = 0) by omega, if_false]
    obtain ⟨b1, b2, b3, b4⟩ := bitLen_bd y (by omega) h2
    obtain ⟨s, hs⟩ : ∃ s, s = 64 - Lib.bitLen y := ⟨_, rfl⟩
    have hsb : Lib.bitLen y = 64 - s := by omega
    have hs63 : s ≤ 63 := by omega
    rw [hsb] at b3 b4
    have hlz : bits_LeadingZeros64.f (y : Int) = some (s : Int) := by
      unfold bits_LeadingZeros64.f
      rw [if_pos (by omega)]
      congr 1
      rw [Int.toNat_natCast]; omega
    have p64 : 2 ^ (64 - s) * 2 ^ s = 18446744073709551616 := by rw [← Nat.pow_add, show 64 - s + s = 64 by omega]
    have p63 : 2 ^ (64 - s - 1) * 2 ^ s = 9223372036854775808 := by rw [← Nat.pow_add, show 64 - s - 1 + s = 63 by omega]
    have sp : 0 < 2 ^ s := Nat.two_pow_pos _
    -- the divisor, moved up
    have hYlt : y * 2 ^ s < 18446744073709551616 := by rw [← p64]; exact Nat.mul_lt_mul_of_pos_right b4 sp
    have hYge : 9223372036854775808 ≤ y * 2 ^ s := by rw [← p63]; exact Nat.mul_le_mul_right _ b3
    have hhi : (hi + 1) * 2 ^ s ≤ y * 2 ^ s := Nat.mul_le_mul_right _ h1
    have hlo : lo / 2 ^ (64 - s) < 2 ^ s := by rw [Nat.div_lt_iff_lt_mul (Nat.two_pow_pos _), Nat.mul_comm, p64]; exact h3
    have hlo2 : lo * 2 ^ s = lo / 2 ^ (64 - s) * 18446744073709551616 + lo * 2 ^ s % 18446744073709551616 := by
      have e : lo * 2 ^ s / 18446744073709551616 = lo / 2 ^ (64 - s) := by rw [← p64, Nat.mul_div_mul_right _ _ sp]
      rw [← e]; omega
    rw [Nat.succ_mul] at hhi
    simp only [hlz, Option.bind_some]
    have w1 : IntKind.u64.wrap (s : Int) = (s : Int) := wuN s (by omega)
    have w2 : IntKind.u64.wrap (64 - (s : Int)) = ((64 - s : Nat) : Int) := by rw [IntKind.wrap_u64]; omega
    simp only [w1, w2, Int.natCast_nonneg, if_true, shlN y s (by omega), shlN hi s (by omega), shlN lo s (by omega), shrN lo (64 - s) (by omega)]
    have m1 : y * 2 ^ s % 18446744073709551616 = y * 2 ^ s := Nat.mod_eq_of_lt hYlt
    have m2 : hi * 2 ^ s % 18446744073709551616 = hi * 2 ^ s := Nat.mod_eq_of_lt (by omega)
    have m3 : lo * 2 ^ s % 18446744073709551616 < 18446744073709551616 := Nat.mod_lt _ (by decide)
    have hor : Go.bits .or .u64 ((hi * 2 ^ s : Nat) : Int) ((lo / 2 ^ (64 - s) : Nat) : Int) = ((hi * 2 ^ s + lo / 2 ^ (64 - s) : Nat) : Int) := by
      rw [u64_or_nat _ _ (by omega) (by omega), or_add _ _ _ hlo]
    have hV : (hi * 18446744073709551616 + lo) * 2 ^ s = ((hi * 2 ^ s + lo / 2 ^ (64 - s)) * 18446744073709551616 + lo * 2 ^ s % 18446744073709551616) := by
      rw [Nat.add_mul, Nat.mul_right_comm]
      rw [Nat.add_mul]
      omega
    rw [m1, m2, hor]
    have hq : (hi * 18446744073709551616 + lo) / y = ((hi * 18446744073709551616 + lo) * 2 ^ s) / (y * 2 ^ s) := (Nat.mul_div_mul_right _ _ sp).symm
    have hr : (hi * 18446744073709551616 + lo) % y = ((hi * 18446744073709551616 + lo) * 2 ^ s) % (y * 2 ^ s) / 2 ^ s := by
      rw [Nat.mul_mod_mul_right, Nat.mul_div_cancel _ sp]
    rw [hq, hr, hV]
    have hu32 : hi * 2 ^ s + lo / 2 ^ (64 - s) < y * 2 ^ s := by omega
    clear hq hr hV hor hlo2 hlz m1 m2 p64 p63 hlo b1 b2 b3 b4
    obtain ⟨u32, eu⟩ : ∃ x, x = hi * 2 ^ s + lo / 2 ^ (64 - s) := ⟨_, rfl⟩
    obtain ⟨t, et⟩ : ∃ x, x = lo * 2 ^ s % 18446744073709551616 := ⟨_, rfl⟩
    obtain ⟨Y, eY⟩ : ∃ x, x = y * 2 ^ s := ⟨_, rfl⟩
    rw [← eu, ← et, ← eY]
    rw [← eu, ← eY] at hu32
    rw [← eY] at hYlt hYge
    rw [← et] at m3
    clear eu et eY hhi
    have a1 : Go.bits .and .u64 (Y : Int) 4294967295 = ((Y % 4294967296 : Nat) : Int) := by rw [and_low32 _ (by omega) (by omega)]; omega
    have a2 : Go.bits .and .u64 (t : Int) 4294967295 = ((t % 4294967296 : Nat) : Int) := by rw [and_low32 _ (by omega) (by omega)]; omega
    have d1 : (Y : Int) / 4294967296 = ((Y / 4294967296 : Nat) : Int) := by omega
    have d2 : (t : Int) / 4294967296 = ((t / 4294967296 : Nat) : Int) := by omega
    rw [a1, a2, d1, d2]
    have D : Dg Y (Y / 4294967296) (Y % 4294967296) u32 (t / 4294967296) := ⟨by omega, by omega, by omega, by omega, hu32, by omega⟩
    have hY1 := D.y1
    have core := div64_core Y (Y / 4294967296) (Y % 4294967296) u32 (t / 4294967296) (t % 4294967296) s D hYlt (by omega) (by omega) (u32 * 18446744073709551616 + t) (by omega)
    clear a1 a2 d1 d2
    obtain ⟨yn1, e1⟩ : ∃ x, x = Y / 4294967296 := ⟨_, rfl⟩
    rw [← e1] at core hY1 ⊢
    simp only [show ¬ ((yn1 : Int) = 0) by omega, if_false]
    have w4 : IntKind.u64.wrap (Int.tdiv (u32 : Int) (yn1 : Int)) = ((u32 / yn1 : Nat) : Int) := by
      rw [tdivN]; exact wuN _ (Nat.lt_of_le_of_lt (Nat.div_le_self _ _) (by omega))
    have w5 : IntKind.u64.wrap ((u32 : Int) - IntKind.u64.wrap (((u32 / yn1 : Nat) : Int) * (yn1 : Int))) = ((u32 % yn1 : Nat) : Int) := by
      rw [mulN]
      have h5 : u32 / yn1 * yn1 ≤ u32 := Nat.div_mul_le_self _ _
      have h6 : u32 / yn1 * yn1 + u32 % yn1 = u32 := by rw [Nat.mul_comm]; exact Nat.div_add_mod _ _
      rw [wuN _ (by omega), subN _ _ h5, wuN _ (by omega)]
      congr 1
      omega
    rw [w4, w5]
    exact core
end Go.Proofs.YtjpgommmkjgddaaDoor.Pure
