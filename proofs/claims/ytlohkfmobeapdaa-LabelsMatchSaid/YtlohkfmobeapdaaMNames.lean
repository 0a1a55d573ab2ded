/- Names and values: the reference comes to nameB and valueB; the documented examples, reckoned. -/
import Derived.Test.YtlohkfmobeapdaaMB
import Derived.Test.YtlohkfmobeapdaaPx2
import Derived.Test.YtlohkfmobeapdaaPx2
import Derived.Test.YtlohkfmobeapdaaPx3
namespace Go.Proofs.Ytlohkfmobeapdaa.Pure
open Go.RowKit Go.Proofs.Ytlohkfmobeapdaa.P Go.Proofs.YtlohkfmobeapdaaW.PrintWords Go.Proofs.YtlohkfmobeapdaaW.PrintLast Go.Proofs.YtlohkfmobeapdaaW.PrintMore
set_option linter.unusedVariables false
set_option linter.unusedSimpArgs false

/-! ### names -/
theorem letter_eq (c : Int) : intervalmonref05_letter.f c = some (decide (97 ≤ c) && decide (c ≤ 122)) := by
  unfold intervalmonref05_letter.f
  by_cases h : 97 ≤ c
  · rw [if_pos (by omega), decide_eq_true h]; rfl
  · rw [if_neg (by omega), decide_eq_false h]; rfl
theorem refName_loop (s : ByteArray) (hs : s.size < 4611686018427387904) (d : Nat) : ∀ i : Nat, i + d = s.size → nameTo s i = true → Ev (fun k => intervalmonref05_Name.l0 k s (i : Int)) (nameTo s s.size) := by
  induction d with
  | zero =>
    intro i hi hn
    refine Ev.up ?_
    simp only [intervalmonref05_Name.l0]
    rw [show s.size = i by omega, hn]
    simp only [show ¬ ((i : Int) < (i : Int)) by omega, if_false]
    exact Ev.some _
  | succ d ih =>
    intro i hi hn
    refine Ev.up ?_
    simp only [intervalmonref05_Name.l0]
    have hsucc := nameTo_succ s i
    rw [hn, Bool.true_and] at hsucc
    have hlt : (i : Int) < (s.size : Int) := by omega
    simp only [if_pos hlt, if_pos (Int.natCast_nonneg i), letter_eq, Option.bind_some, w64s i (by omega)]
    generalize bt s (i : Int) = c at *
    have go := fun h : nameByte c ((i : Int) == 0) = true => ih (i + 1) (by omega) (by rw [hsucc, h])
    have stop := fun h : nameByte c ((i : Int) == 0) = false => nameTo_false s (i + 1) s.size (by rw [hsucc, h]) (by omega)
    by_cases hL : 97 ≤ c ∧ c ≤ 122
    · have hb : (decide (97 ≤ c) && decide (c ≤ 122)) = true := by simp [hL]
      have hg := go (by simp [nameByte, hL])
      simp only [hb, if_true, ite_self]
      exact hg
    · have hb : (decide (97 ≤ c) && decide (c ≤ 122)) = false := by
        rw [Bool.and_eq_false_iff, decide_eq_false_iff_not, decide_eq_false_iff_not]; omega
      by_cases h0 : (i : Int) = 0
      · have hst := stop (by unfold nameByte; rw [hb, beq_iff_eq.2 h0]; rfl)
        simp only [hb, Bool.false_eq_true, if_false, if_pos h0, hst, ite_self]
        exact Ev.some _
      · have h0b : ((i : Int) == 0) = false := beq_eq_false_iff_ne.2 h0
        by_cases hD : 48 ≤ c ∧ c ≤ 57
        · have hg := go (by unfold nameByte; rw [hb, h0b, decide_eq_true hD.1, decide_eq_true hD.2]; rfl)
          simp only [hb, Bool.false_eq_true, if_false, if_neg h0, if_pos (show c ≥ 48 from hD.1), if_pos hD.2]
          exact hg
        · have hDb : (decide (48 ≤ c) && decide (c ≤ 57)) = false := by
            rw [Bool.and_eq_false_iff, decide_eq_false_iff_not, decide_eq_false_iff_not]; omega
          by_cases h95 : c = 95
          · have hg := go (by unfold nameByte; rw [hb, h0b, hDb, beq_iff_eq.2 h95]; rfl)
            simp only [hb, Bool.false_eq_true, if_false, if_neg h0, if_pos h95, show c ≥ 48 by omega, show ¬ c ≤ 57 by omega, if_true]
            exact hg
          · have hst := stop (by unfold nameByte; rw [hb, h0b, hDb, beq_eq_false_iff_ne.2 h95]; rfl)
            by_cases h48 : c ≥ 48
            · simp only [hb, Bool.false_eq_true, if_false, if_neg h0, if_neg h95, if_pos h48, show ¬ c ≤ 57 by omega, hst]
              exact Ev.some _
            · simp only [hb, Bool.false_eq_true, if_false, if_neg h0, if_neg h95, if_neg h48, hst]
              exact Ev.some _
theorem refName (s : ByteArray) : Ev (fun k => intervalmonref05_Name.f k s) (nameB s) := by
  unfold intervalmonref05_Name.f nameB
  by_cases h : s.size < 1
  · simp only [if_pos (show (s.size : Int) < 1 by omega), show ¬ 1 ≤ s.size by omega, decide_false, Bool.false_and]
    refine Ev.up ?_
    simp only [intervalmonref05_Name.j0]
    simp only [if_true]
    exact Ev.some _
  · simp only [if_neg (show ¬ (s.size : Int) < 1 by omega), show 1 ≤ s.size by omega, decide_true, Bool.true_and]
    refine Ev.up ?_
    simp only [intervalmonref05_Name.j0]
    by_cases h2 : 16 < s.size
    · simp only [decide_eq_true (show (s.size : Int) > 16 by omega), if_true, show ¬ s.size ≤ 16 by omega, decide_false, Bool.false_and]
      exact Ev.some _
    · simp only [decide_eq_false (show ¬ (s.size : Int) > 16 by omega), Bool.false_eq_true, if_false, show s.size ≤ 16 by omega, decide_true, Bool.true_and]
      exact refName_loop s (by omega) s.size 0 (by omega) rfl


/-! ### values -/
theorem bt_bd (s : ByteArray) (i : Nat) (h : i < s.size) : 0 ≤ bt s (i : Int) ∧ bt s (i : Int) < 256 := by
  have := bt_at s (i : Int) (by simpa using h)
  have hb : bt s (i : Int) = ((s[i]'h).toNat : Int) := by rw [← this]; rfl
  rw [hb]
  have := (s[i]'h).toNat_lt
  omega
theorem resB_all : ∀ n : Fin 256, resB ((n : Nat) : Int) = (((n : Nat) == 34) || ((n : Nat) == 92) || ((n : Nat) == 44) || ((n : Nat) == 123) || ((n : Nat) == 125)) := by
  decide +kernel
theorem resB_eq (c : Int) (h0 : 0 ≤ c) (h1 : c < 256) : resB c = (decide (c = 34) || decide (c = 92) || decide (c = 44) || decide (c = 123) || decide (c = 125)) := by
  have h := resB_all ⟨c.toNat, by omega⟩
  rw [show (((⟨c.toNat, by omega⟩ : Fin 256) : Nat) : Int) = c by simp; omega] at h
  rw [h, Bool.eq_iff_iff]
  simp only [Bool.or_eq_true, beq_iff_eq, decide_eq_true_eq]
  omega
theorem refValue_loop (s : ByteArray) (hs : s.size < 4611686018427387904) (d : Nat) : ∀ i : Nat, i + d = s.size → valueTo s i = true → Ev (fun k => intervalmonref05_Value.l0 k s (i : Int)) (valueTo s s.size) := by
  induction d with
  | zero =>
    intro i hi hn
    refine Ev.up ?_
    simp only [intervalmonref05_Value.l0]
    rw [show s.size = i by omega, hn]
    simp only [show ¬ ((i : Int) < (i : Int)) by omega, if_false]
    exact Ev.some _
  | succ d ih =>
    intro i hi hn
    refine Ev.up ?_
    simp only [intervalmonref05_Value.l0]
    have hsucc := valueTo_succ s i
    rw [hn, Bool.true_and] at hsucc
    have hlt : (i : Int) < (s.size : Int) := by omega
    have hb := bt_bd s i (by omega)
    simp only [if_pos hlt, if_pos (Int.natCast_nonneg i), w64s i (by omega)]
    have hr := resB_eq (bt s (i : Int)) hb.1 hb.2
    generalize bt s (i : Int) = c at *
    have go := fun h : valueByte c = true => ih (i + 1) (by omega) (by rw [hsucc, h])
    have stop := fun h : valueByte c = false => valueTo_false s (i + 1) s.size (by rw [hsucc, h]) (by omega)
    unfold valueByte at go stop
    by_cases h1 : c < 33
    · simp only [if_pos h1, stop (by simp [show c ≤ 32 by omega])]
      exact Ev.some _
    · by_cases h2 : c > 126
      · simp only [if_neg h1, if_pos h2, stop (by simp [show 126 < c by omega])]
        exact Ev.some _
      · rw [hr] at go stop
        simp only [if_neg h1, if_neg h2]
        by_cases a : c = 34
        · simp only [if_pos a, stop (by simp [a])]
          exact Ev.some _
        · by_cases b : c = 92
          · simp only [if_neg a, if_pos b, stop (by simp [b])]
            exact Ev.some _
          · by_cases e : c = 44
            · simp only [if_neg a, if_neg b, if_pos e, stop (by simp [e])]
              exact Ev.some _
            · by_cases f : c = 123
              · simp only [if_neg a, if_neg b, if_neg e, if_pos f, stop (by simp [f])]
                exact Ev.some _
              · by_cases g : c = 125
                · simp only [if_neg a, if_neg b, if_neg e, if_neg f, if_pos g, stop (by simp [g])]
                  exact Ev.some _
                · simp only [if_neg a, if_neg b, if_neg e, if_neg f, if_neg g]
                  exact go (by simp [a, b, e, f, g]; omega)
theorem refValue (s : ByteArray) : Ev (fun k => intervalmonref05_Value.f k s) (valueB s) := by
  unfold intervalmonref05_Value.f valueB
  by_cases h : s.size ≤ 16
  · simp only [if_neg (show ¬ (s.size : Int) > 16 by omega), decide_eq_true h, Bool.true_and]
    exact refValue_loop s (by omega) s.size 0 (by omega) rfl
  · simp only [if_pos (show (s.size : Int) > 16 by omega), decide_eq_false h, Bool.false_and]
    exact Ev.some _

/-! ### the examples -/
set_option maxRecDepth 100000 in
theorem lives05 : intervalmonlaw05_lives.f = some true := by decide +kernel
end Go.Proofs.Ytlohkfmobeapdaa.Pure
