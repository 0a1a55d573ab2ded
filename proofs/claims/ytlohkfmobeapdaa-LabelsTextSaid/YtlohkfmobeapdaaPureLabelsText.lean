/- For every list of labels (its first six, their first 10 bytes) and all lists made from numbers, Text and Get agree with the reference model: its pure statement. No condition. -/
import Derived.Test.YtlohkfmobeapdaaMText
import Derived.Test.YtlohkfmobeapdaaMNames
import Derived.Test.YtlohkfmobeapdaaPx6
namespace Go.Proofs.Ytlohkfmobeapdaa.Pure
open Go.RowKit Go.Proofs.Ytlohkfmobeapdaa.P Go.Proofs.YtlohkfmobeapdaaW.PrintWords Go.Proofs.YtlohkfmobeapdaaW.PrintLast Go.Proofs.YtlohkfmobeapdaaW.PrintMore
set_option linter.unusedVariables false
set_option linter.unusedSimpArgs false

theorem short_le (a : ByteArray) (m : Nat) : ∃ b, intervalmonref01_Short.f a (m : Int) = some b ∧ b.size ≤ m := by
  unfold intervalmonref01_Short.f
  by_cases h : (a.size : Int) > (m : Int)
  · rw [if_pos h, if_pos (by omega), if_pos (by omega)]
    refine ⟨_, rfl, ?_⟩
    rw [ByteArray.size_extract]; simp; omega
  · rw [if_neg h]; exact ⟨_, rfl, by omega⟩

theorem LabelsText : ∀ (x0 : (List S33)) (x1 : (List Int)) (a2 : ByteArray), (x0.length ≤ maxLen ∧ x0.length * 32 ≤ 140737488351232 ∧ ∀ x ∈ x0, (x.f0.size ≤ 140737488351232 ∧ x.f1.size ≤ 140737488351232)) → (x1.length ≤ maxLen ∧ x1.length * 8 ≤ 140737488351232 ∧ ∀ x ∈ x1, (Lit.int .i64 x).wf = true) → a2.size ≤ 140737488351232 → ∃ k, intervalmonlaw05_LabelsText.f k x0 x1 a2 = some true := by
  intro l n nm hL hN hA
  refine Ev.rounds ?_
  obtain ⟨dd, hd, hds, ed⟩ := dirty_ev2 n hN.2.2
  have second : ∀ few : List Lab, few.length ≤ 6 → shortL 10 few → Ev (fun k => intervalmonlaw05_LabelsText.l1 k nm few dd 0) true := by
    intro few hf hfs
    have loop : ∀ q i : Nat, i + q = dd.length → Ev (fun k => intervalmonlaw05_LabelsText.l1 k nm few dd (i : Int)) true := by
      intro q
      induction q with
      | zero =>
        intro i hi
        refine Ev.up ?_
        simp only [intervalmonlaw05_LabelsText.l1]
        simp only [show ¬ ((i : Int) < (dd.length : Int)) by omega, if_false, text_eq few 10 hfs (by omega) (by decide), text_eq dd 17 hds (by omega) (by decide), Option.bind_some]
        refine Ev.bind (refText_ev few 10 hfs (by omega) (by decide)) ?_
        simp only [if_true]
        refine Ev.bind (refText_ev dd 17 hds (by omega) (by decide)) ?_
        simp only [if_true]
        refine Ev.bind (get_ev few (by omega) nm) ?_
        refine Ev.bind (refGet_ev few (by omega) nm) ?_
        simp only [if_true, lives05, Option.bind_some]
        exact Ev.some _
      | succ q ih =>
        intro i hi
        refine Ev.up ?_
        simp only [intervalmonlaw05_LabelsText.l1]
        simp only [show ((i : Int) < (dd.length : Int)) by omega, if_true, Int.natCast_nonneg, w64s i (by omega)]
        refine Ev.bind (get_ev dd (by omega) _) ?_
        refine Ev.bind (refGet_ev dd (by omega) _) ?_
        simp only [if_true]
        exact ih (i + 1) (by omega)
    exact loop dd.length 0 (by omega)
  have stop : ∀ few (i : Int), few.length ≤ 6 → shortL 10 few → Ev (fun k => intervalmonlaw05_LabelsText.j1 k l n nm few i false) true := by
    intro few i hf hfs
    refine Ev.up ?_
    simp only [intervalmonlaw05_LabelsText.j1]
    simp only [Bool.false_eq_true, if_false]
    exact Ev.bind ed (second few hf hfs)
  have first : ∀ (q i : Nat) (few : List Lab), i + q = 6 → few.length = i → shortL 10 few → Ev (fun k => intervalmonlaw05_LabelsText.l0 k l n nm few (i : Int)) true := by
    intro q
    induction q with
    | zero =>
      intro i few hi hf hfs
      refine Ev.up ?_
      simp only [intervalmonlaw05_LabelsText.l0]
      simp only [show decide ((i : Int) < 6) = false from decide_eq_false (by omega), ite_self]
      exact stop few _ (by omega) hfs
    | succ q ih =>
      intro i few hi hf hfs
      refine Ev.up ?_
      simp only [intervalmonlaw05_LabelsText.l0]
      by_cases h : (i : Int) < (l.length : Int)
      · simp only [if_pos h, show decide ((i : Int) < 6) = true from decide_eq_true (by omega)]
        refine Ev.up ?_
        simp only [intervalmonlaw05_LabelsText.j1]
        obtain ⟨a, ha, ha2⟩ := short_le (rd_T33 l (i : Int)).f0 10
        obtain ⟨b, hb, hb2⟩ := short_le (rd_T33 l (i : Int)).f1 10
        simp only [if_true, Int.natCast_nonneg, if_pos h, show intervalmonref01_Short.f (rd_T33 l (i : Int)).f0 10 = some a from ha, show intervalmonref01_Short.f (rd_T33 l (i : Int)).f1 10 = some b from hb, Option.bind_some, show few.length < 4398046511104 by omega, w64s i (by omega)]
        refine ih (i + 1) _ (by omega) (by simp; omega) (fun x hx => ?_)
        rcases List.mem_append.1 hx with hx | hx
        · exact hfs x hx
        · rw [List.mem_singleton.1 hx]; exact ⟨ha2, hb2⟩
      · simp only [if_neg h]
        exact stop few _ (by omega) hfs
  exact first 6 0 [] (by omega) rfl (fun x hx => by cases hx)
end Go.Proofs.Ytlohkfmobeapdaa.Pure
