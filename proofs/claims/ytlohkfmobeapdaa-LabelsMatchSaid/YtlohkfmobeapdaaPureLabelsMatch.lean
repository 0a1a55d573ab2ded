/- For all label sets and matchers made from numbers, and one matcher with any fields, Match agrees with the reference model: its pure statement. No condition. -/
import Derived.Test.YtlohkfmobeapdaaMMatch
import Derived.Test.YtlohkfmobeapdaaMText
import Derived.Test.YtlohkfmobeapdaaMNames
import Derived.Test.YtlohkfmobeapdaaPx14
import Derived.Test.YtlohkfmobeapdaaPx13
namespace Go.Proofs.Ytlohkfmobeapdaa.Pure
open Go.RowKit Go.Proofs.Ytlohkfmobeapdaa.P Go.Proofs.YtlohkfmobeapdaaW.PrintWords Go.Proofs.YtlohkfmobeapdaaW.PrintLast Go.Proofs.YtlohkfmobeapdaaW.PrintMore
set_option linter.unusedVariables false
set_option linter.unusedSimpArgs false

theorem holds_eq (m : Mat) (v : ByteArray) : intervalmonref05_holds.f m.f0 m.f1 m.f2 v = some (mB m v) := by
  unfold intervalmonref05_holds.f mB
  by_cases h0 : m.f1 = 0
  · rw [if_pos h0, if_pos h0]; rfl
  · rw [if_neg h0, if_neg h0]
    by_cases h1 : m.f1 = 1
    · rw [if_pos h1, if_pos h1]; rfl
    · rw [if_neg h1, if_neg h1]
      by_cases h2 : m.f1 = 2
      · rw [if_pos h2, if_pos h2]
        unfold preB
        by_cases h : m.f2.size ≤ v.size
        · rw [if_pos (by omega), if_pos (by omega), if_pos (by omega), decide_eq_true h, Bool.true_and]
          rfl
        · rw [if_neg (by omega), decide_eq_false h]; rfl
      · rw [if_neg h2, if_neg h2]
theorem refMatch_loop (l : List Lab) (hl : l.length < 4398046511104) (ms : List Mat) (hm : ms.length < 4398046511104) (d : Nat) : ∀ i : Nat, i + d = ms.length → Ev (fun k => intervalmonref05_Match.l0 k l ms (i : Int)) (matchL l (ms.drop i)) := by
  induction d with
  | zero =>
    intro i hi
    refine Ev.up ?_
    simp only [intervalmonref05_Match.l0]
    simp only [show ¬ ((i : Int) < (ms.length : Int)) by omega, if_false, List.drop_of_length_le (show ms.length ≤ i by omega)]
    exact Ev.some _
  | succ d ih =>
    intro i hi
    refine Ev.up ?_
    simp only [intervalmonref05_Match.l0]
    have hlt : i < ms.length := by omega
    have ih' := ih (i + 1) (by omega)
    simp only [show ((i : Int) < (ms.length : Int)) by omega, if_true, Int.natCast_nonneg, rdM ms i hlt, w64s i (by omega)]
    refine Ev.bind (refGet_ev l hl _) ?_
    have hd : matchL l (ms.drop i) = (mB ms[i] (getL l ms[i].f0) && matchL l (ms.drop (i + 1))) := by rw [List.drop_eq_getElem_cons hlt]; rfl
    rw [hd]
    simp only [holds_eq, Option.bind_some]
    cases mB ms[i] (getL l ms[i].f0)
    · exact Ev.some _
    · simp only [if_true, Bool.true_and]; exact ih'
theorem refMatch_ev (l : List Lab) (hl : l.length < 4398046511104) (ms : List Mat) (hm : ms.length < 4398046511104) : Ev (fun k => intervalmonref05_Match.f k l ms) (matchL l ms) := refMatch_loop l hl ms hm ms.length 0 (by omega)

theorem LabelsMatch : ∀ (x0 : (List Int)) (x1 : (List Int)) (x2 : S24), (x0.length ≤ maxLen ∧ x0.length * 8 ≤ 140737488351232 ∧ ∀ x ∈ x0, (Lit.int .i64 x).wf = true) → (x1.length ≤ maxLen ∧ x1.length * 8 ≤ 140737488351232 ∧ ∀ x ∈ x1, (Lit.int .i64 x).wf = true) → (x2.f0.size ≤ 140737488351232 ∧ (Lit.int .i64 x2.f1).wf = true ∧ x2.f2.size ≤ 140737488351232) → ∃ k, intervalmonlaw05_LabelsMatch.f k x0 x1 x2.f0 x2.f1 x2.f2 = some true := by
  intro l m one hl hm ho
  refine Ev.rounds ?_
  obtain ⟨a, ha, ea⟩ := mat_ev m hm.2.2
  have es := set_ev l hl.2.2
  have hs := setL_len l
  generalize setL l = s at *
  unfold intervalmonlaw05_LabelsMatch.f
  refine Ev.bind es ?_
  refine Ev.bind ea ?_
  refine Ev.bind ea ?_
  simp only [Option.bind_some, List.length_cons, List.length_nil, show a.length + (0 + 1) < 3518437208883 by omega, if_true, around _ 4 ho.2.1 (by decide)]
  refine Ev.bind (match_ev s (by omega) a (by omega)) ?_
  refine Ev.bind (refMatch_ev s (by omega) a (by omega)) ?_
  simp only [beq_self_eq_true, if_true]
  refine Ev.bind (match_ev s (by omega) _ (by simp; omega)) ?_
  refine Ev.bind (refMatch_ev s (by omega) _ (by simp; omega)) ?_
  simp only [beq_self_eq_true, if_true]
  refine Ev.bind (match_ev s (by omega) _ (by simp)) ?_
  refine Ev.bind (refMatch_ev s (by omega) _ (by simp)) ?_
  simp only [beq_self_eq_true, if_true]
  refine Ev.bind (match_ev s (by omega) [] (by simp)) ?_
  simp only [matchL, List.all_nil, if_true, lives05, Option.bind_some]
  exact Ev.some _
end Go.Proofs.Ytlohkfmobeapdaa.Pure
