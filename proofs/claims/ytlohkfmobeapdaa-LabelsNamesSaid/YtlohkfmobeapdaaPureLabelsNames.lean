/- For every string (its first 20 bytes) and every matcher made of two such strings and any kind, Name, Value and ValidMatcher agree with the reference model: its pure statement. No condition. -/
import Derived.Test.YtlohkfmobeapdaaMNames
import Derived.Test.YtlohkfmobeapdaaPx4
namespace Go.Proofs.Ytlohkfmobeapdaa.Pure
open Go.RowKit Go.Proofs.Ytlohkfmobeapdaa.P Go.Proofs.YtlohkfmobeapdaaW.PrintWords Go.Proofs.YtlohkfmobeapdaaW.PrintLast Go.Proofs.YtlohkfmobeapdaaW.PrintMore
set_option linter.unusedVariables false
set_option linter.unusedSimpArgs false

theorem short_some (a : ByteArray) (m : Int) (hm : 0 ≤ m) : ∃ b, intervalmonref01_Short.f a m = some b := by
  unfold intervalmonref01_Short.f
  by_cases h : (a.size : Int) > m
  · rw [if_pos h, if_pos hm, if_pos (by omega)]; exact ⟨_, rfl⟩
  · rw [if_neg h]; exact ⟨_, rfl⟩

/-- What ValidMatcher tells. -/
def vmB (n : ByteArray) (k : Int) (v : ByteArray) : Bool := nameB n && (decide (0 ≤ k) && (decide (k ≤ 2) && valueB v))
theorem vm_eq (n : ByteArray) (k : Int) (v : ByteArray) : labels_ValidMatcher.f n k v = some (vmB n k v) := by
  unfold labels_ValidMatcher.f labels_Name.f labels_Value.f vmB
  cases nameB n
  · rfl
  · by_cases h0 : 0 ≤ k
    · by_cases h2 : k ≤ 2 <;> simp [h0, h2]
    · simp [h0]
theorem vm_ref (n : ByteArray) (k : Int) (v : ByteArray) : Ev (fun q => intervalmonref05_ValidMatcher.f q n k v) (vmB n k v) := by
  unfold intervalmonref05_ValidMatcher.f vmB
  refine Ev.bind (refName n) ?_
  cases nameB n
  · exact Ev.some _
  · by_cases h0 : 0 ≤ k
    · by_cases h2 : k ≤ 2
      · simp only [if_true, if_pos (show k ≥ 0 from h0), if_pos h2, decide_eq_true h0, decide_eq_true h2, Bool.true_and]
        exact Ev.bind (refValue v) (Ev.some _)
      · simp only [if_true, if_pos (show k ≥ 0 from h0), if_neg h2, decide_eq_true h0, decide_eq_false h2, Bool.true_and, Bool.false_and]
        exact Ev.some _
    · simp only [if_true, if_neg (show ¬ k ≥ 0 from h0), decide_eq_false h0, Bool.true_and, Bool.false_and]
      exact Ev.some _

theorem LabelsNames : intervalmonlaw05_LabelsNames.Pure := by
  intro a b kind ha hb hk
  refine Ev.rounds ?_
  obtain ⟨s, hs⟩ := short_some a 20 (by decide)
  obtain ⟨v, hv⟩ := short_some b 20 (by decide)
  unfold intervalmonlaw05_LabelsNames.f
  simp only [hs, hv, Option.bind_some, around kind 4 hk (by decide), labels_Name.f, labels_Value.f, vm_eq, lives05]
  refine Ev.bind (refName s) ?_
  simp only [beq_self_eq_true, if_true]
  refine Ev.bind (refValue v) ?_
  simp only [beq_self_eq_true, if_true]
  refine Ev.bind (vm_ref s kind v) ?_
  simp only [beq_self_eq_true, if_true]
  refine Ev.bind (vm_ref _ _ v) ?_
  simp only [beq_self_eq_true, if_true]
  exact Ev.some _
end Go.Proofs.Ytlohkfmobeapdaa.Pure
