/- cmp.Compare at strings, walked once. -/
import Derived.Test.YtcamljlhdejmmaaPx0
namespace Go.Proofs.Ytcamljlhdejmmaa.P
open Go.RowKit Go.Proofs.YtcamljlhdejmmaaW.PrintWords Go.Proofs.YtcamljlhdejmmaaW.PrintLast Go.Proofs.YtcamljlhdejmmaaW.PrintMore
set_option linter.unusedVariables false
set_option linter.unusedSimpArgs false

def cmpS (a b : ByteArray) : Int := if Op.bytesLess a.toList b.toList = true then -1 else if (a.toList == b.toList) = true then 0 else 1

set_option maxHeartbeats 1000000 in
theorem isNaN_calls (a : ByteArray) (W : World) : Calls Try.prog 67 #[.string a] W fun e w' => e = .returned (.bool false) ∧ w' = W := by
  go_enter Try.func67, Try.ntmps67
  go_wp2
  go_ret
  exact ⟨by simp, rfl⟩
set_option maxHeartbeats 1000000 in
theorem cmpStr_calls (a b : ByteArray) (W : World) : Calls Try.prog 59 #[.string a, .string b] W fun e w' => e = .returned (.int .i64 (cmpS a b)) ∧ w' = W := by
  unfold cmpS
  cases h1 : Op.bytesLess a.toList b.toList <;> cases h2 : (a.toList == b.toList)
  all_goals
    have h3 := bytesLess_gt a.toList b.toList
    rw [h1, h2] at h3
    simp only [Bool.or_false, Bool.or_true, Bool.not_true, Bool.not_false, Bool.or_self] at h3
    replace h3 := h3.symm
    simp only [if_true, Bool.false_eq_true, if_false]
    go_enter Try.func59, Try.ntmps59
    go_wp2_with (go_at_call 67; refine (isNaN_calls _ _).mono ?_; rintro e w' ⟨rfl, rfl⟩)
    go_ret
    exact ⟨rfl, rfl⟩
end Go.Proofs.Ytcamljlhdejmmaa.P
