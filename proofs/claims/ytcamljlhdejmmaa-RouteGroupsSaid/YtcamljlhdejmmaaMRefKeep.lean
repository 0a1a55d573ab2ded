/- The reference's Keep comes to keepL. -/
import Derived.Test.YtcamljlhdejmmaaMKeep
import Derived.Test.YtcamljlhdejmmaaPx7
namespace Go.Proofs.Ytcamljlhdejmmaa.Pure
open Go.RowKit Go.Proofs.Ytcamljlhdejmmaa.P Go.Proofs.YtcamljlhdejmmaaW.PrintWords Go.Proofs.YtcamljlhdejmmaaW.PrintLast Go.Proofs.YtcamljlhdejmmaaW.PrintMore
set_option linter.unusedVariables false
set_option linter.unusedSimpArgs false

theorem in_loop (l : List ByteArray) (hl : l.length < 8796093022208) (n : ByteArray) (d : Nat) : ∀ i : Nat, i + d = l.length → Ev (fun k => intervalmonref05_in.l0 k l n (i : Int)) (inL (l.drop i) n) := by
  induction d with
  | zero =>
    intro i hi
    refine Ev.up ?_
    simp only [intervalmonref05_in.l0]
    simp only [show ¬ ((i : Int) < (l.length : Int)) by omega, if_false, List.drop_of_length_le (show l.length ≤ i by omega)]
    exact Ev.some _
  | succ d ih =>
    intro i hi
    refine Ev.up ?_
    simp only [intervalmonref05_in.l0]
    have hlt : i < l.length := by omega
    have ih' := ih (i + 1) (by omega)
    have hd : inL (l.drop i) n = (eqB n l[i] || inL (l.drop (i + 1)) n) := by rw [List.drop_eq_getElem_cons hlt]; rfl
    simp only [show ((i : Int) < (l.length : Int)) by omega, if_true, Int.natCast_nonneg, rdBy l i hlt, w64s i (by omega)]
    rw [hd]
    unfold eqB
    by_cases h : l[i].toList = n.toList
    · simp only [h, if_true, beq_self_eq_true, Bool.true_or]
      exact Ev.some _
    · simp only [h, if_false, beq_eq_false_iff_ne.2 (fun e => h e.symm), Bool.false_or]
      exact ih'
theorem in_ev (l : List ByteArray) (hl : l.length < 8796093022208) (n : ByteArray) : Ev (fun k => intervalmonref05_in.f k l n) (inL l n) := in_loop l hl n l.length 0 (by omega)
theorem refKeep_loop (l : List Lab) (hl : l.length < 4398046511104) (names : List ByteArray) (hn : names.length < 8796093022208) (d : Nat) : ∀ i : Nat, i + d = l.length → Ev (fun k => intervalmonref05_Keep.l0 k l names (keepL (l.take i) names) (i : Int)) (keepL l names) := by
  induction d with
  | zero =>
    intro i hi
    refine Ev.up ?_
    simp only [intervalmonref05_Keep.l0]
    simp only [show ¬ ((i : Int) < (l.length : Int)) by omega, if_false, List.take_of_length_le (show l.length ≤ i by omega)]
    exact Ev.some _
  | succ d ih =>
    intro i hi
    refine Ev.up ?_
    simp only [intervalmonref05_Keep.l0]
    have hlt : i < l.length := by omega
    have ih' := ih (i + 1) (by omega)
    have hle : (keepL (l.take i) names).length ≤ i := Nat.le_trans (List.length_filter_le _ _) (by rw [List.length_take]; omega)
    rw [List.take_succ_eq_append_getElem hlt] at ih'
    unfold keepL at ih' hle ⊢
    rw [List.filter_append] at ih'
    simp only [show ((i : Int) < (l.length : Int)) by omega, if_true, Int.natCast_nonneg, rdL l i hlt, w64s i (by omega)]
    refine Ev.bind (in_ev names hn _) ?_
    cases h : inL names l[i].f0
    · simp only [Bool.false_eq_true, if_false]
      rw [List.filter_cons, h] at ih'
      simpa using ih'
    · simp only [if_true, show (List.filter (fun x => inL names x.f0) (l.take i)).length < 4398046511104 by omega]
      rw [List.filter_cons, h] at ih'
      simpa using ih'
theorem refKeep_ev (l : List Lab) (hl : l.length < 4398046511104) (names : List ByteArray) (hn : names.length < 8796093022208) : Ev (fun k => intervalmonref05_Keep.f k l names) (keepL l names) :=
  refKeep_loop l hl names hn l.length 0 (by omega)
end Go.Proofs.Ytcamljlhdejmmaa.Pure
