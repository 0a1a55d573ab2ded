/- For all label sets and matchers made from numbers, Match depends only on the labels that the matchers name, a conjunction of two lists of matchers holds if and only if both lists hold, exactly one of an equality and an inequality with the same name and value holds, and an equality implies the prefix: its pure statement. No condition. -/
import Derived.Test.YtlohkfmobeapdaaMMatch
import Derived.Test.YtlohkfmobeapdaaMNames
import Derived.Test.YtlohkfmobeapdaaPx15
namespace Go.Proofs.Ytlohkfmobeapdaa.Pure
open Go.RowKit Go.Proofs.Ytlohkfmobeapdaa.P Go.Proofs.YtlohkfmobeapdaaW.PrintWords Go.Proofs.YtlohkfmobeapdaaW.PrintLast Go.Proofs.YtlohkfmobeapdaaW.PrintMore
set_option linter.unusedVariables false
set_option linter.unusedSimpArgs false

theorem getL_keep (names : List ByteArray) (n : ByteArray) (hn : n ∈ names) : ∀ l : List Lab, getL (keepL l names) n = getL l n
  | [] => rfl
  | x :: r => by
    have ih := getL_keep names n hn r
    unfold keepL at ih ⊢
    rw [List.filter_cons]
    by_cases h : eqB x.f0 n = true
    · have e := (eqB_iff _ _).1 h
      have hi : inL names x.f0 = true := (inL_iff _ _).2 (by rw [e]; exact hn)
      rw [if_pos hi]
      unfold getL
      rw [if_pos h, if_pos h]
    · have hs : getL (x :: r) n = getL r n := by rw [getL, if_neg h]
      rw [hs]
      split
      · rw [getL, if_neg h]; exact ih
      · exact ih
theorem match_keep (l : List Lab) (ms : List Mat) : matchL (keepL l (ms.map fun m => m.f0)) ms = matchL l ms := by
  unfold matchL
  rw [Bool.eq_iff_iff, List.all_eq_true, List.all_eq_true]
  refine forall_congr' fun m => forall_congr' fun hm => ?_
  rw [getL_keep _ m.f0 (List.mem_map.2 ⟨m, hm, rfl⟩) l]
theorem match_app (l : List Lab) (a b : List Mat) : matchL l (a ++ b) = (matchL l a && matchL l b) := by simp [matchL]

theorem j1_ev (n : List Int) (hn : ∀ x ∈ n, (Lit.int .i64 x).wf = true) (which : Int) (hw : (Lit.int .i64 which).wf = true) (s : List Lab) (hs : s.length ≤ 6) : Ev (fun k => intervalmonlaw05_LabelsSelective.j1 k n which s false) true := by
  refine Ev.up ?_
  simp only [intervalmonlaw05_LabelsSelective.j1]
  have ha := arn_bd which 6 (by decide)
  simp only [Bool.false_eq_true, if_false, names_eq, Option.bind_some, around which 6 hw (by decide), ha.1, if_true, show arn which 6 < (names6.length : Int) from ha.2]
  have hl := setL_len n
  refine Ev.bind (set_ev n hn) ?_
  generalize setL n = t at *
  generalize rdOf ByteArray.empty names6 (arn which 6) = nm
  refine Ev.bind (get_ev t (by omega) nm) ?_
  generalize getL t nm = v
  refine Ev.bind (match_ev s (by omega) _ (by simp)) ?_
  refine Ev.bind (match_ev s (by omega) _ (by simp)) ?_
  refine Ev.bind (match_ev s (by omega) _ (by simp)) ?_
  have e0 : matchL s [(⟨nm, 0, v⟩ : Mat)] = eqB (getL s nm) v := by simp [matchL, mB]
  have e1 : matchL s [(⟨nm, 1, v⟩ : Mat)] = !(eqB (getL s nm) v) := by simp [matchL, mB]
  have e2 : matchL s [(⟨nm, 2, v⟩ : Mat)] = preB (getL s nm) v := by simp [matchL, mB]
  rw [e0, e1, e2]
  have hg := get_ev s (by omega) nm
  generalize getL s nm = g at *
  cases h : eqB g v
  · simp only [Bool.not_false, show (false != true) = true from rfl, if_true, Bool.false_eq_true, if_false]
    refine Ev.bind hg ?_
    simp only [show (g.toList == v.toList) = false from h, show (false == false) = true from rfl, if_true, lives05, Option.bind_some]
    exact Ev.some _
  · obtain rfl := (eqB_iff _ _).1 h
    simp only [Bool.not_true, show (true != false) = true from rfl, if_true, preB_self]
    refine Ev.bind hg ?_
    simp only [show (g.toList == g.toList) = true from h, show (true == true) = true from rfl, if_true, lives05, Option.bind_some]
    exact Ev.some _

theorem LabelsSelective : intervalmonlaw05_LabelsSelective.Pure := by
  intro l m n which _ _ hl _ _ hm _ _ hn hw
  refine Ev.rounds ?_
  obtain ⟨a, ha, ea⟩ := mat_ev m hm
  obtain ⟨b, hb, eb⟩ := mat_ev n hn
  have es := set_ev l hl
  have hs := setL_len l
  generalize setL l = s at *
  unfold intervalmonlaw05_LabelsSelective.f
  refine Ev.bind es ?_
  refine Ev.bind ea ?_
  refine Ev.bind eb ?_
  have loop : ∀ d i : Nat, i + d = a.length → Ev (fun k => intervalmonlaw05_LabelsSelective.l0 k n which s a b ((a.take i).map fun x => x.f0) (i : Int)) true := by
    intro d
    induction d with
    | zero =>
      intro i hi
      refine Ev.up ?_
      simp only [intervalmonlaw05_LabelsSelective.l0]
      simp only [show ¬ ((i : Int) < (a.length : Int)) by omega, if_false, List.take_of_length_le (show a.length ≤ i by omega), List.length_nil, List.nil_append, show 0 + a.length < 3518437208883 by omega, show a.length + b.length < 3518437208883 by omega, if_true, Option.bind_some]
      refine Ev.bind (match_ev s (by omega) a (by omega)) ?_
      refine Ev.bind (keep_ev s (by omega) _ (by simp; omega)) ?_
      have hk : (keepL s (a.map fun x => x.f0)).length ≤ 6 := Nat.le_trans (List.length_filter_le _ _) hs
      refine Ev.bind (match_ev _ (by omega) a (by omega)) ?_
      rw [match_keep]
      simp only [bne_self_eq_false, Bool.false_eq_true, if_false]
      refine Ev.bind (match_ev s (by omega) (a ++ b) (by simp; omega)) ?_
      rw [match_app]
      have t := j1_ev n hn which hw s hs
      cases matchL s a
      · simp only [Bool.false_eq_true, if_false, Bool.false_and, bne_self_eq_false]
        exact t
      · simp only [if_true, Bool.true_and]
        refine Ev.bind (match_ev s (by omega) b (by omega)) ?_
        simp only [bne_self_eq_false]
        exact t
    | succ d ih =>
      intro i hi
      refine Ev.up ?_
      simp only [intervalmonlaw05_LabelsSelective.l0]
      have hlt : i < a.length := by omega
      have ih' := ih (i + 1) (by omega)
      rw [List.take_succ_eq_append_getElem hlt, List.map_append] at ih'
      simp only [show ((i : Int) < (a.length : Int)) by omega, if_true, Int.natCast_nonneg, List.length_map, List.length_take, show min i a.length < 8796093022208 by omega, rdM a i hlt, w64s i (by omega)]
      exact ih'
  exact loop a.length 0 (by omega)
end Go.Proofs.Ytlohkfmobeapdaa.Pure
