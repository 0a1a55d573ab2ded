/- For all lists of labels made from numbers and any list of names (its first eight, and some that occur), Keep agrees with the reference model, is idempotent, and returns label sets for label sets: its pure statement. No condition. -/
import Derived.Test.YtlohkfmobeapdaaMSet
import Derived.Test.YtlohkfmobeapdaaPx11
import Derived.Test.YtlohkfmobeapdaaPx10
namespace Go.Proofs.Ytlohkfmobeapdaa.Pure
open Go.RowKit Go.Proofs.Ytlohkfmobeapdaa.P Go.Proofs.YtlohkfmobeapdaaW.PrintWords Go.Proofs.YtlohkfmobeapdaaW.PrintLast Go.Proofs.YtlohkfmobeapdaaW.PrintMore
set_option linter.unusedVariables false
set_option linter.unusedSimpArgs false

theorem in_loop (l : List ByteArray) (hl : l.length < 8796093022208) (n : ByteArray) (d : Nat) : ∀ i : Nat, i + d = l.length → Ev (fun k => intervalmonref05_in.l0 k l n (i : Int)) (inL (l.drop i) n) := by
  induction d with
  | zero =>
    intro i hi
    refine Ev.up ?_
    simp only [intervalmonref05_in.l0]
    simp only [show ¬ ((i : Int) < (l.length : Int)) by omega, if_false, List.drop_of_length_le (show l.length ≤ i by omega)]
    exact Ev.some _
  | succ d ih =>
    intro i hi
    refine Ev.up ?_
    simp only [intervalmonref05_in.l0]
    have hlt : i < l.length := by omega
    have ih' := ih (i + 1) (by omega)
    have hd : inL (l.drop i) n = (eqB n l[i] || inL (l.drop (i + 1)) n) := by rw [List.drop_eq_getElem_cons hlt]; rfl
    simp only [show ((i : Int) < (l.length : Int)) by omega, if_true, Int.natCast_nonneg, rdBy l i hlt, w64s i (by omega)]
    rw [hd]
    unfold eqB
    by_cases h : l[i].toList = n.toList
    · simp only [h, if_true, beq_self_eq_true, Bool.true_or]
      exact Ev.some _
    · simp only [h, if_false, beq_eq_false_iff_ne.2 (fun e => h e.symm), Bool.false_or]
      exact ih'
theorem in_ev (l : List ByteArray) (hl : l.length < 8796093022208) (n : ByteArray) : Ev (fun k => intervalmonref05_in.f k l n) (inL l n) := in_loop l hl n l.length 0 (by omega)
theorem refKeep_loop (l : List Lab) (hl : l.length < 4398046511104) (names : List ByteArray) (hn : names.length < 8796093022208) (d : Nat) : ∀ i : Nat, i + d = l.length → Ev (fun k => intervalmonref05_Keep.l0 k l names (keepL (l.take i) names) (i : Int)) (keepL l names) := by
  induction d with
  | zero =>
    intro i hi
    refine Ev.up ?_
    simp only [intervalmonref05_Keep.l0]
    simp only [show ¬ ((i : Int) < (l.length : Int)) by omega, if_false, List.take_of_length_le (show l.length ≤ i by omega)]
    exact Ev.some _
  | succ d ih =>
    intro i hi
    refine Ev.up ?_
    simp only [intervalmonref05_Keep.l0]
    have hlt : i < l.length := by omega
    have ih' := ih (i + 1) (by omega)
    have hle : (keepL (l.take i) names).length ≤ i := Nat.le_trans (List.length_filter_le _ _) (by rw [List.length_take]; omega)
    rw [List.take_succ_eq_append_getElem hlt] at ih'
    unfold keepL at ih' hle ⊢
    rw [List.filter_append] at ih'
    simp only [show ((i : Int) < (l.length : Int)) by omega, if_true, Int.natCast_nonneg, rdL l i hlt, w64s i (by omega)]
    refine Ev.bind (in_ev names hn _) ?_
    cases h : inL names l[i].f0
    · simp only [Bool.false_eq_true, if_false]
      rw [List.filter_cons, h] at ih'
      simpa using ih'
    · simp only [if_true, show (List.filter (fun x => inL names x.f0) (l.take i)).length < 4398046511104 by omega]
      rw [List.filter_cons, h] at ih'
      simpa using ih'
theorem refKeep_ev (l : List Lab) (hl : l.length < 4398046511104) (names : List ByteArray) (hn : names.length < 8796093022208) : Ev (fun k => intervalmonref05_Keep.f k l names) (keepL l names) :=
  refKeep_loop l hl names hn l.length 0 (by omega)

theorem LabelsKeep : ∀ (x0 : (List Int)) (x1 : (List ByteArray)) (a2 : Int), (x0.length ≤ maxLen ∧ x0.length * 8 ≤ 140737488351232 ∧ ∀ x ∈ x0, (Lit.int .i64 x).wf = true) → (x1.length ≤ maxLen ∧ x1.length * 16 ≤ 140737488351232 ∧ ∀ x ∈ x1, x.size ≤ 140737488351232) → (Lit.int .i64 a2).wf = true → ∃ k, intervalmonlaw05_LabelsKeep.f k x0 x1 a2 = some true := by
  intro l names which hl hn hw
  refine Ev.rounds ?_
  obtain ⟨d, hd, ed⟩ := dirty_ev l hl.2.2
  have es := set_ev l hl.2.2
  have hs := setL_len l
  have hok := setL_ok l
  have hnm := setL_names l
  generalize setL l = s at *
  have hb := wf64 hw
  have ht : (Int.tdiv which 6).natAbs = which.natAbs / 6 := by rw [Int.natAbs_tdiv]; rfl
  have hw2 : (Lit.int .i64 (wrap64 (Int.tdiv which 6))).wf = true := by
    have e : wrap64 (Int.tdiv which 6) = Int.tdiv which 6 := w64 _ (by omega) (by omega)
    rw [e]
    simp only [Lit.wf, Bool.and_eq_true, decide_eq_true_eq, show IntKind.i64.min = -9223372036854775808 by decide, show IntKind.i64.max = 9223372036854775807 by decide]
    omega
  have tail : ∀ few : List ByteArray, few.length ≤ 8 → Ev (fun k => intervalmonlaw05_LabelsKeep.j1 k which d s few) true := by
    intro few hf
    refine Ev.up ?_
    simp only [intervalmonlaw05_LabelsKeep.j1]
    have h1 := arn_bd which 6 (by decide)
    have h2 := arn_bd (wrap64 (Int.tdiv which 6)) 6 (by decide)
    simp only [names_eq, Option.bind_some, around which 6 hw (by decide), around _ 6 hw2 (by decide), h1.1, h2.1, show arn which 6 < (names6.length : Int) from h1.2, show arn (wrap64 (Int.tdiv which 6)) 6 < (names6.length : Int) from h2.2, if_true, List.length_cons, List.length_nil, show few.length + (0 + 1 + 1) < 8796093022208 by omega]
    generalize hq : few ++ [rdOf ByteArray.empty names6 (arn which 6), rdOf ByteArray.empty names6 (arn (wrap64 (Int.tdiv which 6)) 6)] = fw
    have hfw : fw.length < 8796093022208 := by rw [← hq]; simp; omega
    have lk : ∀ (x : List Lab) (y : List ByteArray), (keepL x y).length ≤ x.length := fun x y => List.length_filter_le _ _
    have l1 := lk d fw
    have l2 := lk s fw
    refine Ev.bind (keep_ev d (by omega) fw hfw) ?_
    refine Ev.bind (keep_ev s (by omega) fw hfw) ?_
    refine Ev.bind (refKeep_ev d (by omega) fw hfw) ?_
    refine Ev.bind (same_ev _ _ (by omega)) ?_
    simp only [decide_true, if_true]
    refine Ev.bind (refKeep_ev s (by omega) fw hfw) ?_
    refine Ev.bind (same_ev _ _ (by omega)) ?_
    simp only [decide_true, if_true]
    refine Ev.bind (keep_ev (keepL s fw) (by omega) fw hfw) ?_
    rw [keep_keep]
    refine Ev.bind (same_ev _ _ (by omega)) ?_
    simp only [decide_true, if_true]
    have hv := valid_ev (keepL s fw)
    rw [validB_set (keep_ok hok fw)] at hv
    refine Ev.bind hv ?_
    simp only [if_true]
    refine Ev.bind (keep_ev s (by omega) names6 (by decide)) ?_
    rw [keep_all hnm]
    refine Ev.bind (same_ev _ _ (by omega)) ?_
    simp only [decide_true, if_true]
    refine Ev.bind (keep_ev s (by omega) [] (by simp)) ?_
    rw [keep_none]
    simp only [List.length_nil, show ((0 : Nat) : Int) = 0 from rfl, if_true, lives05, Option.bind_some]
    exact Ev.some _
  have loop : ∀ (q i : Nat) (few : List ByteArray), i + q = 8 → few.length = i → Ev (fun k => intervalmonlaw05_LabelsKeep.l0 k names which d s few (i : Int)) true := by
    intro q
    induction q with
    | zero =>
      intro i few hi hf
      refine Ev.up ?_
      simp only [intervalmonlaw05_LabelsKeep.l0]
      simp only [show ¬ ((i : Int) < 8) by omega, if_false, ite_self]
      exact tail few (by omega)
    | succ q ih =>
      intro i few hi hf
      refine Ev.up ?_
      simp only [intervalmonlaw05_LabelsKeep.l0]
      by_cases h : (i : Int) < (names.length : Int)
      · simp only [if_pos h, show ((i : Int) < 8) by omega, if_true, Int.natCast_nonneg, show few.length < 8796093022208 by omega, w64s i (by omega)]
        exact ih (i + 1) _ (by omega) (by simp; omega)
      · simp only [if_neg h]
        exact tail few (by omega)
  unfold intervalmonlaw05_LabelsKeep.f
  refine Ev.bind ed ?_
  refine Ev.bind es ?_
  exact loop 8 0 [] (by omega) rfl
end Go.Proofs.Ytlohkfmobeapdaa.Pure
