/- Keep: what it tells, as a plain function. -/
import Derived.Test.YtcamljlhdejmmaaMCmp
import Derived.Test.YtcamljlhdejmmaaPx11
namespace Go.Proofs.Ytcamljlhdejmmaa.Pure
open Go.RowKit Go.Proofs.Ytcamljlhdejmmaa.P Go.Proofs.YtcamljlhdejmmaaW.PrintWords Go.Proofs.YtcamljlhdejmmaaW.PrintLast Go.Proofs.YtcamljlhdejmmaaW.PrintMore
set_option linter.unusedVariables false
set_option linter.unusedSimpArgs false

theorem rdBy (l : List ByteArray) (i : Nat) (h : i < l.length) : rdOf ByteArray.empty l (i : Int) = l[i] := by simp [rdOf, List.getD_eq_getElem?_getD, h]
def eqB (a b : ByteArray) : Bool := a.toList == b.toList
theorem eqB_iff (a b : ByteArray) : eqB a b = true ↔ a = b := ⟨fun h => ba_ext (beq_iff_eq.1 h), fun h => by rw [h]; exact beq_self_eq_true _⟩

/-! ### Keep -/
def inL (names : List ByteArray) (n : ByteArray) : Bool := names.any fun y => eqB n y
theorem inL_iff (names : List ByteArray) (n : ByteArray) : inL names n = true ↔ n ∈ names := by
  unfold inL
  rw [List.any_eq_true]
  exact ⟨fun ⟨y, h1, h2⟩ => by rw [(eqB_iff _ _).1 h2]; exact h1, fun h => ⟨n, h, (eqB_iff _ _).2 rfl⟩⟩
def keepL (l : List Lab) (names : List ByteArray) : List Lab := l.filter fun x => inL names x.f0
theorem index_loop (l : List ByteArray) (hl : l.length < 8796093022208) (n : ByteArray) (d : Nat) : ∀ i : Nat, i + d = l.length → ∃ r : Int, decide (0 ≤ r) = inL (l.drop i) n ∧ Ev (fun k => slices_Index_string_string.l0 k l n (l.length : Int) (i : Int)) r := by
  induction d with
  | zero =>
    intro i hi
    refine ⟨-1, ?_, Ev.up ?_⟩
    · rw [List.drop_of_length_le (by omega)]; rfl
    · simp only [slices_Index_string_string.l0]
      simp only [show ¬ ((i : Int) < (l.length : Int)) by omega, if_false]
      exact Ev.some _
  | succ d ih =>
    intro i hi
    have hlt : i < l.length := by omega
    obtain ⟨r, hr, hev⟩ := ih (i + 1) (by omega)
    have hd : inL (l.drop i) n = (eqB n l[i] || inL (l.drop (i + 1)) n) := by rw [List.drop_eq_getElem_cons hlt]; rfl
    by_cases h : n.toList = l[i].toList
    · refine ⟨(i : Int), ?_, Ev.up ?_⟩
      · rw [hd]; unfold eqB; rw [beq_iff_eq.2 h, decide_eq_true (by omega)]; rfl
      · simp only [slices_Index_string_string.l0]
        simp only [show ((i : Int) < (l.length : Int)) by omega, if_true, Int.natCast_nonneg, rdBy l i hlt, h]
        exact Ev.some _
    · refine ⟨r, ?_, Ev.up ?_⟩
      · rw [hd]; unfold eqB; rw [beq_eq_false_iff_ne.2 h]; exact hr
      · simp only [slices_Index_string_string.l0]
        simp only [show ((i : Int) < (l.length : Int)) by omega, if_true, Int.natCast_nonneg, rdBy l i hlt, h, if_false, w64s i (by omega)]
        exact hev
theorem contains_ev (l : List ByteArray) (hl : l.length < 8796093022208) (n : ByteArray) : Ev (fun k => slices_Contains_string_string.f k l n) (inL l n) := by
  obtain ⟨r, hr, hev⟩ := index_loop l hl n l.length 0 (by omega)
  unfold slices_Contains_string_string.f
  refine Ev.bind hev ?_
  rw [List.drop_zero] at hr
  rw [← hr]
  exact Ev.some _
theorem keep_loop (l : List Lab) (hl : l.length < 4398046511104) (names : List ByteArray) (hn : names.length < 8796093022208) (d : Nat) : ∀ i : Nat, i + d = l.length → Ev (fun k => labels_Keep.l0 k names (keepL (l.take i) names) l (l.length : Int) (i : Int)) (keepL l names) := by
  induction d with
  | zero =>
    intro i hi
    refine Ev.up ?_
    simp only [labels_Keep.l0]
    simp only [show ¬ ((i : Int) < (l.length : Int)) by omega, if_false, List.take_of_length_le (show l.length ≤ i by omega)]
    exact Ev.some _
  | succ d ih =>
    intro i hi
    refine Ev.up ?_
    simp only [labels_Keep.l0]
    have hlt : i < l.length := by omega
    have ih' := ih (i + 1) (by omega)
    have hle : (keepL (l.take i) names).length ≤ i := Nat.le_trans (List.length_filter_le _ _) (by rw [List.length_take]; omega)
    rw [List.take_succ_eq_append_getElem hlt] at ih'
    unfold keepL at ih' hle ⊢
    rw [List.filter_append] at ih'
    simp only [show ((i : Int) < (l.length : Int)) by omega, if_true, Int.natCast_nonneg, rdL l i hlt, w64s i (by omega)]
    refine Ev.bind (contains_ev names hn _) ?_
    cases h : inL names l[i].f0
    · simp only [Bool.false_eq_true, if_false]
      rw [List.filter_cons, h] at ih'
      simpa using ih'
    · simp only [if_true, show (List.filter (fun x => inL names x.f0) (l.take i)).length < 4398046511104 by omega]
      rw [List.filter_cons, h] at ih'
      simpa using ih'
theorem keep_ev (l : List Lab) (hl : l.length < 4398046511104) (names : List ByteArray) (hn : names.length < 8796093022208) : Ev (fun k => labels_Keep.f k l names) (keepL l names) := by
  exact keep_loop l hl names hn l.length 0 (by omega)

end Go.Proofs.Ytcamljlhdejmmaa.Pure
