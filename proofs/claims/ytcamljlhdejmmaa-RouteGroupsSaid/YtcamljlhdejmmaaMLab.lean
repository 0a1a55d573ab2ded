/- Lists of labels made from numbers: what Set gives. -/
import Derived.Test.YtcamljlhdejmmaaMB
import Derived.Test.YtcamljlhdejmmaaPx6
namespace Go.Proofs.Ytcamljlhdejmmaa.Pure
open Go.RowKit Go.Proofs.Ytcamljlhdejmmaa.P Go.Proofs.YtcamljlhdejmmaaW.PrintWords Go.Proofs.YtcamljlhdejmmaaW.PrintLast Go.Proofs.YtcamljlhdejmmaaW.PrintMore
set_option linter.unusedVariables false
set_option linter.unusedSimpArgs false

abbrev Lab := S91
def lab (a b : ByteArray) : Lab := ⟨a, b⟩
def rdB (l : List ByteArray) (i : Int) : ByteArray := rdOf ByteArray.empty l i
/-- Short strings. -/
def shortL (m : Nat) (l : List Lab) : Prop := ∀ x ∈ l, x.f0.size ≤ m ∧ x.f1.size ≤ m
/-! ### Set -/
/-- What is kept of the numbers: from the i-th name on, out of 'which'. -/
def setFrom (l : List Int) (vals : List ByteArray) (w : Int) (i : Nat) : List ByteArray → List Lab
  | [] => []
  | n :: r => (if Int.tmod w 2 = 1 then [⟨n, rdB vals (pk l ((i : Int) + 1) 6)⟩] else []) ++ setFrom l vals (Int.tdiv w 2) (i + 1) r
theorem set_loop (l : List Int) (hl : ∀ x ∈ l, (Lit.int .i64 x).wf = true) (names vals : List ByteArray) (hn : names.length = 6) (hv : vals.length = 6) (d : Nat) :
    ∀ (i : Nat) (w : Int) (acc : List Lab), i + d = 6 → 0 ≤ w → w < 64 → acc.length ≤ i → Ev (fun k => intervalmonref05_Set.l0 k l names vals w acc (i : Int)) (acc ++ setFrom l vals w i (names.drop i)) := by
  induction d with
  | zero =>
    intro i w acc hi h0 h1 ha
    refine Ev.up ?_
    simp only [intervalmonref05_Set.l0]
    simp only [show ¬ ((i : Int) < (names.length : Int)) by omega, if_false, List.drop_of_length_le (show names.length ≤ i by omega), setFrom, List.append_nil]
    exact Ev.some _
  | succ d ih =>
    intro i w acc hi h0 h1 ha
    refine Ev.up ?_
    simp only [intervalmonref05_Set.l0]
    have hlt : i < names.length := by omega
    have hp := pk_bd l ((i : Int) + 1) 6 (by decide)
    have hd := tdiv_bd w 2 h0 (by decide)
    rw [List.drop_eq_getElem_cons hlt, setFrom]
    have hrd : rdOf ByteArray.empty names (i : Int) = names[i] := by simp [rdOf, List.getD_eq_getElem?_getD, hlt]
    have hw : wrap64 (Int.tdiv w 2) = Int.tdiv w 2 := w64 _ (by omega) (by omega)
    simp only [show ((i : Int) < (names.length : Int)) by omega, if_true, Int.natCast_nonneg, w64s i (by omega), show ((i + 1 : Nat) : Int) = (i : Int) + 1 by omega, pick l hl _ 6 (by decide), Option.bind_some, hp.1, show pk l ((i : Int) + 1) 6 < (vals.length : Int) by omega, show acc.length < 4398046511104 by omega, hw, hrd]
    by_cases hq : Int.tmod w 2 = 1
    · simp only [if_pos hq]
      have := ih (i + 1) (Int.tdiv w 2) (acc ++ [⟨names[i], rdB vals (pk l ((i : Int) + 1) 6)⟩]) (by omega) (by omega) (by omega) (by simp; omega)
      rw [List.append_assoc] at this
      simpa [rdB] using this
    · simp only [if_neg hq, List.nil_append]
      have := ih (i + 1) (Int.tdiv w 2) acc (by omega) (by omega) (by omega) (by omega)
      simpa using this
theorem setFrom_len (l : List Int) (vals : List ByteArray) : ∀ (names : List ByteArray) (w : Int) (i : Nat), (setFrom l vals w i names).length ≤ names.length
  | [], _, _ => Nat.le_refl _
  | n :: r, w, i => by
    have := setFrom_len l vals r (Int.tdiv w 2) (i + 1)
    rw [setFrom, List.length_append, List.length_cons]
    split <;> simp <;> omega
/-- The labels that Set gives: some of the names, in their order, each with a value out of the list. -/
def names6 : List ByteArray := [⟨#[97]⟩, ⟨#[97, 98]⟩, ⟨#[98]⟩, ⟨#[106, 111, 98]⟩, ⟨#[120, 95, 49]⟩, ⟨#[122, 111, 110, 101]⟩]
def vals6 : List ByteArray := [⟨#[97]⟩, ⟨#[97, 98]⟩, ⟨#[98]⟩, ⟨#[120, 49]⟩, ⟨#[126, 33]⟩, ⟨#[48]⟩]
theorem names_eq : intervalmonref05_Names.f = some names6 := rfl
theorem vals_eq : intervalmonref05_values.f = some vals6 := rfl
def setL (l : List Int) : List Lab := setFrom l vals6 (pk l 0 64) 0 names6
theorem set_ev (l : List Int) (hl : ∀ x ∈ l, (Lit.int .i64 x).wf = true) : Ev (fun k => intervalmonref05_Set.f k l) (setL l) := by
  unfold intervalmonref05_Set.f
  have hp := pk_bd l 0 64 (by decide)
  simp only [names_eq, vals_eq, Option.bind_some, pick l hl 0 64 (by decide)]
  exact set_loop l hl names6 vals6 rfl rfl 6 0 (pk l 0 64) [] (by omega) hp.1 hp.2 (Nat.le_refl _)
theorem setL_len (l : List Int) : (setL l).length ≤ 6 := setFrom_len l vals6 names6 _ _
end Go.Proofs.Ytcamljlhdejmmaa.Pure
