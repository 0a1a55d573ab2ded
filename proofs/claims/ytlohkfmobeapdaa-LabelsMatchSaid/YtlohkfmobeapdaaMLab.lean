/- Lists of labels made from numbers: what Dirty and Set give. -/
import Derived.Test.YtlohkfmobeapdaaMB
import Derived.Test.YtlohkfmobeapdaaPx4
import Derived.Test.YtlohkfmobeapdaaPx8
namespace Go.Proofs.Ytlohkfmobeapdaa.Pure
open Go.RowKit Go.Proofs.Ytlohkfmobeapdaa.P Go.Proofs.YtlohkfmobeapdaaW.PrintWords Go.Proofs.YtlohkfmobeapdaaW.PrintLast Go.Proofs.YtlohkfmobeapdaaW.PrintMore
set_option linter.unusedVariables false
set_option linter.unusedSimpArgs false

abbrev Lab := S33
def lab (a b : ByteArray) : Lab := ⟨a, b⟩
def rdB (l : List ByteArray) (i : Int) : ByteArray := rdOf ByteArray.empty l i
def capI (t n : Int) : Int := if n ≤ t then Int.tmod t 6 else t
/-- The i-th label of Dirty. -/
def dirtyAt (l : List Int) (names vals : List ByteArray) (i : Int) : Lab :=
  ⟨rdB names (capI (pk l (2 * i + 1) (4 * names.length)) names.length), rdB vals (capI (pk l (2 * i + 2) (4 * vals.length)) vals.length)⟩
def dirtyL (l : List Int) (names vals : List ByteArray) (n : Nat) : List Lab := (List.range n).map fun (i : Nat) => dirtyAt l names vals (i : Int)
theorem dirtyL_succ (l : List Int) (names vals : List ByteArray) (n : Nat) : dirtyL l names vals (n + 1) = dirtyL l names vals n ++ [dirtyAt l names vals (n : Int)] := by
  simp [dirtyL, List.range_succ]
theorem dirtyL_len (l : List Int) (names vals : List ByteArray) (n : Nat) : (dirtyL l names vals n).length = n := by simp [dirtyL]
theorem capI_bd (t n : Int) (h6 : 6 ≤ n) (h0 : 0 ≤ t) : 0 ≤ capI t n ∧ capI t n < n := by
  unfold capI
  split
  · have := tmod_bd t 6 h0 (by decide); omega
  · omega

theorem dirty_loop (l : List Int) (hl : ∀ x ∈ l, (Lit.int .i64 x).wf = true) (names vals : List ByteArray) (hn : names.length = 16) (hv : vals.length = 14) (d : Nat) :
    ∀ i : Nat, ((i : Int) + d = pk l 0 11) → Ev (fun k => intervalmonref05_Dirty.l0 k l names vals (dirtyL l names vals i) (i : Int)) (dirtyL l names vals (i + d)) := by
  have hN0 := pk_bd l 0 11 (by decide)
  induction d with
  | zero =>
    intro i hi
    refine Ev.up ?_
    simp only [intervalmonref05_Dirty.l0]
    simp only [pick l hl 0 11 (by decide), Option.bind_some, show ¬ ((i : Int) < pk l 0 11) by omega, if_false, Nat.add_zero]
    exact Ev.some _
  | succ d ih =>
    intro i hi
    refine Ev.up ?_
    simp only [intervalmonref05_Dirty.l0]
    have h1 := pk_bd l (2 * (i : Int) + 1) (4 * (names.length : Int)) (by omega)
    have h2 := pk_bd l (2 * (i : Int) + 2) (4 * (vals.length : Int)) (by omega)
    have hi0 : (0 : Int) ≤ (i : Int) := Int.natCast_nonneg i
    have e2 : wrap64 (2 * (i : Int)) = 2 * (i : Int) := w64 _ (by omega) (by omega)
    simp only [pick l hl 0 11 (by decide), Option.bind_some, show ((i : Int) < pk l 0 11) by omega, if_true, e2, w64 (2 * (i : Int) + 1) (by omega) (by omega), w64 (2 * (i : Int) + 2) (by omega) (by omega),
      w64 (4 * (names.length : Int)) (by omega) (by omega), w64 (4 * (vals.length : Int)) (by omega) (by omega), pick l hl _ (4 * (names.length : Int)) (by omega), pick l hl _ (4 * (vals.length : Int)) (by omega), w64s i (by omega)]
    have hN := capI_bd (pk l (2 * (i : Int) + 1) (4 * (names.length : Int))) names.length (by omega) h1.1
    have hV := capI_bd (pk l (2 * (i : Int) + 2) (4 * (vals.length : Int))) vals.length (by omega) h2.1
    have ih' := ih (i + 1) (by omega)
    rw [dirtyL_succ, show i + 1 + d = i + (d + 1) by omega] at ih'
    have hL : (dirtyL l names vals i).length < 4398046511104 := by rw [dirtyL_len]; omega
    unfold dirtyAt capI at ih'
    unfold capI at hN hV
    by_cases a : (names.length : Int) ≤ pk l (2 * (i : Int) + 1) (4 * (names.length : Int)) <;> by_cases b : (vals.length : Int) ≤ pk l (2 * (i : Int) + 2) (4 * (vals.length : Int)) <;>
      simp only [a, b, ge_iff_le, if_true, if_false, rdB] at hN hV ih' ⊢ <;> simp only [hN.1, hN.2, hV.1, hV.2, hL, if_true] <;> exact ih'

/-- Short strings. -/
def shortL (m : Nat) (l : List Lab) : Prop := ∀ x ∈ l, x.f0.size ≤ m ∧ x.f1.size ≤ m
theorem rdB_size (l : List ByteArray) (m : Nat) (h : l.all fun b => decide (b.size ≤ m)) (i : Int) : (rdB l i).size ≤ m := by
  unfold rdB rdOf
  rw [List.getD_eq_getElem?_getD]
  cases hq : l[i.toNat]? with
  | none => simp
  | some b =>
    have := List.all_eq_true.1 h b (List.mem_of_getElem? hq)
    simpa using this
theorem dirty_ev2 (l : List Int) (hl : ∀ x ∈ l, (Lit.int .i64 x).wf = true) : ∃ d : List Lab, d.length ≤ 10 ∧ shortL 17 d ∧ Ev (fun k => intervalmonref05_Dirty.f k l) d := by
  have hN0 := pk_bd l 0 11 (by decide)
  have key := fun names vals hn hv => dirty_loop l hl names vals hn hv (pk l 0 11).toNat 0 (by omega)
  unfold intervalmonref05_Dirty.f intervalmonref05_Names.f intervalmonref05_values.f
  simp only [Option.bind_some]
  simp only [List.length_cons, List.length_nil, show ((0 + 1 + 1 + 1 + 1 + 1 + 1 + (0 + 1 + 1 + 1 + 1 + 1 + 1 + 1 + 1 + 1 + 1) : Nat) < 8796093022208) from by decide, show ((0 + 1 + 1 + 1 + 1 + 1 + 1 + (0 + 1 + 1 + 1 + 1 + 1 + 1 + 1 + 1) : Nat) < 8796093022208) from by decide, if_true]
  refine ⟨_, by rw [dirtyL_len]; omega, ?_, key _ _ rfl rfl⟩
  intro x hx
  obtain ⟨i, _, rfl⟩ := List.mem_map.1 hx
  exact ⟨rdB_size _ 17 (by decide) _, rdB_size _ 17 (by decide) _⟩
theorem dirty_ev (l : List Int) (hl : ∀ x ∈ l, (Lit.int .i64 x).wf = true) : ∃ d : List Lab, d.length ≤ 10 ∧ Ev (fun k => intervalmonref05_Dirty.f k l) d := by
  obtain ⟨d, h1, _, h2⟩ := dirty_ev2 l hl
  exact ⟨d, h1, h2⟩

/-! ### Set -/
/-- What is kept of the numbers: from the i-th name on, out of 'which'. -/
def setFrom (l : List Int) (vals : List ByteArray) (w : Int) (i : Nat) : List ByteArray → List Lab
  | [] => []
  | n :: r => (if Int.tmod w 2 = 1 then [⟨n, rdB vals (pk l ((i : Int) + 1) 6)⟩] else []) ++ setFrom l vals (Int.tdiv w 2) (i + 1) r
theorem set_loop (l : List Int) (hl : ∀ x ∈ l, (Lit.int .i64 x).wf = true) (names vals : List ByteArray) (hn : names.length = 6) (hv : vals.length = 6) (d : Nat) :
    ∀ (i : Nat) (w : Int) (acc : List Lab), i + d = 6 → 0 ≤ w → w < 64 → acc.length ≤ i → Ev (fun k => intervalmonref05_Set.l0 k l names vals w acc (i : Int)) (acc ++ setFrom l vals w i (names.drop i)) := by
  induction d with
  | zero =>
    intro i w acc hi h0 h1 ha
    refine Ev.up ?_
    simp only [intervalmonref05_Set.l0]
    simp only [show ¬ ((i : Int) < (names.length : Int)) by omega, if_false, List.drop_of_length_le (show names.length ≤ i by omega), setFrom, List.append_nil]
    exact Ev.some _
  | succ d ih =>
    intro i w acc hi h0 h1 ha
    refine Ev.up ?_
    simp only [intervalmonref05_Set.l0]
    have hlt : i < names.length := by omega
    have hp := pk_bd l ((i : Int) + 1) 6 (by decide)
    have hd := tdiv_bd w 2 h0 (by decide)
    rw [List.drop_eq_getElem_cons hlt, setFrom]
    have hrd : rdOf ByteArray.empty names (i : Int) = names[i] := by simp [rdOf, List.getD_eq_getElem?_getD, hlt]
    have hw : wrap64 (Int.tdiv w 2) = Int.tdiv w 2 := w64 _ (by omega) (by omega)
    simp only [show ((i : Int) < (names.length : Int)) by omega, if_true, Int.natCast_nonneg, w64s i (by omega), show ((i + 1 : Nat) : Int) = (i : Int) + 1 by omega, pick l hl _ 6 (by decide), Option.bind_some, hp.1, show pk l ((i : Int) + 1) 6 < (vals.length : Int) by omega, show acc.length < 4398046511104 by omega, hw, hrd]
    by_cases hq : Int.tmod w 2 = 1
    · simp only [if_pos hq]
      have := ih (i + 1) (Int.tdiv w 2) (acc ++ [⟨names[i], rdB vals (pk l ((i : Int) + 1) 6)⟩]) (by omega) (by omega) (by omega) (by simp; omega)
      rw [List.append_assoc] at this
      simpa [rdB] using this
    · simp only [if_neg hq, List.nil_append]
      have := ih (i + 1) (Int.tdiv w 2) acc (by omega) (by omega) (by omega) (by omega)
      simpa using this
theorem setFrom_len (l : List Int) (vals : List ByteArray) : ∀ (names : List ByteArray) (w : Int) (i : Nat), (setFrom l vals w i names).length ≤ names.length
  | [], _, _ => Nat.le_refl _
  | n :: r, w, i => by
    have := setFrom_len l vals r (Int.tdiv w 2) (i + 1)
    rw [setFrom, List.length_append, List.length_cons]
    split <;> simp <;> omega
/-- The labels that Set gives: some of the names, in their order, each with a value out of the list. -/
def names6 : List ByteArray := [⟨#[97]⟩, ⟨#[97, 98]⟩, ⟨#[98]⟩, ⟨#[106, 111, 98]⟩, ⟨#[120, 95, 49]⟩, ⟨#[122, 111, 110, 101]⟩]
def vals6 : List ByteArray := [⟨#[97]⟩, ⟨#[97, 98]⟩, ⟨#[98]⟩, ⟨#[120, 49]⟩, ⟨#[126, 33]⟩, ⟨#[48]⟩]
theorem names_eq : intervalmonref05_Names.f = some names6 := rfl
theorem vals_eq : intervalmonref05_values.f = some vals6 := rfl
def setL (l : List Int) : List Lab := setFrom l vals6 (pk l 0 64) 0 names6
theorem set_ev (l : List Int) (hl : ∀ x ∈ l, (Lit.int .i64 x).wf = true) : Ev (fun k => intervalmonref05_Set.f k l) (setL l) := by
  unfold intervalmonref05_Set.f
  have hp := pk_bd l 0 64 (by decide)
  simp only [names_eq, vals_eq, Option.bind_some, pick l hl 0 64 (by decide)]
  exact set_loop l hl names6 vals6 rfl rfl 6 0 (pk l 0 64) [] (by omega) hp.1 hp.2 (Nat.le_refl _)
theorem setL_len (l : List Int) : (setL l).length ≤ 6 := setFrom_len l vals6 names6 _ _
end Go.Proofs.Ytlohkfmobeapdaa.Pure
