/- Alerts made from numbers; lists of names; equal lists of groups. -/
import Derived.Test.YtcamljlhdejmmaaMLab
import Derived.Test.YtcamljlhdejmmaaPx6
import Derived.Test.YtcamljlhdejmmaaPx7
import Derived.Test.YtcamljlhdejmmaaPx7
namespace Go.Proofs.Ytcamljlhdejmmaa.Pure
open Go.RowKit Go.Proofs.Ytcamljlhdejmmaa.P Go.Proofs.YtcamljlhdejmmaaW.PrintWords Go.Proofs.YtcamljlhdejmmaaW.PrintLast Go.Proofs.YtcamljlhdejmmaaW.PrintMore
set_option linter.unusedVariables false
set_option linter.unusedSimpArgs false

theorem wfOf {x : Int} (h0 : 0 ≤ x) (h1 : x < 100000) : (Lit.int .i64 x).wf = true := by
  simp only [Lit.wf, Bool.and_eq_true, decide_eq_true_eq]
  have a : IntKind.i64.min = -9223372036854775808 := by decide
  have b : IntKind.i64.max = 9223372036854775807 := by decide
  rw [a, b]; omega
/-- An alert that the generator makes: its labels are a label set made from numbers. -/
def AlertOk (a : S73) : Prop := a.f0 = ⟨#[114]⟩ ∧ a.f1 = 1 ∧ a.f3 = 0 ∧ a.f4 = 0 ∧ a.f5 = 0 ∧ ∃ l, a.f2 = setL l
theorem alerts_loop (l : List Int) (hl : ∀ x ∈ l, (Lit.int .i64 x).wf = true) (d : Nat) :
    ∀ (i : Nat) (acc : List S73), (i : Int) + d = pk l 0 9 → acc.length = i → (∀ a ∈ acc, AlertOk a) → ∃ r, Ev (fun k => intervalmonref29_Alerts.l0 k l acc (i : Int)) r ∧ r.length ≤ 8 ∧ ∀ a ∈ r, AlertOk a := by
  have hp := pk_bd l 0 9 (by decide)
  induction d with
  | zero =>
    intro i acc hi ha hk
    refine ⟨acc, Ev.up ?_, by omega, hk⟩
    simp only [intervalmonref29_Alerts.l0, pick l hl 0 9 (by decide), Option.bind_some]
    simp only [show ¬ ((i : Int) < pk l 0 9) by omega, if_false]
    exact Ev.some _
  | succ d ih =>
    intro i acc hi ha hk
    have hq := pk_bd l ((i : Int) + 1) 100000 (by decide)
    have hw : ∀ m : Int, 0 < m → wrap64 (Int.tdiv (pk l ((i : Int) + 1) 100000) m) = Int.tdiv (pk l ((i : Int) + 1) 100000) m := fun m hm => by
      have := tdiv_bd (pk l ((i : Int) + 1) 100000) m hq.1 hm
      exact w64 _ (by omega) (by omega)
    have hm : ∀ m : Int, 0 < m → 0 ≤ Int.tmod (Int.tdiv (pk l ((i : Int) + 1) 100000) m) 2 ∧ Int.tmod (Int.tdiv (pk l ((i : Int) + 1) 100000) m) 2 < 2 := fun m hm => tmod_bd _ 2 (tdiv_bd _ m hq.1 hm).1 (by decide)
    generalize hL : ([pk l ((i : Int) + 1) 100000, Int.tmod (wrap64 (Int.tdiv (pk l ((i : Int) + 1) 100000) 64)) 2, Int.tmod (wrap64 (Int.tdiv (pk l ((i : Int) + 1) 100000) 128)) 2, Int.tmod (wrap64 (Int.tdiv (pk l ((i : Int) + 1) 100000) 256)) 2, Int.tmod (wrap64 (Int.tdiv (pk l ((i : Int) + 1) 100000) 512)) 2, Int.tmod (wrap64 (Int.tdiv (pk l ((i : Int) + 1) 100000) 1024)) 2, Int.tmod (wrap64 (Int.tdiv (pk l ((i : Int) + 1) 100000) 2048)) 2] : List Int) = L
    have hLw : ∀ x ∈ L, (Lit.int .i64 x).wf = true := by
      intro x hx
      rw [← hL] at hx
      simp only [List.mem_cons, List.not_mem_nil, or_false] at hx
      have h1 := hm 64 (by decide); have h2 := hm 128 (by decide); have h3 := hm 256 (by decide); have h4 := hm 512 (by decide); have h5 := hm 1024 (by decide); have h6 := hm 2048 (by decide)
      rw [hw 64 (by decide), hw 128 (by decide), hw 256 (by decide), hw 512 (by decide), hw 1024 (by decide), hw 2048 (by decide)] at hx
      rcases hx with rfl | rfl | rfl | rfl | rfl | rfl | rfl <;> exact wfOf (by omega) (by omega)
    obtain ⟨r, r1, r2, r3⟩ := ih (i + 1) (acc ++ [⟨⟨#[114]⟩, 1, setL L, 0, 0, 0⟩]) (by omega) (by simp; omega) (by
      intro a h
      rcases List.mem_append.1 h with h | h
      · exact hk a h
      · rw [List.mem_singleton.1 h]; exact ⟨rfl, rfl, rfl, rfl, rfl, L, rfl⟩)
    refine ⟨r, Ev.up ?_, r2, r3⟩
    simp only [intervalmonref29_Alerts.l0, pick l hl 0 9 (by decide), Option.bind_some]
    simp only [show ((i : Int) < pk l 0 9) by omega, if_true, w64s i (by omega), show ((i + 1 : Nat) : Int) = (i : Int) + 1 by omega, pick l hl _ 100000 (by decide), Option.bind_some, hL, show acc.length < 1954687338268 by omega]
    refine Ev.bind (set_ev L hLw) ?_
    have e : ((i + 1 : Nat) : Int) = (i : Int) + 1 := by omega
    rw [e] at r1
    exact r1
theorem alerts_ev (l : List Int) (hl : ∀ x ∈ l, (Lit.int .i64 x).wf = true) : ∃ r, Ev (fun k => intervalmonref29_Alerts.f k l) r ∧ r.length ≤ 8 ∧ ∀ a ∈ r, AlertOk a := by
  have hp := pk_bd l 0 9 (by decide)
  obtain ⟨n, hn⟩ : ∃ n : Nat, pk l 0 9 = (n : Int) := ⟨(pk l 0 9).toNat, by omega⟩
  exact alerts_loop l hl n 0 [] (by omega) rfl (fun a h => by cases h)

/-! ### few -/
/-- The names that occur, by the bits of a number. -/
def bitsOf (w : Int) : List ByteArray → List ByteArray
  | [] => []
  | n :: r => (if Int.tmod w 2 = 1 then [n] else []) ++ bitsOf (Int.tdiv w 2) r
theorem few_bits (names : List ByteArray) (hn : names.length ≤ 6) (d : Nat) : ∀ (i : Nat) (w : Int) (acc : List ByteArray), i + d = names.length → 0 ≤ w → w < 64 → acc.length ≤ 3 + i → Ev (fun k => intervalmonlaw29_few.l1 k acc w names (i : Int)) (acc ++ bitsOf w (names.drop i)) := by
  induction d with
  | zero =>
    intro i w acc hi h0 h1 ha
    refine Ev.up ?_
    simp only [intervalmonlaw29_few.l1]
    simp only [show ¬ ((i : Int) < (names.length : Int)) by omega, if_false, List.drop_of_length_le (show names.length ≤ i by omega), bitsOf, List.append_nil]
    exact Ev.some _
  | succ d ih =>
    intro i w acc hi h0 h1 ha
    refine Ev.up ?_
    simp only [intervalmonlaw29_few.l1]
    have hlt : i < names.length := by omega
    have hd := tdiv_bd w 2 h0 (by decide)
    have hrd : rdOf ByteArray.empty names (i : Int) = names[i] := by simp [rdOf, List.getD_eq_getElem?_getD, hlt]
    have hw : wrap64 (Int.tdiv w 2) = Int.tdiv w 2 := w64 _ (by omega) (by omega)
    rw [List.drop_eq_getElem_cons hlt, bitsOf]
    simp only [show ((i : Int) < (names.length : Int)) by omega, if_true, Int.natCast_nonneg, w64s i (by omega), show acc.length < 8796093022208 by omega, hw, hrd]
    by_cases hq : Int.tmod w 2 = 1
    · simp only [if_pos hq]
      have := ih (i + 1) (Int.tdiv w 2) (acc ++ [names[i]]) (by omega) (by omega) (by omega) (by simp; omega)
      rw [List.append_assoc] at this
      exact this
    · simp only [if_neg hq, List.nil_append]
      exact ih (i + 1) (Int.tdiv w 2) acc (by omega) (by omega) (by omega) (by omega)
def fewL (names : List ByteArray) (which : Int) : List ByteArray := names.take 3 ++ bitsOf (arn which 64) names6
theorem bitsOf_len : ∀ (w : Int) (l : List ByteArray), (bitsOf w l).length ≤ l.length
  | _, [] => Nat.le_refl _
  | w, n :: r => by
    have := bitsOf_len (Int.tdiv w 2) r
    rw [bitsOf, List.length_append, List.length_cons]
    split <;> simp <;> omega
theorem fewL_len (names : List ByteArray) (which : Int) : (fewL names which).length ≤ 9 := by
  have := bitsOf_len (arn which 64) names6
  have h6 : names6.length = 6 := rfl
  unfold fewL
  rw [List.length_append, List.length_take]
  omega
theorem few_loop (names : List ByteArray) (which : Int) (hw : (Lit.int .i64 which).wf = true) (d : Nat) : ∀ (i : Nat), i + d = 3 → i ≤ names.length → Ev (fun k => intervalmonlaw29_few.l0 k names which (names.take i) (i : Int)) (fewL names which) := by
  have hb := arn_bd which 64 (by decide)
  have tail : ∀ acc : List ByteArray, acc = names.take 3 → Ev (fun k => intervalmonlaw29_few.j1 k which acc) (fewL names which) := by
    intro acc e
    refine Ev.up ?_
    simp only [intervalmonlaw29_few.j1, around which 64 hw (by decide), Option.bind_some, names_eq]
    have := few_bits names6 (by decide) 6 0 (arn which 64) acc rfl hb.1 hb.2 (by rw [e, List.length_take]; omega)
    rw [e] at this ⊢
    exact this
  induction d with
  | zero =>
    intro i hi hl
    obtain rfl : i = 3 := by omega
    refine Ev.up ?_
    simp only [intervalmonlaw29_few.l0]
    simp only [show ¬ (((3 : Nat) : Int) < 3) by omega, if_false, ite_self]
    exact tail _ rfl
  | succ d ih =>
    intro i hi hl
    refine Ev.up ?_
    simp only [intervalmonlaw29_few.l0]
    by_cases h : i < names.length
    · have hrd : rdOf ByteArray.empty names (i : Int) = names[i] := by simp [rdOf, List.getD_eq_getElem?_getD, h]
      have ih' := ih (i + 1) (by omega) (by omega)
      rw [List.take_succ_eq_append_getElem h] at ih'
      simp only [show ((i : Int) < (names.length : Int)) by omega, show ((i : Int) < 3) by omega, if_true, Int.natCast_nonneg, show (names.take i).length < 8796093022208 by rw [List.length_take]; omega, hrd, w64s i (by omega)]
      exact ih'
    · simp only [show ¬ ((i : Int) < (names.length : Int)) by omega, if_false]
      exact tail _ (by rw [List.take_of_length_le (by omega), List.take_of_length_le (by omega)])
theorem few_ev (names : List ByteArray) (which : Int) (hw : (Lit.int .i64 which).wf = true) : Ev (fun k => intervalmonlaw29_few.f k names which) (fewL names which) := by
  have := few_loop names which hw 3 0 (by omega) (by omega)
  rw [List.take_zero] at this
  exact this

/-! ### equal lists -/
theorem sameInts_loop (a : List Int) (ha : a.length ≤ 1000) (d : Nat) : ∀ i : Nat, i + d = a.length → Ev (fun k => intervalmonref01_SameInts.l0 k a a (i : Int)) true := by
  induction d with
  | zero =>
    intro i hi
    refine Ev.up ?_
    simp only [intervalmonref01_SameInts.l0]
    simp only [show ¬ ((i : Int) < (a.length : Int)) by omega, if_false]
    exact Ev.some _
  | succ d ih =>
    intro i hi
    refine Ev.up ?_
    simp only [intervalmonref01_SameInts.l0]
    simp only [show ((i : Int) < (a.length : Int)) by omega, if_true, Int.natCast_nonneg, w64s i (by omega)]
    exact ih (i + 1) (by omega)
theorem sameInts_ev (a : List Int) (ha : a.length ≤ 1000) : Ev (fun k => intervalmonref01_SameInts.f k a a) true := by
  unfold intervalmonref01_SameInts.f
  simp only [if_true]
  exact sameInts_loop a ha a.length 0 (by omega)
theorem sameGroups_loop (a : List (List Int)) (ha : a.length ≤ 1000) (h : ∀ x ∈ a, x.length ≤ 1000) (d : Nat) : ∀ i : Nat, i + d = a.length → Ev (fun k => intervalmonref29_SameGroups.l0 k a a (i : Int)) true := by
  induction d with
  | zero =>
    intro i hi
    refine Ev.up ?_
    simp only [intervalmonref29_SameGroups.l0]
    simp only [show ¬ ((i : Int) < (a.length : Int)) by omega, if_false]
    exact Ev.some _
  | succ d ih =>
    intro i hi
    refine Ev.up ?_
    simp only [intervalmonref29_SameGroups.l0]
    have hlt : i < a.length := by omega
    have hrd : rd_L4 a (i : Int) = a[i] := by simp [rd_L4, List.getD_eq_getElem?_getD, hlt]
    simp only [show ((i : Int) < (a.length : Int)) by omega, if_true, Int.natCast_nonneg, w64s i (by omega), hrd]
    refine Ev.bind (sameInts_ev _ (h _ (List.getElem_mem hlt))) ?_
    simp only [if_true]
    exact ih (i + 1) (by omega)
theorem sameGroups_ev (a : List (List Int)) (ha : a.length ≤ 1000) (h : ∀ x ∈ a, x.length ≤ 1000) : Ev (fun k => intervalmonref29_SameGroups.f k a a) true := by
  unfold intervalmonref29_SameGroups.f
  simp only [if_true]
  exact sameGroups_loop a ha h a.length 0 (by omega)
end Go.Proofs.Ytcamljlhdejmmaa.Pure
