/- Get, Keep, Match: what they tell, as plain functions; matchers made from numbers. -/
import Derived.Test.YtlohkfmobeapdaaMCmp
import Derived.Test.YtlohkfmobeapdaaPx5
import Derived.Test.YtlohkfmobeapdaaPx10
import Derived.Test.YtlohkfmobeapdaaPx12
import Derived.Test.YtlohkfmobeapdaaPx12
namespace Go.Proofs.Ytlohkfmobeapdaa.Pure
open Go.RowKit Go.Proofs.Ytlohkfmobeapdaa.P Go.Proofs.YtlohkfmobeapdaaW.PrintWords Go.Proofs.YtlohkfmobeapdaaW.PrintLast Go.Proofs.YtlohkfmobeapdaaW.PrintMore
set_option linter.unusedVariables false
set_option linter.unusedSimpArgs false

abbrev Mat := S24
theorem rdM (l : List Mat) (i : Nat) (h : i < l.length) : rd_T24 l (i : Int) = l[i] := by simp [rd_T24, List.getD_eq_getElem?_getD, h]
theorem rdBy (l : List ByteArray) (i : Nat) (h : i < l.length) : rdOf ByteArray.empty l (i : Int) = l[i] := by simp [rdOf, List.getD_eq_getElem?_getD, h]
def eqB (a b : ByteArray) : Bool := a.toList == b.toList
theorem eqB_iff (a b : ByteArray) : eqB a b = true ↔ a = b := ⟨fun h => ba_ext (beq_iff_eq.1 h), fun h => by rw [h]; exact beq_self_eq_true _⟩

/-! ### Get -/
def getL : List Lab → ByteArray → ByteArray
  | [], _ => ⟨#[]⟩
  | x :: r, n => if eqB x.f0 n = true then x.f1 else getL r n
theorem get_loop (l : List Lab) (hl : l.length < 4398046511104) (n : ByteArray) (d : Nat) : ∀ i : Nat, i + d = l.length → Ev (fun k => labels_Get.l0 k n l (l.length : Int) (i : Int)) (getL (l.drop i) n) := by
  induction d with
  | zero =>
    intro i hi
    refine Ev.up ?_
    simp only [labels_Get.l0]
    simp only [show ¬ ((i : Int) < (l.length : Int)) by omega, if_false, List.drop_of_length_le (show l.length ≤ i by omega), getL]
    exact Ev.some _
  | succ d ih =>
    intro i hi
    refine Ev.up ?_
    simp only [labels_Get.l0]
    have hlt : i < l.length := by omega
    have ih' := ih (i + 1) (by omega)
    simp only [show ((i : Int) < (l.length : Int)) by omega, if_true, Int.natCast_nonneg, rdL l i hlt, w64s i (by omega)]
    rw [List.drop_eq_getElem_cons hlt]
    unfold getL eqB
    by_cases h : l[i].f0.toList = n.toList
    · simp only [h, beq_self_eq_true, if_true]
      exact Ev.some _
    · simp only [h, beq_eq_false_iff_ne.2 h, Bool.false_eq_true, if_false]
      exact ih'
theorem get_ev (l : List Lab) (hl : l.length < 4398046511104) (n : ByteArray) : Ev (fun k => labels_Get.f k l n) (getL l n) := get_loop l hl n l.length 0 (by omega)

/-! ### Keep -/
def inL (names : List ByteArray) (n : ByteArray) : Bool := names.any fun y => eqB n y
theorem inL_iff (names : List ByteArray) (n : ByteArray) : inL names n = true ↔ n ∈ names := by
  unfold inL
  rw [List.any_eq_true]
  exact ⟨fun ⟨y, h1, h2⟩ => by rw [(eqB_iff _ _).1 h2]; exact h1, fun h => ⟨n, h, (eqB_iff _ _).2 rfl⟩⟩
def keepL (l : List Lab) (names : List ByteArray) : List Lab := l.filter fun x => inL names x.f0
theorem index_loop (l : List ByteArray) (hl : l.length < 8796093022208) (n : ByteArray) (d : Nat) : ∀ i : Nat, i + d = l.length → ∃ r : Int, decide (0 ≤ r) = inL (l.drop i) n ∧ Ev (fun k => slices_Index_string_string.l0 k l n (l.length : Int) (i : Int)) r := by
  induction d with
  | zero =>
    intro i hi
    refine ⟨-1, ?_, Ev.up ?_⟩
    · rw [List.drop_of_length_le (by omega)]; rfl
    · simp only [slices_Index_string_string.l0]
      simp only [show ¬ ((i : Int) < (l.length : Int)) by omega, if_false]
      exact Ev.some _
  | succ d ih =>
    intro i hi
    have hlt : i < l.length := by omega
    obtain ⟨r, hr, hev⟩ := ih (i + 1) (by omega)
    have hd : inL (l.drop i) n = (eqB n l[i] || inL (l.drop (i + 1)) n) := by rw [List.drop_eq_getElem_cons hlt]; rfl
    by_cases h : n.toList = l[i].toList
    · refine ⟨(i : Int), ?_, Ev.up ?_⟩
      · rw [hd]; unfold eqB; rw [beq_iff_eq.2 h, decide_eq_true (by omega)]; rfl
      · simp only [slices_Index_string_string.l0]
        simp only [show ((i : Int) < (l.length : Int)) by omega, if_true, Int.natCast_nonneg, rdBy l i hlt, h]
        exact Ev.some _
    · refine ⟨r, ?_, Ev.up ?_⟩
      · rw [hd]; unfold eqB; rw [beq_eq_false_iff_ne.2 h]; exact hr
      · simp only [slices_Index_string_string.l0]
        simp only [show ((i : Int) < (l.length : Int)) by omega, if_true, Int.natCast_nonneg, rdBy l i hlt, h, if_false, w64s i (by omega)]
        exact hev
theorem contains_ev (l : List ByteArray) (hl : l.length < 8796093022208) (n : ByteArray) : Ev (fun k => slices_Contains_string_string.f k l n) (inL l n) := by
  obtain ⟨r, hr, hev⟩ := index_loop l hl n l.length 0 (by omega)
  unfold slices_Contains_string_string.f
  refine Ev.bind hev ?_
  rw [List.drop_zero] at hr
  rw [← hr]
  exact Ev.some _
theorem keep_loop (l : List Lab) (hl : l.length < 4398046511104) (names : List ByteArray) (hn : names.length < 8796093022208) (d : Nat) : ∀ i : Nat, i + d = l.length → Ev (fun k => labels_Keep.l0 k names (keepL (l.take i) names) l (l.length : Int) (i : Int)) (keepL l names) := by
  induction d with
  | zero =>
    intro i hi
    refine Ev.up ?_
    simp only [labels_Keep.l0]
    simp only [show ¬ ((i : Int) < (l.length : Int)) by omega, if_false, List.take_of_length_le (show l.length ≤ i by omega)]
    exact Ev.some _
  | succ d ih =>
    intro i hi
    refine Ev.up ?_
    simp only [labels_Keep.l0]
    have hlt : i < l.length := by omega
    have ih' := ih (i + 1) (by omega)
    have hle : (keepL (l.take i) names).length ≤ i := Nat.le_trans (List.length_filter_le _ _) (by rw [List.length_take]; omega)
    rw [List.take_succ_eq_append_getElem hlt] at ih'
    unfold keepL at ih' hle ⊢
    rw [List.filter_append] at ih'
    simp only [show ((i : Int) < (l.length : Int)) by omega, if_true, Int.natCast_nonneg, rdL l i hlt, w64s i (by omega)]
    refine Ev.bind (contains_ev names hn _) ?_
    cases h : inL names l[i].f0
    · simp only [Bool.false_eq_true, if_false]
      rw [List.filter_cons, h] at ih'
      simpa using ih'
    · simp only [if_true, show (List.filter (fun x => inL names x.f0) (l.take i)).length < 4398046511104 by omega]
      rw [List.filter_cons, h] at ih'
      simpa using ih'
theorem keep_ev (l : List Lab) (hl : l.length < 4398046511104) (names : List ByteArray) (hn : names.length < 8796093022208) : Ev (fun k => labels_Keep.f k l names) (keepL l names) := by
  exact keep_loop l hl names hn l.length 0 (by omega)

/-! ### Match -/
def preB (v p : ByteArray) : Bool := decide (p.size ≤ v.size) && eqB (v.extract 0 p.size) p
theorem prefix_eq (v p : ByteArray) : strings_HasPrefix.f v p = some (preB v p) := by
  unfold strings_HasPrefix.f stringslite_HasPrefix.f preB eqB
  by_cases h : p.size ≤ v.size
  · rw [if_pos (by omega), if_pos (by omega), if_pos (by omega), decide_eq_true h, Bool.true_and]
    rfl
  · rw [if_neg (by omega), decide_eq_false h]; rfl
theorem preB_self (v : ByteArray) : preB v v = true := by
  unfold preB
  rw [decide_eq_true (Nat.le_refl _), Bool.true_and, eqB_iff]
  exact ByteArray.extract_zero_size
def mB (m : Mat) (v : ByteArray) : Bool := if m.f1 = 0 then eqB v m.f2 else if m.f1 = 1 then !(eqB v m.f2) else if m.f1 = 2 then preB v m.f2 else false
def matchL (l : List Lab) (ms : List Mat) : Bool := ms.all fun m => mB m (getL l m.f0)
theorem match_loop (l : List Lab) (hl : l.length < 4398046511104) (ms : List Mat) (hm : ms.length < 4398046511104) (d : Nat) : ∀ i : Nat, i + d = ms.length → Ev (fun k => labels_Match.l0 k l ms (ms.length : Int) (i : Int)) (matchL l (ms.drop i)) := by
  induction d with
  | zero =>
    intro i hi
    refine Ev.up ?_
    simp only [labels_Match.l0]
    simp only [show ¬ ((i : Int) < (ms.length : Int)) by omega, if_false, List.drop_of_length_le (show ms.length ≤ i by omega)]
    exact Ev.some _
  | succ d ih =>
    intro i hi
    refine Ev.up ?_
    simp only [labels_Match.l0]
    have hlt : i < ms.length := by omega
    have ih' := ih (i + 1) (by omega)
    simp only [show ((i : Int) < (ms.length : Int)) by omega, if_true, Int.natCast_nonneg, rdM ms i hlt, w64s i (by omega)]
    refine Ev.bind (get_ev l hl _) ?_
    have hd : matchL l (ms.drop i) = (mB ms[i] (getL l ms[i].f0) && matchL l (ms.drop (i + 1))) := by rw [List.drop_eq_getElem_cons hlt]; rfl
    rw [hd]
    unfold mB
    by_cases h0 : ms[i].f1 = 0
    · simp only [if_pos h0]
      by_cases h : (getL l ms[i].f0).toList = ms[i].f2.toList
      · simp only [h, if_true, eqB, beq_self_eq_true, Bool.true_and]
        exact ih'
      · simp only [h, if_false, eqB, beq_eq_false_iff_ne.2 h, Bool.false_and]
        exact Ev.some _
    · by_cases h1 : ms[i].f1 = 1
      · simp only [if_neg h0, if_pos h1]
        by_cases h : (getL l ms[i].f0).toList = ms[i].f2.toList
        · simp only [h, not_true_eq_false, if_false, eqB, beq_self_eq_true, Bool.not_true, Bool.false_and]
          exact Ev.some _
        · simp only [h, not_false_eq_true, if_true, eqB, beq_eq_false_iff_ne.2 h, Bool.not_false, Bool.true_and]
          exact ih'
      · by_cases h2 : ms[i].f1 = 2
        · simp only [if_neg h0, if_neg h1, if_pos h2, prefix_eq, Option.bind_some]
          cases preB (getL l ms[i].f0) ms[i].f2
          · exact Ev.some _
          · simp only [if_true, Bool.true_and]; exact ih'
        · simp only [if_neg h0, if_neg h1, if_neg h2, Bool.false_and]
          exact Ev.some _
theorem match_ev (l : List Lab) (hl : l.length < 4398046511104) (ms : List Mat) (hm : ms.length < 4398046511104) : Ev (fun k => labels_Match.f k l ms) (matchL l ms) := match_loop l hl ms hm ms.length 0 (by omega)

/-! ### matchers made from numbers -/
def matAt (l : List Int) (names vals : List ByteArray) (i : Int) : Mat :=
  ⟨rdOf ByteArray.empty names (pk l (3 * i + 1) 6), pk l (3 * i + 2) 3, rdOf ByteArray.empty vals (pk l (3 * i + 3) 8)⟩
def matL (l : List Int) (names vals : List ByteArray) (n : Nat) : List Mat := (List.range n).map fun (i : Nat) => matAt l names vals (i : Int)
theorem matL_succ (l : List Int) (names vals : List ByteArray) (n : Nat) : matL l names vals (n + 1) = matL l names vals n ++ [matAt l names vals (n : Int)] := by
  simp [matL, List.range_succ]
theorem matL_len (l : List Int) (names vals : List ByteArray) (n : Nat) : (matL l names vals n).length = n := by simp [matL]
theorem mat_loop (l : List Int) (hl : ∀ x ∈ l, (Lit.int .i64 x).wf = true) (names vals : List ByteArray) (hn : names.length = 6) (hv : vals.length = 8) (d : Nat) :
    ∀ i : Nat, ((i : Int) + d = pk l 0 4) → Ev (fun k => intervalmonref05_Matchers.l0 k l names vals (matL l names vals i) (i : Int)) (matL l names vals (i + d)) := by
  have hN0 := pk_bd l 0 4 (by decide)
  induction d with
  | zero =>
    intro i hi
    refine Ev.up ?_
    simp only [intervalmonref05_Matchers.l0]
    simp only [pick l hl 0 4 (by decide), Option.bind_some, show ¬ ((i : Int) < pk l 0 4) by omega, if_false, Nat.add_zero]
    exact Ev.some _
  | succ d ih =>
    intro i hi
    refine Ev.up ?_
    simp only [intervalmonref05_Matchers.l0]
    have h1 := pk_bd l (3 * (i : Int) + 1) 6 (by decide)
    have h3 := pk_bd l (3 * (i : Int) + 3) 8 (by decide)
    have ih' := ih (i + 1) (by omega)
    rw [matL_succ, show i + 1 + d = i + (d + 1) by omega] at ih'
    unfold matAt at ih'
    simp only [pick l hl 0 4 (by decide), Option.bind_some, show ((i : Int) < pk l 0 4) by omega, if_true, w64 (3 * (i : Int)) (by omega) (by omega), w64 (3 * (i : Int) + 1) (by omega) (by omega), w64 (3 * (i : Int) + 2) (by omega) (by omega), w64 (3 * (i : Int) + 3) (by omega) (by omega),
      pick l hl _ 6 (by decide), pick l hl _ 3 (by decide), pick l hl _ 8 (by decide), h1.1, show pk l (3 * (i : Int) + 1) 6 < (names.length : Int) by omega, h3.1, show pk l (3 * (i : Int) + 3) 8 < (vals.length : Int) by omega, matL_len, show i < 3518437208883 by omega, w64s i (by omega)]
    exact ih'
theorem mat_ev (l : List Int) (hl : ∀ x ∈ l, (Lit.int .i64 x).wf = true) : ∃ m : List Mat, m.length ≤ 3 ∧ Ev (fun k => intervalmonref05_Matchers.f k l) m := by
  have hN0 := pk_bd l 0 4 (by decide)
  have key := fun names vals hn hv => mat_loop l hl names vals hn hv (pk l 0 4).toNat 0 (by omega)
  unfold intervalmonref05_Matchers.f
  simp only [names_eq, vals_eq, Option.bind_some]
  rw [show (vals6.length + ([(⟨#[]⟩ : ByteArray), (⟨#[120]⟩ : ByteArray)] : List ByteArray).length) = 8 from rfl]
  simp only [show ((8 : Nat) < 8796093022208) from by decide, if_true]
  exact ⟨_, by rw [matL_len]; omega, key _ _ rfl rfl⟩
end Go.Proofs.Ytlohkfmobeapdaa.Pure
