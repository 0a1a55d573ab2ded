/- Texts of short labels: package and reference write the same bytes; Get too. -/
import Derived.Test.YtlohkfmobeapdaaMMatch
import Derived.Test.YtlohkfmobeapdaaHText
import Derived.Test.YtlohkfmobeapdaaPx5
import Derived.Test.YtlohkfmobeapdaaPx5
namespace Go.Proofs.Ytlohkfmobeapdaa.Pure
open Go.RowKit Go.Proofs.Ytlohkfmobeapdaa.P Go.Proofs.YtlohkfmobeapdaaW.PrintWords Go.Proofs.YtlohkfmobeapdaaW.PrintLast Go.Proofs.YtlohkfmobeapdaaW.PrintMore
set_option linter.unusedVariables false
set_option linter.unusedSimpArgs false

theorem refGet_loop (l : List Lab) (hl : l.length < 4398046511104) (n : ByteArray) (d : Nat) : ∀ i : Nat, i + d = l.length → Ev (fun k => intervalmonref05_Get.l0 k l n (i : Int)) (getL (l.drop i) n) := by
  induction d with
  | zero =>
    intro i hi
    refine Ev.up ?_
    simp only [intervalmonref05_Get.l0]
    simp only [show ¬ ((i : Int) < (l.length : Int)) by omega, if_false, List.drop_of_length_le (show l.length ≤ i by omega), getL]
    exact Ev.some _
  | succ d ih =>
    intro i hi
    refine Ev.up ?_
    simp only [intervalmonref05_Get.l0]
    have hlt : i < l.length := by omega
    have ih' := ih (i + 1) (by omega)
    simp only [show ((i : Int) < (l.length : Int)) by omega, if_true, Int.natCast_nonneg, rdL l i hlt, w64s i (by omega)]
    rw [List.drop_eq_getElem_cons hlt]
    unfold getL eqB
    by_cases h : l[i].f0.toList = n.toList
    · simp only [h, beq_self_eq_true, if_true]
      exact Ev.some _
    · simp only [h, beq_eq_false_iff_ne.2 h, Bool.false_eq_true, if_false]
      exact ih'
theorem refGet_ev (l : List Lab) (hl : l.length < 4398046511104) (n : ByteArray) : Ev (fun k => intervalmonref05_Get.f k l n) (getL l n) := refGet_loop l hl n l.length 0 (by omega)

theorem body_le (l : List Lab) (m : Nat) (h : shortL m l) : ∀ n : Nat, n ≤ l.length → (bodyTo l n).length ≤ n * (2 * m + 4)
  | 0, _ => by simp [bodyTo]
  | n + 1, hn => by
    have ih := body_le l m h n (by omega)
    have hlt : n < l.length := by omega
    have hx := h l[n] (List.getElem_mem _)
    have hd : rd_T33 l (n : Int) = l[n] := rdL l n hlt
    rw [bodyTo_succ, List.length_append, List.length_append, hd]
    have sz : ∀ b : ByteArray, b.data.toList.length = b.size := fun _ => rfl
    have he : (elemL l[n]).length = l[n].f0.size + 2 + l[n].f1.size + 1 := by simp only [elemL, List.length_append, sz, List.length_cons, List.length_nil]
    rw [he, Nat.add_mul, Nat.one_mul]
    split <;> simp <;> omega
theorem text_eq (l : List Lab) (m : Nat) (h : shortL m l) (hl : l.length ≤ 1000) (hm : m ≤ 1000) : labels_Text.f l = some (textB l) := by
  unfold labels_Text.f
  have := body_le l m h l.length (Nat.le_refl _)
  have h2 : l.length * (2 * m + 4) ≤ 1000 * 2004 := Nat.mul_le_mul hl (by omega)
  rw [if_pos (by omega)]
theorem ba_size (l : List UInt8) : (⟨l.toArray⟩ : ByteArray).size = l.length := rfl
theorem ba_eq {a b : ByteArray} (h : a.data.toList = b.data.toList) : a = b := by
  cases a; cases b; simp at h; simp [h]
def part (l : List Lab) (i : Nat) : ByteArray := ⟨#[123]⟩ ++ (⟨(bodyTo l i).toArray⟩ : ByteArray)
theorem part_size (l : List Lab) (i : Nat) : (part l i).size = 1 + (bodyTo l i).length := by
  unfold part; rw [ByteArray.size_append, ba_size]; rfl
theorem part_succ (l : List Lab) (i : Nat) (h : i < l.length) (h0 : 0 < i) : part l (i + 1) = part l i ++ (⟨#[44]⟩ : ByteArray) ++ l[i].f0 ++ (⟨#[61, 34]⟩ : ByteArray) ++ l[i].f1 ++ (⟨#[34]⟩ : ByteArray) := by
  apply ba_eq
  unfold part
  rw [bodyTo_succ, if_pos h0]
  simp [elemL, rdL l i h]
theorem part_one (l : List Lab) (h : 0 < l.length) : part l 1 = part l 0 ++ l[0].f0 ++ (⟨#[61, 34]⟩ : ByteArray) ++ l[0].f1 ++ (⟨#[34]⟩ : ByteArray) := by
  apply ba_eq
  unfold part
  have hd : rd_T33 l (0 : Int) = l[0] := rdL l 0 h
  rw [bodyTo_succ]
  simp [elemL, bodyTo, hd]
theorem refText_loop (l : List Lab) (m : Nat) (h : shortL m l) (hl : l.length ≤ 1000) (hm : m ≤ 1000) (d : Nat) : ∀ i : Nat, i + d = l.length → Ev (fun k => intervalmonref05_Text.l0 k l (part l i) (i : Int)) (textB l) := by
  induction d with
  | zero =>
    intro i hi
    refine Ev.up ?_
    simp only [intervalmonref05_Text.l0]
    have hb := body_le l m h i (by omega)
    have h2 : i * (2 * m + 4) ≤ 1000 * 2004 := Nat.mul_le_mul (by omega) (by omega)
    simp only [show ¬ ((i : Int) < (l.length : Int)) by omega, if_false, part_size, show 1 + (bodyTo l i).length + 1 ≤ 9223372036854775807 by omega, if_true]
    obtain rfl : i = l.length := by omega
    exact Ev.some _
  | succ d ih =>
    intro i hi
    refine Ev.up ?_
    simp only [intervalmonref05_Text.l0]
    have hlt : i < l.length := by omega
    have hb := body_le l m h i (by omega)
    have h2 : i * (2 * m + 4) ≤ 1000 * 2004 := Nat.mul_le_mul (by omega) (by omega)
    have hx := h l[i] (List.getElem_mem _)
    have ih' := ih (i + 1) (by omega)
    simp only [show ((i : Int) < (l.length : Int)) by omega, if_true, Int.natCast_nonneg, rdL l i hlt, w64s i (by omega), ByteArray.size_append, part_size, show (⟨#[44]⟩ : ByteArray).size = 1 from rfl, show (⟨#[61, 34]⟩ : ByteArray).size = 2 from rfl]
    by_cases h0 : (i : Int) > 0
    · simp only [if_pos h0, show 1 + (bodyTo l i).length + 1 ≤ 9223372036854775807 by omega, show 1 + (bodyTo l i).length + 1 + l[i].f0.size ≤ 9223372036854775807 by omega, show 1 + (bodyTo l i).length + 1 + l[i].f0.size + 2 ≤ 9223372036854775807 by omega, show 1 + (bodyTo l i).length + 1 + l[i].f0.size + 2 + l[i].f1.size ≤ 9223372036854775807 by omega, show 1 + (bodyTo l i).length + 1 + l[i].f0.size + 2 + l[i].f1.size + 1 ≤ 9223372036854775807 by omega, if_true]
      rw [part_succ l i hlt (by omega)] at ih'
      exact ih'
    · simp only [if_neg h0, show 1 + (bodyTo l i).length + l[i].f0.size ≤ 9223372036854775807 by omega, show 1 + (bodyTo l i).length + l[i].f0.size + 2 ≤ 9223372036854775807 by omega, show 1 + (bodyTo l i).length + l[i].f0.size + 2 + l[i].f1.size ≤ 9223372036854775807 by omega, show 1 + (bodyTo l i).length + l[i].f0.size + 2 + l[i].f1.size + 1 ≤ 9223372036854775807 by omega, if_true]
      obtain rfl : i = 0 := by omega
      rw [part_one l hlt] at ih'
      exact ih'
theorem refText_ev (l : List Lab) (m : Nat) (h : shortL m l) (hl : l.length ≤ 1000) (hm : m ≤ 1000) : Ev (fun k => intervalmonref05_Text.f k l) (textB l) :=
  refText_loop l m h hl hm l.length 0 (by omega)
end Go.Proofs.Ytlohkfmobeapdaa.Pure
