/- Plain lemmas about the printed functions: whole numbers within their bounds, Around, Pick, loops that come to an end. -/
import Derived.Test.YtcamljlhdejmmaaPx6
namespace Go.Proofs.Ytcamljlhdejmmaa.Pure
open Go.RowKit Go.Proofs.Ytcamljlhdejmmaa.P Go.Proofs.YtcamljlhdejmmaaW.PrintWords Go.Proofs.YtcamljlhdejmmaaW.PrintLast Go.Proofs.YtcamljlhdejmmaaW.PrintMore

theorem w64 (x : Int) (h0 : -9223372036854775808 ≤ x) (h1 : x ≤ 9223372036854775807) : wrap64 x = x := by unfold wrap64; omega
theorem w64s (i : Nat) (h : i < 4611686018427387904) : wrap64 ((i : Int) + 1) = ((i + 1 : Nat) : Int) := by unfold wrap64; omega
theorem wf64 {x : Int} (h : (Lit.int .i64 x).wf = true) : -9223372036854775808 ≤ x ∧ x ≤ 9223372036854775807 := by
  simp only [Lit.wf, Bool.and_eq_true, decide_eq_true_eq] at h
  have a : IntKind.i64.min = -9223372036854775808 := by decide
  have b : IntKind.i64.max = 9223372036854775807 := by decide
  rw [a, b] at h
  exact h
theorem tmod_bd (a m : Int) (h0 : 0 ≤ a) (hm : 0 < m) : 0 ≤ Int.tmod a m ∧ Int.tmod a m < m := by
  rw [Int.tmod_eq_emod_of_nonneg h0]
  exact ⟨Int.emod_nonneg _ (by omega), Int.emod_lt_of_pos _ hm⟩
theorem tdiv_bd (a m : Int) (h0 : 0 ≤ a) (hm : 0 < m) : 0 ≤ Int.tdiv a m ∧ Int.tdiv a m ≤ a := by
  rw [Int.tdiv_eq_ediv_of_nonneg h0]
  exact ⟨Int.ediv_nonneg h0 (by omega), Int.ediv_le_self _ h0⟩

/-- What Around gives, as a number. -/
def arn (n m : Int) : Int := if n < 0 then (-(n + 1)) % m else n % m
theorem arn_bd (n m : Int) (hm : 0 < m) : 0 ≤ arn n m ∧ arn n m < m := by
  unfold arn
  split
  · exact ⟨Int.emod_nonneg _ (by omega), Int.emod_lt_of_pos _ hm⟩
  · exact ⟨Int.emod_nonneg _ (by omega), Int.emod_lt_of_pos _ hm⟩
theorem around (n m : Int) (hn : (Lit.int .i64 n).wf = true) (hm : 0 < m) : intervalmonref01_Around.f n m = some (arn n m) := by
  have := wf64 hn
  unfold intervalmonref01_Around.f arn
  by_cases h : n < 0
  · rw [if_pos h, if_pos h, if_neg (by omega), w64 (n + 1) (by omega) (by omega), w64 _ (by omega) (by omega), Int.tmod_eq_emod_of_nonneg (by omega)]
  · rw [if_neg h, if_neg h, if_neg (by omega), Int.tmod_eq_emod_of_nonneg (by omega)]
/-- What Pick gives. -/
def pk (l : List Int) (i m : Int) : Int := if i < 0 then 0 else if (l.length : Int) ≤ i then 0 else arn (rd l i) m
theorem pk_bd (l : List Int) (i m : Int) (hm : 0 < m) : 0 ≤ pk l i m ∧ pk l i m < m := by
  unfold pk
  split
  · omega
  · split
    · omega
    · exact arn_bd _ _ hm
theorem rd_mem (l : List Int) (i : Int) (h0 : 0 ≤ i) (h : i < l.length) : rd l i ∈ l := by
  unfold rd
  have hi : i.toNat < l.length := by omega
  rw [List.getD_eq_getElem?_getD, List.getElem?_eq_getElem hi]
  exact List.getElem_mem _
theorem pick (l : List Int) (hl : ∀ x ∈ l, (Lit.int .i64 x).wf = true) (i m : Int) (hm : 0 < m) : intervalmonref01_Pick.f l i m = some (pk l i m) := by
  unfold intervalmonref01_Pick.f pk
  by_cases h0 : i < 0
  · rw [if_pos h0, if_pos h0]
  · rw [if_neg h0, if_neg h0]
    by_cases h1 : (l.length : Int) ≤ i
    · rw [if_pos h1, if_pos h1]
    · rw [if_neg h1, if_neg h1, if_pos (by omega), if_pos (by omega), around _ _ (hl _ (rd_mem l i (by omega) (by omega))) hm]
      rfl

theorem Ev.pure {α : Type} {g : Nat → Option α} {r : α} (h : ∀ k, g k = some r) : Ev g r := ⟨0, fun k _ => h k⟩
theorem Ev.up {α : Type} {g : Nat → Option α} {r : α} (h : Ev (fun k => g (k + 1)) r) : Ev g r := Ev.step (fun _ => rfl) h
theorem Ev.some {α : Type} (r : α) : Ev (fun _ => Option.some r) r := ⟨0, fun _ _ => rfl⟩
end Go.Proofs.Ytcamljlhdejmmaa.Pure
