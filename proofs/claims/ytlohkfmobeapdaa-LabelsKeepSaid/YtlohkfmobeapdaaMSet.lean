/- Label sets made from numbers are label sets; what Keep leaves of a label set is one. -/
import Derived.Test.YtlohkfmobeapdaaMMatch
import Derived.Test.YtlohkfmobeapdaaMNew
namespace Go.Proofs.Ytlohkfmobeapdaa.Pure
open Go.RowKit Go.Proofs.Ytlohkfmobeapdaa.P Go.Proofs.YtlohkfmobeapdaaW.PrintWords Go.Proofs.YtlohkfmobeapdaaW.PrintLast Go.Proofs.YtlohkfmobeapdaaW.PrintMore
set_option linter.unusedVariables false
set_option linter.unusedSimpArgs false

theorem setFrom_sub (l : List Int) (vals : List ByteArray) : ∀ (names : List ByteArray) (w : Int) (i : Nat), ((setFrom l vals w i names).map fun x => x.f0).Sublist names
  | [], _, _ => List.Sublist.refl _
  | n :: r, w, i => by
    have ih := setFrom_sub l vals r (Int.tdiv w 2) (i + 1)
    unfold setFrom
    split
    · simpa using ih
    · simpa using ih.cons n
theorem rdB_mem (l : List ByteArray) (i : Int) (h0 : 0 ≤ i) (h1 : i < l.length) : rdB l i ∈ l := by
  unfold rdB rdOf
  have hi : i.toNat < l.length := by omega
  rw [List.getD_eq_getElem?_getD, List.getElem?_eq_getElem hi]
  exact List.getElem_mem _
theorem setFrom_val (l : List Int) (vals : List ByteArray) (hv : vals.length = 6) : ∀ (names : List ByteArray) (w : Int) (i : Nat), ∀ x ∈ setFrom l vals w i names, x.f1 ∈ vals
  | [], _, _ => fun x hx => by cases hx
  | n :: r, w, i => by
    have ih := setFrom_val l vals hv r (Int.tdiv w 2) (i + 1)
    intro x hx
    unfold setFrom at hx
    rcases List.mem_append.1 hx with hx | hx
    · split at hx
      · rw [List.mem_singleton.1 hx]
        have := pk_bd l ((i : Int) + 1) 6 (by decide)
        exact rdB_mem _ _ this.1 (by omega)
      · cases hx
    · exact ih x hx
theorem names6_ok : names6.all nameB = true := by decide +kernel
theorem vals6_ok : vals6.all (fun v => !v.toList.isEmpty && valueB v) = true := by decide +kernel
theorem names6_srt : names6.Pairwise fun a b => a.toList < b.toList := by
  have h : names6.Pairwise fun a b => (Op.bytesLess a.toList b.toList = true) := by decide +kernel
  exact h.imp fun h => by rw [bytesLess_lt] at h; exact of_decide_eq_true h
theorem setL_names (l : List Int) : ∀ x ∈ setL l, x.f0 ∈ names6 := fun x hx => (setFrom_sub l vals6 names6 _ _).subset (List.mem_map.2 ⟨x, hx, rfl⟩)
theorem setL_ok (l : List Int) : SetOk (setL l) where
  len := Nat.le_trans (setL_len l) (by decide)
  ok x hx := by
    have h1 := List.all_eq_true.1 names6_ok x.f0 (setL_names l x hx)
    have h2 := List.all_eq_true.1 vals6_ok x.f1 (setFrom_val l vals6 rfl names6 _ _ x hx)
    rw [Bool.and_eq_true, Bool.not_eq_true'] at h2
    exact ⟨h1, h2.1, h2.2⟩
  srt := by
    have := names6_srt.sublist (setFrom_sub l vals6 names6 (pk l 0 64) 0)
    rw [List.pairwise_map] at this
    exact this
theorem keep_ok {s : List Lab} (h : SetOk s) (names : List ByteArray) : SetOk (keepL s names) where
  len := Nat.le_trans (List.length_filter_le _ _) h.len
  ok x hx := h.ok x (List.mem_filter.1 hx).1
  srt := h.srt.sublist List.filter_sublist
theorem keep_keep (s : List Lab) (names : List ByteArray) : keepL (keepL s names) names = keepL s names := by
  unfold keepL; rw [List.filter_filter]; simp
theorem keep_all {s : List Lab} {names : List ByteArray} (h : ∀ x ∈ s, x.f0 ∈ names) : keepL s names = s := by
  unfold keepL
  rw [List.filter_eq_self]
  exact fun x hx => (inL_iff _ _).2 (h x hx)
theorem keep_none (s : List Lab) : keepL s [] = [] := by
  unfold keepL; simp [inL]
end Go.Proofs.Ytlohkfmobeapdaa.Pure
