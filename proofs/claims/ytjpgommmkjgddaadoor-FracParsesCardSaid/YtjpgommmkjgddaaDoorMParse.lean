/- Parse: OK exactly at the texts of valid fractions. -/
import Derived.Test.YtjpgommmkjgddaaDoorMNum
namespace Go.Proofs.YtjpgommmkjgddaaDoor.Pure
open Go.RowKit Go.Proofs.YtjpgommmkjgddaaDoor.P Go.Proofs.YtjpgommmkjgddaaDoorW.PrintWords Go.Proofs.YtjpgommmkjgddaaDoorW.PrintLast Go.Proofs.YtjpgommmkjgddaaDoorW.PrintMore
set_option linter.unusedVariables false
set_option linter.unusedSimpArgs false
theorem idx_none : ∀ (l : List UInt8) (c : UInt8), c ∉ l → Lib.indexByte l c = -1
  | [], _, _ => rfl
  | b :: l, c, h => by
    have hb : ¬ (b == c) = true := by
      intro e; exact h (by rw [eq_of_beq e]; exact List.mem_cons_self)
    have hl := idx_none l c (fun hm => h (List.mem_cons_of_mem _ hm))
    unfold Lib.indexByte
    rw [if_neg hb, hl]; rfl
theorem idx_some : ∀ (l r : List UInt8) (c : UInt8), c ∉ l → Lib.indexByte (l ++ c :: r) c = l.length
  | [], r, c, _ => by simp [Lib.indexByte]
  | b :: l, r, c, h => by
    have hb : ¬ (b == c) = true := by
      intro e; exact h (by rw [eq_of_beq e]; exact List.mem_cons_self)
    have hl := idx_some l r c (fun hm => h (List.mem_cons_of_mem _ hm))
    rw [List.cons_append]
    unfold Lib.indexByte
    rw [if_neg hb, hl, if_neg (by rw [beq_iff_eq]; omega), List.length_cons]
    omega
theorem itoa_no (n : Int) : (47 : UInt8) ∉ Lib.itoa n := by
  unfold Lib.itoa
  intro h
  split at h
  · rcases List.mem_cons.1 h with h | h
    · exact absurd h (by decide)
    · have := dec_dig _ _ h
      rw [show (47 : UInt8).toNat = 47 from rfl] at this
      omega
  · have := dec_dig _ _ h
    rw [show (47 : UInt8).toNat = 47 from rfl] at this
    omega
theorem itoaB_list (n : Int) : (itoaB n).data.toList = Lib.itoa n := rfl
theorem cut_one (n : Int) : cutS (itoaB n) = (Lib.itoa n, [], false) := by
  unfold cutS Lib.cut
  rw [itoaB_list, Lib.index_one, idx_none _ _ (itoa_no n)]
  rfl
theorem cut_two (n d : Int) : cutS ((itoaB n ++ (⟨#[47]⟩ : ByteArray)) ++ itoaB d) = (Lib.itoa n, Lib.itoa d, true) := by
  have e : ((itoaB n ++ (⟨#[47]⟩ : ByteArray)) ++ itoaB d).data.toList = Lib.itoa n ++ 47 :: Lib.itoa d := by
    rw [ba_app, ba_app, itoaB_list, itoaB_list]; simp
  unfold cutS Lib.cut
  rw [e, Lib.index_one, idx_some _ _ _ (itoa_no n), if_pos (Int.natCast_nonneg _)]
  simp
theorem text_top {n d : Int} (h : ValidP n d) : topS (textF n d) = itoaB n ∧ botS (textF n d) = itoaB d := by
  unfold textF topS botS
  rw [if_pos h]
  by_cases h1 : d = 1
  · subst h1
    rw [if_pos rfl, cut_one]
    refine ⟨rfl, ?_⟩
    simp only [Bool.false_eq_true, if_false]
    unfold itoaB Lib.itoa
    rw [if_neg (by omega), show (1 : Int).toNat = 1 from rfl, Lib.decDigits_one (by omega)]
    rfl
  · rw [if_neg h1]
    unfold restS
    rw [cut_two]
    exact ⟨rfl, rfl⟩
theorem valid_b {n d : Int} (h : ValidP n d) : (-9223372036854775808 ≤ n ∧ n ≤ 9223372036854775807) ∧ -9223372036854775808 ≤ d ∧ d ≤ 9223372036854775807 := by
  obtain ⟨h1, h2, h3, _⟩ := h
  omega
theorem text_size {n d : Int} (h : ValidP n d) : (textF n d).size ≤ 43 := by
  have hb := valid_b h
  have s1 := itoaB_size n hb.1
  have s2 := itoaB_size d hb.2
  unfold textF
  rw [if_pos h]
  split
  · omega
  · rw [ByteArray.size_append, ByteArray.size_append]
    show (itoaB n).size + 1 + (itoaB d).size ≤ 43
    omega
theorem parse_yes {n d : Int} (h : ValidP n d) : Ev (fun k => frac_Parse.f k (textF n d)) (n, d, 0) := by
  have hb := valid_b h
  obtain ⟨e1, e2⟩ := text_top h
  have s1 := itoaB_size n hb.1
  have s2 := itoaB_size d hb.2
  have s3 := text_size h
  unfold frac_Parse.f
  simp only [e1, e2, itoaB_list, atoi_itoa n hb.1, atoi_itoa d hb.2]
  simp only [if_pos (show (textF n d).size ≤ 281474976710656 ∧ (itoaB n).size ≤ 281474976710656 ∧ (itoaB d).size ≤ 281474976710656 from ⟨by omega, by omega, by omega⟩)]
  unfold frac_Parse.two
  refine Ev.bind (new_ev n d hb.1 hb.2) ?_
  rw [new_self h]
  simp only [if_true]
  refine Ev.bind (text_ev n d hb.1 hb.2) ?_
  simp only [if_true]
  exact Ev.some _
/-- A string that is no text of a valid fraction. -/
def NoText (s : ByteArray) : Prop := ∀ n d, ValidP n d → (textF n d).toList ≠ s.toList
theorem parse_no {s : ByteArray} (hs : s.size ≤ 281474976710656 ∧ (topS s).size ≤ 281474976710656 ∧ (botS s).size ≤ 281474976710656) (h : NoText s) : Ev (fun k => frac_Parse.f k s) (0, 0, 2) := by
  unfold frac_Parse.f
  simp only [if_pos hs]
  cases hn : Lib.atoiAll (topS s).data.toList with
  | «syntax» => exact Ev.some _
  | range => exact Ev.some _
  | ok n =>
    cases hd : Lib.atoiAll (botS s).data.toList with
    | «syntax» => exact Ev.some _
    | range => exact Ev.some _
    | ok d =>
      have bn := atoi_in hn
      have bd := atoi_in hd
      simp only
      unfold frac_Parse.two
      refine Ev.bind (new_ev n d bn bd) ?_
      by_cases h0 : (newF n d).2.2 = 0
      · have hv := new_valid h0
        have hb := valid_b hv
        simp only [h0, if_true]
        refine Ev.bind (text_ev _ _ hb.1 hb.2) ?_
        simp only [if_neg (h _ _ hv)]
        exact Ev.some _
      · simp only [h0, if_false]
        exact Ev.some _
end Go.Proofs.YtjpgommmkjgddaaDoor.Pure
