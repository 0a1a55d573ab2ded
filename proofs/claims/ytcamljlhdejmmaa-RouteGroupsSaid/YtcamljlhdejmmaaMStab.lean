/- The insertion sort of increasing numbers is stable: it is the sort by key, then by number. -/
import Derived.Sort.LotA
namespace Go.Proofs.Ytcamljlhdejmmaa.Pure
open Go Go.Sort
set_option linter.unusedVariables false
set_option linter.unusedSimpArgs false

theorem insInner_perm {α : Type} [Inhabited α] (lt : α → α → Bool) (a b i : Nat) (hib : i < b) : ∀ (j : Nat) (d : Array α), a ≤ j → j ≤ i → b ≤ d.size → PermIn a b d (insInner lt a j d)
  | 0, d, _, _, _ => by unfold insInner; exact permIn_refl d a b
  | j + 1, d, haj, hji, hb => by
    unfold insInner
    split
    · rename_i hc
      simp only [Bool.and_eq_true, decide_eq_true_eq] at hc
      have ih := insInner_perm lt a b i hib j (swp d (j + 1) j) (by omega) (by omega) (by rw [swp_size]; exact hb)
      exact permIn_trans _ _ _ a b (swp_permIn d a b (j + 1) j haj (by omega) (by omega) (by omega) hb) ih
    · exact permIn_refl d a b

/-- By key, then by number. -/
def lt2 (lt : Int → Int → Bool) (x y : Int) : Bool := lt x y || (!lt y x && decide (x < y))
theorem insInner_eq (lt : Int → Int → Bool) (a : Nat) : ∀ (j : Nat) (d : Array Int), j < d.size → (∀ m, m < j → d[m]! < d[j]!) → insInner lt a j d = insInner (lt2 lt) a j d
  | 0, d, _, _ => rfl
  | j + 1, d, hj, h => by
    have h1 := h j (by omega)
    have e : lt2 lt d[j + 1]! d[j]! = lt d[j + 1]! d[j]! := by
      unfold lt2
      rw [decide_eq_false (show ¬ d[j + 1]! < d[j]! by omega)]
      simp
    unfold insInner
    rw [e]
    split
    · have g := swp_get d hj (show j < d.size by omega)
      refine insInner_eq lt a j _ (by rw [swp_size]; omega) fun m hm => ?_
      rw [g, g]
      rw [if_neg (by omega), if_neg (by omega), if_pos rfl]
      exact h m (by omega)
    · rfl
theorem insOuter_eq (lt : Int → Int → Bool) (b : Nat) : ∀ (n i : Nat) (d : Array Int), b - i = n → i ≤ b → b ≤ d.size → (∀ m m', m < m' → i ≤ m' → m' < b → d[m]! < d[m']!) → insOuter lt 0 b i d = insOuter (lt2 lt) 0 b i d
  | 0, i, d, hn, hib, hb, h => by
    obtain rfl : i = b := by omega
    rw [insOuter, if_neg (by omega), insOuter, if_neg (by omega)]
  | n + 1, i, d, hn, hib, hb, h => by
    have hlt : i < b := by omega
    have o1 : insOuter lt 0 b i d = insOuter lt 0 b (i + 1) (insInner lt 0 i d) := by rw [insOuter, if_pos hlt]
    have o2 : insOuter (lt2 lt) 0 b i d = insOuter (lt2 lt) 0 b (i + 1) (insInner (lt2 lt) 0 i d) := by rw [insOuter, if_pos hlt]
    rw [o1, o2, insInner_eq lt 0 i d (by omega) (fun m hm => h m i hm (Nat.le_refl _) hlt)]
    obtain ⟨p1, p2, p3⟩ := insInner_perm (lt2 lt) 0 (i + 1) i (by omega) i d (Nat.zero_le _) (Nat.le_refl _) (by omega)
    have hP : PermIn 0 (i + 1) d (insInner (lt2 lt) 0 i d) := ⟨p1, p2, p3⟩
    refine insOuter_eq lt b n (i + 1) _ (by omega) (by omega) (by rw [p1]; exact hb) fun m m' h1 h2 h3 => ?_
    rw [p2 m' (.inr h2)]
    by_cases hm : m < i + 1
    · exact permIn_all d _ 0 (i + 1) (fun x => x < d[m']!) (by omega) hP (fun q _ hq => h q m' (by omega) (by omega) h3) m (Nat.zero_le _) hm
    · rw [p2 m (.inr (by omega))]
      exact h m m' h1 (by omega) h3
theorem insertionSort_eq (lt : Int → Int → Bool) (n : Nat) : insertionSort lt ((Array.range n).map Int.ofNat) 0 n = insertionSort (lt2 lt) ((Array.range n).map Int.ofNat) 0 n := by
  unfold insertionSort
  by_cases h : n = 0
  · subst h; rw [insOuter, if_neg (by omega), insOuter, if_neg (by omega)]
  · refine insOuter_eq lt n _ 1 _ rfl (by omega) (by simp) fun m m' h1 h2 h3 => ?_
    rw [getElem!_pos _ m (by simp; omega), getElem!_pos _ m' (by simpa using h3)]
    simp
    omega
theorem swo_lt2 {lt : Int → Int → Bool} (h : SWO lt) : SWO (lt2 lt) where
  irrefl x := by unfold lt2; rw [h.irrefl]; simp
  trans x y z h1 h2 := by
    unfold lt2 at *
    simp only [Bool.or_eq_true, Bool.and_eq_true, Bool.not_eq_true', decide_eq_true_eq] at *
    rcases h1 with h1 | ⟨h1, h1'⟩ <;> rcases h2 with h2 | ⟨h2, h2'⟩
    · exact .inl (h.trans _ _ _ h1 h2)
    · left
      cases h3 : lt x z with
      | true => rfl
      | false =>
        have := h.ntrans x z y h3 h2
        rw [h1] at this; cases this
    · left
      cases h3 : lt x z with
      | true => rfl
      | false =>
        have := h.ntrans y x z h1 h3
        rw [h2] at this; cases this
    · by_cases h3 : lt x z = true
      · exact .inl h3
      · exact .inr ⟨h.ntrans z y x h2 h1, by omega⟩
  ntrans x y z h1 h2 := by
    unfold lt2 at *
    simp only [Bool.or_eq_false_iff, Bool.and_eq_false_iff, Bool.not_eq_false', decide_eq_false_iff_not] at *
    refine ⟨h.ntrans _ _ _ h1.1 h2.1, ?_⟩
    by_cases h3 : lt z x = true
    · exact .inl h3
    · right
      have h3 : lt z x = false := by simpa using h3
      have e1 := h.ntrans y z x h2.1 h3
      have e2 := h.ntrans z x y h3 h1.1
      have := h1.2.resolve_left (by rw [e1]; decide)
      have := h2.2.resolve_left (by rw [e2]; decide)
      omega
/-- The sort of the first n numbers by a key: a permutation, strictly increasing by key and number. -/
theorem stable_sorted {lt : Int → Int → Bool} (h : SWO lt) (n : Nat) : (insertionSort lt ((Array.range n).map Int.ofNat) 0 n).toList.Perm ((List.range n).map Int.ofNat) ∧
    (insertionSort lt ((Array.range n).map Int.ofNat) 0 n).toList.Pairwise fun x y => lt2 lt x y = true := by
  rw [insertionSort_eq]
  obtain ⟨⟨h1, _, h2⟩, h3⟩ := insertionSort_holds (swo_lt2 h) ((Array.range n).map Int.ofNat) 0 n (Nat.zero_le _) (by simp)
  generalize hd : insertionSort (lt2 lt) ((Array.range n).map Int.ofNat) 0 n = d at *
  have hs : d.size = n := by simpa using h1
  have e2 : d.extract 0 n = d := by rw [← hs]; simp
  have e3 : ((Array.range n).map Int.ofNat).extract 0 n = (Array.range n).map Int.ofNat := by
    have : ((Array.range n).map Int.ofNat).size = n := by simp
    conv => lhs; rw [← this]
    simp
  rw [e2, e3] at h2
  have hp : d.toList.Perm ((List.range n).map Int.ofNat) := by simpa using h2
  refine ⟨hp, ?_⟩
  have hn : d.toList.Nodup := hp.nodup_iff.2 (by
    rw [List.nodup_iff_pairwise_ne, List.pairwise_map]
    exact List.nodup_range.imp fun h e => h (Int.ofNat.inj e))
  rw [List.pairwise_iff_getElem]
  intro i j hi hj hij
  have hi' : i < n := by simpa [hs] using hi
  have hj' : j < n := by simpa [hs] using hj
  have h4 := h3 i j (Nat.zero_le _) hij hj'
  rw [getElem!_pos d i (by omega), getElem!_pos d j (by omega)] at h4
  have hne : d[i]'(by omega) ≠ d[j]'(by omega) := by
    have := List.pairwise_iff_getElem.1 hn i j hi hj hij
    simpa using this
  simp only [Array.getElem_toList]
  unfold lt2 at h4 ⊢
  simp only [Bool.or_eq_false_iff, Bool.and_eq_false_iff, Bool.not_eq_false', decide_eq_false_iff_not] at h4
  simp only [Bool.or_eq_true, Bool.and_eq_true, Bool.not_eq_true', decide_eq_true_eq]
  by_cases h5 : lt (d[i]'(by omega)) (d[j]'(by omega)) = true
  · exact .inl h5
  · right
    have h5 : lt (d[i]'(by omega)) (d[j]'(by omega)) = false := by simpa using h5
    have := h4.2.resolve_left (by rw [h5]; decide)
    exact ⟨h4.1, by omega⟩
end Go.Proofs.Ytcamljlhdejmmaa.Pure
