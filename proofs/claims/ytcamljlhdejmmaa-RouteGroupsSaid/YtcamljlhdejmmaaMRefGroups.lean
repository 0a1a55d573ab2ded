/- The reference's Groups: the same list of groups. -/
import Derived.Test.YtcamljlhdejmmaaMPart
import Derived.Test.YtcamljlhdejmmaaMRefKeep
import Derived.Test.YtcamljlhdejmmaaPx9
namespace Go.Proofs.Ytcamljlhdejmmaa.Pure
open Go.RowKit Go.Proofs.Ytcamljlhdejmmaa.P Go.Proofs.YtcamljlhdejmmaaW.PrintWords Go.Proofs.YtcamljlhdejmmaaW.PrintLast Go.Proofs.YtcamljlhdejmmaaW.PrintMore
set_option linter.unusedVariables false
set_option linter.unusedSimpArgs false

theorem rdL9 (l : List (List Lab)) (i : Nat) (h : i < l.length) : rd_L9 l (i : Int) = l[i] := by simp [rd_L9, List.getD_eq_getElem?_getD, h]
theorem keyL_len (l0 : List Al) (l1 : List ByteArray) (h : ∀ a ∈ l0, a.f2.length ≤ 1000) (i : Nat) (hi : i < l0.length) : (keyL l0 l1 i).length ≤ 1000 := by
  have hm : rd_T73 l0 (i : Int) ∈ l0 := by simp [rd_T73, List.getD_eq_getElem?_getD, hi]
  exact Nat.le_trans (List.length_filter_le _ _) (h _ hm)
/-- One key more: it stands already, or it is put in where it belongs. -/
theorem KeysOf.old {key : Nat → List Lab} {n : Nat} {K : List (List Lab)} (h : KeysOf key n K) (hm : key n ∈ K) : KeysOf key (n + 1) K := by
  refine ⟨h.srt, fun k => ?_⟩
  rw [h.mem]
  constructor
  · rintro ⟨i, hi, e⟩; exact ⟨i, by omega, e⟩
  · rintro ⟨i, hi, e⟩
    by_cases hn : i = n
    · subst hn; rw [e, h.mem] at hm; exact hm
    · exact ⟨i, by omega, e⟩
theorem KeysOf.put {key : Nat → List Lab} {n m : Nat} {K : List (List Lab)} (h : KeysOf key n K) (h1 : ∀ k ∈ K.take m, cmpLs k (key n) < 0) (h2 : ∀ k ∈ K.drop m, cmpLs (key n) k < 0) : KeysOf key (n + 1) (K.take m ++ [key n] ++ K.drop m) := by
  have hs : (K.take m ++ K.drop m).Pairwise fun a b => cmpLs a b < 0 := by rw [List.take_append_drop]; exact h.srt
  obtain ⟨s1, s2, s3⟩ := List.pairwise_append.1 hs
  refine ⟨?_, fun k => ?_⟩
  · rw [List.append_assoc, List.pairwise_append]
    refine ⟨s1, ?_, ?_⟩
    · rw [List.singleton_append, List.pairwise_cons]; exact ⟨h2, s2⟩
    · intro a ha b hb
      rw [List.singleton_append] at hb
      rcases List.mem_cons.1 hb with rfl | hb
      · exact h1 a ha
      · exact s3 a ha b hb
  · have : k ∈ K.take m ++ [key n] ++ K.drop m ↔ k = key n ∨ k ∈ K := by
      conv => rhs; rw [← List.take_append_drop m K]
      simp only [List.mem_append, List.mem_singleton]
      constructor
      · rintro ((h | h) | h)
        · exact .inr (.inl h)
        · exact .inl h
        · exact .inr (.inr h)
      · rintro (h | h | h)
        · exact .inl (.inr h)
        · exact .inl (.inl h)
        · exact .inr h
    rw [this, h.mem]
    constructor
    · rintro (rfl | ⟨i, hi, e⟩)
      · exact ⟨n, by omega, rfl⟩
      · exact ⟨i, by omega, e⟩
    · rintro ⟨i, hi, e⟩
      by_cases hn : i = n
      · subst hn; exact .inl e.symm
      · exact .inr ⟨i, by omega, e⟩
theorem KeysOf.len {key : Nat → List Lab} {n : Nat} {K : List (List Lab)} (h : KeysOf key n K) : K.length ≤ n := by
  have hsub : K ⊆ (List.range n).map key := fun k hk => by
    obtain ⟨i, hi, e⟩ := (h.mem k).1 hk
    exact List.mem_map.2 ⟨i, List.mem_range.2 hi, e⟩
  have := (srt_nodup h.srt).length_le_of_subset hsub
  simpa using this

/-! ### the groups -/
theorem own_step (key : Nat → List Lab) (i : Nat) (k : List Lab) : own key (i + 1) k = own key i k ++ (if key i = k then [(i : Int)] else []) := by
  unfold own
  rw [List.range_succ, List.filter_append, List.map_append]
  by_cases h : key i = k <;> simp [h]
theorem own_len (key : Nat → List Lab) (n : Nat) (k : List Lab) : (own key n k).length ≤ n := by
  unfold own
  rw [List.length_map]
  exact Nat.le_trans (List.length_filter_le _ _) (by simp)
theorem refG_l3 (l0 : List Al) (l1 : List ByteArray) (hn : l0.length ≤ 8) (hl : l1.length ≤ 1000) (ha : ∀ a ∈ l0, a.f2.length ≤ 1000) (K : List (List Lab)) (hK : K.length ≤ 8) (hKl : ∀ k ∈ K, k.length ≤ 1000) (out : List (List Int)) (ho : out.length ≤ 8) (g : Nat) (hg : g < K.length) (r : List (List Int))
    (hr : Ev (fun k => intervalmonref29_Groups.l2 k l0 l1 K (out ++ [own (keyL l0 l1) l0.length K[g]]) ((g + 1 : Nat) : Int)) r) (d : Nat) : ∀ i : Nat, i + d = l0.length → Ev (fun k => intervalmonref29_Groups.l3 k l0 l1 K out (g : Int) (own (keyL l0 l1) i K[g]) (i : Int)) r := by
  induction d with
  | zero =>
    intro i hi
    refine Ev.up ?_
    simp only [intervalmonref29_Groups.l3]
    obtain rfl : i = l0.length := by omega
    simp only [show ¬ ((l0.length : Int) < (l0.length : Int)) by omega, if_false, show out.length < 5864062014805 by omega, if_true, w64s g (by omega)]
    exact hr
  | succ d ih =>
    intro i hi
    refine Ev.up ?_
    simp only [intervalmonref29_Groups.l3]
    have hlt : i < l0.length := by omega
    have hm : rd_T73 l0 (i : Int) ∈ l0 := by simp [rd_T73, List.getD_eq_getElem?_getD, hlt]
    have hk := keyL_len l0 l1 ha i hlt
    have ih' := ih (i + 1) (by omega)
    rw [own_step] at ih'
    have hol := own_len (keyL l0 l1) i K[g]
    simp only [show ((i : Int) < (l0.length : Int)) by omega, if_true, Int.natCast_nonneg, w64s i (by omega)]
    refine Ev.bind (refKeep_ev _ (by have := ha _ hm; omega) l1 (by omega)) ?_
    simp only [show ((g : Int) < (K.length : Int)) by omega, if_true, rdL9 K g hg]
    refine Ev.bind (same_ev _ _ (by change (keyL l0 l1 i).length < _; omega)) ?_
    change Ev (fun k => if decide (keyL l0 l1 i = K[g]) = true then _ else _) r
    by_cases h : keyL l0 l1 i = K[g]
    · simp only [h, decide_true, if_true, show (own (keyL l0 l1) i K[g]).length < 17592186044416 by omega]
      rw [if_pos h] at ih'
      exact ih'
    · simp only [h, decide_false, Bool.false_eq_true, if_false]
      rw [if_neg h, List.append_nil] at ih'
      exact ih'
theorem refG_l2 (l0 : List Al) (l1 : List ByteArray) (hn : l0.length ≤ 8) (hl : l1.length ≤ 1000) (ha : ∀ a ∈ l0, a.f2.length ≤ 1000) (K : List (List Lab)) (hK : K.length ≤ 8) (hKl : ∀ k ∈ K, k.length ≤ 1000) (d : Nat) : ∀ g : Nat, g + d = K.length → Ev (fun k => intervalmonref29_Groups.l2 k l0 l1 K (canon (keyL l0 l1) l0.length (K.take g)) (g : Int)) (canon (keyL l0 l1) l0.length K) := by
  induction d with
  | zero =>
    intro g hg
    refine Ev.up ?_
    simp only [intervalmonref29_Groups.l2]
    simp only [show ¬ ((g : Int) < (K.length : Int)) by omega, if_false, List.take_of_length_le (show K.length ≤ g by omega)]
    exact Ev.some _
  | succ d ih =>
    intro g hg
    refine Ev.up ?_
    simp only [intervalmonref29_Groups.l2]
    have hlt : g < K.length := by omega
    simp only [show ((g : Int) < (K.length : Int)) by omega, if_true]
    have ih' := ih (g + 1) (by omega)
    rw [List.take_succ_eq_append_getElem hlt] at ih'
    unfold canon at ih' ⊢
    rw [List.map_append] at ih'
    exact refG_l3 l0 l1 hn hl ha K hK hKl _ (by rw [List.length_map, List.length_take]; omega) g hlt _ ih' l0.length 0 (by omega)

/-! ### the keys -/
theorem refG_l1 (l0 : List Al) (l1 : List ByteArray) (hn : l0.length ≤ 8) (hl : l1.length ≤ 1000) (ha : ∀ a ∈ l0, a.f2.length ≤ 1000) (K : List (List Lab)) (i : Nat) (hi : i < l0.length) (hK : KeysOf (keyL l0 l1) i K) (r : List (List Int))
    (hr : ∀ K', KeysOf (keyL l0 l1) (i + 1) K' → Ev (fun k => intervalmonref29_Groups.l0 k l0 l1 K' ((i + 1 : Nat) : Int)) r) :
    ∀ m : Nat, m ≤ K.length → (∀ k ∈ K.drop m, cmpLs (keyL l0 l1 i) k < 0) → Ev (fun k => intervalmonref29_Groups.l1 k l0 l1 K (i : Int) (keyL l0 l1 i) (m : Int)) r := by
  have hKl := hK.len
  have hkk := keyL_len l0 l1 ha i hi
  have hlen : ∀ k ∈ K, k.length ≤ 1000 := fun k hk => by
    obtain ⟨j, hj, e⟩ := (hK.mem k).1 hk
    rw [← e]; exact keyL_len l0 l1 ha j (by omega)
  intro m
  induction m with
  | zero =>
    intro hm hd
    refine Ev.up ?_
    simp only [intervalmonref29_Groups.l1]
    have := hr _ (hK.put (m := 0) (by simp) hd)
    simp only [show ¬ (((0 : Nat) : Int) > 0) by omega, if_false, show (0 : Int) ≤ ((0 : Nat) : Int) by omega, if_true, show ((0 : Nat) : Int) ≤ (K.length : Int) by omega, Option.bind_some, Int.toNat_natCast, w64s i (by omega)]
    simp only [List.take_zero, List.drop_zero, List.nil_append, List.append_nil, List.length_nil, List.length_append, List.length_singleton] at this ⊢
    simp only [show (0 : Nat) + 0 < 5864062014805 by omega, show (0 : Nat) < 5864062014805 by omega, if_true, Option.bind_some, show 0 + 1 + K.length < 5864062014805 by omega, show 1 + K.length < 5864062014805 by omega]
    exact this
  | succ m ih =>
    intro hm hd
    refine Ev.up ?_
    simp only [intervalmonref29_Groups.l1]
    have hlt : m < K.length := by omega
    have hw : wrap64 (((m + 1 : Nat) : Int) - 1) = (m : Int) := by rw [show ((m + 1 : Nat) : Int) - 1 = (m : Int) by omega]; exact w64 _ (by omega) (by omega)
    simp only [show (((m + 1 : Nat) : Int) > 0) by omega, if_true, hw, Int.natCast_nonneg, show ((m : Int) < (K.length : Int)) by omega, rdL9 K m hlt]
    have hkm := hlen _ (List.getElem_mem hlt)
    refine Ev.bind (refCompare _ _ (by omega) (by omega)) ?_
    by_cases h : cmpLs (keyL l0 l1 i) K[m] < 0
    · simp only [h, if_true]
      refine ih (by omega) ?_
      rw [List.drop_eq_getElem_cons hlt]
      intro k hk
      rcases List.mem_cons.1 hk with rfl | hk
      · exact h
      · exact hd k hk
    · simp only [h, if_false]
      refine Ev.bind (same_ev _ _ (by omega)) ?_
      by_cases h2 : keyL l0 l1 i = K[m]
      · simp only [h2, decide_true, if_true, w64s i (by omega)]
        refine hr K (hK.old ?_)
        rw [h2]; exact List.getElem_mem hlt
      · simp only [h2, decide_false, Bool.false_eq_true, if_false]
        have h3 : cmpLs K[m] (keyL l0 l1 i) < 0 := by
          have e := cmpLs_anti (keyL l0 l1 i) K[m]
          have : cmpLs (keyL l0 l1 i) K[m] ≠ 0 := fun e2 => h2 ((cmpLs_eq0 _ _).1 e2)
          omega
        have h4 : ∀ k ∈ K.take (m + 1), cmpLs k (keyL l0 l1 i) < 0 := by
          intro k hk
          rw [List.take_succ_eq_append_getElem hlt] at hk
          rcases List.mem_append.1 hk with hk | hk
          · have hs : (K.take m ++ K.drop m).Pairwise fun a b => cmpLs a b < 0 := by rw [List.take_append_drop]; exact hK.srt
            have := (List.pairwise_append.1 hs).2.2 k hk K[m] (by rw [List.drop_eq_getElem_cons hlt]; exact List.mem_cons_self)
            exact cmpLs_lt_trans this h3
          · rw [List.mem_singleton.1 hk]; exact h3
        have := hr _ (hK.put h4 hd)
        simp only [show (0 : Int) ≤ ((m + 1 : Nat) : Int) by omega, if_true, show ((m + 1 : Nat) : Int) ≤ (K.length : Int) by omega, Option.bind_some, Int.toNat_natCast, w64s i (by omega)]
        simp only [List.nil_append, List.length_nil, List.length_append, List.length_singleton, List.length_take, List.length_drop] at this ⊢
        simp only [show 0 + min (m + 1) K.length < 5864062014805 by omega, show min (m + 1) K.length < 5864062014805 by omega, if_true, Option.bind_some, show min (m + 1) K.length + 1 + (K.length - (m + 1)) < 5864062014805 by omega]
        exact this
theorem refG_l0 (l0 : List Al) (l1 : List ByteArray) (hn : l0.length ≤ 8) (hl : l1.length ≤ 1000) (ha : ∀ a ∈ l0, a.f2.length ≤ 1000) (KK : List (List Lab)) (hKK : KeysOf (keyL l0 l1) l0.length KK) (d : Nat) :
    ∀ (i : Nat) (K : List (List Lab)), i + d = l0.length → KeysOf (keyL l0 l1) i K → Ev (fun k => intervalmonref29_Groups.l0 k l0 l1 K (i : Int)) (canon (keyL l0 l1) l0.length KK) := by
  induction d with
  | zero =>
    intro i K hi hK
    refine Ev.up ?_
    simp only [intervalmonref29_Groups.l0]
    obtain rfl : i = l0.length := by omega
    obtain rfl := hK.uniq hKK
    simp only [show ¬ ((l0.length : Int) < (l0.length : Int)) by omega, if_false]
    have hlen : ∀ k ∈ K, k.length ≤ 1000 := fun k hk => by
      obtain ⟨j, hj, e⟩ := (hK.mem k).1 hk
      rw [← e]; exact keyL_len l0 l1 ha j (by omega)
    exact refG_l2 l0 l1 hn hl ha K (Nat.le_trans hK.len hn) hlen K.length 0 (by omega)
  | succ d ih =>
    intro i K hi hK
    refine Ev.up ?_
    simp only [intervalmonref29_Groups.l0]
    have hlt : i < l0.length := by omega
    have hm : rd_T73 l0 (i : Int) ∈ l0 := by simp [rd_T73, List.getD_eq_getElem?_getD, hlt]
    simp only [show ((i : Int) < (l0.length : Int)) by omega, if_true, Int.natCast_nonneg]
    refine Ev.bind (refKeep_ev _ (by have := ha _ hm; omega) l1 (by omega)) ?_
    exact refG_l1 l0 l1 hn hl ha K i hlt hK _ (fun K' hK' => ih (i + 1) K' (by omega) hK') K.length (Nat.le_refl _) (by rw [List.drop_length]; intro k hk; cases hk)
/-- Both come to one list of groups. -/
theorem groups_both (l0 : List Al) (l1 : List ByteArray) (hn : l0.length ≤ 8) (hl : l1.length ≤ 1000) (ha : ∀ a ∈ l0, a.f2.length ≤ 1000) :
    ∃ K, KeysOf (keyL l0 l1) l0.length K ∧ route_Groups.f l0 l1 = some (canon (keyL l0 l1) l0.length K) ∧ Ev (fun k => intervalmonref29_Groups.f k l0 l1) (canon (keyL l0 l1) l0.length K) := by
  obtain ⟨K, hK, he⟩ := groups_canon l0 l1
  refine ⟨K, hK, ?_, refG_l0 l0 l1 hn hl ha K hK l0.length 0 [] (by omega) ⟨List.Pairwise.nil, by simp⟩⟩
  unfold route_Groups.f
  have : fitsG l0 l1 = true := by
    unfold fitsG
    simp only [Bool.and_eq_true, decide_eq_true_eq, List.all_eq_true]
    exact ⟨⟨hn, hl⟩, ha⟩
  rw [if_pos this, he]
theorem canon_len {key : Nat → List Lab} {n : Nat} {K : List (List Lab)} (h : KeysOf key n K) : (canon key n K).length ≤ n := by
  unfold canon; rw [List.length_map]; exact h.len
theorem canon_row {key : Nat → List Lab} {n : Nat} {K : List (List Lab)} : ∀ x ∈ canon key n K, x.length ≤ n := by
  intro x hx
  obtain ⟨k, _, rfl⟩ := List.mem_map.1 hx
  exact own_len key n k
end Go.Proofs.Ytcamljlhdejmmaa.Pure
