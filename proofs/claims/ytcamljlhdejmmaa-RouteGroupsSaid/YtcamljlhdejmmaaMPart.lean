/- Grouping: what route.Groups comes to is the one list of groups in the order of the keys. -/
import Derived.Test.YtcamljlhdejmmaaHGrp
import Derived.Test.YtcamljlhdejmmaaMStab
namespace Go.Proofs.Ytcamljlhdejmmaa.Pure
open Go.RowKit Go.Proofs.Ytcamljlhdejmmaa.P Go.Proofs.YtcamljlhdejmmaaW.PrintWords Go.Proofs.YtcamljlhdejmmaaW.PrintLast Go.Proofs.YtcamljlhdejmmaaW.PrintMore
set_option linter.unusedVariables false
set_option linter.unusedSimpArgs false

/-- K: the keys of the first n, each once, in their order. -/
structure KeysOf (key : Nat → List Lab) (n : Nat) (K : List (List Lab)) : Prop where
  srt : K.Pairwise fun a b => cmpLs a b < 0
  mem : ∀ k, k ∈ K ↔ ∃ i, i < n ∧ key i = k
def own (key : Nat → List Lab) (n : Nat) (k : List Lab) : List Int := ((List.range n).filter fun i => decide (key i = k)).map Int.ofNat
def canon (key : Nat → List Lab) (n : Nat) (K : List (List Lab)) : List (List Int) := K.map (own key n)
theorem cmpLs_self (a : List Lab) : cmpLs a a = 0 := (cmpLs_eq0 a a).2 rfl
theorem cmpLs_lt_trans {a b c : List Lab} (h1 : cmpLs a b < 0) (h2 : cmpLs b c < 0) : cmpLs a c < 0 := ord3_Ls.strict a b c (by omega) (by omega) (.inl h1)
theorem srt_nodup {K : List (List Lab)} (h : K.Pairwise fun a b => cmpLs a b < 0) : K.Nodup := by
  rw [List.nodup_iff_pairwise_ne]
  exact h.imp fun h e => by subst e; rw [cmpLs_self] at h; omega
theorem KeysOf.uniq {key : Nat → List Lab} {n : Nat} {K K' : List (List Lab)} (h : KeysOf key n K) (h' : KeysOf key n K') : K = K' := by
  have hp : K.Perm K' := (List.perm_ext_iff_of_nodup (srt_nodup h.srt) (srt_nodup h'.srt)).2 fun a => by rw [h.mem, h'.mem]
  refine hp.eq_of_pairwise (le := fun a b => cmpLs a b < 0) (fun a b _ _ h1 h2 => ?_) h.srt h'.srt
  have := cmpLs_lt_trans h1 h2
  rw [cmpLs_self] at this; omega

/-! ### the cut -/
theorem set_last {α : Type} (A : List α) (b c : α) : (A ++ [b]).set ((A ++ [b]).length - 1) c = A ++ [c] := by
  rw [List.length_append, List.length_singleton, Nat.add_sub_cancel, List.set_append_right _ _ (Nat.le_refl _)]
  simp
theorem getD_last {α : Type} (A : List α) (b d : α) : (A ++ [b]).getD ((A ++ [b]).length - 1) d = b := by
  simp
/-- The groups of the first elements of a sorted list. -/
structure CutInv (key : Int → List Lab) (O : List Int) (out : List (List Int)) (K : List (List Lab)) : Prop where
  srt : K.Pairwise fun a b => cmpLs a b < 0
  mem : ∀ k, k ∈ K ↔ ∃ x ∈ O, key x = k
  out : out = K.map fun k => O.filter fun x => decide (key x = k)
  last : ∀ O' x, O = O' ++ [x] → ∃ K', K = K' ++ [key x]
theorem filter_snoc_ne (key : Int → List Lab) (O : List Int) (x : Int) (k : List Lab) (h : key x ≠ k) : ((O ++ [x]).filter fun y => decide (key y = k)) = O.filter fun y => decide (key y = k) := by
  rw [List.filter_append]; simp [h]
theorem filter_snoc_eq (key : Int → List Lab) (O : List Int) (x : Int) (k : List Lab) (h : key x = k) : ((O ++ [x]).filter fun y => decide (key y = k)) = (O.filter fun y => decide (key y = k)) ++ [x] := by
  rw [List.filter_append]; simp [h]
theorem CutInv.step {key : Int → List Lab} {O : List Int} {out : List (List Int)} {K : List (List Lab)} (h : CutInv key O out K) (x : Int) (hx : ∀ y ∈ O, cmpLs (key y) (key x) ≤ 0) (fresh : Bool)
    (hf : fresh = true ↔ (O = [] ∨ ∃ O' y, O = O' ++ [y] ∧ key y ≠ key x)) : ∃ K', CutInv key (O ++ [x]) (let o1 := if fresh = true then out ++ [[]] else out; o1.set (o1.length - 1) (o1.getD (o1.length - 1) [] ++ [x])) K' := by
  cases fresh with
  | true =>
    have hlt : ∀ k ∈ K, cmpLs k (key x) < 0 := by
      intro k hk
      obtain ⟨y, hy, rfl⟩ := (h.mem k).1 hk
      have h1 := hx y hy
      rcases hf.1 rfl with rfl | ⟨O', z, rfl, hz⟩
      · cases hy
      · obtain ⟨K', rfl⟩ := h.last O' z rfl
        have h2 := hx z (by simp)
        have h3 : cmpLs (key z) (key x) < 0 := by
          rcases Int.lt_or_eq_of_le h2 with h3 | h3
          · exact h3
          · exact absurd ((cmpLs_eq0 _ _).1 h3) hz
        rcases List.mem_append.1 hk with hk | hk
        · have := (List.pairwise_append.1 h.srt).2.2 _ hk (key z) (by simp)
          exact cmpLs_lt_trans this h3
        · rw [List.mem_singleton.1 hk]; exact h3
    have hnot : key x ∉ K := fun hk => by have := hlt _ hk; rw [cmpLs_self] at this; omega
    refine ⟨K ++ [key x], ?_, ?_, ?_, ?_⟩
    · rw [List.pairwise_append]
      refine ⟨h.srt, by simp, fun a ha b hb => ?_⟩
      rw [List.mem_singleton.1 hb]; exact hlt a ha
    · intro k
      rw [List.mem_append, List.mem_singleton, h.mem]
      constructor
      · rintro (⟨y, hy, e⟩ | rfl)
        · exact ⟨y, List.mem_append_left _ hy, e⟩
        · exact ⟨x, by simp, rfl⟩
      · rintro ⟨y, hy, e⟩
        rcases List.mem_append.1 hy with hy | hy
        · exact .inl ⟨y, hy, e⟩
        · rw [List.mem_singleton.1 hy] at e; exact .inr e.symm
    · simp only [if_true]
      rw [set_last, getD_last, List.map_append, List.nil_append, h.out]
      congr 1
      · refine List.map_congr_left fun k hk => ?_
        rw [filter_snoc_ne]
        intro e; subst e; exact hnot hk
      · simp only [List.map_cons, List.map_nil]
        rw [filter_snoc_eq _ _ _ _ rfl]
        have : (O.filter fun y => decide (key y = key x)) = [] := by
          rw [List.filter_eq_nil_iff]
          intro y hy he
          exact hnot ((h.mem _).2 ⟨y, hy, of_decide_eq_true he⟩)
        rw [this]; rfl
    · intro O' y e
      have := List.append_inj_right' e rfl
      simp at this; subst this
      exact ⟨K, rfl⟩
  | false =>
    have hn : ¬ (O = [] ∨ ∃ O' y, O = O' ++ [y] ∧ key y ≠ key x) := fun h2 => Bool.noConfusion (hf.2 h2)
    rcases List.eq_nil_or_concat O with rfl | ⟨O', z, rfl⟩
    · exact absurd (.inl rfl) hn
    · rw [List.concat_eq_append] at *
      have hz : key z = key x := Classical.byContradiction fun h2 => hn (.inr ⟨O', z, rfl, h2⟩)
      obtain ⟨K', rfl⟩ := h.last O' z rfl
      have hdis := (List.pairwise_append.1 h.srt).2.2
      refine ⟨K' ++ [key z], h.srt, ?_, ?_, ?_⟩
      · intro k
        rw [h.mem]
        constructor
        · rintro ⟨y, hy, e⟩; exact ⟨y, List.mem_append_left _ hy, e⟩
        · rintro ⟨y, hy, e⟩
          rcases List.mem_append.1 hy with hy | hy
          · exact ⟨y, hy, e⟩
          · rw [List.mem_singleton.1 hy] at e; exact ⟨z, by simp, hz.trans e⟩
      · simp only [Bool.false_eq_true, if_false]
        rw [h.out, List.map_append, List.map_cons, List.map_nil, set_last, getD_last, List.map_append, List.map_cons, List.map_nil]
        congr 1
        · refine List.map_congr_left fun k hk => ?_
          rw [filter_snoc_ne key (O' ++ [z]) x k]
          intro e
          have := hdis k hk (key z) (by simp)
          rw [hz, e, cmpLs_self] at this; omega
        · rw [filter_snoc_eq key (O' ++ [z]) x _ hz.symm]
      · intro O2 y e
        have := List.append_inj_right' e rfl
        simp at this; subst this
        exact ⟨K', by rw [hz]⟩

theorem cut_inv (l0 : List Al) (l1 : List ByteArray) (o : Array Int) (N : Nat) (ho : o.size = N) (hs : o.toList.Pairwise fun x y => cmpLs (keyL l0 l1 x.toNat) (keyL l0 l1 y.toNat) ≤ 0) (d : Nat) :
    ∀ (n : Nat) (out : List (List Int)) (K : List (List Lab)), n + d = N → CutInv (fun x => keyL l0 l1 x.toNat) (o.toList.take n) out K → ∃ K', CutInv (fun x => keyL l0 l1 x.toNat) o.toList (cutL l0 l1 o out d n) K' := by
  induction d with
  | zero =>
    intro n out K hn h
    rw [List.take_of_length_le (by simp; omega)] at h
    exact ⟨K, h⟩
  | succ d ih =>
    intro n out K hn h
    have hlt : n < o.toList.length := by simp; omega
    have hlt' : n < o.size := by omega
    have e1 : o[n]! = o.toList[n] := by rw [getElem!_pos o n hlt']; simp
    have hx : ∀ y ∈ o.toList.take n, cmpLs (keyL l0 l1 y.toNat) (keyL l0 l1 (o[n]!).toNat) ≤ 0 := by
      intro y hy
      obtain ⟨i, hi, rfl⟩ := List.mem_iff_getElem.1 hy
      rw [List.length_take] at hi
      rw [List.getElem_take, e1]
      exact List.pairwise_iff_getElem.1 hs i n (by omega) hlt (by omega)
    obtain ⟨K', h'⟩ := h.step (o[n]!) hx (decide (n = 0 ∨ cmpLs (keyL l0 l1 (o[n - 1]!).toNat) (keyL l0 l1 (o[n]!).toNat) ≠ 0)) (by
      rw [decide_eq_true_iff]
      by_cases h0 : n = 0
      · subst h0; simp
      · have e2 : o.toList.take n = o.toList.take (n - 1) ++ [o[n - 1]!] := by
          obtain ⟨m, rfl⟩ : ∃ m, n = m + 1 := ⟨n - 1, by omega⟩
          have hm : m < o.toList.length := by omega
          have hm' : m < o.size := by omega
          rw [Nat.add_sub_cancel, List.take_succ_eq_append_getElem hm, getElem!_pos o m hm']
          simp
        constructor
        · rintro (h1 | h1)
          · exact absurd h1 h0
          · exact .inr ⟨_, _, e2, fun e => h1 ((cmpLs_eq0 _ _).2 e)⟩
        · rintro (h1 | ⟨O', y, h1, h2⟩)
          · rw [e2] at h1; simp at h1
          · right
            rw [e2] at h1
            have := List.append_inj_right' h1 rfl
            simp at this
            rw [this]
            exact fun e => h2 ((cmpLs_eq0 _ _).1 e))
    have e3 : o.toList.take n ++ [o[n]!] = o.toList.take (n + 1) := by rw [List.take_succ_eq_append_getElem hlt, e1]
    rw [e3] at h'
    simp only [decide_eq_true_eq] at h'
    exact ih (n + 1) _ K' (by omega) h'

/-- What Groups comes to. -/
theorem groups_canon (l0 : List Al) (l1 : List ByteArray) : ∃ K, KeysOf (keyL l0 l1) l0.length K ∧ groupsL l0 l1 = canon (keyL l0 l1) l0.length K := by
  obtain ⟨h1, h2⟩ := stable_sorted (swoKey l0 l1) l0.length
  have h3 : (orderL l0 l1).size = l0.length := (orderL_perm l0 l1).1
  change (orderL l0 l1).toList.Perm _ at h1
  change (orderL l0 l1).toList.Pairwise _ at h2
  have h4 : (orderL l0 l1).toList.Pairwise fun x y => cmpLs (keyL l0 l1 x.toNat) (keyL l0 l1 y.toNat) ≤ 0 := by
    refine h2.imp fun {x y} h => ?_
    unfold lt2 at h
    simp only [Bool.or_eq_true, decide_eq_true_eq, Bool.and_eq_true, Bool.not_eq_true', decide_eq_false_iff_not] at h
    have := cmpLs_anti (keyL l0 l1 x.toNat) (keyL l0 l1 y.toNat)
    omega
  obtain ⟨K, hK⟩ := cut_inv l0 l1 (orderL l0 l1) l0.length h3 h4 l0.length 0 [] [] (by omega) ⟨List.Pairwise.nil, by simp, by simp, fun O' x e => by simp at e⟩
  refine ⟨K, ⟨hK.srt, fun k => ?_⟩, ?_⟩
  · rw [hK.mem]
    constructor
    · rintro ⟨x, hx, rfl⟩
      obtain ⟨p, hp, rfl⟩ := List.mem_map.1 ((h1.mem_iff).1 hx)
      exact ⟨p, List.mem_range.1 hp, rfl⟩
    · rintro ⟨i, hi, rfl⟩
      exact ⟨Int.ofNat i, (h1.mem_iff).2 (List.mem_map.2 ⟨i, List.mem_range.2 hi, rfl⟩), rfl⟩
  · have e : groupsL l0 l1 = cutL l0 l1 (orderL l0 l1) [] l0.length 0 := rfl
    rw [e, hK.out]
    unfold canon
    refine List.map_congr_left fun k hk => ?_
    have hp : ((orderL l0 l1).toList.filter fun x => decide (keyL l0 l1 x.toNat = k)).Perm (own (keyL l0 l1) l0.length k) := by
      have := h1.filter fun x => decide (keyL l0 l1 x.toNat = k)
      rw [List.filter_map] at this
      exact this
    refine hp.eq_of_pairwise (le := fun x y : Int => x ≤ y) (fun a b _ _ h1 h2 => by omega) ?_ ?_
    · rw [List.pairwise_filter]
      refine h2.imp fun {x y} h hx hy => ?_
      simp only [decide_eq_true_eq] at hx hy
      unfold lt2 at h
      simp only [hx, hy, cmpLs_self] at h
      simp at h
      omega
    · unfold own
      rw [List.pairwise_map]
      refine (List.pairwise_lt_range.filter _).imp fun {a b} h => ?_
      simp only [Int.ofNat_eq_natCast]
      omega
end Go.Proofs.Ytcamljlhdejmmaa.Pure
