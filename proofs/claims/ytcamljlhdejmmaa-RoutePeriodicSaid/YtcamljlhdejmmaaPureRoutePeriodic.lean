/- For all valid rotas made from numbers and every tick: a period later the same person; the persons differ until the last one; each has a shift that covers the tick. Its pure statement. No condition. -/
import Derived.Test.YtcamljlhdejmmaaMDuty
import Derived.Test.YtcamljlhdejmmaaMRotaGen
import Derived.Test.YtcamljlhdejmmaaMLives
import Derived.Test.YtcamljlhdejmmaaPx23
namespace Go.Proofs.Ytcamljlhdejmmaa.Pure
open Go.RowKit Go.Proofs.Ytcamljlhdejmmaa.P Go.Proofs.YtcamljlhdejmmaaW.PrintWords Go.Proofs.YtcamljlhdejmmaaW.PrintLast Go.Proofs.YtcamljlhdejmmaaW.PrintMore
set_option linter.unusedVariables false
set_option linter.unusedSimpArgs false

/-- The persons differ. -/
theorem perso_pw (t : Int) (l : List Shf) : ∀ q : List ByteArray, q.Pairwise (fun a b => ¬ a.toList = b.toList) → (perso t q l).Pairwise (fun a b => ¬ a.toList = b.toList) := by
  induction l with
  | nil => intro q h; exact h
  | cons s r ih =>
    intro q h
    rw [perso]
    split
    · rename_i hk
      refine ih _ ?_
      rw [List.pairwise_append]
      refine ⟨h, by simp, fun a ha b hb => ?_⟩
      obtain rfl := List.mem_singleton.1 hb
      rw [Bool.and_eq_true, Bool.not_eq_true'] at hk
      have hk := hk.2
      unfold known at hk
      rw [List.any_eq_false] at hk
      have := hk a ha
      simpa using this
    · exact ih q h
/-- Each person has a shift that covers the tick. -/
theorem perso_mem (t : Int) (l : List Shf) (a : ByteArray) : ∀ q : List ByteArray, a ∈ perso t q l → a ∈ q ∨ ∃ s ∈ l, s.name = a ∧ s.fr ≤ t ∧ t < s.un := by
  induction l with
  | nil => intro q h; exact Or.inl h
  | cons s r ih =>
    intro q h
    rw [perso] at h
    split at h
    · rename_i hk
      rw [Bool.and_eq_true, Bool.and_eq_true, decide_eq_true_eq, decide_eq_true_eq] at hk
      rcases ih _ h with h | ⟨s', hs, h⟩
      · rcases List.mem_append.1 h with h | h
        · exact Or.inl h
        · exact Or.inr ⟨s, by simp, (List.mem_singleton.1 h).symm, hk.1⟩
      · exact Or.inr ⟨s', by simp [hs], h⟩
    · rcases ih _ h with h | ⟨s', hs, h⟩
      · exact Or.inl h
      · exact Or.inr ⟨s', by simp [hs], h⟩

/-- The person at a level. -/
def atL (q : List ByteArray) (k : Nat) : ByteArray := rdOf ByteArray.empty q (mn (k : Int) ((q.length : Int) - 1))
theorem atL_lt (q : List ByteArray) (k : Nat) (h : k < q.length) : atL q k = q[k] := by
  unfold atL mn
  rw [if_neg (by omega), rdB q k h]
theorem atL_ge (q : List ByteArray) (hq : 1 ≤ q.length) (k : Nat) (h : q.length ≤ k + 1) : atL q k = q[q.length - 1] := by
  unfold atL mn
  by_cases hk : (q.length : Int) - 1 < (k : Int)
  · rw [if_pos hk, show ((q.length : Int) - 1) = ((q.length - 1 : Nat) : Int) by omega, rdB q _ (by omega)]
  · rw [if_neg hk, rdB q k (by omega)]
    congr 1
    omega
theorem atL_mem (q : List ByteArray) (hq : 1 ≤ q.length) (k : Nat) : atL q k ∈ q := by
  by_cases h : k < q.length
  · rw [atL_lt q k h]; exact List.getElem_mem h
  · rw [atL_ge q hq k (by omega)]; exact List.getElem_mem _
def seenL (q : List ByteArray) (k : Nat) : List ByteArray := (List.range k).map (atL q)
theorem known_seen (q : List ByteArray) (hq : 1 ≤ q.length) (hp : q.Pairwise (fun a b => ¬ a.toList = b.toList)) (k : Nat) : known (seenL q k) (atL q k) = decide (q.length ≤ k) := by
  by_cases h : q.length ≤ k
  · rw [decide_eq_true h]
    unfold known seenL
    rw [List.any_eq_true]
    refine ⟨atL q (q.length - 1), List.mem_map.2 ⟨q.length - 1, by rw [List.mem_range]; omega, rfl⟩, ?_⟩
    rw [atL_ge q hq k (by omega), atL_ge q hq (q.length - 1) (by omega)]
    exact beq_self_eq_true _
  · rw [decide_eq_false h]
    unfold known seenL
    rw [List.any_eq_false]
    intro x hx
    obtain ⟨j, hj, rfl⟩ := List.mem_map.1 hx
    rw [List.mem_range] at hj
    rw [atL_lt q j (by omega), atL_lt q k (by omega), beq_iff_eq]
    exact List.pairwise_iff_getElem.1 hp j k (by omega) (by omega) hj

theorem has_loop (p : Int) (hp : 1 ≤ p) (l : List S60) (hl : l.length < 4398046511104) (t : Int) (x9 : List ByteArray) (x10 : ByteArray) (x11 : Bool) (k : Nat) (hk : k < 9) (a : ByteArray) (r : Bool) (hgo : Ev (fun n => intervalmonlaw29_RoutePeriodic.l0 n p l t x9 x10 x11 ((k + 1 : Nat) : Int)) r) (d : Nat) :
    ∀ (i : Nat) (b : Bool), i + d = l.length → (b = true ∨ ∃ j, ∃ h : j < l.length, i ≤ j ∧ l[j].f0 = a ∧ l[j].f1 ≤ Int.tmod t p ∧ Int.tmod t p < l[j].f2) → Ev (fun n => intervalmonlaw29_RoutePeriodic.l2 n p l t x9 x10 x11 (k : Int) a b (i : Int)) r := by
  induction d with
  | zero =>
    intro i b hi hb
    refine Ev.up ?_
    simp only [intervalmonlaw29_RoutePeriodic.l2]
    rcases hb with hb | ⟨j, hj, h, _⟩
    · simp only [show ¬ ((i : Int) < (l.length : Int)) by omega, if_false, hb, if_true, w64s k (by omega)]
      exact hgo
    · omega
  | succ d ih =>
    intro i b hi hb
    have hlt : i < l.length := by omega
    refine Ev.up ?_
    simp only [intervalmonlaw29_RoutePeriodic.l2]
    simp only [show ((i : Int) < (l.length : Int)) by omega, if_true, Int.natCast_nonneg, rd60 l i hlt, if_neg (show ¬ p = 0 by omega), w64s i (by omega)]
    cases b with
    | true => simp only [if_true]; exact ih (i + 1) true (by omega) (Or.inl rfl)
    | false =>
      simp only [Bool.false_eq_true, if_false]
      rcases hb with hb | ⟨j, hj, hij, hn, h1, h2⟩
      · cases hb
      · by_cases hji : j = i
        · subst hji
          simp only [hn, if_true, if_pos h1, decide_eq_true h2]
          exact ih (j + 1) true (by omega) (Or.inl rfl)
        · have rest : ∀ b', Ev (fun n => intervalmonlaw29_RoutePeriodic.l2 n p l t x9 x10 x11 (k : Int) a b' ((i + 1 : Nat) : Int)) r := fun b' => ih (i + 1) b' (by omega) (Or.inr ⟨j, hj, by omega, hn, h1, h2⟩)
          by_cases c0 : l[i].f0.toList = a.toList
          · by_cases c1 : l[i].f1 ≤ Int.tmod t p
            · simp only [if_pos c0, if_pos c1]; exact rest _
            · simp only [if_pos c0, if_neg c1]; exact rest _
          · simp only [if_neg c0]; exact rest _

theorem seen_loop (p : Int) (l : List S60) (t : Int) (x9 : List ByteArray) (hx : x9.length < 4398046511104) (x10 : ByteArray) (x11 : Bool) (k : Nat) (a : ByteArray) (r : Bool)
    (h0 : k = 0 → x11 = false) (hk : 0 < k → (known x9 a = true → a.toList = x10.toList) ∧ (x11 = true → a.toList = x10.toList ∧ known x9 a = true))
    (hgo : Ev (fun n => intervalmonlaw29_RoutePeriodic.l2 n p l t (x9 ++ [a]) a (known x9 a) (k : Int) a false 0) r) (d : Nat) :
    ∀ (i : Nat) (b : Bool), i + d = x9.length → (b || known (x9.drop i) a) = known x9 a → Ev (fun n => intervalmonlaw29_RoutePeriodic.l1 n p l t x9 x10 x11 (k : Int) a b (i : Int)) r := by
  induction d with
  | zero =>
    intro i b hi hb
    rw [List.drop_of_length_le (by omega)] at hb
    have hb' : b = known x9 a := by rw [← hb]; simp [known]
    have j4 : ∀ c, c = known x9 a → Ev (fun n => intervalmonlaw29_RoutePeriodic.j4 n p l t x9 c (k : Int) a) r := by
      intro c hc
      refine Ev.up ?_
      simp only [intervalmonlaw29_RoutePeriodic.j4]
      simp only [show x9.length < 8796093022208 by omega, if_true]
      rw [hc]; exact hgo
    have j3 : Ev (fun n => intervalmonlaw29_RoutePeriodic.j3 n p l t x9 x11 (k : Int) a b false) r := by
      refine Ev.up ?_
      simp only [intervalmonlaw29_RoutePeriodic.j3]
      simp only [Bool.false_eq_true, if_false]
      by_cases h11 : x11 = true
      · simp only [if_pos h11]
        rcases Nat.eq_zero_or_pos k with h | h
        · rw [h0 h] at h11; cases h11
        · exact j4 true ((hk h).2 h11).2.symm
      · simp only [if_neg h11]
        exact j4 b hb'
    refine Ev.up ?_
    simp only [intervalmonlaw29_RoutePeriodic.l1]
    simp only [show ¬ ((i : Int) < (x9.length : Int)) by omega, if_false]
    rcases Nat.eq_zero_or_pos k with h | h
    · simp only [show ¬ (k : Int) > 0 by omega, if_false, h0 h, Bool.false_eq_true]
      rw [h0 h] at j3; exact j3
    · have hk := hk h
      simp only [show (k : Int) > 0 by omega, if_true]
      by_cases hbt : b = true
      · have e := hk.1 (by rw [← hb']; exact hbt)
        have ne : (a.toList != x10.toList) = false := by rw [e]; exact bne_self_eq_false _
        simp only [if_pos hbt, if_pos e, ne, ite_self]
        exact j3
      · simp only [if_neg hbt]
        by_cases h11 : x11 = true
        · have e := (hk.2 h11).1
          have ne : (a.toList != x10.toList) = false := by rw [e]; exact bne_self_eq_false _
          simp only [if_pos h11, ne]; exact j3
        · simp only [if_neg h11]; exact j3
  | succ d ih =>
    intro i b hi hb
    have hlt : i < x9.length := by omega
    refine Ev.up ?_
    simp only [intervalmonlaw29_RoutePeriodic.l1]
    simp only [show ((i : Int) < (x9.length : Int)) by omega, if_true, Int.natCast_nonneg, rdB x9 i hlt, w64s i (by omega)]
    rw [List.drop_eq_getElem_cons hlt] at hb
    have hkn : known (x9[i] :: x9.drop (i + 1)) a = ((x9[i].toList == a.toList) || known (x9.drop (i + 1)) a) := rfl
    rw [hkn, ← Bool.or_assoc] at hb
    have := ih (i + 1) _ (by omega) hb
    cases b with
    | true => simp only [if_true, Bool.true_or] at this ⊢; exact this
    | false => simp only [Bool.false_eq_true, if_false, Bool.false_or] at this ⊢; exact this

theorem periodic_l0 (p : Int) (l : List S60) (t : Int) (ht : 0 ≤ t) (ht2 : t < 1000000) (hp12 : p ≤ 12) (hv : vrota p (l.map of60) = 0) (d : Nat) : ∀ k : Nat, k + d = 9 →
    Ev (fun n => intervalmonlaw29_RoutePeriodic.l0 n p l t (seenL (perso (Int.tmod t p) [] (l.map of60)) k) (if k = 0 then (⟨#[]⟩ : ByteArray) else atL (perso (Int.tmod t p) [] (l.map of60)) (k - 1)) (decide ((perso (Int.tmod t p) [] (l.map of60)).length < k)) (k : Int)) true := by
  obtain ⟨hp, _, h3, h4, h5⟩ := vrota_ok hv
  rw [List.length_map] at h3
  have hq := (duty_ne hv t ht)
  have hmem := perso_mem (Int.tmod t p) (l.map of60)
  have hpw := perso_pw (Int.tmod t p) (l.map of60) [] (by simp)
  have hm : Int.tmod (t + p) p = Int.tmod t p := by
    rw [Int.tmod_eq_emod_of_nonneg (by omega), Int.tmod_eq_emod_of_nonneg ht]
    simp
  have val : ∀ k : Nat, dutyV p (l.map of60) t (k : Int) = (atL (perso (Int.tmod t p) [] (l.map of60)) k, 0) ∧ dutyV p (l.map of60) (t + p) (k : Int) = (atL (perso (Int.tmod t p) [] (l.map of60)) k, 0) := by
    intro k
    unfold dutyV atL
    rw [hm]
    refine ⟨?_, ?_⟩
    · rw [if_pos hv, if_neg (by omega), if_neg (by omega)]
    · rw [if_pos hv, if_neg (by omega), if_neg (by omega)]
  generalize hq' : perso (Int.tmod t p) [] (l.map of60) = q at *
  induction d with
  | zero =>
    intro k hk
    refine Ev.up ?_
    simp only [intervalmonlaw29_RoutePeriodic.l0]
    simp only [show ¬ ((k : Int) < 9) by omega, if_false]
    exact Ev.bind lives29 (Ev.some _)
  | succ d ih =>
    intro k hk
    refine Ev.up ?_
    simp only [intervalmonlaw29_RoutePeriodic.l0]
    simp only [show ((k : Int) < 9) by omega, if_true, w64 (t + p) (by omega) (by omega)]
    refine Ev.bind (routeDuty p l t (k : Int)) ?_
    refine Ev.bind (routeDuty p l (t + p) (k : Int)) ?_
    simp only [(val k).1, (val k).2, if_true, bne_self_eq_false]
    refine Ev.up ?_
    simp only [intervalmonlaw29_RoutePeriodic.j1]
    simp only [Bool.false_eq_true, if_false]
    have hkn := known_seen q hq.1 hpw k
    have hlen : (seenL q k).length = k := by simp [seenL]
    have ge : q.length ≤ k → 0 < k → atL q k = atL q (k - 1) := by
      intro h hk
      rw [atL_ge q hq.1 k (by omega), atL_ge q hq.1 (k - 1) (by omega)]
    refine seen_loop p l t (seenL q k) (by omega) _ _ k (atL q k) true (fun h => by subst h; exact decide_eq_false (by omega)) (fun h => ⟨fun hk => ?_, fun he => ?_⟩) ?_ k 0 false (by omega) (by simp)
    · rw [hkn, decide_eq_true_eq] at hk
      rw [if_neg (by omega), ge hk h]
    · rw [decide_eq_true_eq] at he
      refine ⟨?_, by rw [hkn, decide_eq_true_eq]; omega⟩
      rw [if_neg (by omega), ge (by omega) h]
    · have hrest := ih (k + 1) (by omega)
      have e1 : seenL q k ++ [atL q k] = seenL q (k + 1) := by simp [seenL, List.range_succ]
      rw [if_neg (by omega), show k + 1 - 1 = k from rfl] at hrest
      rw [e1, hkn, show decide (q.length ≤ k) = decide (q.length < k + 1) from decide_eq_decide.2 (by omega)]
      refine has_loop p (by omega) l (by omega) t _ _ _ k (by omega) _ true hrest l.length 0 false (by omega) (Or.inr ?_)
      have hin : atL q k ∈ q := atL_mem q hq.1 k
      rcases hmem (atL q k) [] (by rw [hq']; exact hin) with h | ⟨s, hs, hn, h1, h2⟩
      · cases h
      · obtain ⟨s0, hs0, rfl⟩ := List.mem_map.1 hs
        obtain ⟨j, hj, rfl⟩ := List.mem_iff_getElem.1 hs0
        exact ⟨j, hj, by omega, hn, h1, h2⟩

theorem RoutePeriodic : intervalmonlaw29_RoutePeriodic.Pure := by
  intro l a1 hm h8 hl h1
  refine Ev.rounds ?_
  obtain ⟨p, s, hp, hp2, hs, hv, hr⟩ := rota_gen l hl false
  have hb := arn_bd a1 1000000 (by decide)
  unfold intervalmonlaw29_RoutePeriodic.f
  refine Ev.bind hr ?_
  refine Ev.bind (shifts_ev s (by omega)) ?_
  simp only [around a1 1000000 h1 (by decide), Option.bind_some]
  have := periodic_l0 p (s.map to60) (arn a1 1000000) hb.1 hb.2 (by omega) (by rw [map60]; exact (hv rfl).1) 9 0 (by omega)
  exact this
end Go.Proofs.Ytcamljlhdejmmaa.Pure
