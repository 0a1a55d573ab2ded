/- On duty: the persons at a tick; OnDuty of the package and of the reference come to the same (dutyV). -/
import Derived.Test.YtcamljlhdejmmaaMRota
import Derived.Test.YtcamljlhdejmmaaPx22
import Derived.Test.YtcamljlhdejmmaaPx10
namespace Go.Proofs.Ytcamljlhdejmmaa.Pure
open Go.RowKit Go.Proofs.Ytcamljlhdejmmaa.P Go.Proofs.YtcamljlhdejmmaaW.PrintWords Go.Proofs.YtcamljlhdejmmaaW.PrintLast Go.Proofs.YtcamljlhdejmmaaW.PrintMore
set_option linter.unusedVariables false
set_option linter.unusedSimpArgs false

def known (l : List ByteArray) (n : ByteArray) : Bool := l.any fun o => o.toList == n.toList
def perso (t : Int) : List ByteArray → List Shf → List ByteArray
  | q, [] => q
  | q, s :: r => perso t (if decide (s.fr ≤ t) && decide (t < s.un) && !known q s.name then q ++ [s.name] else q) r
theorem rdB (l : List ByteArray) (i : Nat) (h : i < l.length) : rdOf ByteArray.empty l (i : Int) = l[i] := by simp [rdOf, List.getD_eq_getElem?_getD, h]

theorem idx_loop (l : List ByteArray) (hl : l.length < 4398046511104) (x : ByteArray) (d : Nat) : ∀ i : Nat, i + d = l.length →
    Ev (fun k => (slices_Index_string_string.l0 k l x (l.length : Int) (i : Int)).bind fun t => some (decide (t ≥ 0))) (known (l.drop i) x) := by
  induction d with
  | zero =>
    intro i hi
    refine Ev.bind (a := -1) (Ev.up ?_) ?_
    · simp only [slices_Index_string_string.l0]
      simp only [show ¬ ((i : Int) < (l.length : Int)) by omega, if_false]
      exact Ev.some _
    · rw [List.drop_of_length_le (by omega)]
      exact Ev.some _
  | succ d ih =>
    intro i hi
    have hlt : i < l.length := by omega
    rw [List.drop_eq_getElem_cons hlt]
    have hk : known (l[i] :: l.drop (i + 1)) x = ((l[i].toList == x.toList) || known (l.drop (i + 1)) x) := rfl
    rw [hk]
    by_cases he : x.toList = l[i].toList
    · refine Ev.bind (a := (i : Int)) (Ev.up ?_) ?_
      · simp only [slices_Index_string_string.l0]
        simp only [show ((i : Int) < (l.length : Int)) by omega, if_true, Int.natCast_nonneg, rdB l i hlt, if_pos he]
        exact Ev.some _
      · rw [he, beq_self_eq_true, Bool.true_or, decide_eq_true (show (i : Int) ≥ 0 by omega)]
        exact Ev.some _
    · have hb : (l[i].toList == x.toList) = false := beq_eq_false_iff_ne.2 (fun h => he h.symm)
      rw [hb, Bool.false_or]
      have := ih (i + 1) (by omega)
      obtain ⟨K, h⟩ := this
      refine ⟨K + 1, fun k hk => ?_⟩
      obtain ⟨m, rfl⟩ : ∃ m, k = m + 1 := ⟨k - 1, by omega⟩
      simp only [slices_Index_string_string.l0]
      simp only [show ((i : Int) < (l.length : Int)) by omega, if_true, Int.natCast_nonneg, rdB l i hlt, if_neg he, w64s i (by omega)]
      exact h m (by omega)
theorem contains_ev (l : List ByteArray) (hl : l.length < 4398046511104) (x : ByteArray) : Ev (fun k => slices_Contains_string_string.f k l x) (known l x) := by
  have := idx_loop l hl x l.length 0 (by omega)
  exact this

/-! ### the reference -/
theorem persons_l1 (p tick : Int) (l : List S50) (out : List ByteArray) (hl : l.length < 4398046511104) (ho : out.length ≤ l.length) (i : Nat) (hi : i < l.length) (t : Int) (r : List ByteArray)
    (hr : ∀ b, b = known out l[i].f0 → Ev (fun k => intervalmonref29_Persons.l0 k p l tick (if decide (l[i].f1 ≤ t) && decide (t < l[i].f2) && !b then out ++ [l[i].f0] else out) ((i + 1 : Nat) : Int)) r) (d : Nat) :
    ∀ (j : Nat) (b : Bool), j + d = out.length → (b || known (out.drop j) l[i].f0) = known out l[i].f0 → Ev (fun k => intervalmonref29_Persons.l1 k p l tick out (i : Int) t b (j : Int)) r := by
  induction d with
  | zero =>
    intro j b hj hb
    refine Ev.up ?_
    simp only [intervalmonref29_Persons.l1]
    simp only [show ¬ ((j : Int) < (out.length : Int)) by omega, if_false, Int.natCast_nonneg, if_true, show ((i : Int) < (l.length : Int)) by omega, rd50 l i hi, show out.length < 8796093022208 by omega, w64s i (by omega)]
    rw [List.drop_of_length_le (by omega)] at hb
    have hb' : b = known out l[i].f0 := by rw [← hb]; simp [known]
    have := hr b hb'
    by_cases h1 : l[i].f1 ≤ t
    · by_cases h2 : t < l[i].f2
      · cases b with
        | true => simp only [h1, h2, if_true, decide_true, Bool.and_self, Bool.not_true, Bool.and_false, Bool.false_eq_true, if_false] at this ⊢; exact this
        | false => simp only [h1, h2, if_true, decide_true, Bool.and_self, Bool.not_false, Bool.and_true, Bool.false_eq_true, if_false] at this ⊢; exact this
      · simp only [h1, h2, if_true, if_false, decide_true, decide_false, Bool.and_false, Bool.false_and, Bool.false_eq_true] at this ⊢; exact this
    · simp only [h1, if_false, decide_false, Bool.false_and, Bool.false_eq_true] at this ⊢; exact this
  | succ d ih =>
    intro j b hj hb
    have hlt : j < out.length := by omega
    refine Ev.up ?_
    simp only [intervalmonref29_Persons.l1]
    simp only [show ((j : Int) < (out.length : Int)) by omega, if_true, Int.natCast_nonneg, show ((i : Int) < (l.length : Int)) by omega, rd50 l i hi, rdB out j hlt, w64s j (by omega)]
    rw [List.drop_eq_getElem_cons hlt] at hb
    have hk : known (out[j] :: out.drop (j + 1)) l[i].f0 = ((out[j].toList == l[i].f0.toList) || known (out.drop (j + 1)) l[i].f0) := rfl
    rw [hk, ← Bool.or_assoc] at hb
    have := ih (j + 1) _ (by omega) hb
    cases b with
    | true => simp only [if_true, Bool.true_or] at this ⊢; exact this
    | false => simp only [Bool.false_eq_true, if_false, Bool.false_or] at this ⊢; exact this
theorem persons_l0 (p tick : Int) (hp : 1 ≤ p) (l : List S50) (hl : l.length < 4398046511104) (d : Nat) : ∀ (i : Nat) (out : List ByteArray), i + d = l.length → out.length ≤ i →
    Ev (fun k => intervalmonref29_Persons.l0 k p l tick out (i : Int)) (perso (Int.tmod tick p) out ((l.drop i).map of50)) := by
  induction d with
  | zero =>
    intro i out hi ho
    refine Ev.up ?_
    simp only [intervalmonref29_Persons.l0]
    simp only [show ¬ ((i : Int) < (l.length : Int)) by omega, if_false]
    rw [List.drop_of_length_le (by omega)]
    exact Ev.some _
  | succ d ih =>
    intro i out hi ho
    have hlt : i < l.length := by omega
    refine Ev.up ?_
    simp only [intervalmonref29_Persons.l0]
    simp only [show ((i : Int) < (l.length : Int)) by omega, if_true, if_neg (show ¬ p = 0 by omega)]
    rw [List.drop_eq_getElem_cons hlt, List.map_cons, perso]
    refine persons_l1 p tick l out hl (by omega) i hlt _ _ (fun b hb => ?_) out.length 0 false (by omega) (by simp)
    rw [hb]
    refine ih (i + 1) _ (by omega) ?_
    split
    · simp; omega
    · omega
theorem persons_ev (p tick : Int) (hp : 1 ≤ p) (l : List S50) (hl : l.length < 4398046511104) : Ev (fun k => intervalmonref29_Persons.f k p l tick) (perso (Int.tmod tick p) [] (l.map of50)) :=
  persons_l0 p tick hp l hl l.length 0 [] (by omega) (by simp)

/-! ### valid rotas have someone on duty -/
theorem errs_of {p : Int} {l : List Shf} (h : firstErr p l = 0) : ∀ s ∈ l, 0 ≤ s.fr ∧ s.fr < s.un ∧ s.un ≤ p := by
  induction l with
  | nil => intro s hs; cases hs
  | cons a r ih =>
    rw [firstErr] at h
    by_cases e : errOf p a = 0
    · rw [if_pos e] at h
      intro s hs
      rcases List.mem_cons.1 hs with rfl | hs
      · unfold errOf at e
        split at e
        · split at e
          · omega
          · split at e
            · omega
            · split at e <;> omega
        · omega
      · exact ih h s hs
    · rw [if_neg e] at h
      exact absurd h e
theorem covers_all {p : Int} {l : List Shf} (hv : firstErr p l = 0) (hc : allCov p l = true) (t : Int) (h0 : 0 ≤ t) (ht : t < p) : covB l t = true := by
  unfold allCov at hc
  rw [Bool.and_eq_true, List.all_eq_true] at hc
  have key : ∀ (d : Nat) (e : Int), (t - e).toNat ≤ d → e ≤ t → covB l e = true → covB l t = true := by
    intro d
    induction d with
    | zero =>
      intro e hd he hce
      obtain rfl : e = t := by omega
      exact hce
    | succ d ih =>
      intro e hd he hce
      have hce0 := hce
      unfold covB at hce
      rw [List.any_eq_true] at hce
      obtain ⟨s, hs, hh⟩ := hce
      rw [Bool.and_eq_true, decide_eq_true_eq, decide_eq_true_eq] at hh
      by_cases hlt : t < s.un
      · unfold covB
        rw [List.any_eq_true]
        exact ⟨s, hs, by rw [decide_eq_true (show s.fr ≤ t by omega), decide_eq_true hlt]; rfl⟩
      · have := hc.2 s hs
        rw [decide_eq_true (show s.un < p by omega)] at this
        exact ih s.un (by omega) (by omega) (by simpa using this)
  exact key t.toNat 0 (by omega) h0 hc.1
theorem perso_mono (t : Int) (l : List Shf) : ∀ q, ∃ z, perso t q l = q ++ z := by
  induction l with
  | nil => intro q; exact ⟨[], by simp [perso]⟩
  | cons s r ih =>
    intro q
    rw [perso]
    split
    · obtain ⟨z, hz⟩ := ih (q ++ [s.name])
      exact ⟨s.name :: z, by rw [hz]; simp⟩
    · exact ih q
theorem perso_ne (t : Int) (l : List Shf) (h : covB l t = true) : ∀ q, perso t q l ≠ [] := by
  induction l with
  | nil => intro q; simp [covB] at h
  | cons s r ih =>
    intro q
    rw [perso]
    have hc : covB (s :: r) t = ((decide (s.fr ≤ t) && decide (t < s.un)) || covB r t) := rfl
    rw [hc, Bool.or_eq_true] at h
    rcases h with h | h
    · split
      · obtain ⟨z, hz⟩ := perso_mono t r (q ++ [s.name])
        rw [hz]; simp
      · rename_i hk
        rw [h, Bool.true_and, Bool.not_eq_true, Bool.not_eq_false'] at hk
        obtain ⟨z, hz⟩ := perso_mono t r q
        rw [hz]
        intro he
        have : q = [] := (List.append_eq_nil_iff.1 he).1
        rw [this] at hk
        simp [known] at hk
    · exact ih h _
theorem perso_len (t : Int) (l : List Shf) : ∀ q, (perso t q l).length ≤ q.length + l.length := by
  induction l with
  | nil => intro q; simp [perso]
  | cons s r ih =>
    intro q
    rw [perso]
    split
    · have := ih (q ++ [s.name]); simp at this ⊢; omega
    · have := ih q; simp at this ⊢; omega

/-! ### OnDuty -/
def dutyV (p : Int) (l : List Shf) (tick level : Int) : ByteArray × Int :=
  if vrota p l = 0 then (if tick < 0 ∨ tick > 1048576 then ((⟨#[]⟩ : ByteArray), 5) else if level < 0 then ((⟨#[]⟩ : ByteArray), 1) else
    (rdOf ByteArray.empty (perso (Int.tmod tick p) [] l) (mn level (((perso (Int.tmod tick p) [] l).length : Int) - 1)), 0))
  else ((⟨#[]⟩ : ByteArray), vrota p l)
theorem vrota_ok {p : Int} {l : List Shf} (h : vrota p l = 0) : 1 ≤ p ∧ p ≤ 1048576 ∧ l.length ≤ 200 ∧ firstErr p l = 0 ∧ allCov p l = true := by
  unfold vrota at h
  split at h
  · omega
  · split at h
    · omega
    · split at h
      · omega
      · split at h
        · rename_i hf
          split at h
          · rename_i hc
            exact ⟨by omega, by omega, by omega, hf, hc⟩
          · omega
        · exact absurd h ‹_›
theorem duty_ne {p : Int} {l : List Shf} (h : vrota p l = 0) (tick : Int) (ht : 0 ≤ tick) : 1 ≤ (perso (Int.tmod tick p) [] l).length ∧ (perso (Int.tmod tick p) [] l).length ≤ 200 := by
  obtain ⟨h1, h2, h3, h4, h5⟩ := vrota_ok h
  have hb := tmod_bd tick p ht (by omega)
  have hn := perso_ne _ l (covers_all h4 h5 _ hb.1 hb.2) []
  have hl := perso_len (Int.tmod tick p) l []
  refine ⟨?_, by simp at hl; omega⟩
  rcases Nat.eq_zero_or_pos (perso (Int.tmod tick p) [] l).length with h | h
  · exact absurd (List.length_eq_zero_iff.1 h) hn
  · exact h
theorem mn_bd (level : Int) (n : Nat) (h0 : 0 ≤ level) (hn : 1 ≤ n) : 0 ≤ mn level ((n : Int) - 1) ∧ mn level ((n : Int) - 1) < (n : Int) := by
  unfold mn
  split <;> omega
theorem refDuty (p : Int) (l : List S50) (tick level : Int) : Ev (fun k => intervalmonref29_OnDuty.f k p l tick level) (dutyV p (l.map of50) tick level) := by
  unfold intervalmonref29_OnDuty.f
  refine Ev.bind (refRota p l) ?_
  unfold dutyV
  by_cases hv : vrota p (l.map of50) = 0
  · obtain ⟨h1, h2, h3, h4, h5⟩ := vrota_ok hv
    rw [List.length_map] at h3
    simp only [if_pos hv]
    have j0 : Ev (fun k => intervalmonref29_OnDuty.j0 k p l tick level (decide (tick < 0 ∨ tick > 1048576))) (if tick < 0 ∨ tick > 1048576 then ((⟨#[]⟩ : ByteArray), 5) else if level < 0 then ((⟨#[]⟩ : ByteArray), 1) else (rdOf ByteArray.empty (perso (Int.tmod tick p) [] (l.map of50)) (mn level (((perso (Int.tmod tick p) [] (l.map of50)).length : Int) - 1)), 0)) := by
      refine Ev.up ?_
      simp only [intervalmonref29_OnDuty.j0]
      by_cases ht : tick < 0 ∨ tick > 1048576
      · simp only [decide_eq_true ht, if_true, if_pos ht]; exact Ev.some _
      · simp only [decide_eq_false ht, Bool.false_eq_true, if_false, if_neg ht]
        by_cases hlv : level < 0
        · simp only [if_pos hlv]; exact Ev.some _
        · simp only [if_neg hlv]
          refine Ev.bind (persons_ev p tick h1 l (by omega)) ?_
          have hne := duty_ne hv tick (by omega)
          have hm := mn_bd level _ (by omega) hne.1
          rw [w64 _ (by omega) (by omega)]
          simp only [if_pos hm.1, if_pos hm.2]
          exact Ev.some _
    by_cases h0 : tick < 0
    · simp only [if_pos h0]
      rw [decide_eq_true (Or.inl h0)] at j0
      exact j0
    · simp only [if_neg h0]
      rw [show decide (tick > 1048576) = decide (tick < 0 ∨ tick > 1048576) by simp [h0]]
      exact j0
  · simp only [if_neg hv]; exact Ev.some _
theorem routeDuty_l0 (p tick level : Int) (hlv : 0 ≤ level) (l : List S60) (hv : vrota p (l.map of60) = 0) (ht : 0 ≤ tick) (d : Nat) : ∀ (i : Nat) (out : List ByteArray), i + d = l.length → out.length ≤ i →
    perso (Int.tmod tick p) out ((l.drop i).map of60) = perso (Int.tmod tick p) [] (l.map of60) →
    Ev (fun k => route_OnDuty.l0 k p tick level out l (l.length : Int) (i : Int)) (rdOf ByteArray.empty (perso (Int.tmod tick p) [] (l.map of60)) (mn level (((perso (Int.tmod tick p) [] (l.map of60)).length : Int) - 1)), 0) := by
  obtain ⟨h1, h2, h3, h4, h5⟩ := vrota_ok hv
  rw [List.length_map] at h3
  induction d with
  | zero =>
    intro i out hi ho he
    refine Ev.up ?_
    simp only [route_OnDuty.l0]
    simp only [show ¬ ((i : Int) < (l.length : Int)) by omega, if_false]
    rw [List.drop_of_length_le (by omega)] at he
    have he' : out = perso (Int.tmod tick p) [] (l.map of60) := he
    rw [← he']
    have hne := duty_ne hv tick ht
    rw [← he'] at hne
    have hm := mn_bd level _ (by omega) hne.1
    rw [w64 _ (by omega) (by omega)]
    simp only [if_pos hm.1, if_pos hm.2]
    exact Ev.some _
  | succ d ih =>
    intro i out hi ho he
    have hlt : i < l.length := by omega
    refine Ev.up ?_
    simp only [route_OnDuty.l0]
    simp only [show ((i : Int) < (l.length : Int)) by omega, if_true, Int.natCast_nonneg, rd60 l i hlt, if_neg (show ¬ p = 0 by omega), route_Shift_covers.f, w64s i (by omega), show out.length < 8796093022208 by omega]
    rw [List.drop_eq_getElem_cons hlt, List.map_cons, perso] at he
    have hk : (of60 l[i]).name = l[i].f0 ∧ (of60 l[i]).fr = l[i].f1 ∧ (of60 l[i]).un = l[i].f2 := ⟨rfl, rfl, rfl⟩
    rw [hk.1, hk.2.1, hk.2.2] at he
    by_cases c1 : l[i].f1 ≤ Int.tmod tick p
    · by_cases c2 : Int.tmod tick p < l[i].f2
      · simp only [if_pos c1, decide_eq_true c2, Option.bind_some, if_true]
        refine Ev.bind (contains_ev out (by omega) _) ?_
        cases hkn : known out l[i].f0 with
        | true =>
          simp only [if_true]
          rw [hkn] at he
          exact ih (i + 1) out (by omega) (by omega) (by simpa using he)
        | false =>
          simp only [Bool.false_eq_true, if_false]
          rw [hkn] at he
          exact ih (i + 1) _ (by omega) (by simp; omega) (by simpa [c1, c2] using he)
      · simp only [if_pos c1, decide_eq_false c2, Option.bind_some, Bool.false_eq_true, if_false]
        exact ih (i + 1) out (by omega) (by omega) (by simpa [c2] using he)
    · simp only [if_neg c1, Option.bind_some, Bool.false_eq_true, if_false]
      exact ih (i + 1) out (by omega) (by omega) (by simpa [c1] using he)
theorem routeDuty (p : Int) (l : List S60) (tick level : Int) : Ev (fun k => route_OnDuty.f k p l tick level) (dutyV p (l.map of60) tick level) := by
  unfold route_OnDuty.f
  refine Ev.bind (routeRota p l) ?_
  unfold dutyV
  by_cases hv : vrota p (l.map of60) = 0
  · simp only [if_pos hv]
    have j0 : Ev (fun k => route_OnDuty.j0 k p l tick level (decide (tick < 0 ∨ tick > 1048576))) (if tick < 0 ∨ tick > 1048576 then ((⟨#[]⟩ : ByteArray), 5) else if level < 0 then ((⟨#[]⟩ : ByteArray), 1) else (rdOf ByteArray.empty (perso (Int.tmod tick p) [] (l.map of60)) (mn level (((perso (Int.tmod tick p) [] (l.map of60)).length : Int) - 1)), 0)) := by
      refine Ev.up ?_
      simp only [route_OnDuty.j0]
      by_cases ht : tick < 0 ∨ tick > 1048576
      · simp only [decide_eq_true ht, if_true, if_pos ht]; exact Ev.some _
      · simp only [decide_eq_false ht, Bool.false_eq_true, if_false, if_neg ht]
        by_cases hlv : level < 0
        · simp only [if_pos hlv]; exact Ev.some _
        · simp only [if_neg hlv]
          exact routeDuty_l0 p tick level (by omega) l hv (by omega) l.length 0 [] (by omega) (by simp) rfl
    by_cases h0 : tick < 0
    · simp only [if_pos h0]
      rw [decide_eq_true (Or.inl h0)] at j0
      exact j0
    · simp only [if_neg h0]
      rw [show decide (tick > 1048576) = decide (tick < 0 ∨ tick > 1048576) by simp [h0]]
      exact j0
  · simp only [if_neg hv]; exact Ev.some _
theorem duty_same (p : Int) (l : List S50) (tick level : Int) : Ev (fun k => route_OnDuty.f k p (l.map to60) tick level) (dutyV p (l.map of50) tick level) := by
  have := routeDuty p (l.map to60) tick level
  rw [map60] at this
  exact this
end Go.Proofs.Ytcamljlhdejmmaa.Pure
