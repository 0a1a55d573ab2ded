/- Rotas: ValidRota of the package and of the reference come to the same number (vrota). -/
import Derived.Test.YtcamljlhdejmmaaMB
import Derived.Test.YtcamljlhdejmmaaPx9
import Derived.Test.YtcamljlhdejmmaaPx19
import Derived.Test.YtcamljlhdejmmaaPx21
namespace Go.Proofs.Ytcamljlhdejmmaa.Pure
open Go.RowKit Go.Proofs.Ytcamljlhdejmmaa.P Go.Proofs.YtcamljlhdejmmaaW.PrintWords Go.Proofs.YtcamljlhdejmmaaW.PrintLast Go.Proofs.YtcamljlhdejmmaaW.PrintMore
set_option linter.unusedVariables false
set_option linter.unusedSimpArgs false

/-! ### names -/
theorem letter_eq (c : Int) : intervalmonref05_letter.f c = some (decide (97 ≤ c) && decide (c ≤ 122)) := by
  unfold intervalmonref05_letter.f
  by_cases h : 97 ≤ c
  · rw [if_pos (by omega), decide_eq_true h]; rfl
  · rw [if_neg (by omega), decide_eq_false h]; rfl
theorem refName_loop (s : ByteArray) (hs : s.size < 4611686018427387904) (d : Nat) : ∀ i : Nat, i + d = s.size → nameTo s i = true → Ev (fun k => intervalmonref05_Name.l0 k s (i : Int)) (nameTo s s.size) := by
  induction d with
  | zero =>
    intro i hi hn
    refine Ev.up ?_
    simp only [intervalmonref05_Name.l0]
    rw [show s.size = i by omega, hn]
    simp only [show ¬ ((i : Int) < (i : Int)) by omega, if_false]
    exact Ev.some _
  | succ d ih =>
    intro i hi hn
    refine Ev.up ?_
    simp only [intervalmonref05_Name.l0]
    have hsucc := nameTo_succ s i
    rw [hn, Bool.true_and] at hsucc
    have hlt : (i : Int) < (s.size : Int) := by omega
    simp only [if_pos hlt, if_pos (Int.natCast_nonneg i), letter_eq, Option.bind_some, w64s i (by omega)]
    generalize bt s (i : Int) = c at *
    have go := fun h : nameByte c ((i : Int) == 0) = true => ih (i + 1) (by omega) (by rw [hsucc, h])
    have stop := fun h : nameByte c ((i : Int) == 0) = false => nameTo_false s (i + 1) s.size (by rw [hsucc, h]) (by omega)
    by_cases hL : 97 ≤ c ∧ c ≤ 122
    · have hb : (decide (97 ≤ c) && decide (c ≤ 122)) = true := by simp [hL]
      have hg := go (by simp [nameByte, hL])
      simp only [hb, if_true, ite_self]
      exact hg
    · have hb : (decide (97 ≤ c) && decide (c ≤ 122)) = false := by
        rw [Bool.and_eq_false_iff, decide_eq_false_iff_not, decide_eq_false_iff_not]; omega
      by_cases h0 : (i : Int) = 0
      · have hst := stop (by unfold nameByte; rw [hb, beq_iff_eq.2 h0]; rfl)
        simp only [hb, Bool.false_eq_true, if_false, if_pos h0, hst, ite_self]
        exact Ev.some _
      · have h0b : ((i : Int) == 0) = false := beq_eq_false_iff_ne.2 h0
        by_cases hD : 48 ≤ c ∧ c ≤ 57
        · have hg := go (by unfold nameByte; rw [hb, h0b, decide_eq_true hD.1, decide_eq_true hD.2]; rfl)
          simp only [hb, Bool.false_eq_true, if_false, if_neg h0, if_pos (show c ≥ 48 from hD.1), if_pos hD.2]
          exact hg
        · have hDb : (decide (48 ≤ c) && decide (c ≤ 57)) = false := by
            rw [Bool.and_eq_false_iff, decide_eq_false_iff_not, decide_eq_false_iff_not]; omega
          by_cases h95 : c = 95
          · have hg := go (by unfold nameByte; rw [hb, h0b, hDb, beq_iff_eq.2 h95]; rfl)
            simp only [hb, Bool.false_eq_true, if_false, if_neg h0, if_pos h95, show c ≥ 48 by omega, show ¬ c ≤ 57 by omega, if_true]
            exact hg
          · have hst := stop (by unfold nameByte; rw [hb, h0b, hDb, beq_eq_false_iff_ne.2 h95]; rfl)
            by_cases h48 : c ≥ 48
            · simp only [hb, Bool.false_eq_true, if_false, if_neg h0, if_neg h95, if_pos h48, show ¬ c ≤ 57 by omega, hst]
              exact Ev.some _
            · simp only [hb, Bool.false_eq_true, if_false, if_neg h0, if_neg h95, if_neg h48, hst]
              exact Ev.some _
theorem refName (s : ByteArray) : Ev (fun k => intervalmonref05_Name.f k s) (nameB s) := by
  unfold intervalmonref05_Name.f nameB
  by_cases h : s.size < 1
  · simp only [if_pos (show (s.size : Int) < 1 by omega), show ¬ 1 ≤ s.size by omega, decide_false, Bool.false_and]
    refine Ev.up ?_
    simp only [intervalmonref05_Name.j0]
    simp only [if_true]
    exact Ev.some _
  · simp only [if_neg (show ¬ (s.size : Int) < 1 by omega), show 1 ≤ s.size by omega, decide_true, Bool.true_and]
    refine Ev.up ?_
    simp only [intervalmonref05_Name.j0]
    by_cases h2 : 16 < s.size
    · simp only [decide_eq_true (show (s.size : Int) > 16 by omega), if_true, show ¬ s.size ≤ 16 by omega, decide_false, Bool.false_and]
      exact Ev.some _
    · simp only [decide_eq_false (show ¬ (s.size : Int) > 16 by omega), Bool.false_eq_true, if_false, show s.size ≤ 16 by omega, decide_true, Bool.true_and]
      exact refName_loop s (by omega) s.size 0 (by omega) rfl

/-! ### what ValidRota tells -/
structure Shf where
  name : ByteArray
  fr : Int
  un : Int
def covB (l : List Shf) (t : Int) : Bool := l.any fun s => decide (s.fr ≤ t) && decide (t < s.un)
def errOf (p : Int) (s : Shf) : Int := if nameB s.name = true then (if s.fr < 0 then 5 else if s.un ≤ s.fr then 5 else if s.un > p then 5 else 0) else 8
def firstErr (p : Int) : List Shf → Int
  | [] => 0
  | s :: r => if errOf p s = 0 then firstErr p r else errOf p s
def allCov (p : Int) (l : List Shf) : Bool := covB l 0 && l.all fun s => !(decide (s.un < p)) || covB l s.un
def vrota (p : Int) (l : List Shf) : Int :=
  if p < 1 then 5 else if p > 1048576 then 5 else if l.length > 200 then 4 else if firstErr p l = 0 then (if allCov p l = true then 0 else 9) else firstErr p l
def of60 (s : S60) : Shf := ⟨s.f0, s.f1, s.f2⟩
def of50 (s : S50) : Shf := ⟨s.f0, s.f1, s.f2⟩
def to60 (s : S50) : S60 := ⟨s.f0, s.f1, s.f2⟩
theorem rd60 (l : List S60) (i : Nat) (h : i < l.length) : rd_T60 l (i : Int) = l[i] := by simp [rd_T60, List.getD_eq_getElem?_getD, h]
theorem rd50 (l : List S50) (i : Nat) (h : i < l.length) : rd_T50 l (i : Int) = l[i] := by simp [rd_T50, List.getD_eq_getElem?_getD, h]

theorem shifts_loop (l : List S50) (hl : l.length < 4398046511104) (d : Nat) : ∀ i : Nat, i + d = l.length → Ev (fun k => intervalmonlaw29_shifts.l0 k l ((l.take i).map to60) (i : Int)) (l.map to60) := by
  induction d with
  | zero =>
    intro i hi
    refine Ev.up ?_
    simp only [intervalmonlaw29_shifts.l0]
    simp only [show ¬ ((i : Int) < (l.length : Int)) by omega, if_false]
    rw [List.take_of_length_le (by omega)]
    exact Ev.some _
  | succ d ih =>
    intro i hi
    refine Ev.up ?_
    simp only [intervalmonlaw29_shifts.l0]
    have hlt : i < l.length := by omega
    simp only [show ((i : Int) < (l.length : Int)) by omega, if_true, Int.natCast_nonneg, List.length_map, List.length_take, show min i l.length < 4398046511104 by omega, w64s i (by omega), rd50 l i hlt]
    have := ih (i + 1) (by omega)
    rw [List.take_succ_eq_append_getElem hlt, List.map_append] at this
    exact this
theorem shifts_ev (l : List S50) (hl : l.length < 4398046511104) : Ev (fun k => intervalmonlaw29_shifts.f k l) (l.map to60) := by
  have := shifts_loop l hl l.length 0 (by omega)
  exact this

theorem covered_loop (l : List S50) (t : Int) (hl : l.length < 4398046511104) (d : Nat) : ∀ i : Nat, i + d = l.length → Ev (fun k => intervalmonref29_covered.l0 k l t (i : Int)) (covB ((l.drop i).map of50) t) := by
  induction d with
  | zero =>
    intro i hi
    refine Ev.up ?_
    simp only [intervalmonref29_covered.l0]
    simp only [show ¬ ((i : Int) < (l.length : Int)) by omega, if_false]
    rw [List.drop_of_length_le (by omega)]
    exact Ev.some _
  | succ d ih =>
    intro i hi
    refine Ev.up ?_
    simp only [intervalmonref29_covered.l0]
    have hlt : i < l.length := by omega
    simp only [show ((i : Int) < (l.length : Int)) by omega, if_true, Int.natCast_nonneg, w64s i (by omega), rd50 l i hlt]
    rw [List.drop_eq_getElem_cons hlt, List.map_cons]
    have hc : covB (of50 l[i] :: (l.drop (i + 1)).map of50) t = ((decide (l[i].f1 ≤ t) && decide (t < l[i].f2)) || covB ((l.drop (i + 1)).map of50) t) := by simp [covB, of50]
    rw [hc]
    by_cases h1 : l[i].f1 ≤ t
    · by_cases h2 : t < l[i].f2
      · simp only [if_pos h1, if_pos h2, decide_eq_true h1, decide_eq_true h2, Bool.and_self, Bool.true_or]
        exact Ev.some _
      · simp only [if_pos h1, if_neg h2, decide_eq_true h1, decide_eq_false h2, Bool.and_false, Bool.false_or]
        exact ih (i + 1) (by omega)
    · simp only [if_neg h1, decide_eq_false h1, Bool.false_and, Bool.false_or]
      exact ih (i + 1) (by omega)
theorem covered_ev (l : List S50) (t : Int) (hl : l.length < 4398046511104) : Ev (fun k => intervalmonref29_covered.f k l t) (covB (l.map of50) t) := covered_loop l t hl l.length 0 (by omega)

/-! ### the reference -/
theorem refRota_l1 (p : Int) (l : List S50) (hl : l.length < 4398046511104) (d : Nat) : ∀ i : Nat, i + d = l.length →
    Ev (fun k => intervalmonref29_ValidRota.l1 k p l (i : Int)) (if (((l.drop i).map of50).all fun s => !(decide (s.un < p)) || covB (l.map of50) s.un) = true then 0 else 9) := by
  induction d with
  | zero =>
    intro i hi
    refine Ev.up ?_
    simp only [intervalmonref29_ValidRota.l1]
    simp only [show ¬ ((i : Int) < (l.length : Int)) by omega, if_false]
    rw [List.drop_of_length_le (by omega)]
    exact Ev.some _
  | succ d ih =>
    intro i hi
    refine Ev.up ?_
    simp only [intervalmonref29_ValidRota.l1]
    have hlt : i < l.length := by omega
    simp only [show ((i : Int) < (l.length : Int)) by omega, if_true, Int.natCast_nonneg, w64s i (by omega), rd50 l i hlt]
    rw [List.drop_eq_getElem_cons hlt, List.map_cons, List.all_cons]
    have hr := ih (i + 1) (by omega)
    by_cases h1 : l[i].f2 < p
    · have e1 : (!decide ((of50 l[i]).un < p) || covB (l.map of50) (of50 l[i]).un) = covB (l.map of50) l[i].f2 := by
        show (!decide (l[i].f2 < p) || covB (l.map of50) l[i].f2) = _
        rw [decide_eq_true h1]; rfl
      rw [e1]
      simp only [if_pos h1]
      refine Ev.bind (covered_ev l _ hl) ?_
      by_cases hc : covB (l.map of50) l[i].f2 = true
      · simp only [if_pos hc]
        rw [hc, Bool.true_and]
        exact hr
      · simp only [if_neg hc]
        rw [(Bool.not_eq_true _).mp hc, Bool.false_and]
        exact Ev.some _
    · have e1 : (!decide ((of50 l[i]).un < p) || covB (l.map of50) (of50 l[i]).un) = true := by
        show (!decide (l[i].f2 < p) || covB (l.map of50) l[i].f2) = _
        rw [decide_eq_false h1]; rfl
      rw [e1, Bool.true_and]
      simp only [if_neg h1]
      exact hr
theorem refRota_l0 (p : Int) (l : List S50) (hl : l.length < 4398046511104) (d : Nat) : ∀ i : Nat, i + d = l.length →
    Ev (fun k => intervalmonref29_ValidRota.l0 k p l (i : Int)) (if firstErr p ((l.drop i).map of50) = 0 then (if allCov p (l.map of50) = true then 0 else 9) else firstErr p ((l.drop i).map of50)) := by
  induction d with
  | zero =>
    intro i hi
    refine Ev.up ?_
    simp only [intervalmonref29_ValidRota.l0]
    simp only [show ¬ ((i : Int) < (l.length : Int)) by omega, if_false]
    rw [List.drop_of_length_le (by omega)]
    simp only [List.map_nil, firstErr, if_true]
    refine Ev.bind (covered_ev l _ hl) ?_
    unfold allCov
    cases hc : covB (l.map of50) 0 with
    | true =>
      simp only [if_true, Bool.true_and]
      have := refRota_l1 p l hl l.length 0 (by omega)
      rw [List.drop_zero] at this
      exact this
    | false =>
      simp only [Bool.false_eq_true, if_false, Bool.false_and]
      exact Ev.some _
  | succ d ih =>
    intro i hi
    refine Ev.up ?_
    simp only [intervalmonref29_ValidRota.l0]
    have hlt : i < l.length := by omega
    simp only [show ((i : Int) < (l.length : Int)) by omega, if_true, Int.natCast_nonneg, w64s i (by omega), rd50 l i hlt]
    rw [List.drop_eq_getElem_cons hlt, List.map_cons, firstErr]
    have hr := ih (i + 1) (by omega)
    refine Ev.bind (refName _) ?_
    have he : errOf p (of50 l[i]) = if nameB l[i].f0 = true then (if l[i].f1 < 0 then 5 else if l[i].f2 ≤ l[i].f1 then 5 else if l[i].f2 > p then 5 else 0) else 8 := rfl
    cases hn : nameB l[i].f0 with
    | true =>
      rw [hn] at he
      simp only [if_true] at he ⊢
      by_cases h1 : l[i].f1 < 0
      · simp only [if_pos h1] at he ⊢
        rw [he]; exact Ev.some _
      · simp only [if_neg h1] at he ⊢
        by_cases h2 : l[i].f2 ≤ l[i].f1
        · simp only [if_pos h2] at he ⊢
          rw [he]; exact Ev.some _
        · simp only [if_neg h2] at he ⊢
          by_cases h3 : l[i].f2 > p
          · simp only [if_pos h3] at he ⊢
            rw [he]; exact Ev.some _
          · simp only [if_neg h3] at he ⊢
            rw [he, if_pos rfl]
            exact hr
    | false =>
      rw [hn] at he
      simp only [Bool.false_eq_true, if_false] at he ⊢
      rw [he]; exact Ev.some _
theorem refRota (p : Int) (l : List S50) : Ev (fun k => intervalmonref29_ValidRota.f k p l) (vrota p (l.map of50)) := by
  unfold intervalmonref29_ValidRota.f vrota
  rw [List.length_map]
  by_cases h1 : p < 1
  · simp only [if_pos h1]
    refine Ev.up ?_
    simp only [intervalmonref29_ValidRota.j0]
    simp only [if_true]; exact Ev.some _
  · simp only [if_neg h1]
    refine Ev.up ?_
    simp only [intervalmonref29_ValidRota.j0]
    by_cases h2 : p > 1048576
    · simp only [decide_eq_true h2, if_true, if_pos h2]; exact Ev.some _
    · simp only [decide_eq_false h2, Bool.false_eq_true, if_false, if_neg h2]
      by_cases h3 : l.length > 200
      · simp only [if_pos h3, if_pos (show (l.length : Int) > 200 by omega)]; exact Ev.some _
      · simp only [if_neg h3, if_neg (show ¬ (l.length : Int) > 200 by omega)]
        exact refRota_l0 p l (by omega) l.length 0 (by omega)

/-! ### the package: shifts are followed as long as they cover the end that is reached -/
theorem covB_of {l : List Shf} {t : Int} (i : Nat) (h : i < l.length) (h1 : l[i].fr ≤ t) (h2 : t < l[i].un) : covB l t = true := by
  unfold covB
  rw [List.any_eq_true]
  exact ⟨l[i], List.getElem_mem h, by rw [decide_eq_true h1, decide_eq_true h2]; rfl⟩
/-- A point of the period that no shift covers and that allCov asks for. -/
theorem hole_of {p : Int} {l : List Shf} (hp : 1 ≤ p) (hv : firstErr p l = 0) (h : allCov p l = false) : ∃ x, 0 ≤ x ∧ x < p ∧ covB l x = false := by
  unfold allCov at h
  rw [Bool.and_eq_false_iff] at h
  rcases h with h | h
  · exact ⟨0, by omega, by omega, h⟩
  · rw [List.all_eq_false] at h
    obtain ⟨s, hs, h⟩ := h
    rw [Bool.not_eq_true, Bool.or_eq_false_iff, Bool.not_eq_false', decide_eq_true_eq] at h
    refine ⟨s.un, ?_, h.1, h.2⟩
    have : ∀ (l : List Shf), firstErr p l = 0 → ∀ s ∈ l, errOf p s = 0 := by
      intro l
      induction l with
      | nil => intro _ s hs; cases hs
      | cons a r ih =>
        intro hv s hs
        rw [firstErr] at hv
        by_cases e : errOf p a = 0
        · rw [if_pos e] at hv
          rcases List.mem_cons.1 hs with rfl | hs
          · exact e
          · exact ih hv s hs
        · rw [if_neg e] at hv
          exact absurd hv e
    have e := this l hv s hs
    unfold errOf at e
    split at e
    · split at e
      · omega
      · split at e
        · omega
        · omega
    · omega
/-- What is known of the end that has been reached. -/
def Reaches (p : Int) (l : List Shf) (e : Int) : Prop := (allCov p l = true → e < p → covB l e = true) ∧ (∀ x, 0 ≤ x → x < p → covB l x = false → e ≤ x)
theorem reaches_zero (p : Int) (l : List Shf) : Reaches p l 0 := by
  refine ⟨fun h _ => ?_, fun x h _ _ => h⟩
  unfold allCov at h
  rw [Bool.and_eq_true] at h
  exact h.1
theorem reaches_step {p : Int} {l : List Shf} {e : Int} (h : Reaches p l e) {s : Shf} (hs : s ∈ l) (h1 : s.fr ≤ e) (h2 : e < s.un) : Reaches p l s.un := by
  refine ⟨fun hc hlt => ?_, fun x h0 hx hf => ?_⟩
  · unfold allCov at hc
    rw [Bool.and_eq_true, List.all_eq_true] at hc
    have := hc.2 s hs
    rw [decide_eq_true hlt] at this
    simpa using this
  · rcases Int.lt_or_le x s.un with hlt | hle
    · have hex := h.2 x h0 hx hf
      have : covB l x = true := by
        unfold covB
        rw [List.any_eq_true]
        exact ⟨s, hs, by rw [decide_eq_true (show s.fr ≤ x by omega), decide_eq_true hlt]; rfl⟩
      rw [hf] at this
      cases this
    · exact hle
theorem route_l2 (p : Int) (l : List S60) (hl : l.length < 4398046511104) (e : Int) (r : Int) (hno : covB (l.map of60) e = false → r = 9)
    (hgo : ∀ s ∈ l, s.f1 ≤ e → e < s.f2 → Ev (fun k => route_ValidRota.l1 k p l s.f2) r) (d : Nat) : ∀ i : Nat, i + d = l.length → (∀ j (hj : j < l.length), j < i → ¬ (l[j].f1 ≤ e ∧ e < l[j].f2)) →
    Ev (fun k => route_ValidRota.l2 k p l e l (l.length : Int) (i : Int)) r := by
  induction d with
  | zero =>
    intro i hi hb
    refine Ev.up ?_
    simp only [route_ValidRota.l2]
    simp only [show ¬ ((i : Int) < (l.length : Int)) by omega, if_false]
    rw [hno ?_]
    · exact Ev.some _
    · unfold covB
      rw [List.any_eq_false]
      intro s hs
      obtain ⟨s0, hs0, rfl⟩ := List.mem_map.1 hs
      obtain ⟨j, hj, rfl⟩ := List.mem_iff_getElem.1 hs0
      have := hb j hj (by omega)
      intro hh
      rw [Bool.and_eq_true] at hh
      exact this ⟨of_decide_eq_true hh.1, of_decide_eq_true hh.2⟩
  | succ d ih =>
    intro i hi hb
    refine Ev.up ?_
    simp only [route_ValidRota.l2]
    have hlt : i < l.length := by omega
    simp only [show ((i : Int) < (l.length : Int)) by omega, if_true, Int.natCast_nonneg, w64s i (by omega), rd60 l i hlt]
    by_cases h1 : l[i].f1 ≤ e
    · by_cases h2 : e < l[i].f2
      · simp only [route_Shift_covers.f, if_pos h1, decide_eq_true h2, Option.bind_some, if_true]
        exact hgo _ (List.getElem_mem hlt) h1 h2
      · simp only [route_Shift_covers.f, if_pos h1, decide_eq_false h2, Option.bind_some, Bool.false_eq_true, if_false]
        refine ih (i + 1) (by omega) (fun j hj hji => ?_)
        rcases Nat.lt_or_ge j i with h | h
        · exact hb j hj h
        · obtain rfl : j = i := by omega
          exact fun h => h2 h.2
    · simp only [route_Shift_covers.f, if_neg h1, Option.bind_some, Bool.false_eq_true, if_false]
      refine ih (i + 1) (by omega) (fun j hj hji => ?_)
      rcases Nat.lt_or_ge j i with h | h
      · exact hb j hj h
      · obtain rfl : j = i := by omega
        exact fun h => h1 h.1
theorem route_l1 (p : Int) (hp : 1 ≤ p) (l : List S60) (hl : l.length < 4398046511104) (hv : firstErr p (l.map of60) = 0) (d : Nat) : ∀ e : Int, 0 ≤ e → (p - e).toNat ≤ d → Reaches p (l.map of60) e →
    Ev (fun k => route_ValidRota.l1 k p l e) (if allCov p (l.map of60) = true then 0 else 9) := by
  induction d with
  | zero =>
    intro e h0 hd hr
    refine Ev.up ?_
    simp only [route_ValidRota.l1]
    have hle : ¬ e < p := by omega
    simp only [if_neg hle]
    by_cases hc : allCov p (l.map of60) = true
    · rw [if_pos hc]; exact Ev.some _
    · exfalso
      obtain ⟨x, x0, xp, hx⟩ := hole_of hp hv ((Bool.not_eq_true _).mp hc)
      have := hr.2 x x0 xp hx
      omega
  | succ d ih =>
    intro e h0 hd hr
    refine Ev.up ?_
    simp only [route_ValidRota.l1]
    by_cases hle : e < p
    · simp only [if_pos hle]
      refine route_l2 p l hl e _ (fun hf => ?_) (fun s hs h1 h2 => ih s.f2 (by omega) (by omega) (reaches_step hr (List.mem_map.2 ⟨s, hs, rfl⟩) h1 h2)) l.length 0 (by omega) (fun j hj h => absurd h (by omega))
      by_cases hc : allCov p (l.map of60) = true
      · have := hr.1 hc hle
        rw [hf] at this
        cases this
      · rw [if_neg hc]
    · simp only [if_neg hle]
      by_cases hc : allCov p (l.map of60) = true
      · rw [if_pos hc]; exact Ev.some _
      · exfalso
        obtain ⟨x, x0, xp, hx⟩ := hole_of hp hv ((Bool.not_eq_true _).mp hc)
        have := hr.2 x x0 xp hx
        omega
theorem firstErr_drop (p : Int) (l : List Shf) (i : Nat) (h : ∀ j (hj : j < l.length), j < i → errOf p l[j] = 0) : firstErr p l = firstErr p (l.drop i) := by
  induction i with
  | zero => rfl
  | succ i ih =>
    rw [ih (fun j hj hji => h j hj (by omega))]
    by_cases hlt : i < l.length
    · rw [List.drop_eq_getElem_cons hlt, firstErr, if_pos (h i hlt (by omega))]
    · rw [List.drop_of_length_le (by omega), List.drop_of_length_le (by omega)]
theorem route_l0 (p : Int) (hp : 1 ≤ p) (l : List S60) (hl : l.length < 4398046511104) (d : Nat) : ∀ i : Nat, i + d = l.length → (firstErr p (l.map of60) = firstErr p ((l.drop i).map of60)) →
    Ev (fun k => route_ValidRota.l0 k p l l (l.length : Int) (i : Int)) (if firstErr p (l.map of60) = 0 then (if allCov p (l.map of60) = true then 0 else 9) else firstErr p (l.map of60)) := by
  induction d with
  | zero =>
    intro i hi hf
    refine Ev.up ?_
    simp only [route_ValidRota.l0]
    simp only [show ¬ ((i : Int) < (l.length : Int)) by omega, if_false]
    rw [List.drop_of_length_le (by omega)] at hf
    have h0 : firstErr p (l.map of60) = 0 := hf
    rw [if_pos h0]
    exact route_l1 p hp l hl h0 p.toNat 0 (by omega) (by omega) (reaches_zero _ _)
  | succ d ih =>
    intro i hi hf
    refine Ev.up ?_
    simp only [route_ValidRota.l0]
    have hlt : i < l.length := by omega
    simp only [show ((i : Int) < (l.length : Int)) by omega, if_true, Int.natCast_nonneg, w64s i (by omega), rd60 l i hlt, labels_Name.f, Option.bind_some]
    rw [List.drop_eq_getElem_cons hlt, List.map_cons, firstErr] at hf
    have he : errOf p (of60 l[i]) = if nameB l[i].f0 = true then (if l[i].f1 < 0 then 5 else if l[i].f2 ≤ l[i].f1 then 5 else if l[i].f2 > p then 5 else 0) else 8 := rfl
    have bad : ∀ v, errOf p (of60 l[i]) = v → v ≠ 0 → Ev (fun _ => some v) (if firstErr p (l.map of60) = 0 then (if allCov p (l.map of60) = true then (0 : Int) else 9) else firstErr p (l.map of60)) := by
      intro v hv h0
      rw [hv, if_neg h0] at hf
      rw [hf, if_neg h0]
      exact Ev.some _
    by_cases hn : nameB l[i].f0 = true
    · rw [if_pos hn] at he
      simp only [if_pos hn]
      by_cases h1 : l[i].f1 < 0
      · rw [if_pos h1] at he
        simp only [if_pos h1]
        exact bad 5 he (by decide)
      · rw [if_neg h1] at he
        simp only [if_neg h1]
        by_cases h2 : l[i].f2 ≤ l[i].f1
        · rw [if_pos h2] at he
          simp only [if_pos h2]
          exact bad 5 he (by decide)
        · rw [if_neg h2] at he
          simp only [if_neg h2]
          by_cases h3 : l[i].f2 > p
          · rw [if_pos h3] at he
            simp only [if_pos h3]
            exact bad 5 he (by decide)
          · rw [if_neg h3] at he
            simp only [if_neg h3]
            rw [he, if_pos rfl] at hf
            exact ih (i + 1) (by omega) hf
    · rw [if_neg hn] at he
      simp only [if_neg hn]
      exact bad 8 he (by decide)
theorem routeRota (p : Int) (l : List S60) : Ev (fun k => route_ValidRota.f k p l) (vrota p (l.map of60)) := by
  unfold route_ValidRota.f vrota
  rw [List.length_map]
  by_cases h1 : p < 1
  · simp only [if_pos h1]
    refine Ev.up ?_
    simp only [route_ValidRota.j0]
    simp only [if_true]; exact Ev.some _
  · simp only [if_neg h1]
    refine Ev.up ?_
    simp only [route_ValidRota.j0]
    by_cases h2 : p > 1048576
    · simp only [decide_eq_true h2, if_true, if_pos h2]; exact Ev.some _
    · simp only [decide_eq_false h2, Bool.false_eq_true, if_false, if_neg h2]
      by_cases h3 : l.length > 200
      · simp only [if_pos h3, if_pos (show (l.length : Int) > 200 by omega)]; exact Ev.some _
      · simp only [if_neg h3, if_neg (show ¬ (l.length : Int) > 200 by omega)]
        exact route_l0 p (by omega) l (by omega) l.length 0 (by omega) rfl
theorem map60 (l : List S50) : (l.map to60).map of60 = l.map of50 := by
  rw [List.map_map]; rfl
/-- Both tell the same of the same shifts. -/
theorem rota_same (p : Int) (l : List S50) : Ev (fun k => route_ValidRota.f k p (l.map to60)) (vrota p (l.map of50)) := by
  have := routeRota p (l.map to60)
  rw [map60] at this
  exact this
end Go.Proofs.Ytcamljlhdejmmaa.Pure
