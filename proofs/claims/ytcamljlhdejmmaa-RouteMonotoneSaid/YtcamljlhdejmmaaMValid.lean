/- Valid of the package and of the reference come to the same; so does Inhibited. -/
import Derived.Test.YtcamljlhdejmmaaMSorted
import Derived.Test.YtcamljlhdejmmaaHValid
import Derived.Test.YtcamljlhdejmmaaPx7
namespace Go.Proofs.Ytcamljlhdejmmaa.Pure
open Go.RowKit Go.Proofs.Ytcamljlhdejmmaa.P Go.Proofs.YtcamljlhdejmmaaW.PrintWords Go.Proofs.YtcamljlhdejmmaaW.PrintLast Go.Proofs.YtcamljlhdejmmaaW.PrintMore
set_option linter.unusedVariables false
set_option linter.unusedSimpArgs false

theorem badE_false {N : Int} {e : S27} : badE N e = false ↔ 0 ≤ e.f0 ∧ e.f0 < N ∧ 0 ≤ e.f1 ∧ e.f1 < N ∧ e.f0 ≠ e.f1 := by
  unfold badE
  simp only [Bool.or_eq_false_iff, decide_eq_false_iff_not, beq_eq_false_iff_ne]
  omega
theorem vrest_bad {N : Int} (l : List S27) : ∀ seen, vrest N seen l = 0 → ∀ e ∈ l, badE N e = false := by
  induction l with
  | nil => intro _ _ e he; cases he
  | cons a r ih =>
    intro seen h e he
    rw [vrest] at h
    cases hb : badE N a with
    | true => rw [hb, if_pos rfl] at h; omega
    | false =>
      rw [hb, if_neg (by simp)] at h
      split at h
      · omega
      · rcases List.mem_cons.1 he with rfl | he
        · exact hb
        · exact ih _ h e he
theorem vrest_inR {n : Nat} {l : List S27} (h : vrest (n : Int) [] l = 0) : InR n (ee l) := by
  intro e he
  unfold ee at he
  obtain ⟨x, hx, rfl⟩ := List.mem_map.1 he
  have := badE_false.1 (vrest_bad l [] h x hx)
  simp only
  omega
theorem vrest_good {N : Int} (l : List S27) : ∀ seen, (∀ e ∈ l, badE N e = false) → (∀ e ∈ l, seen.any (sameE e.f0 e.f1) = false) → l.Pairwise (fun a b => sameE b.f0 b.f1 a = false) → vrest N seen l = 0 := by
  induction l with
  | nil => intro _ _ _ _; rfl
  | cons a r ih =>
    intro seen h1 h2 h3
    rw [vrest, h1 a (by simp), if_neg (by simp), h2 a (by simp), if_neg (by simp)]
    rw [List.pairwise_cons] at h3
    refine ih _ (fun e he => h1 e (by simp [he])) (fun e he => ?_) h3.2
    rw [List.any_append, h2 e (by simp [he]), Bool.false_or]
    simp [h3.1 e he]

theorem refV_l1 (N : Int) (l : List S27) (hl : l.length < 4398046511104) (i : Nat) (hi : i < l.length) (r : Int)
    (h10 : (l.take i).any (sameE l[i].f0 l[i].f1) = true → r = 10) (hgo : (l.take i).any (sameE l[i].f0 l[i].f1) = false → Ev (fun k => intervalmonref29_Valid.l0 k ((i + 1 : Nat) : Int) N l) r) (d : Nat) :
    ∀ j : Nat, j + d = i → ((l.take i).drop j).any (sameE l[i].f0 l[i].f1) = (l.take i).any (sameE l[i].f0 l[i].f1) → Ev (fun k => intervalmonref29_Valid.l1 k (i : Int) (j : Int) N l) r := by
  induction d with
  | zero =>
    intro j hj ha
    refine Ev.up ?_
    simp only [intervalmonref29_Valid.l1]
    simp only [show ¬ ((j : Int) < (i : Int)) by omega, if_false, w64s i (by omega)]
    rw [List.drop_of_length_le (by rw [List.length_take]; omega)] at ha
    exact hgo ha.symm
  | succ d ih =>
    intro j hj ha
    have hlt : j < l.length := by omega
    have hd : (l.take i).drop j = l[j] :: (l.take i).drop (j + 1) := by
      rw [List.drop_eq_getElem_cons (by rw [List.length_take]; omega)]
      simp
    rw [hd, List.any_cons] at ha
    refine Ev.up ?_
    simp only [intervalmonref29_Valid.l1]
    simp only [show ((j : Int) < (i : Int)) by omega, if_true, Int.natCast_nonneg, show ((j : Int) < (l.length : Int)) by omega, show ((i : Int) < (l.length : Int)) by omega, rdE l j hlt, rdE l i hi, w64s j (by omega)]
    cases hs : sameE l[i].f0 l[i].f1 l[j] with
    | true =>
      rw [hs, Bool.true_or] at ha
      have hs' : (l[j].f0 == l[i].f0 && (l[j].f1 == l[i].f1)) = true := hs
      simp only [hs', if_true]
      rw [h10 ha.symm]
      exact Ev.some _
    | false =>
      rw [hs, Bool.false_or] at ha
      have hs' : (l[j].f0 == l[i].f0 && (l[j].f1 == l[i].f1)) = false := hs
      simp only [hs', Bool.false_eq_true, if_false]
      exact ih (j + 1) (by omega) ha
theorem refV_l0 (N : Int) (l : List S27) (hl : l.length < 4398046511104) (r : Int) (hbad : vrest N [] l ≠ 0 → r = vrest N [] l) (hgo : vrest N [] l = 0 → Ev (fun k => intervalmonref29_Valid.l2 k 0 N l) r) (d : Nat) :
    ∀ i : Nat, i + d = l.length → vrest N (l.take i) (l.drop i) = vrest N [] l → Ev (fun k => intervalmonref29_Valid.l0 k (i : Int) N l) r := by
  induction d with
  | zero =>
    intro i hi hv
    refine Ev.up ?_
    simp only [intervalmonref29_Valid.l0]
    simp only [show ¬ ((i : Int) < (l.length : Int)) by omega, if_false]
    rw [List.drop_of_length_le (by omega)] at hv
    exact hgo hv.symm
  | succ d ih =>
    intro i hi hv
    have hlt : i < l.length := by omega
    rw [vrest_cons N l i hlt] at hv
    refine Ev.up ?_
    simp only [intervalmonref29_Valid.l0]
    simp only [show ((i : Int) < (l.length : Int)) by omega, if_true, Int.natCast_nonneg, rdE l i hlt]
    have j2 : ∀ b, b = badE N l[i] → Ev (fun k => intervalmonref29_Valid.j2 k (i : Int) b N l) r := by
      rintro b hb
      refine Ev.up ?_
      simp only [intervalmonref29_Valid.j2]
      rw [← hb] at hv
      cases b with
      | true =>
        rw [if_pos rfl] at hv
        simp only [if_true]
        rw [hbad (by omega), ← hv]
        exact Ev.some _
      | false =>
        rw [if_neg (by simp)] at hv
        simp only [Bool.false_eq_true, if_false]
        refine refV_l1 N l hl i hlt r (fun h => ?_) (fun h => ?_) i 0 (by omega) (by rw [List.drop_zero])
        · rw [if_pos h] at hv
          rw [hbad (by omega), ← hv]
        · rw [if_neg (by rw [h]; simp)] at hv
          exact ih (i + 1) (by omega) hv
    by_cases c1 : l[i].f0 < 0
    · simp only [if_pos c1]; exact j2 true (by unfold badE; rw [decide_eq_true c1]; simp)
    · simp only [if_neg c1]
      by_cases c2 : l[i].f0 ≥ N
      · simp only [if_pos c2]; exact j2 true (by unfold badE; rw [decide_eq_true (show N ≤ l[i].f0 from c2)]; simp)
      · simp only [if_neg c2]
        by_cases c3 : l[i].f1 < 0
        · simp only [if_pos c3]; exact j2 true (by unfold badE; rw [decide_eq_true c3]; simp)
        · simp only [if_neg c3]
          by_cases c4 : l[i].f1 ≥ N
          · simp only [if_pos c4]; exact j2 true (by unfold badE; rw [decide_eq_true (show N ≤ l[i].f1 from c4)]; simp)
          · simp only [if_neg c4]
            exact j2 _ (by unfold badE; rw [decide_eq_false c1, decide_eq_false c3, decide_eq_false (show ¬ N ≤ l[i].f0 from c2), decide_eq_false (show ¬ N ≤ l[i].f1 from c4)]; simp)
theorem refV_l2 (n : Nat) (hn : n ≤ 200) (l : List S27) (hr : InR n (ee l)) (hl : l.length < 4398046511104) (r : Int) (h13 : (∃ v : Int, 0 ≤ v ∧ v < n ∧ Path (ee l) v v) → r = 13) (h0 : ¬ (∃ v : Int, 0 ≤ v ∧ v < n ∧ Path (ee l) v v) → r = 0) (d : Nat) :
    ∀ i : Nat, i + d = n → (∀ v : Int, 0 ≤ v → v < (i : Int) → ¬ Path (ee l) v v) → Ev (fun k => intervalmonref29_Valid.l2 k (i : Int) (n : Int) l) r := by
  induction d with
  | zero =>
    intro i hi hv
    refine Ev.up ?_
    simp only [intervalmonref29_Valid.l2]
    simp only [show ¬ ((i : Int) < (n : Int)) by omega, if_false]
    rw [h0 (by rintro ⟨v, h1, h2, h3⟩; exact hv v h1 (by omega) h3)]
    exact Ev.some _
  | succ d ih =>
    intro i hi hv
    refine Ev.up ?_
    simp only [intervalmonref29_Valid.l2]
    simp only [show ((i : Int) < (n : Int)) by omega, if_true]
    obtain ⟨R, hR, he⟩ := reached_ev n (by omega) l hr hl (i : Int)
    refine Ev.bind he ?_
    have hRi := hR (i : Int) (by omega) (by omega)
    simp only [Int.natCast_nonneg, if_true, mk_len, show ((i : Int) < (n : Int)) by omega, mk_rdOf n R false (i : Int) (by omega) (by omega), w64s i (by omega)]
    by_cases h : R (i : Int) = true
    · simp only [if_pos h]
      rw [h13 ⟨(i : Int), by omega, by omega, hRi.1 h⟩]
      exact Ev.some _
    · simp only [if_neg h]
      refine ih (i + 1) (by omega) (fun v h1 h2 hp => ?_)
      by_cases hvi : v = (i : Int)
      · subst hvi; exact h (hRi.2 hp)
      · exact hv v h1 (by omega) hp
/-- What a valid graph is. -/
def Good (N : Int) (l : List S27) : Prop := 0 ≤ N ∧ N ≤ 200 ∧ vrest N [] l = 0 ∧ ∀ v : Int, 0 ≤ v → v < N → ¬ Path (ee l) v v
theorem valid_both (N : Int) (l : List S27) (hl : l.length < 4398046511104) :
    ∃ r, Ev (fun k => route_Valid.f k N l) r ∧ Ev (fun k => intervalmonref29_Valid.f k N l) r ∧ (r = 0 ↔ Good N l) := by
  by_cases h1 : N < 0
  · refine ⟨4, ?_, ?_, ⟨fun h => absurd h (by decide), fun h => absurd h.1 (by omega)⟩⟩
    · unfold route_Valid.f
      simp only [if_pos h1]; exact Ev.some _
    · unfold intervalmonref29_Valid.f
      simp only [if_pos h1]
      refine Ev.up ?_
      simp only [intervalmonref29_Valid.j0]
      simp only [if_true]; exact Ev.some _
  · by_cases h2 : 200 < N
    · refine ⟨4, ?_, ?_, ⟨fun h => absurd h (by decide), fun h => absurd h.2.1 (by omega)⟩⟩
      · unfold route_Valid.f
        simp only [if_neg h1, if_pos h2]; exact Ev.some _
      · unfold intervalmonref29_Valid.f
        simp only [if_neg h1, decide_eq_true (show N > 200 from h2)]
        refine Ev.up ?_
        simp only [intervalmonref29_Valid.j0]
        simp only [if_true]; exact Ev.some _
    · obtain ⟨n, rfl⟩ : ∃ n : Nat, N = (n : Int) := ⟨N.toNat, by omega⟩
      have ref : ∀ r, (vrest (n : Int) [] l ≠ 0 → r = vrest (n : Int) [] l) → (vrest (n : Int) [] l = 0 → Ev (fun k => intervalmonref29_Valid.l2 k 0 (n : Int) l) r) → Ev (fun k => intervalmonref29_Valid.f k (n : Int) l) r := by
        intro r h3 h4
        unfold intervalmonref29_Valid.f
        simp only [if_neg h1, decide_eq_false (show ¬ (n : Int) > 200 from h2)]
        refine Ev.up ?_
        simp only [intervalmonref29_Valid.j0]
        simp only [Bool.false_eq_true, if_false]
        exact refV_l0 (n : Int) l hl r h3 h4 l.length 0 (by omega) rfl
      by_cases h3 : vrest (n : Int) [] l = 0
      · have hr := vrest_inR h3
        obtain ⟨out, T, he⟩ := sorted_ev n (by omega) l hr hl
        have hsh := T.short hr
        refine ⟨if (out.length : Int) < (n : Int) then 13 else 0, ?_, ref _ (fun h => absurd h3 h) (fun _ => ?_), ?_⟩
        · unfold route_Valid.f
          simp only [if_neg h1, if_neg h2, if_pos h3]
          exact Ev.bind he (Ev.some _)
        · refine refV_l2 n (by omega) l hr hl _ (fun h => ?_) (fun h => ?_) n 0 (by omega) (fun v h0 h1 => by omega)
          · rw [if_pos (by have := hsh.2 h; omega)]
          · rw [if_neg (fun h4 => h (hsh.1 (by omega)))]
        · constructor
          · intro h
            refine ⟨by omega, by omega, h3, fun v h4 h5 h6 => ?_⟩
            have := hsh.2 ⟨v, h4, h5, h6⟩
            rw [if_pos (by omega)] at h
            omega
          · rintro ⟨-, -, -, h⟩
            rw [if_neg]
            intro h4
            obtain ⟨v, h5, h6, h7⟩ := hsh.1 (by omega)
            exact h v h5 h6 h7
      · refine ⟨vrest (n : Int) [] l, ?_, ref _ (fun _ => rfl) (fun h => absurd h h3), ⟨fun h => absurd h h3, fun h => absurd h.2.2.1 h3⟩⟩
        unfold route_Valid.f
        simp only [if_neg h1, if_neg h2, if_neg h3]
        exact Ev.some _
end Go.Proofs.Ytcamljlhdejmmaa.Pure
