/- The generators of graphs and of firing nodes: what they make. -/
import Derived.Test.YtcamljlhdejmmaaMValid
import Derived.Test.YtcamljlhdejmmaaPx3
import Derived.Test.YtcamljlhdejmmaaPx13
namespace Go.Proofs.Ytcamljlhdejmmaa.Pure
open Go.RowKit Go.Proofs.Ytcamljlhdejmmaa.P Go.Proofs.YtcamljlhdejmmaaW.PrintWords Go.Proofs.YtcamljlhdejmmaaW.PrintLast Go.Proofs.YtcamljlhdejmmaaW.PrintMore
set_option linter.unusedVariables false
set_option linter.unusedSimpArgs false

def rk (n τ v : Int) : Int := (v - τ) % n
theorem rk_turn (n τ a : Int) (hn : 0 < n) (h0 : 0 ≤ a) (h1 : a < n) (hτ : 0 ≤ τ) : rk n τ (Int.tmod (a + τ) n) = a := by
  unfold rk
  rw [Int.tmod_eq_emod_of_nonneg (by omega), Int.emod_sub_emod, Int.add_sub_cancel]
  exact Int.emod_eq_of_lt h0 h1
structure AInv (n τ : Int) (E : List S27) : Prop where
  edges : ∀ e ∈ E, 0 ≤ e.f0 ∧ e.f0 < n ∧ 0 ≤ e.f1 ∧ e.f1 < n ∧ rk n τ e.f0 < rk n τ e.f1
  apart : E.Pairwise fun a b => sameE b.f0 b.f1 a = false
theorem AInv.good {n : Nat} {τ : Int} {E : List S27} (A : AInv (n : Int) τ E) (hn : n ≤ 200) : Good (n : Int) E := by
  refine ⟨by omega, by omega, vrest_good E [] (fun e he => badE_false.2 ?_) (fun e he => rfl) A.apart, fun v h0 h1 hp => ?_⟩
  · have := A.edges e he
    refine ⟨this.1, this.2.1, this.2.2.1, this.2.2.2.1, fun h => ?_⟩
    rw [h] at this
    omega
  · have := hp.rank (rk (n : Int) τ) (fun e he => by
      unfold ee at he
      obtain ⟨x, hx, rfl⟩ := List.mem_map.1 he
      exact (A.edges x hx).2.2.2.2)
    omega
theorem acyc_l1 (l : List Int) (τ i n x y : Int) (E : List S27) (hE : E.length ≤ 100) (r : Int × List S27)
    (h1 : E.any (sameE x y) = true → Ev (fun k => intervalmonref29_Acyclic.l0 k l τ (wrap64 (i + 1)) n E) r) (h2 : E.any (sameE x y) = false → Ev (fun k => intervalmonref29_Acyclic.l0 k l τ (wrap64 (i + 1)) n (E ++ [⟨x, y⟩])) r) (d : Nat) :
    ∀ (j : Nat) (b : Bool), j + d = E.length → (b || (E.drop j).any (sameE x y)) = E.any (sameE x y) → Ev (fun k => intervalmonref29_Acyclic.l1 k l τ i b (j : Int) n E x y) r := by
  induction d with
  | zero =>
    intro j b hj hb
    rw [List.drop_of_length_le (by omega)] at hb
    refine Ev.up ?_
    simp only [intervalmonref29_Acyclic.l1]
    simp only [show ¬ ((j : Int) < (E.length : Int)) by omega, if_false, show E.length < 8796093022208 by omega, if_true]
    cases b with
    | true => simp only [if_true]; exact h1 hb.symm
    | false => simp only [Bool.false_eq_true, if_false]; exact h2 hb.symm
  | succ d ih =>
    intro j b hj hb
    have hlt : j < E.length := by omega
    rw [List.drop_eq_getElem_cons hlt, List.any_cons, ← Bool.or_assoc] at hb
    have := ih (j + 1) _ (by omega) hb
    refine Ev.up ?_
    simp only [intervalmonref29_Acyclic.l1]
    simp only [show ((j : Int) < (E.length : Int)) by omega, if_true, Int.natCast_nonneg, rdE E j hlt, w64s j (by omega)]
    cases b with
    | true => simp only [if_true, Bool.true_or] at this ⊢; exact this
    | false => simp only [Bool.false_eq_true, if_false, Bool.false_or] at this ⊢; exact this
theorem acyc_l0 (l : List Int) (hl : ∀ x ∈ l, (Lit.int .i64 x).wf = true) (τ : Int) (hτ : 0 ≤ τ ∧ τ < 8) (n : Nat) (hn : n ≤ 8) (d : Nat) : ∀ (i : Nat) (E : List S27), 2 ≤ i → i + d = 14 → E.length ≤ i → AInv (n : Int) τ E →
    ∃ E', E'.length ≤ 14 ∧ AInv (n : Int) τ E' ∧ Ev (fun k => intervalmonref29_Acyclic.l0 k l τ (i : Int) (n : Int) E) ((n : Int), E') := by
  have stop : ∀ (i : Nat) (E : List S27), E.length ≤ 14 → AInv (n : Int) τ E → ∀ b, b = false → ∃ E', E'.length ≤ 14 ∧ AInv (n : Int) τ E' ∧ Ev (fun k => intervalmonref29_Acyclic.j1 k l τ (i : Int) b (n : Int) E) ((n : Int), E') := by
    rintro i E hE A b rfl
    refine ⟨E, hE, A, Ev.up ?_⟩
    simp only [intervalmonref29_Acyclic.j1]
    simp only [Bool.false_eq_true, if_false]
    exact Ev.some _
  induction d with
  | zero =>
    intro i E h2 hi hE A
    obtain ⟨E', h3, h4, h5⟩ := stop i E (by omega) A false rfl
    refine ⟨E', h3, h4, Ev.up ?_⟩
    simp only [intervalmonref29_Acyclic.l0]
    simp only [show ¬ ((i : Int) < 14) by omega, if_false, ite_self]
    exact h5
  | succ d ih =>
    intro i E h2 hi hE A
    by_cases c1 : (i : Int) < (l.length : Int)
    · by_cases c2 : (n : Int) > 1
      · have hpk := pk_bd l (i : Int) 10000 (by decide)
        generalize hq : pk l (i : Int) 10000 = q at hpk
        have hm := tmod_bd q n hpk.1 (by omega)
        have hd := tdiv_bd q n hpk.1 (by omega)
        have hd2 := tmod_bd (Int.tdiv q n) n hd.1 (by omega)
        generalize hx : Int.tmod q n = x at hm
        generalize hy : Int.tmod (Int.tdiv q n) n = y at hd2
        have hw : wrap64 (Int.tdiv q n) = Int.tdiv q n := w64 _ (by omega) (by omega)
        have go : ∃ E', E'.length ≤ 14 ∧ AInv (n : Int) τ E' ∧ Ev (fun k => if x = y then intervalmonref29_Acyclic.l0 k l τ (wrap64 ((i : Int) + 1)) (n : Int) E else intervalmonref29_Acyclic.l1 k l τ (i : Int) false 0 (n : Int) E (Int.tmod (wrap64 (mn x y + τ)) n) (Int.tmod (wrap64 (mx x y + τ)) n)) ((n : Int), E') := by
          have skip : ∃ E', E'.length ≤ 14 ∧ AInv (n : Int) τ E' ∧ Ev (fun k => intervalmonref29_Acyclic.l0 k l τ (wrap64 ((i : Int) + 1)) (n : Int) E) ((n : Int), E') := by
            rw [w64s i (by omega)]
            exact ih (i + 1) E (by omega) (by omega) (by omega) A
          by_cases hxy : x = y
          · simp only [if_pos hxy]
            exact skip
          · simp only [if_neg hxy]
            have hmn : 0 ≤ mn x y ∧ mn x y < mx x y ∧ mx x y < n := by unfold mn mx; split <;> split <;> omega
            rw [w64 (mn x y + τ) (by omega) (by omega), w64 (mx x y + τ) (by omega) (by omega)]
            have e1 := tmod_bd (mn x y + τ) n (by omega) (by omega)
            have e2 := tmod_bd (mx x y + τ) n (by omega) (by omega)
            have r1 := rk_turn n τ (mn x y) (by omega) (by omega) (by omega) hτ.1
            have r2 := rk_turn n τ (mx x y) (by omega) (by omega) (by omega) hτ.1
            generalize Int.tmod (mn x y + τ) n = u at *
            generalize Int.tmod (mx x y + τ) n = v at *
            cases hany : E.any (sameE u v) with
            | true =>
              obtain ⟨E', h3, h4, h5⟩ := skip
              exact ⟨E', h3, h4, acyc_l1 l τ (i : Int) n u v E (by omega) _ (fun _ => h5) (fun h => by rw [hany] at h; cases h) E.length 0 false (by omega) (by simp)⟩
            | false =>
              obtain ⟨E', h3, h4, h5⟩ := ih (i + 1) (E ++ [⟨u, v⟩]) (by omega) (by omega) (by simp; omega) ⟨fun e he => by
                rcases List.mem_append.1 he with h | h
                · exact A.edges e h
                · obtain rfl := List.mem_singleton.1 h
                  exact ⟨e1.1, e1.2, e2.1, e2.2, by simp only [r1, r2]; exact hmn.2.1⟩, by
                rw [List.pairwise_append]
                refine ⟨A.apart, by simp, fun a ha b hb => ?_⟩
                obtain rfl := List.mem_singleton.1 hb
                rw [List.any_eq_false] at hany
                simpa using hany a ha⟩
              rw [← w64s i (by omega)] at h5
              exact ⟨E', h3, h4, acyc_l1 l τ (i : Int) n u v E (by omega) _ (fun h => by rw [hany] at h; cases h) (fun _ => h5) E.length 0 false (by omega) (by simp)⟩
        obtain ⟨E', h3, h4, h5⟩ := go
        refine ⟨E', h3, h4, Ev.up ?_⟩
        simp only [intervalmonref29_Acyclic.l0]
        simp only [if_pos c1, show ((i : Int) < 14) by omega, if_true, decide_eq_true c2]
        refine Ev.up ?_
        simp only [intervalmonref29_Acyclic.j1]
        simp only [if_true, pick l hl (i : Int) 10000 (by decide), hq, Option.bind_some, if_neg (show ¬ (n : Int) = 0 by omega), hw, hx, hy]
        exact h5
      · obtain ⟨E', h3, h4, h5⟩ := stop i E (by omega) A (decide ((n : Int) > 1)) (decide_eq_false c2)
        refine ⟨E', h3, h4, Ev.up ?_⟩
        simp only [intervalmonref29_Acyclic.l0]
        simp only [if_pos c1, show ((i : Int) < 14) by omega, if_true]
        exact h5
    · obtain ⟨E', h3, h4, h5⟩ := stop i E (by omega) A false rfl
      refine ⟨E', h3, h4, Ev.up ?_⟩
      simp only [intervalmonref29_Acyclic.l0]
      simp only [if_neg c1]
      exact h5
theorem acyc_gen (l : List Int) (hl : ∀ x ∈ l, (Lit.int .i64 x).wf = true) : ∃ (n : Nat) (E : List S27), n ≤ 8 ∧ E.length ≤ 14 ∧ Good (n : Int) E ∧ Ev (fun k => intervalmonref29_Acyclic.f k l) ((n : Int), E) := by
  have h0 := pk_bd l 0 9 (by decide)
  have h1 := pk_bd l 1 8 (by decide)
  obtain ⟨n, hn⟩ : ∃ n : Nat, pk l 0 9 = (n : Int) := ⟨(pk l 0 9).toNat, by omega⟩
  obtain ⟨E', h3, h4, h5⟩ := acyc_l0 l hl (pk l 1 8) h1 n (by omega) 12 2 [] (by omega) (by omega) (by simp) ⟨fun e he => (by cases he), by simp⟩
  refine ⟨n, E', by omega, h3, h4.good (by omega), ?_⟩
  unfold intervalmonref29_Acyclic.f
  simp only [pick l hl 0 9 (by decide), pick l hl 1 8 (by decide), Option.bind_some, hn]
  exact h5

theorem firing_loop (n : Nat) (hn : n ≤ 200) (d : Nat) : ∀ (i : Nat) (x : Int) (L : List Bool), i + d = n → L.length = n → ∃ L', L'.length = n ∧ Ev (fun k => intervalmonref29_Firing.l0 k (n : Int) x L (i : Int)) L' := by
  induction d with
  | zero =>
    intro i x L hi hL
    refine ⟨L, hL, Ev.up ?_⟩
    simp only [intervalmonref29_Firing.l0]
    simp only [show ¬ ((i : Int) < (n : Int)) by omega, if_false]
    exact Ev.some _
  | succ d ih =>
    intro i x L hi hL
    obtain ⟨L', h1, h2⟩ := ih (i + 1) (wrap64 (Int.tdiv x 2)) (L.set i (Int.tmod x 2 == 1)) (by omega) (by simp [hL])
    refine ⟨L', h1, Ev.up ?_⟩
    simp only [intervalmonref29_Firing.l0]
    simp only [show ((i : Int) < (n : Int)) by omega, if_true, Int.natCast_nonneg, hL, w64s i (by omega), Int.toNat_natCast]
    exact h2
theorem firing_ev (n : Nat) (hn : n ≤ 200) (b : Int) (hb : (Lit.int .i64 b).wf = true) : ∃ L, L.length = n ∧ Ev (fun k => intervalmonref29_Firing.f k (n : Int) b) L := by
  obtain ⟨L, h1, h2⟩ := firing_loop n hn n 0 (arn b 256) (List.replicate n false) (by omega) (by simp)
  refine ⟨L, h1, ?_⟩
  unfold intervalmonref29_Firing.f
  simp only [around b 256 hb (by decide), Option.bind_some, Int.natCast_nonneg, if_true, Int.toNat_natCast, show n ≤ 281474976710656 by omega]
  exact h2
end Go.Proofs.Ytcamljlhdejmmaa.Pure
