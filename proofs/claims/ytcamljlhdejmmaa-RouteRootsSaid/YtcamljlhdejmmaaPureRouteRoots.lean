/- For all valid graphs and firing nodes made from numbers: inhibited nodes are firing, some firing node is not inhibited if any is firing, and from such a node there is a path to each inhibited one. Its pure statement. No condition. -/
import Derived.Test.YtcamljlhdejmmaaMAcyc
import Derived.Test.YtcamljlhdejmmaaMInh
import Derived.Test.YtcamljlhdejmmaaMLives
import Derived.Test.YtcamljlhdejmmaaPx16
namespace Go.Proofs.Ytcamljlhdejmmaa.Pure
open Go.RowKit Go.Proofs.Ytcamljlhdejmmaa.P Go.Proofs.YtcamljlhdejmmaaW.PrintWords Go.Proofs.YtcamljlhdejmmaaW.PrintLast Go.Proofs.YtcamljlhdejmmaaW.PrintMore
set_option linter.unusedVariables false
set_option linter.unusedSimpArgs false
/-- Behind a firing node stands a firing one that is not inhibited. -/
theorem root_of {n : Nat} {l : List S27} (hl : l.length < 4398046511104) (hg : Good (n : Int) l) {f I : Int → Bool} (hI : Inh n (ee l) f I) :
    ∀ v : Int, 0 ≤ v → v < n → f v = true → ∃ b : Int, 0 ≤ b ∧ b < n ∧ f b = true ∧ I b = false ∧ (b = v ∨ Path (ee l) b v) := by
  obtain ⟨-, hn, hv, hac⟩ := hg
  have hr := vrest_inR hv
  obtain ⟨out, T, -⟩ := sorted_ev n (by omega) l hr hl
  obtain ⟨ρ, hρ⟩ := T.ranked (T.full hr hac) hr
  have key : ∀ (d : Nat) (v : Int), ρ v ≤ d → 0 ≤ v → v < n → f v = true → ∃ b : Int, 0 ≤ b ∧ b < n ∧ f b = true ∧ I b = false ∧ (b = v ∨ Path (ee l) b v) := by
    intro d
    induction d with
    | zero =>
      intro v hd h0 h1 hf
      refine ⟨v, h0, h1, hf, (Bool.not_eq_true _).mp fun h => ?_, Or.inl rfl⟩
      obtain ⟨-, b, -, -, -, hp⟩ := (hI v h0 h1).1 h
      have := hρ _ _ hp
      omega
    | succ d ih =>
      intro v hd h0 h1 hf
      by_cases h : I v = true
      · obtain ⟨-, b, b0, b1, hb, hp⟩ := (hI v h0 h1).1 h
        have := hρ _ _ hp
        obtain ⟨c, c0, c1, hc, hi, hcb⟩ := ih b (by omega) b0 b1 hb
        refine ⟨c, c0, c1, hc, hi, Or.inr ?_⟩
        rcases hcb with rfl | hcb
        · exact hp
        · exact hcb.trans hp
      · exact ⟨v, h0, h1, hf, (Bool.not_eq_true _).mp h, Or.inl rfl⟩
  intro v
  exact key (ρ v) v (Nat.le_refl _)

section
variable (n : Nat) (l : List S27) (f I : Int → Bool)
theorem roots_l2 (hn : n ≤ 200) (Z : Int → Bool) (a b : Bool) (hab : a = b) (h1 : ∀ v : Int, 0 ≤ v → v < n → I v = true → f v = true ∧ Z v = true) (h2 : ∀ v : Int, 0 ≤ v → v < n → f v = true → I v = false → Z v = false) (d : Nat) :
    ∀ i : Nat, i + d = n → Ev (fun k => intervalmonlaw29_RouteRoots.l2 k (mk n f) (mk n I) (mk n Z) a b (i : Int) (n : Int) l) true := by
  induction d with
  | zero =>
    intro i hi
    refine Ev.up ?_
    simp only [intervalmonlaw29_RouteRoots.l2]
    simp only [show ¬ ((i : Int) < (n : Int)) by omega, if_false, hab, beq_self_eq_true, if_true]
    exact Ev.bind lives29 (Ev.some _)
  | succ d ih =>
    intro i hi
    have hgo := ih (i + 1) (by omega)
    refine Ev.up ?_
    simp only [intervalmonlaw29_RouteRoots.l2]
    simp only [show ((i : Int) < (n : Int)) by omega, if_true, Int.natCast_nonneg, mk_len, mk_rdOf n f false (i : Int) (by omega) (by omega), mk_rdOf n I false (i : Int) (by omega) (by omega), mk_rdOf n Z false (i : Int) (by omega) (by omega), w64s i (by omega)]
    by_cases hI : I (i : Int) = true
    · have := h1 (i : Int) (by omega) (by omega) hI
      simp only [if_pos hI, if_pos this.1, if_pos this.2]
      exact hgo
    · simp only [if_neg hI]
      by_cases hf : f (i : Int) = true
      · have := h2 (i : Int) (by omega) (by omega) hf ((Bool.not_eq_true _).mp hI)
        simp only [if_pos hf, this, Bool.false_eq_true, if_false]
        exact hgo
      · simp only [if_neg hf]
        exact hgo
theorem roots_l1 (hn : n ≤ 200) (i : Nat) (hi : i < n) (a b : Bool) (R Z : Int → Bool) (r : Bool) (hgo : Ev (fun k => intervalmonlaw29_RouteRoots.l0 k (mk n f) (mk n I) (mk n fun v => Z v || R v) a b ((i + 1 : Nat) : Int) (n : Int) l) r) (d : Nat) :
    ∀ j : Nat, j + d = n → Ev (fun k => intervalmonlaw29_RouteRoots.l1 k (mk n f) (mk n I) (mk n fun v => if v < (j : Int) then Z v || R v else Z v) a b (i : Int) (mk n R) (j : Int) (n : Int) l) r := by
  induction d with
  | zero =>
    intro j hj
    refine Ev.up ?_
    simp only [intervalmonlaw29_RouteRoots.l1]
    simp only [show ¬ ((j : Int) < (n : Int)) by omega, if_false, w64s i (by omega)]
    rw [mk_congr n (fun v => if v < (j : Int) then Z v || R v else Z v) (fun v => Z v || R v) (fun v h0 h1 => if_pos (by omega))]
    exact hgo
  | succ d ih =>
    intro j hj
    have hgo := ih (j + 1) (by omega)
    have upd : ∀ x, x = (Z (j : Int) || R (j : Int)) → (mk n fun v => if v < (j : Int) then Z v || R v else Z v).set ((j : Int)).toNat x = mk n fun v => if v < ((j + 1 : Nat) : Int) then Z v || R v else Z v := by
      intro x hx
      rw [mk_set n _ _ _ (by omega)]
      refine mk_congr n _ _ (fun v h0 h1 => ?_)
      by_cases hv : v = (j : Int)
      · subst hv; rw [if_pos rfl, if_pos (by omega), hx]
      · rw [if_neg hv]
        by_cases h : v < (j : Int)
        · rw [if_pos h, if_pos (by omega)]
        · rw [if_neg h, if_neg (by omega)]
    refine Ev.up ?_
    simp only [intervalmonlaw29_RouteRoots.l1]
    simp only [show ((j : Int) < (n : Int)) by omega, if_true, Int.natCast_nonneg, mk_len, mk_rdOf n _ false (j : Int) (by omega) (by omega), show ¬ ((j : Int) < (j : Int)) by omega, if_false, w64s j (by omega)]
    by_cases hZ : Z (j : Int) = true
    · simp only [if_pos hZ]
      rw [upd _ (by rw [hZ, Bool.true_or])]
      exact hgo
    · simp only [if_neg hZ]
      rw [upd _ (by rw [(Bool.not_eq_true _).mp hZ, Bool.false_or])]
      exact hgo
theorem roots_l0 (hn : n ≤ 200) (hl : l.length < 4398046511104) (hg : Good (n : Int) l) (hI : Inh n (ee l) f I) (d : Nat) : ∀ (i : Nat) (Z : Int → Bool) (a b : Bool), i + d = n →
    (∀ v : Int, 0 ≤ v → v < n → (Z v = true ↔ ∃ b : Int, 0 ≤ b ∧ b < (i : Int) ∧ f b = true ∧ I b = false ∧ Path (ee l) b v)) → (a = true ↔ ∃ v : Int, 0 ≤ v ∧ v < (i : Int) ∧ f v = true) → (b = true ↔ ∃ v : Int, 0 ≤ v ∧ v < (i : Int) ∧ f v = true ∧ I v = false) →
    Ev (fun k => intervalmonlaw29_RouteRoots.l0 k (mk n f) (mk n I) (mk n Z) a b (i : Int) (n : Int) l) true := by
  have hr := vrest_inR hg.2.2.1
  have roots := root_of hl hg hI
  induction d with
  | zero =>
    intro i Z a b hi hZ ha hb
    obtain rfl : i = n := by omega
    refine Ev.up ?_
    simp only [intervalmonlaw29_RouteRoots.l0]
    simp only [show ¬ ((i : Int) < (i : Int)) by omega, if_false]
    refine roots_l2 i l f I hn Z a b ?_ (fun v h0 h1 h => ?_) (fun v h0 h1 hf hi => ?_) i 0 (by omega)
    · rw [Bool.eq_iff_iff, ha, hb]
      constructor
      · rintro ⟨v, h0, h1, hf⟩
        obtain ⟨c, c0, c1, hc, hci, -⟩ := roots v h0 h1 hf
        exact ⟨c, c0, c1, hc, hci⟩
      · rintro ⟨v, h0, h1, hf, -⟩
        exact ⟨v, h0, h1, hf⟩
    · obtain ⟨hf, c, c0, c1, hc, hp⟩ := (hI v h0 h1).1 h
      refine ⟨hf, (hZ v h0 h1).2 ?_⟩
      obtain ⟨e, e0, e1, he, hei, hec⟩ := roots c c0 c1 hc
      refine ⟨e, e0, e1, he, hei, ?_⟩
      rcases hec with rfl | hec
      · exact hp
      · exact hec.trans hp
    · refine (Bool.not_eq_true _).mp fun h => ?_
      obtain ⟨c, c0, c1, hc, -, hp⟩ := (hZ v h0 h1).1 h
      have := (hI v h0 h1).2 ⟨hf, c, c0, c1, hc, hp⟩
      rw [hi] at this
      cases this
  | succ d ih =>
    intro i Z a b hi hZ ha hb
    have hgo := ih (i + 1)
    have j1 : ∀ a', a' = (a || f (i : Int)) → Ev (fun k => intervalmonlaw29_RouteRoots.j1 k (mk n f) (mk n I) (mk n Z) a' b (i : Int) (n : Int) l) true := by
      intro a' ha'
      have ha2 : a' = true ↔ ∃ v : Int, 0 ≤ v ∧ v < ((i + 1 : Nat) : Int) ∧ f v = true := by
        rw [ha', Bool.or_eq_true, ha]
        constructor
        · rintro (⟨v, h0, h1, h⟩ | h)
          · exact ⟨v, h0, by omega, h⟩
          · exact ⟨(i : Int), by omega, by omega, h⟩
        · rintro ⟨v, h0, h1, h⟩
          by_cases hv : v = (i : Int)
          · subst hv; exact Or.inr h
          · exact Or.inl ⟨v, h0, by omega, h⟩
      have no : ¬ (f (i : Int) = true ∧ I (i : Int) = false) → Ev (fun k => intervalmonlaw29_RouteRoots.l0 k (mk n f) (mk n I) (mk n Z) a' b ((i + 1 : Nat) : Int) (n : Int) l) true := by
        intro hno
        refine hgo Z a' b (by omega) (fun v h0 h1 => ?_) ha2 ?_
        · rw [hZ v h0 h1]
          constructor
          · rintro ⟨c, c0, c1, h⟩; exact ⟨c, c0, by omega, h⟩
          · rintro ⟨c, c0, c1, h⟩
            refine ⟨c, c0, ?_, h⟩
            have : c ≠ (i : Int) := by rintro rfl; exact hno ⟨h.1, h.2.1⟩
            omega
        · rw [hb]
          constructor
          · rintro ⟨c, c0, c1, h⟩; exact ⟨c, c0, by omega, h⟩
          · rintro ⟨c, c0, c1, h⟩
            refine ⟨c, c0, ?_, h⟩
            have : c ≠ (i : Int) := by rintro rfl; exact hno h
            omega
      refine Ev.up ?_
      simp only [intervalmonlaw29_RouteRoots.j1]
      simp only [show ((i : Int) < (n : Int)) by omega, if_true, Int.natCast_nonneg, mk_len, mk_rdOf n f false (i : Int) (by omega) (by omega), mk_rdOf n I false (i : Int) (by omega) (by omega)]
      by_cases hf : f (i : Int) = true
      · simp only [if_pos hf]
        refine Ev.up ?_
        simp only [intervalmonlaw29_RouteRoots.j2]
        by_cases hIi : I (i : Int) = true
        · simp only [hIi, Bool.not_true, Bool.false_eq_true, if_false, w64s i (by omega)]
          exact no (fun h => by rw [hIi] at h; cases h.2)
        · have hIf := (Bool.not_eq_true _).mp hIi
          simp only [hIf, Bool.not_false, if_true]
          obtain ⟨R, hR, he⟩ := reached_ev n (by omega) l hr hl (i : Int)
          refine Ev.bind he ?_
          have := roots_l1 n l f I hn i (by omega) a' true R Z true (hgo _ a' true (by omega) (fun v h0 h1 => by
            rw [Bool.or_eq_true, hZ v h0 h1, hR v h0 h1]
            constructor
            · rintro (⟨c, c0, c1, h⟩ | h)
              · exact ⟨c, c0, by omega, h⟩
              · exact ⟨(i : Int), by omega, by omega, hf, hIf, h⟩
            · rintro ⟨c, c0, c1, h⟩
              by_cases hc : c = (i : Int)
              · subst hc; exact Or.inr h.2.2
              · exact Or.inl ⟨c, c0, by omega, h⟩) ha2 ⟨fun _ => ⟨(i : Int), by omega, by omega, hf, hIf⟩, fun _ => rfl⟩) n 0 (by omega)
          rw [mk_congr n (fun v => if v < ((0 : Nat) : Int) then Z v || R v else Z v) Z (fun v h0 h1 => if_neg (by omega))] at this
          exact this
      · simp only [if_neg hf]
        refine Ev.up ?_
        simp only [intervalmonlaw29_RouteRoots.j2]
        simp only [Bool.false_eq_true, if_false, w64s i (by omega)]
        exact no (fun h => hf h.1)
    refine Ev.up ?_
    simp only [intervalmonlaw29_RouteRoots.l0]
    simp only [show ((i : Int) < (n : Int)) by omega, if_true, Int.natCast_nonneg, mk_len, mk_rdOf n f false (i : Int) (by omega) (by omega)]
    cases ha3 : a with
    | true => simp only [if_true]; exact j1 true (by rw [ha3]; rfl)
    | false => simp only [Bool.false_eq_true, if_false]; exact j1 _ (by rw [ha3]; rfl)
end
theorem RouteRoots : intervalmonlaw29_RouteRoots.Pure := by
  intro l a1 hm h8 hl h1
  refine Ev.rounds ?_
  obtain ⟨n, E, hn, hE, hg, he⟩ := acyc_gen l hl
  obtain ⟨F, hF, hf⟩ := firing_ev n (by omega) a1 h1
  rw [as_mk n F hF] at hf
  obtain ⟨I, hI, hi⟩ := inh_good n E (by omega) hg (rdOf false F)
  unfold intervalmonlaw29_RouteRoots.f
  refine Ev.bind he ?_
  refine Ev.bind hf ?_
  simp only [intervalmonlaw29_graph.f, Option.bind_some]
  refine Ev.bind hi ?_
  simp only [mk_len, if_true, Int.natCast_nonneg, Int.toNat_natCast, show n ≤ 281474976710656 by omega, mk_rep]
  exact roots_l0 n E (rdOf false F) I (by omega) (by omega) hg hI n 0 (fun _ => false) false false (by omega) (fun v h0 h1 => ⟨fun h => (by cases h), fun ⟨c, c0, c1, _⟩ => by omega⟩) ⟨fun h => (by cases h), fun ⟨c, c0, c1, _⟩ => by omega⟩ ⟨fun h => (by cases h), fun ⟨c, c0, c1, _⟩ => by omega⟩
end Go.Proofs.Ytcamljlhdejmmaa.Pure
