/- Comparing lists of labels: the reference comes to cmpLs; cmpLs is an order. -/
import Derived.Test.YtcamljlhdejmmaaMLab
import Derived.Test.YtcamljlhdejmmaaHCmp
import Derived.Test.YtcamljlhdejmmaaPx8
import Derived.Test.YtcamljlhdejmmaaPx8
namespace Go.Proofs.Ytcamljlhdejmmaa.Pure
open Go.RowKit Go.Proofs.Ytcamljlhdejmmaa.P Go.Proofs.YtcamljlhdejmmaaW.PrintWords Go.Proofs.YtcamljlhdejmmaaW.PrintLast Go.Proofs.YtcamljlhdejmmaaW.PrintMore
set_option linter.unusedVariables false
set_option linter.unusedSimpArgs false

theorem rdL (l : List Lab) (i : Nat) (h : i < l.length) : rd_T91 l (i : Int) = l[i] := by simp [rd_T91, List.getD_eq_getElem?_getD, h]
theorem ba_ext {a b : ByteArray} (h : a.toList = b.toList) : a = b := by
  cases a with | mk a => cases b with | mk b =>
  have : a.toList = b.toList := by simpa [ByteArray.toList_eq] using h
  rw [Array.toList_inj.1 this]

instance decLab : DecidableEq Lab := fun x y => decidable_of_iff (x.f0.data = y.f0.data ∧ x.f1.data = y.f1.data) (by
  cases x with | mk a b => cases y with | mk c d => cases a; cases b; cases c; cases d; simp)
/-! ### one string, one label -/
theorem cmpS_cases (a b : ByteArray) : (a.toList < b.toList ∧ cmpS a b = -1) ∨ (a = b ∧ cmpS a b = 0) ∨ (b.toList < a.toList ∧ cmpS a b = 1) := by
  unfold cmpS
  rw [bytesLess_lt]
  by_cases h : a.toList < b.toList
  · left; simp [h]
  · by_cases h2 : a.toList = b.toList
    · right; left; exact ⟨ba_ext h2, by simp [h, h2]⟩
    · right; right
      refine ⟨?_, by simp [h, h2]⟩
      rcases List.le_iff_lt_or_eq.1 (List.not_lt.1 h) with h3 | h3
      · exact h3
      · exact absurd h3.symm h2
theorem order_eq (a b : ByteArray) : intervalmonref05_order.f a b = some (cmpS a b) := by
  unfold intervalmonref05_order.f
  rw [bytesLess_lt, bytesLess_lt]
  rcases cmpS_cases a b with ⟨h, e⟩ | ⟨rfl, e⟩ | ⟨h, e⟩ <;> rw [e]
  · simp [h]
  · simp [List.lt_irrefl]
  · simp [h, List.lt_asymm h]

/-- Numbers that order a type: -1, 0, 1. -/
structure Ord3 {α : Type} (c : α → α → Int) : Prop where
  rng : ∀ x y, c x y = -1 ∨ c x y = 0 ∨ c x y = 1
  eq0 : ∀ x y, c x y = 0 ↔ x = y
  anti : ∀ x y, c y x = -(c x y)
  trans : ∀ x y z, c x y ≤ 0 → c y z ≤ 0 → c x z ≤ 0
theorem Ord3.trans' {α : Type} {c : α → α → Int} (h : Ord3 c) (x y z : α) (h1 : 0 ≤ c x y) (h2 : 0 ≤ c y z) : 0 ≤ c x z := by
  have := h.trans z y x (by rw [h.anti]; omega) (by rw [h.anti]; omega)
  rw [h.anti] at this; omega
theorem Ord3.strict {α : Type} {c : α → α → Int} (h : Ord3 c) (x y z : α) (h1 : c x y ≤ 0) (h2 : c y z ≤ 0) (h3 : c x y < 0 ∨ c y z < 0) : c x z < 0 := by
  have h4 := h.trans x y z h1 h2
  rcases h.rng x z with h5 | h5 | h5
  · omega
  · obtain rfl := (h.eq0 x z).1 h5
    have := h.anti x y
    omega
  · omega
theorem ord3_S : Ord3 cmpS where
  rng x y := by rcases cmpS_cases x y with ⟨_, e⟩ | ⟨_, e⟩ | ⟨_, e⟩ <;> rw [e] <;> decide
  eq0 x y := by
    rcases cmpS_cases x y with ⟨h, e⟩ | ⟨h, e⟩ | ⟨h, e⟩ <;> rw [e]
    · exact ⟨fun h2 => absurd h2 (by decide), fun h2 => by subst h2; exact absurd h (List.lt_irrefl _)⟩
    · exact ⟨fun _ => h, fun _ => rfl⟩
    · exact ⟨fun h2 => absurd h2 (by decide), fun h2 => by subst h2; exact absurd h (List.lt_irrefl _)⟩
  anti x y := by
    rcases cmpS_cases x y with ⟨h, e⟩ | ⟨h, e⟩ | ⟨h, e⟩ <;> rcases cmpS_cases y x with ⟨h', e'⟩ | ⟨h', e'⟩ | ⟨h', e'⟩ <;> rw [e, e'] <;> first | rfl | (exfalso; first | exact List.lt_asymm h h' | (subst h; exact List.lt_irrefl _ h') | (subst h'; exact List.lt_irrefl _ h))
  trans x y z h1 h2 := by
    rcases cmpS_cases x y with ⟨h, e⟩ | ⟨h, e⟩ | ⟨h, e⟩ <;> rcases cmpS_cases y z with ⟨h', e'⟩ | ⟨h', e'⟩ | ⟨h', e'⟩ <;> first | omega | skip
    · have h3 := List.lt_trans h h'
      rcases cmpS_cases x z with ⟨_, e2⟩ | ⟨_, e2⟩ | ⟨h4, e2⟩ <;> first | omega | exact absurd h4 (List.lt_asymm h3)
    · subst h'; omega
    · subst h; omega
    · subst h; omega
theorem ord3_or {α β : Type} {c : α → α → Int} {d : β → β → Int} (hc : Ord3 c) (hd : Ord3 d) : Ord3 (fun x y : α × β => orI (c x.1 y.1) (d x.2 y.2)) where
  rng x y := by unfold orI; split; exact hd.rng _ _; exact hc.rng _ _
  eq0 x y := by
    unfold orI
    by_cases h : c x.1 y.1 = 0
    · rw [if_pos h, hd.eq0]
      exact ⟨fun h2 => Prod.ext ((hc.eq0 _ _).1 h) h2, fun h2 => by rw [h2]⟩
    · rw [if_neg h]
      exact ⟨fun h2 => absurd h2 h, fun h2 => absurd ((hc.eq0 _ _).2 (by rw [h2])) h⟩
  anti x y := by
    have h1 := hc.anti x.1 y.1
    have h2 := hd.anti x.2 y.2
    unfold orI
    by_cases h : c x.1 y.1 = 0
    · rw [if_pos h, if_pos (by omega)]; exact h2
    · rw [if_neg h, if_neg (by omega)]; exact h1
  trans x y z h1 h2 := by
    unfold orI at *
    have a1 := hc.trans x.1 y.1 z.1
    have a2 := hd.trans x.2 y.2 z.2
    have s := hc.strict x.1 y.1 z.1
    have e1 := hc.eq0 x.1 y.1
    have e2 := hc.eq0 y.1 z.1
    by_cases h : c x.1 y.1 = 0 <;> by_cases h' : c y.1 z.1 = 0 <;> simp only [h, h', if_true, if_false] at h1 h2
    · have : c x.1 z.1 = 0 := by rw [hc.eq0]; exact (e1.1 h).trans (e2.1 h')
      rw [if_pos this]; exact a2 h1 h2
    · have := s (by omega) h2 (by omega)
      rw [if_neg (by omega)]; omega
    · have := s h1 (by omega) (by omega)
      rw [if_neg (by omega)]; omega
    · have := s h1 h2 (by omega)
      rw [if_neg (by omega)]; omega
theorem ord3_iso {α β : Type} {c : α → α → Int} (hc : Ord3 c) (f : β → α) (hf : ∀ x y, f x = f y → x = y) : Ord3 (fun x y => c (f x) (f y)) where
  rng x y := hc.rng _ _
  eq0 x y := by rw [hc.eq0]; exact ⟨hf x y, fun h => by rw [h]⟩
  anti x y := hc.anti _ _
  trans x y z := hc.trans _ _ _
theorem ord3_L : Ord3 cmpL := ord3_iso (ord3_or ord3_S ord3_S) (fun x : Lab => (x.f0, x.f1)) (fun x y h => by cases x; cases y; simp at h; simp [h])

/-! ### lists -/
theorem cmpLs_rng : ∀ (a b : List Lab), cmpLs a b = -1 ∨ cmpLs a b = 0 ∨ cmpLs a b = 1
  | [], [] => .inr (.inl rfl)
  | [], _ :: _ => .inl rfl
  | _ :: _, [] => .inr (.inr rfl)
  | x :: xs, y :: ys => by
    unfold cmpLs
    split
    · exact cmpLs_rng xs ys
    · exact ord3_L.rng x y
theorem cmpLs_eq0 : ∀ (a b : List Lab), cmpLs a b = 0 ↔ a = b
  | [], [] => by simp [cmpLs]
  | [], _ :: _ => by simp [cmpLs]
  | _ :: _, [] => by simp [cmpLs]
  | x :: xs, y :: ys => by
    unfold cmpLs
    have e := ord3_L.eq0 x y
    by_cases h : cmpL x y = 0
    · rw [if_pos h, cmpLs_eq0 xs ys, e.1 h]; simp
    · rw [if_neg h]
      exact ⟨fun h2 => absurd h2 h, fun h2 => by injection h2 with h2 h3; exact absurd (e.2 h2) h⟩
theorem cmpLs_anti : ∀ (a b : List Lab), cmpLs b a = -(cmpLs a b)
  | [], [] => rfl
  | [], _ :: _ => rfl
  | _ :: _, [] => rfl
  | x :: xs, y :: ys => by
    unfold cmpLs
    have e := ord3_L.anti x y
    by_cases h : cmpL x y = 0
    · rw [if_pos h, if_pos (by omega)]; exact cmpLs_anti xs ys
    · rw [if_neg h, if_neg (by omega)]; exact e
theorem cmpLs_trans : ∀ (a b c : List Lab), cmpLs a b ≤ 0 → cmpLs b c ≤ 0 → cmpLs a c ≤ 0
  | [], _, [], _, _ => by decide
  | [], _, _ :: _, _, _ => by show (-1 : Int) ≤ 0; decide
  | _ :: _, [], _, h, _ => by exact absurd h (by show ¬ (1 : Int) ≤ 0; decide)
  | _ :: _, _ :: _, [], _, h => by exact absurd h (by show ¬ (1 : Int) ≤ 0; decide)
  | x :: xs, y :: ys, z :: zs, h1, h2 => by
    unfold cmpLs at *
    have a1 := ord3_L.trans x y z
    have s := ord3_L.strict x y z
    have e1 := ord3_L.eq0 x y
    have e2 := ord3_L.eq0 y z
    by_cases h : cmpL x y = 0 <;> by_cases h' : cmpL y z = 0 <;> simp only [h, h', if_true, if_false] at h1 h2
    · have : cmpL x z = 0 := by rw [ord3_L.eq0]; exact (e1.1 h).trans (e2.1 h')
      rw [if_pos this]; exact cmpLs_trans xs ys zs h1 h2
    · have := s (by omega) h2 (by omega)
      rw [if_neg (by omega)]; omega
    · have := s h1 (by omega) (by omega)
      rw [if_neg (by omega)]; omega
    · have := s h1 h2 (by omega)
      rw [if_neg (by omega)]; omega
theorem ord3_Ls : Ord3 cmpLs := ⟨cmpLs_rng, cmpLs_eq0, cmpLs_anti, cmpLs_trans⟩

/-! ### the reference -/
theorem refCompare_loop (a b : List Lab) (ha : a.length < 4398046511104) (hb : b.length < 4398046511104) (d : Nat) : ∀ i : Nat, i + d = a.length → i ≤ b.length → Ev (fun k => intervalmonref05_Compare.l0 k a b (i : Int)) (cmpLs (a.drop i) (b.drop i)) := by
  induction d with
  | zero =>
    intro i hi hib
    refine Ev.up ?_
    simp only [intervalmonref05_Compare.l0]
    simp only [show ¬ ((i : Int) < (a.length : Int)) by omega, if_false]
    refine Ev.up ?_
    simp only [intervalmonref05_Compare.j1]
    simp only [Bool.false_eq_true, if_false]
    rw [List.drop_of_length_le (show a.length ≤ i by omega)]
    by_cases h : i < b.length
    · rw [List.drop_eq_getElem_cons h]
      simp only [show ((a.length : Int) < (b.length : Int)) by omega, if_true, cmpLs]
      exact Ev.some _
    · rw [List.drop_of_length_le (show b.length ≤ i by omega)]
      simp only [show ¬ ((a.length : Int) < (b.length : Int)) by omega, show ¬ ((a.length : Int) > (b.length : Int)) by omega, if_false, cmpLs]
      exact Ev.some _
  | succ d ih =>
    intro i hi hib
    refine Ev.up ?_
    simp only [intervalmonref05_Compare.l0]
    have hlt : i < a.length := by omega
    simp only [show ((i : Int) < (a.length : Int)) by omega, if_true]
    refine Ev.up ?_
    simp only [intervalmonref05_Compare.j1]
    rw [List.drop_eq_getElem_cons hlt]
    by_cases h : i < b.length
    · rw [List.drop_eq_getElem_cons h]
      simp only [show ((i : Int) < (a.length : Int)) by omega, show ((i : Int) < (b.length : Int)) by omega, decide_true, if_true, Int.natCast_nonneg, rdL a i hlt, rdL b i h, order_eq, Option.bind_some, w64s i (by omega)]
      have ih' := ih (i + 1) (by omega) (by omega)
      unfold cmpLs cmpL orI
      by_cases h1 : cmpS a[i].f0 b[i].f0 = 0
      · simp only [if_pos h1]
        by_cases h2 : cmpS a[i].f1 b[i].f1 = 0
        · simp only [if_pos h2]; exact ih'
        · simp only [if_neg h2]; exact Ev.some _
      · simp only [if_neg h1]; exact Ev.some _
    · rw [List.drop_of_length_le (show b.length ≤ i by omega)]
      simp only [show ¬ ((i : Int) < (b.length : Int)) by omega, decide_false, Bool.false_eq_true, if_false, show ¬ ((a.length : Int) < (b.length : Int)) by omega, show ((a.length : Int) > (b.length : Int)) by omega, if_true, cmpLs]
      exact Ev.some _
theorem refCompare (a b : List Lab) (ha : a.length < 4398046511104) (hb : b.length < 4398046511104) : Ev (fun k => intervalmonref05_Compare.f k a b) (cmpLs a b) :=
  refCompare_loop a b ha hb a.length 0 (by omega) (by omega)
theorem cmp_eq (a b : List Lab) : labels_Compare.f a b = some (cmpLs a b) := rfl

/-! ### Same -/
theorem same_loop (a b : List Lab) (ha : a.length < 4398046511104) (hl : a.length = b.length) (d : Nat) : ∀ i : Nat, i + d = a.length → Ev (fun k => intervalmonref05_Same.l0 k a b (i : Int)) (decide (a.drop i = b.drop i)) := by
  induction d with
  | zero =>
    intro i hi
    refine Ev.up ?_
    simp only [intervalmonref05_Same.l0]
    simp only [show ¬ ((i : Int) < (a.length : Int)) by omega, if_false, List.drop_of_length_le (show a.length ≤ i by omega), List.drop_of_length_le (show b.length ≤ i by omega), decide_true]
    exact Ev.some _
  | succ d ih =>
    intro i hi
    refine Ev.up ?_
    simp only [intervalmonref05_Same.l0]
    have hlt : i < a.length := by omega
    have hlt2 : i < b.length := by omega
    have ih' := ih (i + 1) (by omega)
    simp only [show ((i : Int) < (a.length : Int)) by omega, show ((i : Int) < (b.length : Int)) by omega, if_true, Int.natCast_nonneg, rdL a i hlt, rdL b i hlt2, w64s i (by omega)]
    rw [List.drop_eq_getElem_cons hlt, List.drop_eq_getElem_cons hlt2]
    by_cases h : a[i] = b[i]
    · simp only [h, beq_self_eq_true, Bool.not_true, Bool.or_self, Bool.false_eq_true, if_false, List.cons.injEq, true_and]
      exact ih'
    · have hn : (!(a[i].f0.toList == b[i].f0.toList) || !(a[i].f1.toList == b[i].f1.toList)) = true := by
        rw [Bool.or_eq_true, Bool.not_eq_true', Bool.not_eq_true', beq_eq_false_iff_ne, beq_eq_false_iff_ne]
        rcases Classical.em (a[i].f0.toList = b[i].f0.toList) with h1 | h1
        · right; intro h2; apply h
          have e1 := ba_ext h1; have e2 := ba_ext h2
          cases hx : a[i]; cases hy : b[i]; rw [hx, hy] at e1 e2; simp at e1 e2; rw [e1, e2]
        · exact .inl h1
      simp only [hn, if_true, List.cons.injEq, h, false_and, decide_false]
      exact Ev.some _
theorem same_ev (a b : List Lab) (ha : a.length < 4398046511104) : Ev (fun k => intervalmonref05_Same.f k a b) (decide (a = b)) := by
  unfold intervalmonref05_Same.f
  by_cases h : a.length = b.length
  · simp only [show (a.length : Int) = (b.length : Int) by omega, if_true]
    exact same_loop a b ha h a.length 0 (by omega)
  · simp only [show ¬ (a.length : Int) = (b.length : Int) by omega, if_false, decide_eq_false (show ¬ a = b from fun e => h (by rw [e]))]
    exact Ev.some _
end Go.Proofs.Ytcamljlhdejmmaa.Pure
