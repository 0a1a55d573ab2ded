/- Making label sets: the reference comes to what New tells; label sets stay as they are. -/
import Derived.Test.YtlohkfmobeapdaaMCmp
import Derived.Test.YtlohkfmobeapdaaMNames
import Derived.Test.YtlohkfmobeapdaaPx7
import Derived.Test.YtlohkfmobeapdaaPx8
import Derived.Test.YtlohkfmobeapdaaPx8
namespace Go.Proofs.Ytlohkfmobeapdaa.Pure
open Go.RowKit Go.Proofs.Ytlohkfmobeapdaa.P Go.Proofs.YtlohkfmobeapdaaW.PrintWords Go.Proofs.YtlohkfmobeapdaaW.PrintLast Go.Proofs.YtlohkfmobeapdaaW.PrintMore
set_option linter.unusedVariables false
set_option linter.unusedSimpArgs false

/-! ### lists sorted by names -/
def ltN (a b : Lab) : Prop := a.f0.toList < b.f0.toList
theorem ltN_asymm {a b : Lab} (h : ltN a b) (h2 : ltN b a) : False := List.lt_asymm h h2
theorem ltN_ne {a b : Lab} (h : ltN a b) : a.f0 ≠ b.f0 := fun e => by unfold ltN at h; rw [e] at h; exact List.lt_irrefl _ h
theorem sorted_unique : ∀ (a b : List Lab), a.Pairwise ltN → b.Pairwise ltN → a.Perm b → a = b
  | [], b, _, _, h => (List.nil_perm.1 h).symm ▸ rfl
  | x :: xs, [], _, _, h => absurd h.length_eq (by simp)
  | x :: xs, y :: ys, ha, hb, h => by
    have ha1 := List.pairwise_cons.1 ha
    have hb1 := List.pairwise_cons.1 hb
    have hxy : x = y := by
      have hx : x ∈ y :: ys := h.mem_iff.1 List.mem_cons_self
      have hy : y ∈ x :: xs := h.mem_iff.2 List.mem_cons_self
      rcases List.mem_cons.1 hx with e | hx
      · exact e
      · rcases List.mem_cons.1 hy with e | hy
        · exact e.symm
        · exact (ltN_asymm (ha1.1 y hy) (hb1.1 x hx)).elim
    subst hxy
    rw [sorted_unique xs ys ha1.2 hb1.2 (List.Perm.cons_inv h)]

theorem sortL_perm (l : List Lab) : (sortL l).Perm l := by
  have h := (sortL_spec l).1
  have h2 := h.2.2
  have e1 : ∀ (d : Array Lab) (n : Nat), d.size = n → d.extract 0 n = d := by rintro d n rfl; simp
  rw [e1 _ _ (h.1.trans (by simp)), e1 l.toArray _ (by simp)] at h2
  exact h2
theorem sortL_sorted (l : List Lab) : (sortL l).Pairwise fun a b => ¬ ltN b a := by
  rw [List.pairwise_iff_getElem]
  intro i j hi hj hij
  have h := (sortL_spec l).2 i j (Nat.zero_le _) hij (by rw [sortL_len] at hj; exact hj)
  rw [lessL_eq, decide_eq_false_iff_not] at h
  have hs : (Sort.insertionSort lessL l.toArray 0 l.length).size = l.length := by rw [(sortL_spec l).1.1]; simp
  rw [sortL_len] at hi hj
  rw [getElem!_pos _ j (by omega), getElem!_pos _ i (by omega)] at h
  simpa [sortL, ltN] using h
theorem strict_of {l : List Lab} (h : l.Pairwise fun a b => ¬ ltN b a) (hn : l.Pairwise fun a b => a.f0 ≠ b.f0) : l.Pairwise ltN :=
  List.Pairwise.imp₂ (fun a b h1 h2 => by
    rcases List.le_iff_lt_or_eq.1 (List.not_lt.1 h1) with h3 | h3
    · exact h3
    · exact absurd (ba_ext h3) h2) h hn
theorem distinct_perm {a b : List Lab} (h : a.Perm b) (ha : a.Pairwise fun x y => x.f0 ≠ y.f0) : b.Pairwise fun x y => x.f0 ≠ y.f0 := (h.pairwise_iff (fun h => Ne.symm h)).1 ha
theorem sortL_strict (l : List Lab) (hn : l.Pairwise fun a b => a.f0 ≠ b.f0) : (sortL l).Pairwise ltN := strict_of (sortL_sorted l) (distinct_perm (sortL_perm l).symm hn)
theorem sortL_of (l s : List Lab) (hs : s.Pairwise ltN) (hp : s.Perm l) : sortL l = s :=
  sorted_unique _ _ (sortL_strict l (distinct_perm hp (hs.imp ltN_ne))) hs ((sortL_perm l).trans hp.symm)

/-! ### errors -/
def okL (x : Lab) : Prop := nameB x.f0 = true ∧ x.f1.toList.isEmpty = false ∧ valueB x.f1 = true
theorem nameIn_iff (l : List Lab) (n : ByteArray) : nameIn l n = true ↔ ∃ y ∈ l, y.f0 = n := by
  unfold nameIn
  rw [List.any_eq_true]
  exact ⟨fun ⟨y, h1, h2⟩ => ⟨y, h1, ba_ext (beq_iff_eq.1 h2)⟩, fun ⟨y, h1, h2⟩ => ⟨y, h1, by rw [h2]; exact beq_self_eq_true _⟩⟩
theorem newErr_none : ∀ (l seen : List Lab), newErr seen l = none ↔ (∀ x ∈ l, okL x) ∧ (l.Pairwise fun a b => a.f0 ≠ b.f0) ∧ ∀ x ∈ l, ∀ y ∈ seen, y.f0 ≠ x.f0
  | [], seen => by simp [newErr]
  | x :: r, seen => by
    unfold newErr
    by_cases h1 : nameB x.f0 = false
    · rw [if_pos h1]
      refine ⟨(fun h => by cases h), (fun h => ?_)⟩
      have := (h.1 x List.mem_cons_self).1
      rw [h1] at this; cases this
    · rw [if_neg h1]
      by_cases h2 : (x.f1.toList.isEmpty || !valueB x.f1) = true
      · rw [if_pos h2]
        refine ⟨(fun h => by cases h), (fun h => ?_)⟩
        have := h.1 x List.mem_cons_self
        rw [this.2.1, this.2.2] at h2; cases h2
      · rw [if_neg h2]
        have hok : okL x := by
          refine ⟨by simpa using h1, ?_, ?_⟩
          · cases he : x.f1.toList.isEmpty
            · rfl
            · rw [he] at h2; exact absurd rfl h2
          · cases he : valueB x.f1
            · rw [he] at h2; simp at h2
            · rfl
        by_cases h3 : nameIn seen x.f0 = true
        · rw [if_pos h3]
          refine ⟨(fun h => by cases h), (fun h => ?_)⟩
          obtain ⟨y, hy, e⟩ := (nameIn_iff _ _).1 h3
          exact absurd e (h.2.2 x List.mem_cons_self y hy)
        · rw [if_neg h3, newErr_none r (seen ++ [x])]
          constructor
          · rintro ⟨a, b, c⟩
            refine ⟨fun z hz => ?_, List.pairwise_cons.2 ⟨fun z hz => c z hz x (by simp), b⟩, fun z hz y hy => ?_⟩
            · rcases List.mem_cons.1 hz with rfl | hz
              · exact hok
              · exact a z hz
            · rcases List.mem_cons.1 hz with rfl | hz
              · intro e; exact h3 ((nameIn_iff _ _).2 ⟨y, hy, e⟩)
              · exact c z hz y (by simp [hy])
          · rintro ⟨a, b, c⟩
            have b' := List.pairwise_cons.1 b
            refine ⟨fun z hz => a z (List.mem_cons_of_mem _ hz), b'.2, fun z hz y hy => ?_⟩
            rcases List.mem_append.1 hy with hy | hy
            · exact c z (List.mem_cons_of_mem _ hz) y hy
            · rw [List.mem_singleton.1 hy]; exact b'.1 z hz

/-- What New gives. -/
def newR (l : List Lab) : List Lab × Int := if 8 < l.length then ([], 4) else match newErr [] l with | some e => ([], e) | none => (sortL l, 0)
theorem new_eq (l : List Lab) : labels_New.f l = some (newR l) := by
  unfold labels_New.f newR
  split
  · rfl
  · cases newErr [] l <;> rfl
/-- A label set: at most eight labels, each as it must be, by their names. -/
structure SetOk (l : List Lab) : Prop where
  len : l.length ≤ 8
  ok : ∀ x ∈ l, okL x
  srt : l.Pairwise ltN
theorem newR_set (l s : List Lab) (h : SetOk s) (hp : s.Perm l) : newR l = (s, 0) := by
  unfold newR
  have hl := hp.length_eq
  have hn : newErr [] l = none := (newErr_none l []).2 ⟨fun x hx => h.ok x (hp.mem_iff.2 hx), distinct_perm hp (h.srt.imp ltN_ne), by simp⟩
  rw [if_neg (by have := h.len; omega), hn]
  simp only
  rw [sortL_of l s h.srt hp]
theorem newR_ok (l : List Lab) (h : (newR l).2 = 0) : SetOk (newR l).1 ∧ (newR l).1.Perm l := by
  unfold newR at *
  split at h
  · exact absurd h (by decide)
  · rename_i hl
    rw [if_neg hl]
    cases hn : newErr [] l with
    | some e =>
      rw [hn] at h
      simp only at h
      subst h
      exact absurd hn (by
        intro hn
        have : ∀ (l seen : List Lab), newErr seen l ≠ some 0 := by
          intro l
          induction l with
          | nil => intro seen h; cases h
          | cons x r ih =>
            intro seen h
            unfold newErr at h
            split at h
            · cases h
            · split at h
              · cases h
              · split at h
                · cases h
                · exact ih _ h
        exact this _ _ hn)
    | none =>
      simp only
      have hh := (newErr_none l []).1 hn
      exact ⟨⟨by rw [sortL_len]; omega, fun x hx => hh.1 x ((sortL_perm l).mem_iff.1 hx), sortL_strict l hh.2.1⟩, sortL_perm l⟩

/-! ### the reference -/
theorem refIns (l out : List Lab) (x : Lab) (i : Nat) (hi : i < l.length) (hx : l[i] = x) (hl : l.length ≤ 8) (ho : out.length ≤ 8) (hs : out.Pairwise ltN) {r : List Lab × Int}
    (htwice : (∃ y ∈ out, y.f0 = x.f0) → r = ([], 10))
    (hgo : ∀ out', out'.Pairwise ltN → out'.Perm (out ++ [x]) → Ev (fun k => intervalmonref05_New.l0 k l out' ((i + 1 : Nat) : Int)) r) (d : Nat) :
    ∀ j : Nat, j + d = out.length → (∀ y ∈ out.take j, ltN y x) → Ev (fun k => intervalmonref05_New.l1 k l out (i : Int) (out.take j) (j : Int)) r := by
  have fin : ∀ j : Nat, j ≤ out.length → (∀ y ∈ out.take j, ltN y x) → (∀ y ∈ out.drop j, ltN x y) → (out.take j ++ x :: out.drop j).Pairwise ltN ∧ (out.take j ++ x :: out.drop j).Perm (out ++ [x]) := by
    intro j hj h1 h2
    constructor
    · rw [List.pairwise_append]
      have h3 := hs
      rw [← List.take_append_drop j out, List.pairwise_append] at h3
      refine ⟨h3.1, List.pairwise_cons.2 ⟨h2, h3.2.1⟩, fun a ha b hb => ?_⟩
      rcases List.mem_cons.1 hb with rfl | hb
      · exact h1 a ha
      · exact h3.2.2 a ha b hb
    · refine List.perm_middle.trans ?_
      rw [List.take_append_drop]
      exact (List.perm_append_singleton x out).symm
  have hrx : rd_T33 l (i : Int) = x := by rw [rdL l i hi, hx]
  have eta : ∀ z : Lab, (⟨z.f0, z.f1⟩ : Lab) = z := fun z => rfl
  induction d with
  | zero =>
    intro j hj ha
    refine Ev.up ?_
    simp only [intervalmonref05_New.l1]
    have h5 := fin j (by omega) ha (by rw [List.drop_of_length_le (by omega)]; simp)
    simp only [show ¬ ((j : Int) < (out.length : Int)) by omega, if_false, Int.natCast_nonneg, show (i : Int) < (l.length : Int) by omega, show (out.take j).length < 4398046511104 by simp; omega, if_true, hrx, Option.bind_some, show (j : Int) ≤ (out.length : Int) by omega, Int.toNat_natCast, eta, show (out.take j ++ [x]).length + (out.drop j).length < 4398046511104 by simp; omega, w64s i (by omega)]
    rw [List.append_assoc, List.singleton_append]
    exact hgo _ h5.1 h5.2
  | succ d ih =>
    intro j hj ha
    refine Ev.up ?_
    simp only [intervalmonref05_New.l1]
    have hlt : j < out.length := by omega
    simp only [show ((j : Int) < (out.length : Int)) by omega, Int.natCast_nonneg, show (i : Int) < (l.length : Int) by omega, show (out.take j).length < 4398046511104 by simp; omega, if_true, hrx, rdL out j hlt, Option.bind_some, show (j : Int) ≤ (out.length : Int) by omega, Int.toNat_natCast, eta, show (out.take j ++ [x]).length + (out.drop j).length < 4398046511104 by simp; omega, w64s i (by omega), w64s j (by omega), bytesLess_lt]
    by_cases h : out[j].f0.toList < x.f0.toList
    · simp only [decide_eq_true h, if_true]
      have ih' := ih (j + 1) (by omega) (by
        intro y hy
        rw [List.take_succ_eq_append_getElem hlt] at hy
        rcases List.mem_append.1 hy with hy | hy
        · exact ha y hy
        · rw [List.mem_singleton.1 hy]; exact h)
      rw [List.take_succ_eq_append_getElem hlt] at ih'
      exact ih'
    · simp only [decide_eq_false h, Bool.false_eq_true, if_false]
      by_cases he : out[j].f0.toList = x.f0.toList
      · simp only [he, if_true]
        rw [htwice ⟨out[j], List.getElem_mem _, ba_ext he⟩]
        exact Ev.some _
      · simp only [he, if_false]
        have hxj : ltN x out[j] := by
          rcases List.le_iff_lt_or_eq.1 (List.not_lt.1 h) with h3 | h3
          · exact h3
          · exact absurd h3.symm he
        have h5 := fin j (by omega) ha (by
          intro y hy
          rw [List.drop_eq_getElem_cons hlt] at hy
          rcases List.mem_cons.1 hy with rfl | hy
          · exact hxj
          · have h3 := hs
            rw [← List.take_append_drop j out, List.pairwise_append, List.drop_eq_getElem_cons hlt] at h3
            exact List.lt_trans hxj ((List.pairwise_cons.1 h3.2.1).1 y hy))
        rw [List.append_assoc, List.singleton_append]
        exact hgo _ h5.1 h5.2

theorem refNew_loop (l : List Lab) (hl : l.length ≤ 8) (d : Nat) : ∀ (i : Nat) (out : List Lab), i + d = l.length → out.Pairwise ltN → out.Perm (l.take i) → newErr (l.take i) (l.drop i) = newErr [] l →
    Ev (fun k => intervalmonref05_New.l0 k l out (i : Int)) (newR l) := by
  induction d with
  | zero =>
    intro i out hi hs hp hE
    refine Ev.up ?_
    simp only [intervalmonref05_New.l0]
    simp only [show ¬ ((i : Int) < (l.length : Int)) by omega, if_false]
    rw [List.drop_of_length_le (by omega)] at hE
    rw [List.take_of_length_le (by omega)] at hp
    unfold newR
    rw [if_neg (by omega), ← hE]
    simp only [newErr]
    rw [sortL_of l out hs hp]
    exact Ev.some _
  | succ d ih =>
    intro i out hi hs hp hE
    refine Ev.up ?_
    simp only [intervalmonref05_New.l0]
    have hlt : i < l.length := by omega
    have hol : out.length ≤ 8 := by rw [hp.length_eq, List.length_take]; omega
    simp only [show ((i : Int) < (l.length : Int)) by omega, if_true, Int.natCast_nonneg, rdL l i hlt]
    have hE' := newErr_cons l i hlt
    rw [hE] at hE'
    have hR : ∀ e, newErr [] l = some e → newR l = ([], e) := fun e he => by unfold newR; rw [if_neg (by omega), he]
    refine Ev.bind (refName _) ?_
    cases h1 : nameB l[i].f0
    · rw [if_pos h1] at hE'
      rw [hR _ hE']
      simp only [Bool.false_eq_true, if_false]
      exact Ev.some _
    · rw [if_neg (by rw [h1]; decide)] at hE'
      simp only [if_true]
      have bad : ∀ out, (newErr [] l = some 1) → Ev (fun k => intervalmonref05_New.j1 k l out (i : Int) true) (newR l) := fun out h => by
        rw [hR _ h]
        refine Ev.up ?_
        simp only [intervalmonref05_New.j1]
        simp only [if_true]
        exact Ev.some _
      by_cases h2 : l[i].f1.toList = []
      · simp only [if_pos h2]
        rw [h2] at hE'
        exact bad _ (by rw [hE']; rfl)
      · have h2' : l[i].f1.toList.isEmpty = false := by cases h : l[i].f1.toList with
          | nil => exact absurd h h2
          | cons => rfl
        rw [h2', Bool.false_or] at hE'
        simp only [if_neg h2]
        refine Ev.bind (refValue _) ?_
        cases h3 : valueB l[i].f1
        · rw [h3] at hE'
          exact bad _ (by rw [hE']; rfl)
        · rw [h3, if_neg (by decide)] at hE'
          refine Ev.up ?_
          simp only [intervalmonref05_New.j1]
          simp only [Bool.not_true, Bool.false_eq_true, if_false]
          have htw : (∃ y ∈ out, y.f0 = l[i].f0) → newR l = ([], 10) := by
            rintro ⟨y, hy, e⟩
            exact hR _ (by rw [hE', if_pos ((nameIn_iff _ _).2 ⟨y, hp.mem_iff.1 hy, e⟩)])
          have hgo : ∀ out', out'.Pairwise ltN → out'.Perm (out ++ [l[i]]) → Ev (fun k => intervalmonref05_New.l0 k l out' ((i + 1 : Nat) : Int)) (newR l) := by
            intro out' hs' hp'
            have hperm : out'.Perm (l.take (i + 1)) := by
              rw [List.take_succ_eq_append_getElem hlt]
              exact hp'.trans (hp.append_right _)
            by_cases h4 : nameIn (l.take i) l[i].f0 = true
            · exfalso
              obtain ⟨y, hy, e⟩ := (nameIn_iff _ _).1 h4
              have hd := distinct_perm hp' (hs'.imp ltN_ne)
              rw [List.pairwise_append] at hd
              exact hd.2.2 y (hp.mem_iff.2 hy) l[i] (by simp) e
            · rw [if_neg h4] at hE'
              exact ih (i + 1) out' (by omega) hs' hperm hE'.symm
          exact refIns l out l[i] i hlt rfl hl hol hs htw hgo out.length 0 (by omega) (by simp)
theorem refNew (l : List Lab) : Ev (fun k => intervalmonref05_New.f k l) (newR l) := by
  unfold intervalmonref05_New.f
  by_cases h : (l.length : Int) > 8
  · simp only [if_pos h]
    unfold newR
    rw [if_pos (by omega)]
    exact Ev.some _
  · simp only [if_neg h]
    exact refNew_loop l (by omega) l.length 0 [] (by omega) List.Pairwise.nil (by simp) rfl

/-! ### Valid -/
def validB (l : List Lab) : Bool := decide ((newR l).2 = 0) && decide ((newR l).1 = l)
theorem valid_loop (l s : List Lab) (hs : s.length = l.length) (hl : l.length ≤ 8) (d : Nat) : ∀ i : Nat, i + d = s.length → Ev (fun k => labels_Valid.l0 k l s (s.length : Int) (i : Int)) (decide (s.drop i = l.drop i)) := by
  induction d with
  | zero =>
    intro i hi
    refine Ev.up ?_
    simp only [labels_Valid.l0]
    simp only [show ¬ ((i : Int) < (s.length : Int)) by omega, if_false, List.drop_of_length_le (show s.length ≤ i by omega), List.drop_of_length_le (show l.length ≤ i by omega), decide_true]
    exact Ev.some _
  | succ d ih =>
    intro i hi
    refine Ev.up ?_
    simp only [labels_Valid.l0]
    have hlt : i < s.length := by omega
    have hlt2 : i < l.length := by omega
    have ih' := ih (i + 1) (by omega)
    simp only [show ((i : Int) < (s.length : Int)) by omega, show ((i : Int) < (l.length : Int)) by omega, if_true, Int.natCast_nonneg, rdL s i hlt, rdL l i hlt2, w64s i (by omega)]
    rw [List.drop_eq_getElem_cons hlt, List.drop_eq_getElem_cons hlt2]
    by_cases h : s[i] = l[i]
    · simp only [h, beq_self_eq_true, Bool.not_true, Bool.or_self, Bool.false_eq_true, if_false, List.cons.injEq, true_and]
      exact ih'
    · have hn : (!(s[i].f0.toList == l[i].f0.toList) || !(s[i].f1.toList == l[i].f1.toList)) = true := by
        rw [Bool.or_eq_true, Bool.not_eq_true', Bool.not_eq_true', beq_eq_false_iff_ne, beq_eq_false_iff_ne]
        rcases Classical.em (s[i].f0.toList = l[i].f0.toList) with h1 | h1
        · right; intro h2; apply h
          have e1 := ba_ext h1; have e2 := ba_ext h2
          cases hx : s[i]; cases hy : l[i]; rw [hx, hy] at e1 e2; simp at e1 e2; rw [e1, e2]
        · exact .inl h1
      simp only [hn, if_true, List.cons.injEq, h, false_and, decide_false]
      exact Ev.some _
theorem valid_ev (l : List Lab) : Ev (fun k => labels_Valid.f k l) (validB l) := by
  unfold labels_Valid.f validB
  simp only [new_eq, Option.bind_some]
  by_cases h : (newR l).2 = 0
  · simp only [if_pos h, decide_eq_true h, Bool.true_and]
    obtain ⟨h1, h2⟩ := newR_ok l h
    exact valid_loop l (newR l).1 h2.length_eq (by rw [← h2.length_eq]; exact h1.len) (newR l).1.length 0 (by omega)
  · simp only [if_neg h, decide_eq_false h, Bool.false_and]
    exact Ev.some _
theorem refValid_ev (l : List Lab) : Ev (fun k => intervalmonref05_Valid.f k l) (validB l) := by
  unfold intervalmonref05_Valid.f validB
  refine Ev.bind (refNew l) ?_
  by_cases h : (newR l).2 = 0
  · simp only [if_pos h, decide_eq_true h, Bool.true_and]
    exact Ev.bind (same_ev (newR l).1 l (by have := (newR_ok l h).1.len; omega)) (Ev.some _)
  · simp only [if_neg h, decide_eq_false h, Bool.false_and]
    exact Ev.some _
theorem validB_set {s : List Lab} (h : SetOk s) : validB s = true := by
  unfold validB
  rw [newR_set s s h (List.Perm.refl _)]
  simp
end Go.Proofs.Ytlohkfmobeapdaa.Pure
