/- Graphs, plainly: paths, orders, lists of nodes. No program in sight. -/
import Derived.Test.YtcamljlhdejmmaaMB
namespace Go.Proofs.Ytcamljlhdejmmaa.Pure
open Go.RowKit Go.Proofs.Ytcamljlhdejmmaa.P Go.Proofs.YtcamljlhdejmmaaW.PrintWords Go.Proofs.YtcamljlhdejmmaaW.PrintLast Go.Proofs.YtcamljlhdejmmaaW.PrintMore
set_option linter.unusedVariables false
set_option linter.unusedSimpArgs false

/-! ### lists with an entry for each node -/
def mk {α : Type} (N : Nat) (f : Int → α) : List α := (List.range N).map fun i : Nat => f (i : Int)
theorem mk_len {α : Type} (N : Nat) (f : Int → α) : (mk N f).length = N := by simp [mk]
theorem mk_get {α : Type} (N : Nat) (f : Int → α) (i : Nat) (h : i < (mk N f).length) : (mk N f)[i] = f (i : Int) := by simp [mk]
theorem mk_getD {α : Type} (N : Nat) (f : Int → α) (d : α) (v : Int) (h0 : 0 ≤ v) (h1 : v < N) : (mk N f).getD v.toNat d = f v := by
  have h : v.toNat < (mk N f).length := by rw [mk_len]; omega
  rw [List.getD_eq_getElem?_getD, List.getElem?_eq_getElem h, Option.getD_some, mk_get, Int.toNat_of_nonneg h0]
theorem mk_rd (N : Nat) (f : Int → Int) (v : Int) (h0 : 0 ≤ v) (h1 : v < N) : rd (mk N f) v = f v := mk_getD N f 0 v h0 h1
theorem mk_rdOf {α : Type} (N : Nat) (f : Int → α) (d : α) (v : Int) (h0 : 0 ≤ v) (h1 : v < N) : rdOf d (mk N f) v = f v := mk_getD N f d v h0 h1
theorem mk_congr {α : Type} (N : Nat) (f g : Int → α) (h : ∀ v : Int, 0 ≤ v → v < N → f v = g v) : mk N f = mk N g := by
  unfold mk
  refine List.map_congr_left (fun i hi => h _ (by omega) ?_)
  rw [List.mem_range] at hi
  omega
theorem mk_set {α : Type} (N : Nat) (f : Int → α) (v : Int) (x : α) (h0 : 0 ≤ v) : (mk N f).set v.toNat x = mk N (fun u => if u = v then x else f u) := by
  refine List.ext_getElem (by simp [mk_len]) (fun i h1 h2 => ?_)
  rw [List.getElem_set, mk_get, mk_get]
  by_cases h : v.toNat = i
  · rw [if_pos h, if_pos (by omega)]
  · rw [if_neg h, if_neg (by omega)]
theorem mk_rep {α : Type} (N : Nat) (x : α) : List.replicate N x = mk N (fun _ => x) := by
  refine List.ext_getElem (by simp [mk_len]) (fun i h1 h2 => ?_)
  rw [List.getElem_replicate, mk_get]

/-! ### how many nodes there can be -/
theorem len_of_sub (l : List Int) : ∀ m : List Int, l.Nodup → (∀ x ∈ l, x ∈ m) → l.length ≤ m.length := by
  induction l with
  | nil => intro m _ _; simp
  | cons a r ih =>
    intro m hn hs
    rw [List.nodup_cons] at hn
    have ha := hs a (by simp)
    have := ih (m.erase a) hn.2 (fun x hx => (List.mem_erase_of_ne (fun h => by subst h; exact hn.1 hx)).2 (hs x (by simp [hx])))
    rw [List.length_erase_of_mem ha] at this
    have hp := List.length_pos_of_mem ha
    simp only [List.length_cons]
    omega
def nodes (N : Nat) : List Int := mk N id
theorem mem_nodes (N : Nat) (v : Int) : v ∈ nodes N ↔ 0 ≤ v ∧ v < N := by
  unfold nodes mk
  rw [List.mem_map]
  constructor
  · rintro ⟨i, hi, rfl⟩
    rw [List.mem_range] at hi
    simp only [id]
    omega
  · rintro ⟨h0, h1⟩
    exact ⟨v.toNat, by rw [List.mem_range]; omega, by simp only [id]; omega⟩
theorem nodes_nodup (N : Nat) : (nodes N).Nodup := by
  unfold nodes mk
  rw [List.nodup_iff_pairwise_ne, List.pairwise_map]
  refine List.Pairwise.imp ?_ (List.nodup_iff_pairwise_ne.1 (List.nodup_range (n := N)))
  intro a b h hab
  simp only [id] at hab
  omega
theorem len_le (N : Nat) (l : List Int) (hn : l.Nodup) (h : ∀ x ∈ l, 0 ≤ x ∧ x < N) : l.length ≤ N := by
  have := len_of_sub l (nodes N) hn (fun x hx => (mem_nodes N x).2 (h x hx))
  rwa [show (nodes N).length = N from mk_len N id] at this
theorem len_lt (N : Nat) (l : List Int) (hn : l.Nodup) (h : ∀ x ∈ l, 0 ≤ x ∧ x < N) (v : Int) (hv : 0 ≤ v ∧ v < N) (hm : ¬ v ∈ l) : l.length < N := by
  have := len_le N (v :: l) (List.nodup_cons.2 ⟨hm, hn⟩) (fun x hx => by
    rcases List.mem_cons.1 hx with rfl | hx
    · exact hv
    · exact h x hx)
  simp only [List.length_cons] at this
  omega
theorem all_in (N : Nat) (l : List Int) (h : ∀ v : Int, 0 ≤ v → v < N → v ∈ l) : N ≤ l.length := by
  have := len_of_sub (nodes N) l (nodes_nodup N) (fun x hx => h x ((mem_nodes N x).1 hx).1 ((mem_nodes N x).1 hx).2)
  rwa [show (nodes N).length = N from mk_len N id] at this

/-! ### paths -/
inductive Path (E : List (Int × Int)) : Int → Int → Prop where
  | one {a b : Int} : (a, b) ∈ E → Path E a b
  | snoc {a b c : Int} : Path E a b → (b, c) ∈ E → Path E a c
theorem Path.trans {E : List (Int × Int)} {a b c : Int} (h : Path E a b) (k : Path E b c) : Path E a c := by
  induction k with
  | one e => exact .snoc h e
  | snoc _ e ih => exact .snoc ih e
theorem Path.sub {E F : List (Int × Int)} (hs : ∀ e ∈ E, e ∈ F) {a b : Int} (h : Path E a b) : Path F a b := by
  induction h with
  | one e => exact .one (hs _ e)
  | snoc _ e ih => exact .snoc ih (hs _ e)
def InR (N : Nat) (E : List (Int × Int)) : Prop := ∀ e ∈ E, 0 ≤ e.1 ∧ e.1 < N ∧ 0 ≤ e.2 ∧ e.2 < N
theorem Path.ends {N : Nat} {E : List (Int × Int)} (hr : InR N E) {a b : Int} (h : Path E a b) : (0 ≤ a ∧ a < N) ∧ 0 ≤ b ∧ b < N := by
  induction h with
  | one e => have := hr _ e; exact ⟨⟨this.1, this.2.1⟩, this.2.2⟩
  | snoc _ e ih => have := hr _ e; exact ⟨ih.1, this.2.2⟩
theorem Path.rank {E : List (Int × Int)} (ρ : Int → Int) (hρ : ∀ e ∈ E, ρ e.1 < ρ e.2) {a b : Int} (h : Path E a b) : ρ a < ρ b := by
  induction h with
  | one e => exact hρ _ e
  | snoc _ e ih => have := hρ _ e; simp only at this; omega
/-- The last step, looked at from its end. -/
theorem Path.last {E : List (Int × Int)} {a b : Int} (h : Path E a b) : ∃ c, (c, b) ∈ E ∧ (a = c ∨ Path E a c) := by
  cases h with
  | one e => exact ⟨a, e, Or.inl rfl⟩
  | snoc p e => exact ⟨_, e, Or.inr p⟩
theorem Path.of_last {E : List (Int × Int)} {a b c : Int} (e : (c, b) ∈ E) (h : a = c ∨ Path E a c) : Path E a b := by
  rcases h with rfl | h
  · exact .one e
  · exact .snoc h e

/-! ### orders that the edges follow -/
structure Topo (N : Nat) (E : List (Int × Int)) (out : List Int) : Prop where
  nodup : out.Nodup
  range : ∀ v ∈ out, 0 ≤ v ∧ v < N
  before : ∀ t (h : t < out.length), ∀ a, (a, out[t]) ∈ E → a ∈ out.take t
  closed : ∀ v : Int, 0 ≤ v → v < N → (∀ a, (a, v) ∈ E → a ∈ out) → v ∈ out
theorem take_mem {l : List Int} {t : Nat} {a : Int} (h : a ∈ l.take t) : ∃ j, ∃ hj : j < l.length, j < t ∧ l[j] = a := by
  obtain ⟨j, hj, rfl⟩ := List.mem_iff_getElem.1 h
  rw [List.length_take] at hj
  exact ⟨j, by omega, by omega, by simp⟩
theorem mem_take {l : List Int} {t j : Nat} (hj : j < l.length) (h : j < t) : l[j] ∈ l.take t := by
  rw [List.mem_iff_getElem]
  exact ⟨j, by rw [List.length_take]; omega, by simp⟩
theorem Topo.path {N : Nat} {E : List (Int × Int)} {out : List Int} (T : Topo N E out) {a b : Int} (h : Path E a b) : ∀ t (ht : t < out.length), out[t] = b → ∃ j, ∃ hj : j < out.length, j < t ∧ out[j] = a := by
  induction h with
  | one e =>
    intro t ht hb
    subst hb
    exact take_mem (T.before t ht _ e)
  | snoc _ e ih =>
    intro t ht hb
    subst hb
    obtain ⟨j, hj, hjt, hj2⟩ := take_mem (T.before t ht _ e)
    obtain ⟨i, hi, hij, hi2⟩ := ih j hj hj2
    exact ⟨i, hi, by omega, hi2⟩
theorem nodup_inj {l : List Int} (h : l.Nodup) {i j : Nat} (hi : i < l.length) (hj : j < l.length) (he : l[i] = l[j]) : i = j := by
  rcases Nat.lt_trichotomy i j with h1 | h1 | h1
  · exact absurd he (List.pairwise_iff_getElem.1 (List.nodup_iff_pairwise_ne.1 h) i j hi hj h1)
  · exact h1
  · exact absurd he.symm (List.pairwise_iff_getElem.1 (List.nodup_iff_pairwise_ne.1 h) j i hj hi h1)
theorem Topo.no_cycle {N : Nat} {E : List (Int × Int)} {out : List Int} (T : Topo N E out) {v : Int} (hv : v ∈ out) : ¬ Path E v v := by
  intro h
  obtain ⟨t, ht, hb⟩ := List.mem_iff_getElem.1 hv
  obtain ⟨j, hj, hjt, hj2⟩ := T.path h t ht hb
  have := nodup_inj T.nodup hj ht (by rw [hj2, hb])
  omega
/-- As long as there is no cycle, a node that is left out leads back to as many others as one likes. -/
theorem Topo.chain {N : Nat} {E : List (Int × Int)} {out : List Int} (T : Topo N E out) (hr : InR N E) {v : Int} (hv : 0 ≤ v ∧ v < N) (hm : ¬ v ∈ out) : ∀ n : Nat, ∃ c : Int, ∃ l : List Int, l.length = n ∧ (∀ x ∈ c :: l, 0 ≤ x ∧ x < N) ∧ ¬ c ∈ out ∧ (c :: l).Pairwise (Path E) := by
  intro n
  induction n with
  | zero => exact ⟨v, [], rfl, (fun x hx => by rw [List.mem_singleton] at hx; subst hx; exact hv), hm, by simp⟩
  | succ n ih =>
    obtain ⟨c, l, hl, hx, hc, hp⟩ := ih
    have hcr := hx c (by simp)
    have : ∃ a, (a, c) ∈ E ∧ ¬ a ∈ out := by
      refine Classical.byContradiction fun hh => hc (T.closed c hcr.1 hcr.2 (fun a ha => Classical.byContradiction fun h2 => hh ⟨a, ha, h2⟩))
    obtain ⟨a, ha, hao⟩ := this
    have har := hr _ ha
    refine ⟨a, c :: l, by simp [hl], (fun x hx2 => ?_), hao, List.pairwise_cons.2 ⟨fun y hy => ?_, hp⟩⟩
    · rcases List.mem_cons.1 hx2 with rfl | h
      · exact ⟨har.1, har.2.1⟩
      · exact hx x h
    · rcases List.mem_cons.1 hy with rfl | h
      · exact .one ha
      · exact Path.trans (.one ha) ((List.pairwise_cons.1 hp).1 y h)
theorem Topo.full {N : Nat} {E : List (Int × Int)} {out : List Int} (T : Topo N E out) (hr : InR N E) (hc : ∀ v : Int, 0 ≤ v → v < N → ¬ Path E v v) : ∀ v : Int, 0 ≤ v → v < N → v ∈ out := by
  intro v h0 h1
  refine Classical.byContradiction fun hm => ?_
  obtain ⟨c, l, hl, hx, -, hp⟩ := T.chain hr ⟨h0, h1⟩ hm N
  have hn : (c :: l).Nodup := by
    rw [List.nodup_iff_pairwise_ne]
    refine List.Pairwise.imp_of_mem ?_ hp
    intro a b ha hb hab he
    subst he
    have := hx a ha
    exact hc a this.1 this.2 hab
  have := len_le N (c :: l) hn hx
  simp at this
  omega
/-- A list shorter than the number of nodes tells a cycle, and the other way round. -/
theorem Topo.short {N : Nat} {E : List (Int × Int)} {out : List Int} (T : Topo N E out) (hr : InR N E) : out.length < N ↔ ∃ v : Int, 0 ≤ v ∧ v < N ∧ Path E v v := by
  constructor
  · intro h
    refine Classical.byContradiction fun hh => ?_
    have := all_in N out (T.full hr (fun v h0 h1 hp => hh ⟨v, h0, h1, hp⟩))
    omega
  · rintro ⟨v, h0, h1, hp⟩
    exact len_lt N out T.nodup T.range v ⟨h0, h1⟩ (fun hm => T.no_cycle hm hp)
/-- Where there is no cycle, there is a number for each node that grows along the edges. -/
theorem Topo.ranked {N : Nat} {E : List (Int × Int)} {out : List Int} (T : Topo N E out) (hall : ∀ v : Int, 0 ≤ v → v < N → v ∈ out) (hr : InR N E) : ∃ ρ : Int → Nat, ∀ a b, Path E a b → ρ a < ρ b := by
  refine ⟨fun v => out.idxOf v, fun a b h => ?_⟩
  have hb := h.ends hr
  have hbm := hall b hb.2.1 hb.2.2
  have hlt := List.idxOf_lt_length_of_mem hbm
  obtain ⟨j, hj, hjt, hj2⟩ := T.path h (out.idxOf b) hlt (List.getElem_idxOf hlt)
  have ham : a ∈ out := by rw [← hj2]; exact List.getElem_mem hj
  have hla := List.idxOf_lt_length_of_mem ham
  have : out.idxOf a = j := nodup_inj T.nodup hla hj (by rw [List.getElem_idxOf hla, hj2])
  show out.idxOf a < out.idxOf b
  omega

/-! ### counting edges into a node -/
def cin (E : List (Int × Int)) (S : List Int) (v : Int) : Nat := E.countP fun e => (e.2 == v) && !(S.contains e.1)
def nxt (E : List (Int × Int)) (u : Int) : List Int := (E.filter fun e => e.1 == u).map (·.2)
theorem cin_zero {E : List (Int × Int)} {S : List Int} {v : Int} : cin E S v = 0 ↔ ∀ a, (a, v) ∈ E → a ∈ S := by
  unfold cin
  rw [List.countP_eq_zero]
  constructor
  · intro h a ha
    have := h _ ha
    simpa using this
  · rintro h ⟨a, b⟩ he
    simp only [Bool.and_eq_true, beq_iff_eq, Bool.not_eq_true', not_and, Bool.not_eq_false]
    rintro rfl
    have := h a he
    simpa using this
theorem cin_snoc (E : List (Int × Int)) (S : List Int) (u v : Int) (hu : ¬ u ∈ S) : cin E S v = cin E (S ++ [u]) v + (nxt E u).count v := by
  induction E with
  | nil => simp [cin, nxt]
  | cons e r ih =>
    obtain ⟨a, b⟩ := e
    unfold cin nxt at ih ⊢
    rw [List.countP_cons, List.countP_cons, List.filter_cons, ih]
    by_cases hau : a = u
    · subst hau
      have e1 : (S.contains a) = false := by simpa using hu
      have e2 : ((S ++ [a]).contains a) = true := by simp
      simp only [e1, e2, beq_self_eq_true, if_true, Bool.not_false, Bool.not_true, Bool.and_true, Bool.and_false, List.map_cons, List.count_cons, Bool.false_eq_true, if_false]
      by_cases hb : b = v
      · simp [hb]; omega
      · simp [hb]
    · have e2 : ((S ++ [u]).contains a) = (S.contains a) := by
        rw [Bool.eq_iff_iff]
        simp [hau]
      have e3 : (a == u) = false := beq_eq_false_iff_ne.2 hau
      simp only [e2, e3, Bool.false_eq_true, if_false]
      omega
theorem mem_nxt {E : List (Int × Int)} {u v : Int} : v ∈ nxt E u ↔ (u, v) ∈ E := by
  unfold nxt
  rw [List.mem_map]
  constructor
  · rintro ⟨⟨a, b⟩, he, rfl⟩
    rw [List.mem_filter, beq_iff_eq] at he
    obtain ⟨h1, h2⟩ := he
    simp only at h2
    subst h2
    exact h1
  · intro h
    exact ⟨(u, v), by rw [List.mem_filter]; exact ⟨h, by simp⟩, rfl⟩
theorem nxt_len (E : List (Int × Int)) (u : Int) : (nxt E u).length ≤ E.length := by
  unfold nxt
  rw [List.length_map]
  exact List.length_filter_le _ _
theorem cin_le (E : List (Int × Int)) (S : List Int) (v : Int) : cin E S v ≤ E.length := List.countP_le_length
end Go.Proofs.Ytcamljlhdejmmaa.Pure
