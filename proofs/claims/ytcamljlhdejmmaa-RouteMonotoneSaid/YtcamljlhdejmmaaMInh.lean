/- Inhibited of the package and of the reference come to the same: a firing node to which there is a path from a firing one. -/
import Derived.Test.YtcamljlhdejmmaaMValid
import Derived.Test.YtcamljlhdejmmaaPx8
import Derived.Test.YtcamljlhdejmmaaPx14
namespace Go.Proofs.Ytcamljlhdejmmaa.Pure
open Go.RowKit Go.Proofs.Ytcamljlhdejmmaa.P Go.Proofs.YtcamljlhdejmmaaW.PrintWords Go.Proofs.YtcamljlhdejmmaaW.PrintLast Go.Proofs.YtcamljlhdejmmaaW.PrintMore
set_option linter.unusedVariables false
set_option linter.unusedSimpArgs false

/-- Who is inhibited, among nodes of which some are firing. -/
def Inh (n : Nat) (E : List (Int × Int)) (f I : Int → Bool) : Prop := ∀ v : Int, 0 ≤ v → v < n → (I v = true ↔ f v = true ∧ ∃ b : Int, 0 ≤ b ∧ b < n ∧ f b = true ∧ Path E b v)
theorem as_mk (n : Nat) (F : List Bool) (h : F.length = n) : F = mk n (rdOf false F) := by
  refine List.ext_getElem (by rw [mk_len, h]) (fun i h1 h2 => ?_)
  rw [mk_get]
  simp [rdOf, List.getD_eq_getElem?_getD, h1]
theorem Inh.same {n : Nat} {E : List (Int × Int)} {f I J : Int → Bool} (h : Inh n E f I) (k : Inh n E f J) : mk n I = mk n J := by
  refine mk_congr n _ _ (fun v h0 h1 => ?_)
  rw [Bool.eq_iff_iff, h v h0 h1, k v h0 h1]

section
variable (n : Nat) (hn : n ≤ 200) (l : List S27) (hr : InR n (ee l)) (hl : l.length < 4398046511104) (f : Int → Bool)
/-- Firing, or to be reached from a firing node. -/
def Hot (E : List (Int × Int)) (f : Int → Bool) (a : Int) : Prop := f a = true ∨ ∃ b, f b = true ∧ Path E b a

theorem inh_l3 (R : Int → Bool) (d : Nat) : ∀ (i : Nat), i + d = n → n ≤ 200 →
    Ev (fun k => route_Inhibited.l3 k (mk n f) (mk n fun v => if v < (i : Int) then R v && f v else R v) (n : Int) (i : Int)) (mk n fun v => R v && f v) := by
  induction d with
  | zero =>
    intro i hi hn
    refine Ev.up ?_
    simp only [route_Inhibited.l3]
    simp only [show ¬ ((i : Int) < (n : Int)) by omega, if_false]
    rw [mk_congr n (fun v => if v < (i : Int) then R v && f v else R v) (fun v => R v && f v) (fun v h0 h1 => if_pos (by omega))]
    exact Ev.some _
  | succ d ih =>
    intro i hi hn
    have := ih (i + 1) (by omega) hn
    refine Ev.up ?_
    simp only [route_Inhibited.l3]
    simp only [show ((i : Int) < (n : Int)) by omega, if_true, Int.natCast_nonneg, mk_len, mk_rdOf n _ false (i : Int) (by omega) (by omega), show ¬ ((i : Int) < (i : Int)) by omega, if_false, w64s i (by omega)]
    have upd : ∀ x, x = (R (i : Int) && f (i : Int)) → (mk n fun v => if v < (i : Int) then R v && f v else R v).set ((i : Int)).toNat x = mk n fun v => if v < ((i + 1 : Nat) : Int) then R v && f v else R v := by
      intro x hx
      rw [mk_set n _ _ _ (by omega)]
      refine mk_congr n _ _ (fun v h0 h1 => ?_)
      by_cases hv : v = (i : Int)
      · subst hv; rw [if_pos rfl, if_pos (by omega), hx]
      · rw [if_neg hv]
        by_cases h : v < (i : Int)
        · rw [if_pos h, if_pos (by omega)]
        · rw [if_neg h, if_neg (by omega)]
    by_cases hR : R (i : Int) = true
    · simp only [if_pos hR]
      rw [upd _ (by rw [hR, Bool.true_and])]
      exact this
    · simp only [if_neg hR]
      rw [upd _ (by rw [(Bool.not_eq_true _).mp hR, Bool.false_and])]
      exact this

theorem inh_l1 (out : List Int) (T : Topo n (ee l) out) (hall : ∀ v : Int, 0 ≤ v → v < n → v ∈ out) (hac : ∀ v : Int, ¬ Path (ee l) v v) (y : List S27) (hn : n ≤ 200) (hl : l.length < 4398046511104) (hr : InR n (ee l)) (d : Nat) :
    ∀ (t : Nat) (R : Int → Bool), t + d = out.length → (∀ v : Int, 0 ≤ v → v < n → (R v = true ↔ ∃ a ∈ out.take t, (a, v) ∈ ee l ∧ Hot (ee l) f a)) →
    ∃ I, Inh n (ee l) f I ∧ Ev (fun k => route_Inhibited.l1 k (mk n f) (mk n (nxt (ee l))) (mk n R) out (out.length : Int) (t : Int) (n : Int) y) (mk n I) := by
  have hlen := len_le n out T.nodup T.range
  induction d with
  | zero =>
    intro t R ht hR
    rw [List.take_of_length_le (by omega)] at hR
    refine ⟨fun v => R v && f v, fun v h0 h1 => ?_, Ev.up ?_⟩
    · rw [Bool.and_eq_true, hR v h0 h1]
      constructor
      · rintro ⟨⟨a, ha, he, hh⟩, hf⟩
        refine ⟨hf, ?_⟩
        rcases hh with hh | ⟨b, hb, hp⟩
        · have := hr _ he
          exact ⟨a, this.1, this.2.1, hh, .one he⟩
        · have := (hp.ends hr).1
          exact ⟨b, this.1, this.2, hb, .snoc hp he⟩
      · rintro ⟨hf, b, b0, b1, hb, hp⟩
        obtain ⟨c, hc, hbc⟩ := hp.last
        have := hr _ hc
        refine ⟨⟨c, hall c this.1 this.2.1, hc, ?_⟩, hf⟩
        rcases hbc with rfl | hbc
        · exact Or.inl hb
        · exact Or.inr ⟨b, hb, hbc⟩
    · simp only [route_Inhibited.l1]
      simp only [show ¬ ((t : Int) < (out.length : Int)) by omega, if_false]
      have := inh_l3 n f R n 0 (by omega) hn
      rw [mk_congr n (fun v => if v < ((0 : Nat) : Int) then R v && f v else R v) R (fun v h0 h1 => if_neg (by omega))] at this
      exact this
  | succ d ih =>
    intro t R ht hR
    have hlt : t < out.length := by omega
    have hu := T.range out[t] (List.getElem_mem hlt)
    have hbef := T.before t hlt
    generalize huu : out[t] = u at *
    have hself : ¬ (u, u) ∈ ee l := fun h => hac u (.one h)
    have hotu : ∀ R' : Int → Bool, (R' u = true ↔ ∃ a ∈ out.take t, (a, u) ∈ ee l ∧ Hot (ee l) f a) → ((R' u = true ∨ f u = true) ↔ Hot (ee l) f u) := by
      intro R' h
      rw [h]
      constructor
      · rintro (⟨a, ha, he, hh⟩ | hf)
        · rcases hh with hh | ⟨b, hb, hp⟩
          · exact Or.inr ⟨a, hh, .one he⟩
          · exact Or.inr ⟨b, hb, .snoc hp he⟩
        · exact Or.inl hf
      · rintro (hf | ⟨b, hb, hp⟩)
        · exact Or.inr hf
        · obtain ⟨c, hc, hbc⟩ := hp.last
          refine Or.inl ⟨c, hbef c hc, hc, ?_⟩
          rcases hbc with rfl | hbc
          · exact Or.inl hb
          · exact Or.inr ⟨b, hb, hbc⟩
    have l2 : ∀ (e j : Nat) (R : Int → Bool), j + e = (nxt (ee l) u).length → (∀ v : Int, 0 ≤ v → v < n → (R v = true ↔ (∃ a ∈ out.take t, (a, v) ∈ ee l ∧ Hot (ee l) f a) ∨ (v ∈ (nxt (ee l) u).take j ∧ Hot (ee l) f u))) →
        ∃ I, Inh n (ee l) f I ∧ Ev (fun k => route_Inhibited.l2 k (mk n f) (mk n (nxt (ee l))) (mk n R) u out (out.length : Int) (t : Int) (nxt (ee l) u) ((nxt (ee l) u).length : Int) (j : Int) (n : Int) y) (mk n I) := by
      intro e
      induction e with
      | zero =>
        intro j R hj hR
        rw [List.take_of_length_le (show (nxt (ee l) u).length ≤ j by omega)] at hR
        obtain ⟨I, hI, he⟩ := ih (t + 1) R (by omega) (fun v h0 h1 => by
          rw [hR v h0 h1, List.take_succ_eq_append_getElem hlt, huu, mem_nxt]
          constructor
          · rintro (⟨a, ha, h⟩ | ⟨h, hh⟩)
            · exact ⟨a, by simp [ha], h⟩
            · exact ⟨u, by simp, h, hh⟩
          · rintro ⟨a, ha, h⟩
            rcases List.mem_append.1 ha with ha | ha
            · exact Or.inl ⟨a, ha, h⟩
            · obtain rfl := List.mem_singleton.1 ha
              exact Or.inr h)
        refine ⟨I, hI, Ev.up ?_⟩
        simp only [route_Inhibited.l2]
        simp only [show ¬ ((j : Int) < ((nxt (ee l) u).length : Int)) by omega, if_false, w64s t (by omega)]
        exact he
      | succ e ihe =>
        intro j R hj hR
        have hjl : j < (nxt (ee l) u).length := by omega
        have hnl := nxt_len (ee l) u
        rw [ee_len] at hnl
        have hkm : (nxt (ee l) u)[j] ∈ nxt (ee l) u := List.getElem_mem hjl
        have hke := mem_nxt.1 hkm
        have hin := hr _ hke
        simp only at hin
        have htk : (nxt (ee l) u).take (j + 1) = (nxt (ee l) u).take j ++ [(nxt (ee l) u)[j]] := List.take_succ_eq_append_getElem hjl
        generalize hk : (nxt (ee l) u)[j] = k at *
        have hRu := hotu R (by
          rw [hR u hu.1 hu.2]
          refine ⟨fun h => h.resolve_right (fun h => ?_), Or.inl⟩
          exact hself (mem_nxt.1 (List.mem_of_mem_take h.1)))
        have key : ∀ x : Bool, (x = true ↔ (R k = true ∨ Hot (ee l) f u)) → ∃ I, Inh n (ee l) f I ∧ Ev (fun m => route_Inhibited.l2 m (mk n f) (mk n (nxt (ee l))) ((mk n R).set k.toNat x) u out (out.length : Int) (t : Int) (nxt (ee l) u) ((nxt (ee l) u).length : Int) ((j + 1 : Nat) : Int) (n : Int) y) (mk n I) := by
          intro x hx
          rw [mk_set n R k x hin.2.2.1]
          refine ihe (j + 1) _ (by omega) (fun v h0 h1 => ?_)
          rw [htk]
          by_cases hv : v = k
          · subst hv
            rw [if_pos rfl, hx, hR v h0 h1]
            simp only [List.mem_append, List.mem_singleton, or_true, true_and]
            constructor
            · rintro ((h | h) | h)
              · exact Or.inl h
              · exact Or.inr h.2
              · exact Or.inr h
            · rintro (h | h)
              · exact Or.inl (Or.inl h)
              · exact Or.inr h
          · rw [if_neg hv, hR v h0 h1]
            simp [hv]
        have fin : ∀ (g : Nat → Option (List Bool)), (∃ x : Bool, (x = true ↔ (R k = true ∨ Hot (ee l) f u)) ∧ ∀ m, g m = route_Inhibited.l2 m (mk n f) (mk n (nxt (ee l))) ((mk n R).set k.toNat x) u out (out.length : Int) (t : Int) (nxt (ee l) u) ((nxt (ee l) u).length : Int) ((j + 1 : Nat) : Int) (n : Int) y) → ∃ I, Inh n (ee l) f I ∧ Ev g (mk n I) := by
          rintro g ⟨x, hx, hg⟩
          obtain ⟨I, hI, he⟩ := key x hx
          exact ⟨I, hI, Ev.congr hg he⟩
        have step : ∃ I, Inh n (ee l) f I ∧ Ev (fun m => route_Inhibited.l2 (m + 1) (mk n f) (mk n (nxt (ee l))) (mk n R) u out (out.length : Int) (t : Int) (nxt (ee l) u) ((nxt (ee l) u).length : Int) (j : Int) (n : Int) y) (mk n I) := by
          simp only [route_Inhibited.l2]
          simp only [show ((j : Int) < ((nxt (ee l) u).length : Int)) by omega, if_true, Int.natCast_nonneg, rdI _ j hjl, hk, hin.2.2.1, hin.2.2.2, mk_len, mk_rdOf n R false k hin.2.2.1 hin.2.2.2, mk_rdOf n R false u hu.1 hu.2, mk_rdOf n f false u hu.1 hu.2, hu.1, hu.2, w64s j (by omega)]
          by_cases h1 : R k = true
          · exact fin _ ⟨true, ⟨fun _ => Or.inl h1, fun _ => rfl⟩, fun m => by simp only [if_pos h1]⟩
          · by_cases h2 : R u = true
            · exact fin _ ⟨true, ⟨fun _ => Or.inr (hRu.1 (Or.inl h2)), fun _ => rfl⟩, fun m => by simp only [if_neg h1, if_pos h2]⟩
            · exact fin _ ⟨f u, ⟨fun h => Or.inr (hRu.1 (Or.inr h)), fun h => (hRu.2 (h.resolve_left h1)).resolve_left h2⟩, fun m => by simp only [if_neg h1, if_neg h2]⟩
        obtain ⟨I, hI, he⟩ := step
        exact ⟨I, hI, Ev.up he⟩
    obtain ⟨I, hI, he⟩ := l2 (nxt (ee l) u).length 0 R (Nat.zero_add _) (fun v h0 h1 => by rw [hR v h0 h1]; simp)
    refine ⟨I, hI, Ev.up ?_⟩
    simp only [route_Inhibited.l1]
    simp only [show ((t : Int) < (out.length : Int)) by omega, if_true, Int.natCast_nonneg, rdI out t hlt, huu, hu.1, hu.2, mk_len, mk_rdL n _ u hu.1 hu.2]
    exact he

theorem inh_l0 (hr : InR n (ee l)) (hl : l.length < 4398046511104) (x1 : List Bool) (y : List S27) (r : List Bool)
    (hgo : Ev (fun k => (route_sorted.f k (n : Int) y).bind fun t201 => (route_Inhibited.l1 k x1 (mk n (nxt (ee l))) (List.replicate n false) t201 (t201.length : Int) 0 (n : Int) y)) r) (hn : n ≤ 200) (d : Nat) :
    ∀ i : Nat, i + d = l.length → Ev (fun k => route_Inhibited.l0 k x1 (mk n (nxt (ee (l.take i)))) l (l.length : Int) (i : Int) (n : Int) y) r := by
  induction d with
  | zero =>
    intro i hi
    refine Ev.up ?_
    simp only [route_Inhibited.l0]
    simp only [show ¬ ((i : Int) < (l.length : Int)) by omega, if_false, Int.natCast_nonneg, if_true, Int.toNat_natCast, show n ≤ 281474976710656 by omega]
    rw [List.take_of_length_le (by omega)]
    exact hgo
  | succ d ih =>
    intro i hi
    have hlt : i < l.length := by omega
    have he := ih (i + 1) (by omega)
    have hin := hr (l[i].f0, l[i].f1) (by unfold ee; exact List.mem_map.2 ⟨l[i], List.getElem_mem hlt, rfl⟩)
    simp only at hin
    have hnx := nxt_len (ee (l.take i)) l[i].f0
    rw [ee_len, List.length_take] at hnx
    refine Ev.up ?_
    simp only [route_Inhibited.l0]
    simp only [show ((i : Int) < (l.length : Int)) by omega, if_true, Int.natCast_nonneg, rdE l i hlt, hin.1, hin.2.1, mk_len, mk_rdL n _ _ hin.1 hin.2.1, w64s i (by omega), mk_set n _ _ _ hin.1, show (nxt (ee (l.take i)) l[i].f0).length < 17592186044416 by omega]
    rw [ee_take l i hlt] at he
    rw [mk_congr n (fun u => if u = l[i].f0 then nxt (ee (l.take i)) l[i].f0 ++ [l[i].f1] else nxt (ee (l.take i)) u) (nxt (ee (l.take i) ++ [(l[i].f0, l[i].f1)])) (fun v _ _ => by
        rw [nxt_snoc]
        by_cases h : v = l[i].f0
        · rw [if_pos h, if_pos h, h]
        · rw [if_neg h, if_neg h])]
    exact he

/-! ### the reference -/
theorem rinh_l1 (hn : n ≤ 200) (i : Int) (O R : Int → Bool) (r : List Bool) (hgo : Ev (fun k => intervalmonref29_Inhibited.l0 k (mk n f) (mk n fun v => O v || (R v && f v)) (wrap64 (i + 1)) (n : Int) l) r) (d : Nat) :
    ∀ j : Nat, j + d = n → Ev (fun k => intervalmonref29_Inhibited.l1 k (mk n f) (mk n fun v => if v < (j : Int) then O v || (R v && f v) else O v) i (mk n R) (j : Int) (n : Int) l) r := by
  induction d with
  | zero =>
    intro j hj
    refine Ev.up ?_
    simp only [intervalmonref29_Inhibited.l1]
    simp only [show ¬ ((j : Int) < (n : Int)) by omega, if_false]
    rw [mk_congr n (fun v => if v < (j : Int) then O v || (R v && f v) else O v) (fun v => O v || (R v && f v)) (fun v h0 h1 => if_pos (by omega))]
    exact hgo
  | succ d ih =>
    intro j hj
    have := ih (j + 1) (by omega)
    have upd : ∀ x, x = (O (j : Int) || (R (j : Int) && f (j : Int))) → (mk n fun v => if v < (j : Int) then O v || (R v && f v) else O v).set ((j : Int)).toNat x = mk n fun v => if v < ((j + 1 : Nat) : Int) then O v || (R v && f v) else O v := by
      intro x hx
      rw [mk_set n _ _ _ (by omega)]
      refine mk_congr n _ _ (fun v h0 h1 => ?_)
      by_cases hv : v = (j : Int)
      · subst hv; rw [if_pos rfl, if_pos (by omega), hx]
      · rw [if_neg hv]
        by_cases h : v < (j : Int)
        · rw [if_pos h, if_pos (by omega)]
        · rw [if_neg h, if_neg (by omega)]
    refine Ev.up ?_
    simp only [intervalmonref29_Inhibited.l1]
    simp only [show ((j : Int) < (n : Int)) by omega, if_true, Int.natCast_nonneg, mk_len, mk_rdOf n _ false (j : Int) (by omega) (by omega), show ¬ ((j : Int) < (j : Int)) by omega, if_false, w64s j (by omega)]
    by_cases hO : O (j : Int) = true
    · simp only [if_pos hO]
      rw [upd _ (by rw [hO, Bool.true_or])]
      exact this
    · simp only [if_neg hO]
      by_cases hR : R (j : Int) = true
      · simp only [if_pos hR]
        rw [upd _ (by rw [(Bool.not_eq_true _).mp hO, hR, Bool.false_or, Bool.true_and])]
        exact this
      · simp only [if_neg hR]
        rw [upd _ (by rw [(Bool.not_eq_true _).mp hO, (Bool.not_eq_true _).mp hR, Bool.false_or, Bool.false_and])]
        exact this
theorem rinh_l0 (hn : n ≤ 200) (hl : l.length < 4398046511104) (hr : InR n (ee l)) (d : Nat) : ∀ (i : Nat) (O : Int → Bool), i + d = n → (∀ v : Int, 0 ≤ v → v < n → (O v = true ↔ f v = true ∧ ∃ b : Int, 0 ≤ b ∧ b < (i : Int) ∧ f b = true ∧ Path (ee l) b v)) →
    ∃ I, Inh n (ee l) f I ∧ Ev (fun k => intervalmonref29_Inhibited.l0 k (mk n f) (mk n O) (i : Int) (n : Int) l) (mk n I) := by
  induction d with
  | zero =>
    intro i O hi hO
    obtain rfl : i = n := by omega
    refine ⟨O, hO, Ev.up ?_⟩
    simp only [intervalmonref29_Inhibited.l0]
    simp only [show ¬ ((i : Int) < (i : Int)) by omega, if_false]
    exact Ev.some _
  | succ d ih =>
    intro i O hi hO
    by_cases hf : f (i : Int) = true
    · obtain ⟨R, hR, he⟩ := reached_ev n (by omega) l hr hl (i : Int)
      obtain ⟨I, hI, he2⟩ := ih (i + 1) (fun v => O v || (R v && f v)) (by omega) (fun v h0 h1 => by
        rw [Bool.or_eq_true, Bool.and_eq_true, hO v h0 h1, hR v h0 h1]
        constructor
        · rintro (⟨h, b, b0, b1, hb⟩ | ⟨hp, h⟩)
          · exact ⟨h, b, b0, by omega, hb⟩
          · exact ⟨h, (i : Int), by omega, by omega, hf, hp⟩
        · rintro ⟨h, b, b0, b1, hb, hp⟩
          by_cases hbi : b = (i : Int)
          · subst hbi; exact Or.inr ⟨hp, h⟩
          · exact Or.inl ⟨h, b, b0, by omega, hb, hp⟩)
      refine ⟨I, hI, Ev.up ?_⟩
      simp only [intervalmonref29_Inhibited.l0]
      simp only [show ((i : Int) < (n : Int)) by omega, if_true, Int.natCast_nonneg, mk_len, mk_rdOf n f false (i : Int) (by omega) (by omega), if_pos hf]
      refine Ev.bind he ?_
      have := rinh_l1 n l f hn (i : Int) O R (mk n I) (by rw [w64s i (by omega)]; exact he2) n 0 (by omega)
      rw [mk_congr n (fun v => if v < ((0 : Nat) : Int) then O v || (R v && f v) else O v) O (fun v h0 h1 => if_neg (by omega))] at this
      exact this
    · obtain ⟨I, hI, he2⟩ := ih (i + 1) O (by omega) (fun v h0 h1 => by
        rw [hO v h0 h1]
        constructor
        · rintro ⟨h, b, b0, b1, hb⟩
          exact ⟨h, b, b0, by omega, hb⟩
        · rintro ⟨h, b, b0, b1, hb, hp⟩
          refine ⟨h, b, b0, ?_, hb, hp⟩
          have : b ≠ (i : Int) := by rintro rfl; exact hf hb
          omega)
      refine ⟨I, hI, Ev.up ?_⟩
      simp only [intervalmonref29_Inhibited.l0]
      simp only [show ((i : Int) < (n : Int)) by omega, if_true, Int.natCast_nonneg, mk_len, mk_rdOf n f false (i : Int) (by omega) (by omega), if_neg hf, w64s i (by omega)]
      exact he2
end
/-- Of a valid graph and firing nodes, as many as nodes. -/
theorem inh_good (n : Nat) (l : List S27) (hl : l.length < 4398046511104) (hg : Good (n : Int) l) (f : Int → Bool) : ∃ I, Inh n (ee l) f I ∧ Ev (fun k => route_Inhibited.f k (n : Int) l (mk n f)) (mk n I) := by
  obtain ⟨r, h1, h2, h3⟩ := valid_both (n : Int) l hl
  have h0 := h3.2 hg
  subst h0
  obtain ⟨-, hn, hv, hac⟩ := hg
  have hr := vrest_inR hv
  obtain ⟨out, T, he⟩ := sorted_ev n (by omega) l hr hl
  have hall := T.full hr hac
  obtain ⟨I, hI, he2⟩ := inh_l1 n l f out T hall (fun v hp => hac v (hp.ends hr).1.1 (hp.ends hr).1.2 hp) l (by omega) hl hr out.length 0 (fun _ => false) (by omega) (fun v _ _ => by simp)
  refine ⟨I, hI, ?_⟩
  unfold route_Inhibited.f
  refine Ev.bind h1 ?_
  simp only [if_true, mk_len, bne_self_eq_false]
  refine Ev.up ?_
  simp only [route_Inhibited.j0]
  simp only [Bool.false_eq_true, if_false, Int.natCast_nonneg, if_true, Int.toNat_natCast, show n ≤ 11728124029610 by omega]
  have := inh_l0 n l hr hl (mk n f) l (mk n I) (Ev.bind he (by rw [mk_rep]; exact he2)) (by omega) l.length 0 (by omega)
  rw [show mk n (nxt (ee (l.take 0))) = List.replicate n ([] : List Int) by rw [mk_rep]; exact mk_congr n _ _ (fun v _ _ => by simp [ee, nxt])] at this
  exact this
theorem rinh_good (n : Nat) (l : List S27) (hl : l.length < 4398046511104) (hg : Good (n : Int) l) (f : Int → Bool) : ∃ I, Inh n (ee l) f I ∧ Ev (fun k => intervalmonref29_Inhibited.f k (n : Int) l (mk n f)) (mk n I) := by
  obtain ⟨r, h1, h2, h3⟩ := valid_both (n : Int) l hl
  have h0 := h3.2 hg
  subst h0
  obtain ⟨-, hn, hv, hac⟩ := hg
  have hr := vrest_inR hv
  obtain ⟨I, hI, he2⟩ := rinh_l0 n l f (by omega) hl hr n 0 (fun _ => false) (by omega) (fun v _ _ => by
    constructor
    · intro h; cases h
    · rintro ⟨-, b, b0, b1, -⟩; omega)
  refine ⟨I, hI, ?_⟩
  unfold intervalmonref29_Inhibited.f
  refine Ev.bind h2 ?_
  simp only [if_true, mk_len, bne_self_eq_false]
  refine Ev.up ?_
  simp only [intervalmonref29_Inhibited.j0]
  simp only [Bool.false_eq_true, if_false, Int.natCast_nonneg, if_true, Int.toNat_natCast, show n ≤ 281474976710656 by omega, mk_rep]
  exact he2
theorem inh_bad (N : Int) (l : List S27) (hl : l.length < 4398046511104) (F : List Bool) (h : ¬ (Good N l ∧ (F.length : Int) = N)) : Ev (fun k => route_Inhibited.f k N l F) [] ∧ Ev (fun k => intervalmonref29_Inhibited.f k N l F) [] := by
  obtain ⟨r, h1, h2, h3⟩ := valid_both N l hl
  by_cases h0 : r = 0
  · have hb : ((F.length : Int) != N) = true := by
      rw [bne_iff_ne]
      intro he
      exact h ⟨h3.1 h0, he⟩
    refine ⟨?_, ?_⟩
    · unfold route_Inhibited.f
      refine Ev.bind h1 ?_
      simp only [if_pos h0, hb]
      refine Ev.up ?_
      simp only [route_Inhibited.j0]
      simp only [if_true]; exact Ev.some _
    · unfold intervalmonref29_Inhibited.f
      refine Ev.bind h2 ?_
      simp only [if_pos h0, hb]
      refine Ev.up ?_
      simp only [intervalmonref29_Inhibited.j0]
      simp only [if_true]; exact Ev.some _
  · refine ⟨?_, ?_⟩
    · unfold route_Inhibited.f
      refine Ev.bind h1 ?_
      simp only [if_neg h0]
      refine Ev.up ?_
      simp only [route_Inhibited.j0]
      simp only [if_true]; exact Ev.some _
    · unfold intervalmonref29_Inhibited.f
      refine Ev.bind h2 ?_
      simp only [if_neg h0]
      refine Ev.up ?_
      simp only [intervalmonref29_Inhibited.j0]
      simp only [if_true]; exact Ev.some _
theorem inh_both (N : Int) (l : List S27) (hl : l.length < 4398046511104) (F : List Bool) : ∃ r, Ev (fun k => route_Inhibited.f k N l F) r ∧ Ev (fun k => intervalmonref29_Inhibited.f k N l F) r ∧ r.length ≤ 200 := by
  by_cases h : Good N l ∧ (F.length : Int) = N
  · obtain ⟨hg, hF⟩ := h
    subst hF
    obtain ⟨I, hI, h1⟩ := inh_good F.length l hl hg (rdOf false F)
    obtain ⟨J, hJ, h2⟩ := rinh_good F.length l hl hg (rdOf false F)
    rw [← as_mk F.length F rfl] at h1 h2
    have := hg.2.1
    exact ⟨_, h1, by rw [hI.same hJ]; exact h2, by rw [mk_len]; omega⟩
  · exact ⟨[], (inh_bad N l hl F h).1, (inh_bad N l hl F h).2, by simp⟩
end Go.Proofs.Ytcamljlhdejmmaa.Pure
