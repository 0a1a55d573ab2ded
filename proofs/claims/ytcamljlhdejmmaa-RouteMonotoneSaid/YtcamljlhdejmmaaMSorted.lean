/- sorted gives an order that the edges follow (Topo); Reached gives the nodes to which there is a path. -/
import Derived.Test.YtcamljlhdejmmaaMGraph
import Derived.Test.YtcamljlhdejmmaaPx5
import Derived.Test.YtcamljlhdejmmaaPx6
namespace Go.Proofs.Ytcamljlhdejmmaa.Pure
open Go.RowKit Go.Proofs.Ytcamljlhdejmmaa.P Go.Proofs.YtcamljlhdejmmaaW.PrintWords Go.Proofs.YtcamljlhdejmmaaW.PrintLast Go.Proofs.YtcamljlhdejmmaaW.PrintMore
set_option linter.unusedVariables false
set_option linter.unusedSimpArgs false

def ee (l : List S27) : List (Int × Int) := l.map fun e => (e.f0, e.f1)
theorem ee_len (l : List S27) : (ee l).length = l.length := by simp [ee]
theorem rdE (l : List S27) (i : Nat) (h : i < l.length) : rd_T27 l (i : Int) = l[i] := by simp [rd_T27, List.getD_eq_getElem?_getD, h]
theorem rdI (l : List Int) (i : Nat) (h : i < l.length) : rd l (i : Int) = l[i] := by simp [rd, List.getD_eq_getElem?_getD, h]
theorem mk_rdL (N : Nat) (f : Int → List Int) (v : Int) (h0 : 0 ≤ v) (h1 : v < N) : rd_L2 (mk N f) v = f v := mk_getD N f [] v h0 h1
theorem ee_take (l : List S27) (i : Nat) (h : i < l.length) : ee (l.take (i + 1)) = ee (l.take i) ++ [(l[i].f0, l[i].f1)] := by
  unfold ee
  rw [List.take_succ_eq_append_getElem h, List.map_append]
  rfl
theorem cin_nil_snoc (E : List (Int × Int)) (a b v : Int) : ((cin (E ++ [(a, b)]) [] v : Nat) : Int) = if v = b then (cin E [] v : Int) + 1 else (cin E [] v : Int) := by
  unfold cin
  rw [List.countP_append, List.countP_singleton]
  by_cases h : v = b
  · subst h; simp
  · rw [if_neg h]
    have : (b == v) = false := beq_eq_false_iff_ne.2 (fun hh => h hh.symm)
    simp [this]
theorem nxt_snoc (E : List (Int × Int)) (a b u : Int) : nxt (E ++ [(a, b)]) u = if u = a then nxt E u ++ [b] else nxt E u := by
  unfold nxt
  rw [List.filter_append, List.map_append]
  by_cases h : u = a
  · subst h; simp
  · rw [if_neg h]
    have : (a == u) = false := beq_eq_false_iff_ne.2 (fun hh => h hh.symm)
    simp [this]

/-! ### sorted -/
theorem sorted_l0 (N : Nat) (l : List S27) (hr : InR N (ee l)) (hl : l.length < 4398046511104) (y : List S27) (P : List Int → Prop) (hgo : ∃ out, P out ∧ Ev (fun k => route_sorted.l1 k (mk N fun v => (cin (ee l) [] v : Int)) (mk N (nxt (ee l))) [] (N : Int) 0) out) (d : Nat) :
    ∀ i : Nat, i + d = l.length → ∃ out, P out ∧ Ev (fun k => route_sorted.l0 k (mk N fun v => (cin (ee (l.take i)) [] v : Int)) (mk N (nxt (ee (l.take i)))) l (l.length : Int) (i : Int) (N : Int) y) out := by
  induction d with
  | zero =>
    intro i hi
    obtain ⟨out, hp, he⟩ := hgo
    refine ⟨out, hp, Ev.up ?_⟩
    simp only [route_sorted.l0]
    simp only [show ¬ ((i : Int) < (l.length : Int)) by omega, if_false]
    rw [List.take_of_length_le (by omega)]
    exact he
  | succ d ih =>
    intro i hi
    have hlt : i < l.length := by omega
    obtain ⟨out, hp, he⟩ := ih (i + 1) (by omega)
    refine ⟨out, hp, Ev.up ?_⟩
    have hin := hr (l[i].f0, l[i].f1) (by unfold ee; exact List.mem_map.2 ⟨l[i], List.getElem_mem hlt, rfl⟩)
    simp only at hin
    have hc := cin_le (ee (l.take i)) [] l[i].f1
    have hn := nxt_len (ee (l.take i)) l[i].f0
    rw [ee_len, List.length_take] at hc hn
    simp only [route_sorted.l0]
    simp only [show ((i : Int) < (l.length : Int)) by omega, if_true, Int.natCast_nonneg, rdE l i hlt, hin.1, hin.2.1, hin.2.2.1, hin.2.2.2, mk_len, mk_rd N _ _ hin.2.2.1 hin.2.2.2, mk_rdL N _ _ hin.1 hin.2.1, w64s i (by omega), mk_set N _ _ _ hin.1, mk_set N _ _ _ hin.2.2.1, show (nxt (ee (l.take i)) l[i].f0).length < 17592186044416 by omega, w64 ((cin (ee (l.take i)) [] l[i].f1 : Int) + 1) (by omega) (by omega)]
    rw [ee_take l i hlt] at he
    rw [mk_congr N (fun u => if u = l[i].f1 then (cin (ee (l.take i)) [] l[i].f1 : Int) + 1 else (cin (ee (l.take i)) [] u : Int)) (fun v => (cin (ee (l.take i) ++ [(l[i].f0, l[i].f1)]) [] v : Int)) (fun v _ _ => by
        rw [cin_nil_snoc]
        by_cases h : v = l[i].f1
        · rw [if_pos h, if_pos h, h]
        · rw [if_neg h, if_neg h]),
      mk_congr N (fun u => if u = l[i].f0 then nxt (ee (l.take i)) l[i].f0 ++ [l[i].f1] else nxt (ee (l.take i)) u) (nxt (ee (l.take i) ++ [(l[i].f0, l[i].f1)])) (fun v _ _ => by
        rw [nxt_snoc]
        by_cases h : v = l[i].f0
        · rw [if_pos h, if_pos h, h]
        · rw [if_neg h, if_neg h])]
    exact he

theorem sorted_l1 (N : Nat) (hN : N ≤ 17592186044415) (f : Int → Int) (x4 : List (List Int)) (P : List Int → Prop)
    (hgo : ∀ out : List Int, out.Nodup → (∀ v, v ∈ out ↔ 0 ≤ v ∧ v < N ∧ f v = 0) → ∃ r, P r ∧ Ev (fun k => route_sorted.l2 k (mk N f) x4 out 0) r) (d : Nat) :
    ∀ (i : Nat) (out : List Int), i + d = N → out.Nodup → (∀ v, v ∈ out ↔ 0 ≤ v ∧ v < (i : Int) ∧ f v = 0) → ∃ r, P r ∧ Ev (fun k => route_sorted.l1 k (mk N f) x4 out (N : Int) (i : Int)) r := by
  induction d with
  | zero =>
    intro i out hi hn hm
    obtain ⟨r, hp, he⟩ := hgo out hn (fun v => by rw [hm]; omega)
    refine ⟨r, hp, Ev.up ?_⟩
    simp only [route_sorted.l1]
    simp only [show ¬ ((i : Int) < (N : Int)) by omega, if_false]
    exact he
  | succ d ih =>
    intro i out hi hn hm
    have hlen : out.length ≤ N := len_le N out hn (fun x hx => by have := (hm x).1 hx; omega)
    by_cases h0 : f (i : Int) = 0
    · obtain ⟨r, hp, he⟩ := ih (i + 1) (out ++ [(i : Int)]) (by omega) (by
          rw [List.nodup_append]
          refine ⟨hn, by simp, fun a ha b hb => ?_⟩
          obtain rfl := List.mem_singleton.1 hb
          have := (hm a).1 ha
          omega) (fun v => by
          rw [List.mem_append, hm, List.mem_singleton]
          constructor
          · rintro (h | rfl)
            · omega
            · exact ⟨by omega, by omega, h0⟩
          · rintro ⟨h1, h2, h3⟩
            by_cases hv : v = (i : Int)
            · exact Or.inr hv
            · exact Or.inl ⟨h1, by omega, h3⟩)
      refine ⟨r, hp, Ev.up ?_⟩
      simp only [route_sorted.l1]
      simp only [show ((i : Int) < (N : Int)) by omega, if_true, Int.natCast_nonneg, mk_len, mk_rd N f (i : Int) (by omega) (by omega), h0, show out.length < 17592186044416 by omega, w64s i (by omega)]
      exact he
    · obtain ⟨r, hp, he⟩ := ih (i + 1) out (by omega) hn (fun v => by
          rw [hm]
          constructor
          · rintro ⟨h1, h2, h3⟩; exact ⟨h1, by omega, h3⟩
          · rintro ⟨h1, h2, h3⟩
            refine ⟨h1, ?_, h3⟩
            have : v ≠ (i : Int) := by rintro rfl; exact h0 h3
            omega)
      refine ⟨r, hp, Ev.up ?_⟩
      simp only [route_sorted.l1]
      simp only [show ((i : Int) < (N : Int)) by omega, if_true, Int.natCast_nonneg, mk_len, mk_rd N f (i : Int) (by omega) (by omega), h0, if_false, w64s i (by omega)]
      exact he

/-- What holds while the nodes of the result are taken one by one. -/
structure Kahn (N : Nat) (E : List (Int × Int)) (out : List Int) (c : Int → Int) : Prop where
  nodup : out.Nodup
  mem : ∀ v, v ∈ out ↔ 0 ≤ v ∧ v < N ∧ c v = 0
  before : ∀ t (h : t < out.length), ∀ a, (a, out[t]) ∈ E → a ∈ out.take t
theorem Kahn.len {N : Nat} {E : List (Int × Int)} {out : List Int} {c : Int → Int} (K : Kahn N E out c) : out.length ≤ N :=
  len_le N out K.nodup (fun x hx => by have := (K.mem x).1 hx; omega)

theorem sorted_l3 (N : Nat) (hN : N ≤ 17592186044415) (E : List (Int × Int)) (hr : InR N E) (hE : E.length < 4398046511104) (i : Nat) (u : Int) (hu : 0 ≤ u ∧ u < N) (S : List Int) (P : List Int → Prop)
    (hgo : ∀ out, (h : i < out.length) → out[i] = u → out.take (i + 1) = S → Kahn N E out (fun v => (cin E S v : Int)) → ∃ r, P r ∧ Ev (fun k => route_sorted.l2 k (mk N fun v => (cin E S v : Int)) (mk N (nxt E)) out ((i + 1 : Nat) : Int)) r) (d : Nat) :
    ∀ (j : Nat) (out : List Int), j + d = (nxt E u).length → (h : i < out.length) → out[i] = u → out.take (i + 1) = S → Kahn N E out (fun v => (cin E S v + ((nxt E u).drop j).count v : Int)) →
    ∃ r, P r ∧ Ev (fun k => route_sorted.l3 k (mk N fun v => (cin E S v + ((nxt E u).drop j).count v : Int)) (mk N (nxt E)) out (i : Int) (nxt E u) ((nxt E u).length : Int) (j : Int)) r := by
  induction d with
  | zero =>
    intro j out hj hi hu2 hS K
    have e : (fun v => (cin E S v + ((nxt E u).drop j).count v : Int)) = fun v => (cin E S v : Int) := by
      funext v
      rw [List.drop_of_length_le (by omega)]
      simp
    rw [e] at K
    obtain ⟨r, hp, he⟩ := hgo out hi hu2 hS K
    have hiN := K.len
    refine ⟨r, hp, Ev.up ?_⟩
    rw [e]
    simp only [route_sorted.l3]
    simp only [show ¬ ((j : Int) < ((nxt E u).length : Int)) by omega, if_false, w64s i (by omega)]
    exact he
  | succ d ih =>
    intro j out hj hi hu2 hS K
    have hlt : j < (nxt E u).length := by omega
    have hnl := nxt_len E u
    have hkm : (nxt E u)[j] ∈ nxt E u := List.getElem_mem hlt
    have hke := mem_nxt.1 hkm
    have hin := hr _ hke
    simp only at hin
    generalize hk : (nxt E u)[j] = k at *
    have hdrop : (nxt E u).drop j = k :: (nxt E u).drop (j + 1) := by rw [List.drop_eq_getElem_cons hlt, hk]
    have hc := cin_le E S k
    have hcc : ((nxt E u).drop (j + 1)).count k ≤ (nxt E u).length := Nat.le_trans List.count_le_length (by simp)
    have hiN := K.len
    have upd : (mk N fun v => (cin E S v + ((nxt E u).drop j).count v : Int)).set k.toNat ((cin E S k + ((nxt E u).drop j).count k : Int) - 1) = mk N fun v => (cin E S v + ((nxt E u).drop (j + 1)).count v : Int) := by
      rw [mk_set N _ _ _ hin.2.2.1]
      refine mk_congr N _ _ (fun v _ _ => ?_)
      rw [hdrop, List.count_cons, List.count_cons]
      by_cases hv : v = k
      · rw [if_pos hv, hv]; simp; omega
      · rw [if_neg hv]
        have : (k == v) = false := beq_eq_false_iff_ne.2 (fun h => hv h.symm)
        simp [this]
    have hck : (cin E S k + ((nxt E u).drop j).count k : Int) - 1 = (cin E S k + ((nxt E u).drop (j + 1)).count k : Int) := by
      rw [hdrop, List.count_cons]; simp; omega
    have hkout : ¬ k ∈ out := by
      intro h
      have := ((K.mem k).1 h).2.2
      rw [hdrop, List.count_cons] at this
      simp at this
      omega
    have other : ∀ v, v ≠ k → ((nxt E u).drop j).count v = ((nxt E u).drop (j + 1)).count v := by
      intro v hv
      have : (k == v) = false := beq_eq_false_iff_ne.2 (fun h => hv h.symm)
      rw [hdrop, List.count_cons]; simp [this]
    by_cases h0 : (cin E S k + ((nxt E u).drop (j + 1)).count k : Int) = 0
    · have K' : Kahn N E (out ++ [k]) (fun v => (cin E S v + ((nxt E u).drop (j + 1)).count v : Int)) := by
        refine ⟨?_, fun v => ?_, fun t ht a ha => ?_⟩
        · rw [List.nodup_append]
          refine ⟨K.nodup, by simp, fun a ha b hb => ?_⟩
          obtain rfl := List.mem_singleton.1 hb
          rintro rfl
          exact hkout ha
        · rw [List.mem_append, List.mem_singleton]
          by_cases hv : v = k
          · subst hv
            exact ⟨fun _ => ⟨hin.2.2.1, hin.2.2.2, h0⟩, fun _ => Or.inr rfl⟩
          · rw [K.mem v, other v hv]
            exact ⟨fun h => h.resolve_right hv, Or.inl⟩
        · rw [List.length_append, List.length_singleton] at ht
          by_cases htl : t < out.length
          · rw [List.getElem_append_left htl] at ha
            rw [List.take_append_of_le_length (by omega)]
            exact K.before t htl a ha
          · obtain rfl : t = out.length := by omega
            rw [List.getElem_append_right (Nat.le_refl _)] at ha
            simp only [Nat.sub_self, List.getElem_singleton] at ha
            have h0' : cin E S k = 0 := by omega
            have haS := cin_zero.1 h0' a ha
            rw [List.take_left']
            · rw [← hS] at haS
              exact List.mem_of_mem_take haS
            · rfl
      obtain ⟨r, hp, he⟩ := ih (j + 1) (out ++ [k]) (by omega) (by rw [List.length_append]; omega) (by rw [List.getElem_append_left hi]; exact hu2) (by rw [List.take_append_of_le_length (by omega)]; exact hS) K'
      refine ⟨r, hp, Ev.up ?_⟩
      simp only [route_sorted.l3]
      simp only [show ((j : Int) < ((nxt E u).length : Int)) by omega, if_true, Int.natCast_nonneg, rdI _ j hlt, hk, hin.2.2.1, hin.2.2.2, mk_len, mk_rd N _ k hin.2.2.1 hin.2.2.2, Option.bind_some, w64s j (by omega)]
      rw [w64 ((cin E S k + ((nxt E u).drop j).count k : Int) - 1) (by omega) (by omega), upd]
      simp only [mk_rd N _ k hin.2.2.1 hin.2.2.2, h0, if_true, show out.length < 17592186044416 by omega]
      exact he
    · have K' : Kahn N E out (fun v => (cin E S v + ((nxt E u).drop (j + 1)).count v : Int)) := by
        refine ⟨K.nodup, fun v => ?_, K.before⟩
        by_cases hv : v = k
        · subst hv
          exact ⟨fun h => absurd h hkout, fun h => absurd h.2.2 h0⟩
        · rw [K.mem v, other v hv]
      obtain ⟨r, hp, he⟩ := ih (j + 1) out (by omega) hi hu2 hS K'
      refine ⟨r, hp, Ev.up ?_⟩
      simp only [route_sorted.l3]
      simp only [show ((j : Int) < ((nxt E u).length : Int)) by omega, if_true, Int.natCast_nonneg, rdI _ j hlt, hk, hin.2.2.1, hin.2.2.2, mk_len, mk_rd N _ k hin.2.2.1 hin.2.2.2, Option.bind_some, w64s j (by omega)]
      rw [w64 ((cin E S k + ((nxt E u).drop j).count k : Int) - 1) (by omega) (by omega), upd]
      simp only [mk_rd N _ k hin.2.2.1 hin.2.2.2, h0, if_false]
      exact he

theorem sorted_l2 (N : Nat) (hN : N ≤ 17592186044415) (E : List (Int × Int)) (hr : InR N E) (hE : E.length < 4398046511104) (d : Nat) :
    ∀ (i : Nat) (out : List Int), N ≤ i + d → i ≤ out.length → Kahn N E out (fun v => (cin E (out.take i) v : Int)) →
    ∃ r, Topo N E r ∧ Ev (fun k => route_sorted.l2 k (mk N fun v => (cin E (out.take i) v : Int)) (mk N (nxt E)) out (i : Int)) r := by
  have stop : ∀ (i : Nat) (out : List Int), i = out.length → Kahn N E out (fun v => (cin E (out.take i) v : Int)) →
      ∃ r, Topo N E r ∧ Ev (fun k => route_sorted.l2 k (mk N fun v => (cin E (out.take i) v : Int)) (mk N (nxt E)) out (i : Int)) r := by
    intro i out hi K
    refine ⟨out, ⟨K.nodup, fun v hv => by have := (K.mem v).1 hv; omega, K.before, fun v h0 h1 h => ?_⟩, Ev.up ?_⟩
    · rw [K.mem]
      refine ⟨h0, h1, ?_⟩
      rw [hi, List.take_length]
      have := (cin_zero (S := out)).2 h
      omega
    · simp only [route_sorted.l2]
      simp only [show ¬ ((i : Int) < (out.length : Int)) by omega, if_false]
      exact Ev.some _
  induction d with
  | zero =>
    intro i out hi hio K
    have := K.len
    exact stop i out (by omega) K
  | succ d ih =>
    intro i out hi hio K
    by_cases hlt : i < out.length
    · have hum : out[i] ∈ out := List.getElem_mem hlt
      have hu := (K.mem _).1 hum
      have hS : out.take (i + 1) = out.take i ++ [out[i]] := List.take_succ_eq_append_getElem hlt
      have hnot : ¬ out[i] ∈ out.take i := by
        intro h
        obtain ⟨j, hj, hji, he⟩ := take_mem h
        have := nodup_inj K.nodup hj hlt he
        omega
      have hfun : (fun v => (cin E (out.take i) v : Int)) = fun v => (cin E (out.take (i + 1)) v + ((nxt E out[i]).drop 0).count v : Int) := by
        funext v
        rw [hS, List.drop_zero, cin_snoc E (out.take i) out[i] v hnot]
        omega
      obtain ⟨r, hp, he⟩ := sorted_l3 N hN E hr hE i out[i] ⟨hu.1, hu.2.1⟩ (out.take (i + 1)) (Topo N E) (fun out' h' hu' hS' K' => by
          rw [← hS'] at K' ⊢
          exact ih (i + 1) out' (by omega) (by omega) K') (nxt E out[i]).length 0 out (by omega) hlt rfl rfl (by rw [hfun] at K; exact K)
      have hN' := K.len
      refine ⟨r, hp, Ev.up ?_⟩
      simp only [route_sorted.l2]
      simp only [show ((i : Int) < (out.length : Int)) by omega, if_true, Int.natCast_nonneg, rdI out i hlt, hu.1, hu.2.1, mk_len, mk_rdL N _ out[i] hu.1 hu.2.1]
      rw [hfun]
      exact he
    · exact stop i out (by omega) K

theorem sorted_ev (N : Nat) (hN : N ≤ 11728124029610) (l : List S27) (hr : InR N (ee l)) (hl : l.length < 4398046511104) : ∃ out, Topo N (ee l) out ∧ Ev (fun k => route_sorted.f k (N : Int) l) out := by
  have h1 := sorted_l1 N (by omega) (fun v => (cin (ee l) [] v : Int)) (mk N (nxt (ee l))) (Topo N (ee l)) (fun out hn hm => by
    have := sorted_l2 N (by omega) (ee l) hr (by rw [ee_len]; exact hl) N 0 out (by omega) (by omega) ⟨hn, hm, fun t ht a ha => by
      have := ((hm out[t]).1 (List.getElem_mem ht)).2.2
      have h0 : cin (ee l) [] out[t] = 0 := by omega
      have := cin_zero.1 h0 a ha
      cases this⟩
    exact this) N 0 [] (by omega) (by simp) (fun v => by
      constructor
      · intro h; cases h
      · rintro ⟨h1, h2, -⟩; omega)
  obtain ⟨out, hp, he⟩ := sorted_l0 N l hr hl l (Topo N (ee l)) h1 l.length 0 (by omega)
  refine ⟨out, hp, ?_⟩
  unfold route_sorted.f
  simp only [Int.natCast_nonneg, if_true, Int.toNat_natCast, show N ≤ 35184372088832 by omega, hN, mk_rep]
  have e1 : (mk N fun v => (cin (ee (l.take 0)) [] v : Int)) = mk N fun _ => (0 : Int) := mk_congr N _ _ (fun v _ _ => by simp [ee, cin])
  have e2 : mk N (nxt (ee (l.take 0))) = mk N fun _ => ([] : List Int) := mk_congr N _ _ (fun v _ _ => by simp [ee, nxt])
  rw [e1, e2] at he
  exact he

/-! ### Reached -/
structure Bfs (N : Nat) (E : List (Int × Int)) (s : Int) (R : Int → Bool) (q : List Int) : Prop where
  nodup : q.Nodup
  mem : ∀ v : Int, v ∈ q ↔ 0 ≤ v ∧ v < N ∧ R v = true
  path : ∀ v ∈ q, Path E s v
theorem Bfs.len {N : Nat} {E : List (Int × Int)} {s : Int} {R : Int → Bool} {q : List Int} (B : Bfs N E s R q) : q.length ≤ N :=
  len_le N q B.nodup (fun x hx => by have := (B.mem x).1 hx; omega)
theorem reached_l1 (N : Nat) (hN : N ≤ 17592186044414) (l : List S27) (hr : InR N (ee l)) (hl : l.length < 4398046511104) (s : Int) (i : Nat) (P : List Bool → Prop)
    (hgo : ∀ (R : Int → Bool) (q : List Int), Bfs N (ee l) s R q → (h : i < (s :: q).length) → (∀ t (h : t < (s :: q).length), t < i + 1 → ∀ b, ((s :: q)[t], b) ∈ ee l → R b = true) →
      ∃ r, P r ∧ Ev (fun k => intervalmonref29_Reached.l0 k (mk N R) (s :: q) ((i + 1 : Nat) : Int) (N : Int) l) r) (d : Nat) :
    ∀ (j : Nat) (R : Int → Bool) (q : List Int), j + d = l.length → Bfs N (ee l) s R q → (h : i < (s :: q).length) → (∀ t (h : t < (s :: q).length), t < i → ∀ b, ((s :: q)[t], b) ∈ ee l → R b = true) →
      (∀ b, ((s :: q)[i], b) ∈ ee (l.take j) → R b = true) →
      ∃ r, P r ∧ Ev (fun k => intervalmonref29_Reached.l1 k (mk N R) (s :: q) (i : Int) (j : Int) (N : Int) l) r := by
  induction d with
  | zero =>
    intro j R q hj B hi hd hc
    rw [List.take_of_length_le (by omega)] at hc
    obtain ⟨r, hp, he⟩ := hgo R q B hi (fun t ht hti b hb => by
      rcases Nat.lt_or_ge t i with h | h
      · exact hd t ht h b hb
      · obtain rfl : t = i := by omega
        exact hc b hb)
    have hq := B.len
    have hii : i < q.length + 1 := hi
    refine ⟨r, hp, Ev.up ?_⟩
    simp only [intervalmonref29_Reached.l1]
    simp only [show ¬ ((j : Int) < (l.length : Int)) by omega, if_false, w64s i (by omega)]
    exact he
  | succ d ih =>
    intro j R q hj B hi hd hc
    have hlt : j < l.length := by omega
    have hem : (l[j].f0, l[j].f1) ∈ ee l := by unfold ee; exact List.mem_map.2 ⟨l[j], List.getElem_mem hlt, rfl⟩
    have hin := hr _ hem
    simp only at hin
    have hq := B.len
    by_cases hs : l[j].f0 = (s :: q)[i]
    · by_cases hR : R l[j].f1 = true
      · obtain ⟨r, hp, he⟩ := ih (j + 1) R q (by omega) B hi hd (fun b hb => by
          rw [ee_take l j hlt, List.mem_append, List.mem_singleton] at hb
          rcases hb with h | h
          · exact hc b h
          · rw [Prod.mk.injEq] at h
            rw [h.2]; exact hR)
        refine ⟨r, hp, Ev.up ?_⟩
        simp only [intervalmonref29_Reached.l1]
        simp only [show ((j : Int) < (l.length : Int)) by omega, if_true, Int.natCast_nonneg, rdE l j hlt, show ((i : Int) < ((s :: q).length : Int)) by omega, rdI _ i hi, if_pos hs, hin.2.2.1, hin.2.2.2, mk_len, mk_rdOf N R false _ hin.2.2.1 hin.2.2.2, hR, w64s j (by omega)]
        exact he
      · have hnew : ¬ l[j].f1 ∈ q := fun h => hR ((B.mem _).1 h).2.2
        have hpath : Path (ee l) s l[j].f1 := by
          have hx : (s :: q)[i] ∈ s :: q := List.getElem_mem hi
          rw [← hs] at hx
          rcases List.mem_cons.1 hx with h | h
          · rw [← h]; exact .one hem
          · exact .snoc (B.path _ h) hem
        obtain ⟨r, hp, he⟩ := ih (j + 1) (fun u => if u = l[j].f1 then true else R u) (q ++ [l[j].f1]) (by omega) ⟨by
            rw [List.nodup_append]
            refine ⟨B.nodup, by simp, fun a ha b hb => ?_⟩
            obtain rfl := List.mem_singleton.1 hb
            rintro rfl
            exact hnew ha, fun v => by
            rw [List.mem_append, List.mem_singleton, B.mem]
            by_cases hv : v = l[j].f1
            · simp only [hv, if_true]
              exact ⟨fun _ => ⟨hin.2.2.1, hin.2.2.2, trivial⟩, fun _ => Or.inr trivial⟩
            · simp only [if_neg hv]
              exact ⟨fun h => h.resolve_right hv, Or.inl⟩, fun v hv => by
            rcases List.mem_append.1 hv with h | h
            · exact B.path v h
            · obtain rfl := List.mem_singleton.1 h
              exact hpath⟩ (by simp at hi ⊢; omega) (fun t ht hti b hb => by
            have ht' : t < (s :: q).length := by omega
            have e : (s :: (q ++ [l[j].f1]))[t] = (s :: q)[t] := by
              have : s :: (q ++ [l[j].f1]) = (s :: q) ++ [l[j].f1] := rfl
              simp only [this, List.getElem_append_left ht']
            rw [e] at hb
            have := hd t ht' hti b hb
            simp only [this, ite_self]) (fun b hb => by
            have e : (s :: (q ++ [l[j].f1]))[i]'(by simp at hi ⊢; omega) = (s :: q)[i] := by
              have : s :: (q ++ [l[j].f1]) = (s :: q) ++ [l[j].f1] := rfl
              simp only [this, List.getElem_append_left hi]
            rw [e] at hb
            rw [ee_take l j hlt, List.mem_append, List.mem_singleton] at hb
            rcases hb with h | h
            · have := hc b h
              simp only [this, ite_self]
            · rw [Prod.mk.injEq] at h
              simp only [h.2, if_true])
        refine ⟨r, hp, Ev.up ?_⟩
        simp only [intervalmonref29_Reached.l1]
        simp only [show ((j : Int) < (l.length : Int)) by omega, if_true, Int.natCast_nonneg, rdE l j hlt, show ((i : Int) < ((s :: q).length : Int)) by omega, rdI _ i hi, if_pos hs, hin.2.2.1, hin.2.2.2, mk_len, mk_rdOf N R false _ hin.2.2.1 hin.2.2.2, if_neg hR, w64s j (by omega), mk_set N R _ _ hin.2.2.1, show (s :: q).length < 17592186044416 by simp; omega]
        exact he
    · obtain ⟨r, hp, he⟩ := ih (j + 1) R q (by omega) B hi hd (fun b hb => by
        rw [ee_take l j hlt, List.mem_append, List.mem_singleton] at hb
        rcases hb with h | h
        · exact hc b h
        · rw [Prod.mk.injEq] at h
          exact absurd h.1.symm hs)
      refine ⟨r, hp, Ev.up ?_⟩
      simp only [intervalmonref29_Reached.l1]
      simp only [show ((j : Int) < (l.length : Int)) by omega, if_true, Int.natCast_nonneg, rdE l j hlt, show ((i : Int) < ((s :: q).length : Int)) by omega, rdI _ i hi, if_neg hs, w64s j (by omega)]
      exact he
theorem reached_l0 (N : Nat) (hN : N ≤ 17592186044414) (l : List S27) (hr : InR N (ee l)) (hl : l.length < 4398046511104) (s : Int) (d : Nat) :
    ∀ (i : Nat) (R : Int → Bool) (q : List Int), N + 1 ≤ i + d → i ≤ (s :: q).length → Bfs N (ee l) s R q → (∀ t (h : t < (s :: q).length), t < i → ∀ b, ((s :: q)[t], b) ∈ ee l → R b = true) →
      ∃ r, (∃ R : Int → Bool, r = mk N R ∧ ∀ v : Int, 0 ≤ v → v < N → (R v = true ↔ Path (ee l) s v)) ∧ Ev (fun k => intervalmonref29_Reached.l0 k (mk N R) (s :: q) (i : Int) (N : Int) l) r := by
  have stop : ∀ (i : Nat) (R : Int → Bool) (q : List Int), i = (s :: q).length → Bfs N (ee l) s R q → (∀ t (h : t < (s :: q).length), t < i → ∀ b, ((s :: q)[t], b) ∈ ee l → R b = true) →
      ∃ r, (∃ R : Int → Bool, r = mk N R ∧ ∀ v : Int, 0 ≤ v → v < N → (R v = true ↔ Path (ee l) s v)) ∧ Ev (fun k => intervalmonref29_Reached.l0 k (mk N R) (s :: q) (i : Int) (N : Int) l) r := by
    intro i R q hi B hd
    have hcl : ∀ a ∈ s :: q, ∀ b, (a, b) ∈ ee l → R b = true := by
      intro a ha b hb
      obtain ⟨t, ht, rfl⟩ := List.mem_iff_getElem.1 ha
      exact hd t ht (by omega) b hb
    have hall : ∀ v, Path (ee l) s v → R v = true := by
      intro v hv
      induction hv with
      | one e => exact hcl _ (by simp) _ e
      | snoc p e ih =>
        have := (p.ends hr).2
        exact hcl _ (List.mem_cons_of_mem _ ((B.mem _).2 ⟨this.1, this.2, ih⟩)) _ e
    refine ⟨mk N R, ⟨R, rfl, fun v h0 h1 => ⟨fun h => B.path v ((B.mem v).2 ⟨h0, h1, h⟩), hall v⟩⟩, Ev.up ?_⟩
    simp only [intervalmonref29_Reached.l0]
    simp only [show ¬ ((i : Int) < ((s :: q).length : Int)) by omega, if_false]
    exact Ev.some _
  induction d with
  | zero =>
    intro i R q hi hiq B hd
    have := B.len
    exact stop i R q (by simp at hiq ⊢; omega) B hd
  | succ d ih =>
    intro i R q hi hiq B hd
    by_cases hlt : i < (s :: q).length
    · obtain ⟨r, hp, he⟩ := reached_l1 N hN l hr hl s i _ (fun R' q' B' hi' hd' => ih (i + 1) R' q' (by omega) hi' B' hd') l.length 0 R q (by omega) B hlt hd (fun b hb => by simp [ee] at hb)
      refine ⟨r, hp, Ev.up ?_⟩
      simp only [intervalmonref29_Reached.l0]
      simp only [show ((i : Int) < ((s :: q).length : Int)) by omega, if_true]
      exact he
    · exact stop i R q (by omega) B hd
theorem reached_ev (N : Nat) (hN : N ≤ 11728124029610) (l : List S27) (hr : InR N (ee l)) (hl : l.length < 4398046511104) (s : Int) :
    ∃ R : Int → Bool, (∀ v : Int, 0 ≤ v → v < N → (R v = true ↔ Path (ee l) s v)) ∧ Ev (fun k => intervalmonref29_Reached.f k (N : Int) l s) (mk N R) := by
  obtain ⟨r, ⟨R, rfl, hR⟩, he⟩ := reached_l0 N (by omega) l hr hl s (N + 1) 0 (fun _ => false) [] (by omega) (by omega) ⟨by simp, fun v => by simp, fun v hv => by cases hv⟩ (fun t ht h => absurd h (by omega))
  refine ⟨R, hR, ?_⟩
  unfold intervalmonref29_Reached.f
  simp only [Int.natCast_nonneg, if_true, Int.toNat_natCast, show N ≤ 281474976710656 by omega, mk_rep]
  exact he
end Go.Proofs.Ytcamljlhdejmmaa.Pure
