/- For all valid graphs and firing nodes made from numbers: another edge that keeps the graph valid ends no inhibition; if an inhibited node stops firing, the other nodes stay as they were. Its pure statement. No condition. -/
import Derived.Test.YtcamljlhdejmmaaMAcyc
import Derived.Test.YtcamljlhdejmmaaMInh
import Derived.Test.YtcamljlhdejmmaaMLives
import Derived.Test.YtcamljlhdejmmaaPx17
namespace Go.Proofs.Ytcamljlhdejmmaa.Pure
open Go.RowKit Go.Proofs.Ytcamljlhdejmmaa.P Go.Proofs.YtcamljlhdejmmaaW.PrintWords Go.Proofs.YtcamljlhdejmmaaW.PrintLast Go.Proofs.YtcamljlhdejmmaaW.PrintMore
set_option linter.unusedVariables false
set_option linter.unusedSimpArgs false
section
variable (n : Nat) (l : List S27) (f I : Int → Bool)
theorem mono_l1 (hn : n ≤ 200) (Z : Int → Bool) (k : Int) (k0 : 0 ≤ k) (k1 : k < n) (hk : Z k = false) (hZ : ∀ v : Int, 0 ≤ v → v < n → v ≠ k → Z v = I v) (d : Nat) :
    ∀ i : Nat, i + d = n → Ev (fun m => intervalmonlaw29_RouteMonotone.l1 m (mk n I) k (mk n Z) (i : Int) (n : Int) l) true := by
  induction d with
  | zero =>
    intro i hi
    refine Ev.up ?_
    simp only [intervalmonlaw29_RouteMonotone.l1]
    simp only [show ¬ ((i : Int) < (n : Int)) by omega, if_false, mk_len, k0, k1, if_true, mk_rdOf n Z false k k0 k1, hk, Bool.false_eq_true]
    exact Ev.bind lives29 (Ev.some _)
  | succ d ih =>
    intro i hi
    have hgo := ih (i + 1) (by omega)
    refine Ev.up ?_
    simp only [intervalmonlaw29_RouteMonotone.l1]
    simp only [show ((i : Int) < (n : Int)) by omega, if_true, mk_len, Int.natCast_nonneg, mk_rdOf n I false (i : Int) (by omega) (by omega), mk_rdOf n Z false (i : Int) (by omega) (by omega), w64s i (by omega)]
    by_cases h : (i : Int) = k
    · simp only [if_pos h]
      exact hgo
    · simp only [if_neg h, hZ (i : Int) (by omega) (by omega) h, bne_self_eq_false, Bool.false_eq_true, if_false]
      exact hgo
theorem mono_stop (hn : n ≤ 200) (hn0 : 0 < n) (hl : l.length < 4398046511104) (hg : Good (n : Int) l) (hI : Inh n (ee l) f I) (stop : Int) (hs : (Lit.int .i64 stop).wf = true) (x16 : List Bool) (x17 : Int) (m : List S27) :
    Ev (fun k => intervalmonlaw29_RouteMonotone.j2 k stop (mk n f) (mk n I) x16 x17 false (n : Int) l (n : Int) m) true := by
  have hb := arn_bd stop n (by omega)
  refine Ev.up ?_
  simp only [intervalmonlaw29_RouteMonotone.j2]
  simp only [Bool.false_eq_true, if_false, around stop n hs (by omega), Option.bind_some]
  generalize arn stop n = k at hb
  simp only [mk_len, hb.1, hb.2, if_true, mk_rdOf n I false k hb.1 hb.2]
  by_cases h : I k = true
  · simp only [if_pos h]
    rw [mk_set n f k false hb.1]
    obtain ⟨Z, hZ, he⟩ := inh_good n l hl hg (fun u => if u = k then false else f u)
    refine Ev.bind he ?_
    refine mono_l1 n l I hn Z k hb.1 hb.2 ?_ (fun v h0 h1 hv => ?_) n 0 (by omega)
    · refine (Bool.not_eq_true _).mp fun hz => ?_
      have := ((hZ k hb.1 hb.2).1 hz).1
      simp at this
    · obtain ⟨hfk, c, c0, c1, hc, hp⟩ := (hI k hb.1 hb.2).1 h
      have hck : c ≠ k := by
        rintro rfl
        exact hg.2.2.2 c c0 c1 hp
      rw [Bool.eq_iff_iff, hZ v h0 h1, hI v h0 h1]
      simp only [if_neg hv]
      constructor
      · rintro ⟨hv2, b, b0, b1, hb2, hbp⟩
        refine ⟨hv2, b, b0, b1, ?_, hbp⟩
        by_cases hbk : b = k
        · rw [if_pos hbk] at hb2; cases hb2
        · rwa [if_neg hbk] at hb2
      · rintro ⟨hv2, b, b0, b1, hb2, hbp⟩
        refine ⟨hv2, ?_⟩
        by_cases hbk : b = k
        · subst hbk
          exact ⟨c, c0, c1, by rw [if_neg hck]; exact hc, hp.trans hbp⟩
        · exact ⟨b, b0, b1, by rw [if_neg hbk]; exact hb2, hbp⟩
  · simp only [if_neg h]
    exact Ev.bind lives29 (Ev.some _)
theorem mono_l0 (hn : n ≤ 200) (x16 : List Bool) (stop : Int) (m : List S27) (r : Int) (hr : Ev (fun k => route_Valid.f k (n : Int) m) r) (hgo : ∀ i : Int, Ev (fun k => intervalmonlaw29_RouteMonotone.j2 k stop (mk n f) (mk n I) x16 i false (n : Int) l (n : Int) m) true)
    (hx : r = 0 → ∃ J, x16 = mk n J ∧ ∀ v : Int, 0 ≤ v → v < n → I v = true → J v = true) (d : Nat) :
    ∀ i : Nat, i + d = n → Ev (fun k => intervalmonlaw29_RouteMonotone.l0 k stop (mk n f) (mk n I) x16 (i : Int) (n : Int) l (n : Int) m) true := by
  induction d with
  | zero =>
    intro i hi
    refine Ev.up ?_
    simp only [intervalmonlaw29_RouteMonotone.l0]
    simp only [show ¬ ((i : Int) < (n : Int)) by omega, if_false]
    exact hgo (i : Int)
  | succ d ih =>
    intro i hi
    have hnext := ih (i + 1) (by omega)
    refine Ev.up ?_
    simp only [intervalmonlaw29_RouteMonotone.l0]
    simp only [show ((i : Int) < (n : Int)) by omega, if_true]
    refine Ev.bind hr ?_
    by_cases h0 : r = 0
    · obtain ⟨J, rfl, hJ⟩ := hx h0
      subst h0
      simp only [beq_self_eq_true]
      refine Ev.up ?_
      simp only [intervalmonlaw29_RouteMonotone.j2]
      simp only [if_true, mk_len, Int.natCast_nonneg, show ((i : Int) < (n : Int)) by omega, mk_rdOf n I false (i : Int) (by omega) (by omega), mk_rdOf n J false (i : Int) (by omega) (by omega), w64s i (by omega)]
      by_cases hI : I (i : Int) = true
      · simp only [if_pos hI, if_pos (hJ (i : Int) (by omega) (by omega) hI)]
        exact hnext
      · simp only [if_neg hI]
        exact hnext
    · simp only [show (r == 0) = false from beq_eq_false_iff_ne.2 h0]
      exact hgo (i : Int)
end
theorem RouteMonotone : intervalmonlaw29_RouteMonotone.Pure := by
  intro l a1 a2 a3 a4 hm h8 hl h1 h2 h3 h4
  refine Ev.rounds ?_
  obtain ⟨n, E, hn, hE, hg, he⟩ := acyc_gen l hl
  obtain ⟨F, hF, hf⟩ := firing_ev n (by omega) a1 h1
  rw [as_mk n F hF] at hf
  obtain ⟨I, hI, hi⟩ := inh_good n E (by omega) hg (rdOf false F)
  unfold intervalmonlaw29_RouteMonotone.f
  refine Ev.bind he ?_
  simp only [intervalmonlaw29_graph.f, Option.bind_some]
  refine Ev.bind hf ?_
  refine Ev.bind hi ?_
  by_cases h0 : (n : Int) = 0
  · simp only [if_pos h0]
    refine Ev.up ?_
    simp only [intervalmonlaw29_RouteMonotone.j0]
    simp only [if_true, if_pos h0, mk_len]
    exact Ev.bind lives29 (Ev.some _)
  · simp only [if_neg h0, mk_len, bne_self_eq_false]
    refine Ev.up ?_
    simp only [intervalmonlaw29_RouteMonotone.j0]
    simp only [Bool.false_eq_true, if_false, List.length_nil, Nat.zero_add, show E.length < 8796093022208 by omega, if_true, List.nil_append, Option.bind_some, around a2 n h2 (by omega), around a3 n h3 (by omega), List.length_cons, show E.length + 1 < 8796093022208 by omega]
    generalize hM : E ++ [(⟨arn a2 n, arn a3 n⟩ : S27)] = M
    have hML : M.length = E.length + 1 := by rw [← hM]; simp
    obtain ⟨y, y1, -, -⟩ := inh_both (n : Int) M (by omega) (mk n (rdOf false F))
    refine Ev.bind y1 ?_
    obtain ⟨r, r1, -, r3⟩ := valid_both (n : Int) M (by omega)
    refine mono_l0 n E (rdOf false F) I (by omega) y a4 M r r1 (fun i => mono_stop n E (rdOf false F) I (by omega) (by omega) (by omega) hg hI a4 h4 y i M) (fun hr => ?_) n 0 (by omega)
    obtain ⟨J, hJ, hj⟩ := inh_good n M (by omega) (r3.1 hr) (rdOf false F)
    have hy : y = mk n J := by
      obtain ⟨K, y1⟩ := y1
      obtain ⟨K', hj⟩ := hj
      have e1 := y1 (max K K') (by omega)
      have e2 := hj (max K K') (by omega)
      simp only [e1] at e2
      exact Option.some.inj e2
    refine ⟨J, hy, fun v v0 v1 hv => ?_⟩
    obtain ⟨hf2, b, b0, b1, hb, hp⟩ := (hI v v0 v1).1 hv
    refine (hJ v v0 v1).2 ⟨hf2, b, b0, b1, hb, hp.sub (fun e he => ?_)⟩
    rw [← hM]
    unfold ee at he ⊢
    rw [List.map_append]
    exact List.mem_append_left _ he
end Go.Proofs.Ytcamljlhdejmmaa.Pure
