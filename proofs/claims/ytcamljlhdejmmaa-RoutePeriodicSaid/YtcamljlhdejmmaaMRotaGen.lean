/- The generator of rotas: what it makes. -/
import Derived.Test.YtcamljlhdejmmaaMRota
import Derived.Test.YtcamljlhdejmmaaPx20
namespace Go.Proofs.Ytcamljlhdejmmaa.Pure
open Go.RowKit Go.Proofs.Ytcamljlhdejmmaa.P Go.Proofs.YtcamljlhdejmmaaW.PrintWords Go.Proofs.YtcamljlhdejmmaaW.PrintLast Go.Proofs.YtcamljlhdejmmaaW.PrintMore
set_option linter.unusedVariables false
set_option linter.unusedSimpArgs false

/-- The persons of the generator. -/
def nms : List ByteArray := [(⟨#[97, 110, 110]⟩ : ByteArray), (⟨#[98, 111, 98]⟩ : ByteArray), (⟨#[99, 121]⟩ : ByteArray), (⟨#[100, 97, 110]⟩ : ByteArray)]
theorem nms_ok : ∀ b ∈ nms, nameB b = true := by decide +kernel
theorem eve_ok : nameB (⟨#[101, 118, 101]⟩ : ByteArray) = true := by decide +kernel
/-- A shift that is valid for a period. -/
def Fine (p : Int) (s : S50) : Prop := nameB s.f0 = true ∧ 0 ≤ s.f1 ∧ s.f1 < s.f2 ∧ s.f2 ≤ p
theorem wrapf (x : Int) (h0 : -9223372036854775808 ≤ x) (h1 : x ≤ 9223372036854775807) : wrap64 x = x := w64 x h0 h1

/-- One round: some shift is added, a fine one if none is to be spoilt. -/
theorem rota_round (l : List Int) (dirty : Bool) (p : Int) (hp : 1 ≤ p) (hp2 : p ≤ 12) (out : List S50) (hout : out.length < 4398046511104) (i : Int) (n : Int)
    (nm : ByteArray) (hnm : nm ∈ nms) (fr un : Int) (hf : 0 ≤ fr) (hfu : fr < un) (hu : un ≤ p) :
    ∃ s : S50, (dirty = false → Fine p s) ∧ ∀ r, Ev (fun k => intervalmonref29_Rota.l0 k l dirty p nms (out ++ [s]) (wrap64 (i + 1))) r → Ev (fun k => intervalmonref29_Rota.j1 k l dirty p nms out i n nm fr un) r := by
  have j6 : ∀ (fr un : Int) (b : Bool), (dirty = false → b = false ∧ 0 ≤ fr ∧ fr < un ∧ un ≤ p) → ∃ s : S50, (dirty = false → Fine p s) ∧ ∀ r, Ev (fun k => intervalmonref29_Rota.l0 k l dirty p nms (out ++ [s]) (wrap64 (i + 1))) r → Ev (fun k => intervalmonref29_Rota.j6 k l dirty p nms out i n b nm fr un) r := by
    intro fr un b hb
    cases dirty with
    | true =>
      by_cases h2 : Int.tmod (wrap64 (Int.tdiv n 1000)) 16 = 2
      · by_cases hbt : b = true
        · refine ⟨⟨(⟨#[65]⟩ : ByteArray), fr, wrap64 ((wrap64 (un + (Int.tmod (wrap64 (Int.tdiv n 8000)) 3))) - 1)⟩, (fun h => by cases h), fun r h => Ev.up ?_⟩
          simp only [intervalmonref29_Rota.j6, if_pos hbt, if_pos h2, if_true, if_pos hout]
          exact h
        · refine ⟨⟨(⟨#[65]⟩ : ByteArray), fr, un⟩, (fun h => by cases h), fun r h => Ev.up ?_⟩
          simp only [intervalmonref29_Rota.j6, if_neg hbt, if_pos h2, if_true, if_pos hout]
          exact h
      · by_cases hbt : b = true
        · refine ⟨⟨nm, fr, wrap64 ((wrap64 (un + (Int.tmod (wrap64 (Int.tdiv n 8000)) 3))) - 1)⟩, (fun h => by cases h), fun r h => Ev.up ?_⟩
          simp only [intervalmonref29_Rota.j6, if_pos hbt, if_neg h2, if_true, if_pos hout]
          exact h
        · refine ⟨⟨nm, fr, un⟩, (fun h => by cases h), fun r h => Ev.up ?_⟩
          simp only [intervalmonref29_Rota.j6, if_neg hbt, if_neg h2, if_true, if_pos hout]
          exact h
    | false =>
      obtain ⟨rfl, h1, h2, h3⟩ := hb rfl
      refine ⟨⟨nm, fr, un⟩, fun _ => ⟨nms_ok _ hnm, h1, h2, h3⟩, fun r h => Ev.up ?_⟩
      simp only [intervalmonref29_Rota.j6, Bool.false_eq_true, if_false, if_pos hout]
      exact h
  have j5 : ∀ (fr un : Int), (dirty = false → 0 ≤ fr ∧ fr < un ∧ un ≤ p) → ∃ s : S50, (dirty = false → Fine p s) ∧ ∀ r, Ev (fun k => intervalmonref29_Rota.l0 k l dirty p nms (out ++ [s]) (wrap64 (i + 1))) r → Ev (fun k => intervalmonref29_Rota.j5 k l dirty p nms out i n nm fr un) r := by
    intro fr un hb
    cases dirty with
    | true =>
      obtain ⟨s, hs, h⟩ := j6 fr un (Int.tmod (wrap64 (Int.tdiv n 1000)) 8 == 1) (fun h => by cases h)
      refine ⟨s, hs, fun r hr => Ev.up ?_⟩
      simp only [intervalmonref29_Rota.j5, if_true]; exact h r hr
    | false =>
      obtain ⟨s, hs, h⟩ := j6 fr un false (fun _ => ⟨rfl, hb rfl⟩)
      refine ⟨s, hs, fun r hr => Ev.up ?_⟩
      simp only [intervalmonref29_Rota.j5, Bool.false_eq_true, if_false]; exact h r hr
  have j4 : ∀ (fr un : Int) (b : Bool), (dirty = false → b = false ∧ 0 ≤ fr ∧ fr < un ∧ un ≤ p) → ∃ s : S50, (dirty = false → Fine p s) ∧ ∀ r, Ev (fun k => intervalmonref29_Rota.l0 k l dirty p nms (out ++ [s]) (wrap64 (i + 1))) r → Ev (fun k => intervalmonref29_Rota.j4 k l dirty p nms out i n b nm fr un) r := by
    intro fr un b hb
    cases b with
    | true =>
      obtain ⟨s, hs, h⟩ := j5 (wrap64 (fr - (Int.tmod (wrap64 (Int.tdiv n 8000)) 3))) un (fun h => absurd (hb h).1 (by simp))
      refine ⟨s, hs, fun r hr => Ev.up ?_⟩
      simp only [intervalmonref29_Rota.j4, if_true]; exact h r hr
    | false =>
      obtain ⟨s, hs, h⟩ := j5 fr un (fun h => (hb h).2)
      refine ⟨s, hs, fun r hr => Ev.up ?_⟩
      simp only [intervalmonref29_Rota.j4, Bool.false_eq_true, if_false]; exact h r hr
  have j3 : ∀ (fr un : Int), (0 ≤ fr ∧ fr < un ∧ un ≤ p) → ∃ s : S50, (dirty = false → Fine p s) ∧ ∀ r, Ev (fun k => intervalmonref29_Rota.l0 k l dirty p nms (out ++ [s]) (wrap64 (i + 1))) r → Ev (fun k => intervalmonref29_Rota.j3 k l dirty p nms out i n nm fr un) r := by
    intro fr un hb
    cases dirty with
    | true =>
      obtain ⟨s, hs, h⟩ := j4 fr un (Int.tmod (wrap64 (Int.tdiv n 1000)) 8 == 0) (fun h => by cases h)
      refine ⟨s, hs, fun r hr => Ev.up ?_⟩
      simp only [intervalmonref29_Rota.j3, if_true]; exact h r hr
    | false =>
      obtain ⟨s, hs, h⟩ := j4 fr un false (fun _ => ⟨rfl, hb⟩)
      refine ⟨s, hs, fun r hr => Ev.up ?_⟩
      simp only [intervalmonref29_Rota.j3, Bool.false_eq_true, if_false]; exact h r hr
  have j2 : ∀ (b : Bool), ∃ s : S50, (dirty = false → Fine p s) ∧ ∀ r, Ev (fun k => intervalmonref29_Rota.l0 k l dirty p nms (out ++ [s]) (wrap64 (i + 1))) r → Ev (fun k => intervalmonref29_Rota.j2 k l dirty p nms out i n b nm fr un) r := by
    intro b
    cases b with
    | true =>
      obtain ⟨s, hs, h⟩ := j3 fr p ⟨hf, by omega, by omega⟩
      refine ⟨s, hs, fun r hr => Ev.up ?_⟩
      simp only [intervalmonref29_Rota.j2, if_true]; exact h r hr
    | false =>
      obtain ⟨s, hs, h⟩ := j3 fr un ⟨hf, hfu, hu⟩
      refine ⟨s, hs, fun r hr => Ev.up ?_⟩
      simp only [intervalmonref29_Rota.j2, Bool.false_eq_true, if_false]; exact h r hr
  by_cases h0 : i = 0
  · obtain ⟨s, hs, h⟩ := j2 (decide (Int.tmod n 3 > 0))
    refine ⟨s, hs, fun r hr => Ev.up ?_⟩
    simp only [intervalmonref29_Rota.j1, if_pos h0]; exact h r hr
  · obtain ⟨s, hs, h⟩ := j2 false
    refine ⟨s, hs, fun r hr => Ev.up ?_⟩
    simp only [intervalmonref29_Rota.j1, if_neg h0]; exact h r hr

theorem rota_loop (l : List Int) (hl : ∀ x ∈ l, (Lit.int .i64 x).wf = true) (dirty : Bool) (p : Int) (hp : 1 ≤ p) (hp2 : p ≤ 12) (d : Nat) : ∀ (i : Nat) (out : List S50), i + d = 7 → out.length = i → (dirty = false → ∀ s ∈ out, Fine p s) →
    ∃ s, s.length ≤ 8 ∧ (dirty = false → vrota p (s.map of50) = 0 ∧ (∀ x ∈ s, Fine p x)) ∧ Ev (fun k => intervalmonref29_Rota.l0 k l dirty p nms out (i : Int)) (p, s) := by
  have fin : ∀ (out : List S50), out.length ≤ 7 → (dirty = false → ∀ s ∈ out, Fine p s) → ∃ s, s.length ≤ 8 ∧ (dirty = false → vrota p (s.map of50) = 0 ∧ (∀ x ∈ s, Fine p x)) ∧
      Ev (fun k => if dirty = true then some (p, out) else (intervalmonref29_ValidRota.f k p out).bind fun t448 => (if t448 = 0 then (some (p, out)) else (if out.length < 4398046511104 then (some (p, (out ++ [(⟨(⟨#[101, 118, 101]⟩ : ByteArray), 0, p⟩ : S50)]))) else (none)))) (p, s) := by
    intro out hlen hfine
    cases dirty with
    | true =>
      refine ⟨out, by omega, (fun h => by cases h), ?_⟩
      simp only [if_true]
      exact Ev.some _
    | false =>
      simp only [Bool.false_eq_true, if_false]
      by_cases hv : vrota p (out.map of50) = 0
      · refine ⟨out, by omega, fun _ => ⟨hv, hfine rfl⟩, Ev.bind (refRota p out) ?_⟩
        simp only [if_pos hv]
        exact Ev.some _
      · have hfe : ∀ x ∈ out ++ [(⟨(⟨#[101, 118, 101]⟩ : ByteArray), 0, p⟩ : S50)], Fine p x := by
          intro x hx
          rcases List.mem_append.1 hx with h | h
          · exact hfine rfl x h
          · obtain rfl := List.mem_singleton.1 h
            exact ⟨eve_ok, Int.le_refl _, (show (0 : Int) < p by omega), Int.le_refl _⟩
        refine ⟨out ++ [(⟨(⟨#[101, 118, 101]⟩ : ByteArray), 0, p⟩ : S50)], by simp; omega, fun _ => ⟨?_, hfe⟩, Ev.bind (refRota p out) ?_⟩
        · have hz : ∀ q : List S50, (∀ x ∈ q, Fine p x) → firstErr p (q.map of50) = 0 := by
            intro q
            induction q with
            | nil => intro _; rfl
            | cons a q ih =>
              intro h
              obtain ⟨h1, h2, h3, h4⟩ := h a (by simp)
              rw [List.map_cons, firstErr]
              have : errOf p (of50 a) = 0 := by
                unfold errOf
                show (if nameB a.f0 = true then (if a.f1 < 0 then (5 : Int) else if a.f2 ≤ a.f1 then 5 else if a.f2 > p then 5 else 0) else 8) = 0
                rw [if_pos h1, if_neg (show ¬ a.f1 < 0 by omega), if_neg (show ¬ a.f2 ≤ a.f1 by omega), if_neg (show ¬ a.f2 > p by omega)]
              rw [if_pos this]
              exact ih (fun x hx => h x (by simp [hx]))
          have hc : ∀ t, 0 ≤ t → t < p → covB ((out ++ [(⟨(⟨#[101, 118, 101]⟩ : ByteArray), 0, p⟩ : S50)]).map of50) t = true := by
            intro t h0 h1
            unfold covB
            rw [List.any_eq_true]
            exact ⟨of50 ⟨(⟨#[101, 118, 101]⟩ : ByteArray), 0, p⟩, by simp, by simp [of50, h0, h1]⟩
          unfold vrota
          rw [if_neg (by omega), if_neg (by omega), if_neg (by simp; omega), if_pos (hz _ hfe), if_pos ?_]
          unfold allCov
          rw [Bool.and_eq_true, List.all_eq_true]
          refine ⟨hc 0 (by omega) (by omega), fun s hs => ?_⟩
          obtain ⟨x, hx, rfl⟩ := List.mem_map.1 hs
          obtain ⟨_, h2, h3, h4⟩ := hfe x hx
          by_cases h5 : x.f2 < p
          · rw [hc (of50 x).un (by show 0 ≤ x.f2; omega) h5]; simp
          · rw [decide_eq_false (show ¬ (of50 x).un < p from h5)]; simp
        · simp only [if_neg hv, show out.length < 4398046511104 by omega, if_true]
          exact Ev.some _
  have hpk := pk_bd l 1 6 (by decide)
  have ew : wrap64 (1 + pk l 1 6) = 1 + pk l 1 6 := w64 _ (by omega) (by omega)
  induction d with
  | zero =>
    intro i out hi ho hf
    obtain ⟨s, hs, hv, he⟩ := fin out (by omega) hf
    refine ⟨s, hs, hv, Ev.up ?_⟩
    simp only [intervalmonref29_Rota.l0, pick l hl 1 6 (by decide), Option.bind_some, ew]
    simp only [if_neg (show ¬ (i : Int) < 1 + pk l 1 6 by omega)]
    exact he
  | succ d ih =>
    intro i out hi ho hf
    by_cases hlt : (i : Int) < 1 + pk l 1 6
    · have hn := pk_bd l ((i : Int) + 2) 100000 (by decide)
      have e2 : wrap64 ((i : Int) + 2) = (i : Int) + 2 := w64 _ (by omega) (by omega)
      generalize hnn : pk l ((i : Int) + 2) 100000 = n at hn
      have b4 := tmod_bd n 4 hn.1 (by decide)
      have d4 := tdiv_bd n 4 hn.1 (by decide)
      have d64 := tdiv_bd n 64 hn.1 (by decide)
      have ed4 : wrap64 (Int.tdiv n 4) = Int.tdiv n 4 := w64 _ (by omega) (by omega)
      have ed64 : wrap64 (Int.tdiv n 64) = Int.tdiv n 64 := w64 _ (by omega) (by omega)
      have bf := tmod_bd (Int.tdiv n 4) p d4.1 (by omega)
      have es : wrap64 (p - Int.tmod (Int.tdiv n 4) p) = p - Int.tmod (Int.tdiv n 4) p := w64 _ (by omega) (by omega)
      have bu := tmod_bd (Int.tdiv n 64) (p - Int.tmod (Int.tdiv n 4) p) d64.1 (by omega)
      have ef : wrap64 (Int.tmod (Int.tdiv n 4) p + 1) = Int.tmod (Int.tdiv n 4) p + 1 := w64 _ (by omega) (by omega)
      have eu : wrap64 (Int.tmod (Int.tdiv n 4) p + 1 + Int.tmod (Int.tdiv n 64) (p - Int.tmod (Int.tdiv n 4) p)) = Int.tmod (Int.tdiv n 4) p + 1 + Int.tmod (Int.tdiv n 64) (p - Int.tmod (Int.tdiv n 4) p) := w64 _ (by omega) (by omega)
      have hmem : rdOf ByteArray.empty nms (Int.tmod n 4) ∈ nms := by
        have hj : (Int.tmod n 4).toNat < nms.length := by show _ < 4; omega
        unfold rdOf
        rw [List.getD_eq_getElem?_getD, List.getElem?_eq_getElem hj]
        exact List.getElem_mem _
      have key : ∀ fr un, 0 ≤ fr → fr < un → un ≤ p → ∃ s, s.length ≤ 8 ∧ (dirty = false → vrota p (s.map of50) = 0 ∧ (∀ x ∈ s, Fine p x)) ∧ Ev (fun k => intervalmonref29_Rota.j1 k l dirty p nms out (i : Int) n (rdOf ByteArray.empty nms (Int.tmod n 4)) fr un) (p, s) := by
        intro fr un h1 h2 h3
        obtain ⟨x, hx, hgo⟩ := rota_round l dirty p hp hp2 out (by omega) (i : Int) n _ hmem fr un h1 h2 h3
        obtain ⟨s, hs, hv, he⟩ := ih (i + 1) (out ++ [x]) (by omega) (by simp; omega) (fun hd y hy => by
          rcases List.mem_append.1 hy with h | h
          · exact hf hd y h
          · obtain rfl := List.mem_singleton.1 h
            exact hx hd)
        refine ⟨s, hs, hv, hgo _ ?_⟩
        rw [w64s i (by omega)]
        exact he
      have un0 : ∃ s, s.length ≤ 8 ∧ (dirty = false → vrota p (s.map of50) = 0 ∧ (∀ x ∈ s, Fine p x)) ∧ Ev (fun k => if (i : Int) = 0 then (intervalmonref29_Rota.j1 k l dirty p nms out (i : Int) n (rdOf ByteArray.empty nms (Int.tmod n 4)) 0 (Int.tmod (Int.tdiv n 4) p + 1 + Int.tmod (Int.tdiv n 64) (p - Int.tmod (Int.tdiv n 4) p))) else (intervalmonref29_Rota.j1 k l dirty p nms out (i : Int) n (rdOf ByteArray.empty nms (Int.tmod n 4)) (Int.tmod (Int.tdiv n 4) p) (Int.tmod (Int.tdiv n 4) p + 1 + Int.tmod (Int.tdiv n 64) (p - Int.tmod (Int.tdiv n 4) p)))) (p, s) := by
        by_cases h0 : (i : Int) = 0
        · simp only [if_pos h0]
          exact key _ _ (by omega) (by omega) (by omega)
        · simp only [if_neg h0]
          exact key _ _ (by omega) (by omega) (by omega)
      obtain ⟨s, hs, hv, he⟩ := un0
      refine ⟨s, hs, hv, Ev.up ?_⟩
      simp only [intervalmonref29_Rota.l0, pick l hl 1 6 (by decide), Option.bind_some, ew, if_pos hlt, e2, pick l hl ((i : Int) + 2) 100000 (by decide), hnn, if_neg (show ¬ p = 0 by omega), if_pos b4.1, if_pos (show Int.tmod n 4 < (nms.length : Int) by show _ < 4; omega), ed4, ed64, es, ef, eu, if_neg (show ¬ p - Int.tmod (Int.tdiv n 4) p = 0 by omega)]
      exact he
    · obtain ⟨s, hs, hv, he⟩ := fin out (by omega) hf
      refine ⟨s, hs, hv, Ev.up ?_⟩
      simp only [intervalmonref29_Rota.l0, pick l hl 1 6 (by decide), Option.bind_some, ew]
      simp only [if_neg hlt]
      exact he
/-- What the generator makes: a period from 1 to 12 and a few shifts; without errors they are a valid rota. -/
theorem rota_gen (l : List Int) (hl : ∀ x ∈ l, (Lit.int .i64 x).wf = true) (dirty : Bool) :
    ∃ p s, 1 ≤ p ∧ p ≤ 12 ∧ s.length ≤ 8 ∧ (dirty = false → vrota p (s.map of50) = 0 ∧ (∀ x ∈ s, Fine p x)) ∧ Ev (fun k => intervalmonref29_Rota.f k l dirty) (p, s) := by
  have hpk := pk_bd l 0 12 (by decide)
  obtain ⟨s, hs, hv, he⟩ := rota_loop l hl dirty (1 + pk l 0 12) (by omega) (by omega) 7 0 [] (by omega) rfl (fun _ s hs => by cases hs)
  refine ⟨_, s, by omega, by omega, hs, hv, ?_⟩
  unfold intervalmonref29_Rota.f
  simp only [pick l hl 0 12 (by decide), Option.bind_some, w64 (1 + pk l 0 12) (by omega) (by omega)]
  exact he
end Go.Proofs.Ytcamljlhdejmmaa.Pure
