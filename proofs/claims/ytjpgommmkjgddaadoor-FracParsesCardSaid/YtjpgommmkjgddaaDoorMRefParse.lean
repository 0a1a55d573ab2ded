/- The reference's Parse: OK exactly at the texts of valid fractions. -/
import Derived.Test.YtjpgommmkjgddaaDoorMParse
import Derived.Test.YtjpgommmkjgddaaDoorPx19
namespace Go.Proofs.YtjpgommmkjgddaaDoor.Pure
open Go.RowKit Go.Proofs.YtjpgommmkjgddaaDoor.P Go.Proofs.YtjpgommmkjgddaaDoorW.PrintWords Go.Proofs.YtjpgommmkjgddaaDoorW.PrintLast Go.Proofs.YtjpgommmkjgddaaDoorW.PrintMore
set_option linter.unusedVariables false
set_option linter.unusedSimpArgs false
theorem bt_at {s : ByteArray} {i : Nat} {c : UInt8} {r : List UInt8} (h : s.data.toList.drop i = c :: r) : bt s (i : Int) = (c.toNat : Int) ∧ i < s.size := by
  have h1 : (s.data.toList.drop i)[0]? = some c := by rw [h]; rfl
  rw [List.getElem?_drop, Nat.add_zero] at h1
  obtain ⟨hl, he⟩ := List.getElem?_eq_some_iff.1 h1
  have hl' : i < s.size := by rw [Array.length_toList] at hl; exact hl
  refine ⟨?_, hl'⟩
  unfold bt
  rw [Int.toNat_natCast, dif_pos hl']
  rw [← he]
  rfl
theorem dig_step {s : ByteArray} {p f : Nat} {v : Int} {c : UInt8} {r : List UInt8} (h : s.data.toList.drop p = c :: r) (hc : 48 ≤ c.toNat ∧ c.toNat ≤ 57) (hf : f ≤ p) (h19 : p - f < 19) (hs : s.size ≤ 1000) (hv : 0 ≤ v ∧ 10 * v + 9 < 18446744073709551616) (k : Nat) :
    intervalmonref03_digits.l0 (k + 2) s p v f = intervalmonref03_digits.l0 k s ((p + 1 : Nat) : Int) (10 * v + ((c.toNat : Int) - 48)) f := by
  obtain ⟨hb, hlt⟩ := bt_at h
  simp only [intervalmonref03_digits.l0, intervalmonref03_digits.j1]
  rw [hb, w64 ((p : Int) - (f : Int)) (by omega) (by omega), w64 ((p : Int) + 1) (by omega) (by omega), if_pos (by omega), if_pos (by omega), if_pos (by omega), if_pos (by omega), decide_eq_true (by omega), if_pos rfl, if_pos (by omega), if_pos (by omega), if_pos (by omega)]
  rw [show ((c.toNat : Int) - 48) % 256 = (c.toNat : Int) - 48 by omega, wu (10 * v) (by omega) (by omega), wu _ (by omega) (by omega)]
  rfl
/-- What the loop ends with. -/
def digEnd (p f v : Int) : Int × Int := if p = f then (0, -1) else if p - f > 19 then (0, -1) else if v > 4611686018427387904 then (0, -1) else (wrap64 v, p)
theorem dig_stop {s : ByteArray} {p f : Nat} {v : Int} (h : p = s.size ∨ (p < s.size ∧ ¬ (48 ≤ bt s (p : Int) ∧ bt s (p : Int) ≤ 57 ∧ (p : Int) - f < 20))) (hf : f ≤ p) (hs : s.size ≤ 1000) (k : Nat) :
    intervalmonref03_digits.l0 (k + 2) s p v f = some (digEnd p f v) := by
  have he : intervalmonref03_digits.j1 (k + 1) s p v f false = some (digEnd p f v) := by
    simp only [intervalmonref03_digits.j1]
    rw [if_neg (by decide), w64 ((p : Int) - (f : Int)) (by omega) (by omega)]
    unfold digEnd
    split
    · rfl
    · split
      · rfl
      · split <;> rfl
  simp only [intervalmonref03_digits.l0]
  rcases h with h | ⟨h1, h2⟩
  · rw [if_neg (by omega)]; exact he
  · rw [if_pos (by omega), if_pos (by omega)]
    split
    · split
      · rw [w64 ((p : Int) - (f : Int)) (by omega) (by omega), decide_eq_false (by omega)]
        exact he
      · exact he
    · exact he
theorem dig_go {s : ByteArray} {p f : Nat} {v : Int} (h : p < s.size) (hc : 48 ≤ bt s (p : Int) ∧ bt s (p : Int) ≤ 57 ∧ (p : Int) - f < 20) (hf : f ≤ p) (hs : s.size ≤ 1000) (k : Nat) :
    intervalmonref03_digits.l0 (k + 2) s p v f = intervalmonref03_digits.l0 k s ((p + 1 : Nat) : Int) (if (p : Int) - f < 19 then IntKind.u64.wrap (IntKind.u64.wrap (10 * v) + (bt s (p : Int) - 48) % 256) else v) f := by
  simp only [intervalmonref03_digits.l0, intervalmonref03_digits.j1]
  rw [w64 ((p : Int) - (f : Int)) (by omega) (by omega), w64 ((p : Int) + 1) (by omega) (by omega), if_pos (by omega), if_pos (by omega), if_pos (by omega), if_pos (by omega), decide_eq_true (by omega), if_pos rfl]
  split
  · rw [if_pos (by omega), if_pos (by omega)]; rfl
  · rfl
def valL (v : Int) : List UInt8 → Int
  | [] => v
  | c :: r => valL (10 * v + ((c.toNat : Int) - 48)) r
theorem val_dec (u : Nat) : ∀ rest, valL 0 (Lib.decDigits u ++ rest) = valL u rest := by
  induction u using Nat.strongRecOn with
  | _ u ih =>
    intro rest
    by_cases h : u < 10
    · rw [Lib.decDigits_one h]
      simp only [List.cons_append, List.nil_append, valL, UInt8.toNat_ofNat']
      congr 1
      omega
    · rw [dec_big h, List.append_assoc, ih (u / 10) (by omega) _]
      simp only [List.cons_append, List.nil_append, valL, UInt8.toNat_ofNat']
      congr 1
      omega
theorem dig_run (s : ByteArray) (f : Nat) (rest : List UInt8) (hs : s.size ≤ 1000) (hr : ∀ c r, rest = c :: r → ¬ (48 ≤ c.toNat ∧ c.toNat ≤ 57)) :
    ∀ (l : List UInt8) (p : Nat) (v : Int), s.data.toList.drop p = l ++ rest → (∀ c ∈ l, 48 ≤ c.toNat ∧ c.toNat ≤ 57) → f ≤ p → p ≤ s.size → p - f + l.length ≤ 19 → 0 ≤ v → v < ((10 ^ (p - f) : Nat) : Int) →
      Ev (fun k => intervalmonref03_digits.l0 k s p v f) (digEnd ((p + l.length : Nat) : Int) f (valL v l))
  | [], p, v, h, _, hf, hp, _, _, _ => by
    refine Ev.up (Ev.up ?_)
    have hst : p = s.size ∨ (p < s.size ∧ ¬ (48 ≤ bt s (p : Int) ∧ bt s (p : Int) ≤ 57 ∧ (p : Int) - f < 20)) := by
      cases rest with
      | nil =>
        left
        have := congrArg List.length h
        rw [List.length_drop, Array.length_toList] at this
        have e : s.data.size = s.size := rfl
        simp at this
        omega
      | cons c r =>
        right
        obtain ⟨hb, hlt⟩ := bt_at h
        refine ⟨hlt, ?_⟩
        rw [hb]
        have := hr c r rfl
        omega
    simp only [dig_stop hst hf hs]
    exact Ev.some _
  | c :: l, p, v, h, hd, hf, hp, hl, h0, hv => by
    have hc := hd c List.mem_cons_self
    rw [List.length_cons] at hl ⊢
    have h18 : 10 ^ (p - f) ≤ 10 ^ 18 := Nat.pow_le_pow_right (by omega) (by omega)
    have hv2 : 10 * v + 9 < 18446744073709551616 := by omega
    refine Ev.up (Ev.up ?_)
    simp only [dig_step h hc hf (by omega) hs ⟨h0, hv2⟩]
    have hn : s.data.toList.drop (p + 1) = l ++ rest := by
      rw [show p + 1 = p + 1 from rfl, ← List.drop_drop, h]; rfl
    have hlt := (bt_at h).2
    have hi := dig_run s f rest hs hr l (p + 1) (10 * v + ((c.toNat : Int) - 48)) hn (fun x hx => hd x (List.mem_cons_of_mem _ hx)) (by omega) (by omega) (by omega) (by omega)
      (by rw [show p + 1 - f = (p - f) + 1 by omega, Nat.pow_succ]; omega)
    rw [show p + (l.length + 1) = p + 1 + l.length by omega]
    exact hi
theorem digits_yes (s : ByteArray) (f u : Nat) (rest : List UInt8) (hs : s.size ≤ 1000) (h : s.data.toList.drop f = Lib.decDigits u ++ rest) (hr : ∀ c r, rest = c :: r → ¬ (48 ≤ c.toNat ∧ c.toNat ≤ 57)) (hu : u ≤ 4611686018427387904) (hf : f ≤ s.size) :
    Ev (fun k => intervalmonref03_digits.f k s f) ((u : Int), ((f + (Lib.decDigits u).length : Nat) : Int)) := by
  have hlen : (Lib.decDigits u).length ≤ 19 := by rw [Lib.decDigits_length]; exact nDigits_le 18 u (by omega)
  have hpos : 1 ≤ (Lib.decDigits u).length := by rw [Lib.decDigits_length]; exact Lib.nDigits_pos u
  have h1 := dig_run s f rest hs hr (Lib.decDigits u) f 0 h (dec_dig u) (Nat.le_refl _) hf (by omega) (by omega) (by simp)
  have hv := val_dec u []
  rw [List.append_nil] at hv
  rw [hv] at h1
  have e : digEnd ((f + (Lib.decDigits u).length : Nat) : Int) f (valL (u : Int) []) = ((u : Int), ((f + (Lib.decDigits u).length : Nat) : Int)) := by
    unfold digEnd valL
    rw [if_neg (by omega), if_neg (by omega), if_neg (by omega), w64 _ (by omega) (by omega)]
  rw [e] at h1
  exact h1
/-- At every string: an end. -/
theorem dig_any (s : ByteArray) (f : Nat) (hs : s.size ≤ 1000) : ∀ (m p : Nat) (v : Int), s.size - p = m → f ≤ p → p ≤ s.size → 0 ≤ v →
    ∃ r : Int × Int, Ev (fun k => intervalmonref03_digits.l0 k s p v f) r ∧ (r.2 = -1 ∨ ∃ q : Nat, r.2 = q ∧ f < q ∧ q ≤ s.size ∧ 0 ≤ r.1 ∧ r.1 ≤ 4611686018427387904) := by
  intro m
  have hend : ∀ (p : Nat) (v : Int), f ≤ p → p ≤ s.size → 0 ≤ v → ((digEnd p f v).2 = -1 ∨ ∃ q : Nat, (digEnd p f v).2 = q ∧ f < q ∧ q ≤ s.size ∧ 0 ≤ (digEnd p f v).1 ∧ (digEnd p f v).1 ≤ 4611686018427387904) := by
    intro p v h1 h2 h3
    unfold digEnd
    split
    · exact .inl rfl
    · split
      · exact .inl rfl
      · split
        · exact .inl rfl
        · refine .inr ⟨p, rfl, by omega, h2, ?_⟩
          simp only
          rw [w64 v (by omega) (by omega)]
          omega
  induction m with
  | zero =>
    intro p v hm hf hp hv
    refine ⟨_, Ev.up (Ev.up ?_), hend p v hf hp hv⟩
    simp only [dig_stop (s := s) (p := p) (f := f) (v := v) (.inl (by omega)) hf hs]
    exact Ev.some _
  | succ m ih =>
    intro p v hm hf hp hv
    by_cases hd : 48 ≤ bt s (p : Int) ∧ bt s (p : Int) ≤ 57 ∧ (p : Int) - f < 20
    · have hw : 0 ≤ (if (p : Int) - f < 19 then IntKind.u64.wrap (IntKind.u64.wrap (10 * v) + (bt s (p : Int) - 48) % 256) else v) := by
        split
        · rw [IntKind.wrap_u64]; omega
        · exact hv
      obtain ⟨r, hr, hq⟩ := ih (p + 1) _ (by omega) (by omega) (by omega) hw
      refine ⟨r, Ev.up (Ev.up ?_), hq⟩
      simp only [dig_go (s := s) (p := p) (f := f) (v := v) (by omega) hd hf hs]
      exact hr
    · refine ⟨_, Ev.up (Ev.up ?_), hend p v hf hp hv⟩
      simp only [dig_stop (s := s) (p := p) (f := f) (v := v) (.inr ⟨by omega, hd⟩) hf hs]
      exact Ev.some _
theorem digits_any (s : ByteArray) (f : Nat) (hs : s.size ≤ 1000) (hf : f ≤ s.size) :
    ∃ r : Int × Int, Ev (fun k => intervalmonref03_digits.f k s f) r ∧ (r.2 = -1 ∨ ∃ q : Nat, r.2 = q ∧ f < q ∧ q ≤ s.size ∧ 0 ≤ r.1 ∧ r.1 ≤ 4611686018427387904) :=
  dig_any s f hs (s.size - f) f 0 rfl (Nat.le_refl _) hf (Int.le_refl _)
theorem textF_no {s : ByteArray} (h : NoText s) (hp : 0 < s.size) (n d : Int) : ¬ (textF n d).toList = s.toList := by
  intro e
  by_cases hv : ValidP n d
  · exact h n d hv e
  · unfold textF at e
    rw [if_neg hv, Lib.toList_data, Lib.toList_data] at e
    have := congrArg List.length e
    rw [Array.length_toList, Array.length_toList] at this
    have e2 : s.data.size = s.size := rfl
    simp at this
    omega
theorem j2_no {s : ByteArray} (h : NoText s) (hs : s.size ≤ 1000) (q : Nat) (hq : 0 < q) (hqs : q ≤ s.size) (n : Int) (hn : -9223372036854775808 ≤ n ∧ n ≤ 9223372036854775807) :
    Ev (fun k => intervalmonref03_Parse.j2 k s (q : Int) n 1) (0, 0, 2) := by
  have hfin : Ev (fun k => intervalmonref03_Parse.j3 k s (q : Int) false n 1) (0, 0, 2) := by
    refine Ev.up ?_
    simp only [intervalmonref03_Parse.j3, Bool.false_eq_true, if_false]
    by_cases hlt : (q : Int) < (s.size : Int)
    · simp only [if_pos hlt]; exact Ev.some _
    · simp only [if_neg hlt]
      refine Ev.bind (refText_ev n 1 hn (by omega)) ?_
      simp only [if_neg (textF_no h (by omega) n 1)]
      exact Ev.some _
  refine Ev.up ?_
  simp only [intervalmonref03_Parse.j2]
  by_cases hlt : (q : Int) < (s.size : Int)
  · simp only [if_pos hlt, if_pos (show (0 : Int) ≤ (q : Int) by omega)]
    cases hb : (bt s (q : Int) == 47) with
    | false => exact hfin
    | true =>
      refine Ev.up ?_
      simp only [intervalmonref03_Parse.j3, if_true]
      rw [w64 ((q : Int) + 1) (by omega) (by omega)]
      obtain ⟨r, hr, hq'⟩ := digits_any s (q + 1) hs (by omega)
      refine Ev.bind hr ?_
      rcases hq' with e | ⟨q2, e, h1, h2, h3, h4⟩
      · simp only [e, if_pos (show (-1 : Int) < 0 by omega)]; exact Ev.some _
      · simp only [e, if_neg (show ¬ (q2 : Int) < 0 by omega)]
        by_cases hl2 : (q2 : Int) < (s.size : Int)
        · simp only [if_pos hl2]; exact Ev.some _
        · simp only [if_neg hl2]
          refine Ev.bind (refText_ev n r.1 hn (by omega)) ?_
          simp only [if_neg (textF_no h (by omega) n r.1)]
          exact Ev.some _
  · simp only [if_neg hlt]
    exact hfin
theorem j1_no {s : ByteArray} (h : NoText s) (hs : s.size ≤ 1000) (f : Nat) (hf : f ≤ s.size) : Ev (fun k => intervalmonref03_Parse.j1 k s (f : Int) 0 1) (0, 0, 2) := by
  refine Ev.up ?_
  simp only [intervalmonref03_Parse.j1]
  obtain ⟨r, hr, hq'⟩ := digits_any s f hs hf
  refine Ev.bind hr ?_
  rcases hq' with e | ⟨q2, e, h1, h2, h3, h4⟩
  · simp only [e, if_pos (show (-1 : Int) < 0 by omega)]; exact Ev.some _
  · simp only [e, if_neg (show ¬ (q2 : Int) < 0 by omega)]
    rw [w64 (-r.1) (by omega) (by omega)]
    by_cases h1 : (f : Int) = 1
    · simp only [if_pos h1]; exact j2_no h hs q2 (by omega) h2 _ (by omega)
    · simp only [if_neg h1]; exact j2_no h hs q2 (by omega) h2 _ (by omega)
theorem refParse_no {s : ByteArray} (h : NoText s) (hs : s.size ≤ 1000) : Ev (fun k => intervalmonref03_Parse.f k s) (0, 0, 2) := by
  have h0 : Ev (fun k => intervalmonref03_Parse.j0 k s 0 false 0 1) (0, 0, 2) := by
    refine Ev.up ?_
    simp only [intervalmonref03_Parse.j0, Bool.false_eq_true, if_false]
    exact j1_no h hs 0 (by omega)
  unfold intervalmonref03_Parse.f
  by_cases hp : (s.size : Int) > 0
  · simp only [if_pos hp]
    cases hb : (bt s 0 == 45) with
    | false => exact h0
    | true =>
      refine Ev.up ?_
      simp only [intervalmonref03_Parse.j0, if_true]
      exact j1_no h hs 1 (by omega)
  · simp only [if_neg hp]
    exact h0
def tailL (d : Int) : List UInt8 := if d = 1 then [] else 47 :: Lib.decDigits d.toNat
theorem text_list {n d : Int} (h : ValidP n d) : (textF n d).data.toList = Lib.itoa n ++ tailL d := by
  unfold textF tailL
  rw [if_pos h]
  split
  · rw [itoaB_list, List.append_nil]
  · have := h.1
    rw [ba_app, ba_app, itoaB_list, itoaB_list]
    have e : Lib.itoa d = Lib.decDigits d.toNat := by unfold Lib.itoa; rw [if_neg (by omega)]
    rw [e]
    simp
theorem drop_len {s : ByteArray} {q : Nat} {l : List UInt8} (h : s.data.toList.drop q = l) : s.size - q = l.length := by
  have := congrArg List.length h
  rw [List.length_drop, Array.length_toList] at this
  exact this
theorem tail_head (d : Int) : ∀ c r, tailL d = c :: r → ¬ (48 ≤ c.toNat ∧ c.toNat ≤ 57) := by
  intro c r h
  unfold tailL at h
  split at h
  · cases h
  · injection h with h1 h2
    rw [← h1, show (47 : UInt8).toNat = 47 from rfl]
    omega
theorem j2_yes {s : ByteArray} {n d : Int} (hv : ValidP n d) (e : textF n d = s) (q : Nat) (hq : s.data.toList.drop q = tailL d) (hqs : q ≤ s.size) :
    Ev (fun k => intervalmonref03_Parse.j2 k s (q : Int) n 1) (n, d, 0) := by
  have hb := valid_b hv
  have hsz : s.size ≤ 43 := by rw [← e]; exact text_size hv
  have hl := drop_len hq
  refine Ev.up ?_
  simp only [intervalmonref03_Parse.j2]
  by_cases h1 : d = 1
  · subst h1
    rw [show tailL 1 = [] from rfl, List.length_nil] at hl
    simp only [if_neg (show ¬ (q : Int) < (s.size : Int) by omega)]
    refine Ev.up ?_
    simp only [intervalmonref03_Parse.j3, Bool.false_eq_true, if_false, if_neg (show ¬ (q : Int) < (s.size : Int) by omega)]
    refine Ev.bind (refText_ev n 1 hb.1 hb.2) ?_
    rw [e]
    simp only [if_true]
    exact Ev.some _
  · have ht : tailL d = 47 :: Lib.decDigits d.toNat := by unfold tailL; rw [if_neg h1]
    rw [ht, List.length_cons] at hl
    rw [ht] at hq
    obtain ⟨hbt, hlt⟩ := bt_at hq
    simp only [if_pos (show (q : Int) < (s.size : Int) by omega), if_pos (show (0 : Int) ≤ (q : Int) by omega), hbt]
    rw [show (((47 : UInt8).toNat : Int) == 47) = true from rfl]
    refine Ev.up ?_
    simp only [intervalmonref03_Parse.j3, if_true]
    rw [w64 ((q : Int) + 1) (by omega) (by omega)]
    have hd1 := hv.1
    have hd2 := hv.2.1
    have hdr : s.data.toList.drop (q + 1) = Lib.decDigits d.toNat ++ [] := by
      rw [← List.drop_drop, hq, List.append_nil]; rfl
    have hy := digits_yes s (q + 1) d.toNat [] (by omega) hdr (fun c r h => by cases h) (by omega) (by omega)
    refine Ev.bind hy ?_
    simp only [if_neg (show ¬ (((q + 1 + (Lib.decDigits d.toNat).length : Nat)) : Int) < 0 by omega), if_neg (show ¬ (((q + 1 + (Lib.decDigits d.toNat).length : Nat)) : Int) < (s.size : Int) by omega)]
    rw [show ((d.toNat : Nat) : Int) = d by omega]
    refine Ev.bind (refText_ev n d hb.1 hb.2) ?_
    rw [e]
    simp only [if_true]
    exact Ev.some _
theorem refParse_yes {n d : Int} (hv : ValidP n d) : Ev (fun k => intervalmonref03_Parse.f k (textF n d)) (n, d, 0) := by
  obtain ⟨s, e⟩ : ∃ s, textF n d = s := ⟨_, rfl⟩
  have hl := text_list hv
  have hsz : s.size ≤ 43 := by rw [← e]; exact text_size hv
  have hn3 := hv.2.2.1
  rw [e] at hl ⊢
  have hall := drop_len (s := s) (q := 0) (l := Lib.itoa n ++ tailL d) (by rw [List.drop_zero]; exact hl)
  rw [List.length_append] at hall
  unfold intervalmonref03_Parse.f
  have hj : ∀ f : Nat, f ≤ s.size → s.data.toList.drop f = Lib.decDigits n.natAbs ++ tailL d → (if (f : Int) = 1 then wrap64 (-(n.natAbs : Int)) else (n.natAbs : Int)) = n → Ev (fun k => intervalmonref03_Parse.j1 k s (f : Int) 0 1) (n, d, 0) := by
    intro f hf hdr hn
    have hll := drop_len hdr
    rw [List.length_append] at hll
    refine Ev.up ?_
    simp only [intervalmonref03_Parse.j1]
    refine Ev.bind (digits_yes s f n.natAbs (tailL d) (by omega) hdr (tail_head d) (by omega) hf) ?_
    simp only [if_neg (show ¬ (((f + (Lib.decDigits n.natAbs).length : Nat)) : Int) < 0 by omega)]
    have hq : s.data.toList.drop (f + (Lib.decDigits n.natAbs).length) = tailL d := by
      rw [← List.drop_drop, hdr, List.drop_left]
    have hj2 := j2_yes hv e (f + (Lib.decDigits n.natAbs).length) hq (by omega)
    by_cases h1 : (f : Int) = 1
    · rw [if_pos h1] at hn
      simp only [if_pos h1]
      rw [hn]
      exact hj2
    · rw [if_neg h1] at hn
      simp only [if_neg h1]
      rw [hn]
      exact hj2
  by_cases hneg : n < 0
  · have hi : Lib.itoa n = 45 :: Lib.decDigits n.natAbs := by unfold Lib.itoa; rw [if_pos hneg]
    rw [hi] at hl hall
    rw [List.length_cons] at hall
    obtain ⟨hbt, hlt⟩ := bt_at (s := s) (i := 0) (c := 45) (r := Lib.decDigits n.natAbs ++ tailL d) (by rw [List.drop_zero]; exact hl)
    have hbt : bt s 0 = ((45 : UInt8).toNat : Int) := hbt
    simp only [if_pos (show (s.size : Int) > 0 by omega), if_pos (show (0 : Int) < (s.size : Int) by omega), hbt]
    rw [show (((45 : UInt8).toNat : Int) == 45) = true from rfl]
    refine Ev.up ?_
    simp only [intervalmonref03_Parse.j0, if_true]
    refine hj 1 (by omega) (by rw [hl]; rfl) ?_
    rw [if_pos (by omega), w64 _ (by omega) (by omega)]
    omega
  · have hi : Lib.itoa n = Lib.decDigits n.natAbs := by unfold Lib.itoa; rw [if_neg hneg, show n.toNat = n.natAbs by omega]
    rw [hi] at hl hall
    obtain ⟨c, r, ec⟩ := List.exists_cons_of_ne_nil (dec_ne n.natAbs)
    have hcd := dec_dig n.natAbs c (by rw [ec]; exact List.mem_cons_self)
    obtain ⟨hbt, hlt⟩ := bt_at (s := s) (i := 0) (c := c) (r := r ++ tailL d) (by rw [List.drop_zero, hl, ec]; rfl)
    have hbt : bt s 0 = (c.toNat : Int) := hbt
    simp only [if_pos (show (s.size : Int) > 0 by omega), if_pos (show (0 : Int) < (s.size : Int) by omega), hbt]
    rw [show ((c.toNat : Int) == 45) = false by rw [beq_eq_false_iff_ne]; omega]
    refine Ev.up ?_
    simp only [intervalmonref03_Parse.j0, Bool.false_eq_true, if_false]
    refine hj 0 (by omega) (by rw [List.drop_zero]; exact hl) ?_
    rw [if_neg (by omega)]
    omega
end Go.Proofs.YtjpgommmkjgddaaDoor.Pure
