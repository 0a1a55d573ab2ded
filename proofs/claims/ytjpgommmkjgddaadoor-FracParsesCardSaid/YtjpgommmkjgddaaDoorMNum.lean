/- Numerals and the texts of fractions: what both sides write, and that reading a numeral gives the number again. -/
import Derived.Test.YtjpgommmkjgddaaDoorMFrac
import Derived.Test.YtjpgommmkjgddaaDoorHParse
import Derived.Test.YtjpgommmkjgddaaDoorPx17
namespace Go.Proofs.YtjpgommmkjgddaaDoor.Pure
open Go.RowKit Go.Proofs.YtjpgommmkjgddaaDoor.P Go.Proofs.YtjpgommmkjgddaaDoorW.PrintWords Go.Proofs.YtjpgommmkjgddaaDoorW.PrintLast Go.Proofs.YtjpgommmkjgddaaDoorW.PrintMore
set_option linter.unusedVariables false
set_option linter.unusedSimpArgs false

/-! ### numerals -/
theorem dec_big {u : Nat} (h : ¬ u < 10) : Lib.decDigits u = Lib.decDigits (u / 10) ++ [UInt8.ofNat (48 + u % 10)] := by rw [Lib.decDigits, dif_neg h]
theorem nDigits_le : ∀ (k u : Nat), u < 10 ^ (k + 1) → Lib.nDigits u ≤ k + 1
  | 0, u, h => by rw [Lib.nDigits_small (by simpa using h)]; omega
  | k + 1, u, h => by
    by_cases h10 : u < 10
    · rw [Lib.nDigits_small h10]; omega
    · rw [Lib.nDigits_big h10]
      have := nDigits_le k (u / 10) (by rw [Nat.pow_succ] at h; omega)
      omega
theorem dec_len (u : Nat) (h : u < 18446744073709551616) : (Lib.decDigits u).length ≤ 20 := by
  rw [Lib.decDigits_length]
  exact nDigits_le 19 u (by omega)
theorem dec_ne (u : Nat) : Lib.decDigits u ≠ [] := by
  intro h
  have := Lib.decDigits_length u
  rw [h] at this
  have := Lib.nDigits_pos u
  simp at *
  omega
theorem dec_dig (u : Nat) : ∀ c ∈ Lib.decDigits u, 48 ≤ c.toNat ∧ c.toNat ≤ 57 := by
  induction u using Nat.strongRecOn with
  | _ u ih =>
    intro c hc
    by_cases h : u < 10
    · rw [Lib.decDigits_one h] at hc
      rw [List.mem_singleton.1 hc, UInt8.toNat_ofNat']
      omega
    · rw [dec_big h, List.mem_append] at hc
      rcases hc with hc | hc
      · exact ih (u / 10) (by omega) c hc
      · rw [List.mem_singleton.1 hc, UInt8.toNat_ofNat']
        omega
theorem parse_dec (u : Nat) : ∀ rest, u < 18446744073709551616 → Lib.parseUint10 0 (Lib.decDigits u ++ rest) = Lib.parseUint10 u rest := by
  induction u using Nat.strongRecOn with
  | _ u ih =>
    intro rest hu
    by_cases h : u < 10
    · rw [Lib.decDigits_one h]
      simp only [List.cons_append, List.nil_append, Lib.parseUint10, UInt8.toNat_ofNat']
      rw [if_pos (by omega), if_neg (by omega), if_neg (by omega)]
      congr 1
      omega
    · rw [dec_big h, List.append_assoc, ih (u / 10) (by omega) _ (by omega)]
      simp only [List.cons_append, List.nil_append, Lib.parseUint10, UInt8.toNat_ofNat']
      rw [if_pos (by omega), if_neg (by omega), if_neg (by omega)]
      congr 1
      omega
theorem mag_dec (u : Nat) (hu : u < 18446744073709551616) : Lib.parseMag (Lib.decDigits u) = .ok u := by
  unfold Lib.parseMag
  rw [if_neg (dec_ne u)]
  have := parse_dec u [] hu
  rw [List.append_nil] at this
  rw [this]
  rfl
theorem atoi_itoa (n : Int) (h : -9223372036854775808 ≤ n ∧ n ≤ 9223372036854775807) : Lib.atoiAll (Lib.itoa n) = .ok n := by
  unfold Lib.itoa
  by_cases hn : n < 0
  · rw [if_pos hn]
    unfold Lib.atoiAll
    have e45 : (45 : UInt8).toNat = 45 := rfl
    simp only [e45, or_true, if_true, mag_dec n.natAbs (by omega), not_true_eq_false, false_and, if_false, true_and]
    rw [if_neg (by omega)]
    congr 1
    omega
  · rw [if_neg hn]
    obtain ⟨c, r, e⟩ := List.exists_cons_of_ne_nil (dec_ne n.toNat)
    have hc := dec_dig n.toNat c (by rw [e]; exact List.mem_cons_self)
    have hm := mag_dec n.toNat (by omega)
    rw [e] at hm ⊢
    unfold Lib.atoiAll
    have h1 : ¬ (c.toNat = 43 ∨ c.toNat = 45) := by omega
    have h2 : ¬ c.toNat = 45 := by omega
    simp only [if_neg h1, if_neg h2, hm]
    rw [if_neg (by omega), if_neg (by omega)]
    congr 1
    omega
theorem atoi_in {l : List UInt8} {n : Int} (h : Lib.atoiAll l = .ok n) : -9223372036854775808 ≤ n ∧ n ≤ 9223372036854775807 := by
  unfold Lib.atoiAll at h
  split at h
  · cases h
  · simp only at h
    split at h
    · cases h
    · cases h
    · rename_i u _
      split at h
      · cases h
      · split at h
        · cases h
        · injection h with h
          split at h <;> omega
/-! ### the reference's numeral -/
def dz (u : Nat) : List UInt8 := if u = 0 then [] else Lib.decDigits u
theorem dz_step {u : Nat} (h : u ≠ 0) : dz u = dz (u / 10) ++ [UInt8.ofNat (48 + u % 10)] := by
  unfold dz
  rw [if_neg h]
  by_cases h10 : u < 10
  · rw [Lib.decDigits_one h10, if_pos (by omega), Nat.mod_eq_of_lt h10]; rfl
  · rw [dec_big h10, if_neg (by omega)]
def digB : ByteArray := ⟨#[48, 49, 50, 51, 52, 53, 54, 55, 56, 57]⟩
theorem dig_piece : ∀ d : Fin 10, digB.extract d.val (d.val + 1) = ⟨#[UInt8.ofNat (48 + d.val)]⟩ := by decide +kernel
def itoaB (n : Int) : ByteArray := ⟨(Lib.itoa n).toArray⟩
theorem itoa_len (n : Int) (h : -9223372036854775808 ≤ n ∧ n ≤ 9223372036854775807) : (Lib.itoa n).length ≤ 21 := by
  unfold Lib.itoa
  split
  · have := dec_len n.natAbs (by omega); simp; omega
  · have := dec_len n.toNat (by omega); omega
theorem itoaB_size (n : Int) (h : -9223372036854775808 ≤ n ∧ n ≤ 9223372036854775807) : (itoaB n).size ≤ 21 := by
  show (Lib.itoa n).toArray.size ≤ 21
  rw [List.size_toArray]; exact itoa_len n h
theorem ba_ext {a b : ByteArray} (h : a.data.toList = b.data.toList) : a = b := by
  cases a; cases b; simp at h; rw [h]
theorem ba_app (a b : ByteArray) : (a ++ b).data.toList = a.data.toList ++ b.data.toList := by simp
theorem tmod_neg (u : Nat) : Int.tmod (-(u : Int)) 10 = -((u % 10 : Nat) : Int) := by
  rw [Int.neg_tmod]; congr 1
theorem tdiv_neg (u : Nat) : Int.tdiv (-(u : Int)) 10 = -((u / 10 : Nat) : Int) := by
  rw [Int.neg_tdiv]; congr 1
theorem dec_loop : ∀ (b : Nat) (n x : Int) (acc : ByteArray), x.natAbs < 10 ^ b → acc.size + b ≤ 30 → (-9223372036854775808 ≤ x ∧ x ≤ 9223372036854775807) →
    Ev (fun k => intervalmonref01_Decimal.l0 k n digB acc x) (if n < 0 then (⟨#[45]⟩ : ByteArray) ++ ((⟨(dz x.natAbs).toArray⟩ : ByteArray) ++ acc) else (⟨(dz x.natAbs).toArray⟩ : ByteArray) ++ acc) := by
  intro b
  have hd10 : digB.size = 10 := rfl
  have hbase : ∀ (n : Int) (acc : ByteArray), acc.size ≤ 30 → Ev (fun k => intervalmonref01_Decimal.l0 k n digB acc 0) (if n < 0 then (⟨#[45]⟩ : ByteArray) ++ ((⟨(dz 0).toArray⟩ : ByteArray) ++ acc) else (⟨(dz 0).toArray⟩ : ByteArray) ++ acc) := by
    intro n acc ha
    have e0 : (⟨(dz 0).toArray⟩ : ByteArray) ++ acc = acc := by apply ba_ext; rw [ba_app]; rfl
    rw [e0]
    refine Ev.step (fun k => ?_) (Ev.some _)
    simp only [intervalmonref01_Decimal.l0, if_true]
    rw [if_pos (show 1 + acc.size ≤ 9223372036854775807 by omega)]
    split <;> rfl
  induction b with
  | zero =>
    intro n x acc hx ha hr
    have : x = 0 := by simp at hx; omega
    subst this
    exact hbase n acc (by omega)
  | succ b ih =>
    intro n x acc hx ha hr
    by_cases h0 : x = 0
    · subst h0
      exact hbase n acc (by omega)
    have hu0 : x.natAbs ≠ 0 := by omega
    obtain ⟨u, hu⟩ : ∃ u, u = x.natAbs := ⟨_, rfl⟩
    rw [← hu] at hx hu0 ⊢
    have hm : u % 10 < 10 := Nat.mod_lt _ (by decide)
    have hp := dig_piece ⟨u % 10, hm⟩
    simp only at hp
    have hub : u / 10 < 10 ^ b := by rw [Nat.pow_succ] at hx; omega
    have hacc : ((⟨#[UInt8.ofNat (48 + u % 10)]⟩ : ByteArray) ++ acc).size = 1 + acc.size := by rw [ByteArray.size_append]; rfl
    have hfin : (⟨(dz u).toArray⟩ : ByteArray) ++ acc = (⟨(dz (u / 10)).toArray⟩ : ByteArray) ++ ((⟨#[UInt8.ofNat (48 + u % 10)]⟩ : ByteArray) ++ acc) := by
      apply ba_ext
      rw [ba_app, ba_app, ba_app, dz_step hu0]
      simp
    by_cases hneg : x < 0
    · have hxe : x = -(u : Int) := by omega
      have em : Int.tmod x 10 = -((u % 10 : Nat) : Int) := by rw [hxe]; exact tmod_neg u
      have ed : Int.tdiv x 10 = -((u / 10 : Nat) : Int) := by rw [hxe]; exact tdiv_neg u
      have hi := ih n (-((u / 10 : Nat) : Int)) ((⟨#[UInt8.ofNat (48 + u % 10)]⟩ : ByteArray) ++ acc) (by omega) (by omega) (by omega)
      rw [show (-((u / 10 : Nat) : Int)).natAbs = u / 10 by omega, ← hfin] at hi
      refine Ev.step (fun k => ?_) hi
      simp only [intervalmonref01_Decimal.l0]
      rw [if_neg h0, em, ed]
      by_cases hz : u % 10 = 0
      · rw [hz] at hi hp ⊢
        simp only [Int.natCast_zero, Int.neg_zero, Int.lt_irrefl, if_false]
        rw [w64 (0 + 1) (by omega) (by omega), w64 (-((u / 10 : Nat) : Int)) (by omega) (by omega), if_pos (by omega), if_pos (by omega), if_pos (by rw [hd10]; omega)]
        have e : digB.extract (0 : Int).toNat ((0 : Int) + 1).toNat = (⟨#[UInt8.ofNat (48 + 0)]⟩ : ByteArray) := hp
        rw [e, if_pos (by show (1 : Nat) + acc.size ≤ _; omega)]
      · rw [if_pos (by omega)]
        rw [show -(-((u % 10 : Nat) : Int)) = ((u % 10 : Nat) : Int) by omega, w64 ((u % 10 : Nat) : Int) (by omega) (by omega), w64 (((u % 10 : Nat) : Int) + 1) (by omega) (by omega), w64 (-((u / 10 : Nat) : Int)) (by omega) (by omega), if_pos (by omega), if_pos (by omega), if_pos (by rw [hd10]; omega)]
        have e : digB.extract ((u % 10 : Nat) : Int).toNat (((u % 10 : Nat) : Int) + 1).toNat = (⟨#[UInt8.ofNat (48 + u % 10)]⟩ : ByteArray) := hp
        rw [e, if_pos (by show (1 : Nat) + acc.size ≤ _; omega)]
    · have hxe : x = (u : Int) := by omega
      have em : Int.tmod x 10 = ((u % 10 : Nat) : Int) := by rw [hxe]; exact tmodN u 10
      have ed : Int.tdiv x 10 = ((u / 10 : Nat) : Int) := by rw [hxe]; exact tdivN u 10
      have hi := ih n ((u / 10 : Nat) : Int) ((⟨#[UInt8.ofNat (48 + u % 10)]⟩ : ByteArray) ++ acc) (by omega) (by omega) (by omega)
      rw [show (((u / 10 : Nat) : Int)).natAbs = u / 10 by omega, ← hfin] at hi
      refine Ev.step (fun k => ?_) hi
      simp only [intervalmonref01_Decimal.l0]
      rw [if_neg h0, em, ed, if_neg (by omega), w64 (((u % 10 : Nat) : Int) + 1) (by omega) (by omega), w64 ((u / 10 : Nat) : Int) (by omega) (by omega), if_pos (by omega), if_pos (by omega), if_pos (by rw [hd10]; omega)]
      have e : digB.extract ((u % 10 : Nat) : Int).toNat (((u % 10 : Nat) : Int) + 1).toNat = (⟨#[UInt8.ofNat (48 + u % 10)]⟩ : ByteArray) := hp
      rw [e, if_pos (by show (1 : Nat) + acc.size ≤ _; omega)]
theorem decimal_ev (n : Int) (h : -9223372036854775808 ≤ n ∧ n ≤ 9223372036854775807) : Ev (fun k => intervalmonref01_Decimal.f k n) (itoaB n) := by
  unfold intervalmonref01_Decimal.f
  by_cases h0 : n = 0
  · subst h0
    simp only [if_true]
    have e : itoaB 0 = ⟨#[48]⟩ := by
      unfold itoaB Lib.itoa
      rw [if_neg (by omega), show (0 : Int).toNat = 0 from rfl, Lib.decDigits_one (by omega)]
      rfl
    rw [e]
    exact Ev.some _
  · simp only [h0, if_false]
    have hl := dec_loop 20 n n ⟨#[]⟩ (by omega) (by show 0 + 20 ≤ 30; omega) h
    have e : (if n < 0 then (⟨#[45]⟩ : ByteArray) ++ ((⟨(dz n.natAbs).toArray⟩ : ByteArray) ++ ⟨#[]⟩) else (⟨(dz n.natAbs).toArray⟩ : ByteArray) ++ ⟨#[]⟩) = itoaB n := by
      unfold itoaB Lib.itoa dz
      rw [if_neg (show ¬ n.natAbs = 0 by omega)]
      by_cases hn : n < 0
      · rw [if_pos hn, if_pos hn]
        apply ba_ext
        rw [ba_app, ba_app]
        simp
      · rw [if_neg hn, if_neg hn, show n.natAbs = n.toNat by omega]
        apply ba_ext
        rw [ba_app]
        simp
    rw [e] at hl
    exact hl
/-! ### texts -/
instance (n d : Int) : Decidable (ValidP n d) := by unfold ValidP; infer_instance
def textF (n d : Int) : ByteArray := if ValidP n d then (if d = 1 then itoaB n else (itoaB n ++ (⟨#[47]⟩ : ByteArray)) ++ itoaB d) else ⟨#[]⟩
theorem itoaf_eq (n : Int) (h : -9223372036854775808 ≤ n ∧ n ≤ 9223372036854775807) : strconv_Itoa.f n = some (itoaB n) := by
  unfold strconv_Itoa.f
  rw [if_pos h]; rfl
theorem text_ev (n d : Int) (hn : -9223372036854775808 ≤ n ∧ n ≤ 9223372036854775807) (hd : -9223372036854775808 ≤ d ∧ d ≤ 9223372036854775807) : Ev (fun k => frac_Text.f k n d) (textF n d) := by
  unfold frac_Text.f
  refine Ev.bind (valid_ev n d hn hd) ?_
  unfold textF
  have s1 := itoaB_size n hn
  have s2 := itoaB_size d hd
  by_cases hv : ValidP n d
  · rw [if_pos hv]
    simp only [hv, decide_true, if_true, itoaf_eq n hn, itoaf_eq d hd, Option.bind_some]
    by_cases h1 : d = 1
    · simp only [h1, if_true]; exact Ev.some _
    · simp only [h1, if_false]
      have e : (itoaB n ++ (⟨#[47]⟩ : ByteArray)).size = (itoaB n).size + 1 := by rw [ByteArray.size_append]; rfl
      rw [e, if_pos (by omega), if_pos (by omega)]
      exact Ev.some _
  · rw [if_neg hv]
    simp only [hv, decide_false, Bool.false_eq_true, if_false]
    exact Ev.some _
theorem refValid_ev (n d : Int) (hn : -9223372036854775808 ≤ n ∧ n ≤ 9223372036854775807) (hd : -9223372036854775808 ≤ d ∧ d ≤ 9223372036854775807) : Ev (fun k => intervalmonref03_Valid.f k n d) (decide (ValidP n d)) := by
  unfold intervalmonref03_Valid.f
  by_cases h1 : d < 1
  · simp only [h1, if_true]
    rw [decide_eq_false (fun h => by have := h.1; omega)]
    exact Ev.some _
  · simp only [h1, if_false]
    refine Ev.bind (refNew_ev n d hn hd) ?_
    rw [valid_iff]
    by_cases h0 : (newF n d).2.2 = 0
    · simp only [h0, if_true, decide_true, Bool.true_and]
      rw [show ((newF n d).1 == n && (newF n d).2.1 == d) = (n == (newF n d).1 && d == (newF n d).2.1) by rw [Bool.beq_comm (a := n), Bool.beq_comm (a := d)]]
      exact Ev.some _
    · simp only [h0, if_false, decide_false, Bool.false_and]
      exact Ev.some _
theorem refText_ev (n d : Int) (hn : -9223372036854775808 ≤ n ∧ n ≤ 9223372036854775807) (hd : -9223372036854775808 ≤ d ∧ d ≤ 9223372036854775807) : Ev (fun k => intervalmonref03_Text.f k n d) (textF n d) := by
  unfold intervalmonref03_Text.f
  refine Ev.bind (refValid_ev n d hn hd) ?_
  unfold textF
  have s1 := itoaB_size n hn
  have s2 := itoaB_size d hd
  by_cases hv : ValidP n d
  · rw [if_pos hv]
    simp only [hv, decide_true, if_true]
    by_cases h1 : d = 1
    · simp only [h1, if_true]; exact Ev.bind (decimal_ev n hn) (Ev.some _)
    · simp only [h1, if_false]
      refine Ev.bind (decimal_ev n hn) ?_
      have e : (itoaB n ++ (⟨#[47]⟩ : ByteArray)).size = (itoaB n).size + 1 := by rw [ByteArray.size_append]; rfl
      simp only [if_pos (show (itoaB n).size + 1 ≤ 9223372036854775807 by omega)]
      refine Ev.bind (decimal_ev d hd) ?_
      rw [e, if_pos (by omega)]
      exact Ev.some _
  · rw [if_neg hv]
    simp only [hv, decide_false, Bool.false_eq_true, if_false]
    exact Ev.some _
end Go.Proofs.YtjpgommmkjgddaaDoor.Pure
