/- labels.New, its library calls by contracts of their own. -/
import Derived.Test.YtlohkfmobeapdaaHValue
namespace Go.Proofs.Ytlohkfmobeapdaa.P
open Go.RowKit Go.Proofs.YtlohkfmobeapdaaW.PrintWords Go.Proofs.YtlohkfmobeapdaaW.PrintLast Go.Proofs.YtlohkfmobeapdaaW.PrintMore
set_option linter.unusedVariables false
set_option linter.unusedSimpArgs false

/-! ### whether a name stands among the labels ahead -/
theorem newName_calls (a b nm vl : ByteArray) (B : Nat) (w : World) (hB : w.heap[B]? = some (.cells #[.string nm, .string vl] 33 (0, 0))) :
    Calls Try.prog 45 #[.agg #[.string a, .string b], .pointer (some ⟨B, 0, none⟩)] w fun e w' => e = .returned (.bool (a.toList == nm.toList)) ∧ Below w.heap.size w w' := by
  have c0 : w.cell? ⟨B, 0, none⟩ = some (.string nm) := (blk_cell hB 0).trans rfl
  have hBW := blk_lt hB
  have hne : B ≠ w.heap.size := by omega
  clear hB
  go_enter Try.func45, Try.ntmps45
  go_wp2
  go_ret
  exact ⟨rfl, below_alloc (Below.refl _ _) _⟩

def nameIn (l : List S33) (nm : ByteArray) : Bool := l.any fun x => x.f0.toList == nm.toList

set_option maxHeartbeats 4000000 in
set_option maxRecDepth 100000 in
theorem indexFunc_calls (A0 : Option Addr) (c0 : Nat) (l0 : List S33) (nm vl : ByteArray) (B : Nat) (w : World) (hB : w.heap[B]? = some (.cells #[.string nm, .string vl] 33 (0, 0))) (hr0 : Kd.C k33 w A0 l0.length l0) (hlen : l0.length ≤ 1000) :
    Calls Try.prog 60 #[.slice A0 l0.length c0, .func (.func 45) #[] #[.pointer (some ⟨B, 0, none⟩)]] w fun e w' => ∃ r : Int, e = .returned (.int .i64 r) ∧ decide (r ≥ 0) = nameIn l0 nm ∧ Below w.heap.size w w' := by
  have HR := Aside0.mk hr0
  have HB0 := Aside0.mk hB
  have HBW := Aside0.mk (blk_lt hB)
  have HL := Aside0.mk hlen
  clear hr0 hB hlen
  have ef : ∀ args w, (callFunc 45 args).run Try.prog w = .ok (.enter 45 args) w := enters_of Try.func45 (by kernel_rfl) rfl
  go_enter Try.func60, Try.ntmps60
  go_wp2
  go_loopw [8] (fun v w' => ∃ i : Nat, v = .int .i64 i ∧ i ≤ l0.length ∧ Aside0 (nameIn (l0.drop i) nm = nameIn l0 nm) ∧ Aside0 (Below w.heap.size w w')) (fun v _ => l0.length - (intOf v).toNat)
  case atStart => exact ⟨0, rfl, Nat.zero_le _, ⟨rfl⟩, ⟨Below.refl _ _⟩⟩
  case round =>
    obtain ⟨i, rfl, hi, HN, HW⟩ := hrel
    by_cases hlt : i < l0.length
    · obtain ⟨ad, ead, hx0, hx1⟩ := at_T33 HR.out (i : Int) (by omega) (by omega)
      subst ead
      have hd : nameIn (l0.drop i) nm = ((l0[i].f0.toList == nm.toList) || nameIn (l0.drop (i + 1)) nm) := by rw [List.drop_eq_getElem_cons hlt]; rfl
      have hrd : rd_T33 l0 (i : Int) = l0[i] := by simp [rd_T33, List.getD_eq_getElem?_getD, hlt]
      rw [hrd] at hx0 hx1
      generalize l0[i] = el at *
      replace hx0 := (HW.out.cell (World.block_lt_of_cell? w _ hx0)).trans hx0
      replace hx1 := (HW.out.cell (World.block_lt_of_cell? w _ hx1)).trans hx1
      obtain ⟨x, y⟩ := el
      simp only [Int.toNat_natCast] at hx0 hx1
      have hi0 : (0 ≤ (i : Int)) = True := eq_true (by omega)
      have hi1 : ((i : Int) < (l0.length : Int)) = True := eq_true (by omega)
      have HWR : Aside0 (wrap64 ((i : Int) + 1) = ((i + 1 : Nat) : Int)) := ⟨by have := HL.out; unfold wrap64; omega⟩
      have HBN := Aside0.mk ((HW.out.block B HBW.out).trans HB0.out)
      have HD := Aside0.mk hd
      clear hd hrd
      cases hq : (x.toList == nm.toList)
      · have HD2 := Aside0.mk (show nameIn (l0.drop (i + 1)) nm = nameIn l0 nm by rw [← HN.out, HD.out]; simp only [hq]; rfl)
        go_wp2_with (go_at_call 45; refine (newName_calls x y nm vl B _ HBN.out).mono ?_; rintro e w2 ⟨rfl, hb2⟩; rw [hq])
        all_goals
          have HW2 := Aside0.mk (below_then HW.out HW.out.size hb2)
          clear hb2
          go_roundw
          case rel => exact ⟨i + 1, by first | (rw [HWR.out]; done) | rfl, by omega, HD2, HW2⟩
          case measure => (try rw [HWR.out]); simp [intOf]; omega
      · have HD2 := Aside0.mk (show true = nameIn l0 nm by rw [← HN.out, HD.out]; simp only [hq]; rfl)
        go_wp2_with (go_at_call 45; refine (newName_calls x y nm vl B _ HBN.out).mono ?_; rintro e w2 ⟨rfl, hb2⟩; rw [hq])
        all_goals
          go_ret
          exact ⟨_, rfl, by rw [← HD2.out]; exact decide_eq_true (by omega), below_then HW.out HW.out.size hb2⟩
    · obtain rfl : i = l0.length := by omega
      have HD2 := Aside0.mk (show false = nameIn l0 nm by rw [← HN.out, List.drop_of_length_le (Nat.le_refl _)]; rfl)
      clear hi hlt
      go_wp2
      go_ret
      exact ⟨_, rfl, by rw [← HD2.out]; rfl, HW.out⟩
end Go.Proofs.Ytlohkfmobeapdaa.P
