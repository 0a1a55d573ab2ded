/- labels.Compare, walked once: it answers as the elements' names and values tell, the first that differ. -/
import Derived.Test.YtcamljlhdejmmaaHStr
import Derived.StillTailTactics
import Derived.Shelf.Abstract
import Derived.Lib.SliceRun
namespace Go.Proofs.Ytcamljlhdejmmaa.P
open Go.RowKit Go.Proofs.YtcamljlhdejmmaaW.PrintWords Go.Proofs.YtcamljlhdejmmaaW.PrintLast Go.Proofs.YtcamljlhdejmmaaW.PrintMore
set_option linter.unusedVariables false
set_option linter.unusedSimpArgs false

/-- The first of two numbers that is not 0. -/
def orI (a b : Int) : Int := if a = 0 then b else a
/-- Two labels: by their names, then by their values. -/
def cmpL (x y : S91) : Int := orI (cmpS x.f0 y.f0) (cmpS x.f1 y.f1)
/-- Two lists of labels. -/
def cmpLs : List S91 → List S91 → Int
  | [], [] => 0
  | [], _ :: _ => -1
  | _ :: _, [] => 1
  | x :: xs, y :: ys => if cmpL x y = 0 then cmpLs xs ys else cmpL x y
def labels_Compare.f (a b : List S91) : Option Int := some (cmpLs a b)

theorem cmpS_range (a b : ByteArray) : -1 ≤ cmpS a b ∧ cmpS a b ≤ 1 := by
  unfold cmpS; split
  · omega
  · split <;> omega

def OrRel (a b : Int) (v : Value) : Prop := v = .int .i64 0 ∨ v = .int .i64 1 ∧ a = 0 ∨ v = .int .i64 2 ∧ a = 0 ∧ b = 0
set_option maxHeartbeats 1000000 in
theorem or_calls (a b : Int) (B : Nat) (w : World) (hB : w.heap[B]? = some (.cells #[.int .i64 a, .int .i64 b] 3 (0, 0))) :
    Calls Try.prog 58 #[.slice (some ⟨B, 0, none⟩) 2 2] w fun e w' => e = .returned (.int .i64 (orI a b)) ∧ w' = w := by
  have c0 : w.cell? ⟨B, 0, none⟩ = some (.int .i64 a) := (blk_cell hB 0).trans rfl
  have c1 : w.cell? ⟨B, 1, none⟩ = some (.int .i64 b) := (blk_cell hB 1).trans rfl
  clear hB
  go_enter Try.func58, Try.ntmps58
  go_wp2
  go_loop [8] (fun v => OrRel a b v) (fun v => 2 - (intOf v).toNat)
  case atStart => exact .inl rfl
  case round =>
    rcases hrel with rfl | ⟨rfl, ha⟩ | ⟨rfl, ha, hb⟩
    · cases hA : (a != 0)
      · have HA := Aside0.mk (show a = 0 by simpa using hA)
        go_wp2
        go_round
        case rel => exact .inr (.inl ⟨rfl, HA.out⟩)
        case measure => simp [intOf]
      · have HA := Aside0.mk (show a ≠ 0 by simpa using hA)
        go_wp2
        go_ret
        exact ⟨by unfold orI; rw [if_neg HA.out]; rfl, rfl⟩
    · have HA := Aside0.mk ha
      clear ha
      cases hA : (b != 0)
      · have HB := Aside0.mk (show b = 0 by simpa using hA)
        go_wp2
        go_round
        case rel => exact .inr (.inr ⟨rfl, HA.out, HB.out⟩)
        case measure => simp [intOf]
      · go_wp2
        go_ret
        exact ⟨by unfold orI; rw [if_pos HA.out]; rfl, rfl⟩
    · have HA := Aside0.mk ha
      have HB := Aside0.mk hb
      clear ha hb
      go_wp2
      go_ret
      exact ⟨by unfold orI; rw [if_pos HA.out, HB.out]; rfl, rfl⟩

set_option maxHeartbeats 1000000 in
set_option maxRecDepth 100000 in
theorem cmp2_calls (x y : S91) (W : World) : Calls Try.prog 57 #[.agg #[.string x.f0, .string x.f1], .agg #[.string y.f0, .string y.f1]] W fun e w' => e = .returned (.int .i64 (cmpL x y)) ∧ Below W.heap.size W w' := by
  have mixed : Try.prog.follows .mixedOrders = true := by kernel_rfl
  have e1 : ∀ args w, (callFunc 59 args).run Try.prog w = .ok (.enter 59 args) w := enters_of Try.func59 (by kernel_rfl) rfl
  go_enter Try.func57, Try.ntmps57
  go_wp2
  have hx0 : ((W.alloc (.cells #[.string x.f0, .string x.f1] 91)).alloc (.cells #[.string y.f0, .string y.f1] 91)).drew.cell? ⟨W.heap.size, 0, none⟩ = some (.string x.f0) := (blk_cell (blk_drew (blk_alloc (blk_new W _) _)) 0).trans rfl
  have hx1 : ((W.alloc (.cells #[.string x.f0, .string x.f1] 91)).alloc (.cells #[.string y.f0, .string y.f1] 91)).drew.cell? ⟨W.heap.size, 1, none⟩ = some (.string x.f1) := (blk_cell (blk_drew (blk_alloc (blk_new W _) _)) 1).trans rfl
  have hy0 : ((W.alloc (.cells #[.string x.f0, .string x.f1] 91)).alloc (.cells #[.string y.f0, .string y.f1] 91)).drew.cell? ⟨(W.alloc (.cells #[.string x.f0, .string x.f1] 91)).heap.size, 0, none⟩ = some (.string y.f0) := (blk_cell (blk_drew (blk_new _ _)) 0).trans rfl
  have hy1 : ((W.alloc (.cells #[.string x.f0, .string x.f1] 91)).alloc (.cells #[.string y.f0, .string y.f1] 91)).drew.cell? ⟨(W.alloc (.cells #[.string x.f0, .string x.f1] 91)).heap.size, 1, none⟩ = some (.string y.f1) := (blk_cell (blk_drew (blk_new _ _)) 1).trans rfl
  have hW : Below W.heap.size W ((W.alloc (.cells #[.string x.f0, .string x.f1] 91)).alloc (.cells #[.string y.f0, .string y.f1] 91)).drew := below_drew (below_alloc (below_alloc (Below.refl _ _) _) _)
  rw [show (W.alloc (.cells #[.string x.f0, .string x.f1] 91)).heap.size = W.heap.size + 1 by simp] at hy0 hy1
  refine wp_region_still_tail 10 mixed (by kernel_rfl) ?_
  change wpStill _ _ (World.drew _) (fun a' => wpList _ _ _ _ a' (World.drew _)) _ _
  generalize ((W.alloc (.cells #[.string x.f0, .string x.f1] 91)).alloc (.cells #[.string y.f0, .string y.f1] 91)).drew = w2 at *
  have HW := Aside0.mk hW
  clear hW
  simp only [List.take_succ_cons, List.take_zero, List.drop_succ_cons, List.drop_zero]
  still_step
  still_step
  still_step
  still_step
  still_call (cmpStr_calls _ _ _)
  still_step
  still_step
  still_step
  still_step
  still_call (cmpStr_calls _ _ _)
  refine wpStill_nil ?_
  clear hx0 hx1 hy0 hy1
  go_wp2_with (go_at_call 58; refine (or_calls _ _ _ _ (blk_new _ _)).mono ?_; rintro e w' ⟨rfl, rfl⟩)
  go_ret
  exact ⟨rfl, below_alloc HW.out _⟩

/-! ### the lists -/
set_option maxHeartbeats 4000000 in
set_option maxRecDepth 100000 in
theorem compareFunc_calls (A0 : Option Addr) (c0 : Nat) (l0 : List S91) (A1 : Option Addr) (c1 : Nat) (l1 : List S91) (w : World) (hr0 : Kd.C k91 w A0 l0.length l0) (hr1 : Kd.C k91 w A1 l1.length l1) :
    Calls Try.prog 56 #[.slice A0 l0.length c0, .slice A1 l1.length c1, .func (.func 57) #[] #[]] w fun e w' => e = .returned (.int .i64 (cmpLs l0 l1)) ∧ Below w.heap.size w w' := by
  have HR := Aside0.mk hr0
  have HS := Aside0.mk hr1
  have HL := Aside0.mk hr0.2.1
  have HM := Aside0.mk hr1.2.1
  clear hr0 hr1
  have ef : ∀ args w, (callFunc 57 args).run Try.prog w = .ok (.enter 57 args) w := enters_of Try.func57 (by kernel_rfl) rfl
  go_enter Try.func56, Try.ntmps56
  go_wp2
  go_loopw [13] (fun v w' => ∃ i : Nat, v = .int .i64 i ∧ i ≤ l0.length ∧ Aside0 (i ≤ l1.length ∧ cmpLs (l0.drop i) (l1.drop i) = cmpLs l0 l1) ∧ Aside0 (Below w.heap.size w w')) (fun v _ => l0.length - (intOf v).toNat)
  case atStart => exact ⟨0, rfl, Nat.zero_le _, ⟨Nat.zero_le _, rfl⟩, ⟨Below.refl _ _⟩⟩
  case round =>
    obtain ⟨i, rfl, hi, HN, HW⟩ := hrel
    by_cases hlt : i < l0.length
    · obtain ⟨ad, ead, hx0, hx1⟩ := at_T91 HR.out (i : Int) (by omega) (by omega)
      subst ead
      have hrd : rd_T91 l0 (i : Int) = l0[i] := by simp [rd_T91, List.getD_eq_getElem?_getD, hlt]
      rw [hrd] at hx0 hx1
      clear hrd
      have hd0 : l0.drop i = l0[i] :: l0.drop (i + 1) := List.drop_eq_getElem_cons hlt
      generalize l0[i] = el at *
      replace hx0 := (HW.out.cell (World.block_lt_of_cell? w _ hx0)).trans hx0
      replace hx1 := (HW.out.cell (World.block_lt_of_cell? w _ hx1)).trans hx1
      obtain ⟨x, y⟩ := el
      simp only [Int.toNat_natCast] at hx0 hx1
      have hi0 : (0 ≤ (i : Int)) = True := eq_true (by omega)
      have hi1 : ((i : Int) < (l0.length : Int)) = True := eq_true (by omega)
      have HWR : Aside0 (wrap64 ((i : Int) + 1) = ((i + 1 : Nat) : Int)) := ⟨by have := HL.out; unfold wrap64; omega⟩
      have HD0 := Aside0.mk hd0
      have HI := Aside0.mk hi
      clear hd0
      by_cases hl1 : i < l1.length
      · obtain ⟨ad1, ead1, hy0, hy1⟩ := at_T91 HS.out (i : Int) (by omega) (by omega)
        subst ead1
        have hrd : rd_T91 l1 (i : Int) = l1[i] := by simp [rd_T91, List.getD_eq_getElem?_getD, hl1]
        rw [hrd] at hy0 hy1
        clear hrd
        have hd1 : l1.drop i = l1[i] :: l1.drop (i + 1) := List.drop_eq_getElem_cons hl1
        generalize l1[i] = el1 at *
        replace hy0 := (HW.out.cell (World.block_lt_of_cell? w _ hy0)).trans hy0
        replace hy1 := (HW.out.cell (World.block_lt_of_cell? w _ hy1)).trans hy1
        obtain ⟨x1, y1⟩ := el1
        simp only [Int.toNat_natCast] at hy0 hy1
        replace hy0 := fun o => Lib.cell?_alloc_some o hy0
        replace hy1 := fun o => Lib.cell?_alloc_some o hy1
        have hj1 : ((i : Int) < (l1.length : Int)) = True := eq_true (by omega)
        have hj2 : ((l1.length : Int) ≤ (i : Int)) = False := eq_false (by omega)
        have HC := Aside0.mk (show (if cmpL ⟨x, y⟩ ⟨x1, y1⟩ = 0 then cmpLs (l0.drop (i + 1)) (l1.drop (i + 1)) else cmpL ⟨x, y⟩ ⟨x1, y1⟩) = cmpLs l0 l1 by rw [← HN.out.2, HD0.out, hd1]; rfl)
        have HL1 := Aside0.mk hl1
        clear hd1 hl1
        have hcc := fun W => cmp2_calls ⟨x, y⟩ ⟨x1, y1⟩ W
        generalize cmpL ⟨x, y⟩ ⟨x1, y1⟩ = c at hcc HC
        cases hq : (c != 0)
        · have HQ := Aside0.mk (show c = 0 by simpa using hq)
          have HC2 := Aside0.mk (show cmpLs (l0.drop (i + 1)) (l1.drop (i + 1)) = cmpLs l0 l1 by have := HC.out; rwa [if_pos HQ.out] at this)
          clear HC
          go_wp2_with (go_at_call 57; refine (hcc _).mono ?_; rintro e w2 ⟨rfl, hb2⟩)
          all_goals
            have HW2 := Aside0.mk (below_then HW.out HW.out.size ((below_alloc (below_alloc (Below.refl _ _) _) _).trans (hb2.mono (by simp; omega))))
            clear hb2
            go_roundw
            case rel => exact ⟨i + 1, by first | (rw [HWR.out]; done) | rfl, by omega, ⟨HL1.out, HC2.out⟩, HW2⟩
            case measure => (try rw [HWR.out]); simp [intOf]; omega
        · have HQ := Aside0.mk (show c ≠ 0 by simpa using hq)
          have HC2 := Aside0.mk (show c = cmpLs l0 l1 by have := HC.out; rwa [if_neg HQ.out] at this)
          clear HC
          go_wp2_with (go_at_call 57; refine (hcc _).mono ?_; rintro e w2 ⟨rfl, hb2⟩)
          go_ret
          exact ⟨by rw [← HC2.out]; rfl, below_then HW.out HW.out.size ((below_alloc (below_alloc (Below.refl _ _) _) _).trans (hb2.mono (by simp; omega)))⟩
      · have hj2 : ((l1.length : Int) ≤ (i : Int)) = True := eq_true (by omega)
        have HC2 := Aside0.mk (show 1 = cmpLs l0 l1 by
          rw [← HN.out.2, HD0.out, List.drop_of_length_le (show l1.length ≤ i by omega)]; rfl)
        clear hl1
        go_wp2
        go_ret
        exact ⟨by rw [← HC2.out]; rfl, below_alloc HW.out _⟩
    · obtain rfl : i = l0.length := by omega
      have hle := HN.out.1
      clear hi hlt
      by_cases hl : l0.length < l1.length
      · have HC2 := Aside0.mk (show -1 = cmpLs l0 l1 by
          rw [← HN.out.2, List.drop_of_length_le (Nat.le_refl _), List.drop_eq_getElem_cons hl]; rfl)
        have hj2 : ((l0.length : Int) < (l1.length : Int)) = True := eq_true (by omega)
        clear hl hle
        go_wp2
        go_ret
        exact ⟨by rw [← HC2.out]; rfl, HW.out⟩
      · have HC2 := Aside0.mk (show 0 = cmpLs l0 l1 by
          rw [← HN.out.2, List.drop_of_length_le (Nat.le_refl _), List.drop_of_length_le (by omega)]; rfl)
        have hj2 : ((l0.length : Int) < (l1.length : Int)) = False := eq_false (by omega)
        clear hl hle
        go_wp2
        go_ret
        exact ⟨by rw [← HC2.out]; rfl, HW.out⟩

set_option maxHeartbeats 1000000 in
theorem labels_Compare.calls (A0 : Option Addr) (c0 : Nat) (l0 : List S91) (A1 : Option Addr) (c1 : Nat) (l1 : List S91) (r : Int) (w : World) (hr0 : Kd.C k91 w A0 l0.length l0) (hc0 : l0.length ≤ c0) (hr1 : Kd.C k91 w A1 l1.length l1) (hc1 : l1.length ≤ c1) (h : labels_Compare.f l0 l1 = some r) :
    Calls Try.prog 37 #[.slice A0 l0.length c0, .slice A1 l1.length c1] w fun e w' => e = .returned (.int .i64 r) ∧ Below w.heap.size w w' := by
  obtain rfl := Option.some.inj h
  have HC := Aside0.mk (compareFunc_calls A0 c0 l0 A1 c1 l1 w hr0 hr1)
  clear hr0 hr1 h hc0 hc1
  go_enter Try.func37, Try.ntmps37
  go_wp2_with (go_at_call 56; refine HC.out.mono ?_; rintro e w' ⟨rfl, hb⟩)
  go_ret
  exact ⟨rfl, hb⟩
end Go.Proofs.Ytcamljlhdejmmaa.P
