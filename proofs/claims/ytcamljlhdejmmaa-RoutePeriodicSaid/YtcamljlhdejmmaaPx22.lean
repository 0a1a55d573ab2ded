-- Written by this session's own copy of a printing program (wip/tools); Lean checks it.
import Derived.Test.YtcamljlhdejmmaaPx0
import Derived.Test.YtcamljlhdejmmaaPx2
import Derived.Test.YtcamljlhdejmmaaPx10
import Derived.Test.YtcamljlhdejmmaaPx11
import Derived.Test.YtcamljlhdejmmaaPx19
import Derived.Test.YtcamljlhdejmmaaPx20
import Derived.Test.YtcamljlhdejmmaaPx21
namespace Go.Proofs.Ytcamljlhdejmmaa.P
open Go.RowKit Go.Proofs.YtcamljlhdejmmaaW.PrintWords Go.Proofs.YtcamljlhdejmmaaW.PrintLast Go.Proofs.YtcamljlhdejmmaaW.PrintMore
attribute [local go_sem] max2_int min2_int max_two min_two max_three min_three max_four min_four   -- for this text's walks alone
set_option linter.unusedVariables false
set_option linter.unusedSimpArgs false

/-! ### intervalmonref29_Persons: function 61 -/
mutual
def intervalmonref29_Persons.l0 : Nat → Int → List (S50) → Int → List ByteArray → Int → Option (List ByteArray)
 | 0, _, _, _, _, _ => none
 | k + 1, x0, x1, x2, x7, x8 => if x8 < (x1.length : Int) then (if x0 = 0 then (none) else (intervalmonref29_Persons.l1 k x0 x1 x2 x7 x8 (Int.tmod x2 x0) false 0)) else (some x7)
def intervalmonref29_Persons.l1 : Nat → Int → List (S50) → Int → List ByteArray → Int → Int → Bool → Int → Option (List ByteArray)
 | 0, _, _, _, _, _, _, _, _ => none
 | k + 1, x0, x1, x2, x7, x8, x9, x10, x11 => if x11 < (x7.length : Int) then (if x10 = true then (intervalmonref29_Persons.l1 k x0 x1 x2 x7 x8 x9 true (wrap64 (x11 + 1))) else (if 0 ≤ x11 then (if 0 ≤ x8 then (if x8 < (x1.length : Int) then (intervalmonref29_Persons.l1 k x0 x1 x2 x7 x8 x9 ((rdOf ByteArray.empty x7 x11).toList == ((rd_T50 x1 x8).f0).toList) (wrap64 (x11 + 1))) else (none)) else (none)) else (none))) else (if 0 ≤ x8 then (if x8 < (x1.length : Int) then (if ((rd_T50 x1 x8).f1) ≤ x9 then (if x9 < ((rd_T50 x1 x8).f2) then (if x10 = true then (intervalmonref29_Persons.l0 k x0 x1 x2 x7 (wrap64 (x8 + 1))) else (if x7.length < 8796093022208 then (intervalmonref29_Persons.l0 k x0 x1 x2 (x7 ++ [(rd_T50 x1 x8).f0]) (wrap64 (x8 + 1))) else (none))) else (intervalmonref29_Persons.l0 k x0 x1 x2 x7 (wrap64 (x8 + 1)))) else (intervalmonref29_Persons.l0 k x0 x1 x2 x7 (wrap64 (x8 + 1)))) else (none)) else (none))
end
def intervalmonref29_Persons.f (k : Nat) (a0 : Int) (l1 : List (S50)) (a2 : Int) : Option (List ByteArray) := intervalmonref29_Persons.l0 k a0 l1 a2 ([] : List ByteArray) 0
theorem intervalmonref29_Persons.mono_l : ∀ k, (∀ y0 y1 y2 y3 y4, LeO (intervalmonref29_Persons.l0 k y0 y1 y2 y3 y4) (intervalmonref29_Persons.l0 (k + 1) y0 y1 y2 y3 y4)) ∧ (∀ y0 y1 y2 y3 y4 y5 y6 y7, LeO (intervalmonref29_Persons.l1 k y0 y1 y2 y3 y4 y5 y6 y7) (intervalmonref29_Persons.l1 (k + 1) y0 y1 y2 y3 y4 y5 y6 y7))
 | 0 => ⟨fun _ _ _ _ _ r h => by simp [intervalmonref29_Persons.l0] at h, fun _ _ _ _ _ _ _ _ r h => by simp [intervalmonref29_Persons.l1] at h⟩
 | k + 1 => by
  obtain ⟨ih0, ih1⟩ := intervalmonref29_Persons.mono_l k
  refine ⟨?_, ?_⟩
  ·intro y0 y1 y2 y3 y4
   unfold intervalmonref29_Persons.l0
   repeat' first
   | (with_reducible exact ih0 _ _ _ _ _)
   | (with_reducible exact ih1 _ _ _ _ _ _ _ _)
   | (with_reducible exact LeO.refl _)
   | (with_reducible exact LeO.none _)
   | (with_reducible refine LeO.ite ?_ ?_)
   | (with_reducible refine LeO.bind ?_ (fun _ => ?_))
   | exact ih0 _ _ _ _ _
   | exact ih1 _ _ _ _ _ _ _ _
   | exact LeO.none _
   | refine LeO.ite ?_ ?_
   | refine LeO.bind ?_ (fun _ => ?_)
  ·intro y0 y1 y2 y3 y4 y5 y6 y7
   unfold intervalmonref29_Persons.l1
   repeat' first
   | (with_reducible exact ih0 _ _ _ _ _)
   | (with_reducible exact ih1 _ _ _ _ _ _ _ _)
   | (with_reducible exact LeO.refl _)
   | (with_reducible exact LeO.none _)
   | (with_reducible refine LeO.ite ?_ ?_)
   | (with_reducible refine LeO.bind ?_ (fun _ => ?_))
   | exact ih0 _ _ _ _ _
   | exact ih1 _ _ _ _ _ _ _ _
   | exact LeO.none _
   | refine LeO.ite ?_ ?_
   | refine LeO.bind ?_ (fun _ => ?_)
theorem intervalmonref29_Persons.mono : ∀ a0 a1 a2 k, LeO (intervalmonref29_Persons.f k a0 a1 a2) (intervalmonref29_Persons.f (k + 1) a0 a1 a2) := by
 intro a0 a1 a2 k
 obtain ⟨ih0, ih1⟩ := intervalmonref29_Persons.mono_l k
 unfold intervalmonref29_Persons.f
 repeat' first
   | (with_reducible exact ih0 _ _ _ _ _)
   | (with_reducible exact ih1 _ _ _ _ _ _ _ _)
   | (with_reducible exact LeO.refl _)
   | (with_reducible exact LeO.none _)
   | (with_reducible refine LeO.ite ?_ ?_)
   | (with_reducible refine LeO.bind ?_ (fun _ => ?_))
   | exact ih0 _ _ _ _ _
   | exact ih1 _ _ _ _ _ _ _ _
   | exact LeO.none _
   | refine LeO.ite ?_ ?_
   | refine LeO.bind ?_ (fun _ => ?_)
set_option maxHeartbeats 8000000 in
set_option maxRecDepth 100000 in
theorem intervalmonref29_Persons.calls (k : Nat) (a0 : Int) (A1 : Option Addr) (c1 : Nat) (l1 : List (S50)) (a2 : Int) (r : List ByteArray) (w : World) (hr1 : Kd.C k50 w A1 l1.length l1) (hc1 : l1.length ≤ c1) (h : intervalmonref29_Persons.f k a0 l1 a2 = some r) :
  Calls Try.prog 61 #[.int .i64 a0, .slice A1 l1.length c1, .int .i64 a2] w fun e w' => ∃ v0_ : Value, e = .returned (v0_) ∧ Kd.R Kd.string 9 w' w.heap.size (fun _ => True) v0_ r ∧ Below w.heap.size w w' := by
 have HR1 := Aside0.mk hr1
 have HC1 := Aside0.mk hc1
 clear hr1 hc1
 have HB := Aside0.mk (Below.refl w.heap.size w)
 have H : (intervalmonref29_Persons.l0 k a0 l1 a2 ([] : List ByteArray) 0) = some r := h
 clear h
 have H' := Aside0.mk H
 clear H
 go_enter Try.func61, Try.ntmps61
 go_wp2
 repeat (go_quiet (fail); try go_wp2)
 go_loopg [7, 8] k (fun kq v7 v8 w' => ∃ (x7_1 : List ByteArray) (x8_1 : Int), v8 = .int .i64 x8_1 ∧ Aside0 (intervalmonref29_Persons.l0 kq a0 l1 a2 x7_1 x8_1 = some r) ∧ Aside0 (kq ≤ k) ∧ Aside0 (Kd.R Kd.string 9 w' w.heap.size (fun _ => True) v7 x7_1) ∧ Aside0 (Below w.heap.size w w'))
 case atStart => exact ⟨(([] : List ByteArray)), (0), (by first | rfl | (simp; done) | (simp [*]; done)), H', ⟨Nat.le_refl _⟩, ⟨by first | exact Kd.R_nil _ _ _ _ _ | exact Kd.N_nil _ _ _ _ _ | exact Kd.V_nil _ _ _ _ _ | exact Kd.Q_nil _ _ _ _ _ | exact Kd.S_nil _ _ _ _ _⟩, ⟨by repeat (first | (with_reducible first | exact HB.out | apply below_alloc | apply pw_below_drewN | apply below_drew1) | exact HB.out)⟩⟩
 case round =>
  clear H'
  try clear c1
  try clear p2
  obtain ⟨x7_1, x8_1, rfl, HA, HK1, HO_7, HB⟩ := hrel
  cases gk with
  | zero => exact absurd HA.out (by simp [intervalmonref29_Persons.l0])
  | succ k1 =>
   have H := HA.out
   clear HA
   simp only [intervalmonref29_Persons.l0] at H
   by_cases c4 : x8_1 < (l1.length : Int)
   ·rw [if_pos c4] at H
    have c4b0 : decide (x8_1 < (l1.length : Int)) = true := decide_eq_true c4
    clear c4
    by_cases c5 : a0 = 0
    ·rw [if_pos c5] at H
     exact absurd H (by simp)
    ·rw [if_neg c5] at H
     have c5b0 : (a0 == 0) = false := beq_eq_false_iff_ne.mpr c5
     have c5b1 : (a0 != 0) = true := bne_iff_ne.mpr c5
     have H' := Aside0.mk H
     clear H
     go_wp2
     repeat (go_quiet (fail); try go_wp2)
     go_loopg [10, 11] k1 (fun kq v10 v11 w' => ∃ (x10_2 : Bool) (x11_2 : Int), v10 = .bool x10_2 ∧ v11 = .int .i64 x11_2 ∧ Aside0 (intervalmonref29_Persons.l1 kq a0 l1 a2 x7_1 x8_1 (Int.tmod a2 a0) x10_2 x11_2 = some r) ∧ Aside0 (kq ≤ k1) ∧ Aside0 (Kd.R Kd.string 9 w' w.heap.size (fun _ => True) u7 x7_1) ∧ Aside0 (Below w.heap.size w w'))
     case atStart => exact ⟨(false), (0), (by first | rfl | (simp; done) | (simp [*]; done)), (by first | rfl | (simp; done) | (simp [*]; done)), H', ⟨Nat.le_refl _⟩, ⟨by (with_reducible repeat (first | apply Kd.R_alloc | apply Kd.R_drewN | apply Kd.R_drew)); exact HO_7.out⟩, ⟨by repeat (first | (with_reducible first | exact HB.out | apply below_alloc | apply pw_below_drewN | apply below_drew1) | exact HB.out)⟩⟩
     case round =>
      clear H'
      try clear c1
      try clear p2
      try clear c4
      try clear c4b0
      try clear c5
      try clear c5b0
      try clear c5b1
      try clear p2
      obtain ⟨x10_2, x11_2, rfl, rfl, HA, HK2, HO_7, HB⟩ := hrel
      cases gk with
      | zero => exact absurd HA.out (by simp [intervalmonref29_Persons.l1])
      | succ k2 =>
       have H := HA.out
       clear HA
       simp only [intervalmonref29_Persons.l1] at H
       by_cases c6 : x11_2 < (x7_1.length : Int)
       ·rw [if_pos c6] at H
        have c6b0 : decide (x11_2 < (x7_1.length : Int)) = true := decide_eq_true c6
        clear c6
        by_cases c7 : x10_2 = true
        ·subst c7
         have H1 : (intervalmonref29_Persons.l1 k2 a0 l1 a2 x7_1 x8_1 (Int.tmod a2 a0) true (wrap64 (x11_2 + 1))) = some r := by rw [if_pos rfl] at H; exact H
         clear H
         have H := H1
         clear H1
         have H' := Aside0.mk H
         clear H
         obtain ⟨Ao8, co8, eo8⟩ := Kd.R_slice HO_7.out
         subst eo8
         go_wp2
         repeat (go_quiet (fail); try go_wp2)
         go_roundg k2
         case measure => have := HK1.out; have := HK2.out; omega
         case rel => exact ⟨(true), (wrap64 (x11_2 + 1)), (by first | rfl | (simp; done) | (simp [*]; done)), (by first | rfl | (simp; done) | (simp [*]; done)), H', ⟨by have := HK1.out; have := HK2.out; omega⟩, ⟨by (with_reducible repeat (first | apply Kd.R_alloc | apply Kd.R_drewN | apply Kd.R_drew)); exact HO_7.out⟩, ⟨by repeat (first | (with_reducible first | exact HB.out | apply below_alloc | apply pw_below_drewN | apply below_drew1) | exact HB.out)⟩⟩
        ·replace c7 := Bool.eq_false_iff.mpr c7
         subst c7
         have H1 : (if 0 ≤ x11_2 then (if 0 ≤ x8_1 then (if x8_1 < (l1.length : Int) then (intervalmonref29_Persons.l1 k2 a0 l1 a2 x7_1 x8_1 (Int.tmod a2 a0) ((rdOf ByteArray.empty x7_1 x11_2).toList == ((rd_T50 l1 x8_1).f0).toList) (wrap64 (x11_2 + 1))) else (none)) else (none)) else (none)) = some r := by rw [if_neg (show ¬ (false = true) by decide)] at H; exact H
         clear H
         have H := H1
         clear H1
         by_cases c9 : 0 ≤ x11_2
         ·rw [if_pos c9] at H
          have c9b0 : decide (0 ≤ x11_2) = true := decide_eq_true c9
          clear c9
          by_cases c10 : 0 ≤ x8_1
          ·rw [if_pos c10] at H
           have c10b0 : decide (0 ≤ x8_1) = true := decide_eq_true c10
           clear c10
           by_cases c11 : x8_1 < (l1.length : Int)
           ·rw [if_pos c11] at H
            have c11b0 : decide (x8_1 < (l1.length : Int)) = true := decide_eq_true c11
            clear c11
            have H' := Aside0.mk H
            clear H
            obtain ⟨Ao12, co12, eo12⟩ := Kd.R_slice HO_7.out
            subst eo12
            have p507 : 0 ≤ (x11_2 : Int) := of_decide_eq_true (by first | (with_reducible assumption) | assumption)
            have q507 : x11_2 < (x7_1.length : Int) := of_decide_eq_true (by first | (with_reducible assumption) | assumption)
            obtain ⟨ad507, e507, hx507_0⟩ := Kd.at_string (Kd.R_reads' HO_7.out).2.2 x11_2 p507 q507
            cases e507
            replace p507 := eq_true p507
            replace q507 := eq_true q507
            have p508 : 0 ≤ (x8_1 : Int) := of_decide_eq_true (by first | (with_reducible assumption) | assumption)
            have q508 : x8_1 < (l1.length : Int) := of_decide_eq_true (by first | (with_reducible assumption) | assumption)
            obtain ⟨ad508, e508, hx508_0, hx508_1, hx508_2⟩ := at_T50 HR1.out x8_1 p508 q508
            cases e508
            (try replace hx508_0 := (HB.out.cell (World.block_lt_of_cell? w _ hx508_0)).trans hx508_0)
            (try replace hx508_1 := (HB.out.cell (World.block_lt_of_cell? w _ hx508_1)).trans hx508_1)
            (try replace hx508_2 := (HB.out.cell (World.block_lt_of_cell? w _ hx508_2)).trans hx508_2)
            replace p508 := eq_true p508
            replace q508 := eq_true q508
            go_wp2
            repeat (go_quiet (fail); try go_wp2)
            go_roundg k2
            case measure => have := HK1.out; have := HK2.out; omega
            case rel => exact ⟨(((rdOf ByteArray.empty x7_1 x11_2).toList == ((rd_T50 l1 x8_1).f0).toList)), (wrap64 (x11_2 + 1)), (by first | rfl | (simp; done) | (simp [*]; done)), (by first | rfl | (simp; done) | (simp [*]; done)), H', ⟨by have := HK1.out; have := HK2.out; omega⟩, ⟨by (with_reducible repeat (first | apply Kd.R_alloc | apply Kd.R_drewN | apply Kd.R_drew)); exact HO_7.out⟩, ⟨by repeat (first | (with_reducible first | exact HB.out | apply below_alloc | apply pw_below_drewN | apply below_drew1) | exact HB.out)⟩⟩
           ·rw [if_neg c11] at H
            exact absurd H (by simp)
          ·rw [if_neg c10] at H
           exact absurd H (by simp)
         ·rw [if_neg c9] at H
          exact absurd H (by simp)
       ·rw [if_neg c6] at H
        have c6b0 : decide (x11_2 < (x7_1.length : Int)) = false := decide_eq_false c6
        clear c6
        by_cases c13 : 0 ≤ x8_1
        ·rw [if_pos c13] at H
         have c13b0 : decide (0 ≤ x8_1) = true := decide_eq_true c13
         clear c13
         by_cases c14 : x8_1 < (l1.length : Int)
         ·rw [if_pos c14] at H
          have c14b0 : decide (x8_1 < (l1.length : Int)) = true := decide_eq_true c14
          clear c14
          by_cases c15 : ((rd_T50 l1 x8_1).f1) ≤ (Int.tmod a2 a0)
          ·rw [if_pos c15] at H
           have c15b0 : decide (((rd_T50 l1 x8_1).f1) ≤ (Int.tmod a2 a0)) = true := decide_eq_true c15
           clear c15
           by_cases c16 : (Int.tmod a2 a0) < ((rd_T50 l1 x8_1).f2)
           ·rw [if_pos c16] at H
            have c16b0 : decide ((Int.tmod a2 a0) < ((rd_T50 l1 x8_1).f2)) = true := decide_eq_true c16
            clear c16
            by_cases c17 : x10_2 = true
            ·subst c17
             have H1 : (intervalmonref29_Persons.l0 k2 a0 l1 a2 x7_1 (wrap64 (x8_1 + 1))) = some r := by rw [if_pos rfl] at H; exact H
             clear H
             have H := H1
             clear H1
             have H' := Aside0.mk H
             clear H
             obtain ⟨Ao18, co18, eo18⟩ := Kd.R_slice HO_7.out
             subst eo18
             have p509 : 0 ≤ (x8_1 : Int) := of_decide_eq_true (by first | (with_reducible assumption) | assumption)
             have q509 : x8_1 < (l1.length : Int) := of_decide_eq_true (by first | (with_reducible assumption) | assumption)
             obtain ⟨ad509, e509, hx509_0, hx509_1, hx509_2⟩ := at_T50 HR1.out x8_1 p509 q509
             cases e509
             (try replace hx509_0 := (HB.out.cell (World.block_lt_of_cell? w _ hx509_0)).trans hx509_0)
             (try replace hx509_1 := (HB.out.cell (World.block_lt_of_cell? w _ hx509_1)).trans hx509_1)
             (try replace hx509_2 := (HB.out.cell (World.block_lt_of_cell? w _ hx509_2)).trans hx509_2)
             replace p509 := eq_true p509
             replace q509 := eq_true q509
             have p510 : 0 ≤ (x8_1 : Int) := of_decide_eq_true (by first | (with_reducible assumption) | assumption)
             have q510 : x8_1 < (l1.length : Int) := of_decide_eq_true (by first | (with_reducible assumption) | assumption)
             obtain ⟨ad510, e510, hx510_0, hx510_1, hx510_2⟩ := at_T50 HR1.out x8_1 p510 q510
             obtain rfl : ad509 = ad510 := (by injection e510)
             (try replace hx510_0 := (HB.out.cell (World.block_lt_of_cell? w _ hx510_0)).trans hx510_0)
             (try replace hx510_1 := (HB.out.cell (World.block_lt_of_cell? w _ hx510_1)).trans hx510_1)
             (try replace hx510_2 := (HB.out.cell (World.block_lt_of_cell? w _ hx510_2)).trans hx510_2)
             replace p510 := eq_true p510
             replace q510 := eq_true q510
             go_wp2
             repeat (go_quiet (fail); try go_wp2)
             go_roundg k2
             case measure => have := HK1.out; have := HK2.out; omega
             case rel => exact ⟨(x7_1), (wrap64 (x8_1 + 1)), (by first | rfl | (simp; done) | (simp [*]; done)), H', ⟨by have := HK1.out; have := HK2.out; omega⟩, ⟨by (with_reducible repeat (first | apply Kd.R_alloc | apply Kd.R_drewN | apply Kd.R_drew)); exact HO_7.out⟩, ⟨by repeat (first | (with_reducible first | exact HB.out | apply below_alloc | apply pw_below_drewN | apply below_drew1) | exact HB.out)⟩⟩
            ·replace c17 := Bool.eq_false_iff.mpr c17
             subst c17
             have H1 : (if x7_1.length < 8796093022208 then (intervalmonref29_Persons.l0 k2 a0 l1 a2 (x7_1 ++ [(rd_T50 l1 x8_1).f0]) (wrap64 (x8_1 + 1))) else (none)) = some r := by rw [if_neg (show ¬ (false = true) by decide)] at H; exact H
             clear H
             have H := H1
             clear H1
             by_cases c19 : x7_1.length < 8796093022208
             ·rw [if_pos c19] at H
              have LMc19 := Aside0.mk c19
              clear c19
              obtain ⟨y512, hy512⟩ : ∃ y_ : List ByteArray, y_ = (x7_1 ++ [(rd_T50 l1 x8_1).f0]) := ⟨_, rfl⟩
              replace H : (intervalmonref29_Persons.l0 k2 a0 l1 a2 y512 (wrap64 (x8_1 + 1))) = some r := by first | (rw [hy512]; with_reducible exact H) | (have H2_ := (Option.bind_some _ _).symm.trans H; rw [hy512]; with_reducible exact H2_) | (have H2_ := (Option.bind_some _ _).symm.trans H; with_reducible exact H2_) | with_reducible exact H | (rw [hy512]; exact H) | exact H
              have Ny512 := Aside0.mk hy512
              clear hy512
              have H' := Aside0.mk H
              clear H
              obtain ⟨Ao20, co20, eo20⟩ := Kd.R_slice HO_7.out
              subst eo20
              have p509 : 0 ≤ (x8_1 : Int) := of_decide_eq_true (by first | (with_reducible assumption) | assumption)
              have q509 : x8_1 < (l1.length : Int) := of_decide_eq_true (by first | (with_reducible assumption) | assumption)
              obtain ⟨ad509, e509, hx509_0, hx509_1, hx509_2⟩ := at_T50 HR1.out x8_1 p509 q509
              cases e509
              (try replace hx509_0 := (HB.out.cell (World.block_lt_of_cell? w _ hx509_0)).trans hx509_0)
              (try replace hx509_1 := (HB.out.cell (World.block_lt_of_cell? w _ hx509_1)).trans hx509_1)
              (try replace hx509_2 := (HB.out.cell (World.block_lt_of_cell? w _ hx509_2)).trans hx509_2)
              replace p509 := eq_true p509
              replace q509 := eq_true q509
              have p510 : 0 ≤ (x8_1 : Int) := of_decide_eq_true (by first | (with_reducible assumption) | assumption)
              have q510 : x8_1 < (l1.length : Int) := of_decide_eq_true (by first | (with_reducible assumption) | assumption)
              obtain ⟨ad510, e510, hx510_0, hx510_1, hx510_2⟩ := at_T50 HR1.out x8_1 p510 q510
              obtain rfl : ad509 = ad510 := (by injection e510)
              (try replace hx510_0 := (HB.out.cell (World.block_lt_of_cell? w _ hx510_0)).trans hx510_0)
              (try replace hx510_1 := (HB.out.cell (World.block_lt_of_cell? w _ hx510_1)).trans hx510_1)
              (try replace hx510_2 := (HB.out.cell (World.block_lt_of_cell? w _ hx510_2)).trans hx510_2)
              replace p510 := eq_true p510
              replace q510 := eq_true q510
              have p511 : 0 ≤ (x8_1 : Int) := of_decide_eq_true (by first | (with_reducible assumption) | assumption)
              have q511 : x8_1 < (l1.length : Int) := of_decide_eq_true (by first | (with_reducible assumption) | assumption)
              obtain ⟨ad511, e511, hx511_0, hx511_1, hx511_2⟩ := at_T50 HR1.out x8_1 p511 q511
              obtain rfl : ad509 = ad511 := (by injection e511)
              (try replace hx511_0 := (HB.out.cell (World.block_lt_of_cell? w _ hx511_0)).trans hx511_0)
              (try replace hx511_1 := (HB.out.cell (World.block_lt_of_cell? w _ hx511_1)).trans hx511_1)
              (try replace hx511_2 := (HB.out.cell (World.block_lt_of_cell? w _ hx511_2)).trans hx511_2)
              replace p511 := eq_true p511
              replace q511 := eq_true q511
              go_wp2_with (first | ((with_reducible refine gate_builtin (b := .append) (xs := #[.tmp 60, .tmp 66]) rfl ?_); at_builtin; refine Kd.R_append Kd.string (w0 := w) w.heap.size rfl (.tmp 60) (.tmp 66) 57 9 (.string ⟨#[]⟩) 16 rfl Try.underlying57 info9 rfl (by decide) (by omega) (.slice Ao20 x7_1.length co20) x7_1 ((rd_T50 l1 x8_1).f0) [.string ((rd_T50 l1 x8_1).f0)] (fun _ => True) (fun _ => False) rfl rfl ?aP (fun _ hk => hk.elim) ?aF ?aO ?aB ?aS ?aL ?_; (case aP => exact rfl); (case aB => exact (hq HB)); (case aF => exact (fun _ _ => trivial)); (case aO => exact (rq HO_7)); (case aS => exact (below_size (hq HB))); (case aL => have := LMc19.out; omega); intro v513 w21 ho hb hg hat; rw [← Ny512.out] at ho; have n0_ := Aside0.mk (hb); have n1_ := Aside0.mk (ho); clear HB; clear HO_7; have HB := n0_; have HO514 := n1_; clear n0_ n1_; clear ho hb hg hat))
              repeat (go_quiet (first | ((with_reducible refine gate_builtin (b := .append) (xs := #[.tmp 60, .tmp 66]) rfl ?_); at_builtin; refine Kd.R_append Kd.string (w0 := w) w.heap.size rfl (.tmp 60) (.tmp 66) 57 9 (.string ⟨#[]⟩) 16 rfl Try.underlying57 info9 rfl (by decide) (by omega) (.slice Ao20 x7_1.length co20) x7_1 ((rd_T50 l1 x8_1).f0) [.string ((rd_T50 l1 x8_1).f0)] (fun _ => True) (fun _ => False) rfl rfl ?aP (fun _ hk => hk.elim) ?aF ?aO ?aB ?aS ?aL ?_; (case aP => exact rfl); (case aB => exact (hq HB)); (case aF => exact (fun _ _ => trivial)); (case aO => exact (rq HO_7)); (case aS => exact (below_size (hq HB))); (case aL => have := LMc19.out; omega); intro v513 w21 ho hb hg hat; rw [← Ny512.out] at ho; have n0_ := Aside0.mk (hb); have n1_ := Aside0.mk (ho); clear HB; clear HO_7; have HB := n0_; have HO514 := n1_; clear n0_ n1_; clear ho hb hg hat)); try go_wp2_with (first | ((with_reducible refine gate_builtin (b := .append) (xs := #[.tmp 60, .tmp 66]) rfl ?_); at_builtin; refine Kd.R_append Kd.string (w0 := w) w.heap.size rfl (.tmp 60) (.tmp 66) 57 9 (.string ⟨#[]⟩) 16 rfl Try.underlying57 info9 rfl (by decide) (by omega) (.slice Ao20 x7_1.length co20) x7_1 ((rd_T50 l1 x8_1).f0) [.string ((rd_T50 l1 x8_1).f0)] (fun _ => True) (fun _ => False) rfl rfl ?aP (fun _ hk => hk.elim) ?aF ?aO ?aB ?aS ?aL ?_; (case aP => exact rfl); (case aB => exact (hq HB)); (case aF => exact (fun _ _ => trivial)); (case aO => exact (rq HO_7)); (case aS => exact (below_size (hq HB))); (case aL => have := LMc19.out; omega); intro v513 w21 ho hb hg hat; rw [← Ny512.out] at ho; have n0_ := Aside0.mk (hb); have n1_ := Aside0.mk (ho); clear HB; clear HO_7; have HB := n0_; have HO514 := n1_; clear n0_ n1_; clear ho hb hg hat)))
              go_roundg k2
              case measure => have := HK1.out; have := HK2.out; omega
              case rel => exact ⟨(y512), (wrap64 (x8_1 + 1)), (by first | rfl | (simp; done) | (simp [*]; done)), H', ⟨by have := HK1.out; have := HK2.out; omega⟩, ⟨by (with_reducible repeat (first | apply Kd.R_alloc | apply Kd.R_drewN | apply Kd.R_drew)); exact HO514.out⟩, ⟨by repeat (first | (with_reducible first | exact HB.out | apply below_alloc | apply pw_below_drewN | apply below_drew1) | exact HB.out)⟩⟩
             ·rw [if_neg c19] at H
              exact absurd H (by simp)
           ·rw [if_neg c16] at H
            have c16b0 : decide ((Int.tmod a2 a0) < ((rd_T50 l1 x8_1).f2)) = false := decide_eq_false c16
            clear c16
            have H' := Aside0.mk H
            clear H
            obtain ⟨Ao22, co22, eo22⟩ := Kd.R_slice HO_7.out
            subst eo22
            have p509 : 0 ≤ (x8_1 : Int) := of_decide_eq_true (by first | (with_reducible assumption) | assumption)
            have q509 : x8_1 < (l1.length : Int) := of_decide_eq_true (by first | (with_reducible assumption) | assumption)
            obtain ⟨ad509, e509, hx509_0, hx509_1, hx509_2⟩ := at_T50 HR1.out x8_1 p509 q509
            cases e509
            (try replace hx509_0 := (HB.out.cell (World.block_lt_of_cell? w _ hx509_0)).trans hx509_0)
            (try replace hx509_1 := (HB.out.cell (World.block_lt_of_cell? w _ hx509_1)).trans hx509_1)
            (try replace hx509_2 := (HB.out.cell (World.block_lt_of_cell? w _ hx509_2)).trans hx509_2)
            replace p509 := eq_true p509
            replace q509 := eq_true q509
            have p510 : 0 ≤ (x8_1 : Int) := of_decide_eq_true (by first | (with_reducible assumption) | assumption)
            have q510 : x8_1 < (l1.length : Int) := of_decide_eq_true (by first | (with_reducible assumption) | assumption)
            obtain ⟨ad510, e510, hx510_0, hx510_1, hx510_2⟩ := at_T50 HR1.out x8_1 p510 q510
            obtain rfl : ad509 = ad510 := (by injection e510)
            (try replace hx510_0 := (HB.out.cell (World.block_lt_of_cell? w _ hx510_0)).trans hx510_0)
            (try replace hx510_1 := (HB.out.cell (World.block_lt_of_cell? w _ hx510_1)).trans hx510_1)
            (try replace hx510_2 := (HB.out.cell (World.block_lt_of_cell? w _ hx510_2)).trans hx510_2)
            replace p510 := eq_true p510
            replace q510 := eq_true q510
            go_wp2
            repeat (go_quiet (fail); try go_wp2)
            go_roundg k2
            case measure => have := HK1.out; have := HK2.out; omega
            case rel => exact ⟨(x7_1), (wrap64 (x8_1 + 1)), (by first | rfl | (simp; done) | (simp [*]; done)), H', ⟨by have := HK1.out; have := HK2.out; omega⟩, ⟨by (with_reducible repeat (first | apply Kd.R_alloc | apply Kd.R_drewN | apply Kd.R_drew)); exact HO_7.out⟩, ⟨by repeat (first | (with_reducible first | exact HB.out | apply below_alloc | apply pw_below_drewN | apply below_drew1) | exact HB.out)⟩⟩
          ·rw [if_neg c15] at H
           have c15b0 : decide (((rd_T50 l1 x8_1).f1) ≤ (Int.tmod a2 a0)) = false := decide_eq_false c15
           clear c15
           have H' := Aside0.mk H
           clear H
           obtain ⟨Ao23, co23, eo23⟩ := Kd.R_slice HO_7.out
           subst eo23
           have p509 : 0 ≤ (x8_1 : Int) := of_decide_eq_true (by first | (with_reducible assumption) | assumption)
           have q509 : x8_1 < (l1.length : Int) := of_decide_eq_true (by first | (with_reducible assumption) | assumption)
           obtain ⟨ad509, e509, hx509_0, hx509_1, hx509_2⟩ := at_T50 HR1.out x8_1 p509 q509
           cases e509
           (try replace hx509_0 := (HB.out.cell (World.block_lt_of_cell? w _ hx509_0)).trans hx509_0)
           (try replace hx509_1 := (HB.out.cell (World.block_lt_of_cell? w _ hx509_1)).trans hx509_1)
           (try replace hx509_2 := (HB.out.cell (World.block_lt_of_cell? w _ hx509_2)).trans hx509_2)
           replace p509 := eq_true p509
           replace q509 := eq_true q509
           go_wp2
           repeat (go_quiet (fail); try go_wp2)
           go_roundg k2
           case measure => have := HK1.out; have := HK2.out; omega
           case rel => exact ⟨(x7_1), (wrap64 (x8_1 + 1)), (by first | rfl | (simp; done) | (simp [*]; done)), H', ⟨by have := HK1.out; have := HK2.out; omega⟩, ⟨by (with_reducible repeat (first | apply Kd.R_alloc | apply Kd.R_drewN | apply Kd.R_drew)); exact HO_7.out⟩, ⟨by repeat (first | (with_reducible first | exact HB.out | apply below_alloc | apply pw_below_drewN | apply below_drew1) | exact HB.out)⟩⟩
         ·rw [if_neg c14] at H
          exact absurd H (by simp)
        ·rw [if_neg c13] at H
         exact absurd H (by simp)
   ·rw [if_neg c4] at H
    have c4b0 : decide (x8_1 < (l1.length : Int)) = false := decide_eq_false c4
    clear c4
    obtain rfl := Option.some.inj H
    go_wp2
    repeat (go_quiet (fail); try go_wp2)
    go_ret
    exact ⟨_, by first | rfl | (simp [errW_none, errW_some] <;> rfl) | (simp [*, errW_none, errW_some] <;> rfl), by (with_reducible repeat (first | apply Kd.R_alloc | apply Kd.R_drewN | apply Kd.R_drew)); exact HO_7.out, by repeat (first | (with_reducible first | exact HB.out | apply below_alloc | apply pw_below_drewN | apply below_drew1) | exact HB.out)⟩

/-! ### intervalmonref29_OnDuty: function 45 -/
def intervalmonref29_OnDuty.j0 : Nat → Int → List (S50) → Int → Int → Bool → Option (ByteArray × Int)
 | 0, _, _, _, _, _ => none
 | k + 1, x0, x1, x2, x3, x23 => if x23 = true then (some ((⟨#[]⟩ : ByteArray), 5)) else (if x3 < 0 then (some ((⟨#[]⟩ : ByteArray), 1)) else ((intervalmonref29_Persons.f k x0 x1 x2).bind fun t516 => (if 0 ≤ (mn x3 (wrap64 ((t516.length : Int) - 1))) then (if (mn x3 (wrap64 ((t516.length : Int) - 1))) < (t516.length : Int) then (some (rdOf ByteArray.empty t516 (mn x3 (wrap64 ((t516.length : Int) - 1))), 0)) else (none)) else (none))))
def intervalmonref29_OnDuty.f (k : Nat) (a0 : Int) (l1 : List (S50)) (a2 : Int) (a3 : Int) : Option (ByteArray × Int) := (intervalmonref29_ValidRota.f k a0 l1).bind fun t515 => (if t515 = 0 then (if a2 < 0 then (intervalmonref29_OnDuty.j0 k a0 l1 a2 a3 true) else (intervalmonref29_OnDuty.j0 k a0 l1 a2 a3 (decide (a2 > 1048576)))) else (some ((⟨#[]⟩ : ByteArray), t515)))
theorem intervalmonref29_OnDuty.mono_l : ∀ k, (∀ y0 y1 y2 y3 y4, LeO (intervalmonref29_OnDuty.j0 k y0 y1 y2 y3 y4) (intervalmonref29_OnDuty.j0 (k + 1) y0 y1 y2 y3 y4))
 | 0 => fun _ _ _ _ _ r h => by simp [intervalmonref29_OnDuty.j0] at h
 | k + 1 => by
  have ih0 := intervalmonref29_OnDuty.mono_l k
  ·intro y0 y1 y2 y3 y4
   unfold intervalmonref29_OnDuty.j0
   repeat' first
   | (with_reducible exact ih0 _ _ _ _ _)
   | (with_reducible exact intervalmonref29_Persons.mono _ _ _ _)
   | (with_reducible exact intervalmonref29_ValidRota.mono _ _ _)
   | (with_reducible exact LeO.refl _)
   | (with_reducible exact LeO.none _)
   | (with_reducible refine LeO.ite ?_ ?_)
   | (with_reducible refine LeO.bind ?_ (fun _ => ?_))
   | exact ih0 _ _ _ _ _
   | exact intervalmonref29_Persons.mono _ _ _ _
   | exact intervalmonref29_ValidRota.mono _ _ _
   | exact LeO.none _
   | refine LeO.ite ?_ ?_
   | refine LeO.bind ?_ (fun _ => ?_)
theorem intervalmonref29_OnDuty.mono : ∀ a0 a1 a2 a3 k, LeO (intervalmonref29_OnDuty.f k a0 a1 a2 a3) (intervalmonref29_OnDuty.f (k + 1) a0 a1 a2 a3) := by
 intro a0 a1 a2 a3 k
 have ih0 := intervalmonref29_OnDuty.mono_l k
 unfold intervalmonref29_OnDuty.f
 repeat' first
   | (with_reducible exact ih0 _ _ _ _ _)
   | (with_reducible exact intervalmonref29_Persons.mono _ _ _ _)
   | (with_reducible exact intervalmonref29_ValidRota.mono _ _ _)
   | (with_reducible exact LeO.refl _)
   | (with_reducible exact LeO.none _)
   | (with_reducible refine LeO.ite ?_ ?_)
   | (with_reducible refine LeO.bind ?_ (fun _ => ?_))
   | exact ih0 _ _ _ _ _
   | exact intervalmonref29_Persons.mono _ _ _ _
   | exact intervalmonref29_ValidRota.mono _ _ _
   | exact LeO.none _
   | refine LeO.ite ?_ ?_
   | refine LeO.bind ?_ (fun _ => ?_)
set_option maxHeartbeats 8000000 in
set_option maxRecDepth 100000 in
theorem intervalmonref29_OnDuty.calls (k : Nat) (a0 : Int) (A1 : Option Addr) (c1 : Nat) (l1 : List (S50)) (a2 : Int) (a3 : Int) (r1 : ByteArray) (r2 : Int) (w : World) (hr1 : Kd.C k50 w A1 l1.length l1) (hc1 : l1.length ≤ c1) (h : intervalmonref29_OnDuty.f k a0 l1 a2 a3 = some (r1, r2)) :
  Calls Try.prog 45 #[.int .i64 a0, .slice A1 l1.length c1, .int .i64 a2, .int .i64 a3] w fun e w' => e = .returned (.tuple #[.string r1, .int .i64 r2]) ∧ Below w.heap.size w w' := by
 have HR1 := Aside0.mk hr1
 have HC1 := Aside0.mk hc1
 clear hr1 hc1
 have HB := Aside0.mk (Below.refl w.heap.size w)
 have H : ((intervalmonref29_ValidRota.f k a0 l1).bind fun t515 => (if t515 = 0 then (if a2 < 0 then (intervalmonref29_OnDuty.j0 k a0 l1 a2 a3 true) else (intervalmonref29_OnDuty.j0 k a0 l1 a2 a3 (decide (a2 > 1048576)))) else (some ((⟨#[]⟩ : ByteArray), t515)))) = some (r1, r2) := h
 clear h
 replace H := Option.bind_eq_some_iff.mp H
 obtain ⟨t515, A50, H⟩ := H
 replace H : (if t515 = 0 then (if a2 < 0 then (intervalmonref29_OnDuty.j0 k a0 l1 a2 a3 true) else (intervalmonref29_OnDuty.j0 k a0 l1 a2 a3 (decide (a2 > 1048576)))) else (some ((⟨#[]⟩ : ByteArray), t515))) = some (r1, r2) := H
 have A5 := Aside0.mk A50
 clear A50
 by_cases c6 : t515 = 0
 ·rw [if_pos c6] at H
  have c6b0 : (t515 == 0) = true := beq_iff_eq.mpr c6
  have c6b1 : (t515 != 0) = false := bne_eq_false_iff_eq.mpr c6
  clear c6
  have HC7 := Aside0.mk H
  clear H
  go_enter Try.func45, Try.ntmps45
  go_upto_region 4 with (first | ((with_reducible refine gate_callee (f := 28) rfl ?_); refine goesL_ (some 14) rfl rfl Try.func28 (by kernel_rfl) rfl #[.int .i64 a0, .slice A1 l1.length c1] rfl aq ?_; (with_reducible refine (intervalmonref29_ValidRota.calls k a0 _ _ l1 t515 _ ?side1 ?side2 A5.out).mono ?_); (case side1 => repeat (first | exact HR1.out | (with_reducible refine Kd.C_alloc ?_ _) | (with_reducible refine Kd.C_drewN ?_ _) | (with_reducible refine Kd.C_drew ?_))); (case side2 => exact HC1.out); rintro e w' ⟨rfl, ⟨nd, rfl⟩⟩; refine ⟨_, rfl, ?_⟩))
  (try simp only [Act.put, List.setIfInBounds_toArray, List.set_cons_zero, List.set_cons_succ])
  go_cut [23] (fun v23 wc => ∃ (kq : Nat) (x23_6 : Bool), v23 = .bool x23_6 ∧ Aside0 (intervalmonref29_OnDuty.j0 kq a0 l1 a2 a3 x23_6 = some (r1, r2)) ∧ Aside0 (kq ≤ k) ∧ Aside0 (Below w.heap.size w wc))
  case first =>
   have H := HC7.out
   clear HC7
   by_cases c8 : a2 < 0
   ·rw [if_pos c8] at H
    have c8b0 : decide (a2 < 0) = true := decide_eq_true c8
    clear c8
    (first | rw [c8b0] | (simp only [i64_w, i32_w]; rw [c8b0]) | skip)
    have H' := Aside0.mk H
    clear H
    go_wp2
    go_meet
    case rel => exact ⟨_, (true), (by first | rfl | (simp; done) | (simp [*]; done)), H', ⟨by first | omega | exact Nat.le_refl _⟩, ⟨by repeat (first | (with_reducible first | exact HB.out | apply below_alloc | apply pw_below_drewN | apply below_drew1) | exact HB.out)⟩⟩
   ·rw [if_neg c8] at H
    have c8b0 : decide (a2 < 0) = false := decide_eq_false c8
    clear c8
    (first | rw [c8b0] | (simp only [i64_w, i32_w]; rw [c8b0]) | skip)
    have H' := Aside0.mk H
    clear H
    go_wp2
    go_meet
    case rel => exact ⟨_, (decide (a2 > 1048576)), (by first | rfl | (simp; done) | (simp [*]; done)), H', ⟨by first | omega | exact Nat.le_refl _⟩, ⟨by repeat (first | (with_reducible first | exact HB.out | apply below_alloc | apply pw_below_drewN | apply below_drew1) | exact HB.out)⟩⟩
  case rest =>
   clear HC7
   try clear c1
   try clear c2
   try clear p2
   try clear c4
   try clear c6
   try clear c6b0
   try clear c6b1
   try clear c8
   try clear c8b0
   obtain ⟨kq, x23_6, rfl, HA, HJ6, HB⟩ := hcut
   cases kq with
   | zero => exact absurd HA.out (by simp [intervalmonref29_OnDuty.j0])
   | succ kj6 =>
    have H := HA.out
    clear HA
    simp only [intervalmonref29_OnDuty.j0] at H
    by_cases c9 : x23_6 = true
    ·subst c9
     have H1 : (some ((⟨#[]⟩ : ByteArray), 5)) = some (r1, r2) := by rw [if_pos rfl] at H; exact H
     clear H
     have H := H1
     clear H1
     simp only [Option.some.injEq, Prod.mk.injEq] at H
     obtain ⟨rfl, rfl⟩ := H
     go_wp2
     go_ret2
     exact ⟨by first | rfl | (simp [errW_none, errW_some] <;> rfl) | (simp [*, errW_none, errW_some] <;> rfl), by repeat (first | (with_reducible first | exact HB.out | apply below_alloc | apply pw_below_drewN | apply below_drew1) | exact HB.out)⟩
    ·replace c9 := Bool.eq_false_iff.mpr c9
     subst c9
     have H1 : (if a3 < 0 then (some ((⟨#[]⟩ : ByteArray), 1)) else ((intervalmonref29_Persons.f kj6 a0 l1 a2).bind fun t516 => (if 0 ≤ (mn a3 (wrap64 ((t516.length : Int) - 1))) then (if (mn a3 (wrap64 ((t516.length : Int) - 1))) < (t516.length : Int) then (some (rdOf ByteArray.empty t516 (mn a3 (wrap64 ((t516.length : Int) - 1))), 0)) else (none)) else (none)))) = some (r1, r2) := by rw [if_neg (show ¬ (false = true) by decide)] at H; exact H
     clear H
     have H := H1
     clear H1
     by_cases c10 : a3 < 0
     ·rw [if_pos c10] at H
      have c10b0 : decide (a3 < 0) = true := decide_eq_true c10
      clear c10
      simp only [Option.some.injEq, Prod.mk.injEq] at H
      obtain ⟨rfl, rfl⟩ := H
      go_wp2
      go_ret2
      exact ⟨by first | rfl | (simp [errW_none, errW_some] <;> rfl) | (simp [*, errW_none, errW_some] <;> rfl), by repeat (first | (with_reducible first | exact HB.out | apply below_alloc | apply pw_below_drewN | apply below_drew1) | exact HB.out)⟩
     ·rw [if_neg c10] at H
      have c10b0 : decide (a3 < 0) = false := decide_eq_false c10
      clear c10
      replace H := Option.bind_eq_some_iff.mp H
      obtain ⟨t516, A110, H⟩ := H
      replace H : (if 0 ≤ (mn a3 (wrap64 ((t516.length : Int) - 1))) then (if (mn a3 (wrap64 ((t516.length : Int) - 1))) < (t516.length : Int) then (some (rdOf ByteArray.empty t516 (mn a3 (wrap64 ((t516.length : Int) - 1))), 0)) else (none)) else (none)) = some (r1, r2) := H
      have A11 := Aside0.mk A110
      clear A110
      obtain ⟨ji12, hji12⟩ : ∃ j_ : Int, (mn a3 (wrap64 ((t516.length : Int) - 1))) = j_ := ⟨_, rfl⟩
      replace H : (if 0 ≤ (ji12) then (if (ji12) < (t516.length : Int) then (some (rdOf ByteArray.empty t516 (ji12), 0)) else (none)) else (none)) = some (r1, r2) := by first | (rw [hji12] at H; exact H) | (simp only [hji12] at H ⊢; exact H)
      (try rw [hji12] at A11)
      have hji12_ : (if (wrap64 ((t516.length : Int) - 1)) < a3 then (wrap64 ((t516.length : Int) - 1)) else a3) = ji12 := hji12
      by_cases c13 : 0 ≤ (ji12)
      ·rw [if_pos c13] at H
       have c13b0 : decide (0 ≤ (ji12)) = true := decide_eq_true c13
       clear c13
       by_cases c14 : (ji12) < (t516.length : Int)
       ·rw [if_pos c14] at H
        have c14b0 : decide ((ji12) < (t516.length : Int)) = true := decide_eq_true c14
        clear c14
        simp only [Option.some.injEq, Prod.mk.injEq] at H
        obtain ⟨rfl, rfl⟩ := H
        go_wp2_with (first | ((with_reducible refine gate_callee (f := 61) rfl ?_); refine goesL_ (some 29) rfl rfl Try.func61 (by kernel_rfl) rfl #[.int .i64 a0, .slice A1 l1.length c1, .int .i64 a2] rfl aq ?_; (with_reducible refine (intervalmonref29_Persons.calls kj6 a0 _ _ l1 a2 t516 _ ?side1 ?side2 A11.out).mono ?_); (case side1 => repeat (first | exact (Kd.C_below HR1.out HB.out) | (with_reducible refine Kd.C_alloc ?_ _) | (with_reducible refine Kd.C_drewN ?_ _) | (with_reducible refine Kd.C_drew ?_))); (case side2 => exact HC1.out); rintro e w15 ⟨v517, rfl, ho0, hb⟩; refine ⟨_, rfl, ?_⟩; have n0_ := Aside0.mk (Kd.R_lower ho0 (below_size (hq HB))); have n1_ := Aside0.mk (below_step (hq HB) hb); clear HB; have HO518 := n0_; have HB := n1_; clear n0_ n1_; (try clear hb); (try clear hb2); (try clear hk); (try clear hi); (try clear ho0); obtain ⟨Ao16, co16, eo16⟩ := Kd.R_slice HO518.out; subst eo16; have p519 : 0 ≤ ((ji12) : Int) := of_decide_eq_true (by first | (with_reducible assumption) | assumption); have q519 : (ji12) < (t516.length : Int) := of_decide_eq_true (by first | (with_reducible assumption) | assumption); obtain ⟨ad519, e519, hx519_0⟩ := Kd.at_string (Kd.R_reads' HO518.out).2.2 (ji12) p519 q519; cases e519; replace p519 := eq_true p519; replace q519 := eq_true q519))
        go_ret2
        exact ⟨by first | rfl | (simp [errW_none, errW_some] <;> rfl) | (simp only [← hji12]; first | rfl | (simp [errW_none, errW_some] <;> rfl)) | (simp [*, errW_none, errW_some] <;> rfl), by repeat (first | (with_reducible first | exact HB.out | apply below_alloc | apply pw_below_drewN | apply below_drew1) | exact HB.out)⟩
       ·rw [if_neg c14] at H
        exact absurd H (by simp)
      ·rw [if_neg c13] at H
       exact absurd H (by simp)
 ·rw [if_neg c6] at H
  have c6b0 : (t515 == 0) = false := beq_eq_false_iff_ne.mpr c6
  have c6b1 : (t515 != 0) = true := bne_iff_ne.mpr c6
  simp only [Option.some.injEq, Prod.mk.injEq] at H
  obtain ⟨rfl, rfl⟩ := H
  go_enter Try.func45, Try.ntmps45
  go_wp2_with (first | ((with_reducible refine gate_callee (f := 28) rfl ?_); refine goesL_ (some 14) rfl rfl Try.func28 (by kernel_rfl) rfl #[.int .i64 a0, .slice A1 l1.length c1] rfl aq ?_; (with_reducible refine (intervalmonref29_ValidRota.calls k a0 _ _ l1 t515 _ ?side1 ?side2 A5.out).mono ?_); (case side1 => repeat (first | exact HR1.out | (with_reducible refine Kd.C_alloc ?_ _) | (with_reducible refine Kd.C_drewN ?_ _) | (with_reducible refine Kd.C_drew ?_))); (case side2 => exact HC1.out); rintro e w' ⟨rfl, ⟨nd, rfl⟩⟩; refine ⟨_, rfl, ?_⟩))
  go_ret2
  exact ⟨by first | rfl | (simp [errW_none, errW_some] <;> rfl) | (simp [*, errW_none, errW_some] <;> rfl), by repeat (first | (with_reducible first | exact HB.out | apply below_alloc | apply pw_below_drewN | apply below_drew1) | exact HB.out)⟩

/-! ### intervalmonlaw29_duty: function 29 -/
def intervalmonlaw29_duty.f (k : Nat) (a0 : Int) (l1 : List (S50)) (a2 : Int) (a3 : Int) : Option (Bool) := (intervalmonlaw29_shifts.f k l1).bind fun t520 => ((route_OnDuty.f k a0 t520 a2 a3).bind fun bt523 => ((intervalmonref29_OnDuty.f k a0 l1 a2 a3).bind fun bt525 => (if bt523.1.toList = bt525.1.toList then (some (bt523.2 == bt525.2)) else (some false))))
theorem intervalmonlaw29_duty.mono : ∀ a0 a1 a2 a3 k, LeO (intervalmonlaw29_duty.f k a0 a1 a2 a3) (intervalmonlaw29_duty.f (k + 1) a0 a1 a2 a3) := by
 intro a0 a1 a2 a3 k
 unfold intervalmonlaw29_duty.f
 repeat' first
   | (with_reducible exact intervalmonlaw29_shifts.mono _ _)
   | (with_reducible exact intervalmonref29_OnDuty.mono _ _ _ _ _)
   | (with_reducible exact route_OnDuty.mono _ _ _ _ _)
   | (with_reducible exact LeO.refl _)
   | (with_reducible exact LeO.none _)
   | (with_reducible refine LeO.ite ?_ ?_)
   | (with_reducible refine LeO.bind ?_ (fun _ => ?_))
   | exact intervalmonlaw29_shifts.mono _ _
   | exact intervalmonref29_OnDuty.mono _ _ _ _ _
   | exact route_OnDuty.mono _ _ _ _ _
   | exact LeO.none _
   | refine LeO.ite ?_ ?_
   | refine LeO.bind ?_ (fun _ => ?_)
set_option maxHeartbeats 8000000 in
set_option maxRecDepth 100000 in
theorem intervalmonlaw29_duty.calls (k : Nat) (a0 : Int) (A1 : Option Addr) (c1 : Nat) (l1 : List (S50)) (a2 : Int) (a3 : Int) (r : Bool) (w : World) (hr1 : Kd.C k50 w A1 l1.length l1) (hc1 : l1.length ≤ c1) (h : intervalmonlaw29_duty.f k a0 l1 a2 a3 = some r) :
  Calls Try.prog 29 #[.int .i64 a0, .slice A1 l1.length c1, .int .i64 a2, .int .i64 a3] w fun e w' => e = .returned (.bool r) ∧ Below w.heap.size w w' := by
 have HR1 := Aside0.mk hr1
 have HC1 := Aside0.mk hc1
 clear hr1 hc1
 have HB := Aside0.mk (Below.refl w.heap.size w)
 have H : ((intervalmonlaw29_shifts.f k l1).bind fun t520 => ((route_OnDuty.f k a0 t520 a2 a3).bind fun bt523 => ((intervalmonref29_OnDuty.f k a0 l1 a2 a3).bind fun bt525 => (if bt523.1.toList = bt525.1.toList then (some (bt523.2 == bt525.2)) else (some false))))) = some r := h
 clear h
 replace H := Option.bind_eq_some_iff.mp H
 obtain ⟨t520, A50, H⟩ := H
 replace H : ((route_OnDuty.f k a0 t520 a2 a3).bind fun bt523 => ((intervalmonref29_OnDuty.f k a0 l1 a2 a3).bind fun bt525 => (if bt523.1.toList = bt525.1.toList then (some (bt523.2 == bt525.2)) else (some false)))) = some r := H
 have A5 := Aside0.mk A50
 clear A50
 replace H := Option.bind_eq_some_iff.mp H
 obtain ⟨⟨t523, t524⟩, A60, H⟩ := H
 replace H : ((intervalmonref29_OnDuty.f k a0 l1 a2 a3).bind fun bt525 => (if t523.toList = bt525.1.toList then (some (t524 == bt525.2)) else (some false))) = some r := H
 have A6 := Aside0.mk A60
 clear A60
 replace H := Option.bind_eq_some_iff.mp H
 obtain ⟨⟨t525, t526⟩, A70, H⟩ := H
 replace H : (if t523.toList = t525.toList then (some (t524 == t526)) else (some false)) = some r := H
 have A7 := Aside0.mk A70
 clear A70
 by_cases c8 : t523.toList = t525.toList
 ·rw [if_pos c8] at H
  have c8b0 : (t523.toList == t525.toList) = true := beq_iff_eq.mpr c8
  have c8b1 : (t523.toList != t525.toList) = false := bne_eq_false_iff_eq.mpr c8
  clear c8
  obtain rfl := Option.some.inj H
  go_enter Try.func29, Try.ntmps29
  go_wp2_with (first | ((with_reducible refine gate_callee (f := 27) rfl ?_); refine goesL_ (some 16) rfl rfl Try.func27 (by kernel_rfl) rfl #[.slice A1 l1.length c1] rfl aq ?_; (with_reducible refine (intervalmonlaw29_shifts.calls k _ _ l1 t520 _ ?side1 ?side2 A5.out).mono ?_); (case side1 => repeat (first | exact HR1.out | (with_reducible refine Kd.C_alloc ?_ _) | (with_reducible refine Kd.C_drewN ?_ _) | (with_reducible refine Kd.C_drew ?_))); (case side2 => exact HC1.out); rintro e w9 ⟨v521, rfl, ho0, hb⟩; refine ⟨_, rfl, ?_⟩; have n0_ := Aside0.mk (Kd.R_lower ho0 (below_size (hq HB))); have n1_ := Aside0.mk (below_step (hq HB) hb); clear HB; have HO522 := n0_; have HB := n1_; clear n0_ n1_; (try clear hb); (try clear hb2); (try clear hk); (try clear hi); (try clear ho0); obtain ⟨Ao10, co10, eo10⟩ := Kd.R_slice HO522.out; subst eo10) | ((with_reducible refine gate_callee (f := 30) rfl ?_); refine goesL_ (some 19) rfl rfl Try.func30 (by kernel_rfl) rfl #[.int .i64 a0, .slice Ao10 t520.length co10, .int .i64 a2, .int .i64 a3] rfl aq ?_; (with_reducible refine (route_OnDuty.calls k a0 _ _ t520 a2 a3 t523 t524 _ ?side1 ?side2 A6.out).mono ?_); (case side1 => repeat (first | exact (Kd.R_reads' HO522.out).2.2 | (with_reducible refine Kd.C_alloc ?_ _) | (with_reducible refine Kd.C_drewN ?_ _) | (with_reducible refine Kd.C_drew ?_))); (case side2 => exact (Kd.R_reads' HO522.out).2.1); rintro e w11 ⟨rfl, hb⟩; refine ⟨_, rfl, ?_⟩; have n0_ := Aside0.mk (Kd.R_below (rq HO522) hb); have n1_ := Aside0.mk (below_step (hq HB) hb); clear HO522; clear HB; have HO522 := n0_; have HB := n1_; clear n0_ n1_; (try clear hb); (try clear hb2); (try clear hk); (try clear hi)) | ((with_reducible refine gate_callee (f := 45) rfl ?_); refine goesL_ (some 27) rfl rfl Try.func45 (by kernel_rfl) rfl #[.int .i64 a0, .slice A1 l1.length c1, .int .i64 a2, .int .i64 a3] rfl aq ?_; (with_reducible refine (intervalmonref29_OnDuty.calls k a0 _ _ l1 a2 a3 t525 t526 _ ?side1 ?side2 A7.out).mono ?_); (case side1 => repeat (first | exact (Kd.C_below HR1.out HB.out) | (with_reducible refine Kd.C_alloc ?_ _) | (with_reducible refine Kd.C_drewN ?_ _) | (with_reducible refine Kd.C_drew ?_))); (case side2 => exact HC1.out); rintro e w12 ⟨rfl, hb⟩; refine ⟨_, rfl, ?_⟩; have n0_ := Aside0.mk (Kd.R_below (rq HO522) hb); have n1_ := Aside0.mk (below_step (hq HB) hb); clear HO522; clear HB; have HO522 := n0_; have HB := n1_; clear n0_ n1_; (try clear hb); (try clear hb2); (try clear hk); (try clear hi)))
  go_ret
  exact ⟨by first | rfl | (simp [errW_none, errW_some] <;> rfl) | (simp [*, errW_none, errW_some] <;> rfl), by repeat (first | (with_reducible first | exact HB.out | apply below_alloc | apply pw_below_drewN | apply below_drew1) | exact HB.out)⟩
 ·rw [if_neg c8] at H
  have c8b0 : (t523.toList == t525.toList) = false := beq_eq_false_iff_ne.mpr c8
  have c8b1 : (t523.toList != t525.toList) = true := bne_iff_ne.mpr c8
  obtain rfl := Option.some.inj H
  go_enter Try.func29, Try.ntmps29
  go_wp2_with (first | ((with_reducible refine gate_callee (f := 27) rfl ?_); refine goesL_ (some 16) rfl rfl Try.func27 (by kernel_rfl) rfl #[.slice A1 l1.length c1] rfl aq ?_; (with_reducible refine (intervalmonlaw29_shifts.calls k _ _ l1 t520 _ ?side1 ?side2 A5.out).mono ?_); (case side1 => repeat (first | exact HR1.out | (with_reducible refine Kd.C_alloc ?_ _) | (with_reducible refine Kd.C_drewN ?_ _) | (with_reducible refine Kd.C_drew ?_))); (case side2 => exact HC1.out); rintro e w13 ⟨v521, rfl, ho0, hb⟩; refine ⟨_, rfl, ?_⟩; have n0_ := Aside0.mk (Kd.R_lower ho0 (below_size (hq HB))); have n1_ := Aside0.mk (below_step (hq HB) hb); clear HB; have HO522 := n0_; have HB := n1_; clear n0_ n1_; (try clear hb); (try clear hb2); (try clear hk); (try clear hi); (try clear ho0); obtain ⟨Ao14, co14, eo14⟩ := Kd.R_slice HO522.out; subst eo14) | ((with_reducible refine gate_callee (f := 30) rfl ?_); refine goesL_ (some 19) rfl rfl Try.func30 (by kernel_rfl) rfl #[.int .i64 a0, .slice Ao14 t520.length co14, .int .i64 a2, .int .i64 a3] rfl aq ?_; (with_reducible refine (route_OnDuty.calls k a0 _ _ t520 a2 a3 t523 t524 _ ?side1 ?side2 A6.out).mono ?_); (case side1 => repeat (first | exact (Kd.R_reads' HO522.out).2.2 | (with_reducible refine Kd.C_alloc ?_ _) | (with_reducible refine Kd.C_drewN ?_ _) | (with_reducible refine Kd.C_drew ?_))); (case side2 => exact (Kd.R_reads' HO522.out).2.1); rintro e w15 ⟨rfl, hb⟩; refine ⟨_, rfl, ?_⟩; have n0_ := Aside0.mk (Kd.R_below (rq HO522) hb); have n1_ := Aside0.mk (below_step (hq HB) hb); clear HO522; clear HB; have HO522 := n0_; have HB := n1_; clear n0_ n1_; (try clear hb); (try clear hb2); (try clear hk); (try clear hi)) | ((with_reducible refine gate_callee (f := 45) rfl ?_); refine goesL_ (some 27) rfl rfl Try.func45 (by kernel_rfl) rfl #[.int .i64 a0, .slice A1 l1.length c1, .int .i64 a2, .int .i64 a3] rfl aq ?_; (with_reducible refine (intervalmonref29_OnDuty.calls k a0 _ _ l1 a2 a3 t525 t526 _ ?side1 ?side2 A7.out).mono ?_); (case side1 => repeat (first | exact (Kd.C_below HR1.out HB.out) | (with_reducible refine Kd.C_alloc ?_ _) | (with_reducible refine Kd.C_drewN ?_ _) | (with_reducible refine Kd.C_drew ?_))); (case side2 => exact HC1.out); rintro e w16 ⟨rfl, hb⟩; refine ⟨_, rfl, ?_⟩; have n0_ := Aside0.mk (Kd.R_below (rq HO522) hb); have n1_ := Aside0.mk (below_step (hq HB) hb); clear HO522; clear HB; have HO522 := n0_; have HB := n1_; clear n0_ n1_; (try clear hb); (try clear hb2); (try clear hk); (try clear hi)))
  go_ret
  exact ⟨by first | rfl | (simp [errW_none, errW_some] <;> rfl) | (simp [*, errW_none, errW_some] <;> rfl), by repeat (first | (with_reducible first | exact HB.out | apply below_alloc | apply pw_below_drewN | apply below_drew1) | exact HB.out)⟩

/-! ### intervalmonlaw29_RouteDuty: function 8 -/
def intervalmonlaw29_RouteDuty.f (k : Nat) (l0 : List Int) (a1 : Int) (a2 : Int) : Option (Bool) := (intervalmonref29_Rota.f k l0 true).bind fun bt527 => ((intervalmonref29_Rota.f k l0 false).bind fun bt531 => ((intervalmonref01_Around.f a1 40).bind fun t535 => ((intervalmonref01_Around.f a2 5).bind fun t536 => ((intervalmonlaw29_duty.f k bt527.1 bt527.2 a1 a2).bind fun t537 => (if t537 = true then ((intervalmonlaw29_duty.f k bt527.1 bt527.2 t535 (wrap64 (t536 - 1))).bind fun t538 => (if t538 = true then ((intervalmonlaw29_duty.f k bt531.1 bt531.2 t535 (wrap64 (t536 - 1))).bind fun t539 => (if t539 = true then ((intervalmonlaw29_duty.f k bt531.1 bt531.2 a1 (wrap64 (t536 - 1))).bind fun t540 => (if t540 = true then ((intervalmonlaw29_lives.f k).bind fun t541 => (some t541)) else (some false))) else (some false))) else (some false))) else (some false))))))
theorem intervalmonlaw29_RouteDuty.mono : ∀ a0 a1 a2 k, LeO (intervalmonlaw29_RouteDuty.f k a0 a1 a2) (intervalmonlaw29_RouteDuty.f (k + 1) a0 a1 a2) := by
 intro a0 a1 a2 k
 unfold intervalmonlaw29_RouteDuty.f
 repeat' first
   | (with_reducible exact intervalmonlaw29_duty.mono _ _ _ _ _)
   | (with_reducible exact intervalmonlaw29_lives.mono _)
   | (with_reducible exact intervalmonref29_Rota.mono _ _ _)
   | (with_reducible exact LeO.refl _)
   | (with_reducible exact LeO.none _)
   | (with_reducible refine LeO.ite ?_ ?_)
   | (with_reducible refine LeO.bind ?_ (fun _ => ?_))
   | exact intervalmonlaw29_duty.mono _ _ _ _ _
   | exact intervalmonlaw29_lives.mono _
   | exact intervalmonref29_Rota.mono _ _ _
   | exact LeO.none _
   | refine LeO.ite ?_ ?_
   | refine LeO.bind ?_ (fun _ => ?_)
set_option maxHeartbeats 8000000 in
set_option maxRecDepth 100000 in
theorem intervalmonlaw29_RouteDuty.calls (k : Nat) (A0 : Option Addr) (c0 : Nat) (l0 : List Int) (a1 : Int) (a2 : Int) (r : Bool) (w : World) (hr0 : Kd.C (Kd.int .i64) w A0 l0.length l0) (hc0 : l0.length ≤ c0) (h : intervalmonlaw29_RouteDuty.f k l0 a1 a2 = some r) :
  Calls Try.prog 8 #[.slice A0 l0.length c0, .int .i64 a1, .int .i64 a2] w fun e w' => e = .returned (.bool r) ∧ Below w.heap.size w w' := by
 have HR0 := Aside0.mk hr0
 have HC0 := Aside0.mk hc0
 clear hr0 hc0
 have HB := Aside0.mk (Below.refl w.heap.size w)
 have H : ((intervalmonref29_Rota.f k l0 true).bind fun bt527 => ((intervalmonref29_Rota.f k l0 false).bind fun bt531 => ((intervalmonref01_Around.f a1 40).bind fun t535 => ((intervalmonref01_Around.f a2 5).bind fun t536 => ((intervalmonlaw29_duty.f k bt527.1 bt527.2 a1 a2).bind fun t537 => (if t537 = true then ((intervalmonlaw29_duty.f k bt527.1 bt527.2 t535 (wrap64 (t536 - 1))).bind fun t538 => (if t538 = true then ((intervalmonlaw29_duty.f k bt531.1 bt531.2 t535 (wrap64 (t536 - 1))).bind fun t539 => (if t539 = true then ((intervalmonlaw29_duty.f k bt531.1 bt531.2 a1 (wrap64 (t536 - 1))).bind fun t540 => (if t540 = true then ((intervalmonlaw29_lives.f k).bind fun t541 => (some t541)) else (some false))) else (some false))) else (some false))) else (some false))))))) = some r := h
 clear h
 replace H := Option.bind_eq_some_iff.mp H
 obtain ⟨⟨t527, t528⟩, A40, H⟩ := H
 replace H : ((intervalmonref29_Rota.f k l0 false).bind fun bt531 => ((intervalmonref01_Around.f a1 40).bind fun t535 => ((intervalmonref01_Around.f a2 5).bind fun t536 => ((intervalmonlaw29_duty.f k t527 t528 a1 a2).bind fun t537 => (if t537 = true then ((intervalmonlaw29_duty.f k t527 t528 t535 (wrap64 (t536 - 1))).bind fun t538 => (if t538 = true then ((intervalmonlaw29_duty.f k bt531.1 bt531.2 t535 (wrap64 (t536 - 1))).bind fun t539 => (if t539 = true then ((intervalmonlaw29_duty.f k bt531.1 bt531.2 a1 (wrap64 (t536 - 1))).bind fun t540 => (if t540 = true then ((intervalmonlaw29_lives.f k).bind fun t541 => (some t541)) else (some false))) else (some false))) else (some false))) else (some false)))))) = some r := H
 have A4 := Aside0.mk A40
 clear A40
 replace H := Option.bind_eq_some_iff.mp H
 obtain ⟨⟨t531, t532⟩, A50, H⟩ := H
 replace H : ((intervalmonref01_Around.f a1 40).bind fun t535 => ((intervalmonref01_Around.f a2 5).bind fun t536 => ((intervalmonlaw29_duty.f k t527 t528 a1 a2).bind fun t537 => (if t537 = true then ((intervalmonlaw29_duty.f k t527 t528 t535 (wrap64 (t536 - 1))).bind fun t538 => (if t538 = true then ((intervalmonlaw29_duty.f k t531 t532 t535 (wrap64 (t536 - 1))).bind fun t539 => (if t539 = true then ((intervalmonlaw29_duty.f k t531 t532 a1 (wrap64 (t536 - 1))).bind fun t540 => (if t540 = true then ((intervalmonlaw29_lives.f k).bind fun t541 => (some t541)) else (some false))) else (some false))) else (some false))) else (some false))))) = some r := H
 have A5 := Aside0.mk A50
 clear A50
 replace H := Option.bind_eq_some_iff.mp H
 obtain ⟨t535, A60, H⟩ := H
 replace H : ((intervalmonref01_Around.f a2 5).bind fun t536 => ((intervalmonlaw29_duty.f k t527 t528 a1 a2).bind fun t537 => (if t537 = true then ((intervalmonlaw29_duty.f k t527 t528 t535 (wrap64 (t536 - 1))).bind fun t538 => (if t538 = true then ((intervalmonlaw29_duty.f k t531 t532 t535 (wrap64 (t536 - 1))).bind fun t539 => (if t539 = true then ((intervalmonlaw29_duty.f k t531 t532 a1 (wrap64 (t536 - 1))).bind fun t540 => (if t540 = true then ((intervalmonlaw29_lives.f k).bind fun t541 => (some t541)) else (some false))) else (some false))) else (some false))) else (some false)))) = some r := H
 have A6 := Aside0.mk A60
 clear A60
 replace H := Option.bind_eq_some_iff.mp H
 obtain ⟨t536, A70, H⟩ := H
 replace H : ((intervalmonlaw29_duty.f k t527 t528 a1 a2).bind fun t537 => (if t537 = true then ((intervalmonlaw29_duty.f k t527 t528 t535 (wrap64 (t536 - 1))).bind fun t538 => (if t538 = true then ((intervalmonlaw29_duty.f k t531 t532 t535 (wrap64 (t536 - 1))).bind fun t539 => (if t539 = true then ((intervalmonlaw29_duty.f k t531 t532 a1 (wrap64 (t536 - 1))).bind fun t540 => (if t540 = true then ((intervalmonlaw29_lives.f k).bind fun t541 => (some t541)) else (some false))) else (some false))) else (some false))) else (some false))) = some r := H
 have A7 := Aside0.mk A70
 clear A70
 replace H := Option.bind_eq_some_iff.mp H
 obtain ⟨t537, A80, H⟩ := H
 replace H : (if t537 = true then ((intervalmonlaw29_duty.f k t527 t528 t535 (wrap64 (t536 - 1))).bind fun t538 => (if t538 = true then ((intervalmonlaw29_duty.f k t531 t532 t535 (wrap64 (t536 - 1))).bind fun t539 => (if t539 = true then ((intervalmonlaw29_duty.f k t531 t532 a1 (wrap64 (t536 - 1))).bind fun t540 => (if t540 = true then ((intervalmonlaw29_lives.f k).bind fun t541 => (some t541)) else (some false))) else (some false))) else (some false))) else (some false)) = some r := H
 have A8 := Aside0.mk A80
 clear A80
 by_cases c9 : t537 = true
 ·subst c9
  have H1 : ((intervalmonlaw29_duty.f k t527 t528 t535 (wrap64 (t536 - 1))).bind fun t538 => (if t538 = true then ((intervalmonlaw29_duty.f k t531 t532 t535 (wrap64 (t536 - 1))).bind fun t539 => (if t539 = true then ((intervalmonlaw29_duty.f k t531 t532 a1 (wrap64 (t536 - 1))).bind fun t540 => (if t540 = true then ((intervalmonlaw29_lives.f k).bind fun t541 => (some t541)) else (some false))) else (some false))) else (some false))) = some r := by rw [if_pos rfl] at H; exact H
  clear H
  have H := H1
  clear H1
  replace H := Option.bind_eq_some_iff.mp H
  obtain ⟨t538, A100, H⟩ := H
  replace H : (if t538 = true then ((intervalmonlaw29_duty.f k t531 t532 t535 (wrap64 (t536 - 1))).bind fun t539 => (if t539 = true then ((intervalmonlaw29_duty.f k t531 t532 a1 (wrap64 (t536 - 1))).bind fun t540 => (if t540 = true then ((intervalmonlaw29_lives.f k).bind fun t541 => (some t541)) else (some false))) else (some false))) else (some false)) = some r := H
  have A10 := Aside0.mk A100
  clear A100
  by_cases c11 : t538 = true
  ·subst c11
   have H1 : ((intervalmonlaw29_duty.f k t531 t532 t535 (wrap64 (t536 - 1))).bind fun t539 => (if t539 = true then ((intervalmonlaw29_duty.f k t531 t532 a1 (wrap64 (t536 - 1))).bind fun t540 => (if t540 = true then ((intervalmonlaw29_lives.f k).bind fun t541 => (some t541)) else (some false))) else (some false))) = some r := by rw [if_pos rfl] at H; exact H
   clear H
   have H := H1
   clear H1
   replace H := Option.bind_eq_some_iff.mp H
   obtain ⟨t539, A120, H⟩ := H
   replace H : (if t539 = true then ((intervalmonlaw29_duty.f k t531 t532 a1 (wrap64 (t536 - 1))).bind fun t540 => (if t540 = true then ((intervalmonlaw29_lives.f k).bind fun t541 => (some t541)) else (some false))) else (some false)) = some r := H
   have A12 := Aside0.mk A120
   clear A120
   by_cases c13 : t539 = true
   ·subst c13
    have H1 : ((intervalmonlaw29_duty.f k t531 t532 a1 (wrap64 (t536 - 1))).bind fun t540 => (if t540 = true then ((intervalmonlaw29_lives.f k).bind fun t541 => (some t541)) else (some false))) = some r := by rw [if_pos rfl] at H; exact H
    clear H
    have H := H1
    clear H1
    replace H := Option.bind_eq_some_iff.mp H
    obtain ⟨t540, A140, H⟩ := H
    replace H : (if t540 = true then ((intervalmonlaw29_lives.f k).bind fun t541 => (some t541)) else (some false)) = some r := H
    have A14 := Aside0.mk A140
    clear A140
    by_cases c15 : t540 = true
    ·subst c15
     have H1 : ((intervalmonlaw29_lives.f k).bind fun t541 => (some t541)) = some r := by rw [if_pos rfl] at H; exact H
     clear H
     have H := H1
     clear H1
     replace H := Option.bind_eq_some_iff.mp H
     obtain ⟨t541, A160, H⟩ := H
     replace H : (some t541) = some r := H
     have A16 := Aside0.mk A160
     clear A160
     obtain rfl := Option.some.inj H
     go_enter Try.func8, Try.ntmps8
     go_wp2_with (first | ((with_reducible refine gate_callee (f := 24) rfl ?_); refine goesL_ (some 15) rfl rfl Try.func24 (by kernel_rfl) rfl #[.slice A0 l0.length c0, .bool true] rfl aq ?_; (with_reducible refine (intervalmonref29_Rota.calls k _ _ l0 true t527 t528 _ ?side1 ?side2 A4.out).mono ?_); (case side1 => repeat (first | exact HR0.out | (with_reducible refine Kd.C_alloc ?_ _) | (with_reducible refine Kd.C_drewN ?_ _) | (with_reducible refine Kd.C_drew ?_))); (case side2 => exact HC0.out); rintro e w17 ⟨v529, rfl, ho0, hb⟩; refine ⟨_, rfl, ?_⟩; have n0_ := Aside0.mk (Kd.R_lower ho0 (below_size (hq HB))); have n1_ := Aside0.mk (below_step (hq HB) hb); clear HB; have HO530 := n0_; have HB := n1_; clear n0_ n1_; (try clear hb); (try clear hb2); (try clear hk); (try clear hi); (try clear ho0)) | ((with_reducible refine gate_callee (f := 24) rfl ?_); refine goesL_ (some 20) rfl rfl Try.func24 (by kernel_rfl) rfl #[.slice A0 l0.length c0, .bool false] rfl aq ?_; (with_reducible refine (intervalmonref29_Rota.calls k _ _ l0 false t531 t532 _ ?side1 ?side2 A5.out).mono ?_); (case side1 => repeat (first | exact (Kd.C_below HR0.out HB.out) | (with_reducible refine Kd.C_alloc ?_ _) | (with_reducible refine Kd.C_drewN ?_ _) | (with_reducible refine Kd.C_drew ?_))); (case side2 => exact HC0.out); rintro e w18 ⟨v533, rfl, ho0, hb⟩; refine ⟨_, rfl, ?_⟩; have n0_ := Aside0.mk (Kd.R_elder' (rq HO530) (Kd.R_base ho0) hb); have n1_ := Aside0.mk (Kd.R_lower (Kd.R_new' ho0 (Kd.R_lt (rq HO530))) (below_size (hq HB))); have n2_ := Aside0.mk (below_step (hq HB) hb); clear HO530; clear HB; have HO530 := n0_; have HO534 := n1_; have HB := n2_; clear n0_ n1_ n2_; (try clear hb); (try clear hb2); (try clear hk); (try clear hi); (try clear ho0)) | ((with_reducible refine gate_callee (f := 13) rfl ?_); refine goesL_ (some 24) rfl rfl Try.func13 (by kernel_rfl) rfl #[.int .i64 a1, .int .i64 40] rfl aq ?_; (with_reducible refine (intervalmonref01_Around.calls a1 40 t535 _ A6.out).mono ?_); rintro e w' ⟨rfl, ⟨nd, rfl⟩⟩; refine ⟨_, rfl, ?_⟩) | ((with_reducible refine gate_callee (f := 13) rfl ?_); refine goesL_ (some 26) rfl rfl Try.func13 (by kernel_rfl) rfl #[.int .i64 a2, .int .i64 5] rfl aq ?_; (with_reducible refine (intervalmonref01_Around.calls a2 5 t536 _ A7.out).mono ?_); rintro e w' ⟨rfl, ⟨nd, rfl⟩⟩; refine ⟨_, rfl, ?_⟩; obtain ⟨Ao19, co19, eo19⟩ := Kd.R_slice HO530.out; subst eo19) | ((with_reducible refine gate_callee (f := 29) rfl ?_); refine goesL_ (some 32) rfl rfl Try.func29 (by kernel_rfl) rfl #[.int .i64 t527, .slice Ao19 t528.length co19, .int .i64 a1, .int .i64 a2] rfl aq ?_; (with_reducible refine (intervalmonlaw29_duty.calls k t527 _ _ t528 a1 a2 true _ ?side1 ?side2 A8.out).mono ?_); (case side1 => repeat (first | exact (Kd.R_reads' HO530.out).2.2 | (with_reducible refine Kd.C_alloc ?_ _) | (with_reducible refine Kd.C_drewN ?_ _) | (with_reducible refine Kd.C_drew ?_))); (case side2 => exact (Kd.R_reads' HO530.out).2.1); rintro e w20 ⟨rfl, hb⟩; refine ⟨_, rfl, ?_⟩; have n0_ := Aside0.mk (Kd.R_below (rq HO530) hb); have n1_ := Aside0.mk (Kd.R_below (rq HO534) hb); have n2_ := Aside0.mk (below_step (hq HB) hb); clear HO530; clear HO534; clear HB; have HO530 := n0_; have HO534 := n1_; have HB := n2_; clear n0_ n1_ n2_; (try clear hb); (try clear hb2); (try clear hk); (try clear hi)) | (go_at_call 29; (with_reducible refine (intervalmonlaw29_duty.calls k t527 _ _ t528 t535 (wrap64 (t536 - 1)) true _ ?side1 ?side2 A10.out).mono ?_); (case side1 => repeat (first | exact (Kd.R_reads' HO530.out).2.2 | (with_reducible refine Kd.C_alloc ?_ _) | (with_reducible refine Kd.C_drewN ?_ _) | (with_reducible refine Kd.C_drew ?_))); (case side2 => exact (Kd.R_reads' HO530.out).2.1); rintro e w21 ⟨rfl, hb⟩; have n0_ := Aside0.mk (Kd.R_below (rq HO530) hb); have n1_ := Aside0.mk (Kd.R_below (rq HO534) hb); have n2_ := Aside0.mk (below_step (hq HB) hb); clear HO530; clear HO534; clear HB; have HO530 := n0_; have HO534 := n1_; have HB := n2_; clear n0_ n1_ n2_; (try clear hb); (try clear hb2); (try clear hk); (try clear hi); obtain ⟨Ao22, co22, eo22⟩ := Kd.R_slice HO534.out; subst eo22) | (go_at_call 29; (with_reducible refine (intervalmonlaw29_duty.calls k t531 _ _ t532 t535 (wrap64 (t536 - 1)) true _ ?side1 ?side2 A12.out).mono ?_); (case side1 => repeat (first | exact (Kd.R_reads' HO534.out).2.2 | (with_reducible refine Kd.C_alloc ?_ _) | (with_reducible refine Kd.C_drewN ?_ _) | (with_reducible refine Kd.C_drew ?_))); (case side2 => exact (Kd.R_reads' HO534.out).2.1); rintro e w23 ⟨rfl, hb⟩; have n0_ := Aside0.mk (Kd.R_below (rq HO530) hb); have n1_ := Aside0.mk (Kd.R_below (rq HO534) hb); have n2_ := Aside0.mk (below_step (hq HB) hb); clear HO530; clear HO534; clear HB; have HO530 := n0_; have HO534 := n1_; have HB := n2_; clear n0_ n1_ n2_; (try clear hb); (try clear hb2); (try clear hk); (try clear hi)) | (go_at_call 29; (with_reducible refine (intervalmonlaw29_duty.calls k t531 _ _ t532 a1 (wrap64 (t536 - 1)) true _ ?side1 ?side2 A14.out).mono ?_); (case side1 => repeat (first | exact (Kd.R_reads' HO534.out).2.2 | (with_reducible refine Kd.C_alloc ?_ _) | (with_reducible refine Kd.C_drewN ?_ _) | (with_reducible refine Kd.C_drew ?_))); (case side2 => exact (Kd.R_reads' HO534.out).2.1); rintro e w24 ⟨rfl, hb⟩; have n0_ := Aside0.mk (Kd.R_below (rq HO530) hb); have n1_ := Aside0.mk (Kd.R_below (rq HO534) hb); have n2_ := Aside0.mk (below_step (hq HB) hb); clear HO530; clear HO534; clear HB; have HO530 := n0_; have HO534 := n1_; have HB := n2_; clear n0_ n1_ n2_; (try clear hb); (try clear hb2); (try clear hk); (try clear hi)) | (go_at_call 17; (with_reducible refine (intervalmonlaw29_lives.calls k  t541 _ A16.out).mono ?_); rintro e w25 ⟨rfl, hb⟩; have n0_ := Aside0.mk (Kd.R_below (rq HO530) hb); have n1_ := Aside0.mk (Kd.R_below (rq HO534) hb); have n2_ := Aside0.mk (below_step (hq HB) hb); clear HO530; clear HO534; clear HB; have HO530 := n0_; have HO534 := n1_; have HB := n2_; clear n0_ n1_ n2_; (try clear hb); (try clear hb2); (try clear hk); (try clear hi)))
     go_ret
     exact ⟨by first | rfl | (simp [errW_none, errW_some] <;> rfl) | (simp [*, errW_none, errW_some] <;> rfl), by repeat (first | (with_reducible first | exact HB.out | apply below_alloc | apply pw_below_drewN | apply below_drew1) | exact HB.out)⟩
    ·replace c15 := Bool.eq_false_iff.mpr c15
     subst c15
     have H1 : (some false) = some r := by rw [if_neg (show ¬ (false = true) by decide)] at H; exact H
     clear H
     have H := H1
     clear H1
     obtain rfl := Option.some.inj H
     go_enter Try.func8, Try.ntmps8
     go_wp2_with (first | ((with_reducible refine gate_callee (f := 24) rfl ?_); refine goesL_ (some 15) rfl rfl Try.func24 (by kernel_rfl) rfl #[.slice A0 l0.length c0, .bool true] rfl aq ?_; (with_reducible refine (intervalmonref29_Rota.calls k _ _ l0 true t527 t528 _ ?side1 ?side2 A4.out).mono ?_); (case side1 => repeat (first | exact HR0.out | (with_reducible refine Kd.C_alloc ?_ _) | (with_reducible refine Kd.C_drewN ?_ _) | (with_reducible refine Kd.C_drew ?_))); (case side2 => exact HC0.out); rintro e w26 ⟨v529, rfl, ho0, hb⟩; refine ⟨_, rfl, ?_⟩; have n0_ := Aside0.mk (Kd.R_lower ho0 (below_size (hq HB))); have n1_ := Aside0.mk (below_step (hq HB) hb); clear HB; have HO530 := n0_; have HB := n1_; clear n0_ n1_; (try clear hb); (try clear hb2); (try clear hk); (try clear hi); (try clear ho0)) | ((with_reducible refine gate_callee (f := 24) rfl ?_); refine goesL_ (some 20) rfl rfl Try.func24 (by kernel_rfl) rfl #[.slice A0 l0.length c0, .bool false] rfl aq ?_; (with_reducible refine (intervalmonref29_Rota.calls k _ _ l0 false t531 t532 _ ?side1 ?side2 A5.out).mono ?_); (case side1 => repeat (first | exact (Kd.C_below HR0.out HB.out) | (with_reducible refine Kd.C_alloc ?_ _) | (with_reducible refine Kd.C_drewN ?_ _) | (with_reducible refine Kd.C_drew ?_))); (case side2 => exact HC0.out); rintro e w27 ⟨v533, rfl, ho0, hb⟩; refine ⟨_, rfl, ?_⟩; have n0_ := Aside0.mk (Kd.R_elder' (rq HO530) (Kd.R_base ho0) hb); have n1_ := Aside0.mk (Kd.R_lower (Kd.R_new' ho0 (Kd.R_lt (rq HO530))) (below_size (hq HB))); have n2_ := Aside0.mk (below_step (hq HB) hb); clear HO530; clear HB; have HO530 := n0_; have HO534 := n1_; have HB := n2_; clear n0_ n1_ n2_; (try clear hb); (try clear hb2); (try clear hk); (try clear hi); (try clear ho0)) | ((with_reducible refine gate_callee (f := 13) rfl ?_); refine goesL_ (some 24) rfl rfl Try.func13 (by kernel_rfl) rfl #[.int .i64 a1, .int .i64 40] rfl aq ?_; (with_reducible refine (intervalmonref01_Around.calls a1 40 t535 _ A6.out).mono ?_); rintro e w' ⟨rfl, ⟨nd, rfl⟩⟩; refine ⟨_, rfl, ?_⟩) | ((with_reducible refine gate_callee (f := 13) rfl ?_); refine goesL_ (some 26) rfl rfl Try.func13 (by kernel_rfl) rfl #[.int .i64 a2, .int .i64 5] rfl aq ?_; (with_reducible refine (intervalmonref01_Around.calls a2 5 t536 _ A7.out).mono ?_); rintro e w' ⟨rfl, ⟨nd, rfl⟩⟩; refine ⟨_, rfl, ?_⟩; obtain ⟨Ao28, co28, eo28⟩ := Kd.R_slice HO530.out; subst eo28) | ((with_reducible refine gate_callee (f := 29) rfl ?_); refine goesL_ (some 32) rfl rfl Try.func29 (by kernel_rfl) rfl #[.int .i64 t527, .slice Ao28 t528.length co28, .int .i64 a1, .int .i64 a2] rfl aq ?_; (with_reducible refine (intervalmonlaw29_duty.calls k t527 _ _ t528 a1 a2 true _ ?side1 ?side2 A8.out).mono ?_); (case side1 => repeat (first | exact (Kd.R_reads' HO530.out).2.2 | (with_reducible refine Kd.C_alloc ?_ _) | (with_reducible refine Kd.C_drewN ?_ _) | (with_reducible refine Kd.C_drew ?_))); (case side2 => exact (Kd.R_reads' HO530.out).2.1); rintro e w29 ⟨rfl, hb⟩; refine ⟨_, rfl, ?_⟩; have n0_ := Aside0.mk (Kd.R_below (rq HO530) hb); have n1_ := Aside0.mk (Kd.R_below (rq HO534) hb); have n2_ := Aside0.mk (below_step (hq HB) hb); clear HO530; clear HO534; clear HB; have HO530 := n0_; have HO534 := n1_; have HB := n2_; clear n0_ n1_ n2_; (try clear hb); (try clear hb2); (try clear hk); (try clear hi)) | (go_at_call 29; (with_reducible refine (intervalmonlaw29_duty.calls k t527 _ _ t528 t535 (wrap64 (t536 - 1)) true _ ?side1 ?side2 A10.out).mono ?_); (case side1 => repeat (first | exact (Kd.R_reads' HO530.out).2.2 | (with_reducible refine Kd.C_alloc ?_ _) | (with_reducible refine Kd.C_drewN ?_ _) | (with_reducible refine Kd.C_drew ?_))); (case side2 => exact (Kd.R_reads' HO530.out).2.1); rintro e w30 ⟨rfl, hb⟩; have n0_ := Aside0.mk (Kd.R_below (rq HO530) hb); have n1_ := Aside0.mk (Kd.R_below (rq HO534) hb); have n2_ := Aside0.mk (below_step (hq HB) hb); clear HO530; clear HO534; clear HB; have HO530 := n0_; have HO534 := n1_; have HB := n2_; clear n0_ n1_ n2_; (try clear hb); (try clear hb2); (try clear hk); (try clear hi); obtain ⟨Ao31, co31, eo31⟩ := Kd.R_slice HO534.out; subst eo31) | (go_at_call 29; (with_reducible refine (intervalmonlaw29_duty.calls k t531 _ _ t532 t535 (wrap64 (t536 - 1)) true _ ?side1 ?side2 A12.out).mono ?_); (case side1 => repeat (first | exact (Kd.R_reads' HO534.out).2.2 | (with_reducible refine Kd.C_alloc ?_ _) | (with_reducible refine Kd.C_drewN ?_ _) | (with_reducible refine Kd.C_drew ?_))); (case side2 => exact (Kd.R_reads' HO534.out).2.1); rintro e w32 ⟨rfl, hb⟩; have n0_ := Aside0.mk (Kd.R_below (rq HO530) hb); have n1_ := Aside0.mk (Kd.R_below (rq HO534) hb); have n2_ := Aside0.mk (below_step (hq HB) hb); clear HO530; clear HO534; clear HB; have HO530 := n0_; have HO534 := n1_; have HB := n2_; clear n0_ n1_ n2_; (try clear hb); (try clear hb2); (try clear hk); (try clear hi)) | (go_at_call 29; (with_reducible refine (intervalmonlaw29_duty.calls k t531 _ _ t532 a1 (wrap64 (t536 - 1)) false _ ?side1 ?side2 A14.out).mono ?_); (case side1 => repeat (first | exact (Kd.R_reads' HO534.out).2.2 | (with_reducible refine Kd.C_alloc ?_ _) | (with_reducible refine Kd.C_drewN ?_ _) | (with_reducible refine Kd.C_drew ?_))); (case side2 => exact (Kd.R_reads' HO534.out).2.1); rintro e w33 ⟨rfl, hb⟩; have n0_ := Aside0.mk (Kd.R_below (rq HO530) hb); have n1_ := Aside0.mk (Kd.R_below (rq HO534) hb); have n2_ := Aside0.mk (below_step (hq HB) hb); clear HO530; clear HO534; clear HB; have HO530 := n0_; have HO534 := n1_; have HB := n2_; clear n0_ n1_ n2_; (try clear hb); (try clear hb2); (try clear hk); (try clear hi)))
     go_ret
     exact ⟨by first | rfl | (simp [errW_none, errW_some] <;> rfl) | (simp [*, errW_none, errW_some] <;> rfl), by repeat (first | (with_reducible first | exact HB.out | apply below_alloc | apply pw_below_drewN | apply below_drew1) | exact HB.out)⟩
   ·replace c13 := Bool.eq_false_iff.mpr c13
    subst c13
    have H1 : (some false) = some r := by rw [if_neg (show ¬ (false = true) by decide)] at H; exact H
    clear H
    have H := H1
    clear H1
    obtain rfl := Option.some.inj H
    go_enter Try.func8, Try.ntmps8
    go_wp2_with (first | ((with_reducible refine gate_callee (f := 24) rfl ?_); refine goesL_ (some 15) rfl rfl Try.func24 (by kernel_rfl) rfl #[.slice A0 l0.length c0, .bool true] rfl aq ?_; (with_reducible refine (intervalmonref29_Rota.calls k _ _ l0 true t527 t528 _ ?side1 ?side2 A4.out).mono ?_); (case side1 => repeat (first | exact HR0.out | (with_reducible refine Kd.C_alloc ?_ _) | (with_reducible refine Kd.C_drewN ?_ _) | (with_reducible refine Kd.C_drew ?_))); (case side2 => exact HC0.out); rintro e w34 ⟨v529, rfl, ho0, hb⟩; refine ⟨_, rfl, ?_⟩; have n0_ := Aside0.mk (Kd.R_lower ho0 (below_size (hq HB))); have n1_ := Aside0.mk (below_step (hq HB) hb); clear HB; have HO530 := n0_; have HB := n1_; clear n0_ n1_; (try clear hb); (try clear hb2); (try clear hk); (try clear hi); (try clear ho0)) | ((with_reducible refine gate_callee (f := 24) rfl ?_); refine goesL_ (some 20) rfl rfl Try.func24 (by kernel_rfl) rfl #[.slice A0 l0.length c0, .bool false] rfl aq ?_; (with_reducible refine (intervalmonref29_Rota.calls k _ _ l0 false t531 t532 _ ?side1 ?side2 A5.out).mono ?_); (case side1 => repeat (first | exact (Kd.C_below HR0.out HB.out) | (with_reducible refine Kd.C_alloc ?_ _) | (with_reducible refine Kd.C_drewN ?_ _) | (with_reducible refine Kd.C_drew ?_))); (case side2 => exact HC0.out); rintro e w35 ⟨v533, rfl, ho0, hb⟩; refine ⟨_, rfl, ?_⟩; have n0_ := Aside0.mk (Kd.R_elder' (rq HO530) (Kd.R_base ho0) hb); have n1_ := Aside0.mk (Kd.R_lower (Kd.R_new' ho0 (Kd.R_lt (rq HO530))) (below_size (hq HB))); have n2_ := Aside0.mk (below_step (hq HB) hb); clear HO530; clear HB; have HO530 := n0_; have HO534 := n1_; have HB := n2_; clear n0_ n1_ n2_; (try clear hb); (try clear hb2); (try clear hk); (try clear hi); (try clear ho0)) | ((with_reducible refine gate_callee (f := 13) rfl ?_); refine goesL_ (some 24) rfl rfl Try.func13 (by kernel_rfl) rfl #[.int .i64 a1, .int .i64 40] rfl aq ?_; (with_reducible refine (intervalmonref01_Around.calls a1 40 t535 _ A6.out).mono ?_); rintro e w' ⟨rfl, ⟨nd, rfl⟩⟩; refine ⟨_, rfl, ?_⟩) | ((with_reducible refine gate_callee (f := 13) rfl ?_); refine goesL_ (some 26) rfl rfl Try.func13 (by kernel_rfl) rfl #[.int .i64 a2, .int .i64 5] rfl aq ?_; (with_reducible refine (intervalmonref01_Around.calls a2 5 t536 _ A7.out).mono ?_); rintro e w' ⟨rfl, ⟨nd, rfl⟩⟩; refine ⟨_, rfl, ?_⟩; obtain ⟨Ao36, co36, eo36⟩ := Kd.R_slice HO530.out; subst eo36) | ((with_reducible refine gate_callee (f := 29) rfl ?_); refine goesL_ (some 32) rfl rfl Try.func29 (by kernel_rfl) rfl #[.int .i64 t527, .slice Ao36 t528.length co36, .int .i64 a1, .int .i64 a2] rfl aq ?_; (with_reducible refine (intervalmonlaw29_duty.calls k t527 _ _ t528 a1 a2 true _ ?side1 ?side2 A8.out).mono ?_); (case side1 => repeat (first | exact (Kd.R_reads' HO530.out).2.2 | (with_reducible refine Kd.C_alloc ?_ _) | (with_reducible refine Kd.C_drewN ?_ _) | (with_reducible refine Kd.C_drew ?_))); (case side2 => exact (Kd.R_reads' HO530.out).2.1); rintro e w37 ⟨rfl, hb⟩; refine ⟨_, rfl, ?_⟩; have n0_ := Aside0.mk (Kd.R_below (rq HO530) hb); have n1_ := Aside0.mk (Kd.R_below (rq HO534) hb); have n2_ := Aside0.mk (below_step (hq HB) hb); clear HO530; clear HO534; clear HB; have HO530 := n0_; have HO534 := n1_; have HB := n2_; clear n0_ n1_ n2_; (try clear hb); (try clear hb2); (try clear hk); (try clear hi)) | (go_at_call 29; (with_reducible refine (intervalmonlaw29_duty.calls k t527 _ _ t528 t535 (wrap64 (t536 - 1)) true _ ?side1 ?side2 A10.out).mono ?_); (case side1 => repeat (first | exact (Kd.R_reads' HO530.out).2.2 | (with_reducible refine Kd.C_alloc ?_ _) | (with_reducible refine Kd.C_drewN ?_ _) | (with_reducible refine Kd.C_drew ?_))); (case side2 => exact (Kd.R_reads' HO530.out).2.1); rintro e w38 ⟨rfl, hb⟩; have n0_ := Aside0.mk (Kd.R_below (rq HO530) hb); have n1_ := Aside0.mk (Kd.R_below (rq HO534) hb); have n2_ := Aside0.mk (below_step (hq HB) hb); clear HO530; clear HO534; clear HB; have HO530 := n0_; have HO534 := n1_; have HB := n2_; clear n0_ n1_ n2_; (try clear hb); (try clear hb2); (try clear hk); (try clear hi); obtain ⟨Ao39, co39, eo39⟩ := Kd.R_slice HO534.out; subst eo39) | (go_at_call 29; (with_reducible refine (intervalmonlaw29_duty.calls k t531 _ _ t532 t535 (wrap64 (t536 - 1)) false _ ?side1 ?side2 A12.out).mono ?_); (case side1 => repeat (first | exact (Kd.R_reads' HO534.out).2.2 | (with_reducible refine Kd.C_alloc ?_ _) | (with_reducible refine Kd.C_drewN ?_ _) | (with_reducible refine Kd.C_drew ?_))); (case side2 => exact (Kd.R_reads' HO534.out).2.1); rintro e w40 ⟨rfl, hb⟩; have n0_ := Aside0.mk (Kd.R_below (rq HO530) hb); have n1_ := Aside0.mk (Kd.R_below (rq HO534) hb); have n2_ := Aside0.mk (below_step (hq HB) hb); clear HO530; clear HO534; clear HB; have HO530 := n0_; have HO534 := n1_; have HB := n2_; clear n0_ n1_ n2_; (try clear hb); (try clear hb2); (try clear hk); (try clear hi)))
    go_ret
    exact ⟨by first | rfl | (simp [errW_none, errW_some] <;> rfl) | (simp [*, errW_none, errW_some] <;> rfl), by repeat (first | (with_reducible first | exact HB.out | apply below_alloc | apply pw_below_drewN | apply below_drew1) | exact HB.out)⟩
  ·replace c11 := Bool.eq_false_iff.mpr c11
   subst c11
   have H1 : (some false) = some r := by rw [if_neg (show ¬ (false = true) by decide)] at H; exact H
   clear H
   have H := H1
   clear H1
   obtain rfl := Option.some.inj H
   go_enter Try.func8, Try.ntmps8
   go_wp2_with (first | ((with_reducible refine gate_callee (f := 24) rfl ?_); refine goesL_ (some 15) rfl rfl Try.func24 (by kernel_rfl) rfl #[.slice A0 l0.length c0, .bool true] rfl aq ?_; (with_reducible refine (intervalmonref29_Rota.calls k _ _ l0 true t527 t528 _ ?side1 ?side2 A4.out).mono ?_); (case side1 => repeat (first | exact HR0.out | (with_reducible refine Kd.C_alloc ?_ _) | (with_reducible refine Kd.C_drewN ?_ _) | (with_reducible refine Kd.C_drew ?_))); (case side2 => exact HC0.out); rintro e w41 ⟨v529, rfl, ho0, hb⟩; refine ⟨_, rfl, ?_⟩; have n0_ := Aside0.mk (Kd.R_lower ho0 (below_size (hq HB))); have n1_ := Aside0.mk (below_step (hq HB) hb); clear HB; have HO530 := n0_; have HB := n1_; clear n0_ n1_; (try clear hb); (try clear hb2); (try clear hk); (try clear hi); (try clear ho0)) | ((with_reducible refine gate_callee (f := 24) rfl ?_); refine goesL_ (some 20) rfl rfl Try.func24 (by kernel_rfl) rfl #[.slice A0 l0.length c0, .bool false] rfl aq ?_; (with_reducible refine (intervalmonref29_Rota.calls k _ _ l0 false t531 t532 _ ?side1 ?side2 A5.out).mono ?_); (case side1 => repeat (first | exact (Kd.C_below HR0.out HB.out) | (with_reducible refine Kd.C_alloc ?_ _) | (with_reducible refine Kd.C_drewN ?_ _) | (with_reducible refine Kd.C_drew ?_))); (case side2 => exact HC0.out); rintro e w42 ⟨v533, rfl, ho0, hb⟩; refine ⟨_, rfl, ?_⟩; have n0_ := Aside0.mk (Kd.R_elder' (rq HO530) (Kd.R_base ho0) hb); have n1_ := Aside0.mk (Kd.R_lower (Kd.R_new' ho0 (Kd.R_lt (rq HO530))) (below_size (hq HB))); have n2_ := Aside0.mk (below_step (hq HB) hb); clear HO530; clear HB; have HO530 := n0_; have HO534 := n1_; have HB := n2_; clear n0_ n1_ n2_; (try clear hb); (try clear hb2); (try clear hk); (try clear hi); (try clear ho0)) | ((with_reducible refine gate_callee (f := 13) rfl ?_); refine goesL_ (some 24) rfl rfl Try.func13 (by kernel_rfl) rfl #[.int .i64 a1, .int .i64 40] rfl aq ?_; (with_reducible refine (intervalmonref01_Around.calls a1 40 t535 _ A6.out).mono ?_); rintro e w' ⟨rfl, ⟨nd, rfl⟩⟩; refine ⟨_, rfl, ?_⟩) | ((with_reducible refine gate_callee (f := 13) rfl ?_); refine goesL_ (some 26) rfl rfl Try.func13 (by kernel_rfl) rfl #[.int .i64 a2, .int .i64 5] rfl aq ?_; (with_reducible refine (intervalmonref01_Around.calls a2 5 t536 _ A7.out).mono ?_); rintro e w' ⟨rfl, ⟨nd, rfl⟩⟩; refine ⟨_, rfl, ?_⟩; obtain ⟨Ao43, co43, eo43⟩ := Kd.R_slice HO530.out; subst eo43) | ((with_reducible refine gate_callee (f := 29) rfl ?_); refine goesL_ (some 32) rfl rfl Try.func29 (by kernel_rfl) rfl #[.int .i64 t527, .slice Ao43 t528.length co43, .int .i64 a1, .int .i64 a2] rfl aq ?_; (with_reducible refine (intervalmonlaw29_duty.calls k t527 _ _ t528 a1 a2 true _ ?side1 ?side2 A8.out).mono ?_); (case side1 => repeat (first | exact (Kd.R_reads' HO530.out).2.2 | (with_reducible refine Kd.C_alloc ?_ _) | (with_reducible refine Kd.C_drewN ?_ _) | (with_reducible refine Kd.C_drew ?_))); (case side2 => exact (Kd.R_reads' HO530.out).2.1); rintro e w44 ⟨rfl, hb⟩; refine ⟨_, rfl, ?_⟩; have n0_ := Aside0.mk (Kd.R_below (rq HO530) hb); have n1_ := Aside0.mk (Kd.R_below (rq HO534) hb); have n2_ := Aside0.mk (below_step (hq HB) hb); clear HO530; clear HO534; clear HB; have HO530 := n0_; have HO534 := n1_; have HB := n2_; clear n0_ n1_ n2_; (try clear hb); (try clear hb2); (try clear hk); (try clear hi)) | (go_at_call 29; (with_reducible refine (intervalmonlaw29_duty.calls k t527 _ _ t528 t535 (wrap64 (t536 - 1)) false _ ?side1 ?side2 A10.out).mono ?_); (case side1 => repeat (first | exact (Kd.R_reads' HO530.out).2.2 | (with_reducible refine Kd.C_alloc ?_ _) | (with_reducible refine Kd.C_drewN ?_ _) | (with_reducible refine Kd.C_drew ?_))); (case side2 => exact (Kd.R_reads' HO530.out).2.1); rintro e w45 ⟨rfl, hb⟩; have n0_ := Aside0.mk (Kd.R_below (rq HO530) hb); have n1_ := Aside0.mk (Kd.R_below (rq HO534) hb); have n2_ := Aside0.mk (below_step (hq HB) hb); clear HO530; clear HO534; clear HB; have HO530 := n0_; have HO534 := n1_; have HB := n2_; clear n0_ n1_ n2_; (try clear hb); (try clear hb2); (try clear hk); (try clear hi)))
   go_ret
   exact ⟨by first | rfl | (simp [errW_none, errW_some] <;> rfl) | (simp [*, errW_none, errW_some] <;> rfl), by repeat (first | (with_reducible first | exact HB.out | apply below_alloc | apply pw_below_drewN | apply below_drew1) | exact HB.out)⟩
 ·replace c9 := Bool.eq_false_iff.mpr c9
  subst c9
  have H1 : (some false) = some r := by rw [if_neg (show ¬ (false = true) by decide)] at H; exact H
  clear H
  have H := H1
  clear H1
  obtain rfl := Option.some.inj H
  go_enter Try.func8, Try.ntmps8
  go_wp2_with (first | ((with_reducible refine gate_callee (f := 24) rfl ?_); refine goesL_ (some 15) rfl rfl Try.func24 (by kernel_rfl) rfl #[.slice A0 l0.length c0, .bool true] rfl aq ?_; (with_reducible refine (intervalmonref29_Rota.calls k _ _ l0 true t527 t528 _ ?side1 ?side2 A4.out).mono ?_); (case side1 => repeat (first | exact HR0.out | (with_reducible refine Kd.C_alloc ?_ _) | (with_reducible refine Kd.C_drewN ?_ _) | (with_reducible refine Kd.C_drew ?_))); (case side2 => exact HC0.out); rintro e w46 ⟨v529, rfl, ho0, hb⟩; refine ⟨_, rfl, ?_⟩; have n0_ := Aside0.mk (Kd.R_lower ho0 (below_size (hq HB))); have n1_ := Aside0.mk (below_step (hq HB) hb); clear HB; have HO530 := n0_; have HB := n1_; clear n0_ n1_; (try clear hb); (try clear hb2); (try clear hk); (try clear hi); (try clear ho0)) | ((with_reducible refine gate_callee (f := 24) rfl ?_); refine goesL_ (some 20) rfl rfl Try.func24 (by kernel_rfl) rfl #[.slice A0 l0.length c0, .bool false] rfl aq ?_; (with_reducible refine (intervalmonref29_Rota.calls k _ _ l0 false t531 t532 _ ?side1 ?side2 A5.out).mono ?_); (case side1 => repeat (first | exact (Kd.C_below HR0.out HB.out) | (with_reducible refine Kd.C_alloc ?_ _) | (with_reducible refine Kd.C_drewN ?_ _) | (with_reducible refine Kd.C_drew ?_))); (case side2 => exact HC0.out); rintro e w47 ⟨v533, rfl, ho0, hb⟩; refine ⟨_, rfl, ?_⟩; have n0_ := Aside0.mk (Kd.R_elder' (rq HO530) (Kd.R_base ho0) hb); have n1_ := Aside0.mk (Kd.R_lower (Kd.R_new' ho0 (Kd.R_lt (rq HO530))) (below_size (hq HB))); have n2_ := Aside0.mk (below_step (hq HB) hb); clear HO530; clear HB; have HO530 := n0_; have HO534 := n1_; have HB := n2_; clear n0_ n1_ n2_; (try clear hb); (try clear hb2); (try clear hk); (try clear hi); (try clear ho0)) | ((with_reducible refine gate_callee (f := 13) rfl ?_); refine goesL_ (some 24) rfl rfl Try.func13 (by kernel_rfl) rfl #[.int .i64 a1, .int .i64 40] rfl aq ?_; (with_reducible refine (intervalmonref01_Around.calls a1 40 t535 _ A6.out).mono ?_); rintro e w' ⟨rfl, ⟨nd, rfl⟩⟩; refine ⟨_, rfl, ?_⟩) | ((with_reducible refine gate_callee (f := 13) rfl ?_); refine goesL_ (some 26) rfl rfl Try.func13 (by kernel_rfl) rfl #[.int .i64 a2, .int .i64 5] rfl aq ?_; (with_reducible refine (intervalmonref01_Around.calls a2 5 t536 _ A7.out).mono ?_); rintro e w' ⟨rfl, ⟨nd, rfl⟩⟩; refine ⟨_, rfl, ?_⟩; obtain ⟨Ao48, co48, eo48⟩ := Kd.R_slice HO530.out; subst eo48) | ((with_reducible refine gate_callee (f := 29) rfl ?_); refine goesL_ (some 32) rfl rfl Try.func29 (by kernel_rfl) rfl #[.int .i64 t527, .slice Ao48 t528.length co48, .int .i64 a1, .int .i64 a2] rfl aq ?_; (with_reducible refine (intervalmonlaw29_duty.calls k t527 _ _ t528 a1 a2 false _ ?side1 ?side2 A8.out).mono ?_); (case side1 => repeat (first | exact (Kd.R_reads' HO530.out).2.2 | (with_reducible refine Kd.C_alloc ?_ _) | (with_reducible refine Kd.C_drewN ?_ _) | (with_reducible refine Kd.C_drew ?_))); (case side2 => exact (Kd.R_reads' HO530.out).2.1); rintro e w49 ⟨rfl, hb⟩; refine ⟨_, rfl, ?_⟩; have n0_ := Aside0.mk (Kd.R_below (rq HO530) hb); have n1_ := Aside0.mk (Kd.R_below (rq HO534) hb); have n2_ := Aside0.mk (below_step (hq HB) hb); clear HO530; clear HO534; clear HB; have HO530 := n0_; have HO534 := n1_; have HB := n2_; clear n0_ n1_ n2_; (try clear hb); (try clear hb2); (try clear hk); (try clear hi)))
  go_ret
  exact ⟨by first | rfl | (simp [errW_none, errW_some] <;> rfl) | (simp [*, errW_none, errW_some] <;> rfl), by repeat (first | (with_reducible first | exact HB.out | apply below_alloc | apply pw_below_drewN | apply below_drew1) | exact HB.out)⟩

/-- THE ONE PURE STATEMENT of intervalmonlaw29_RouteDuty: yours. -/
def intervalmonlaw29_RouteDuty.Pure : Prop := ∀ (l0 : List Int) (a1 : Int) (a2 : Int), l0.length ≤ maxLen → l0.length * 8 ≤ 140737488351232 → (∀ x ∈ l0, (Lit.int .i64 x).wf = true) → (Lit.int .i64 a1).wf = true → (Lit.int .i64 a2).wf = true → ∃ k, intervalmonlaw29_RouteDuty.f k l0 a1 a2 = some true
theorem intervalmonlaw29_RouteDuty.walk (P : intervalmonlaw29_RouteDuty.Pure) (a0 : Option Addr) (len0 cap0 : Nat) (z0 : List Int) (a1 : Int) (a2 : Int) (w : World) (w0 : (a0 = none ∧ len0 = 0 ∧ cap0 = 0 ∧ z0 = []) ∨ ∃ x, a0 = some x ∧ len0 ≤ cap0 ∧ cap0 ≤ maxLen ∧ z0.length = cap0 ∧ (∀ i, i < z0.length → w.cell? (x.add i) = some (.int .i64 (z0.getD i 0))) ∧ ∀ n ∈ z0, (Lit.int .i64 n).wf = true) (y0 : len0 * 8 ≤ 140737488351232) (w1 : (Lit.int .i64 a1).wf = true) (w2 : (Lit.int .i64 a2).wf = true) :
  Calls Try.prog 8 #[.slice a0 len0 cap0, .int .i64 a1, .int .i64 a2] w fun e w' => e = .returned (.bool true) ∧ Below w.heap.size w w' := by
 obtain ⟨l0, rfl, hr0, hm0, hw0, hc0⟩ := ReadsInt.ofRowC w0
 obtain ⟨k, h⟩ := P l0 a1 a2 hm0 y0 hw0 w1 w2
 refine (intervalmonlaw29_RouteDuty.calls k _ _ l0 a1 a2 true w (Kd.C_of_reads (d := (0 : Int)) (h1 := fun _ => rfl) hr0) hc0 h).mono ?_
 rintro e w' ⟨rfl, hd⟩
 exact ⟨rfl, hd⟩

end Go.Proofs.Ytcamljlhdejmmaa.P
