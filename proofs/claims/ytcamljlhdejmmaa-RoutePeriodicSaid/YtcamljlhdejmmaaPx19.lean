-- Written by this session's own copy of a printing program (wip/tools); Lean checks it.
import Derived.Test.YtcamljlhdejmmaaPx0
import Derived.Test.YtcamljlhdejmmaaPx18
namespace Go.Proofs.Ytcamljlhdejmmaa.P
open Go.RowKit Go.Proofs.YtcamljlhdejmmaaW.PrintWords Go.Proofs.YtcamljlhdejmmaaW.PrintLast Go.Proofs.YtcamljlhdejmmaaW.PrintMore
attribute [local go_sem] max2_int min2_int max_two min_two max_three min_three max_four min_four   -- for this text's walks alone
set_option linter.unusedVariables false
set_option linter.unusedSimpArgs false

/-! ### intervalmonref29_ValidRota: function 28 -/
mutual
def intervalmonref29_ValidRota.j0 : Nat → Int → List (S50) → Bool → Option (Int)
 | 0, _, _, _ => none
 | k + 1, x0, x1, x12 => if x12 = true then (some 5) else (if (x1.length : Int) > 200 then (some 4) else (intervalmonref29_ValidRota.l0 k x0 x1 0))
def intervalmonref29_ValidRota.l0 : Nat → Int → List (S50) → Int → Option (Int)
 | 0, _, _, _ => none
 | k + 1, x0, x1, x5 => if x5 < (x1.length : Int) then (if 0 ≤ x5 then ((intervalmonref05_Name.f k ((rd_T50 x1 x5).f0)).bind fun t434 => (if t434 = true then (if ((rd_T50 x1 x5).f1) < 0 then (some 5) else (if ((rd_T50 x1 x5).f2) ≤ ((rd_T50 x1 x5).f1) then (some 5) else (if ((rd_T50 x1 x5).f2) > x0 then (some 5) else (intervalmonref29_ValidRota.l0 k x0 x1 (wrap64 (x5 + 1)))))) else (some 8))) else (none)) else ((intervalmonref29_covered.f k x1 0).bind fun t439 => (if t439 = true then (intervalmonref29_ValidRota.l1 k x0 x1 0) else (some 9)))
def intervalmonref29_ValidRota.l1 : Nat → Int → List (S50) → Int → Option (Int)
 | 0, _, _, _ => none
 | k + 1, x0, x1, x6 => if x6 < (x1.length : Int) then (if 0 ≤ x6 then (if ((rd_T50 x1 x6).f2) < x0 then ((intervalmonref29_covered.f k x1 ((rd_T50 x1 x6).f2)).bind fun t442 => (if t442 = true then (intervalmonref29_ValidRota.l1 k x0 x1 (wrap64 (x6 + 1))) else (some 9))) else (intervalmonref29_ValidRota.l1 k x0 x1 (wrap64 (x6 + 1)))) else (none)) else (some 0)
end
def intervalmonref29_ValidRota.f (k : Nat) (a0 : Int) (l1 : List (S50)) : Option (Int) := if a0 < 1 then (intervalmonref29_ValidRota.j0 k a0 l1 true) else (intervalmonref29_ValidRota.j0 k a0 l1 (decide (a0 > 1048576)))
theorem intervalmonref29_ValidRota.mono_l : ∀ k, (∀ y0 y1 y2, LeO (intervalmonref29_ValidRota.j0 k y0 y1 y2) (intervalmonref29_ValidRota.j0 (k + 1) y0 y1 y2)) ∧ (∀ y0 y1 y2, LeO (intervalmonref29_ValidRota.l0 k y0 y1 y2) (intervalmonref29_ValidRota.l0 (k + 1) y0 y1 y2)) ∧ (∀ y0 y1 y2, LeO (intervalmonref29_ValidRota.l1 k y0 y1 y2) (intervalmonref29_ValidRota.l1 (k + 1) y0 y1 y2))
 | 0 => ⟨fun _ _ _ r h => by simp [intervalmonref29_ValidRota.j0] at h, fun _ _ _ r h => by simp [intervalmonref29_ValidRota.l0] at h, fun _ _ _ r h => by simp [intervalmonref29_ValidRota.l1] at h⟩
 | k + 1 => by
  obtain ⟨ih0, ih1, ih2⟩ := intervalmonref29_ValidRota.mono_l k
  refine ⟨?_, ?_, ?_⟩
  ·intro y0 y1 y2
   unfold intervalmonref29_ValidRota.j0
   repeat' first
   | (with_reducible exact ih0 _ _ _)
   | (with_reducible exact ih1 _ _ _)
   | (with_reducible exact ih2 _ _ _)
   | (with_reducible exact intervalmonref05_Name.mono _ _)
   | (with_reducible exact intervalmonref29_covered.mono _ _ _)
   | (with_reducible exact LeO.refl _)
   | (with_reducible exact LeO.none _)
   | (with_reducible refine LeO.ite ?_ ?_)
   | (with_reducible refine LeO.bind ?_ (fun _ => ?_))
   | exact ih0 _ _ _
   | exact ih1 _ _ _
   | exact ih2 _ _ _
   | exact intervalmonref05_Name.mono _ _
   | exact intervalmonref29_covered.mono _ _ _
   | exact LeO.none _
   | refine LeO.ite ?_ ?_
   | refine LeO.bind ?_ (fun _ => ?_)
  ·intro y0 y1 y2
   unfold intervalmonref29_ValidRota.l0
   repeat' first
   | (with_reducible exact ih0 _ _ _)
   | (with_reducible exact ih1 _ _ _)
   | (with_reducible exact ih2 _ _ _)
   | (with_reducible exact intervalmonref05_Name.mono _ _)
   | (with_reducible exact intervalmonref29_covered.mono _ _ _)
   | (with_reducible exact LeO.refl _)
   | (with_reducible exact LeO.none _)
   | (with_reducible refine LeO.ite ?_ ?_)
   | (with_reducible refine LeO.bind ?_ (fun _ => ?_))
   | exact ih0 _ _ _
   | exact ih1 _ _ _
   | exact ih2 _ _ _
   | exact intervalmonref05_Name.mono _ _
   | exact intervalmonref29_covered.mono _ _ _
   | exact LeO.none _
   | refine LeO.ite ?_ ?_
   | refine LeO.bind ?_ (fun _ => ?_)
  ·intro y0 y1 y2
   unfold intervalmonref29_ValidRota.l1
   repeat' first
   | (with_reducible exact ih0 _ _ _)
   | (with_reducible exact ih1 _ _ _)
   | (with_reducible exact ih2 _ _ _)
   | (with_reducible exact intervalmonref05_Name.mono _ _)
   | (with_reducible exact intervalmonref29_covered.mono _ _ _)
   | (with_reducible exact LeO.refl _)
   | (with_reducible exact LeO.none _)
   | (with_reducible refine LeO.ite ?_ ?_)
   | (with_reducible refine LeO.bind ?_ (fun _ => ?_))
   | exact ih0 _ _ _
   | exact ih1 _ _ _
   | exact ih2 _ _ _
   | exact intervalmonref05_Name.mono _ _
   | exact intervalmonref29_covered.mono _ _ _
   | exact LeO.none _
   | refine LeO.ite ?_ ?_
   | refine LeO.bind ?_ (fun _ => ?_)
theorem intervalmonref29_ValidRota.mono : ∀ a0 a1 k, LeO (intervalmonref29_ValidRota.f k a0 a1) (intervalmonref29_ValidRota.f (k + 1) a0 a1) := by
 intro a0 a1 k
 obtain ⟨ih0, ih1, ih2⟩ := intervalmonref29_ValidRota.mono_l k
 unfold intervalmonref29_ValidRota.f
 repeat' first
   | (with_reducible exact ih0 _ _ _)
   | (with_reducible exact ih1 _ _ _)
   | (with_reducible exact ih2 _ _ _)
   | (with_reducible exact intervalmonref05_Name.mono _ _)
   | (with_reducible exact intervalmonref29_covered.mono _ _ _)
   | (with_reducible exact LeO.refl _)
   | (with_reducible exact LeO.none _)
   | (with_reducible refine LeO.ite ?_ ?_)
   | (with_reducible refine LeO.bind ?_ (fun _ => ?_))
   | exact ih0 _ _ _
   | exact ih1 _ _ _
   | exact ih2 _ _ _
   | exact intervalmonref05_Name.mono _ _
   | exact intervalmonref29_covered.mono _ _ _
   | exact LeO.none _
   | refine LeO.ite ?_ ?_
   | refine LeO.bind ?_ (fun _ => ?_)
set_option maxHeartbeats 8000000 in
set_option maxRecDepth 100000 in
theorem intervalmonref29_ValidRota.calls (k : Nat) (a0 : Int) (A1 : Option Addr) (c1 : Nat) (l1 : List (S50)) (r : Int) (w : World) (hr1 : Kd.C k50 w A1 l1.length l1) (hc1 : l1.length ≤ c1) (h : intervalmonref29_ValidRota.f k a0 l1 = some r) :
  Calls Try.prog 28 #[.int .i64 a0, .slice A1 l1.length c1] w fun e w' => e = .returned (.int .i64 r) ∧ Drawn0 w w' := by
 have HR1 := Aside0.mk hr1
 have HC1 := Aside0.mk hc1
 clear hr1 hc1
 have H : (if a0 < 1 then (intervalmonref29_ValidRota.j0 k a0 l1 true) else (intervalmonref29_ValidRota.j0 k a0 l1 (decide (a0 > 1048576)))) = some r := h
 clear h
 have HC3 := Aside0.mk H
 clear H
 go_enter Try.func28, Try.ntmps28
 go_upto_region 1 with (fail)
 repeat (go_quiet (fail); go_upto_region 1 with (fail))
 go_cut [12] (fun v12 wc => ∃ (kq : Nat) (x12_2 : Bool), v12 = .bool x12_2 ∧ Aside0 (intervalmonref29_ValidRota.j0 kq a0 l1 x12_2 = some r) ∧ Aside0 (kq ≤ k) ∧ Drawn0 w wc)
 case first =>
  have H := HC3.out
  clear HC3
  by_cases c4 : a0 < 1
  ·rw [if_pos c4] at H
   have c4b0 : decide (a0 < 1) = true := decide_eq_true c4
   clear c4
   (first | rw [c4b0] | (simp only [i64_w, i32_w]; rw [c4b0]) | skip)
   have H' := Aside0.mk H
   clear H
   go_wp2
   repeat (go_quiet (fail); try go_wp2)
   go_meet
   case rel => exact ⟨_, (true), (by first | rfl | (simp; done) | (simp [*]; done)), H', ⟨by first | omega | exact Nat.le_refl _⟩, by repeat (first | exact Drawn0.refl _ | apply Drawn0.step)⟩
  ·rw [if_neg c4] at H
   have c4b0 : decide (a0 < 1) = false := decide_eq_false c4
   clear c4
   (first | rw [c4b0] | (simp only [i64_w, i32_w]; rw [c4b0]) | skip)
   have H' := Aside0.mk H
   clear H
   go_wp2
   repeat (go_quiet (fail); try go_wp2)
   go_meet
   case rel => exact ⟨_, (decide (a0 > 1048576)), (by first | rfl | (simp; done) | (simp [*]; done)), H', ⟨by first | omega | exact Nat.le_refl _⟩, by repeat (first | exact Drawn0.refl _ | apply Drawn0.step)⟩
 case rest =>
  clear HC3
  try clear c1
  try clear c2
  try clear p2
  try clear c4
  try clear c4b0
  obtain ⟨kq, x12_2, rfl, HA, HJ2, ⟨mc2, rfl⟩⟩ := hcut
  cases kq with
  | zero => exact absurd HA.out (by simp [intervalmonref29_ValidRota.j0])
  | succ kj2 =>
   have H := HA.out
   clear HA
   simp only [intervalmonref29_ValidRota.j0] at H
   by_cases c5 : x12_2 = true
   ·subst c5
    have H1 : (some 5) = some r := by rw [if_pos rfl] at H; exact H
    clear H
    have H := H1
    clear H1
    obtain rfl := Option.some.inj H
    go_wp2
    repeat (go_quiet (fail); try go_wp2)
    go_ret
    exact ⟨by first | rfl | (simp; done) | (simp [*]; done), by repeat (first | exact Drawn0.refl _ | apply Drawn0.step)⟩
   ·replace c5 := Bool.eq_false_iff.mpr c5
    subst c5
    have H1 : (if (l1.length : Int) > 200 then (some 4) else (intervalmonref29_ValidRota.l0 kj2 a0 l1 0)) = some r := by rw [if_neg (show ¬ (false = true) by decide)] at H; exact H
    clear H
    have H := H1
    clear H1
    by_cases c6 : (l1.length : Int) > 200
    ·rw [if_pos c6] at H
     have c6b0 : decide (200 < (l1.length : Int)) = true := decide_eq_true c6
     have c6b1 : decide (200 < l1.length) = true := decide_eq_true (by omega)
     clear c6
     obtain rfl := Option.some.inj H
     go_wp2
     repeat (go_quiet (fail); try go_wp2)
     go_ret
     exact ⟨by first | rfl | (simp; done) | (simp [*]; done), by repeat (first | exact Drawn0.refl _ | apply Drawn0.step)⟩
    ·rw [if_neg c6] at H
     have c6b0 : decide (200 < (l1.length : Int)) = false := decide_eq_false c6
     have c6b1 : decide (200 < l1.length) = false := decide_eq_false (by omega)
     clear c6
     have H' := Aside0.mk H
     clear H
     go_wp2
     repeat (go_quiet (fail); try go_wp2)
     go_loopg [5] kj2 (fun kq v5 w' => ∃ (x5_2 : Int), v5 = .int .i64 x5_2 ∧ Aside0 (intervalmonref29_ValidRota.l0 kq a0 l1 x5_2 = some r) ∧ Aside0 (kq ≤ kj2) ∧ Drawn0 w w')
     case atStart => exact ⟨(0), (by first | rfl | (simp; done) | (simp [*]; done)), H', ⟨Nat.le_refl _⟩, by repeat (first | exact Drawn0.refl _ | apply Drawn0.step)⟩
     case round =>
      clear H'
      try clear c1
      try clear c2
      try clear p2
      try clear c4
      try clear c4b0
      try clear c5
      try clear c6
      try clear c6b0
      try clear c6b1
      try clear p2
      obtain ⟨x5_2, rfl, HA, HK2, ⟨m2, rfl⟩⟩ := hrel
      cases gk with
      | zero => exact absurd HA.out (by simp [intervalmonref29_ValidRota.l0])
      | succ k2 =>
       have H := HA.out
       clear HA
       simp only [intervalmonref29_ValidRota.l0] at H
       by_cases c7 : x5_2 < (l1.length : Int)
       ·rw [if_pos c7] at H
        have c7b0 : decide (x5_2 < (l1.length : Int)) = true := decide_eq_true c7
        clear c7
        by_cases c8 : 0 ≤ x5_2
        ·rw [if_pos c8] at H
         have c8b0 : decide (0 ≤ x5_2) = true := decide_eq_true c8
         clear c8
         replace H := Option.bind_eq_some_iff.mp H
         obtain ⟨t434, A90, H⟩ := H
         replace H : (if t434 = true then (if ((rd_T50 l1 x5_2).f1) < 0 then (some 5) else (if ((rd_T50 l1 x5_2).f2) ≤ ((rd_T50 l1 x5_2).f1) then (some 5) else (if ((rd_T50 l1 x5_2).f2) > a0 then (some 5) else (intervalmonref29_ValidRota.l0 k2 a0 l1 (wrap64 (x5_2 + 1)))))) else (some 8)) = some r := H
         have A9 := Aside0.mk A90
         clear A90
         by_cases c10 : t434 = true
         ·subst c10
          have H1 : (if ((rd_T50 l1 x5_2).f1) < 0 then (some 5) else (if ((rd_T50 l1 x5_2).f2) ≤ ((rd_T50 l1 x5_2).f1) then (some 5) else (if ((rd_T50 l1 x5_2).f2) > a0 then (some 5) else (intervalmonref29_ValidRota.l0 k2 a0 l1 (wrap64 (x5_2 + 1)))))) = some r := by rw [if_pos rfl] at H; exact H
          clear H
          have H := H1
          clear H1
          by_cases c11 : ((rd_T50 l1 x5_2).f1) < 0
          ·rw [if_pos c11] at H
           have c11b0 : decide (((rd_T50 l1 x5_2).f1) < 0) = true := decide_eq_true c11
           clear c11
           obtain rfl := Option.some.inj H
           have p433 : 0 ≤ (x5_2 : Int) := of_decide_eq_true (by first | (with_reducible assumption) | assumption)
           have q433 : x5_2 < (l1.length : Int) := of_decide_eq_true (by first | (with_reducible assumption) | assumption)
           obtain ⟨ad433, e433, hx433_0, hx433_1, hx433_2⟩ := at_T50 HR1.out x5_2 p433 q433
           cases e433
           replace p433 := eq_true p433
           replace q433 := eq_true q433
           go_wp2_with (first | (go_at_call 43; (with_reducible refine (intervalmonref05_Name.calls k2 ((rd_T50 l1 x5_2).f0) true _ A9.out).mono ?_); rintro e w' ⟨rfl, ⟨nd, rfl⟩⟩; (try first | exact ⟨rfl, _, World.drewN_drewN _ _ _⟩ | exact ⟨rfl, _, Eq.trans (World.drewN_drewN _ _ _) (congrArg (World.drewN _) (Nat.add_assoc _ _ _))⟩); have p435 : 0 ≤ (x5_2 : Int) := of_decide_eq_true (by first | (with_reducible assumption) | assumption); have q435 : x5_2 < (l1.length : Int) := of_decide_eq_true (by first | (with_reducible assumption) | assumption); obtain ⟨ad435, e435, hx435_0, hx435_1, hx435_2⟩ := at_T50 HR1.out x5_2 p435 q435; obtain rfl : ad433 = ad435 := (by injection e435); replace p435 := eq_true p435; replace q435 := eq_true q435))
           repeat (go_quiet (first | (go_at_call 43; (with_reducible refine (intervalmonref05_Name.calls k2 ((rd_T50 l1 x5_2).f0) true _ A9.out).mono ?_); rintro e w' ⟨rfl, ⟨nd, rfl⟩⟩; (try first | exact ⟨rfl, _, World.drewN_drewN _ _ _⟩ | exact ⟨rfl, _, Eq.trans (World.drewN_drewN _ _ _) (congrArg (World.drewN _) (Nat.add_assoc _ _ _))⟩); have p435 : 0 ≤ (x5_2 : Int) := of_decide_eq_true (by first | (with_reducible assumption) | assumption); have q435 : x5_2 < (l1.length : Int) := of_decide_eq_true (by first | (with_reducible assumption) | assumption); obtain ⟨ad435, e435, hx435_0, hx435_1, hx435_2⟩ := at_T50 HR1.out x5_2 p435 q435; obtain rfl : ad433 = ad435 := (by injection e435); replace p435 := eq_true p435; replace q435 := eq_true q435)); try go_wp2_with (first | (go_at_call 43; (with_reducible refine (intervalmonref05_Name.calls k2 ((rd_T50 l1 x5_2).f0) true _ A9.out).mono ?_); rintro e w' ⟨rfl, ⟨nd, rfl⟩⟩; (try first | exact ⟨rfl, _, World.drewN_drewN _ _ _⟩ | exact ⟨rfl, _, Eq.trans (World.drewN_drewN _ _ _) (congrArg (World.drewN _) (Nat.add_assoc _ _ _))⟩); have p435 : 0 ≤ (x5_2 : Int) := of_decide_eq_true (by first | (with_reducible assumption) | assumption); have q435 : x5_2 < (l1.length : Int) := of_decide_eq_true (by first | (with_reducible assumption) | assumption); obtain ⟨ad435, e435, hx435_0, hx435_1, hx435_2⟩ := at_T50 HR1.out x5_2 p435 q435; obtain rfl : ad433 = ad435 := (by injection e435); replace p435 := eq_true p435; replace q435 := eq_true q435)))
           go_ret
           exact ⟨by first | rfl | (simp; done) | (simp [*]; done), by repeat (first | exact Drawn0.refl _ | apply Drawn0.step)⟩
          ·rw [if_neg c11] at H
           have c11b0 : decide (((rd_T50 l1 x5_2).f1) < 0) = false := decide_eq_false c11
           clear c11
           by_cases c12 : ((rd_T50 l1 x5_2).f2) ≤ ((rd_T50 l1 x5_2).f1)
           ·rw [if_pos c12] at H
            have c12b0 : decide (((rd_T50 l1 x5_2).f2) ≤ ((rd_T50 l1 x5_2).f1)) = true := decide_eq_true c12
            clear c12
            obtain rfl := Option.some.inj H
            have p433 : 0 ≤ (x5_2 : Int) := of_decide_eq_true (by first | (with_reducible assumption) | assumption)
            have q433 : x5_2 < (l1.length : Int) := of_decide_eq_true (by first | (with_reducible assumption) | assumption)
            obtain ⟨ad433, e433, hx433_0, hx433_1, hx433_2⟩ := at_T50 HR1.out x5_2 p433 q433
            cases e433
            replace p433 := eq_true p433
            replace q433 := eq_true q433
            go_wp2_with (first | (go_at_call 43; (with_reducible refine (intervalmonref05_Name.calls k2 ((rd_T50 l1 x5_2).f0) true _ A9.out).mono ?_); rintro e w' ⟨rfl, ⟨nd, rfl⟩⟩; (try first | exact ⟨rfl, _, World.drewN_drewN _ _ _⟩ | exact ⟨rfl, _, Eq.trans (World.drewN_drewN _ _ _) (congrArg (World.drewN _) (Nat.add_assoc _ _ _))⟩); have p435 : 0 ≤ (x5_2 : Int) := of_decide_eq_true (by first | (with_reducible assumption) | assumption); have q435 : x5_2 < (l1.length : Int) := of_decide_eq_true (by first | (with_reducible assumption) | assumption); obtain ⟨ad435, e435, hx435_0, hx435_1, hx435_2⟩ := at_T50 HR1.out x5_2 p435 q435; obtain rfl : ad433 = ad435 := (by injection e435); replace p435 := eq_true p435; replace q435 := eq_true q435; have p436 : 0 ≤ (x5_2 : Int) := of_decide_eq_true (by first | (with_reducible assumption) | assumption); have q436 : x5_2 < (l1.length : Int) := of_decide_eq_true (by first | (with_reducible assumption) | assumption); obtain ⟨ad436, e436, hx436_0, hx436_1, hx436_2⟩ := at_T50 HR1.out x5_2 p436 q436; obtain rfl : ad433 = ad436 := (by injection e436); replace p436 := eq_true p436; replace q436 := eq_true q436; have p437 : 0 ≤ (x5_2 : Int) := of_decide_eq_true (by first | (with_reducible assumption) | assumption); have q437 : x5_2 < (l1.length : Int) := of_decide_eq_true (by first | (with_reducible assumption) | assumption); obtain ⟨ad437, e437, hx437_0, hx437_1, hx437_2⟩ := at_T50 HR1.out x5_2 p437 q437; obtain rfl : ad433 = ad437 := (by injection e437); replace p437 := eq_true p437; replace q437 := eq_true q437))
            repeat (go_quiet (first | (go_at_call 43; (with_reducible refine (intervalmonref05_Name.calls k2 ((rd_T50 l1 x5_2).f0) true _ A9.out).mono ?_); rintro e w' ⟨rfl, ⟨nd, rfl⟩⟩; (try first | exact ⟨rfl, _, World.drewN_drewN _ _ _⟩ | exact ⟨rfl, _, Eq.trans (World.drewN_drewN _ _ _) (congrArg (World.drewN _) (Nat.add_assoc _ _ _))⟩); have p435 : 0 ≤ (x5_2 : Int) := of_decide_eq_true (by first | (with_reducible assumption) | assumption); have q435 : x5_2 < (l1.length : Int) := of_decide_eq_true (by first | (with_reducible assumption) | assumption); obtain ⟨ad435, e435, hx435_0, hx435_1, hx435_2⟩ := at_T50 HR1.out x5_2 p435 q435; obtain rfl : ad433 = ad435 := (by injection e435); replace p435 := eq_true p435; replace q435 := eq_true q435; have p436 : 0 ≤ (x5_2 : Int) := of_decide_eq_true (by first | (with_reducible assumption) | assumption); have q436 : x5_2 < (l1.length : Int) := of_decide_eq_true (by first | (with_reducible assumption) | assumption); obtain ⟨ad436, e436, hx436_0, hx436_1, hx436_2⟩ := at_T50 HR1.out x5_2 p436 q436; obtain rfl : ad433 = ad436 := (by injection e436); replace p436 := eq_true p436; replace q436 := eq_true q436; have p437 : 0 ≤ (x5_2 : Int) := of_decide_eq_true (by first | (with_reducible assumption) | assumption); have q437 : x5_2 < (l1.length : Int) := of_decide_eq_true (by first | (with_reducible assumption) | assumption); obtain ⟨ad437, e437, hx437_0, hx437_1, hx437_2⟩ := at_T50 HR1.out x5_2 p437 q437; obtain rfl : ad433 = ad437 := (by injection e437); replace p437 := eq_true p437; replace q437 := eq_true q437)); try go_wp2_with (first | (go_at_call 43; (with_reducible refine (intervalmonref05_Name.calls k2 ((rd_T50 l1 x5_2).f0) true _ A9.out).mono ?_); rintro e w' ⟨rfl, ⟨nd, rfl⟩⟩; (try first | exact ⟨rfl, _, World.drewN_drewN _ _ _⟩ | exact ⟨rfl, _, Eq.trans (World.drewN_drewN _ _ _) (congrArg (World.drewN _) (Nat.add_assoc _ _ _))⟩); have p435 : 0 ≤ (x5_2 : Int) := of_decide_eq_true (by first | (with_reducible assumption) | assumption); have q435 : x5_2 < (l1.length : Int) := of_decide_eq_true (by first | (with_reducible assumption) | assumption); obtain ⟨ad435, e435, hx435_0, hx435_1, hx435_2⟩ := at_T50 HR1.out x5_2 p435 q435; obtain rfl : ad433 = ad435 := (by injection e435); replace p435 := eq_true p435; replace q435 := eq_true q435; have p436 : 0 ≤ (x5_2 : Int) := of_decide_eq_true (by first | (with_reducible assumption) | assumption); have q436 : x5_2 < (l1.length : Int) := of_decide_eq_true (by first | (with_reducible assumption) | assumption); obtain ⟨ad436, e436, hx436_0, hx436_1, hx436_2⟩ := at_T50 HR1.out x5_2 p436 q436; obtain rfl : ad433 = ad436 := (by injection e436); replace p436 := eq_true p436; replace q436 := eq_true q436; have p437 : 0 ≤ (x5_2 : Int) := of_decide_eq_true (by first | (with_reducible assumption) | assumption); have q437 : x5_2 < (l1.length : Int) := of_decide_eq_true (by first | (with_reducible assumption) | assumption); obtain ⟨ad437, e437, hx437_0, hx437_1, hx437_2⟩ := at_T50 HR1.out x5_2 p437 q437; obtain rfl : ad433 = ad437 := (by injection e437); replace p437 := eq_true p437; replace q437 := eq_true q437)))
            go_ret
            exact ⟨by first | rfl | (simp; done) | (simp [*]; done), by repeat (first | exact Drawn0.refl _ | apply Drawn0.step)⟩
           ·rw [if_neg c12] at H
            have c12b0 : decide (((rd_T50 l1 x5_2).f2) ≤ ((rd_T50 l1 x5_2).f1)) = false := decide_eq_false c12
            clear c12
            by_cases c13 : ((rd_T50 l1 x5_2).f2) > a0
            ·rw [if_pos c13] at H
             have c13b0 : decide (a0 < ((rd_T50 l1 x5_2).f2)) = true := decide_eq_true c13
             clear c13
             obtain rfl := Option.some.inj H
             have p433 : 0 ≤ (x5_2 : Int) := of_decide_eq_true (by first | (with_reducible assumption) | assumption)
             have q433 : x5_2 < (l1.length : Int) := of_decide_eq_true (by first | (with_reducible assumption) | assumption)
             obtain ⟨ad433, e433, hx433_0, hx433_1, hx433_2⟩ := at_T50 HR1.out x5_2 p433 q433
             cases e433
             replace p433 := eq_true p433
             replace q433 := eq_true q433
             go_wp2_with (first | (go_at_call 43; (with_reducible refine (intervalmonref05_Name.calls k2 ((rd_T50 l1 x5_2).f0) true _ A9.out).mono ?_); rintro e w' ⟨rfl, ⟨nd, rfl⟩⟩; (try first | exact ⟨rfl, _, World.drewN_drewN _ _ _⟩ | exact ⟨rfl, _, Eq.trans (World.drewN_drewN _ _ _) (congrArg (World.drewN _) (Nat.add_assoc _ _ _))⟩); have p435 : 0 ≤ (x5_2 : Int) := of_decide_eq_true (by first | (with_reducible assumption) | assumption); have q435 : x5_2 < (l1.length : Int) := of_decide_eq_true (by first | (with_reducible assumption) | assumption); obtain ⟨ad435, e435, hx435_0, hx435_1, hx435_2⟩ := at_T50 HR1.out x5_2 p435 q435; obtain rfl : ad433 = ad435 := (by injection e435); replace p435 := eq_true p435; replace q435 := eq_true q435; have p436 : 0 ≤ (x5_2 : Int) := of_decide_eq_true (by first | (with_reducible assumption) | assumption); have q436 : x5_2 < (l1.length : Int) := of_decide_eq_true (by first | (with_reducible assumption) | assumption); obtain ⟨ad436, e436, hx436_0, hx436_1, hx436_2⟩ := at_T50 HR1.out x5_2 p436 q436; obtain rfl : ad433 = ad436 := (by injection e436); replace p436 := eq_true p436; replace q436 := eq_true q436; have p437 : 0 ≤ (x5_2 : Int) := of_decide_eq_true (by first | (with_reducible assumption) | assumption); have q437 : x5_2 < (l1.length : Int) := of_decide_eq_true (by first | (with_reducible assumption) | assumption); obtain ⟨ad437, e437, hx437_0, hx437_1, hx437_2⟩ := at_T50 HR1.out x5_2 p437 q437; obtain rfl : ad433 = ad437 := (by injection e437); replace p437 := eq_true p437; replace q437 := eq_true q437; have p438 : 0 ≤ (x5_2 : Int) := of_decide_eq_true (by first | (with_reducible assumption) | assumption); have q438 : x5_2 < (l1.length : Int) := of_decide_eq_true (by first | (with_reducible assumption) | assumption); obtain ⟨ad438, e438, hx438_0, hx438_1, hx438_2⟩ := at_T50 HR1.out x5_2 p438 q438; obtain rfl : ad433 = ad438 := (by injection e438); replace p438 := eq_true p438; replace q438 := eq_true q438))
             repeat (go_quiet (first | (go_at_call 43; (with_reducible refine (intervalmonref05_Name.calls k2 ((rd_T50 l1 x5_2).f0) true _ A9.out).mono ?_); rintro e w' ⟨rfl, ⟨nd, rfl⟩⟩; (try first | exact ⟨rfl, _, World.drewN_drewN _ _ _⟩ | exact ⟨rfl, _, Eq.trans (World.drewN_drewN _ _ _) (congrArg (World.drewN _) (Nat.add_assoc _ _ _))⟩); have p435 : 0 ≤ (x5_2 : Int) := of_decide_eq_true (by first | (with_reducible assumption) | assumption); have q435 : x5_2 < (l1.length : Int) := of_decide_eq_true (by first | (with_reducible assumption) | assumption); obtain ⟨ad435, e435, hx435_0, hx435_1, hx435_2⟩ := at_T50 HR1.out x5_2 p435 q435; obtain rfl : ad433 = ad435 := (by injection e435); replace p435 := eq_true p435; replace q435 := eq_true q435; have p436 : 0 ≤ (x5_2 : Int) := of_decide_eq_true (by first | (with_reducible assumption) | assumption); have q436 : x5_2 < (l1.length : Int) := of_decide_eq_true (by first | (with_reducible assumption) | assumption); obtain ⟨ad436, e436, hx436_0, hx436_1, hx436_2⟩ := at_T50 HR1.out x5_2 p436 q436; obtain rfl : ad433 = ad436 := (by injection e436); replace p436 := eq_true p436; replace q436 := eq_true q436; have p437 : 0 ≤ (x5_2 : Int) := of_decide_eq_true (by first | (with_reducible assumption) | assumption); have q437 : x5_2 < (l1.length : Int) := of_decide_eq_true (by first | (with_reducible assumption) | assumption); obtain ⟨ad437, e437, hx437_0, hx437_1, hx437_2⟩ := at_T50 HR1.out x5_2 p437 q437; obtain rfl : ad433 = ad437 := (by injection e437); replace p437 := eq_true p437; replace q437 := eq_true q437; have p438 : 0 ≤ (x5_2 : Int) := of_decide_eq_true (by first | (with_reducible assumption) | assumption); have q438 : x5_2 < (l1.length : Int) := of_decide_eq_true (by first | (with_reducible assumption) | assumption); obtain ⟨ad438, e438, hx438_0, hx438_1, hx438_2⟩ := at_T50 HR1.out x5_2 p438 q438; obtain rfl : ad433 = ad438 := (by injection e438); replace p438 := eq_true p438; replace q438 := eq_true q438)); try go_wp2_with (first | (go_at_call 43; (with_reducible refine (intervalmonref05_Name.calls k2 ((rd_T50 l1 x5_2).f0) true _ A9.out).mono ?_); rintro e w' ⟨rfl, ⟨nd, rfl⟩⟩; (try first | exact ⟨rfl, _, World.drewN_drewN _ _ _⟩ | exact ⟨rfl, _, Eq.trans (World.drewN_drewN _ _ _) (congrArg (World.drewN _) (Nat.add_assoc _ _ _))⟩); have p435 : 0 ≤ (x5_2 : Int) := of_decide_eq_true (by first | (with_reducible assumption) | assumption); have q435 : x5_2 < (l1.length : Int) := of_decide_eq_true (by first | (with_reducible assumption) | assumption); obtain ⟨ad435, e435, hx435_0, hx435_1, hx435_2⟩ := at_T50 HR1.out x5_2 p435 q435; obtain rfl : ad433 = ad435 := (by injection e435); replace p435 := eq_true p435; replace q435 := eq_true q435; have p436 : 0 ≤ (x5_2 : Int) := of_decide_eq_true (by first | (with_reducible assumption) | assumption); have q436 : x5_2 < (l1.length : Int) := of_decide_eq_true (by first | (with_reducible assumption) | assumption); obtain ⟨ad436, e436, hx436_0, hx436_1, hx436_2⟩ := at_T50 HR1.out x5_2 p436 q436; obtain rfl : ad433 = ad436 := (by injection e436); replace p436 := eq_true p436; replace q436 := eq_true q436; have p437 : 0 ≤ (x5_2 : Int) := of_decide_eq_true (by first | (with_reducible assumption) | assumption); have q437 : x5_2 < (l1.length : Int) := of_decide_eq_true (by first | (with_reducible assumption) | assumption); obtain ⟨ad437, e437, hx437_0, hx437_1, hx437_2⟩ := at_T50 HR1.out x5_2 p437 q437; obtain rfl : ad433 = ad437 := (by injection e437); replace p437 := eq_true p437; replace q437 := eq_true q437; have p438 : 0 ≤ (x5_2 : Int) := of_decide_eq_true (by first | (with_reducible assumption) | assumption); have q438 : x5_2 < (l1.length : Int) := of_decide_eq_true (by first | (with_reducible assumption) | assumption); obtain ⟨ad438, e438, hx438_0, hx438_1, hx438_2⟩ := at_T50 HR1.out x5_2 p438 q438; obtain rfl : ad433 = ad438 := (by injection e438); replace p438 := eq_true p438; replace q438 := eq_true q438)))
             go_ret
             exact ⟨by first | rfl | (simp; done) | (simp [*]; done), by repeat (first | exact Drawn0.refl _ | apply Drawn0.step)⟩
            ·rw [if_neg c13] at H
             have c13b0 : decide (a0 < ((rd_T50 l1 x5_2).f2)) = false := decide_eq_false c13
             clear c13
             have H' := Aside0.mk H
             clear H
             have p433 : 0 ≤ (x5_2 : Int) := of_decide_eq_true (by first | (with_reducible assumption) | assumption)
             have q433 : x5_2 < (l1.length : Int) := of_decide_eq_true (by first | (with_reducible assumption) | assumption)
             obtain ⟨ad433, e433, hx433_0, hx433_1, hx433_2⟩ := at_T50 HR1.out x5_2 p433 q433
             cases e433
             replace p433 := eq_true p433
             replace q433 := eq_true q433
             go_wp2_with (first | (go_at_call 43; (with_reducible refine (intervalmonref05_Name.calls k2 ((rd_T50 l1 x5_2).f0) true _ A9.out).mono ?_); rintro e w' ⟨rfl, ⟨nd, rfl⟩⟩; (try first | exact ⟨rfl, _, World.drewN_drewN _ _ _⟩ | exact ⟨rfl, _, Eq.trans (World.drewN_drewN _ _ _) (congrArg (World.drewN _) (Nat.add_assoc _ _ _))⟩); have p435 : 0 ≤ (x5_2 : Int) := of_decide_eq_true (by first | (with_reducible assumption) | assumption); have q435 : x5_2 < (l1.length : Int) := of_decide_eq_true (by first | (with_reducible assumption) | assumption); obtain ⟨ad435, e435, hx435_0, hx435_1, hx435_2⟩ := at_T50 HR1.out x5_2 p435 q435; obtain rfl : ad433 = ad435 := (by injection e435); replace p435 := eq_true p435; replace q435 := eq_true q435; have p436 : 0 ≤ (x5_2 : Int) := of_decide_eq_true (by first | (with_reducible assumption) | assumption); have q436 : x5_2 < (l1.length : Int) := of_decide_eq_true (by first | (with_reducible assumption) | assumption); obtain ⟨ad436, e436, hx436_0, hx436_1, hx436_2⟩ := at_T50 HR1.out x5_2 p436 q436; obtain rfl : ad433 = ad436 := (by injection e436); replace p436 := eq_true p436; replace q436 := eq_true q436; have p437 : 0 ≤ (x5_2 : Int) := of_decide_eq_true (by first | (with_reducible assumption) | assumption); have q437 : x5_2 < (l1.length : Int) := of_decide_eq_true (by first | (with_reducible assumption) | assumption); obtain ⟨ad437, e437, hx437_0, hx437_1, hx437_2⟩ := at_T50 HR1.out x5_2 p437 q437; obtain rfl : ad433 = ad437 := (by injection e437); replace p437 := eq_true p437; replace q437 := eq_true q437; have p438 : 0 ≤ (x5_2 : Int) := of_decide_eq_true (by first | (with_reducible assumption) | assumption); have q438 : x5_2 < (l1.length : Int) := of_decide_eq_true (by first | (with_reducible assumption) | assumption); obtain ⟨ad438, e438, hx438_0, hx438_1, hx438_2⟩ := at_T50 HR1.out x5_2 p438 q438; obtain rfl : ad433 = ad438 := (by injection e438); replace p438 := eq_true p438; replace q438 := eq_true q438))
             repeat (go_quiet (first | (go_at_call 43; (with_reducible refine (intervalmonref05_Name.calls k2 ((rd_T50 l1 x5_2).f0) true _ A9.out).mono ?_); rintro e w' ⟨rfl, ⟨nd, rfl⟩⟩; (try first | exact ⟨rfl, _, World.drewN_drewN _ _ _⟩ | exact ⟨rfl, _, Eq.trans (World.drewN_drewN _ _ _) (congrArg (World.drewN _) (Nat.add_assoc _ _ _))⟩); have p435 : 0 ≤ (x5_2 : Int) := of_decide_eq_true (by first | (with_reducible assumption) | assumption); have q435 : x5_2 < (l1.length : Int) := of_decide_eq_true (by first | (with_reducible assumption) | assumption); obtain ⟨ad435, e435, hx435_0, hx435_1, hx435_2⟩ := at_T50 HR1.out x5_2 p435 q435; obtain rfl : ad433 = ad435 := (by injection e435); replace p435 := eq_true p435; replace q435 := eq_true q435; have p436 : 0 ≤ (x5_2 : Int) := of_decide_eq_true (by first | (with_reducible assumption) | assumption); have q436 : x5_2 < (l1.length : Int) := of_decide_eq_true (by first | (with_reducible assumption) | assumption); obtain ⟨ad436, e436, hx436_0, hx436_1, hx436_2⟩ := at_T50 HR1.out x5_2 p436 q436; obtain rfl : ad433 = ad436 := (by injection e436); replace p436 := eq_true p436; replace q436 := eq_true q436; have p437 : 0 ≤ (x5_2 : Int) := of_decide_eq_true (by first | (with_reducible assumption) | assumption); have q437 : x5_2 < (l1.length : Int) := of_decide_eq_true (by first | (with_reducible assumption) | assumption); obtain ⟨ad437, e437, hx437_0, hx437_1, hx437_2⟩ := at_T50 HR1.out x5_2 p437 q437; obtain rfl : ad433 = ad437 := (by injection e437); replace p437 := eq_true p437; replace q437 := eq_true q437; have p438 : 0 ≤ (x5_2 : Int) := of_decide_eq_true (by first | (with_reducible assumption) | assumption); have q438 : x5_2 < (l1.length : Int) := of_decide_eq_true (by first | (with_reducible assumption) | assumption); obtain ⟨ad438, e438, hx438_0, hx438_1, hx438_2⟩ := at_T50 HR1.out x5_2 p438 q438; obtain rfl : ad433 = ad438 := (by injection e438); replace p438 := eq_true p438; replace q438 := eq_true q438)); try go_wp2_with (first | (go_at_call 43; (with_reducible refine (intervalmonref05_Name.calls k2 ((rd_T50 l1 x5_2).f0) true _ A9.out).mono ?_); rintro e w' ⟨rfl, ⟨nd, rfl⟩⟩; (try first | exact ⟨rfl, _, World.drewN_drewN _ _ _⟩ | exact ⟨rfl, _, Eq.trans (World.drewN_drewN _ _ _) (congrArg (World.drewN _) (Nat.add_assoc _ _ _))⟩); have p435 : 0 ≤ (x5_2 : Int) := of_decide_eq_true (by first | (with_reducible assumption) | assumption); have q435 : x5_2 < (l1.length : Int) := of_decide_eq_true (by first | (with_reducible assumption) | assumption); obtain ⟨ad435, e435, hx435_0, hx435_1, hx435_2⟩ := at_T50 HR1.out x5_2 p435 q435; obtain rfl : ad433 = ad435 := (by injection e435); replace p435 := eq_true p435; replace q435 := eq_true q435; have p436 : 0 ≤ (x5_2 : Int) := of_decide_eq_true (by first | (with_reducible assumption) | assumption); have q436 : x5_2 < (l1.length : Int) := of_decide_eq_true (by first | (with_reducible assumption) | assumption); obtain ⟨ad436, e436, hx436_0, hx436_1, hx436_2⟩ := at_T50 HR1.out x5_2 p436 q436; obtain rfl : ad433 = ad436 := (by injection e436); replace p436 := eq_true p436; replace q436 := eq_true q436; have p437 : 0 ≤ (x5_2 : Int) := of_decide_eq_true (by first | (with_reducible assumption) | assumption); have q437 : x5_2 < (l1.length : Int) := of_decide_eq_true (by first | (with_reducible assumption) | assumption); obtain ⟨ad437, e437, hx437_0, hx437_1, hx437_2⟩ := at_T50 HR1.out x5_2 p437 q437; obtain rfl : ad433 = ad437 := (by injection e437); replace p437 := eq_true p437; replace q437 := eq_true q437; have p438 : 0 ≤ (x5_2 : Int) := of_decide_eq_true (by first | (with_reducible assumption) | assumption); have q438 : x5_2 < (l1.length : Int) := of_decide_eq_true (by first | (with_reducible assumption) | assumption); obtain ⟨ad438, e438, hx438_0, hx438_1, hx438_2⟩ := at_T50 HR1.out x5_2 p438 q438; obtain rfl : ad433 = ad438 := (by injection e438); replace p438 := eq_true p438; replace q438 := eq_true q438)))
             go_roundg k2
             case measure => have := HJ2.out; have := HK2.out; omega
             case rel => exact ⟨(wrap64 (x5_2 + 1)), (by first | rfl | (simp; done) | (simp [*]; done)), H', ⟨by have := HJ2.out; have := HK2.out; omega⟩, by repeat (first | exact Drawn0.refl _ | apply Drawn0.step)⟩
         ·replace c10 := Bool.eq_false_iff.mpr c10
          subst c10
          have H1 : (some 8) = some r := by rw [if_neg (show ¬ (false = true) by decide)] at H; exact H
          clear H
          have H := H1
          clear H1
          obtain rfl := Option.some.inj H
          have p433 : 0 ≤ (x5_2 : Int) := of_decide_eq_true (by first | (with_reducible assumption) | assumption)
          have q433 : x5_2 < (l1.length : Int) := of_decide_eq_true (by first | (with_reducible assumption) | assumption)
          obtain ⟨ad433, e433, hx433_0, hx433_1, hx433_2⟩ := at_T50 HR1.out x5_2 p433 q433
          cases e433
          replace p433 := eq_true p433
          replace q433 := eq_true q433
          go_wp2_with (first | (go_at_call 43; (with_reducible refine (intervalmonref05_Name.calls k2 ((rd_T50 l1 x5_2).f0) false _ A9.out).mono ?_); rintro e w' ⟨rfl, ⟨nd, rfl⟩⟩; (try first | exact ⟨rfl, _, World.drewN_drewN _ _ _⟩ | exact ⟨rfl, _, Eq.trans (World.drewN_drewN _ _ _) (congrArg (World.drewN _) (Nat.add_assoc _ _ _))⟩)))
          repeat (go_quiet (first | (go_at_call 43; (with_reducible refine (intervalmonref05_Name.calls k2 ((rd_T50 l1 x5_2).f0) false _ A9.out).mono ?_); rintro e w' ⟨rfl, ⟨nd, rfl⟩⟩; (try first | exact ⟨rfl, _, World.drewN_drewN _ _ _⟩ | exact ⟨rfl, _, Eq.trans (World.drewN_drewN _ _ _) (congrArg (World.drewN _) (Nat.add_assoc _ _ _))⟩))); try go_wp2_with (first | (go_at_call 43; (with_reducible refine (intervalmonref05_Name.calls k2 ((rd_T50 l1 x5_2).f0) false _ A9.out).mono ?_); rintro e w' ⟨rfl, ⟨nd, rfl⟩⟩; (try first | exact ⟨rfl, _, World.drewN_drewN _ _ _⟩ | exact ⟨rfl, _, Eq.trans (World.drewN_drewN _ _ _) (congrArg (World.drewN _) (Nat.add_assoc _ _ _))⟩))))
          go_ret
          exact ⟨by first | rfl | (simp; done) | (simp [*]; done), by repeat (first | exact Drawn0.refl _ | apply Drawn0.step)⟩
        ·rw [if_neg c8] at H
         exact absurd H (by simp)
       ·rw [if_neg c7] at H
        have c7b0 : decide (x5_2 < (l1.length : Int)) = false := decide_eq_false c7
        clear c7
        replace H := Option.bind_eq_some_iff.mp H
        obtain ⟨t439, A140, H⟩ := H
        replace H : (if t439 = true then (intervalmonref29_ValidRota.l1 k2 a0 l1 0) else (some 9)) = some r := H
        have A14 := Aside0.mk A140
        clear A140
        by_cases c15 : t439 = true
        ·subst c15
         have H1 : (intervalmonref29_ValidRota.l1 k2 a0 l1 0) = some r := by rw [if_pos rfl] at H; exact H
         clear H
         have H := H1
         clear H1
         have H' := Aside0.mk H
         clear H
         go_wp2_with (first | (go_at_call 44; (with_reducible refine (intervalmonref29_covered.calls k2 _ _ l1 0 true _ ?side1 ?side2 A14.out).mono ?_); (case side1 => repeat (first | exact HR1.out | (with_reducible refine Kd.C_alloc ?_ _) | (with_reducible refine Kd.C_drewN ?_ _) | (with_reducible refine Kd.C_drew ?_))); (case side2 => exact HC1.out); rintro e w' ⟨rfl, ⟨nd, rfl⟩⟩; (try first | exact ⟨rfl, _, World.drewN_drewN _ _ _⟩ | exact ⟨rfl, _, Eq.trans (World.drewN_drewN _ _ _) (congrArg (World.drewN _) (Nat.add_assoc _ _ _))⟩)))
         repeat (go_quiet (first | (go_at_call 44; (with_reducible refine (intervalmonref29_covered.calls k2 _ _ l1 0 true _ ?side1 ?side2 A14.out).mono ?_); (case side1 => repeat (first | exact HR1.out | (with_reducible refine Kd.C_alloc ?_ _) | (with_reducible refine Kd.C_drewN ?_ _) | (with_reducible refine Kd.C_drew ?_))); (case side2 => exact HC1.out); rintro e w' ⟨rfl, ⟨nd, rfl⟩⟩; (try first | exact ⟨rfl, _, World.drewN_drewN _ _ _⟩ | exact ⟨rfl, _, Eq.trans (World.drewN_drewN _ _ _) (congrArg (World.drewN _) (Nat.add_assoc _ _ _))⟩))); try go_wp2_with (first | (go_at_call 44; (with_reducible refine (intervalmonref29_covered.calls k2 _ _ l1 0 true _ ?side1 ?side2 A14.out).mono ?_); (case side1 => repeat (first | exact HR1.out | (with_reducible refine Kd.C_alloc ?_ _) | (with_reducible refine Kd.C_drewN ?_ _) | (with_reducible refine Kd.C_drew ?_))); (case side2 => exact HC1.out); rintro e w' ⟨rfl, ⟨nd, rfl⟩⟩; (try first | exact ⟨rfl, _, World.drewN_drewN _ _ _⟩ | exact ⟨rfl, _, Eq.trans (World.drewN_drewN _ _ _) (congrArg (World.drewN _) (Nat.add_assoc _ _ _))⟩))))
         go_loopg [6] k2 (fun kq v6 w' => ∃ (x6_3 : Int), v6 = .int .i64 x6_3 ∧ Aside0 (intervalmonref29_ValidRota.l1 kq a0 l1 x6_3 = some r) ∧ Aside0 (kq ≤ k2) ∧ Drawn0 w w')
         case atStart => exact ⟨(0), (by first | rfl | (simp; done) | (simp [*]; done)), H', ⟨Nat.le_refl _⟩, by repeat (first | exact Drawn0.refl _ | apply Drawn0.step)⟩
         case round =>
          clear H'
          try clear c1
          try clear c2
          try clear p2
          try clear c4
          try clear c4b0
          try clear p4
          try clear q4
          try clear hx4
          try clear c5
          try clear c6
          try clear c6b0
          try clear c6b1
          try clear p6
          try clear c7
          try clear c7b0
          try clear c8
          try clear c8b0
          try clear c10
          try clear c11
          try clear c11b0
          try clear c12
          try clear c12b0
          try clear c13
          try clear c13b0
          try clear c15
          try clear hx433_0
          try clear hx433_1
          try clear hx433_2
          try clear hx435_0
          try clear hx435_1
          try clear hx435_2
          try clear hx436_0
          try clear hx436_1
          try clear hx436_2
          try clear hx437_0
          try clear hx437_1
          try clear hx437_2
          try clear hx438_0
          try clear hx438_1
          try clear hx438_2
          try clear p2
          try clear p433
          try clear p435
          try clear p436
          try clear p437
          try clear p438
          try clear q433
          try clear q435
          try clear q436
          try clear q437
          try clear q438
          obtain ⟨x6_3, rfl, HA, HK3, ⟨m3, rfl⟩⟩ := hrel
          cases gk with
          | zero => exact absurd HA.out (by simp [intervalmonref29_ValidRota.l1])
          | succ k3 =>
           have H := HA.out
           clear HA
           simp only [intervalmonref29_ValidRota.l1] at H
           by_cases c16 : x6_3 < (l1.length : Int)
           ·rw [if_pos c16] at H
            have c16b0 : decide (x6_3 < (l1.length : Int)) = true := decide_eq_true c16
            clear c16
            by_cases c17 : 0 ≤ x6_3
            ·rw [if_pos c17] at H
             have c17b0 : decide (0 ≤ x6_3) = true := decide_eq_true c17
             clear c17
             by_cases c18 : ((rd_T50 l1 x6_3).f2) < a0
             ·rw [if_pos c18] at H
              have c18b0 : decide (((rd_T50 l1 x6_3).f2) < a0) = true := decide_eq_true c18
              clear c18
              replace H := Option.bind_eq_some_iff.mp H
              obtain ⟨t442, A190, H⟩ := H
              replace H : (if t442 = true then (intervalmonref29_ValidRota.l1 k3 a0 l1 (wrap64 (x6_3 + 1))) else (some 9)) = some r := H
              have A19 := Aside0.mk A190
              clear A190
              by_cases c20 : t442 = true
              ·subst c20
               have H1 : (intervalmonref29_ValidRota.l1 k3 a0 l1 (wrap64 (x6_3 + 1))) = some r := by rw [if_pos rfl] at H; exact H
               clear H
               have H := H1
               clear H1
               have H' := Aside0.mk H
               clear H
               have p440 : 0 ≤ (x6_3 : Int) := of_decide_eq_true (by first | (with_reducible assumption) | assumption)
               have q440 : x6_3 < (l1.length : Int) := of_decide_eq_true (by first | (with_reducible assumption) | assumption)
               obtain ⟨ad440, e440, hx440_0, hx440_1, hx440_2⟩ := at_T50 HR1.out x6_3 p440 q440
               cases e440
               replace p440 := eq_true p440
               replace q440 := eq_true q440
               have p441 : 0 ≤ (x6_3 : Int) := of_decide_eq_true (by first | (with_reducible assumption) | assumption)
               have q441 : x6_3 < (l1.length : Int) := of_decide_eq_true (by first | (with_reducible assumption) | assumption)
               obtain ⟨ad441, e441, hx441_0, hx441_1, hx441_2⟩ := at_T50 HR1.out x6_3 p441 q441
               obtain rfl : ad440 = ad441 := (by injection e441)
               replace p441 := eq_true p441
               replace q441 := eq_true q441
               go_wp2_with (first | (go_at_call 44; (with_reducible refine (intervalmonref29_covered.calls k3 _ _ l1 ((rd_T50 l1 x6_3).f2) true _ ?side1 ?side2 A19.out).mono ?_); (case side1 => repeat (first | exact HR1.out | (with_reducible refine Kd.C_alloc ?_ _) | (with_reducible refine Kd.C_drewN ?_ _) | (with_reducible refine Kd.C_drew ?_))); (case side2 => exact HC1.out); rintro e w' ⟨rfl, ⟨nd, rfl⟩⟩; (try first | exact ⟨rfl, _, World.drewN_drewN _ _ _⟩ | exact ⟨rfl, _, Eq.trans (World.drewN_drewN _ _ _) (congrArg (World.drewN _) (Nat.add_assoc _ _ _))⟩)))
               repeat (go_quiet (first | (go_at_call 44; (with_reducible refine (intervalmonref29_covered.calls k3 _ _ l1 ((rd_T50 l1 x6_3).f2) true _ ?side1 ?side2 A19.out).mono ?_); (case side1 => repeat (first | exact HR1.out | (with_reducible refine Kd.C_alloc ?_ _) | (with_reducible refine Kd.C_drewN ?_ _) | (with_reducible refine Kd.C_drew ?_))); (case side2 => exact HC1.out); rintro e w' ⟨rfl, ⟨nd, rfl⟩⟩; (try first | exact ⟨rfl, _, World.drewN_drewN _ _ _⟩ | exact ⟨rfl, _, Eq.trans (World.drewN_drewN _ _ _) (congrArg (World.drewN _) (Nat.add_assoc _ _ _))⟩))); try go_wp2_with (first | (go_at_call 44; (with_reducible refine (intervalmonref29_covered.calls k3 _ _ l1 ((rd_T50 l1 x6_3).f2) true _ ?side1 ?side2 A19.out).mono ?_); (case side1 => repeat (first | exact HR1.out | (with_reducible refine Kd.C_alloc ?_ _) | (with_reducible refine Kd.C_drewN ?_ _) | (with_reducible refine Kd.C_drew ?_))); (case side2 => exact HC1.out); rintro e w' ⟨rfl, ⟨nd, rfl⟩⟩; (try first | exact ⟨rfl, _, World.drewN_drewN _ _ _⟩ | exact ⟨rfl, _, Eq.trans (World.drewN_drewN _ _ _) (congrArg (World.drewN _) (Nat.add_assoc _ _ _))⟩))))
               go_roundg k3
               case measure => have := HJ2.out; have := HK2.out; have := HK3.out; omega
               case rel => exact ⟨(wrap64 (x6_3 + 1)), (by first | rfl | (simp; done) | (simp [*]; done)), H', ⟨by have := HJ2.out; have := HK2.out; have := HK3.out; omega⟩, by repeat (first | exact Drawn0.refl _ | apply Drawn0.step)⟩
              ·replace c20 := Bool.eq_false_iff.mpr c20
               subst c20
               have H1 : (some 9) = some r := by rw [if_neg (show ¬ (false = true) by decide)] at H; exact H
               clear H
               have H := H1
               clear H1
               obtain rfl := Option.some.inj H
               have p440 : 0 ≤ (x6_3 : Int) := of_decide_eq_true (by first | (with_reducible assumption) | assumption)
               have q440 : x6_3 < (l1.length : Int) := of_decide_eq_true (by first | (with_reducible assumption) | assumption)
               obtain ⟨ad440, e440, hx440_0, hx440_1, hx440_2⟩ := at_T50 HR1.out x6_3 p440 q440
               cases e440
               replace p440 := eq_true p440
               replace q440 := eq_true q440
               have p441 : 0 ≤ (x6_3 : Int) := of_decide_eq_true (by first | (with_reducible assumption) | assumption)
               have q441 : x6_3 < (l1.length : Int) := of_decide_eq_true (by first | (with_reducible assumption) | assumption)
               obtain ⟨ad441, e441, hx441_0, hx441_1, hx441_2⟩ := at_T50 HR1.out x6_3 p441 q441
               obtain rfl : ad440 = ad441 := (by injection e441)
               replace p441 := eq_true p441
               replace q441 := eq_true q441
               go_wp2_with (first | (go_at_call 44; (with_reducible refine (intervalmonref29_covered.calls k3 _ _ l1 ((rd_T50 l1 x6_3).f2) false _ ?side1 ?side2 A19.out).mono ?_); (case side1 => repeat (first | exact HR1.out | (with_reducible refine Kd.C_alloc ?_ _) | (with_reducible refine Kd.C_drewN ?_ _) | (with_reducible refine Kd.C_drew ?_))); (case side2 => exact HC1.out); rintro e w' ⟨rfl, ⟨nd, rfl⟩⟩; (try first | exact ⟨rfl, _, World.drewN_drewN _ _ _⟩ | exact ⟨rfl, _, Eq.trans (World.drewN_drewN _ _ _) (congrArg (World.drewN _) (Nat.add_assoc _ _ _))⟩)))
               repeat (go_quiet (first | (go_at_call 44; (with_reducible refine (intervalmonref29_covered.calls k3 _ _ l1 ((rd_T50 l1 x6_3).f2) false _ ?side1 ?side2 A19.out).mono ?_); (case side1 => repeat (first | exact HR1.out | (with_reducible refine Kd.C_alloc ?_ _) | (with_reducible refine Kd.C_drewN ?_ _) | (with_reducible refine Kd.C_drew ?_))); (case side2 => exact HC1.out); rintro e w' ⟨rfl, ⟨nd, rfl⟩⟩; (try first | exact ⟨rfl, _, World.drewN_drewN _ _ _⟩ | exact ⟨rfl, _, Eq.trans (World.drewN_drewN _ _ _) (congrArg (World.drewN _) (Nat.add_assoc _ _ _))⟩))); try go_wp2_with (first | (go_at_call 44; (with_reducible refine (intervalmonref29_covered.calls k3 _ _ l1 ((rd_T50 l1 x6_3).f2) false _ ?side1 ?side2 A19.out).mono ?_); (case side1 => repeat (first | exact HR1.out | (with_reducible refine Kd.C_alloc ?_ _) | (with_reducible refine Kd.C_drewN ?_ _) | (with_reducible refine Kd.C_drew ?_))); (case side2 => exact HC1.out); rintro e w' ⟨rfl, ⟨nd, rfl⟩⟩; (try first | exact ⟨rfl, _, World.drewN_drewN _ _ _⟩ | exact ⟨rfl, _, Eq.trans (World.drewN_drewN _ _ _) (congrArg (World.drewN _) (Nat.add_assoc _ _ _))⟩))))
               go_ret
               exact ⟨by first | rfl | (simp; done) | (simp [*]; done), by repeat (first | exact Drawn0.refl _ | apply Drawn0.step)⟩
             ·rw [if_neg c18] at H
              have c18b0 : decide (((rd_T50 l1 x6_3).f2) < a0) = false := decide_eq_false c18
              clear c18
              have H' := Aside0.mk H
              clear H
              have p440 : 0 ≤ (x6_3 : Int) := of_decide_eq_true (by first | (with_reducible assumption) | assumption)
              have q440 : x6_3 < (l1.length : Int) := of_decide_eq_true (by first | (with_reducible assumption) | assumption)
              obtain ⟨ad440, e440, hx440_0, hx440_1, hx440_2⟩ := at_T50 HR1.out x6_3 p440 q440
              cases e440
              replace p440 := eq_true p440
              replace q440 := eq_true q440
              go_wp2
              repeat (go_quiet (fail); try go_wp2)
              go_roundg k3
              case measure => have := HJ2.out; have := HK2.out; have := HK3.out; omega
              case rel => exact ⟨(wrap64 (x6_3 + 1)), (by first | rfl | (simp; done) | (simp [*]; done)), H', ⟨by have := HJ2.out; have := HK2.out; have := HK3.out; omega⟩, by repeat (first | exact Drawn0.refl _ | apply Drawn0.step)⟩
            ·rw [if_neg c17] at H
             exact absurd H (by simp)
           ·rw [if_neg c16] at H
            have c16b0 : decide (x6_3 < (l1.length : Int)) = false := decide_eq_false c16
            clear c16
            obtain rfl := Option.some.inj H
            go_wp2
            repeat (go_quiet (fail); try go_wp2)
            go_ret
            exact ⟨by first | rfl | (simp; done) | (simp [*]; done), by repeat (first | exact Drawn0.refl _ | apply Drawn0.step)⟩
        ·replace c15 := Bool.eq_false_iff.mpr c15
         subst c15
         have H1 : (some 9) = some r := by rw [if_neg (show ¬ (false = true) by decide)] at H; exact H
         clear H
         have H := H1
         clear H1
         obtain rfl := Option.some.inj H
         go_wp2_with (first | (go_at_call 44; (with_reducible refine (intervalmonref29_covered.calls k2 _ _ l1 0 false _ ?side1 ?side2 A14.out).mono ?_); (case side1 => repeat (first | exact HR1.out | (with_reducible refine Kd.C_alloc ?_ _) | (with_reducible refine Kd.C_drewN ?_ _) | (with_reducible refine Kd.C_drew ?_))); (case side2 => exact HC1.out); rintro e w' ⟨rfl, ⟨nd, rfl⟩⟩; (try first | exact ⟨rfl, _, World.drewN_drewN _ _ _⟩ | exact ⟨rfl, _, Eq.trans (World.drewN_drewN _ _ _) (congrArg (World.drewN _) (Nat.add_assoc _ _ _))⟩)))
         repeat (go_quiet (first | (go_at_call 44; (with_reducible refine (intervalmonref29_covered.calls k2 _ _ l1 0 false _ ?side1 ?side2 A14.out).mono ?_); (case side1 => repeat (first | exact HR1.out | (with_reducible refine Kd.C_alloc ?_ _) | (with_reducible refine Kd.C_drewN ?_ _) | (with_reducible refine Kd.C_drew ?_))); (case side2 => exact HC1.out); rintro e w' ⟨rfl, ⟨nd, rfl⟩⟩; (try first | exact ⟨rfl, _, World.drewN_drewN _ _ _⟩ | exact ⟨rfl, _, Eq.trans (World.drewN_drewN _ _ _) (congrArg (World.drewN _) (Nat.add_assoc _ _ _))⟩))); try go_wp2_with (first | (go_at_call 44; (with_reducible refine (intervalmonref29_covered.calls k2 _ _ l1 0 false _ ?side1 ?side2 A14.out).mono ?_); (case side1 => repeat (first | exact HR1.out | (with_reducible refine Kd.C_alloc ?_ _) | (with_reducible refine Kd.C_drewN ?_ _) | (with_reducible refine Kd.C_drew ?_))); (case side2 => exact HC1.out); rintro e w' ⟨rfl, ⟨nd, rfl⟩⟩; (try first | exact ⟨rfl, _, World.drewN_drewN _ _ _⟩ | exact ⟨rfl, _, Eq.trans (World.drewN_drewN _ _ _) (congrArg (World.drewN _) (Nat.add_assoc _ _ _))⟩))))
         go_ret
         exact ⟨by first | rfl | (simp; done) | (simp [*]; done), by repeat (first | exact Drawn0.refl _ | apply Drawn0.step)⟩

end Go.Proofs.Ytcamljlhdejmmaa.P
