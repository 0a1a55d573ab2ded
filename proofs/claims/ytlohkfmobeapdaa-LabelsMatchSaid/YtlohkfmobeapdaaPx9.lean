-- Written by this session's own copy of a printing program (wip/tools); Lean checks it.
import Derived.Test.YtlohkfmobeapdaaPx0
import Derived.Test.YtlohkfmobeapdaaPx3
import Derived.Test.YtlohkfmobeapdaaPx4
import Derived.Test.YtlohkfmobeapdaaPx7
import Derived.Test.YtlohkfmobeapdaaPx8
import Derived.Test.YtlohkfmobeapdaaHCmp
namespace Go.Proofs.Ytlohkfmobeapdaa.P
open Go.RowKit Go.Proofs.YtlohkfmobeapdaaW.PrintWords Go.Proofs.YtlohkfmobeapdaaW.PrintLast Go.Proofs.YtlohkfmobeapdaaW.PrintMore
attribute [local go_sem] max2_int min2_int max_two min_two max_three min_three max_four min_four   -- for this text's walks alone
set_option linter.unusedVariables false
set_option linter.unusedSimpArgs false

/-! ### intervalmonref05_Compare: function 31 -/
mutual
def intervalmonref05_Compare.l0 : Nat → List (S33) → List (S33) → Int → Option (Int)
 | 0, _, _, _ => none
 | k + 1, x0, x1, x5 => if x5 < (x0.length : Int) then (intervalmonref05_Compare.j1 k x0 x1 x5 (decide (x5 < (x1.length : Int)))) else (intervalmonref05_Compare.j1 k x0 x1 x5 false)
def intervalmonref05_Compare.j1 : Nat → List (S33) → List (S33) → Int → Bool → Option (Int)
 | 0, _, _, _, _ => none
 | k + 1, x0, x1, x5, x16 => if x16 = true then (if 0 ≤ x5 then (if x5 < (x0.length : Int) then (if x5 < (x1.length : Int) then ((intervalmonref05_order.f ((rd_T33 x0 x5).f0) ((rd_T33 x1 x5).f0)).bind fun t300 => (if t300 = 0 then ((intervalmonref05_order.f ((rd_T33 x0 x5).f1) ((rd_T33 x1 x5).f1)).bind fun t303 => (if t303 = 0 then (intervalmonref05_Compare.l0 k x0 x1 (wrap64 (x5 + 1))) else (some t303))) else (some t300))) else (none)) else (none)) else (none)) else (if (x0.length : Int) < (x1.length : Int) then (some (-1)) else (if (x0.length : Int) > (x1.length : Int) then (some 1) else (some 0)))
end
def intervalmonref05_Compare.f (k : Nat) (l0 : List (S33)) (l1 : List (S33)) : Option (Int) := intervalmonref05_Compare.l0 k l0 l1 0
theorem intervalmonref05_Compare.mono_l : ∀ k, (∀ y0 y1 y2, LeO (intervalmonref05_Compare.l0 k y0 y1 y2) (intervalmonref05_Compare.l0 (k + 1) y0 y1 y2)) ∧ (∀ y0 y1 y2 y3, LeO (intervalmonref05_Compare.j1 k y0 y1 y2 y3) (intervalmonref05_Compare.j1 (k + 1) y0 y1 y2 y3))
 | 0 => ⟨fun _ _ _ r h => by simp [intervalmonref05_Compare.l0] at h, fun _ _ _ _ r h => by simp [intervalmonref05_Compare.j1] at h⟩
 | k + 1 => by
  obtain ⟨ih0, ih1⟩ := intervalmonref05_Compare.mono_l k
  refine ⟨?_, ?_⟩
  ·intro y0 y1 y2
   unfold intervalmonref05_Compare.l0
   repeat' first
   | (with_reducible exact ih0 _ _ _)
   | (with_reducible exact ih1 _ _ _ _)
   | (with_reducible exact LeO.refl _)
   | (with_reducible exact LeO.none _)
   | (with_reducible refine LeO.ite ?_ ?_)
   | (with_reducible refine LeO.bind ?_ (fun _ => ?_))
   | exact ih0 _ _ _
   | exact ih1 _ _ _ _
   | exact LeO.none _
   | refine LeO.ite ?_ ?_
   | refine LeO.bind ?_ (fun _ => ?_)
  ·intro y0 y1 y2 y3
   unfold intervalmonref05_Compare.j1
   repeat' first
   | (with_reducible exact ih0 _ _ _)
   | (with_reducible exact ih1 _ _ _ _)
   | (with_reducible exact LeO.refl _)
   | (with_reducible exact LeO.none _)
   | (with_reducible refine LeO.ite ?_ ?_)
   | (with_reducible refine LeO.bind ?_ (fun _ => ?_))
   | exact ih0 _ _ _
   | exact ih1 _ _ _ _
   | exact LeO.none _
   | refine LeO.ite ?_ ?_
   | refine LeO.bind ?_ (fun _ => ?_)
theorem intervalmonref05_Compare.mono : ∀ a0 a1 k, LeO (intervalmonref05_Compare.f k a0 a1) (intervalmonref05_Compare.f (k + 1) a0 a1) := by
 intro a0 a1 k
 obtain ⟨ih0, ih1⟩ := intervalmonref05_Compare.mono_l k
 unfold intervalmonref05_Compare.f
 repeat' first
   | (with_reducible exact ih0 _ _ _)
   | (with_reducible exact ih1 _ _ _ _)
   | (with_reducible exact LeO.refl _)
   | (with_reducible exact LeO.none _)
   | (with_reducible refine LeO.ite ?_ ?_)
   | (with_reducible refine LeO.bind ?_ (fun _ => ?_))
   | exact ih0 _ _ _
   | exact ih1 _ _ _ _
   | exact LeO.none _
   | refine LeO.ite ?_ ?_
   | refine LeO.bind ?_ (fun _ => ?_)
set_option maxHeartbeats 8000000 in
set_option maxRecDepth 100000 in
theorem intervalmonref05_Compare.calls (k : Nat) (A0 : Option Addr) (c0 : Nat) (l0 : List (S33)) (A1 : Option Addr) (c1 : Nat) (l1 : List (S33)) (r : Int) (w : World) (hr0 : Kd.C k33 w A0 l0.length l0) (hc0 : l0.length ≤ c0) (hr1 : Kd.C k33 w A1 l1.length l1) (hc1 : l1.length ≤ c1) (h : intervalmonref05_Compare.f k l0 l1 = some r) :
  Calls Try.prog 31 #[.slice A0 l0.length c0, .slice A1 l1.length c1] w fun e w' => e = .returned (.int .i64 r) ∧ Drawn0 w w' := by
 have HR0 := Aside0.mk hr0
 have HC0 := Aside0.mk hc0
 clear hr0 hc0
 have HR1 := Aside0.mk hr1
 have HC1 := Aside0.mk hc1
 clear hr1 hc1
 have H : (intervalmonref05_Compare.l0 k l0 l1 0) = some r := h
 clear h
 have H' := Aside0.mk H
 clear H
 go_enter Try.func31, Try.ntmps31
 go_wp2
 repeat (go_quiet (fail); try go_wp2)
 go_loopg [5] k (fun kq v5 w' => ∃ (x5_1 : Int), v5 = .int .i64 x5_1 ∧ Aside0 (intervalmonref05_Compare.l0 kq l0 l1 x5_1 = some r) ∧ Aside0 (kq ≤ k) ∧ Drawn0 w w')
 case atStart => exact ⟨(0), (by first | rfl | (simp; done) | (simp [*]; done)), H', ⟨Nat.le_refl _⟩, by repeat (first | exact Drawn0.refl _ | apply Drawn0.step)⟩
 case round =>
  clear H'
  try clear c1
  try clear p2
  obtain ⟨x5_1, rfl, HA, HK1, ⟨m1, rfl⟩⟩ := hrel
  cases gk with
  | zero => exact absurd HA.out (by simp [intervalmonref05_Compare.l0])
  | succ k1 =>
   have H := HA.out
   clear HA
   simp only [intervalmonref05_Compare.l0] at H
   have HC3 := Aside0.mk H
   clear H
   go_upto_region 2 with (fail)
   repeat (go_quiet (fail); go_upto_region 2 with (fail))
   go_cut [16] (fun v16 wc => ∃ (kq : Nat) (x16_2 : Bool), v16 = .bool x16_2 ∧ Aside0 (intervalmonref05_Compare.j1 kq l0 l1 x5_1 x16_2 = some r) ∧ Aside0 (kq ≤ k1) ∧ Drawn0 w wc)
   case first =>
    have H := HC3.out
    clear HC3
    by_cases c4 : x5_1 < (l0.length : Int)
    ·rw [if_pos c4] at H
     have c4b0 : decide (x5_1 < (l0.length : Int)) = true := decide_eq_true c4
     clear c4
     (first | rw [c4b0] | (simp only [i64_w, i32_w]; rw [c4b0]) | skip)
     have H' := Aside0.mk H
     clear H
     go_wp2
     repeat (go_quiet (fail); try go_wp2)
     go_meet
     case rel => exact ⟨_, (decide (x5_1 < (l1.length : Int))), (by first | rfl | (simp; done) | (simp [*]; done)), H', ⟨by have := HK1.out; first | omega | exact Nat.le_refl _⟩, by repeat (first | exact Drawn0.refl _ | apply Drawn0.step)⟩
    ·rw [if_neg c4] at H
     have c4b0 : decide (x5_1 < (l0.length : Int)) = false := decide_eq_false c4
     clear c4
     (first | rw [c4b0] | (simp only [i64_w, i32_w]; rw [c4b0]) | skip)
     have H' := Aside0.mk H
     clear H
     go_wp2
     repeat (go_quiet (fail); try go_wp2)
     go_meet
     case rel => exact ⟨_, (false), (by first | rfl | (simp; done) | (simp [*]; done)), H', ⟨by have := HK1.out; first | omega | exact Nat.le_refl _⟩, by repeat (first | exact Drawn0.refl _ | apply Drawn0.step)⟩
   case rest =>
    clear HC3
    try clear c1
    try clear p2
    try clear c3
    try clear c4
    try clear c4b0
    try clear p2
    obtain ⟨kq, x16_2, rfl, HA, HJ2, ⟨mc2, rfl⟩⟩ := hcut
    cases kq with
    | zero => exact absurd HA.out (by simp [intervalmonref05_Compare.j1])
    | succ kj2 =>
     have H := HA.out
     clear HA
     simp only [intervalmonref05_Compare.j1] at H
     by_cases c5 : x16_2 = true
     ·subst c5
      have H1 : (if 0 ≤ x5_1 then (if x5_1 < (l0.length : Int) then (if x5_1 < (l1.length : Int) then ((intervalmonref05_order.f ((rd_T33 l0 x5_1).f0) ((rd_T33 l1 x5_1).f0)).bind fun t300 => (if t300 = 0 then ((intervalmonref05_order.f ((rd_T33 l0 x5_1).f1) ((rd_T33 l1 x5_1).f1)).bind fun t303 => (if t303 = 0 then (intervalmonref05_Compare.l0 kj2 l0 l1 (wrap64 (x5_1 + 1))) else (some t303))) else (some t300))) else (none)) else (none)) else (none)) = some r := by rw [if_pos rfl] at H; exact H
      clear H
      have H := H1
      clear H1
      by_cases c6 : 0 ≤ x5_1
      ·rw [if_pos c6] at H
       have c6b0 : decide (0 ≤ x5_1) = true := decide_eq_true c6
       clear c6
       by_cases c7 : x5_1 < (l0.length : Int)
       ·rw [if_pos c7] at H
        have c7b0 : decide (x5_1 < (l0.length : Int)) = true := decide_eq_true c7
        clear c7
        by_cases c8 : x5_1 < (l1.length : Int)
        ·rw [if_pos c8] at H
         have c8b0 : decide (x5_1 < (l1.length : Int)) = true := decide_eq_true c8
         clear c8
         replace H := Option.bind_eq_some_iff.mp H
         obtain ⟨t300, A90, H⟩ := H
         replace H : (if t300 = 0 then ((intervalmonref05_order.f ((rd_T33 l0 x5_1).f1) ((rd_T33 l1 x5_1).f1)).bind fun t303 => (if t303 = 0 then (intervalmonref05_Compare.l0 kj2 l0 l1 (wrap64 (x5_1 + 1))) else (some t303))) else (some t300)) = some r := H
         have A9 := Aside0.mk A90
         clear A90
         by_cases c10 : t300 = 0
         ·rw [if_pos c10] at H
          have c10b0 : (t300 == 0) = true := beq_iff_eq.mpr c10
          have c10b1 : (t300 != 0) = false := bne_eq_false_iff_eq.mpr c10
          clear c10
          replace H := Option.bind_eq_some_iff.mp H
          obtain ⟨t303, A110, H⟩ := H
          replace H : (if t303 = 0 then (intervalmonref05_Compare.l0 kj2 l0 l1 (wrap64 (x5_1 + 1))) else (some t303)) = some r := H
          have A11 := Aside0.mk A110
          clear A110
          by_cases c12 : t303 = 0
          ·rw [if_pos c12] at H
           have c12b0 : (t303 == 0) = true := beq_iff_eq.mpr c12
           have c12b1 : (t303 != 0) = false := bne_eq_false_iff_eq.mpr c12
           clear c12
           have H' := Aside0.mk H
           clear H
           have p298 : 0 ≤ (x5_1 : Int) := of_decide_eq_true (by first | (with_reducible assumption) | assumption)
           have q298 : x5_1 < (l0.length : Int) := of_decide_eq_true (by first | (with_reducible assumption) | assumption)
           obtain ⟨ad298, e298, hx298_0, hx298_1⟩ := at_T33 HR0.out x5_1 p298 q298
           cases e298
           replace p298 := eq_true p298
           replace q298 := eq_true q298
           have p299 : 0 ≤ (x5_1 : Int) := of_decide_eq_true (by first | (with_reducible assumption) | assumption)
           have q299 : x5_1 < (l1.length : Int) := of_decide_eq_true (by first | (with_reducible assumption) | assumption)
           obtain ⟨ad299, e299, hx299_0, hx299_1⟩ := at_T33 HR1.out x5_1 p299 q299
           cases e299
           replace p299 := eq_true p299
           replace q299 := eq_true q299
           go_wp2_with (first | (go_at_call 53; (with_reducible refine (intervalmonref05_order.calls ((rd_T33 l0 x5_1).f0) ((rd_T33 l1 x5_1).f0) t300 _ A9.out).mono ?_); rintro e w' ⟨rfl, ⟨nd, rfl⟩⟩; (try first | exact ⟨rfl, _, World.drewN_drewN _ _ _⟩ | exact ⟨rfl, _, Eq.trans (World.drewN_drewN _ _ _) (congrArg (World.drewN _) (Nat.add_assoc _ _ _))⟩); have p301 : 0 ≤ (x5_1 : Int) := of_decide_eq_true (by first | (with_reducible assumption) | assumption); have q301 : x5_1 < (l0.length : Int) := of_decide_eq_true (by first | (with_reducible assumption) | assumption); obtain ⟨ad301, e301, hx301_0, hx301_1⟩ := at_T33 HR0.out x5_1 p301 q301; obtain rfl : ad298 = ad301 := (by injection e301); replace p301 := eq_true p301; replace q301 := eq_true q301; have p302 : 0 ≤ (x5_1 : Int) := of_decide_eq_true (by first | (with_reducible assumption) | assumption); have q302 : x5_1 < (l1.length : Int) := of_decide_eq_true (by first | (with_reducible assumption) | assumption); obtain ⟨ad302, e302, hx302_0, hx302_1⟩ := at_T33 HR1.out x5_1 p302 q302; obtain rfl : ad299 = ad302 := (by injection e302); replace p302 := eq_true p302; replace q302 := eq_true q302) | (go_at_call 53; (with_reducible refine (intervalmonref05_order.calls ((rd_T33 l0 x5_1).f1) ((rd_T33 l1 x5_1).f1) t303 _ A11.out).mono ?_); rintro e w' ⟨rfl, ⟨nd, rfl⟩⟩; (try first | exact ⟨rfl, _, World.drewN_drewN _ _ _⟩ | exact ⟨rfl, _, Eq.trans (World.drewN_drewN _ _ _) (congrArg (World.drewN _) (Nat.add_assoc _ _ _))⟩)))
           repeat (go_quiet (first | (go_at_call 53; (with_reducible refine (intervalmonref05_order.calls ((rd_T33 l0 x5_1).f0) ((rd_T33 l1 x5_1).f0) t300 _ A9.out).mono ?_); rintro e w' ⟨rfl, ⟨nd, rfl⟩⟩; (try first | exact ⟨rfl, _, World.drewN_drewN _ _ _⟩ | exact ⟨rfl, _, Eq.trans (World.drewN_drewN _ _ _) (congrArg (World.drewN _) (Nat.add_assoc _ _ _))⟩); have p301 : 0 ≤ (x5_1 : Int) := of_decide_eq_true (by first | (with_reducible assumption) | assumption); have q301 : x5_1 < (l0.length : Int) := of_decide_eq_true (by first | (with_reducible assumption) | assumption); obtain ⟨ad301, e301, hx301_0, hx301_1⟩ := at_T33 HR0.out x5_1 p301 q301; obtain rfl : ad298 = ad301 := (by injection e301); replace p301 := eq_true p301; replace q301 := eq_true q301; have p302 : 0 ≤ (x5_1 : Int) := of_decide_eq_true (by first | (with_reducible assumption) | assumption); have q302 : x5_1 < (l1.length : Int) := of_decide_eq_true (by first | (with_reducible assumption) | assumption); obtain ⟨ad302, e302, hx302_0, hx302_1⟩ := at_T33 HR1.out x5_1 p302 q302; obtain rfl : ad299 = ad302 := (by injection e302); replace p302 := eq_true p302; replace q302 := eq_true q302) | (go_at_call 53; (with_reducible refine (intervalmonref05_order.calls ((rd_T33 l0 x5_1).f1) ((rd_T33 l1 x5_1).f1) t303 _ A11.out).mono ?_); rintro e w' ⟨rfl, ⟨nd, rfl⟩⟩; (try first | exact ⟨rfl, _, World.drewN_drewN _ _ _⟩ | exact ⟨rfl, _, Eq.trans (World.drewN_drewN _ _ _) (congrArg (World.drewN _) (Nat.add_assoc _ _ _))⟩))); try go_wp2_with (first | (go_at_call 53; (with_reducible refine (intervalmonref05_order.calls ((rd_T33 l0 x5_1).f0) ((rd_T33 l1 x5_1).f0) t300 _ A9.out).mono ?_); rintro e w' ⟨rfl, ⟨nd, rfl⟩⟩; (try first | exact ⟨rfl, _, World.drewN_drewN _ _ _⟩ | exact ⟨rfl, _, Eq.trans (World.drewN_drewN _ _ _) (congrArg (World.drewN _) (Nat.add_assoc _ _ _))⟩); have p301 : 0 ≤ (x5_1 : Int) := of_decide_eq_true (by first | (with_reducible assumption) | assumption); have q301 : x5_1 < (l0.length : Int) := of_decide_eq_true (by first | (with_reducible assumption) | assumption); obtain ⟨ad301, e301, hx301_0, hx301_1⟩ := at_T33 HR0.out x5_1 p301 q301; obtain rfl : ad298 = ad301 := (by injection e301); replace p301 := eq_true p301; replace q301 := eq_true q301; have p302 : 0 ≤ (x5_1 : Int) := of_decide_eq_true (by first | (with_reducible assumption) | assumption); have q302 : x5_1 < (l1.length : Int) := of_decide_eq_true (by first | (with_reducible assumption) | assumption); obtain ⟨ad302, e302, hx302_0, hx302_1⟩ := at_T33 HR1.out x5_1 p302 q302; obtain rfl : ad299 = ad302 := (by injection e302); replace p302 := eq_true p302; replace q302 := eq_true q302) | (go_at_call 53; (with_reducible refine (intervalmonref05_order.calls ((rd_T33 l0 x5_1).f1) ((rd_T33 l1 x5_1).f1) t303 _ A11.out).mono ?_); rintro e w' ⟨rfl, ⟨nd, rfl⟩⟩; (try first | exact ⟨rfl, _, World.drewN_drewN _ _ _⟩ | exact ⟨rfl, _, Eq.trans (World.drewN_drewN _ _ _) (congrArg (World.drewN _) (Nat.add_assoc _ _ _))⟩))))
           go_roundg kj2
           case measure => have := HK1.out; have := HJ2.out; omega
           case rel => exact ⟨(wrap64 (x5_1 + 1)), (by first | rfl | (simp; done) | (simp [*]; done)), H', ⟨by have := HK1.out; have := HJ2.out; omega⟩, by repeat (first | exact Drawn0.refl _ | apply Drawn0.step)⟩
          ·rw [if_neg c12] at H
           have c12b0 : (t303 == 0) = false := beq_eq_false_iff_ne.mpr c12
           have c12b1 : (t303 != 0) = true := bne_iff_ne.mpr c12
           obtain rfl := Option.some.inj H
           have p298 : 0 ≤ (x5_1 : Int) := of_decide_eq_true (by first | (with_reducible assumption) | assumption)
           have q298 : x5_1 < (l0.length : Int) := of_decide_eq_true (by first | (with_reducible assumption) | assumption)
           obtain ⟨ad298, e298, hx298_0, hx298_1⟩ := at_T33 HR0.out x5_1 p298 q298
           cases e298
           replace p298 := eq_true p298
           replace q298 := eq_true q298
           have p299 : 0 ≤ (x5_1 : Int) := of_decide_eq_true (by first | (with_reducible assumption) | assumption)
           have q299 : x5_1 < (l1.length : Int) := of_decide_eq_true (by first | (with_reducible assumption) | assumption)
           obtain ⟨ad299, e299, hx299_0, hx299_1⟩ := at_T33 HR1.out x5_1 p299 q299
           cases e299
           replace p299 := eq_true p299
           replace q299 := eq_true q299
           go_wp2_with (first | (go_at_call 53; (with_reducible refine (intervalmonref05_order.calls ((rd_T33 l0 x5_1).f0) ((rd_T33 l1 x5_1).f0) t300 _ A9.out).mono ?_); rintro e w' ⟨rfl, ⟨nd, rfl⟩⟩; (try first | exact ⟨rfl, _, World.drewN_drewN _ _ _⟩ | exact ⟨rfl, _, Eq.trans (World.drewN_drewN _ _ _) (congrArg (World.drewN _) (Nat.add_assoc _ _ _))⟩); have p301 : 0 ≤ (x5_1 : Int) := of_decide_eq_true (by first | (with_reducible assumption) | assumption); have q301 : x5_1 < (l0.length : Int) := of_decide_eq_true (by first | (with_reducible assumption) | assumption); obtain ⟨ad301, e301, hx301_0, hx301_1⟩ := at_T33 HR0.out x5_1 p301 q301; obtain rfl : ad298 = ad301 := (by injection e301); replace p301 := eq_true p301; replace q301 := eq_true q301; have p302 : 0 ≤ (x5_1 : Int) := of_decide_eq_true (by first | (with_reducible assumption) | assumption); have q302 : x5_1 < (l1.length : Int) := of_decide_eq_true (by first | (with_reducible assumption) | assumption); obtain ⟨ad302, e302, hx302_0, hx302_1⟩ := at_T33 HR1.out x5_1 p302 q302; obtain rfl : ad299 = ad302 := (by injection e302); replace p302 := eq_true p302; replace q302 := eq_true q302) | (go_at_call 53; (with_reducible refine (intervalmonref05_order.calls ((rd_T33 l0 x5_1).f1) ((rd_T33 l1 x5_1).f1) t303 _ A11.out).mono ?_); rintro e w' ⟨rfl, ⟨nd, rfl⟩⟩; (try first | exact ⟨rfl, _, World.drewN_drewN _ _ _⟩ | exact ⟨rfl, _, Eq.trans (World.drewN_drewN _ _ _) (congrArg (World.drewN _) (Nat.add_assoc _ _ _))⟩)))
           repeat (go_quiet (first | (go_at_call 53; (with_reducible refine (intervalmonref05_order.calls ((rd_T33 l0 x5_1).f0) ((rd_T33 l1 x5_1).f0) t300 _ A9.out).mono ?_); rintro e w' ⟨rfl, ⟨nd, rfl⟩⟩; (try first | exact ⟨rfl, _, World.drewN_drewN _ _ _⟩ | exact ⟨rfl, _, Eq.trans (World.drewN_drewN _ _ _) (congrArg (World.drewN _) (Nat.add_assoc _ _ _))⟩); have p301 : 0 ≤ (x5_1 : Int) := of_decide_eq_true (by first | (with_reducible assumption) | assumption); have q301 : x5_1 < (l0.length : Int) := of_decide_eq_true (by first | (with_reducible assumption) | assumption); obtain ⟨ad301, e301, hx301_0, hx301_1⟩ := at_T33 HR0.out x5_1 p301 q301; obtain rfl : ad298 = ad301 := (by injection e301); replace p301 := eq_true p301; replace q301 := eq_true q301; have p302 : 0 ≤ (x5_1 : Int) := of_decide_eq_true (by first | (with_reducible assumption) | assumption); have q302 : x5_1 < (l1.length : Int) := of_decide_eq_true (by first | (with_reducible assumption) | assumption); obtain ⟨ad302, e302, hx302_0, hx302_1⟩ := at_T33 HR1.out x5_1 p302 q302; obtain rfl : ad299 = ad302 := (by injection e302); replace p302 := eq_true p302; replace q302 := eq_true q302) | (go_at_call 53; (with_reducible refine (intervalmonref05_order.calls ((rd_T33 l0 x5_1).f1) ((rd_T33 l1 x5_1).f1) t303 _ A11.out).mono ?_); rintro e w' ⟨rfl, ⟨nd, rfl⟩⟩; (try first | exact ⟨rfl, _, World.drewN_drewN _ _ _⟩ | exact ⟨rfl, _, Eq.trans (World.drewN_drewN _ _ _) (congrArg (World.drewN _) (Nat.add_assoc _ _ _))⟩))); try go_wp2_with (first | (go_at_call 53; (with_reducible refine (intervalmonref05_order.calls ((rd_T33 l0 x5_1).f0) ((rd_T33 l1 x5_1).f0) t300 _ A9.out).mono ?_); rintro e w' ⟨rfl, ⟨nd, rfl⟩⟩; (try first | exact ⟨rfl, _, World.drewN_drewN _ _ _⟩ | exact ⟨rfl, _, Eq.trans (World.drewN_drewN _ _ _) (congrArg (World.drewN _) (Nat.add_assoc _ _ _))⟩); have p301 : 0 ≤ (x5_1 : Int) := of_decide_eq_true (by first | (with_reducible assumption) | assumption); have q301 : x5_1 < (l0.length : Int) := of_decide_eq_true (by first | (with_reducible assumption) | assumption); obtain ⟨ad301, e301, hx301_0, hx301_1⟩ := at_T33 HR0.out x5_1 p301 q301; obtain rfl : ad298 = ad301 := (by injection e301); replace p301 := eq_true p301; replace q301 := eq_true q301; have p302 : 0 ≤ (x5_1 : Int) := of_decide_eq_true (by first | (with_reducible assumption) | assumption); have q302 : x5_1 < (l1.length : Int) := of_decide_eq_true (by first | (with_reducible assumption) | assumption); obtain ⟨ad302, e302, hx302_0, hx302_1⟩ := at_T33 HR1.out x5_1 p302 q302; obtain rfl : ad299 = ad302 := (by injection e302); replace p302 := eq_true p302; replace q302 := eq_true q302) | (go_at_call 53; (with_reducible refine (intervalmonref05_order.calls ((rd_T33 l0 x5_1).f1) ((rd_T33 l1 x5_1).f1) t303 _ A11.out).mono ?_); rintro e w' ⟨rfl, ⟨nd, rfl⟩⟩; (try first | exact ⟨rfl, _, World.drewN_drewN _ _ _⟩ | exact ⟨rfl, _, Eq.trans (World.drewN_drewN _ _ _) (congrArg (World.drewN _) (Nat.add_assoc _ _ _))⟩))))
           go_ret
           exact ⟨by first | rfl | (simp; done) | (simp [*]; done), by repeat (first | exact Drawn0.refl _ | apply Drawn0.step)⟩
         ·rw [if_neg c10] at H
          have c10b0 : (t300 == 0) = false := beq_eq_false_iff_ne.mpr c10
          have c10b1 : (t300 != 0) = true := bne_iff_ne.mpr c10
          obtain rfl := Option.some.inj H
          have p298 : 0 ≤ (x5_1 : Int) := of_decide_eq_true (by first | (with_reducible assumption) | assumption)
          have q298 : x5_1 < (l0.length : Int) := of_decide_eq_true (by first | (with_reducible assumption) | assumption)
          obtain ⟨ad298, e298, hx298_0, hx298_1⟩ := at_T33 HR0.out x5_1 p298 q298
          cases e298
          replace p298 := eq_true p298
          replace q298 := eq_true q298
          have p299 : 0 ≤ (x5_1 : Int) := of_decide_eq_true (by first | (with_reducible assumption) | assumption)
          have q299 : x5_1 < (l1.length : Int) := of_decide_eq_true (by first | (with_reducible assumption) | assumption)
          obtain ⟨ad299, e299, hx299_0, hx299_1⟩ := at_T33 HR1.out x5_1 p299 q299
          cases e299
          replace p299 := eq_true p299
          replace q299 := eq_true q299
          go_wp2_with (first | (go_at_call 53; (with_reducible refine (intervalmonref05_order.calls ((rd_T33 l0 x5_1).f0) ((rd_T33 l1 x5_1).f0) t300 _ A9.out).mono ?_); rintro e w' ⟨rfl, ⟨nd, rfl⟩⟩; (try first | exact ⟨rfl, _, World.drewN_drewN _ _ _⟩ | exact ⟨rfl, _, Eq.trans (World.drewN_drewN _ _ _) (congrArg (World.drewN _) (Nat.add_assoc _ _ _))⟩)))
          repeat (go_quiet (first | (go_at_call 53; (with_reducible refine (intervalmonref05_order.calls ((rd_T33 l0 x5_1).f0) ((rd_T33 l1 x5_1).f0) t300 _ A9.out).mono ?_); rintro e w' ⟨rfl, ⟨nd, rfl⟩⟩; (try first | exact ⟨rfl, _, World.drewN_drewN _ _ _⟩ | exact ⟨rfl, _, Eq.trans (World.drewN_drewN _ _ _) (congrArg (World.drewN _) (Nat.add_assoc _ _ _))⟩))); try go_wp2_with (first | (go_at_call 53; (with_reducible refine (intervalmonref05_order.calls ((rd_T33 l0 x5_1).f0) ((rd_T33 l1 x5_1).f0) t300 _ A9.out).mono ?_); rintro e w' ⟨rfl, ⟨nd, rfl⟩⟩; (try first | exact ⟨rfl, _, World.drewN_drewN _ _ _⟩ | exact ⟨rfl, _, Eq.trans (World.drewN_drewN _ _ _) (congrArg (World.drewN _) (Nat.add_assoc _ _ _))⟩))))
          go_ret
          exact ⟨by first | rfl | (simp; done) | (simp [*]; done), by repeat (first | exact Drawn0.refl _ | apply Drawn0.step)⟩
        ·rw [if_neg c8] at H
         exact absurd H (by simp)
       ·rw [if_neg c7] at H
        exact absurd H (by simp)
      ·rw [if_neg c6] at H
       exact absurd H (by simp)
     ·replace c5 := Bool.eq_false_iff.mpr c5
      subst c5
      have H1 : (if (l0.length : Int) < (l1.length : Int) then (some (-1)) else (if (l0.length : Int) > (l1.length : Int) then (some 1) else (some 0))) = some r := by rw [if_neg (show ¬ (false = true) by decide)] at H; exact H
      clear H
      have H := H1
      clear H1
      by_cases c13 : (l0.length : Int) < (l1.length : Int)
      ·rw [if_pos c13] at H
       have c13b0 : decide ((l0.length : Int) < (l1.length : Int)) = true := decide_eq_true c13
       have c13b1 : decide (l0.length < l1.length) = true := decide_eq_true (Int.ofNat_lt.mp c13)
       clear c13
       obtain rfl := Option.some.inj H
       go_wp2
       repeat (go_quiet (fail); try go_wp2)
       go_ret
       exact ⟨by first | rfl | (simp; done) | (simp [*]; done), by repeat (first | exact Drawn0.refl _ | apply Drawn0.step)⟩
      ·rw [if_neg c13] at H
       have c13b0 : decide ((l0.length : Int) < (l1.length : Int)) = false := decide_eq_false c13
       have c13b1 : decide (l0.length < l1.length) = false := decide_eq_false (fun h => c13 (Int.ofNat_lt.mpr h))
       clear c13
       by_cases c14 : (l0.length : Int) > (l1.length : Int)
       ·rw [if_pos c14] at H
        have c14b0 : decide ((l1.length : Int) < (l0.length : Int)) = true := decide_eq_true c14
        have c14b1 : decide (l1.length < l0.length) = true := decide_eq_true (Int.ofNat_lt.mp c14)
        clear c14
        obtain rfl := Option.some.inj H
        go_wp2
        repeat (go_quiet (fail); try go_wp2)
        go_ret
        exact ⟨by first | rfl | (simp; done) | (simp [*]; done), by repeat (first | exact Drawn0.refl _ | apply Drawn0.step)⟩
       ·rw [if_neg c14] at H
        have c14b0 : decide ((l1.length : Int) < (l0.length : Int)) = false := decide_eq_false c14
        have c14b1 : decide (l1.length < l0.length) = false := decide_eq_false (fun h => c14 (Int.ofNat_lt.mpr h))
        clear c14
        obtain rfl := Option.some.inj H
        go_wp2
        repeat (go_quiet (fail); try go_wp2)
        go_ret
        exact ⟨by first | rfl | (simp; done) | (simp [*]; done), by repeat (first | exact Drawn0.refl _ | apply Drawn0.step)⟩

/-! ### intervalmonlaw05_LabelsOrder: function 6 -/
mutual
def intervalmonlaw05_LabelsOrder.j0 : Nat → List (S33) → List (S33) → List (S33) → Int → Int → Int → Bool → Option (Bool)
 | 0, _, _, _, _, _, _, _ => none
 | k + 1, x7, x8, x9, x10, x11, x12, x55 => if x55 = true then (some false) else (if x10 ≤ 0 then (if x11 ≤ 0 then (if x12 > 0 then (intervalmonlaw05_LabelsOrder.j1 k x7 x8 x9 x10 x12 true) else (if x10 ≥ 0 then (if x11 ≥ 0 then (intervalmonlaw05_LabelsOrder.j1 k x7 x8 x9 x10 x12 (decide (x12 < 0))) else (intervalmonlaw05_LabelsOrder.j1 k x7 x8 x9 x10 x12 false)) else (intervalmonlaw05_LabelsOrder.j1 k x7 x8 x9 x10 x12 false))) else (if x10 ≥ 0 then (if x11 ≥ 0 then (intervalmonlaw05_LabelsOrder.j1 k x7 x8 x9 x10 x12 (decide (x12 < 0))) else (intervalmonlaw05_LabelsOrder.j1 k x7 x8 x9 x10 x12 false)) else (intervalmonlaw05_LabelsOrder.j1 k x7 x8 x9 x10 x12 false))) else (if x10 ≥ 0 then (if x11 ≥ 0 then (intervalmonlaw05_LabelsOrder.j1 k x7 x8 x9 x10 x12 (decide (x12 < 0))) else (intervalmonlaw05_LabelsOrder.j1 k x7 x8 x9 x10 x12 false)) else (intervalmonlaw05_LabelsOrder.j1 k x7 x8 x9 x10 x12 false)))
def intervalmonlaw05_LabelsOrder.j1 : Nat → List (S33) → List (S33) → List (S33) → Int → Int → Bool → Option (Bool)
 | 0, _, _, _, _, _, _ => none
 | k + 1, x7, x8, x9, x10, x12, x77 => if x77 = true then (some false) else ((intervalmonref05_Same.f k x7 x9).bind fun t320 => (if ((x12 == 0) == t320) = true then ((intervalmonref05_Same.f k x7 x8).bind fun t321 => (if ((x10 == 0) == t321) = true then ((labels_Compare.f x7 x7).bind fun t322 => (if t322 = 0 then ((intervalmonlaw05_lives.f).bind fun t323 => (some t323)) else (some false))) else (some false))) else (some false)))
end
def intervalmonlaw05_LabelsOrder.f (k : Nat) (l0 : List Int) (l1 : List Int) (l2 : List Int) : Option (Bool) := (intervalmonref05_Set.f k l0).bind fun t304 => ((intervalmonref05_Dirty.f k l1).bind fun t307 => ((intervalmonref05_Set.f k l2).bind fun t310 => ((labels_Compare.f t304 t307).bind fun t313 => ((labels_Compare.f t307 t310).bind fun t314 => ((labels_Compare.f t304 t310).bind fun t315 => ((intervalmonref05_Compare.f k t304 t307).bind fun t316 => (if t313 = t316 then ((labels_Compare.f t307 t304).bind fun t317 => (if t317 = (wrap64 (-t313)) then ((intervalmonref05_Compare.f k t304 t310).bind fun t318 => (if t315 = t318 then ((labels_Compare.f t310 t304).bind fun t319 => (intervalmonlaw05_LabelsOrder.j0 k t304 t307 t310 t313 t314 t315 (t319 != (wrap64 (-t315))))) else (intervalmonlaw05_LabelsOrder.j0 k t304 t307 t310 t313 t314 t315 true))) else (intervalmonlaw05_LabelsOrder.j0 k t304 t307 t310 t313 t314 t315 true))) else (intervalmonlaw05_LabelsOrder.j0 k t304 t307 t310 t313 t314 t315 true))))))))
theorem intervalmonlaw05_LabelsOrder.mono_l : ∀ k, (∀ y0 y1 y2 y3 y4 y5 y6, LeO (intervalmonlaw05_LabelsOrder.j0 k y0 y1 y2 y3 y4 y5 y6) (intervalmonlaw05_LabelsOrder.j0 (k + 1) y0 y1 y2 y3 y4 y5 y6)) ∧ (∀ y0 y1 y2 y3 y4 y5, LeO (intervalmonlaw05_LabelsOrder.j1 k y0 y1 y2 y3 y4 y5) (intervalmonlaw05_LabelsOrder.j1 (k + 1) y0 y1 y2 y3 y4 y5))
 | 0 => ⟨fun _ _ _ _ _ _ _ r h => by simp [intervalmonlaw05_LabelsOrder.j0] at h, fun _ _ _ _ _ _ r h => by simp [intervalmonlaw05_LabelsOrder.j1] at h⟩
 | k + 1 => by
  obtain ⟨ih0, ih1⟩ := intervalmonlaw05_LabelsOrder.mono_l k
  refine ⟨?_, ?_⟩
  ·intro y0 y1 y2 y3 y4 y5 y6
   unfold intervalmonlaw05_LabelsOrder.j0
   repeat' first
   | (with_reducible exact ih0 _ _ _ _ _ _ _)
   | (with_reducible exact ih1 _ _ _ _ _ _)
   | (with_reducible exact intervalmonref05_Compare.mono _ _ _)
   | (with_reducible exact intervalmonref05_Dirty.mono _ _)
   | (with_reducible exact intervalmonref05_Same.mono _ _ _)
   | (with_reducible exact intervalmonref05_Set.mono _ _)
   | (with_reducible exact LeO.refl _)
   | (with_reducible exact LeO.none _)
   | (with_reducible refine LeO.ite ?_ ?_)
   | (with_reducible refine LeO.bind ?_ (fun _ => ?_))
   | exact ih0 _ _ _ _ _ _ _
   | exact ih1 _ _ _ _ _ _
   | exact intervalmonref05_Compare.mono _ _ _
   | exact intervalmonref05_Dirty.mono _ _
   | exact intervalmonref05_Same.mono _ _ _
   | exact intervalmonref05_Set.mono _ _
   | exact LeO.none _
   | refine LeO.ite ?_ ?_
   | refine LeO.bind ?_ (fun _ => ?_)
  ·intro y0 y1 y2 y3 y4 y5
   unfold intervalmonlaw05_LabelsOrder.j1
   repeat' first
   | (with_reducible exact ih0 _ _ _ _ _ _ _)
   | (with_reducible exact ih1 _ _ _ _ _ _)
   | (with_reducible exact intervalmonref05_Compare.mono _ _ _)
   | (with_reducible exact intervalmonref05_Dirty.mono _ _)
   | (with_reducible exact intervalmonref05_Same.mono _ _ _)
   | (with_reducible exact intervalmonref05_Set.mono _ _)
   | (with_reducible exact LeO.refl _)
   | (with_reducible exact LeO.none _)
   | (with_reducible refine LeO.ite ?_ ?_)
   | (with_reducible refine LeO.bind ?_ (fun _ => ?_))
   | exact ih0 _ _ _ _ _ _ _
   | exact ih1 _ _ _ _ _ _
   | exact intervalmonref05_Compare.mono _ _ _
   | exact intervalmonref05_Dirty.mono _ _
   | exact intervalmonref05_Same.mono _ _ _
   | exact intervalmonref05_Set.mono _ _
   | exact LeO.none _
   | refine LeO.ite ?_ ?_
   | refine LeO.bind ?_ (fun _ => ?_)
theorem intervalmonlaw05_LabelsOrder.mono : ∀ a0 a1 a2 k, LeO (intervalmonlaw05_LabelsOrder.f k a0 a1 a2) (intervalmonlaw05_LabelsOrder.f (k + 1) a0 a1 a2) := by
 intro a0 a1 a2 k
 obtain ⟨ih0, ih1⟩ := intervalmonlaw05_LabelsOrder.mono_l k
 unfold intervalmonlaw05_LabelsOrder.f
 repeat' first
   | (with_reducible exact ih0 _ _ _ _ _ _ _)
   | (with_reducible exact ih1 _ _ _ _ _ _)
   | (with_reducible exact intervalmonref05_Compare.mono _ _ _)
   | (with_reducible exact intervalmonref05_Dirty.mono _ _)
   | (with_reducible exact intervalmonref05_Same.mono _ _ _)
   | (with_reducible exact intervalmonref05_Set.mono _ _)
   | (with_reducible exact LeO.refl _)
   | (with_reducible exact LeO.none _)
   | (with_reducible refine LeO.ite ?_ ?_)
   | (with_reducible refine LeO.bind ?_ (fun _ => ?_))
   | exact ih0 _ _ _ _ _ _ _
   | exact ih1 _ _ _ _ _ _
   | exact intervalmonref05_Compare.mono _ _ _
   | exact intervalmonref05_Dirty.mono _ _
   | exact intervalmonref05_Same.mono _ _ _
   | exact intervalmonref05_Set.mono _ _
   | exact LeO.none _
   | refine LeO.ite ?_ ?_
   | refine LeO.bind ?_ (fun _ => ?_)
set_option maxHeartbeats 8000000 in
set_option maxRecDepth 100000 in
theorem intervalmonlaw05_LabelsOrder.calls (k : Nat) (A0 : Option Addr) (c0 : Nat) (l0 : List Int) (A1 : Option Addr) (c1 : Nat) (l1 : List Int) (A2 : Option Addr) (c2 : Nat) (l2 : List Int) (r : Bool) (w : World) (hr0 : Kd.C (Kd.int .i64) w A0 l0.length l0) (hc0 : l0.length ≤ c0) (hr1 : Kd.C (Kd.int .i64) w A1 l1.length l1) (hc1 : l1.length ≤ c1) (hr2 : Kd.C (Kd.int .i64) w A2 l2.length l2) (hc2 : l2.length ≤ c2) (h : intervalmonlaw05_LabelsOrder.f k l0 l1 l2 = some r) (hT : r = true := by first | rfl | assumption) :
  Calls Try.prog 6 #[.slice A0 l0.length c0, .slice A1 l1.length c1, .slice A2 l2.length c2] w fun e w' => e = .returned (.bool r) ∧ Below w.heap.size w w' := by
 have HT0 := Aside0.mk hT
 clear hT
 have HR0 := Aside0.mk hr0
 have HC0 := Aside0.mk hc0
 clear hr0 hc0
 have HR1 := Aside0.mk hr1
 have HC1 := Aside0.mk hc1
 clear hr1 hc1
 have HR2 := Aside0.mk hr2
 have HC2 := Aside0.mk hc2
 clear hr2 hc2
 have HB := Aside0.mk (Below.refl w.heap.size w)
 have H : ((intervalmonref05_Set.f k l0).bind fun t304 => ((intervalmonref05_Dirty.f k l1).bind fun t307 => ((intervalmonref05_Set.f k l2).bind fun t310 => ((labels_Compare.f t304 t307).bind fun t313 => ((labels_Compare.f t307 t310).bind fun t314 => ((labels_Compare.f t304 t310).bind fun t315 => ((intervalmonref05_Compare.f k t304 t307).bind fun t316 => (if t313 = t316 then ((labels_Compare.f t307 t304).bind fun t317 => (if t317 = (wrap64 (-t313)) then ((intervalmonref05_Compare.f k t304 t310).bind fun t318 => (if t315 = t318 then ((labels_Compare.f t310 t304).bind fun t319 => (intervalmonlaw05_LabelsOrder.j0 k t304 t307 t310 t313 t314 t315 (t319 != (wrap64 (-t315))))) else (intervalmonlaw05_LabelsOrder.j0 k t304 t307 t310 t313 t314 t315 true))) else (intervalmonlaw05_LabelsOrder.j0 k t304 t307 t310 t313 t314 t315 true))) else (intervalmonlaw05_LabelsOrder.j0 k t304 t307 t310 t313 t314 t315 true))))))))) = some r := h
 clear h
 replace H := Option.bind_eq_some_iff.mp H
 obtain ⟨t304, A40, H⟩ := H
 replace H : ((intervalmonref05_Dirty.f k l1).bind fun t307 => ((intervalmonref05_Set.f k l2).bind fun t310 => ((labels_Compare.f t304 t307).bind fun t313 => ((labels_Compare.f t307 t310).bind fun t314 => ((labels_Compare.f t304 t310).bind fun t315 => ((intervalmonref05_Compare.f k t304 t307).bind fun t316 => (if t313 = t316 then ((labels_Compare.f t307 t304).bind fun t317 => (if t317 = (wrap64 (-t313)) then ((intervalmonref05_Compare.f k t304 t310).bind fun t318 => (if t315 = t318 then ((labels_Compare.f t310 t304).bind fun t319 => (intervalmonlaw05_LabelsOrder.j0 k t304 t307 t310 t313 t314 t315 (t319 != (wrap64 (-t315))))) else (intervalmonlaw05_LabelsOrder.j0 k t304 t307 t310 t313 t314 t315 true))) else (intervalmonlaw05_LabelsOrder.j0 k t304 t307 t310 t313 t314 t315 true))) else (intervalmonlaw05_LabelsOrder.j0 k t304 t307 t310 t313 t314 t315 true)))))))) = some r := H
 have A4 := Aside0.mk A40
 clear A40
 replace H := Option.bind_eq_some_iff.mp H
 obtain ⟨t307, A50, H⟩ := H
 replace H : ((intervalmonref05_Set.f k l2).bind fun t310 => ((labels_Compare.f t304 t307).bind fun t313 => ((labels_Compare.f t307 t310).bind fun t314 => ((labels_Compare.f t304 t310).bind fun t315 => ((intervalmonref05_Compare.f k t304 t307).bind fun t316 => (if t313 = t316 then ((labels_Compare.f t307 t304).bind fun t317 => (if t317 = (wrap64 (-t313)) then ((intervalmonref05_Compare.f k t304 t310).bind fun t318 => (if t315 = t318 then ((labels_Compare.f t310 t304).bind fun t319 => (intervalmonlaw05_LabelsOrder.j0 k t304 t307 t310 t313 t314 t315 (t319 != (wrap64 (-t315))))) else (intervalmonlaw05_LabelsOrder.j0 k t304 t307 t310 t313 t314 t315 true))) else (intervalmonlaw05_LabelsOrder.j0 k t304 t307 t310 t313 t314 t315 true))) else (intervalmonlaw05_LabelsOrder.j0 k t304 t307 t310 t313 t314 t315 true))))))) = some r := H
 have A5 := Aside0.mk A50
 clear A50
 replace H := Option.bind_eq_some_iff.mp H
 obtain ⟨t310, A60, H⟩ := H
 replace H : ((labels_Compare.f t304 t307).bind fun t313 => ((labels_Compare.f t307 t310).bind fun t314 => ((labels_Compare.f t304 t310).bind fun t315 => ((intervalmonref05_Compare.f k t304 t307).bind fun t316 => (if t313 = t316 then ((labels_Compare.f t307 t304).bind fun t317 => (if t317 = (wrap64 (-t313)) then ((intervalmonref05_Compare.f k t304 t310).bind fun t318 => (if t315 = t318 then ((labels_Compare.f t310 t304).bind fun t319 => (intervalmonlaw05_LabelsOrder.j0 k t304 t307 t310 t313 t314 t315 (t319 != (wrap64 (-t315))))) else (intervalmonlaw05_LabelsOrder.j0 k t304 t307 t310 t313 t314 t315 true))) else (intervalmonlaw05_LabelsOrder.j0 k t304 t307 t310 t313 t314 t315 true))) else (intervalmonlaw05_LabelsOrder.j0 k t304 t307 t310 t313 t314 t315 true)))))) = some r := H
 have A6 := Aside0.mk A60
 clear A60
 replace H := Option.bind_eq_some_iff.mp H
 obtain ⟨t313, A70, H⟩ := H
 replace H : ((labels_Compare.f t307 t310).bind fun t314 => ((labels_Compare.f t304 t310).bind fun t315 => ((intervalmonref05_Compare.f k t304 t307).bind fun t316 => (if t313 = t316 then ((labels_Compare.f t307 t304).bind fun t317 => (if t317 = (wrap64 (-t313)) then ((intervalmonref05_Compare.f k t304 t310).bind fun t318 => (if t315 = t318 then ((labels_Compare.f t310 t304).bind fun t319 => (intervalmonlaw05_LabelsOrder.j0 k t304 t307 t310 t313 t314 t315 (t319 != (wrap64 (-t315))))) else (intervalmonlaw05_LabelsOrder.j0 k t304 t307 t310 t313 t314 t315 true))) else (intervalmonlaw05_LabelsOrder.j0 k t304 t307 t310 t313 t314 t315 true))) else (intervalmonlaw05_LabelsOrder.j0 k t304 t307 t310 t313 t314 t315 true))))) = some r := H
 have A7 := Aside0.mk A70
 clear A70
 replace H := Option.bind_eq_some_iff.mp H
 obtain ⟨t314, A80, H⟩ := H
 replace H : ((labels_Compare.f t304 t310).bind fun t315 => ((intervalmonref05_Compare.f k t304 t307).bind fun t316 => (if t313 = t316 then ((labels_Compare.f t307 t304).bind fun t317 => (if t317 = (wrap64 (-t313)) then ((intervalmonref05_Compare.f k t304 t310).bind fun t318 => (if t315 = t318 then ((labels_Compare.f t310 t304).bind fun t319 => (intervalmonlaw05_LabelsOrder.j0 k t304 t307 t310 t313 t314 t315 (t319 != (wrap64 (-t315))))) else (intervalmonlaw05_LabelsOrder.j0 k t304 t307 t310 t313 t314 t315 true))) else (intervalmonlaw05_LabelsOrder.j0 k t304 t307 t310 t313 t314 t315 true))) else (intervalmonlaw05_LabelsOrder.j0 k t304 t307 t310 t313 t314 t315 true)))) = some r := H
 have A8 := Aside0.mk A80
 clear A80
 replace H := Option.bind_eq_some_iff.mp H
 obtain ⟨t315, A90, H⟩ := H
 replace H : ((intervalmonref05_Compare.f k t304 t307).bind fun t316 => (if t313 = t316 then ((labels_Compare.f t307 t304).bind fun t317 => (if t317 = (wrap64 (-t313)) then ((intervalmonref05_Compare.f k t304 t310).bind fun t318 => (if t315 = t318 then ((labels_Compare.f t310 t304).bind fun t319 => (intervalmonlaw05_LabelsOrder.j0 k t304 t307 t310 t313 t314 t315 (t319 != (wrap64 (-t315))))) else (intervalmonlaw05_LabelsOrder.j0 k t304 t307 t310 t313 t314 t315 true))) else (intervalmonlaw05_LabelsOrder.j0 k t304 t307 t310 t313 t314 t315 true))) else (intervalmonlaw05_LabelsOrder.j0 k t304 t307 t310 t313 t314 t315 true))) = some r := H
 have A9 := Aside0.mk A90
 clear A90
 have HC10 := Aside0.mk H
 clear H
 go_enter Try.func6, Try.ntmps6
 go_upto_region 7 with (first | ((with_reducible refine gate_callee (f := 29) rfl ?_); refine goesL_ (some 14) rfl rfl Try.func29 (by kernel_rfl) rfl #[.slice A0 l0.length c0] rfl aq ?_; (with_reducible refine (intervalmonref05_Set.calls k _ _ l0 t304 _ ?side1 ?side2 A4.out).mono ?_); (case side1 => repeat (first | exact HR0.out | (with_reducible refine Kd.C_alloc ?_ _) | (with_reducible refine Kd.C_drewN ?_ _) | (with_reducible refine Kd.C_drew ?_))); (case side2 => exact HC0.out); rintro e w11 ⟨v305, rfl, ho0, hb⟩; refine ⟨_, rfl, ?_⟩; have n0_ := Aside0.mk (Kd.R_lower ho0 (below_size (hq HB))); have n1_ := Aside0.mk (below_step (hq HB) hb); clear HB; have HO306 := n0_; have HB := n1_; clear n0_ n1_; (try clear hb); (try clear hb2); (try clear hk); (try clear hi); (try clear ho0)) | ((with_reducible refine gate_callee (f := 19) rfl ?_); refine goesL_ (some 16) rfl rfl Try.func19 (by kernel_rfl) rfl #[.slice A1 l1.length c1] rfl aq ?_; (with_reducible refine (intervalmonref05_Dirty.calls k _ _ l1 t307 _ ?side1 ?side2 A5.out).mono ?_); (case side1 => repeat (first | exact (Kd.C_below HR1.out HB.out) | (with_reducible refine Kd.C_alloc ?_ _) | (with_reducible refine Kd.C_drewN ?_ _) | (with_reducible refine Kd.C_drew ?_))); (case side2 => exact HC1.out); rintro e w12 ⟨v308, rfl, ho0, hb⟩; refine ⟨_, rfl, ?_⟩; have n0_ := Aside0.mk (Kd.R_elder' (rq HO306) (Kd.R_base ho0) hb); have n1_ := Aside0.mk (Kd.R_lower (Kd.R_new' ho0 (Kd.R_lt (rq HO306))) (below_size (hq HB))); have n2_ := Aside0.mk (below_step (hq HB) hb); clear HO306; clear HB; have HO306 := n0_; have HO309 := n1_; have HB := n2_; clear n0_ n1_ n2_; (try clear hb); (try clear hb2); (try clear hk); (try clear hi); (try clear ho0)) | ((with_reducible refine gate_callee (f := 29) rfl ?_); refine goesL_ (some 18) rfl rfl Try.func29 (by kernel_rfl) rfl #[.slice A2 l2.length c2] rfl aq ?_; (with_reducible refine (intervalmonref05_Set.calls k _ _ l2 t310 _ ?side1 ?side2 A6.out).mono ?_); (case side1 => repeat (first | exact (Kd.C_below HR2.out HB.out) | (with_reducible refine Kd.C_alloc ?_ _) | (with_reducible refine Kd.C_drewN ?_ _) | (with_reducible refine Kd.C_drew ?_))); (case side2 => exact HC2.out); rintro e w13 ⟨v311, rfl, ho0, hb⟩; refine ⟨_, rfl, ?_⟩; have n0_ := Aside0.mk (Kd.R_elder' (rq HO306) (Kd.R_base ho0) hb); have n1_ := Aside0.mk (Kd.R_elder' (rq HO309) (Kd.R_base ho0) hb); have n2_ := Aside0.mk (Kd.R_lower (Kd.R_new' (Kd.R_new' ho0 (Kd.R_lt (rq HO306))) (Kd.R_lt (rq HO309))) (below_size (hq HB))); have n3_ := Aside0.mk (below_step (hq HB) hb); clear HO306; clear HO309; clear HB; have HO306 := n0_; have HO309 := n1_; have HO312 := n2_; have HB := n3_; clear n0_ n1_ n2_ n3_; (try clear hb); (try clear hb2); (try clear hk); (try clear hi); (try clear ho0); obtain ⟨Ao14, co14, eo14⟩ := Kd.R_slice HO306.out; subst eo14; obtain ⟨Ao15, co15, eo15⟩ := Kd.R_slice HO309.out; subst eo15) | ((with_reducible refine gate_callee (f := 30) rfl ?_); refine goesL_ (some 21) rfl rfl Try.func30 (by kernel_rfl) rfl #[.slice Ao14 t304.length co14, .slice Ao15 t307.length co15] rfl aq ?_; (with_reducible refine (labels_Compare.calls _ _ t304 _ _ t307 t313 _ ?side1 ?side2 ?side3 ?side4 A7.out).mono ?_); (case side1 => repeat (first | exact (Kd.R_reads' HO306.out).2.2 | (with_reducible refine Kd.C_alloc ?_ _) | (with_reducible refine Kd.C_drewN ?_ _) | (with_reducible refine Kd.C_drew ?_))); (case side2 => exact (Kd.R_reads' HO306.out).2.1); (case side3 => repeat (first | exact (Kd.R_reads' HO309.out).2.2 | (with_reducible refine Kd.C_alloc ?_ _) | (with_reducible refine Kd.C_drewN ?_ _) | (with_reducible refine Kd.C_drew ?_))); (case side4 => exact (Kd.R_reads' HO309.out).2.1); rintro e w16 ⟨rfl, hb⟩; refine ⟨_, rfl, ?_⟩; have n0_ := Aside0.mk (Kd.R_below (rq HO306) hb); have n1_ := Aside0.mk (Kd.R_below (rq HO309) hb); have n2_ := Aside0.mk (Kd.R_below (rq HO312) hb); have n3_ := Aside0.mk (below_step (hq HB) hb); clear HO306; clear HO309; clear HO312; clear HB; have HO306 := n0_; have HO309 := n1_; have HO312 := n2_; have HB := n3_; clear n0_ n1_ n2_ n3_; (try clear hb); (try clear hb2); (try clear hk); (try clear hi); obtain ⟨Ao17, co17, eo17⟩ := Kd.R_slice HO312.out; subst eo17) | ((with_reducible refine gate_callee (f := 30) rfl ?_); refine goesL_ (some 24) rfl rfl Try.func30 (by kernel_rfl) rfl #[.slice Ao15 t307.length co15, .slice Ao17 t310.length co17] rfl aq ?_; (with_reducible refine (labels_Compare.calls _ _ t307 _ _ t310 t314 _ ?side1 ?side2 ?side3 ?side4 A8.out).mono ?_); (case side1 => repeat (first | exact (Kd.R_reads' HO309.out).2.2 | (with_reducible refine Kd.C_alloc ?_ _) | (with_reducible refine Kd.C_drewN ?_ _) | (with_reducible refine Kd.C_drew ?_))); (case side2 => exact (Kd.R_reads' HO309.out).2.1); (case side3 => repeat (first | exact (Kd.R_reads' HO312.out).2.2 | (with_reducible refine Kd.C_alloc ?_ _) | (with_reducible refine Kd.C_drewN ?_ _) | (with_reducible refine Kd.C_drew ?_))); (case side4 => exact (Kd.R_reads' HO312.out).2.1); rintro e w18 ⟨rfl, hb⟩; refine ⟨_, rfl, ?_⟩; have n0_ := Aside0.mk (Kd.R_below (rq HO306) hb); have n1_ := Aside0.mk (Kd.R_below (rq HO309) hb); have n2_ := Aside0.mk (Kd.R_below (rq HO312) hb); have n3_ := Aside0.mk (below_step (hq HB) hb); clear HO306; clear HO309; clear HO312; clear HB; have HO306 := n0_; have HO309 := n1_; have HO312 := n2_; have HB := n3_; clear n0_ n1_ n2_ n3_; (try clear hb); (try clear hb2); (try clear hk); (try clear hi)) | ((with_reducible refine gate_callee (f := 30) rfl ?_); refine goesL_ (some 27) rfl rfl Try.func30 (by kernel_rfl) rfl #[.slice Ao14 t304.length co14, .slice Ao17 t310.length co17] rfl aq ?_; (with_reducible refine (labels_Compare.calls _ _ t304 _ _ t310 t315 _ ?side1 ?side2 ?side3 ?side4 A9.out).mono ?_); (case side1 => repeat (first | exact (Kd.R_reads' HO306.out).2.2 | (with_reducible refine Kd.C_alloc ?_ _) | (with_reducible refine Kd.C_drewN ?_ _) | (with_reducible refine Kd.C_drew ?_))); (case side2 => exact (Kd.R_reads' HO306.out).2.1); (case side3 => repeat (first | exact (Kd.R_reads' HO312.out).2.2 | (with_reducible refine Kd.C_alloc ?_ _) | (with_reducible refine Kd.C_drewN ?_ _) | (with_reducible refine Kd.C_drew ?_))); (case side4 => exact (Kd.R_reads' HO312.out).2.1); rintro e w19 ⟨rfl, hb⟩; refine ⟨_, rfl, ?_⟩; have n0_ := Aside0.mk (Kd.R_below (rq HO306) hb); have n1_ := Aside0.mk (Kd.R_below (rq HO309) hb); have n2_ := Aside0.mk (Kd.R_below (rq HO312) hb); have n3_ := Aside0.mk (below_step (hq HB) hb); clear HO306; clear HO309; clear HO312; clear HB; have HO306 := n0_; have HO309 := n1_; have HO312 := n2_; have HB := n3_; clear n0_ n1_ n2_ n3_; (try clear hb); (try clear hb2); (try clear hk); (try clear hi)))
 (try simp only [Act.put, List.setIfInBounds_toArray, List.set_cons_zero, List.set_cons_succ])
 go_cut [55] (fun v55 wc => ∃ (kq : Nat) (x55_9 : Bool), v55 = .bool x55_9 ∧ Aside0 (intervalmonlaw05_LabelsOrder.j0 kq t304 t307 t310 t313 t314 t315 x55_9 = some r) ∧ Aside0 (kq ≤ k) ∧ Aside0 (Kd.R k33 33 wc w.heap.size (fun k_ => some k_ ≠ ((.slice Ao15 t307.length co15) : Value).ownBlock ∧ some k_ ≠ ((.slice Ao17 t310.length co17) : Value).ownBlock) (.slice Ao14 t304.length co14) t304) ∧ Aside0 (Kd.R k33 33 wc w.heap.size (fun k_ => some k_ ≠ ((.slice Ao14 t304.length co14) : Value).ownBlock ∧ some k_ ≠ ((.slice Ao17 t310.length co17) : Value).ownBlock) (.slice Ao15 t307.length co15) t307) ∧ Aside0 (Kd.R k33 33 wc w.heap.size (fun k_ => some k_ ≠ ((.slice Ao14 t304.length co14) : Value).ownBlock ∧ some k_ ≠ ((.slice Ao15 t307.length co15) : Value).ownBlock) (.slice Ao17 t310.length co17) t310) ∧ Aside0 (Below w.heap.size w wc))
 case first =>
  have H := HC10.out
  clear HC10
  replace H := Option.bind_eq_some_iff.mp H
  obtain ⟨t316, A200, H⟩ := H
  replace H : (if t313 = t316 then ((labels_Compare.f t307 t304).bind fun t317 => (if t317 = (wrap64 (-t313)) then ((intervalmonref05_Compare.f k t304 t310).bind fun t318 => (if t315 = t318 then ((labels_Compare.f t310 t304).bind fun t319 => (intervalmonlaw05_LabelsOrder.j0 k t304 t307 t310 t313 t314 t315 (t319 != (wrap64 (-t315))))) else (intervalmonlaw05_LabelsOrder.j0 k t304 t307 t310 t313 t314 t315 true))) else (intervalmonlaw05_LabelsOrder.j0 k t304 t307 t310 t313 t314 t315 true))) else (intervalmonlaw05_LabelsOrder.j0 k t304 t307 t310 t313 t314 t315 true)) = some r := H
  have A20 := Aside0.mk A200
  clear A200
  by_cases c21 : t313 = t316
  ·rw [if_pos c21] at H
   have c21b0 : (t313 == t316) = true := beq_iff_eq.mpr c21
   have c21b1 : (t313 != t316) = false := bne_eq_false_iff_eq.mpr c21
   clear c21
   (first | rw [c21b0] | (simp only [i64_w, i32_w]; rw [c21b0]) | skip)
   replace H := Option.bind_eq_some_iff.mp H
   obtain ⟨t317, A220, H⟩ := H
   replace H : (if t317 = (wrap64 (-t313)) then ((intervalmonref05_Compare.f k t304 t310).bind fun t318 => (if t315 = t318 then ((labels_Compare.f t310 t304).bind fun t319 => (intervalmonlaw05_LabelsOrder.j0 k t304 t307 t310 t313 t314 t315 (t319 != (wrap64 (-t315))))) else (intervalmonlaw05_LabelsOrder.j0 k t304 t307 t310 t313 t314 t315 true))) else (intervalmonlaw05_LabelsOrder.j0 k t304 t307 t310 t313 t314 t315 true)) = some r := H
   have A22 := Aside0.mk A220
   clear A220
   by_cases c23 : t317 = (wrap64 (-t313))
   ·rw [if_pos c23] at H
    have c23b0 : (t317 == (wrap64 (-t313))) = true := beq_iff_eq.mpr c23
    have c23b1 : (t317 != (wrap64 (-t313))) = false := bne_eq_false_iff_eq.mpr c23
    clear c23
    replace H := Option.bind_eq_some_iff.mp H
    obtain ⟨t318, A240, H⟩ := H
    replace H : (if t315 = t318 then ((labels_Compare.f t310 t304).bind fun t319 => (intervalmonlaw05_LabelsOrder.j0 k t304 t307 t310 t313 t314 t315 (t319 != (wrap64 (-t315))))) else (intervalmonlaw05_LabelsOrder.j0 k t304 t307 t310 t313 t314 t315 true)) = some r := H
    have A24 := Aside0.mk A240
    clear A240
    by_cases c25 : t315 = t318
    ·rw [if_pos c25] at H
     have c25b0 : (t315 == t318) = true := beq_iff_eq.mpr c25
     have c25b1 : (t315 != t318) = false := bne_eq_false_iff_eq.mpr c25
     clear c25
     replace H := Option.bind_eq_some_iff.mp H
     obtain ⟨t319, A260, H⟩ := H
     replace H : (intervalmonlaw05_LabelsOrder.j0 k t304 t307 t310 t313 t314 t315 (t319 != (wrap64 (-t315)))) = some r := H
     have A26 := Aside0.mk A260
     clear A260
     have H' := Aside0.mk H
     clear H
     go_wp2_with (first | ((with_reducible refine gate_callee (f := 31) rfl ?_); refine goesL_ (some 31) rfl rfl Try.func31 (by kernel_rfl) rfl #[.slice Ao14 t304.length co14, .slice Ao15 t307.length co15] rfl aq ?_; (with_reducible refine (intervalmonref05_Compare.calls k _ _ t304 _ _ t307 t316 _ ?side1 ?side2 ?side3 ?side4 A20.out).mono ?_); (case side1 => repeat (first | exact (Kd.R_reads' HO306.out).2.2 | (with_reducible refine Kd.C_alloc ?_ _) | (with_reducible refine Kd.C_drewN ?_ _) | (with_reducible refine Kd.C_drew ?_))); (case side2 => exact (Kd.R_reads' HO306.out).2.1); (case side3 => repeat (first | exact (Kd.R_reads' HO309.out).2.2 | (with_reducible refine Kd.C_alloc ?_ _) | (with_reducible refine Kd.C_drewN ?_ _) | (with_reducible refine Kd.C_drew ?_))); (case side4 => exact (Kd.R_reads' HO309.out).2.1); rintro e w' ⟨rfl, ⟨nd, rfl⟩⟩; refine ⟨_, rfl, ?_⟩) | (go_at_call 30; (with_reducible refine (labels_Compare.calls _ _ t307 _ _ t304 t317 _ ?side1 ?side2 ?side3 ?side4 A22.out).mono ?_); (case side1 => repeat (first | exact (Kd.R_reads' HO309.out).2.2 | (with_reducible refine Kd.C_alloc ?_ _) | (with_reducible refine Kd.C_drewN ?_ _) | (with_reducible refine Kd.C_drew ?_))); (case side2 => exact (Kd.R_reads' HO309.out).2.1); (case side3 => repeat (first | exact (Kd.R_reads' HO306.out).2.2 | (with_reducible refine Kd.C_alloc ?_ _) | (with_reducible refine Kd.C_drewN ?_ _) | (with_reducible refine Kd.C_drew ?_))); (case side4 => exact (Kd.R_reads' HO306.out).2.1); rintro e w27 ⟨rfl, hb⟩; have n0_ := Aside0.mk (Kd.R_below (rq HO306) hb); have n1_ := Aside0.mk (Kd.R_below (rq HO309) hb); have n2_ := Aside0.mk (Kd.R_below (rq HO312) hb); have n3_ := Aside0.mk (below_step (hq HB) hb); clear HO306; clear HO309; clear HO312; clear HB; have HO306 := n0_; have HO309 := n1_; have HO312 := n2_; have HB := n3_; clear n0_ n1_ n2_ n3_; (try clear hb); (try clear hb2); (try clear hk); (try clear hi)) | (go_at_call 31; (with_reducible refine (intervalmonref05_Compare.calls k _ _ t304 _ _ t310 t318 _ ?side1 ?side2 ?side3 ?side4 A24.out).mono ?_); (case side1 => repeat (first | exact (Kd.R_reads' HO306.out).2.2 | (with_reducible refine Kd.C_alloc ?_ _) | (with_reducible refine Kd.C_drewN ?_ _) | (with_reducible refine Kd.C_drew ?_))); (case side2 => exact (Kd.R_reads' HO306.out).2.1); (case side3 => repeat (first | exact (Kd.R_reads' HO312.out).2.2 | (with_reducible refine Kd.C_alloc ?_ _) | (with_reducible refine Kd.C_drewN ?_ _) | (with_reducible refine Kd.C_drew ?_))); (case side4 => exact (Kd.R_reads' HO312.out).2.1); rintro e w' ⟨rfl, ⟨nd, rfl⟩⟩) | (go_at_call 30; (with_reducible refine (labels_Compare.calls _ _ t310 _ _ t304 t319 _ ?side1 ?side2 ?side3 ?side4 A26.out).mono ?_); (case side1 => repeat (first | exact (Kd.R_reads' HO312.out).2.2 | (with_reducible refine Kd.C_alloc ?_ _) | (with_reducible refine Kd.C_drewN ?_ _) | (with_reducible refine Kd.C_drew ?_))); (case side2 => exact (Kd.R_reads' HO312.out).2.1); (case side3 => repeat (first | exact (Kd.R_reads' HO306.out).2.2 | (with_reducible refine Kd.C_alloc ?_ _) | (with_reducible refine Kd.C_drewN ?_ _) | (with_reducible refine Kd.C_drew ?_))); (case side4 => exact (Kd.R_reads' HO306.out).2.1); rintro e w28 ⟨rfl, hb⟩; have n0_ := Aside0.mk (Kd.R_below (rq HO306) hb); have n1_ := Aside0.mk (Kd.R_below (rq HO309) hb); have n2_ := Aside0.mk (Kd.R_below (rq HO312) hb); have n3_ := Aside0.mk (below_step (hq HB) hb); clear HO306; clear HO309; clear HO312; clear HB; have HO306 := n0_; have HO309 := n1_; have HO312 := n2_; have HB := n3_; clear n0_ n1_ n2_ n3_; (try clear hb); (try clear hb2); (try clear hk); (try clear hi)))
     go_meet
     case rel => exact ⟨_, ((t319 != (wrap64 (-t315)))), (by first | rfl | (simp; done) | (simp [*]; done)), H', ⟨by first | omega | exact Nat.le_refl _⟩, ⟨by (with_reducible repeat (first | apply Kd.R_alloc | apply Kd.R_drewN | apply Kd.R_drew)); exact Kd.R_mono HO306.out (fun _ hk => ⟨hk.1.2, hk.2⟩)⟩, ⟨by (with_reducible repeat (first | apply Kd.R_alloc | apply Kd.R_drewN | apply Kd.R_drew)); exact Kd.R_mono HO309.out (fun _ hk => ⟨hk.1.2, hk.2⟩)⟩, ⟨by (with_reducible repeat (first | apply Kd.R_alloc | apply Kd.R_drewN | apply Kd.R_drew)); exact Kd.R_mono HO312.out (fun _ hk => ⟨hk.1.2, hk.2⟩)⟩, ⟨by repeat (first | (with_reducible first | exact HB.out | apply below_alloc | apply pw_below_drewN | apply below_drew1) | exact HB.out)⟩⟩
    ·rw [if_neg c25] at H
     have c25b0 : (t315 == t318) = false := beq_eq_false_iff_ne.mpr c25
     have c25b1 : (t315 != t318) = true := bne_iff_ne.mpr c25
     have H' := Aside0.mk H
     clear H
     go_wp2_with (first | ((with_reducible refine gate_callee (f := 31) rfl ?_); refine goesL_ (some 31) rfl rfl Try.func31 (by kernel_rfl) rfl #[.slice Ao14 t304.length co14, .slice Ao15 t307.length co15] rfl aq ?_; (with_reducible refine (intervalmonref05_Compare.calls k _ _ t304 _ _ t307 t316 _ ?side1 ?side2 ?side3 ?side4 A20.out).mono ?_); (case side1 => repeat (first | exact (Kd.R_reads' HO306.out).2.2 | (with_reducible refine Kd.C_alloc ?_ _) | (with_reducible refine Kd.C_drewN ?_ _) | (with_reducible refine Kd.C_drew ?_))); (case side2 => exact (Kd.R_reads' HO306.out).2.1); (case side3 => repeat (first | exact (Kd.R_reads' HO309.out).2.2 | (with_reducible refine Kd.C_alloc ?_ _) | (with_reducible refine Kd.C_drewN ?_ _) | (with_reducible refine Kd.C_drew ?_))); (case side4 => exact (Kd.R_reads' HO309.out).2.1); rintro e w' ⟨rfl, ⟨nd, rfl⟩⟩; refine ⟨_, rfl, ?_⟩) | (go_at_call 30; (with_reducible refine (labels_Compare.calls _ _ t307 _ _ t304 t317 _ ?side1 ?side2 ?side3 ?side4 A22.out).mono ?_); (case side1 => repeat (first | exact (Kd.R_reads' HO309.out).2.2 | (with_reducible refine Kd.C_alloc ?_ _) | (with_reducible refine Kd.C_drewN ?_ _) | (with_reducible refine Kd.C_drew ?_))); (case side2 => exact (Kd.R_reads' HO309.out).2.1); (case side3 => repeat (first | exact (Kd.R_reads' HO306.out).2.2 | (with_reducible refine Kd.C_alloc ?_ _) | (with_reducible refine Kd.C_drewN ?_ _) | (with_reducible refine Kd.C_drew ?_))); (case side4 => exact (Kd.R_reads' HO306.out).2.1); rintro e w29 ⟨rfl, hb⟩; have n0_ := Aside0.mk (Kd.R_below (rq HO306) hb); have n1_ := Aside0.mk (Kd.R_below (rq HO309) hb); have n2_ := Aside0.mk (Kd.R_below (rq HO312) hb); have n3_ := Aside0.mk (below_step (hq HB) hb); clear HO306; clear HO309; clear HO312; clear HB; have HO306 := n0_; have HO309 := n1_; have HO312 := n2_; have HB := n3_; clear n0_ n1_ n2_ n3_; (try clear hb); (try clear hb2); (try clear hk); (try clear hi)) | (go_at_call 31; (with_reducible refine (intervalmonref05_Compare.calls k _ _ t304 _ _ t310 t318 _ ?side1 ?side2 ?side3 ?side4 A24.out).mono ?_); (case side1 => repeat (first | exact (Kd.R_reads' HO306.out).2.2 | (with_reducible refine Kd.C_alloc ?_ _) | (with_reducible refine Kd.C_drewN ?_ _) | (with_reducible refine Kd.C_drew ?_))); (case side2 => exact (Kd.R_reads' HO306.out).2.1); (case side3 => repeat (first | exact (Kd.R_reads' HO312.out).2.2 | (with_reducible refine Kd.C_alloc ?_ _) | (with_reducible refine Kd.C_drewN ?_ _) | (with_reducible refine Kd.C_drew ?_))); (case side4 => exact (Kd.R_reads' HO312.out).2.1); rintro e w' ⟨rfl, ⟨nd, rfl⟩⟩))
     go_meet
     case rel => exact ⟨_, (true), (by first | rfl | (simp; done) | (simp [*]; done)), H', ⟨by first | omega | exact Nat.le_refl _⟩, ⟨by (with_reducible repeat (first | apply Kd.R_alloc | apply Kd.R_drewN | apply Kd.R_drew)); exact Kd.R_mono HO306.out (fun _ hk => ⟨hk.1.2, hk.2⟩)⟩, ⟨by (with_reducible repeat (first | apply Kd.R_alloc | apply Kd.R_drewN | apply Kd.R_drew)); exact Kd.R_mono HO309.out (fun _ hk => ⟨hk.1.2, hk.2⟩)⟩, ⟨by (with_reducible repeat (first | apply Kd.R_alloc | apply Kd.R_drewN | apply Kd.R_drew)); exact Kd.R_mono HO312.out (fun _ hk => ⟨hk.1.2, hk.2⟩)⟩, ⟨by repeat (first | (with_reducible first | exact HB.out | apply below_alloc | apply pw_below_drewN | apply below_drew1) | exact HB.out)⟩⟩
   ·rw [if_neg c23] at H
    have c23b0 : (t317 == (wrap64 (-t313))) = false := beq_eq_false_iff_ne.mpr c23
    have c23b1 : (t317 != (wrap64 (-t313))) = true := bne_iff_ne.mpr c23
    have H' := Aside0.mk H
    clear H
    go_wp2_with (first | ((with_reducible refine gate_callee (f := 31) rfl ?_); refine goesL_ (some 31) rfl rfl Try.func31 (by kernel_rfl) rfl #[.slice Ao14 t304.length co14, .slice Ao15 t307.length co15] rfl aq ?_; (with_reducible refine (intervalmonref05_Compare.calls k _ _ t304 _ _ t307 t316 _ ?side1 ?side2 ?side3 ?side4 A20.out).mono ?_); (case side1 => repeat (first | exact (Kd.R_reads' HO306.out).2.2 | (with_reducible refine Kd.C_alloc ?_ _) | (with_reducible refine Kd.C_drewN ?_ _) | (with_reducible refine Kd.C_drew ?_))); (case side2 => exact (Kd.R_reads' HO306.out).2.1); (case side3 => repeat (first | exact (Kd.R_reads' HO309.out).2.2 | (with_reducible refine Kd.C_alloc ?_ _) | (with_reducible refine Kd.C_drewN ?_ _) | (with_reducible refine Kd.C_drew ?_))); (case side4 => exact (Kd.R_reads' HO309.out).2.1); rintro e w' ⟨rfl, ⟨nd, rfl⟩⟩; refine ⟨_, rfl, ?_⟩) | (go_at_call 30; (with_reducible refine (labels_Compare.calls _ _ t307 _ _ t304 t317 _ ?side1 ?side2 ?side3 ?side4 A22.out).mono ?_); (case side1 => repeat (first | exact (Kd.R_reads' HO309.out).2.2 | (with_reducible refine Kd.C_alloc ?_ _) | (with_reducible refine Kd.C_drewN ?_ _) | (with_reducible refine Kd.C_drew ?_))); (case side2 => exact (Kd.R_reads' HO309.out).2.1); (case side3 => repeat (first | exact (Kd.R_reads' HO306.out).2.2 | (with_reducible refine Kd.C_alloc ?_ _) | (with_reducible refine Kd.C_drewN ?_ _) | (with_reducible refine Kd.C_drew ?_))); (case side4 => exact (Kd.R_reads' HO306.out).2.1); rintro e w30 ⟨rfl, hb⟩; have n0_ := Aside0.mk (Kd.R_below (rq HO306) hb); have n1_ := Aside0.mk (Kd.R_below (rq HO309) hb); have n2_ := Aside0.mk (Kd.R_below (rq HO312) hb); have n3_ := Aside0.mk (below_step (hq HB) hb); clear HO306; clear HO309; clear HO312; clear HB; have HO306 := n0_; have HO309 := n1_; have HO312 := n2_; have HB := n3_; clear n0_ n1_ n2_ n3_; (try clear hb); (try clear hb2); (try clear hk); (try clear hi)))
    go_meet
    case rel => exact ⟨_, (true), (by first | rfl | (simp; done) | (simp [*]; done)), H', ⟨by first | omega | exact Nat.le_refl _⟩, ⟨by (with_reducible repeat (first | apply Kd.R_alloc | apply Kd.R_drewN | apply Kd.R_drew)); exact Kd.R_mono HO306.out (fun _ hk => ⟨hk.1.2, hk.2⟩)⟩, ⟨by (with_reducible repeat (first | apply Kd.R_alloc | apply Kd.R_drewN | apply Kd.R_drew)); exact Kd.R_mono HO309.out (fun _ hk => ⟨hk.1.2, hk.2⟩)⟩, ⟨by (with_reducible repeat (first | apply Kd.R_alloc | apply Kd.R_drewN | apply Kd.R_drew)); exact Kd.R_mono HO312.out (fun _ hk => ⟨hk.1.2, hk.2⟩)⟩, ⟨by repeat (first | (with_reducible first | exact HB.out | apply below_alloc | apply pw_below_drewN | apply below_drew1) | exact HB.out)⟩⟩
  ·rw [if_neg c21] at H
   have c21b0 : (t313 == t316) = false := beq_eq_false_iff_ne.mpr c21
   have c21b1 : (t313 != t316) = true := bne_iff_ne.mpr c21
   (first | rw [c21b0] | (simp only [i64_w, i32_w]; rw [c21b0]) | skip)
   have H' := Aside0.mk H
   clear H
   go_wp2_with (first | ((with_reducible refine gate_callee (f := 31) rfl ?_); refine goesL_ (some 31) rfl rfl Try.func31 (by kernel_rfl) rfl #[.slice Ao14 t304.length co14, .slice Ao15 t307.length co15] rfl aq ?_; (with_reducible refine (intervalmonref05_Compare.calls k _ _ t304 _ _ t307 t316 _ ?side1 ?side2 ?side3 ?side4 A20.out).mono ?_); (case side1 => repeat (first | exact (Kd.R_reads' HO306.out).2.2 | (with_reducible refine Kd.C_alloc ?_ _) | (with_reducible refine Kd.C_drewN ?_ _) | (with_reducible refine Kd.C_drew ?_))); (case side2 => exact (Kd.R_reads' HO306.out).2.1); (case side3 => repeat (first | exact (Kd.R_reads' HO309.out).2.2 | (with_reducible refine Kd.C_alloc ?_ _) | (with_reducible refine Kd.C_drewN ?_ _) | (with_reducible refine Kd.C_drew ?_))); (case side4 => exact (Kd.R_reads' HO309.out).2.1); rintro e w' ⟨rfl, ⟨nd, rfl⟩⟩; refine ⟨_, rfl, ?_⟩))
   go_meet
   case rel => exact ⟨_, (true), (by first | rfl | (simp; done) | (simp [*]; done)), H', ⟨by first | omega | exact Nat.le_refl _⟩, ⟨by (with_reducible repeat (first | apply Kd.R_alloc | apply Kd.R_drewN | apply Kd.R_drew)); exact Kd.R_mono HO306.out (fun _ hk => ⟨hk.1.2, hk.2⟩)⟩, ⟨by (with_reducible repeat (first | apply Kd.R_alloc | apply Kd.R_drewN | apply Kd.R_drew)); exact Kd.R_mono HO309.out (fun _ hk => ⟨hk.1.2, hk.2⟩)⟩, ⟨by (with_reducible repeat (first | apply Kd.R_alloc | apply Kd.R_drewN | apply Kd.R_drew)); exact Kd.R_mono HO312.out (fun _ hk => ⟨hk.1.2, hk.2⟩)⟩, ⟨by repeat (first | (with_reducible first | exact HB.out | apply below_alloc | apply pw_below_drewN | apply below_drew1) | exact HB.out)⟩⟩
 case rest =>
  clear HC10
  try clear c1
  try clear c2
  try clear p2
  try clear c3
  try clear c6
  try clear p6
  try clear c19
  try clear c21
  try clear c21b0
  try clear c21b1
  try clear c23
  try clear c23b0
  try clear c23b1
  try clear c25
  try clear c25b0
  try clear c25b1
  try clear c29
  try clear c30
  obtain ⟨kq, x55_9, rfl, HA, HJ9, HO_7, HO_8, HO_9, HB⟩ := hcut
  cases kq with
  | zero => exact absurd HA.out (by simp [intervalmonlaw05_LabelsOrder.j0])
  | succ kj9 =>
   have H := HA.out
   clear HA
   simp only [intervalmonlaw05_LabelsOrder.j0] at H
   by_cases c31 : x55_9 = true
   ·subst c31
    have H1 : (some false) = some r := by rw [if_pos rfl] at H; exact H
    clear H
    have H := H1
    clear H1
    exact absurd ((Option.some.inj H).trans HT0.out) (by decide)
   ·replace c31 := Bool.eq_false_iff.mpr c31
    subst c31
    have H1 : (if t313 ≤ 0 then (if t314 ≤ 0 then (if t315 > 0 then (intervalmonlaw05_LabelsOrder.j1 kj9 t304 t307 t310 t313 t315 true) else (if t313 ≥ 0 then (if t314 ≥ 0 then (intervalmonlaw05_LabelsOrder.j1 kj9 t304 t307 t310 t313 t315 (decide (t315 < 0))) else (intervalmonlaw05_LabelsOrder.j1 kj9 t304 t307 t310 t313 t315 false)) else (intervalmonlaw05_LabelsOrder.j1 kj9 t304 t307 t310 t313 t315 false))) else (if t313 ≥ 0 then (if t314 ≥ 0 then (intervalmonlaw05_LabelsOrder.j1 kj9 t304 t307 t310 t313 t315 (decide (t315 < 0))) else (intervalmonlaw05_LabelsOrder.j1 kj9 t304 t307 t310 t313 t315 false)) else (intervalmonlaw05_LabelsOrder.j1 kj9 t304 t307 t310 t313 t315 false))) else (if t313 ≥ 0 then (if t314 ≥ 0 then (intervalmonlaw05_LabelsOrder.j1 kj9 t304 t307 t310 t313 t315 (decide (t315 < 0))) else (intervalmonlaw05_LabelsOrder.j1 kj9 t304 t307 t310 t313 t315 false)) else (intervalmonlaw05_LabelsOrder.j1 kj9 t304 t307 t310 t313 t315 false))) = some r := by rw [if_neg (show ¬ (false = true) by decide)] at H; exact H
    clear H
    have H := H1
    clear H1
    have HC32 := Aside0.mk H
    clear H
    go_upto_region 9 with (fail)
    go_cut [77] (fun v77 wc => ∃ (kq : Nat) (x77_31 : Bool), v77 = .bool x77_31 ∧ Aside0 (intervalmonlaw05_LabelsOrder.j1 kq t304 t307 t310 t313 t315 x77_31 = some r) ∧ Aside0 (kq ≤ kj9) ∧ Aside0 (Kd.R k33 33 wc w.heap.size (fun k_ => some k_ ≠ ((.slice Ao15 t307.length co15) : Value).ownBlock ∧ some k_ ≠ ((.slice Ao17 t310.length co17) : Value).ownBlock) (.slice Ao14 t304.length co14) t304) ∧ Aside0 (Kd.R k33 33 wc w.heap.size (fun k_ => some k_ ≠ ((.slice Ao14 t304.length co14) : Value).ownBlock ∧ some k_ ≠ ((.slice Ao17 t310.length co17) : Value).ownBlock) (.slice Ao15 t307.length co15) t307) ∧ Aside0 (Kd.R k33 33 wc w.heap.size (fun k_ => some k_ ≠ ((.slice Ao14 t304.length co14) : Value).ownBlock ∧ some k_ ≠ ((.slice Ao15 t307.length co15) : Value).ownBlock) (.slice Ao17 t310.length co17) t310) ∧ Aside0 (Below w.heap.size w wc))
    case first =>
     have H := HC32.out
     clear HC32
     by_cases c33 : t313 ≤ 0
     ·rw [if_pos c33] at H
      have c33b0 : decide (t313 ≤ 0) = true := decide_eq_true c33
      clear c33
      (first | rw [c33b0] | (simp only [i64_w, i32_w]; rw [c33b0]) | skip)
      by_cases c34 : t314 ≤ 0
      ·rw [if_pos c34] at H
       have c34b0 : decide (t314 ≤ 0) = true := decide_eq_true c34
       clear c34
       by_cases c35 : t315 > 0
       ·rw [if_pos c35] at H
        have c35b0 : decide (0 < t315) = true := decide_eq_true c35
        clear c35
        have H' := Aside0.mk H
        clear H
        go_wp2
        go_meet
        case rel => exact ⟨_, (true), (by first | rfl | (simp; done) | (simp [*]; done)), H', ⟨by have := HJ9.out; first | omega | exact Nat.le_refl _⟩, ⟨by (with_reducible repeat (first | apply Kd.R_alloc | apply Kd.R_drewN | apply Kd.R_drew)); exact HO_7.out⟩, ⟨by (with_reducible repeat (first | apply Kd.R_alloc | apply Kd.R_drewN | apply Kd.R_drew)); exact HO_8.out⟩, ⟨by (with_reducible repeat (first | apply Kd.R_alloc | apply Kd.R_drewN | apply Kd.R_drew)); exact HO_9.out⟩, ⟨by repeat (first | (with_reducible first | exact HB.out | apply below_alloc | apply pw_below_drewN | apply below_drew1) | exact HB.out)⟩⟩
       ·rw [if_neg c35] at H
        have c35b0 : decide (0 < t315) = false := decide_eq_false c35
        clear c35
        by_cases c36 : t313 ≥ 0
        ·rw [if_pos c36] at H
         have c36b0 : decide (0 ≤ t313) = true := decide_eq_true c36
         clear c36
         by_cases c37 : t314 ≥ 0
         ·rw [if_pos c37] at H
          have c37b0 : decide (0 ≤ t314) = true := decide_eq_true c37
          clear c37
          have H' := Aside0.mk H
          clear H
          go_wp2
          go_meet
          case rel => exact ⟨_, (decide (t315 < 0)), (by first | rfl | (simp; done) | (simp [*]; done)), H', ⟨by have := HJ9.out; first | omega | exact Nat.le_refl _⟩, ⟨by (with_reducible repeat (first | apply Kd.R_alloc | apply Kd.R_drewN | apply Kd.R_drew)); exact HO_7.out⟩, ⟨by (with_reducible repeat (first | apply Kd.R_alloc | apply Kd.R_drewN | apply Kd.R_drew)); exact HO_8.out⟩, ⟨by (with_reducible repeat (first | apply Kd.R_alloc | apply Kd.R_drewN | apply Kd.R_drew)); exact HO_9.out⟩, ⟨by repeat (first | (with_reducible first | exact HB.out | apply below_alloc | apply pw_below_drewN | apply below_drew1) | exact HB.out)⟩⟩
         ·rw [if_neg c37] at H
          have c37b0 : decide (0 ≤ t314) = false := decide_eq_false c37
          clear c37
          have H' := Aside0.mk H
          clear H
          go_wp2
          go_meet
          case rel => exact ⟨_, (false), (by first | rfl | (simp; done) | (simp [*]; done)), H', ⟨by have := HJ9.out; first | omega | exact Nat.le_refl _⟩, ⟨by (with_reducible repeat (first | apply Kd.R_alloc | apply Kd.R_drewN | apply Kd.R_drew)); exact HO_7.out⟩, ⟨by (with_reducible repeat (first | apply Kd.R_alloc | apply Kd.R_drewN | apply Kd.R_drew)); exact HO_8.out⟩, ⟨by (with_reducible repeat (first | apply Kd.R_alloc | apply Kd.R_drewN | apply Kd.R_drew)); exact HO_9.out⟩, ⟨by repeat (first | (with_reducible first | exact HB.out | apply below_alloc | apply pw_below_drewN | apply below_drew1) | exact HB.out)⟩⟩
        ·rw [if_neg c36] at H
         have c36b0 : decide (0 ≤ t313) = false := decide_eq_false c36
         clear c36
         have H' := Aside0.mk H
         clear H
         go_wp2
         go_meet
         case rel => exact ⟨_, (false), (by first | rfl | (simp; done) | (simp [*]; done)), H', ⟨by have := HJ9.out; first | omega | exact Nat.le_refl _⟩, ⟨by (with_reducible repeat (first | apply Kd.R_alloc | apply Kd.R_drewN | apply Kd.R_drew)); exact HO_7.out⟩, ⟨by (with_reducible repeat (first | apply Kd.R_alloc | apply Kd.R_drewN | apply Kd.R_drew)); exact HO_8.out⟩, ⟨by (with_reducible repeat (first | apply Kd.R_alloc | apply Kd.R_drewN | apply Kd.R_drew)); exact HO_9.out⟩, ⟨by repeat (first | (with_reducible first | exact HB.out | apply below_alloc | apply pw_below_drewN | apply below_drew1) | exact HB.out)⟩⟩
      ·rw [if_neg c34] at H
       have c34b0 : decide (t314 ≤ 0) = false := decide_eq_false c34
       clear c34
       by_cases c38 : t313 ≥ 0
       ·rw [if_pos c38] at H
        have c38b0 : decide (0 ≤ t313) = true := decide_eq_true c38
        clear c38
        by_cases c39 : t314 ≥ 0
        ·rw [if_pos c39] at H
         have c39b0 : decide (0 ≤ t314) = true := decide_eq_true c39
         clear c39
         have H' := Aside0.mk H
         clear H
         go_wp2
         go_meet
         case rel => exact ⟨_, (decide (t315 < 0)), (by first | rfl | (simp; done) | (simp [*]; done)), H', ⟨by have := HJ9.out; first | omega | exact Nat.le_refl _⟩, ⟨by (with_reducible repeat (first | apply Kd.R_alloc | apply Kd.R_drewN | apply Kd.R_drew)); exact HO_7.out⟩, ⟨by (with_reducible repeat (first | apply Kd.R_alloc | apply Kd.R_drewN | apply Kd.R_drew)); exact HO_8.out⟩, ⟨by (with_reducible repeat (first | apply Kd.R_alloc | apply Kd.R_drewN | apply Kd.R_drew)); exact HO_9.out⟩, ⟨by repeat (first | (with_reducible first | exact HB.out | apply below_alloc | apply pw_below_drewN | apply below_drew1) | exact HB.out)⟩⟩
        ·rw [if_neg c39] at H
         have c39b0 : decide (0 ≤ t314) = false := decide_eq_false c39
         clear c39
         have H' := Aside0.mk H
         clear H
         go_wp2
         go_meet
         case rel => exact ⟨_, (false), (by first | rfl | (simp; done) | (simp [*]; done)), H', ⟨by have := HJ9.out; first | omega | exact Nat.le_refl _⟩, ⟨by (with_reducible repeat (first | apply Kd.R_alloc | apply Kd.R_drewN | apply Kd.R_drew)); exact HO_7.out⟩, ⟨by (with_reducible repeat (first | apply Kd.R_alloc | apply Kd.R_drewN | apply Kd.R_drew)); exact HO_8.out⟩, ⟨by (with_reducible repeat (first | apply Kd.R_alloc | apply Kd.R_drewN | apply Kd.R_drew)); exact HO_9.out⟩, ⟨by repeat (first | (with_reducible first | exact HB.out | apply below_alloc | apply pw_below_drewN | apply below_drew1) | exact HB.out)⟩⟩
       ·rw [if_neg c38] at H
        have c38b0 : decide (0 ≤ t313) = false := decide_eq_false c38
        clear c38
        have H' := Aside0.mk H
        clear H
        go_wp2
        go_meet
        case rel => exact ⟨_, (false), (by first | rfl | (simp; done) | (simp [*]; done)), H', ⟨by have := HJ9.out; first | omega | exact Nat.le_refl _⟩, ⟨by (with_reducible repeat (first | apply Kd.R_alloc | apply Kd.R_drewN | apply Kd.R_drew)); exact HO_7.out⟩, ⟨by (with_reducible repeat (first | apply Kd.R_alloc | apply Kd.R_drewN | apply Kd.R_drew)); exact HO_8.out⟩, ⟨by (with_reducible repeat (first | apply Kd.R_alloc | apply Kd.R_drewN | apply Kd.R_drew)); exact HO_9.out⟩, ⟨by repeat (first | (with_reducible first | exact HB.out | apply below_alloc | apply pw_below_drewN | apply below_drew1) | exact HB.out)⟩⟩
     ·rw [if_neg c33] at H
      have c33b0 : decide (t313 ≤ 0) = false := decide_eq_false c33
      clear c33
      (first | rw [c33b0] | (simp only [i64_w, i32_w]; rw [c33b0]) | skip)
      by_cases c40 : t313 ≥ 0
      ·rw [if_pos c40] at H
       have c40b0 : decide (0 ≤ t313) = true := decide_eq_true c40
       clear c40
       by_cases c41 : t314 ≥ 0
       ·rw [if_pos c41] at H
        have c41b0 : decide (0 ≤ t314) = true := decide_eq_true c41
        clear c41
        have H' := Aside0.mk H
        clear H
        go_wp2
        go_meet
        case rel => exact ⟨_, (decide (t315 < 0)), (by first | rfl | (simp; done) | (simp [*]; done)), H', ⟨by have := HJ9.out; first | omega | exact Nat.le_refl _⟩, ⟨by (with_reducible repeat (first | apply Kd.R_alloc | apply Kd.R_drewN | apply Kd.R_drew)); exact HO_7.out⟩, ⟨by (with_reducible repeat (first | apply Kd.R_alloc | apply Kd.R_drewN | apply Kd.R_drew)); exact HO_8.out⟩, ⟨by (with_reducible repeat (first | apply Kd.R_alloc | apply Kd.R_drewN | apply Kd.R_drew)); exact HO_9.out⟩, ⟨by repeat (first | (with_reducible first | exact HB.out | apply below_alloc | apply pw_below_drewN | apply below_drew1) | exact HB.out)⟩⟩
       ·rw [if_neg c41] at H
        have c41b0 : decide (0 ≤ t314) = false := decide_eq_false c41
        clear c41
        have H' := Aside0.mk H
        clear H
        go_wp2
        go_meet
        case rel => exact ⟨_, (false), (by first | rfl | (simp; done) | (simp [*]; done)), H', ⟨by have := HJ9.out; first | omega | exact Nat.le_refl _⟩, ⟨by (with_reducible repeat (first | apply Kd.R_alloc | apply Kd.R_drewN | apply Kd.R_drew)); exact HO_7.out⟩, ⟨by (with_reducible repeat (first | apply Kd.R_alloc | apply Kd.R_drewN | apply Kd.R_drew)); exact HO_8.out⟩, ⟨by (with_reducible repeat (first | apply Kd.R_alloc | apply Kd.R_drewN | apply Kd.R_drew)); exact HO_9.out⟩, ⟨by repeat (first | (with_reducible first | exact HB.out | apply below_alloc | apply pw_below_drewN | apply below_drew1) | exact HB.out)⟩⟩
      ·rw [if_neg c40] at H
       have c40b0 : decide (0 ≤ t313) = false := decide_eq_false c40
       clear c40
       have H' := Aside0.mk H
       clear H
       go_wp2
       go_meet
       case rel => exact ⟨_, (false), (by first | rfl | (simp; done) | (simp [*]; done)), H', ⟨by have := HJ9.out; first | omega | exact Nat.le_refl _⟩, ⟨by (with_reducible repeat (first | apply Kd.R_alloc | apply Kd.R_drewN | apply Kd.R_drew)); exact HO_7.out⟩, ⟨by (with_reducible repeat (first | apply Kd.R_alloc | apply Kd.R_drewN | apply Kd.R_drew)); exact HO_8.out⟩, ⟨by (with_reducible repeat (first | apply Kd.R_alloc | apply Kd.R_drewN | apply Kd.R_drew)); exact HO_9.out⟩, ⟨by repeat (first | (with_reducible first | exact HB.out | apply below_alloc | apply pw_below_drewN | apply below_drew1) | exact HB.out)⟩⟩
    case rest =>
     clear HC32
     try clear c1
     try clear c2
     try clear p2
     try clear c3
     try clear c4
     try clear c6
     try clear p6
     try clear c19
     try clear c21
     try clear c21b0
     try clear c21b1
     try clear c23
     try clear c23b0
     try clear c23b1
     try clear c25
     try clear c25b0
     try clear c25b1
     try clear c29
     try clear c30
     try clear c31
     try clear c33
     try clear c33b0
     try clear c34
     try clear c34b0
     try clear c35
     try clear c35b0
     try clear c36
     try clear c36b0
     try clear c37
     try clear c37b0
     try clear c38
     try clear c38b0
     try clear c39
     try clear c39b0
     try clear c40
     try clear c40b0
     try clear c41
     try clear c41b0
     try clear p2
     try clear p6
     obtain ⟨kq, x77_31, rfl, HA, HJ31, HO_7, HO_8, HO_9, HB⟩ := hcut
     cases kq with
     | zero => exact absurd HA.out (by simp [intervalmonlaw05_LabelsOrder.j1])
     | succ kj31 =>
      have H := HA.out
      clear HA
      simp only [intervalmonlaw05_LabelsOrder.j1] at H
      by_cases c42 : x77_31 = true
      ·subst c42
       have H1 : (some false) = some r := by rw [if_pos rfl] at H; exact H
       clear H
       have H := H1
       clear H1
       exact absurd ((Option.some.inj H).trans HT0.out) (by decide)
      ·replace c42 := Bool.eq_false_iff.mpr c42
       subst c42
       have H1 : ((intervalmonref05_Same.f kj31 t304 t310).bind fun t320 => (if ((t315 == 0) == t320) = true then ((intervalmonref05_Same.f kj31 t304 t307).bind fun t321 => (if ((t313 == 0) == t321) = true then ((labels_Compare.f t304 t304).bind fun t322 => (if t322 = 0 then ((intervalmonlaw05_lives.f).bind fun t323 => (some t323)) else (some false))) else (some false))) else (some false))) = some r := by rw [if_neg (show ¬ (false = true) by decide)] at H; exact H
       clear H
       have H := H1
       clear H1
       replace H := Option.bind_eq_some_iff.mp H
       obtain ⟨t320, A430, H⟩ := H
       replace H : (if ((t315 == 0) == t320) = true then ((intervalmonref05_Same.f kj31 t304 t307).bind fun t321 => (if ((t313 == 0) == t321) = true then ((labels_Compare.f t304 t304).bind fun t322 => (if t322 = 0 then ((intervalmonlaw05_lives.f).bind fun t323 => (some t323)) else (some false))) else (some false))) else (some false)) = some r := H
       have A43 := Aside0.mk A430
       clear A430
       by_cases c44 : ((t315 == 0) == t320) = true
       ·rw [if_pos c44] at H
        have c44b0 : ((t315 == 0) == t320) = true := c44
        (try (have c44b1 : decide ((t315 == 0) = t320) = true := by simpa using c44))
        (try (have c44b2 : ((t315 == 0) == t320) = true := by simpa using c44))
        clear c44
        replace H := Option.bind_eq_some_iff.mp H
        obtain ⟨t321, A450, H⟩ := H
        replace H : (if ((t313 == 0) == t321) = true then ((labels_Compare.f t304 t304).bind fun t322 => (if t322 = 0 then ((intervalmonlaw05_lives.f).bind fun t323 => (some t323)) else (some false))) else (some false)) = some r := H
        have A45 := Aside0.mk A450
        clear A450
        by_cases c46 : ((t313 == 0) == t321) = true
        ·rw [if_pos c46] at H
         have c46b0 : ((t313 == 0) == t321) = true := c46
         (try (have c46b1 : decide ((t313 == 0) = t321) = true := by simpa using c46))
         (try (have c46b2 : ((t313 == 0) == t321) = true := by simpa using c46))
         clear c46
         replace H := Option.bind_eq_some_iff.mp H
         obtain ⟨t322, A470, H⟩ := H
         replace H : (if t322 = 0 then ((intervalmonlaw05_lives.f).bind fun t323 => (some t323)) else (some false)) = some r := H
         have A47 := Aside0.mk A470
         clear A470
         by_cases c48 : t322 = 0
         ·rw [if_pos c48] at H
          have c48b0 : (t322 == 0) = true := beq_iff_eq.mpr c48
          have c48b1 : (t322 != 0) = false := bne_eq_false_iff_eq.mpr c48
          clear c48
          replace H := Option.bind_eq_some_iff.mp H
          obtain ⟨t323, A490, H⟩ := H
          replace H : (some t323) = some r := H
          have A49 := Aside0.mk A490
          clear A490
          obtain rfl := Option.some.inj H
          go_wp2_with (first | ((with_reducible refine gate_callee (f := 26) rfl ?_); refine goesL_ (some 82) rfl rfl Try.func26 (by kernel_rfl) rfl #[.slice Ao14 t304.length co14, .slice Ao17 t310.length co17] rfl aq ?_; (with_reducible refine (intervalmonref05_Same.calls kj31 _ _ t304 _ _ t310 t320 _ ?side1 ?side2 ?side3 ?side4 A43.out).mono ?_); (case side1 => repeat (first | exact (Kd.R_reads' HO_7.out).2.2 | (with_reducible refine Kd.C_alloc ?_ _) | (with_reducible refine Kd.C_drewN ?_ _) | (with_reducible refine Kd.C_drew ?_))); (case side2 => exact (Kd.R_reads' HO_7.out).2.1); (case side3 => repeat (first | exact (Kd.R_reads' HO_9.out).2.2 | (with_reducible refine Kd.C_alloc ?_ _) | (with_reducible refine Kd.C_drewN ?_ _) | (with_reducible refine Kd.C_drew ?_))); (case side4 => exact (Kd.R_reads' HO_9.out).2.1); rintro e w' ⟨rfl, ⟨nd, rfl⟩⟩; refine ⟨_, rfl, ?_⟩) | (go_at_call 26; (with_reducible refine (intervalmonref05_Same.calls kj31 _ _ t304 _ _ t307 t321 _ ?side1 ?side2 ?side3 ?side4 A45.out).mono ?_); (case side1 => repeat (first | exact (Kd.R_reads' HO_7.out).2.2 | (with_reducible refine Kd.C_alloc ?_ _) | (with_reducible refine Kd.C_drewN ?_ _) | (with_reducible refine Kd.C_drew ?_))); (case side2 => exact (Kd.R_reads' HO_7.out).2.1); (case side3 => repeat (first | exact (Kd.R_reads' HO_8.out).2.2 | (with_reducible refine Kd.C_alloc ?_ _) | (with_reducible refine Kd.C_drewN ?_ _) | (with_reducible refine Kd.C_drew ?_))); (case side4 => exact (Kd.R_reads' HO_8.out).2.1); rintro e w' ⟨rfl, ⟨nd, rfl⟩⟩) | (go_at_call 30; (with_reducible refine (labels_Compare.calls _ _ t304 _ _ t304 t322 _ ?side1 ?side2 ?side3 ?side4 A47.out).mono ?_); (case side1 => repeat (first | exact (Kd.R_reads' HO_7.out).2.2 | (with_reducible refine Kd.C_alloc ?_ _) | (with_reducible refine Kd.C_drewN ?_ _) | (with_reducible refine Kd.C_drew ?_))); (case side2 => exact (Kd.R_reads' HO_7.out).2.1); (case side3 => repeat (first | exact (Kd.R_reads' HO_7.out).2.2 | (with_reducible refine Kd.C_alloc ?_ _) | (with_reducible refine Kd.C_drewN ?_ _) | (with_reducible refine Kd.C_drew ?_))); (case side4 => exact (Kd.R_reads' HO_7.out).2.1); rintro e w50 ⟨rfl, hb⟩; have n0_ := Aside0.mk (Kd.R_below (rq HO_7) hb); have n1_ := Aside0.mk (Kd.R_below (rq HO_8) hb); have n2_ := Aside0.mk (Kd.R_below (rq HO_9) hb); have n3_ := Aside0.mk (below_step (hq HB) hb); clear HO_7; clear HO_8; clear HO_9; clear HB; have HO_7 := n0_; have HO_8 := n1_; have HO_9 := n2_; have HB := n3_; clear n0_ n1_ n2_ n3_; (try clear hb); (try clear hb2); (try clear hk); (try clear hi)) | (go_at_call 18; (with_reducible refine (intervalmonlaw05_lives.calls  t323 _ A49.out).mono ?_); rintro e w51 ⟨rfl, hb⟩; have n0_ := Aside0.mk (Kd.R_below (rq HO_7) hb); have n1_ := Aside0.mk (Kd.R_below (rq HO_8) hb); have n2_ := Aside0.mk (Kd.R_below (rq HO_9) hb); have n3_ := Aside0.mk (below_step (hq HB) hb); clear HO_7; clear HO_8; clear HO_9; clear HB; have HO_7 := n0_; have HO_8 := n1_; have HO_9 := n2_; have HB := n3_; clear n0_ n1_ n2_ n3_; (try clear hb); (try clear hb2); (try clear hk); (try clear hi)))
          go_ret
          exact ⟨by first | rfl | (simp [errW_none, errW_some] <;> rfl) | (simp [*, errW_none, errW_some] <;> rfl), by repeat (first | (with_reducible first | exact HB.out | apply below_alloc | apply pw_below_drewN | apply below_drew1) | exact HB.out)⟩
         ·rw [if_neg c48] at H
          have c48b0 : (t322 == 0) = false := beq_eq_false_iff_ne.mpr c48
          have c48b1 : (t322 != 0) = true := bne_iff_ne.mpr c48
          exact absurd ((Option.some.inj H).trans HT0.out) (by decide)
        ·rw [if_neg c46] at H
         have c46b0 : ((t313 == 0) == t321) = false := by simpa using c46
         (try (have c46b1 : decide ((t313 == 0) = t321) = false := by simpa using c46))
         (try (have c46b2 : ((t313 == 0) == t321) = false := by simpa using c46))
         (try (have c46b3 : ¬ ((t313 == 0) = t321) := by simpa using c46))
         clear c46
         exact absurd ((Option.some.inj H).trans HT0.out) (by decide)
       ·rw [if_neg c44] at H
        have c44b0 : ((t315 == 0) == t320) = false := by simpa using c44
        (try (have c44b1 : decide ((t315 == 0) = t320) = false := by simpa using c44))
        (try (have c44b2 : ((t315 == 0) == t320) = false := by simpa using c44))
        (try (have c44b3 : ¬ ((t315 == 0) = t320) := by simpa using c44))
        clear c44
        exact absurd ((Option.some.inj H).trans HT0.out) (by decide)

/-- THE ONE PURE STATEMENT of intervalmonlaw05_LabelsOrder: yours. -/
def intervalmonlaw05_LabelsOrder.Pure : Prop := ∀ (l0 : List Int) (l1 : List Int) (l2 : List Int), l0.length ≤ maxLen → l0.length * 8 ≤ 140737488351232 → (∀ x ∈ l0, (Lit.int .i64 x).wf = true) → l1.length ≤ maxLen → l1.length * 8 ≤ 140737488351232 → (∀ x ∈ l1, (Lit.int .i64 x).wf = true) → l2.length ≤ maxLen → l2.length * 8 ≤ 140737488351232 → (∀ x ∈ l2, (Lit.int .i64 x).wf = true) → ∃ k, intervalmonlaw05_LabelsOrder.f k l0 l1 l2 = some true
theorem intervalmonlaw05_LabelsOrder.walk (P : intervalmonlaw05_LabelsOrder.Pure) (a0 : Option Addr) (len0 cap0 : Nat) (z0 : List Int) (a1 : Option Addr) (len1 cap1 : Nat) (z1 : List Int) (a2 : Option Addr) (len2 cap2 : Nat) (z2 : List Int) (w : World) (w0 : (a0 = none ∧ len0 = 0 ∧ cap0 = 0 ∧ z0 = []) ∨ ∃ x, a0 = some x ∧ len0 ≤ cap0 ∧ cap0 ≤ maxLen ∧ z0.length = cap0 ∧ (∀ i, i < z0.length → w.cell? (x.add i) = some (.int .i64 (z0.getD i 0))) ∧ ∀ n ∈ z0, (Lit.int .i64 n).wf = true) (y0 : len0 * 8 ≤ 140737488351232) (w1 : (a1 = none ∧ len1 = 0 ∧ cap1 = 0 ∧ z1 = []) ∨ ∃ x, a1 = some x ∧ len1 ≤ cap1 ∧ cap1 ≤ maxLen ∧ z1.length = cap1 ∧ (∀ i, i < z1.length → w.cell? (x.add i) = some (.int .i64 (z1.getD i 0))) ∧ ∀ n ∈ z1, (Lit.int .i64 n).wf = true) (y1 : len1 * 8 ≤ 140737488351232) (w2 : (a2 = none ∧ len2 = 0 ∧ cap2 = 0 ∧ z2 = []) ∨ ∃ x, a2 = some x ∧ len2 ≤ cap2 ∧ cap2 ≤ maxLen ∧ z2.length = cap2 ∧ (∀ i, i < z2.length → w.cell? (x.add i) = some (.int .i64 (z2.getD i 0))) ∧ ∀ n ∈ z2, (Lit.int .i64 n).wf = true) (y2 : len2 * 8 ≤ 140737488351232) :
  Calls Try.prog 6 #[.slice a0 len0 cap0, .slice a1 len1 cap1, .slice a2 len2 cap2] w fun e w' => e = .returned (.bool true) ∧ Below w.heap.size w w' := by
 obtain ⟨l0, rfl, hr0, hm0, hw0, hc0⟩ := ReadsInt.ofRowC w0
 obtain ⟨l1, rfl, hr1, hm1, hw1, hc1⟩ := ReadsInt.ofRowC w1
 obtain ⟨l2, rfl, hr2, hm2, hw2, hc2⟩ := ReadsInt.ofRowC w2
 obtain ⟨k, h⟩ := P l0 l1 l2 hm0 y0 hw0 hm1 y1 hw1 hm2 y2 hw2
 refine (intervalmonlaw05_LabelsOrder.calls k _ _ l0 _ _ l1 _ _ l2 true w (Kd.C_of_reads (d := (0 : Int)) (h1 := fun _ => rfl) hr0) hc0 (Kd.C_of_reads (d := (0 : Int)) (h1 := fun _ => rfl) hr1) hc1 (Kd.C_of_reads (d := (0 : Int)) (h1 := fun _ => rfl) hr2) hc2 h).mono ?_
 rintro e w' ⟨rfl, hd⟩
 exact ⟨rfl, hd⟩

/-! ### slices_Index_string_string: function 64 -/
def slices_Index_string_string.l0 : Nat → List ByteArray → ByteArray → Int → Int → Option (Int)
 | 0, _, _, _, _ => none
 | k + 1, x0, x1, x7, x8 => if x8 < x7 then (if 0 ≤ x8 then (if x8 < (x0.length : Int) then (if x1.toList = (rdOf ByteArray.empty x0 x8).toList then (some x8) else (slices_Index_string_string.l0 k x0 x1 x7 (wrap64 (x8 + 1)))) else (none)) else (none)) else (some (-1))
def slices_Index_string_string.f (k : Nat) (l0 : List ByteArray) (a1 : ByteArray) : Option (Int) := slices_Index_string_string.l0 k l0 a1 (l0.length : Int) 0
theorem slices_Index_string_string.mono_l : ∀ k, (∀ y0 y1 y2 y3, LeO (slices_Index_string_string.l0 k y0 y1 y2 y3) (slices_Index_string_string.l0 (k + 1) y0 y1 y2 y3))
 | 0 => fun _ _ _ _ r h => by simp [slices_Index_string_string.l0] at h
 | k + 1 => by
  have ih0 := slices_Index_string_string.mono_l k
  ·intro y0 y1 y2 y3
   unfold slices_Index_string_string.l0
   repeat' first
   | (with_reducible exact ih0 _ _ _ _)
   | (with_reducible exact LeO.refl _)
   | (with_reducible exact LeO.none _)
   | (with_reducible refine LeO.ite ?_ ?_)
   | (with_reducible refine LeO.bind ?_ (fun _ => ?_))
   | exact ih0 _ _ _ _
   | exact LeO.none _
   | refine LeO.ite ?_ ?_
   | refine LeO.bind ?_ (fun _ => ?_)
theorem slices_Index_string_string.mono : ∀ a0 a1 k, LeO (slices_Index_string_string.f k a0 a1) (slices_Index_string_string.f (k + 1) a0 a1) := by
 intro a0 a1 k
 have ih0 := slices_Index_string_string.mono_l k
 unfold slices_Index_string_string.f
 repeat' first
   | (with_reducible exact ih0 _ _ _ _)
   | (with_reducible exact LeO.refl _)
   | (with_reducible exact LeO.none _)
   | (with_reducible refine LeO.ite ?_ ?_)
   | (with_reducible refine LeO.bind ?_ (fun _ => ?_))
   | exact ih0 _ _ _ _
   | exact LeO.none _
   | refine LeO.ite ?_ ?_
   | refine LeO.bind ?_ (fun _ => ?_)
set_option maxHeartbeats 8000000 in
set_option maxRecDepth 100000 in
theorem slices_Index_string_string.calls (k : Nat) (A0 : Option Addr) (c0 : Nat) (l0 : List ByteArray) (a1 : ByteArray) (r : Int) (w : World) (hr0 : Kd.C Kd.string w A0 l0.length l0) (hc0 : l0.length ≤ c0) (h : slices_Index_string_string.f k l0 a1 = some r) :
  Calls Try.prog 64 #[.slice A0 l0.length c0, .string a1] w fun e w' => e = .returned (.int .i64 r) ∧ Drawn0 w w' := by
 have HR0 := Aside0.mk hr0
 have HC0 := Aside0.mk hc0
 clear hr0 hc0
 have H : (slices_Index_string_string.l0 k l0 a1 (l0.length : Int) 0) = some r := h
 clear h
 have H' := Aside0.mk H
 clear H
 go_enter Try.func64, Try.ntmps64
 go_wp2
 go_loopg [8] k (fun kq v8 w' => ∃ (x8_1 : Int), v8 = .int .i64 x8_1 ∧ Aside0 (slices_Index_string_string.l0 kq l0 a1 (l0.length : Int) x8_1 = some r) ∧ Aside0 (kq ≤ k) ∧ Drawn0 w w')
 case atStart => exact ⟨(0), (by first | rfl | (simp; done) | (simp [*]; done)), H', ⟨Nat.le_refl _⟩, by repeat (first | exact Drawn0.refl _ | apply Drawn0.step)⟩
 case round =>
  clear H'
  try clear p2
  obtain ⟨x8_1, rfl, HA, HK1, ⟨m1, rfl⟩⟩ := hrel
  cases gk with
  | zero => exact absurd HA.out (by simp [slices_Index_string_string.l0])
  | succ k1 =>
   have H := HA.out
   clear HA
   simp only [slices_Index_string_string.l0] at H
   by_cases c3 : x8_1 < (l0.length : Int)
   ·rw [if_pos c3] at H
    have c3b0 : decide (x8_1 < (l0.length : Int)) = true := decide_eq_true c3
    clear c3
    by_cases c4 : 0 ≤ x8_1
    ·rw [if_pos c4] at H
     have c4b0 : decide (0 ≤ x8_1) = true := decide_eq_true c4
     clear c4
     by_cases c5 : x8_1 < (l0.length : Int)
     ·rw [if_pos c5] at H
      have c5b0 : decide (x8_1 < (l0.length : Int)) = true := decide_eq_true c5
      clear c5
      by_cases c6 : a1.toList = (rdOf ByteArray.empty l0 x8_1).toList
      ·rw [if_pos c6] at H
       have c6b0 : (a1.toList == (rdOf ByteArray.empty l0 x8_1).toList) = true := beq_iff_eq.mpr c6
       have c6b1 : (a1.toList != (rdOf ByteArray.empty l0 x8_1).toList) = false := bne_eq_false_iff_eq.mpr c6
       clear c6
       obtain rfl := Option.some.inj H
       have p324 : 0 ≤ (x8_1 : Int) := of_decide_eq_true (by first | (with_reducible assumption) | assumption)
       have q324 : x8_1 < (l0.length : Int) := of_decide_eq_true (by first | (with_reducible assumption) | assumption)
       obtain ⟨ad324, e324, hx324_0⟩ := Kd.at_string HR0.out x8_1 p324 q324
       cases e324
       replace p324 := eq_true p324
       replace q324 := eq_true q324
       go_wp2
       go_ret
       exact ⟨by first | rfl | (simp; done) | (simp [*]; done), by repeat (first | exact Drawn0.refl _ | apply Drawn0.step)⟩
      ·rw [if_neg c6] at H
       have c6b0 : (a1.toList == (rdOf ByteArray.empty l0 x8_1).toList) = false := beq_eq_false_iff_ne.mpr c6
       have c6b1 : (a1.toList != (rdOf ByteArray.empty l0 x8_1).toList) = true := bne_iff_ne.mpr c6
       have H' := Aside0.mk H
       clear H
       have p324 : 0 ≤ (x8_1 : Int) := of_decide_eq_true (by first | (with_reducible assumption) | assumption)
       have q324 : x8_1 < (l0.length : Int) := of_decide_eq_true (by first | (with_reducible assumption) | assumption)
       obtain ⟨ad324, e324, hx324_0⟩ := Kd.at_string HR0.out x8_1 p324 q324
       cases e324
       replace p324 := eq_true p324
       replace q324 := eq_true q324
       go_wp2
       go_roundg k1
       case measure => have := HK1.out; omega
       case rel => exact ⟨(wrap64 (x8_1 + 1)), (by first | rfl | (simp; done) | (simp [*]; done)), H', ⟨by have := HK1.out; omega⟩, by repeat (first | exact Drawn0.refl _ | apply Drawn0.step)⟩
     ·rw [if_neg c5] at H
      exact absurd H (by simp)
    ·rw [if_neg c4] at H
     exact absurd H (by simp)
   ·rw [if_neg c3] at H
    have c3b0 : decide (x8_1 < (l0.length : Int)) = false := decide_eq_false c3
    clear c3
    obtain rfl := Option.some.inj H
    go_wp2
    go_ret
    exact ⟨by first | rfl | (simp; done) | (simp [*]; done), by repeat (first | exact Drawn0.refl _ | apply Drawn0.step)⟩

end Go.Proofs.Ytlohkfmobeapdaa.P
