-- Written by this session's own copy of a printing program (wip/tools); Lean checks it.
import Derived.Test.YtcamljlhdejmmaaPx0
import Derived.Test.YtcamljlhdejmmaaPx2
import Derived.Test.YtcamljlhdejmmaaPx10
import Derived.Test.YtcamljlhdejmmaaPx11
import Derived.Test.YtcamljlhdejmmaaPx20
import Derived.Test.YtcamljlhdejmmaaPx21
namespace Go.Proofs.Ytcamljlhdejmmaa.P
open Go.RowKit Go.Proofs.YtcamljlhdejmmaaW.PrintWords Go.Proofs.YtcamljlhdejmmaaW.PrintLast Go.Proofs.YtcamljlhdejmmaaW.PrintMore
attribute [local go_sem] max2_int min2_int max_two min_two max_three min_three max_four min_four   -- for this text's walks alone
set_option linter.unusedVariables false
set_option linter.unusedSimpArgs false

/-! ### intervalmonlaw29_RoutePeriodic: function 9 -/
mutual
def intervalmonlaw29_RoutePeriodic.l0 : Nat → Int → List (S60) → Int → List ByteArray → ByteArray → Bool → Int → Option (Bool)
 | 0, _, _, _, _, _, _, _ => none
 | k + 1, x5, x7, x8, x9, x10, x11, x12 => if x12 < 9 then ((route_OnDuty.f k x5 x7 x8 x12).bind fun bt551 => ((route_OnDuty.f k x5 x7 (wrap64 (x8 + x5)) x12).bind fun bt553 => (if bt551.2 = 0 then (if bt553.2 = 0 then (intervalmonlaw29_RoutePeriodic.j1 k x5 x7 x8 x9 x10 x11 x12 bt551.1 (bt551.1.toList != bt553.1.toList)) else (intervalmonlaw29_RoutePeriodic.j1 k x5 x7 x8 x9 x10 x11 x12 bt551.1 true)) else (intervalmonlaw29_RoutePeriodic.j1 k x5 x7 x8 x9 x10 x11 x12 bt551.1 true)))) else ((intervalmonlaw29_lives.f k).bind fun t550 => (some t550))
def intervalmonlaw29_RoutePeriodic.j1 : Nat → Int → List (S60) → Int → List ByteArray → ByteArray → Bool → Int → ByteArray → Bool → Option (Bool)
 | 0, _, _, _, _, _, _, _, _, _ => none
 | k + 1, x5, x7, x8, x9, x10, x11, x12, x13, x62 => if x62 = true then (some false) else (intervalmonlaw29_RoutePeriodic.l1 k x5 x7 x8 x9 x10 x11 x12 x13 false 0)
def intervalmonlaw29_RoutePeriodic.l1 : Nat → Int → List (S60) → Int → List ByteArray → ByteArray → Bool → Int → ByteArray → Bool → Int → Option (Bool)
 | 0, _, _, _, _, _, _, _, _, _, _ => none
 | k + 1, x5, x7, x8, x9, x10, x11, x12, x13, x17, x18 => if x18 < (x9.length : Int) then (if x17 = true then (intervalmonlaw29_RoutePeriodic.l1 k x5 x7 x8 x9 x10 x11 x12 x13 true (wrap64 (x18 + 1))) else (if 0 ≤ x18 then (intervalmonlaw29_RoutePeriodic.l1 k x5 x7 x8 x9 x10 x11 x12 x13 ((rdOf ByteArray.empty x9 x18).toList == x13.toList) (wrap64 (x18 + 1))) else (none))) else (if x12 > 0 then (if x17 = true then (if x13.toList = x10.toList then (if x11 = true then (intervalmonlaw29_RoutePeriodic.j3 k x5 x7 x8 x9 x11 x12 x13 x17 (x13.toList != x10.toList)) else (intervalmonlaw29_RoutePeriodic.j3 k x5 x7 x8 x9 x11 x12 x13 x17 false)) else (intervalmonlaw29_RoutePeriodic.j3 k x5 x7 x8 x9 x11 x12 x13 x17 true)) else (if x11 = true then (intervalmonlaw29_RoutePeriodic.j3 k x5 x7 x8 x9 x11 x12 x13 x17 (x13.toList != x10.toList)) else (intervalmonlaw29_RoutePeriodic.j3 k x5 x7 x8 x9 x11 x12 x13 x17 false))) else (if x11 = true then (intervalmonlaw29_RoutePeriodic.j3 k x5 x7 x8 x9 x11 x12 x13 x17 (x13.toList != x10.toList)) else (intervalmonlaw29_RoutePeriodic.j3 k x5 x7 x8 x9 x11 x12 x13 x17 false)))
def intervalmonlaw29_RoutePeriodic.j3 : Nat → Int → List (S60) → Int → List ByteArray → Bool → Int → ByteArray → Bool → Bool → Option (Bool)
 | 0, _, _, _, _, _, _, _, _, _ => none
 | k + 1, x5, x7, x8, x9, x11, x12, x13, x17, x95 => if x95 = true then (some false) else (if x11 = true then (intervalmonlaw29_RoutePeriodic.j4 k x5 x7 x8 x9 true x12 x13) else (intervalmonlaw29_RoutePeriodic.j4 k x5 x7 x8 x9 x17 x12 x13))
def intervalmonlaw29_RoutePeriodic.j4 : Nat → Int → List (S60) → Int → List ByteArray → Bool → Int → ByteArray → Option (Bool)
 | 0, _, _, _, _, _, _, _ => none
 | k + 1, x5, x7, x8, x9, x11, x12, x13 => if x9.length < 8796093022208 then (intervalmonlaw29_RoutePeriodic.l2 k x5 x7 x8 (x9 ++ [x13]) x13 x11 x12 x13 false 0) else (none)
def intervalmonlaw29_RoutePeriodic.l2 : Nat → Int → List (S60) → Int → List ByteArray → ByteArray → Bool → Int → ByteArray → Bool → Int → Option (Bool)
 | 0, _, _, _, _, _, _, _, _, _, _ => none
 | k + 1, x5, x7, x8, x9, x10, x11, x12, x13, x19, x20 => if x20 < (x7.length : Int) then (if x19 = true then (intervalmonlaw29_RoutePeriodic.l2 k x5 x7 x8 x9 x10 x11 x12 x13 true (wrap64 (x20 + 1))) else (if 0 ≤ x20 then (if ((rd_T60 x7 x20).f0).toList = x13.toList then (if x5 = 0 then (none) else (if ((rd_T60 x7 x20).f1) ≤ (Int.tmod x8 x5) then (intervalmonlaw29_RoutePeriodic.l2 k x5 x7 x8 x9 x10 x11 x12 x13 (decide ((Int.tmod x8 x5) < ((rd_T60 x7 x20).f2))) (wrap64 (x20 + 1))) else (intervalmonlaw29_RoutePeriodic.l2 k x5 x7 x8 x9 x10 x11 x12 x13 false (wrap64 (x20 + 1))))) else (intervalmonlaw29_RoutePeriodic.l2 k x5 x7 x8 x9 x10 x11 x12 x13 false (wrap64 (x20 + 1)))) else (none))) else (if x19 = true then (intervalmonlaw29_RoutePeriodic.l0 k x5 x7 x8 x9 x10 x11 (wrap64 (x12 + 1))) else (some false))
end
def intervalmonlaw29_RoutePeriodic.f (k : Nat) (l0 : List Int) (a1 : Int) : Option (Bool) := (intervalmonref29_Rota.f k l0 false).bind fun bt542 => ((intervalmonlaw29_shifts.f k bt542.2).bind fun t546 => ((intervalmonref01_Around.f a1 1000000).bind fun t549 => (intervalmonlaw29_RoutePeriodic.l0 k bt542.1 t546 t549 ([] : List ByteArray) (⟨#[]⟩ : ByteArray) false 0)))
theorem intervalmonlaw29_RoutePeriodic.mono_l : ∀ k, (∀ y0 y1 y2 y3 y4 y5 y6, LeO (intervalmonlaw29_RoutePeriodic.l0 k y0 y1 y2 y3 y4 y5 y6) (intervalmonlaw29_RoutePeriodic.l0 (k + 1) y0 y1 y2 y3 y4 y5 y6)) ∧ (∀ y0 y1 y2 y3 y4 y5 y6 y7 y8, LeO (intervalmonlaw29_RoutePeriodic.j1 k y0 y1 y2 y3 y4 y5 y6 y7 y8) (intervalmonlaw29_RoutePeriodic.j1 (k + 1) y0 y1 y2 y3 y4 y5 y6 y7 y8)) ∧ (∀ y0 y1 y2 y3 y4 y5 y6 y7 y8 y9, LeO (intervalmonlaw29_RoutePeriodic.l1 k y0 y1 y2 y3 y4 y5 y6 y7 y8 y9) (intervalmonlaw29_RoutePeriodic.l1 (k + 1) y0 y1 y2 y3 y4 y5 y6 y7 y8 y9)) ∧ (∀ y0 y1 y2 y3 y4 y5 y6 y7 y8, LeO (intervalmonlaw29_RoutePeriodic.j3 k y0 y1 y2 y3 y4 y5 y6 y7 y8) (intervalmonlaw29_RoutePeriodic.j3 (k + 1) y0 y1 y2 y3 y4 y5 y6 y7 y8)) ∧ (∀ y0 y1 y2 y3 y4 y5 y6, LeO (intervalmonlaw29_RoutePeriodic.j4 k y0 y1 y2 y3 y4 y5 y6) (intervalmonlaw29_RoutePeriodic.j4 (k + 1) y0 y1 y2 y3 y4 y5 y6)) ∧ (∀ y0 y1 y2 y3 y4 y5 y6 y7 y8 y9, LeO (intervalmonlaw29_RoutePeriodic.l2 k y0 y1 y2 y3 y4 y5 y6 y7 y8 y9) (intervalmonlaw29_RoutePeriodic.l2 (k + 1) y0 y1 y2 y3 y4 y5 y6 y7 y8 y9))
 | 0 => ⟨fun _ _ _ _ _ _ _ r h => by simp [intervalmonlaw29_RoutePeriodic.l0] at h, fun _ _ _ _ _ _ _ _ _ r h => by simp [intervalmonlaw29_RoutePeriodic.j1] at h, fun _ _ _ _ _ _ _ _ _ _ r h => by simp [intervalmonlaw29_RoutePeriodic.l1] at h, fun _ _ _ _ _ _ _ _ _ r h => by simp [intervalmonlaw29_RoutePeriodic.j3] at h, fun _ _ _ _ _ _ _ r h => by simp [intervalmonlaw29_RoutePeriodic.j4] at h, fun _ _ _ _ _ _ _ _ _ _ r h => by simp [intervalmonlaw29_RoutePeriodic.l2] at h⟩
 | k + 1 => by
  obtain ⟨ih0, ih1, ih2, ih3, ih4, ih5⟩ := intervalmonlaw29_RoutePeriodic.mono_l k
  refine ⟨?_, ?_, ?_, ?_, ?_, ?_⟩
  ·intro y0 y1 y2 y3 y4 y5 y6
   unfold intervalmonlaw29_RoutePeriodic.l0
   repeat' first
   | (with_reducible exact ih0 _ _ _ _ _ _ _)
   | (with_reducible exact ih1 _ _ _ _ _ _ _ _ _)
   | (with_reducible exact ih2 _ _ _ _ _ _ _ _ _ _)
   | (with_reducible exact ih3 _ _ _ _ _ _ _ _ _)
   | (with_reducible exact ih4 _ _ _ _ _ _ _)
   | (with_reducible exact ih5 _ _ _ _ _ _ _ _ _ _)
   | (with_reducible exact intervalmonlaw29_lives.mono _)
   | (with_reducible exact intervalmonlaw29_shifts.mono _ _)
   | (with_reducible exact intervalmonref29_Rota.mono _ _ _)
   | (with_reducible exact route_OnDuty.mono _ _ _ _ _)
   | (with_reducible exact LeO.refl _)
   | (with_reducible exact LeO.none _)
   | (with_reducible refine LeO.ite ?_ ?_)
   | (with_reducible refine LeO.bind ?_ (fun _ => ?_))
   | exact ih0 _ _ _ _ _ _ _
   | exact ih1 _ _ _ _ _ _ _ _ _
   | exact ih2 _ _ _ _ _ _ _ _ _ _
   | exact ih3 _ _ _ _ _ _ _ _ _
   | exact ih4 _ _ _ _ _ _ _
   | exact ih5 _ _ _ _ _ _ _ _ _ _
   | exact intervalmonlaw29_lives.mono _
   | exact intervalmonlaw29_shifts.mono _ _
   | exact intervalmonref29_Rota.mono _ _ _
   | exact route_OnDuty.mono _ _ _ _ _
   | exact LeO.none _
   | refine LeO.ite ?_ ?_
   | refine LeO.bind ?_ (fun _ => ?_)
  ·intro y0 y1 y2 y3 y4 y5 y6 y7 y8
   unfold intervalmonlaw29_RoutePeriodic.j1
   repeat' first
   | (with_reducible exact ih0 _ _ _ _ _ _ _)
   | (with_reducible exact ih1 _ _ _ _ _ _ _ _ _)
   | (with_reducible exact ih2 _ _ _ _ _ _ _ _ _ _)
   | (with_reducible exact ih3 _ _ _ _ _ _ _ _ _)
   | (with_reducible exact ih4 _ _ _ _ _ _ _)
   | (with_reducible exact ih5 _ _ _ _ _ _ _ _ _ _)
   | (with_reducible exact intervalmonlaw29_lives.mono _)
   | (with_reducible exact intervalmonlaw29_shifts.mono _ _)
   | (with_reducible exact intervalmonref29_Rota.mono _ _ _)
   | (with_reducible exact route_OnDuty.mono _ _ _ _ _)
   | (with_reducible exact LeO.refl _)
   | (with_reducible exact LeO.none _)
   | (with_reducible refine LeO.ite ?_ ?_)
   | (with_reducible refine LeO.bind ?_ (fun _ => ?_))
   | exact ih0 _ _ _ _ _ _ _
   | exact ih1 _ _ _ _ _ _ _ _ _
   | exact ih2 _ _ _ _ _ _ _ _ _ _
   | exact ih3 _ _ _ _ _ _ _ _ _
   | exact ih4 _ _ _ _ _ _ _
   | exact ih5 _ _ _ _ _ _ _ _ _ _
   | exact intervalmonlaw29_lives.mono _
   | exact intervalmonlaw29_shifts.mono _ _
   | exact intervalmonref29_Rota.mono _ _ _
   | exact route_OnDuty.mono _ _ _ _ _
   | exact LeO.none _
   | refine LeO.ite ?_ ?_
   | refine LeO.bind ?_ (fun _ => ?_)
  ·intro y0 y1 y2 y3 y4 y5 y6 y7 y8 y9
   unfold intervalmonlaw29_RoutePeriodic.l1
   repeat' first
   | (with_reducible exact ih0 _ _ _ _ _ _ _)
   | (with_reducible exact ih1 _ _ _ _ _ _ _ _ _)
   | (with_reducible exact ih2 _ _ _ _ _ _ _ _ _ _)
   | (with_reducible exact ih3 _ _ _ _ _ _ _ _ _)
   | (with_reducible exact ih4 _ _ _ _ _ _ _)
   | (with_reducible exact ih5 _ _ _ _ _ _ _ _ _ _)
   | (with_reducible exact intervalmonlaw29_lives.mono _)
   | (with_reducible exact intervalmonlaw29_shifts.mono _ _)
   | (with_reducible exact intervalmonref29_Rota.mono _ _ _)
   | (with_reducible exact route_OnDuty.mono _ _ _ _ _)
   | (with_reducible exact LeO.refl _)
   | (with_reducible exact LeO.none _)
   | (with_reducible refine LeO.ite ?_ ?_)
   | (with_reducible refine LeO.bind ?_ (fun _ => ?_))
   | exact ih0 _ _ _ _ _ _ _
   | exact ih1 _ _ _ _ _ _ _ _ _
   | exact ih2 _ _ _ _ _ _ _ _ _ _
   | exact ih3 _ _ _ _ _ _ _ _ _
   | exact ih4 _ _ _ _ _ _ _
   | exact ih5 _ _ _ _ _ _ _ _ _ _
   | exact intervalmonlaw29_lives.mono _
   | exact intervalmonlaw29_shifts.mono _ _
   | exact intervalmonref29_Rota.mono _ _ _
   | exact route_OnDuty.mono _ _ _ _ _
   | exact LeO.none _
   | refine LeO.ite ?_ ?_
   | refine LeO.bind ?_ (fun _ => ?_)
  ·intro y0 y1 y2 y3 y4 y5 y6 y7 y8
   unfold intervalmonlaw29_RoutePeriodic.j3
   repeat' first
   | (with_reducible exact ih0 _ _ _ _ _ _ _)
   | (with_reducible exact ih1 _ _ _ _ _ _ _ _ _)
   | (with_reducible exact ih2 _ _ _ _ _ _ _ _ _ _)
   | (with_reducible exact ih3 _ _ _ _ _ _ _ _ _)
   | (with_reducible exact ih4 _ _ _ _ _ _ _)
   | (with_reducible exact ih5 _ _ _ _ _ _ _ _ _ _)
   | (with_reducible exact intervalmonlaw29_lives.mono _)
   | (with_reducible exact intervalmonlaw29_shifts.mono _ _)
   | (with_reducible exact intervalmonref29_Rota.mono _ _ _)
   | (with_reducible exact route_OnDuty.mono _ _ _ _ _)
   | (with_reducible exact LeO.refl _)
   | (with_reducible exact LeO.none _)
   | (with_reducible refine LeO.ite ?_ ?_)
   | (with_reducible refine LeO.bind ?_ (fun _ => ?_))
   | exact ih0 _ _ _ _ _ _ _
   | exact ih1 _ _ _ _ _ _ _ _ _
   | exact ih2 _ _ _ _ _ _ _ _ _ _
   | exact ih3 _ _ _ _ _ _ _ _ _
   | exact ih4 _ _ _ _ _ _ _
   | exact ih5 _ _ _ _ _ _ _ _ _ _
   | exact intervalmonlaw29_lives.mono _
   | exact intervalmonlaw29_shifts.mono _ _
   | exact intervalmonref29_Rota.mono _ _ _
   | exact route_OnDuty.mono _ _ _ _ _
   | exact LeO.none _
   | refine LeO.ite ?_ ?_
   | refine LeO.bind ?_ (fun _ => ?_)
  ·intro y0 y1 y2 y3 y4 y5 y6
   unfold intervalmonlaw29_RoutePeriodic.j4
   repeat' first
   | (with_reducible exact ih0 _ _ _ _ _ _ _)
   | (with_reducible exact ih1 _ _ _ _ _ _ _ _ _)
   | (with_reducible exact ih2 _ _ _ _ _ _ _ _ _ _)
   | (with_reducible exact ih3 _ _ _ _ _ _ _ _ _)
   | (with_reducible exact ih4 _ _ _ _ _ _ _)
   | (with_reducible exact ih5 _ _ _ _ _ _ _ _ _ _)
   | (with_reducible exact intervalmonlaw29_lives.mono _)
   | (with_reducible exact intervalmonlaw29_shifts.mono _ _)
   | (with_reducible exact intervalmonref29_Rota.mono _ _ _)
   | (with_reducible exact route_OnDuty.mono _ _ _ _ _)
   | (with_reducible exact LeO.refl _)
   | (with_reducible exact LeO.none _)
   | (with_reducible refine LeO.ite ?_ ?_)
   | (with_reducible refine LeO.bind ?_ (fun _ => ?_))
   | exact ih0 _ _ _ _ _ _ _
   | exact ih1 _ _ _ _ _ _ _ _ _
   | exact ih2 _ _ _ _ _ _ _ _ _ _
   | exact ih3 _ _ _ _ _ _ _ _ _
   | exact ih4 _ _ _ _ _ _ _
   | exact ih5 _ _ _ _ _ _ _ _ _ _
   | exact intervalmonlaw29_lives.mono _
   | exact intervalmonlaw29_shifts.mono _ _
   | exact intervalmonref29_Rota.mono _ _ _
   | exact route_OnDuty.mono _ _ _ _ _
   | exact LeO.none _
   | refine LeO.ite ?_ ?_
   | refine LeO.bind ?_ (fun _ => ?_)
  ·intro y0 y1 y2 y3 y4 y5 y6 y7 y8 y9
   unfold intervalmonlaw29_RoutePeriodic.l2
   repeat' first
   | (with_reducible exact ih0 _ _ _ _ _ _ _)
   | (with_reducible exact ih1 _ _ _ _ _ _ _ _ _)
   | (with_reducible exact ih2 _ _ _ _ _ _ _ _ _ _)
   | (with_reducible exact ih3 _ _ _ _ _ _ _ _ _)
   | (with_reducible exact ih4 _ _ _ _ _ _ _)
   | (with_reducible exact ih5 _ _ _ _ _ _ _ _ _ _)
   | (with_reducible exact intervalmonlaw29_lives.mono _)
   | (with_reducible exact intervalmonlaw29_shifts.mono _ _)
   | (with_reducible exact intervalmonref29_Rota.mono _ _ _)
   | (with_reducible exact route_OnDuty.mono _ _ _ _ _)
   | (with_reducible exact LeO.refl _)
   | (with_reducible exact LeO.none _)
   | (with_reducible refine LeO.ite ?_ ?_)
   | (with_reducible refine LeO.bind ?_ (fun _ => ?_))
   | exact ih0 _ _ _ _ _ _ _
   | exact ih1 _ _ _ _ _ _ _ _ _
   | exact ih2 _ _ _ _ _ _ _ _ _ _
   | exact ih3 _ _ _ _ _ _ _ _ _
   | exact ih4 _ _ _ _ _ _ _
   | exact ih5 _ _ _ _ _ _ _ _ _ _
   | exact intervalmonlaw29_lives.mono _
   | exact intervalmonlaw29_shifts.mono _ _
   | exact intervalmonref29_Rota.mono _ _ _
   | exact route_OnDuty.mono _ _ _ _ _
   | exact LeO.none _
   | refine LeO.ite ?_ ?_
   | refine LeO.bind ?_ (fun _ => ?_)
theorem intervalmonlaw29_RoutePeriodic.mono : ∀ a0 a1 k, LeO (intervalmonlaw29_RoutePeriodic.f k a0 a1) (intervalmonlaw29_RoutePeriodic.f (k + 1) a0 a1) := by
 intro a0 a1 k
 obtain ⟨ih0, ih1, ih2, ih3, ih4, ih5⟩ := intervalmonlaw29_RoutePeriodic.mono_l k
 unfold intervalmonlaw29_RoutePeriodic.f
 repeat' first
   | (with_reducible exact ih0 _ _ _ _ _ _ _)
   | (with_reducible exact ih1 _ _ _ _ _ _ _ _ _)
   | (with_reducible exact ih2 _ _ _ _ _ _ _ _ _ _)
   | (with_reducible exact ih3 _ _ _ _ _ _ _ _ _)
   | (with_reducible exact ih4 _ _ _ _ _ _ _)
   | (with_reducible exact ih5 _ _ _ _ _ _ _ _ _ _)
   | (with_reducible exact intervalmonlaw29_lives.mono _)
   | (with_reducible exact intervalmonlaw29_shifts.mono _ _)
   | (with_reducible exact intervalmonref29_Rota.mono _ _ _)
   | (with_reducible exact route_OnDuty.mono _ _ _ _ _)
   | (with_reducible exact LeO.refl _)
   | (with_reducible exact LeO.none _)
   | (with_reducible refine LeO.ite ?_ ?_)
   | (with_reducible refine LeO.bind ?_ (fun _ => ?_))
   | exact ih0 _ _ _ _ _ _ _
   | exact ih1 _ _ _ _ _ _ _ _ _
   | exact ih2 _ _ _ _ _ _ _ _ _ _
   | exact ih3 _ _ _ _ _ _ _ _ _
   | exact ih4 _ _ _ _ _ _ _
   | exact ih5 _ _ _ _ _ _ _ _ _ _
   | exact intervalmonlaw29_lives.mono _
   | exact intervalmonlaw29_shifts.mono _ _
   | exact intervalmonref29_Rota.mono _ _ _
   | exact route_OnDuty.mono _ _ _ _ _
   | exact LeO.none _
   | refine LeO.ite ?_ ?_
   | refine LeO.bind ?_ (fun _ => ?_)
set_option maxHeartbeats 8000000 in
set_option maxRecDepth 100000 in
theorem intervalmonlaw29_RoutePeriodic.calls (k : Nat) (A0 : Option Addr) (c0 : Nat) (l0 : List Int) (a1 : Int) (r : Bool) (w : World) (hr0 : Kd.C (Kd.int .i64) w A0 l0.length l0) (hc0 : l0.length ≤ c0) (h : intervalmonlaw29_RoutePeriodic.f k l0 a1 = some r) :
  Calls Try.prog 9 #[.slice A0 l0.length c0, .int .i64 a1] w fun e w' => e = .returned (.bool r) ∧ Below w.heap.size w w' := by
 have HR0 := Aside0.mk hr0
 have HC0 := Aside0.mk hc0
 clear hr0 hc0
 have HB := Aside0.mk (Below.refl w.heap.size w)
 have H : ((intervalmonref29_Rota.f k l0 false).bind fun bt542 => ((intervalmonlaw29_shifts.f k bt542.2).bind fun t546 => ((intervalmonref01_Around.f a1 1000000).bind fun t549 => (intervalmonlaw29_RoutePeriodic.l0 k bt542.1 t546 t549 ([] : List ByteArray) (⟨#[]⟩ : ByteArray) false 0)))) = some r := h
 clear h
 replace H := Option.bind_eq_some_iff.mp H
 obtain ⟨⟨t542, t543⟩, A30, H⟩ := H
 replace H : ((intervalmonlaw29_shifts.f k t543).bind fun t546 => ((intervalmonref01_Around.f a1 1000000).bind fun t549 => (intervalmonlaw29_RoutePeriodic.l0 k t542 t546 t549 ([] : List ByteArray) (⟨#[]⟩ : ByteArray) false 0))) = some r := H
 have A3 := Aside0.mk A30
 clear A30
 replace H := Option.bind_eq_some_iff.mp H
 obtain ⟨t546, A40, H⟩ := H
 replace H : ((intervalmonref01_Around.f a1 1000000).bind fun t549 => (intervalmonlaw29_RoutePeriodic.l0 k t542 t546 t549 ([] : List ByteArray) (⟨#[]⟩ : ByteArray) false 0)) = some r := H
 have A4 := Aside0.mk A40
 clear A40
 replace H := Option.bind_eq_some_iff.mp H
 obtain ⟨t549, A50, H⟩ := H
 replace H : (intervalmonlaw29_RoutePeriodic.l0 k t542 t546 t549 ([] : List ByteArray) (⟨#[]⟩ : ByteArray) false 0) = some r := H
 have A5 := Aside0.mk A50
 clear A50
 have H' := Aside0.mk H
 clear H
 go_enter Try.func9, Try.ntmps9
 go_wp2_with (first | (go_at_call 24; (with_reducible refine (intervalmonref29_Rota.calls k _ _ l0 false t542 t543 _ ?side1 ?side2 A3.out).mono ?_); (case side1 => repeat (first | exact HR0.out | (with_reducible refine Kd.C_alloc ?_ _) | (with_reducible refine Kd.C_drewN ?_ _) | (with_reducible refine Kd.C_drew ?_))); (case side2 => exact HC0.out); rintro e w6 ⟨v544, rfl, ho0, hb⟩; have n0_ := Aside0.mk (Kd.R_lower ho0 (below_size (hq HB))); have n1_ := Aside0.mk (below_step (hq HB) hb); clear HB; have HO545 := n0_; have HB := n1_; clear n0_ n1_; (try clear hb); (try clear hb2); (try clear hk); (try clear hi); (try clear ho0); obtain ⟨Ao7, co7, eo7⟩ := Kd.R_slice HO545.out; subst eo7) | (go_at_call 27; (with_reducible refine (intervalmonlaw29_shifts.calls k _ _ t543 t546 _ ?side1 ?side2 A4.out).mono ?_); (case side1 => repeat (first | exact (Kd.R_reads' HO545.out).2.2 | (with_reducible refine Kd.C_alloc ?_ _) | (with_reducible refine Kd.C_drewN ?_ _) | (with_reducible refine Kd.C_drew ?_))); (case side2 => exact (Kd.R_reads' HO545.out).2.1); rintro e w8 ⟨v547, rfl, ho0, hb⟩; have n0_ := Aside0.mk (Kd.R_below (rq HO545) hb); have n1_ := Aside0.mk (Kd.R_lower ho0 (below_size (hq HB))); have n2_ := Aside0.mk (below_step (hq HB) hb); clear HO545; clear HB; have HO545 := n0_; have HO548 := n1_; have HB := n2_; clear n0_ n1_ n2_; (try clear hb); (try clear hb2); (try clear hk); (try clear hi); (try clear ho0)) | (go_at_call 13; (with_reducible refine (intervalmonref01_Around.calls a1 1000000 t549 _ A5.out).mono ?_); rintro e w' ⟨rfl, ⟨nd, rfl⟩⟩; (try first | exact ⟨rfl, _, World.drewN_drewN _ _ _⟩ | exact ⟨rfl, _, Eq.trans (World.drewN_drewN _ _ _) (congrArg (World.drewN _) (Nat.add_assoc _ _ _))⟩)))
 repeat (go_quiet (first | (go_at_call 24; (with_reducible refine (intervalmonref29_Rota.calls k _ _ l0 false t542 t543 _ ?side1 ?side2 A3.out).mono ?_); (case side1 => repeat (first | exact HR0.out | (with_reducible refine Kd.C_alloc ?_ _) | (with_reducible refine Kd.C_drewN ?_ _) | (with_reducible refine Kd.C_drew ?_))); (case side2 => exact HC0.out); rintro e w6 ⟨v544, rfl, ho0, hb⟩; have n0_ := Aside0.mk (Kd.R_lower ho0 (below_size (hq HB))); have n1_ := Aside0.mk (below_step (hq HB) hb); clear HB; have HO545 := n0_; have HB := n1_; clear n0_ n1_; (try clear hb); (try clear hb2); (try clear hk); (try clear hi); (try clear ho0); obtain ⟨Ao7, co7, eo7⟩ := Kd.R_slice HO545.out; subst eo7) | (go_at_call 27; (with_reducible refine (intervalmonlaw29_shifts.calls k _ _ t543 t546 _ ?side1 ?side2 A4.out).mono ?_); (case side1 => repeat (first | exact (Kd.R_reads' HO545.out).2.2 | (with_reducible refine Kd.C_alloc ?_ _) | (with_reducible refine Kd.C_drewN ?_ _) | (with_reducible refine Kd.C_drew ?_))); (case side2 => exact (Kd.R_reads' HO545.out).2.1); rintro e w8 ⟨v547, rfl, ho0, hb⟩; have n0_ := Aside0.mk (Kd.R_below (rq HO545) hb); have n1_ := Aside0.mk (Kd.R_lower ho0 (below_size (hq HB))); have n2_ := Aside0.mk (below_step (hq HB) hb); clear HO545; clear HB; have HO545 := n0_; have HO548 := n1_; have HB := n2_; clear n0_ n1_ n2_; (try clear hb); (try clear hb2); (try clear hk); (try clear hi); (try clear ho0)) | (go_at_call 13; (with_reducible refine (intervalmonref01_Around.calls a1 1000000 t549 _ A5.out).mono ?_); rintro e w' ⟨rfl, ⟨nd, rfl⟩⟩; (try first | exact ⟨rfl, _, World.drewN_drewN _ _ _⟩ | exact ⟨rfl, _, Eq.trans (World.drewN_drewN _ _ _) (congrArg (World.drewN _) (Nat.add_assoc _ _ _))⟩))); try go_wp2_with (first | (go_at_call 24; (with_reducible refine (intervalmonref29_Rota.calls k _ _ l0 false t542 t543 _ ?side1 ?side2 A3.out).mono ?_); (case side1 => repeat (first | exact HR0.out | (with_reducible refine Kd.C_alloc ?_ _) | (with_reducible refine Kd.C_drewN ?_ _) | (with_reducible refine Kd.C_drew ?_))); (case side2 => exact HC0.out); rintro e w6 ⟨v544, rfl, ho0, hb⟩; have n0_ := Aside0.mk (Kd.R_lower ho0 (below_size (hq HB))); have n1_ := Aside0.mk (below_step (hq HB) hb); clear HB; have HO545 := n0_; have HB := n1_; clear n0_ n1_; (try clear hb); (try clear hb2); (try clear hk); (try clear hi); (try clear ho0); obtain ⟨Ao7, co7, eo7⟩ := Kd.R_slice HO545.out; subst eo7) | (go_at_call 27; (with_reducible refine (intervalmonlaw29_shifts.calls k _ _ t543 t546 _ ?side1 ?side2 A4.out).mono ?_); (case side1 => repeat (first | exact (Kd.R_reads' HO545.out).2.2 | (with_reducible refine Kd.C_alloc ?_ _) | (with_reducible refine Kd.C_drewN ?_ _) | (with_reducible refine Kd.C_drew ?_))); (case side2 => exact (Kd.R_reads' HO545.out).2.1); rintro e w8 ⟨v547, rfl, ho0, hb⟩; have n0_ := Aside0.mk (Kd.R_below (rq HO545) hb); have n1_ := Aside0.mk (Kd.R_lower ho0 (below_size (hq HB))); have n2_ := Aside0.mk (below_step (hq HB) hb); clear HO545; clear HB; have HO545 := n0_; have HO548 := n1_; have HB := n2_; clear n0_ n1_ n2_; (try clear hb); (try clear hb2); (try clear hk); (try clear hi); (try clear ho0)) | (go_at_call 13; (with_reducible refine (intervalmonref01_Around.calls a1 1000000 t549 _ A5.out).mono ?_); rintro e w' ⟨rfl, ⟨nd, rfl⟩⟩; (try first | exact ⟨rfl, _, World.drewN_drewN _ _ _⟩ | exact ⟨rfl, _, Eq.trans (World.drewN_drewN _ _ _) (congrArg (World.drewN _) (Nat.add_assoc _ _ _))⟩))))
 go_loopg [9, 10, 11, 12] k (fun kq v9 v10 v11 v12 w' => ∃ (x9_1 : List ByteArray) (x10_1 : ByteArray) (x11_1 : Bool) (x12_1 : Int), v10 = .string x10_1 ∧ v11 = .bool x11_1 ∧ v12 = .int .i64 x12_1 ∧ Aside0 (intervalmonlaw29_RoutePeriodic.l0 kq t542 t546 t549 x9_1 x10_1 x11_1 x12_1 = some r) ∧ Aside0 (kq ≤ k) ∧ Aside0 (Kd.R k60 60 w' w.heap.size (fun _ => True) v547 t546) ∧ Aside0 (Kd.R Kd.string 9 w' w.heap.size (fun _ => True) v9 x9_1) ∧ Aside0 (Below w.heap.size w w'))
 case atStart => exact ⟨(([] : List ByteArray)), ((⟨#[]⟩ : ByteArray)), (false), (0), (by first | rfl | (simp; done) | (simp [*]; done)), (by first | rfl | (simp; done) | (simp [*]; done)), (by first | rfl | (simp; done) | (simp [*]; done)), H', ⟨Nat.le_refl _⟩, ⟨by (with_reducible repeat (first | apply Kd.R_alloc | apply Kd.R_drewN | apply Kd.R_drew)); exact HO548.out⟩, ⟨by first | exact Kd.R_nil _ _ _ _ _ | exact Kd.N_nil _ _ _ _ _ | exact Kd.V_nil _ _ _ _ _ | exact Kd.Q_nil _ _ _ _ _ | exact Kd.S_nil _ _ _ _ _⟩, ⟨by repeat (first | (with_reducible first | exact HB.out | apply below_alloc | apply pw_below_drewN | apply below_drew1) | exact HB.out)⟩⟩
 case round =>
  clear H'
  try clear p2
  obtain ⟨x9_1, x10_1, x11_1, x12_1, rfl, rfl, rfl, HA, HK1, HO_7, HO_9, HB⟩ := hrel
  cases gk with
  | zero => exact absurd HA.out (by simp [intervalmonlaw29_RoutePeriodic.l0])
  | succ k1 =>
   have H := HA.out
   clear HA
   simp only [intervalmonlaw29_RoutePeriodic.l0] at H
   by_cases c9 : x12_1 < 9
   ·rw [if_pos c9] at H
    have c9b0 : decide (x12_1 < 9) = true := decide_eq_true c9
    clear c9
    replace H := Option.bind_eq_some_iff.mp H
    obtain ⟨⟨t551, t552⟩, A100, H⟩ := H
    replace H : ((route_OnDuty.f k1 t542 t546 (wrap64 (t549 + t542)) x12_1).bind fun bt553 => (if t552 = 0 then (if bt553.2 = 0 then (intervalmonlaw29_RoutePeriodic.j1 k1 t542 t546 t549 x9_1 x10_1 x11_1 x12_1 t551 (t551.toList != bt553.1.toList)) else (intervalmonlaw29_RoutePeriodic.j1 k1 t542 t546 t549 x9_1 x10_1 x11_1 x12_1 t551 true)) else (intervalmonlaw29_RoutePeriodic.j1 k1 t542 t546 t549 x9_1 x10_1 x11_1 x12_1 t551 true))) = some r := H
    have A10 := Aside0.mk A100
    clear A100
    replace H := Option.bind_eq_some_iff.mp H
    obtain ⟨⟨t553, t554⟩, A110, H⟩ := H
    replace H : (if t552 = 0 then (if t554 = 0 then (intervalmonlaw29_RoutePeriodic.j1 k1 t542 t546 t549 x9_1 x10_1 x11_1 x12_1 t551 (t551.toList != t553.toList)) else (intervalmonlaw29_RoutePeriodic.j1 k1 t542 t546 t549 x9_1 x10_1 x11_1 x12_1 t551 true)) else (intervalmonlaw29_RoutePeriodic.j1 k1 t542 t546 t549 x9_1 x10_1 x11_1 x12_1 t551 true)) = some r := H
    have A11 := Aside0.mk A110
    clear A110
    have HC12 := Aside0.mk H
    clear H
    obtain ⟨Ao13, co13, eo13⟩ := Kd.R_slice HO_7.out
    subst eo13
    go_upto_region 12 with (first | (go_at_call 30; (with_reducible refine (route_OnDuty.calls k1 t542 _ _ t546 t549 x12_1 t551 t552 _ ?side1 ?side2 A10.out).mono ?_); (case side1 => repeat (first | exact (Kd.R_reads' HO_7.out).2.2 | (with_reducible refine Kd.C_alloc ?_ _) | (with_reducible refine Kd.C_drewN ?_ _) | (with_reducible refine Kd.C_drew ?_))); (case side2 => exact (Kd.R_reads' HO_7.out).2.1); rintro e w14 ⟨rfl, hb⟩; have n0_ := Aside0.mk (Kd.R_below (rq HO_7) hb); have n1_ := Aside0.mk (Kd.R_below (rq HO_9) hb); have n2_ := Aside0.mk (below_step (hq HB) hb); clear HO_7; clear HO_9; clear HB; have HO_7 := n0_; have HO_9 := n1_; have HB := n2_; clear n0_ n1_ n2_; (try clear hb); (try clear hb2); (try clear hk); (try clear hi)) | (go_at_call 30; (with_reducible refine (route_OnDuty.calls k1 t542 _ _ t546 (wrap64 (t549 + t542)) x12_1 t553 t554 _ ?side1 ?side2 A11.out).mono ?_); (case side1 => repeat (first | exact (Kd.R_reads' HO_7.out).2.2 | (with_reducible refine Kd.C_alloc ?_ _) | (with_reducible refine Kd.C_drewN ?_ _) | (with_reducible refine Kd.C_drew ?_))); (case side2 => exact (Kd.R_reads' HO_7.out).2.1); rintro e w15 ⟨rfl, hb⟩; have n0_ := Aside0.mk (Kd.R_below (rq HO_7) hb); have n1_ := Aside0.mk (Kd.R_below (rq HO_9) hb); have n2_ := Aside0.mk (below_step (hq HB) hb); clear HO_7; clear HO_9; clear HB; have HO_7 := n0_; have HO_9 := n1_; have HB := n2_; clear n0_ n1_ n2_; (try clear hb); (try clear hb2); (try clear hk); (try clear hi)))
    repeat (go_quiet (first | (go_at_call 30; (with_reducible refine (route_OnDuty.calls k1 t542 _ _ t546 t549 x12_1 t551 t552 _ ?side1 ?side2 A10.out).mono ?_); (case side1 => repeat (first | exact (Kd.R_reads' HO_7.out).2.2 | (with_reducible refine Kd.C_alloc ?_ _) | (with_reducible refine Kd.C_drewN ?_ _) | (with_reducible refine Kd.C_drew ?_))); (case side2 => exact (Kd.R_reads' HO_7.out).2.1); rintro e w14 ⟨rfl, hb⟩; have n0_ := Aside0.mk (Kd.R_below (rq HO_7) hb); have n1_ := Aside0.mk (Kd.R_below (rq HO_9) hb); have n2_ := Aside0.mk (below_step (hq HB) hb); clear HO_7; clear HO_9; clear HB; have HO_7 := n0_; have HO_9 := n1_; have HB := n2_; clear n0_ n1_ n2_; (try clear hb); (try clear hb2); (try clear hk); (try clear hi)) | (go_at_call 30; (with_reducible refine (route_OnDuty.calls k1 t542 _ _ t546 (wrap64 (t549 + t542)) x12_1 t553 t554 _ ?side1 ?side2 A11.out).mono ?_); (case side1 => repeat (first | exact (Kd.R_reads' HO_7.out).2.2 | (with_reducible refine Kd.C_alloc ?_ _) | (with_reducible refine Kd.C_drewN ?_ _) | (with_reducible refine Kd.C_drew ?_))); (case side2 => exact (Kd.R_reads' HO_7.out).2.1); rintro e w15 ⟨rfl, hb⟩; have n0_ := Aside0.mk (Kd.R_below (rq HO_7) hb); have n1_ := Aside0.mk (Kd.R_below (rq HO_9) hb); have n2_ := Aside0.mk (below_step (hq HB) hb); clear HO_7; clear HO_9; clear HB; have HO_7 := n0_; have HO_9 := n1_; have HB := n2_; clear n0_ n1_ n2_; (try clear hb); (try clear hb2); (try clear hk); (try clear hi))); go_upto_region 12 with (first | (go_at_call 30; (with_reducible refine (route_OnDuty.calls k1 t542 _ _ t546 t549 x12_1 t551 t552 _ ?side1 ?side2 A10.out).mono ?_); (case side1 => repeat (first | exact (Kd.R_reads' HO_7.out).2.2 | (with_reducible refine Kd.C_alloc ?_ _) | (with_reducible refine Kd.C_drewN ?_ _) | (with_reducible refine Kd.C_drew ?_))); (case side2 => exact (Kd.R_reads' HO_7.out).2.1); rintro e w14 ⟨rfl, hb⟩; have n0_ := Aside0.mk (Kd.R_below (rq HO_7) hb); have n1_ := Aside0.mk (Kd.R_below (rq HO_9) hb); have n2_ := Aside0.mk (below_step (hq HB) hb); clear HO_7; clear HO_9; clear HB; have HO_7 := n0_; have HO_9 := n1_; have HB := n2_; clear n0_ n1_ n2_; (try clear hb); (try clear hb2); (try clear hk); (try clear hi)) | (go_at_call 30; (with_reducible refine (route_OnDuty.calls k1 t542 _ _ t546 (wrap64 (t549 + t542)) x12_1 t553 t554 _ ?side1 ?side2 A11.out).mono ?_); (case side1 => repeat (first | exact (Kd.R_reads' HO_7.out).2.2 | (with_reducible refine Kd.C_alloc ?_ _) | (with_reducible refine Kd.C_drewN ?_ _) | (with_reducible refine Kd.C_drew ?_))); (case side2 => exact (Kd.R_reads' HO_7.out).2.1); rintro e w15 ⟨rfl, hb⟩; have n0_ := Aside0.mk (Kd.R_below (rq HO_7) hb); have n1_ := Aside0.mk (Kd.R_below (rq HO_9) hb); have n2_ := Aside0.mk (below_step (hq HB) hb); clear HO_7; clear HO_9; clear HB; have HO_7 := n0_; have HO_9 := n1_; have HB := n2_; clear n0_ n1_ n2_; (try clear hb); (try clear hb2); (try clear hk); (try clear hi))))
    (try simp only [Act.put, List.setIfInBounds_toArray, List.set_cons_zero, List.set_cons_succ])
    go_cut [62] (fun v62 wc => ∃ (kq : Nat) (x62_11 : Bool), v62 = .bool x62_11 ∧ Aside0 (intervalmonlaw29_RoutePeriodic.j1 kq t542 t546 t549 x9_1 x10_1 x11_1 x12_1 t551 x62_11 = some r) ∧ Aside0 (kq ≤ k1) ∧ Aside0 (Kd.R k60 60 wc w.heap.size (fun _ => True) (.slice Ao13 t546.length co13) t546) ∧ Aside0 (Kd.R Kd.string 9 wc w.heap.size (fun _ => True) u9 x9_1) ∧ Aside0 (Below w.heap.size w wc))
    case first =>
     have H := HC12.out
     clear HC12
     by_cases c16 : t552 = 0
     ·rw [if_pos c16] at H
      have c16b0 : (t552 == 0) = true := beq_iff_eq.mpr c16
      have c16b1 : (t552 != 0) = false := bne_eq_false_iff_eq.mpr c16
      clear c16
      (first | rw [c16b0] | (simp only [i64_w, i32_w]; rw [c16b0]) | skip)
      by_cases c17 : t554 = 0
      ·rw [if_pos c17] at H
       have c17b0 : (t554 == 0) = true := beq_iff_eq.mpr c17
       have c17b1 : (t554 != 0) = false := bne_eq_false_iff_eq.mpr c17
       clear c17
       have H' := Aside0.mk H
       clear H
       go_wp2
       repeat (go_quiet (fail); try go_wp2)
       go_meet
       case rel => exact ⟨_, ((t551.toList != t553.toList)), (by first | rfl | (simp; done) | (simp [*]; done)), H', ⟨by have := HK1.out; first | omega | exact Nat.le_refl _⟩, ⟨by (with_reducible repeat (first | apply Kd.R_alloc | apply Kd.R_drewN | apply Kd.R_drew)); exact HO_7.out⟩, ⟨by (with_reducible repeat (first | apply Kd.R_alloc | apply Kd.R_drewN | apply Kd.R_drew)); exact HO_9.out⟩, ⟨by repeat (first | (with_reducible first | exact HB.out | apply below_alloc | apply pw_below_drewN | apply below_drew1) | exact HB.out)⟩⟩
      ·rw [if_neg c17] at H
       have c17b0 : (t554 == 0) = false := beq_eq_false_iff_ne.mpr c17
       have c17b1 : (t554 != 0) = true := bne_iff_ne.mpr c17
       have H' := Aside0.mk H
       clear H
       go_wp2
       repeat (go_quiet (fail); try go_wp2)
       go_meet
       case rel => exact ⟨_, (true), (by first | rfl | (simp; done) | (simp [*]; done)), H', ⟨by have := HK1.out; first | omega | exact Nat.le_refl _⟩, ⟨by (with_reducible repeat (first | apply Kd.R_alloc | apply Kd.R_drewN | apply Kd.R_drew)); exact HO_7.out⟩, ⟨by (with_reducible repeat (first | apply Kd.R_alloc | apply Kd.R_drewN | apply Kd.R_drew)); exact HO_9.out⟩, ⟨by repeat (first | (with_reducible first | exact HB.out | apply below_alloc | apply pw_below_drewN | apply below_drew1) | exact HB.out)⟩⟩
     ·rw [if_neg c16] at H
      have c16b0 : (t552 == 0) = false := beq_eq_false_iff_ne.mpr c16
      have c16b1 : (t552 != 0) = true := bne_iff_ne.mpr c16
      (first | rw [c16b0] | (simp only [i64_w, i32_w]; rw [c16b0]) | skip)
      have H' := Aside0.mk H
      clear H
      go_wp2
      repeat (go_quiet (fail); try go_wp2)
      go_meet
      case rel => exact ⟨_, (true), (by first | rfl | (simp; done) | (simp [*]; done)), H', ⟨by have := HK1.out; first | omega | exact Nat.le_refl _⟩, ⟨by (with_reducible repeat (first | apply Kd.R_alloc | apply Kd.R_drewN | apply Kd.R_drew)); exact HO_7.out⟩, ⟨by (with_reducible repeat (first | apply Kd.R_alloc | apply Kd.R_drewN | apply Kd.R_drew)); exact HO_9.out⟩, ⟨by repeat (first | (with_reducible first | exact HB.out | apply below_alloc | apply pw_below_drewN | apply below_drew1) | exact HB.out)⟩⟩
    case rest =>
     clear HC12
     try clear c1
     try clear p2
     try clear p6
     try clear c9
     try clear c9b0
     try clear c16
     try clear c16b0
     try clear c16b1
     try clear c17
     try clear c17b0
     try clear c17b1
     try clear p2
     obtain ⟨kq, x62_11, rfl, HA, HJ11, HO_7, HO_9, HB⟩ := hcut
     cases kq with
     | zero => exact absurd HA.out (by simp [intervalmonlaw29_RoutePeriodic.j1])
     | succ kj11 =>
      have H := HA.out
      clear HA
      simp only [intervalmonlaw29_RoutePeriodic.j1] at H
      by_cases c18 : x62_11 = true
      ·subst c18
       have H1 : (some false) = some r := by rw [if_pos rfl] at H; exact H
       clear H
       have H := H1
       clear H1
       obtain rfl := Option.some.inj H
       go_wp2
       repeat (go_quiet (fail); try go_wp2)
       go_ret
       exact ⟨by first | rfl | (simp [errW_none, errW_some] <;> rfl) | (simp [*, errW_none, errW_some] <;> rfl), by repeat (first | (with_reducible first | exact HB.out | apply below_alloc | apply pw_below_drewN | apply below_drew1) | exact HB.out)⟩
      ·replace c18 := Bool.eq_false_iff.mpr c18
       subst c18
       have H1 : (intervalmonlaw29_RoutePeriodic.l1 kj11 t542 t546 t549 x9_1 x10_1 x11_1 x12_1 t551 false 0) = some r := by rw [if_neg (show ¬ (false = true) by decide)] at H; exact H
       clear H
       have H := H1
       clear H1
       have H' := Aside0.mk H
       clear H
       go_wp2
       repeat (go_quiet (fail); try go_wp2)
       go_loopg [17, 18] kj11 (fun kq v17 v18 w' => ∃ (x17_3 : Bool) (x18_3 : Int), v17 = .bool x17_3 ∧ v18 = .int .i64 x18_3 ∧ Aside0 (intervalmonlaw29_RoutePeriodic.l1 kq t542 t546 t549 x9_1 x10_1 x11_1 x12_1 t551 x17_3 x18_3 = some r) ∧ Aside0 (kq ≤ kj11) ∧ Aside0 (Kd.R k60 60 w' w.heap.size (fun _ => True) (.slice Ao13 t546.length co13) t546) ∧ Aside0 (Kd.R Kd.string 9 w' w.heap.size (fun _ => True) u9 x9_1) ∧ Aside0 (Below w.heap.size w w'))
       case atStart => exact ⟨(false), (0), (by first | rfl | (simp; done) | (simp [*]; done)), (by first | rfl | (simp; done) | (simp [*]; done)), H', ⟨Nat.le_refl _⟩, ⟨by (with_reducible repeat (first | apply Kd.R_alloc | apply Kd.R_drewN | apply Kd.R_drew)); exact HO_7.out⟩, ⟨by (with_reducible repeat (first | apply Kd.R_alloc | apply Kd.R_drewN | apply Kd.R_drew)); exact HO_9.out⟩, ⟨by repeat (first | (with_reducible first | exact HB.out | apply below_alloc | apply pw_below_drewN | apply below_drew1) | exact HB.out)⟩⟩
       case round =>
        clear H'
        try clear c1
        try clear p2
        try clear p6
        try clear c9
        try clear c9b0
        try clear c16
        try clear c16b0
        try clear c16b1
        try clear c17
        try clear c17b0
        try clear c17b1
        try clear c18
        try clear p2
        try clear p6
        obtain ⟨x17_3, x18_3, rfl, rfl, HA, HK3, HO_7, HO_9, HB⟩ := hrel
        cases gk with
        | zero => exact absurd HA.out (by simp [intervalmonlaw29_RoutePeriodic.l1])
        | succ k3 =>
         have H := HA.out
         clear HA
         simp only [intervalmonlaw29_RoutePeriodic.l1] at H
         by_cases c19 : x18_3 < (x9_1.length : Int)
         ·rw [if_pos c19] at H
          have c19b0 : decide (x18_3 < (x9_1.length : Int)) = true := decide_eq_true c19
          clear c19
          by_cases c20 : x17_3 = true
          ·subst c20
           have H1 : (intervalmonlaw29_RoutePeriodic.l1 k3 t542 t546 t549 x9_1 x10_1 x11_1 x12_1 t551 true (wrap64 (x18_3 + 1))) = some r := by rw [if_pos rfl] at H; exact H
           clear H
           have H := H1
           clear H1
           have H' := Aside0.mk H
           clear H
           obtain ⟨Ao21, co21, eo21⟩ := Kd.R_slice HO_9.out
           subst eo21
           go_wp2
           repeat (go_quiet (fail); try go_wp2)
           go_roundg k3
           case measure => have := HK1.out; have := HJ11.out; have := HK3.out; omega
           case rel => exact ⟨(true), (wrap64 (x18_3 + 1)), (by first | rfl | (simp; done) | (simp [*]; done)), (by first | rfl | (simp; done) | (simp [*]; done)), H', ⟨by have := HK1.out; have := HJ11.out; have := HK3.out; omega⟩, ⟨by (with_reducible repeat (first | apply Kd.R_alloc | apply Kd.R_drewN | apply Kd.R_drew)); exact HO_7.out⟩, ⟨by (with_reducible repeat (first | apply Kd.R_alloc | apply Kd.R_drewN | apply Kd.R_drew)); exact HO_9.out⟩, ⟨by repeat (first | (with_reducible first | exact HB.out | apply below_alloc | apply pw_below_drewN | apply below_drew1) | exact HB.out)⟩⟩
          ·replace c20 := Bool.eq_false_iff.mpr c20
           subst c20
           have H1 : (if 0 ≤ x18_3 then (intervalmonlaw29_RoutePeriodic.l1 k3 t542 t546 t549 x9_1 x10_1 x11_1 x12_1 t551 ((rdOf ByteArray.empty x9_1 x18_3).toList == t551.toList) (wrap64 (x18_3 + 1))) else (none)) = some r := by rw [if_neg (show ¬ (false = true) by decide)] at H; exact H
           clear H
           have H := H1
           clear H1
           by_cases c22 : 0 ≤ x18_3
           ·rw [if_pos c22] at H
            have c22b0 : decide (0 ≤ x18_3) = true := decide_eq_true c22
            clear c22
            have H' := Aside0.mk H
            clear H
            obtain ⟨Ao23, co23, eo23⟩ := Kd.R_slice HO_9.out
            subst eo23
            have p555 : 0 ≤ (x18_3 : Int) := of_decide_eq_true (by first | (with_reducible assumption) | assumption)
            have q555 : x18_3 < (x9_1.length : Int) := of_decide_eq_true (by first | (with_reducible assumption) | assumption)
            obtain ⟨ad555, e555, hx555_0⟩ := Kd.at_string (Kd.R_reads' HO_9.out).2.2 x18_3 p555 q555
            cases e555
            replace p555 := eq_true p555
            replace q555 := eq_true q555
            go_wp2
            repeat (go_quiet (fail); try go_wp2)
            go_roundg k3
            case measure => have := HK1.out; have := HJ11.out; have := HK3.out; omega
            case rel => exact ⟨(((rdOf ByteArray.empty x9_1 x18_3).toList == t551.toList)), (wrap64 (x18_3 + 1)), (by first | rfl | (simp; done) | (simp [*]; done)), (by first | rfl | (simp; done) | (simp [*]; done)), H', ⟨by have := HK1.out; have := HJ11.out; have := HK3.out; omega⟩, ⟨by (with_reducible repeat (first | apply Kd.R_alloc | apply Kd.R_drewN | apply Kd.R_drew)); exact HO_7.out⟩, ⟨by (with_reducible repeat (first | apply Kd.R_alloc | apply Kd.R_drewN | apply Kd.R_drew)); exact HO_9.out⟩, ⟨by repeat (first | (with_reducible first | exact HB.out | apply below_alloc | apply pw_below_drewN | apply below_drew1) | exact HB.out)⟩⟩
           ·rw [if_neg c22] at H
            exact absurd H (by simp)
         ·rw [if_neg c19] at H
          have c19b0 : decide (x18_3 < (x9_1.length : Int)) = false := decide_eq_false c19
          clear c19
          have HC24 := Aside0.mk H
          clear H
          obtain ⟨Ao25, co25, eo25⟩ := Kd.R_slice HO_9.out
          subst eo25
          go_upto_region 19 with (fail)
          repeat (go_quiet (fail); go_upto_region 19 with (fail))
          go_cut [95] (fun v95 wc => ∃ (kq : Nat) (x95_23 : Bool), v95 = .bool x95_23 ∧ Aside0 (intervalmonlaw29_RoutePeriodic.j3 kq t542 t546 t549 x9_1 x11_1 x12_1 t551 x17_3 x95_23 = some r) ∧ Aside0 (kq ≤ k3) ∧ Aside0 (Kd.R k60 60 wc w.heap.size (fun _ => True) (.slice Ao13 t546.length co13) t546) ∧ Aside0 (Kd.R Kd.string 9 wc w.heap.size (fun _ => True) (.slice Ao25 x9_1.length co25) x9_1) ∧ Aside0 (Below w.heap.size w wc))
          case first =>
           have H := HC24.out
           clear HC24
           by_cases c26 : x12_1 > 0
           ·rw [if_pos c26] at H
            have c26b0 : decide (0 < x12_1) = true := decide_eq_true c26
            clear c26
            (first | rw [c26b0] | (simp only [i64_w, i32_w]; rw [c26b0]) | skip)
            by_cases c27 : x17_3 = true
            ·subst c27
             have H1 : (if t551.toList = x10_1.toList then (if x11_1 = true then (intervalmonlaw29_RoutePeriodic.j3 k3 t542 t546 t549 x9_1 x11_1 x12_1 t551 true (t551.toList != x10_1.toList)) else (intervalmonlaw29_RoutePeriodic.j3 k3 t542 t546 t549 x9_1 x11_1 x12_1 t551 true false)) else (intervalmonlaw29_RoutePeriodic.j3 k3 t542 t546 t549 x9_1 x11_1 x12_1 t551 true true)) = some r := by rw [if_pos rfl] at H; exact H
             clear H
             have H := H1
             clear H1
             by_cases c28 : t551.toList = x10_1.toList
             ·rw [if_pos c28] at H
              have c28b0 : (t551.toList == x10_1.toList) = true := beq_iff_eq.mpr c28
              have c28b1 : (t551.toList != x10_1.toList) = false := bne_eq_false_iff_eq.mpr c28
              clear c28
              by_cases c29 : x11_1 = true
              ·subst c29
               have H1 : (intervalmonlaw29_RoutePeriodic.j3 k3 t542 t546 t549 x9_1 true x12_1 t551 true (t551.toList != x10_1.toList)) = some r := by rw [if_pos rfl] at H; exact H
               clear H
               have H := H1
               clear H1
               have H' := Aside0.mk H
               clear H
               go_wp2
               repeat (go_quiet (fail); try go_wp2)
               go_meet
               case rel => exact ⟨_, ((t551.toList != x10_1.toList)), (by first | rfl | (simp; done) | (simp [*]; done)), H', ⟨by have := HK1.out; have := HJ11.out; have := HK3.out; first | omega | exact Nat.le_refl _⟩, ⟨by (with_reducible repeat (first | apply Kd.R_alloc | apply Kd.R_drewN | apply Kd.R_drew)); exact HO_7.out⟩, ⟨by (with_reducible repeat (first | apply Kd.R_alloc | apply Kd.R_drewN | apply Kd.R_drew)); exact HO_9.out⟩, ⟨by repeat (first | (with_reducible first | exact HB.out | apply below_alloc | apply pw_below_drewN | apply below_drew1) | exact HB.out)⟩⟩
              ·replace c29 := Bool.eq_false_iff.mpr c29
               subst c29
               have H1 : (intervalmonlaw29_RoutePeriodic.j3 k3 t542 t546 t549 x9_1 false x12_1 t551 true false) = some r := by rw [if_neg (show ¬ (false = true) by decide)] at H; exact H
               clear H
               have H := H1
               clear H1
               have H' := Aside0.mk H
               clear H
               go_wp2
               repeat (go_quiet (fail); try go_wp2)
               go_meet
               case rel => exact ⟨_, (false), (by first | rfl | (simp; done) | (simp [*]; done)), H', ⟨by have := HK1.out; have := HJ11.out; have := HK3.out; first | omega | exact Nat.le_refl _⟩, ⟨by (with_reducible repeat (first | apply Kd.R_alloc | apply Kd.R_drewN | apply Kd.R_drew)); exact HO_7.out⟩, ⟨by (with_reducible repeat (first | apply Kd.R_alloc | apply Kd.R_drewN | apply Kd.R_drew)); exact HO_9.out⟩, ⟨by repeat (first | (with_reducible first | exact HB.out | apply below_alloc | apply pw_below_drewN | apply below_drew1) | exact HB.out)⟩⟩
             ·rw [if_neg c28] at H
              have c28b0 : (t551.toList == x10_1.toList) = false := beq_eq_false_iff_ne.mpr c28
              have c28b1 : (t551.toList != x10_1.toList) = true := bne_iff_ne.mpr c28
              have H' := Aside0.mk H
              clear H
              go_wp2
              repeat (go_quiet (fail); try go_wp2)
              go_meet
              case rel => exact ⟨_, (true), (by first | rfl | (simp; done) | (simp [*]; done)), H', ⟨by have := HK1.out; have := HJ11.out; have := HK3.out; first | omega | exact Nat.le_refl _⟩, ⟨by (with_reducible repeat (first | apply Kd.R_alloc | apply Kd.R_drewN | apply Kd.R_drew)); exact HO_7.out⟩, ⟨by (with_reducible repeat (first | apply Kd.R_alloc | apply Kd.R_drewN | apply Kd.R_drew)); exact HO_9.out⟩, ⟨by repeat (first | (with_reducible first | exact HB.out | apply below_alloc | apply pw_below_drewN | apply below_drew1) | exact HB.out)⟩⟩
            ·replace c27 := Bool.eq_false_iff.mpr c27
             subst c27
             have H1 : (if x11_1 = true then (intervalmonlaw29_RoutePeriodic.j3 k3 t542 t546 t549 x9_1 x11_1 x12_1 t551 false (t551.toList != x10_1.toList)) else (intervalmonlaw29_RoutePeriodic.j3 k3 t542 t546 t549 x9_1 x11_1 x12_1 t551 false false)) = some r := by rw [if_neg (show ¬ (false = true) by decide)] at H; exact H
             clear H
             have H := H1
             clear H1
             by_cases c30 : x11_1 = true
             ·subst c30
              have H1 : (intervalmonlaw29_RoutePeriodic.j3 k3 t542 t546 t549 x9_1 true x12_1 t551 false (t551.toList != x10_1.toList)) = some r := by rw [if_pos rfl] at H; exact H
              clear H
              have H := H1
              clear H1
              have H' := Aside0.mk H
              clear H
              go_wp2
              repeat (go_quiet (fail); try go_wp2)
              go_meet
              case rel => exact ⟨_, ((t551.toList != x10_1.toList)), (by first | rfl | (simp; done) | (simp [*]; done)), H', ⟨by have := HK1.out; have := HJ11.out; have := HK3.out; first | omega | exact Nat.le_refl _⟩, ⟨by (with_reducible repeat (first | apply Kd.R_alloc | apply Kd.R_drewN | apply Kd.R_drew)); exact HO_7.out⟩, ⟨by (with_reducible repeat (first | apply Kd.R_alloc | apply Kd.R_drewN | apply Kd.R_drew)); exact HO_9.out⟩, ⟨by repeat (first | (with_reducible first | exact HB.out | apply below_alloc | apply pw_below_drewN | apply below_drew1) | exact HB.out)⟩⟩
             ·replace c30 := Bool.eq_false_iff.mpr c30
              subst c30
              have H1 : (intervalmonlaw29_RoutePeriodic.j3 k3 t542 t546 t549 x9_1 false x12_1 t551 false false) = some r := by rw [if_neg (show ¬ (false = true) by decide)] at H; exact H
              clear H
              have H := H1
              clear H1
              have H' := Aside0.mk H
              clear H
              go_wp2
              repeat (go_quiet (fail); try go_wp2)
              go_meet
              case rel => exact ⟨_, (false), (by first | rfl | (simp; done) | (simp [*]; done)), H', ⟨by have := HK1.out; have := HJ11.out; have := HK3.out; first | omega | exact Nat.le_refl _⟩, ⟨by (with_reducible repeat (first | apply Kd.R_alloc | apply Kd.R_drewN | apply Kd.R_drew)); exact HO_7.out⟩, ⟨by (with_reducible repeat (first | apply Kd.R_alloc | apply Kd.R_drewN | apply Kd.R_drew)); exact HO_9.out⟩, ⟨by repeat (first | (with_reducible first | exact HB.out | apply below_alloc | apply pw_below_drewN | apply below_drew1) | exact HB.out)⟩⟩
           ·rw [if_neg c26] at H
            have c26b0 : decide (0 < x12_1) = false := decide_eq_false c26
            clear c26
            (first | rw [c26b0] | (simp only [i64_w, i32_w]; rw [c26b0]) | skip)
            by_cases c31 : x11_1 = true
            ·subst c31
             have H1 : (intervalmonlaw29_RoutePeriodic.j3 k3 t542 t546 t549 x9_1 true x12_1 t551 x17_3 (t551.toList != x10_1.toList)) = some r := by rw [if_pos rfl] at H; exact H
             clear H
             have H := H1
             clear H1
             have H' := Aside0.mk H
             clear H
             go_wp2
             repeat (go_quiet (fail); try go_wp2)
             go_meet
             case rel => exact ⟨_, ((t551.toList != x10_1.toList)), (by first | rfl | (simp; done) | (simp [*]; done)), H', ⟨by have := HK1.out; have := HJ11.out; have := HK3.out; first | omega | exact Nat.le_refl _⟩, ⟨by (with_reducible repeat (first | apply Kd.R_alloc | apply Kd.R_drewN | apply Kd.R_drew)); exact HO_7.out⟩, ⟨by (with_reducible repeat (first | apply Kd.R_alloc | apply Kd.R_drewN | apply Kd.R_drew)); exact HO_9.out⟩, ⟨by repeat (first | (with_reducible first | exact HB.out | apply below_alloc | apply pw_below_drewN | apply below_drew1) | exact HB.out)⟩⟩
            ·replace c31 := Bool.eq_false_iff.mpr c31
             subst c31
             have H1 : (intervalmonlaw29_RoutePeriodic.j3 k3 t542 t546 t549 x9_1 false x12_1 t551 x17_3 false) = some r := by rw [if_neg (show ¬ (false = true) by decide)] at H; exact H
             clear H
             have H := H1
             clear H1
             have H' := Aside0.mk H
             clear H
             go_wp2
             repeat (go_quiet (fail); try go_wp2)
             go_meet
             case rel => exact ⟨_, (false), (by first | rfl | (simp; done) | (simp [*]; done)), H', ⟨by have := HK1.out; have := HJ11.out; have := HK3.out; first | omega | exact Nat.le_refl _⟩, ⟨by (with_reducible repeat (first | apply Kd.R_alloc | apply Kd.R_drewN | apply Kd.R_drew)); exact HO_7.out⟩, ⟨by (with_reducible repeat (first | apply Kd.R_alloc | apply Kd.R_drewN | apply Kd.R_drew)); exact HO_9.out⟩, ⟨by repeat (first | (with_reducible first | exact HB.out | apply below_alloc | apply pw_below_drewN | apply below_drew1) | exact HB.out)⟩⟩
          case rest =>
           clear HC24
           try clear c1
           try clear c2
           try clear p2
           try clear c3
           try clear p5
           try clear q5
           try clear hx5
           try clear p6
           try clear c9
           try clear c9b0
           try clear c16
           try clear c16b0
           try clear c16b1
           try clear c17
           try clear c17b0
           try clear c17b1
           try clear c18
           try clear c19
           try clear c19b0
           try clear c20
           try clear c22
           try clear c22b0
           try clear c26
           try clear c26b0
           try clear c27
           try clear c28
           try clear c28b0
           try clear c28b1
           try clear c29
           try clear c30
           try clear c31
           try clear hx555_0
           try clear p2
           try clear p555
           try clear p6
           try clear q555
           obtain ⟨kq, x95_23, rfl, HA, HJ23, HO_7, HO_9, HB⟩ := hcut
           cases kq with
           | zero => exact absurd HA.out (by simp [intervalmonlaw29_RoutePeriodic.j3])
           | succ kj23 =>
            have H := HA.out
            clear HA
            simp only [intervalmonlaw29_RoutePeriodic.j3] at H
            by_cases c32 : x95_23 = true
            ·subst c32
             have H1 : (some false) = some r := by rw [if_pos rfl] at H; exact H
             clear H
             have H := H1
             clear H1
             obtain rfl := Option.some.inj H
             go_wp2
             repeat (go_quiet (fail); try go_wp2)
             go_ret
             exact ⟨by first | rfl | (simp [errW_none, errW_some] <;> rfl) | (simp [*, errW_none, errW_some] <;> rfl), by repeat (first | (with_reducible first | exact HB.out | apply below_alloc | apply pw_below_drewN | apply below_drew1) | exact HB.out)⟩
            ·replace c32 := Bool.eq_false_iff.mpr c32
             subst c32
             have H1 : (if x11_1 = true then (intervalmonlaw29_RoutePeriodic.j4 kj23 t542 t546 t549 x9_1 true x12_1 t551) else (intervalmonlaw29_RoutePeriodic.j4 kj23 t542 t546 t549 x9_1 x17_3 x12_1 t551)) = some r := by rw [if_neg (show ¬ (false = true) by decide)] at H; exact H
             clear H
             have H := H1
             clear H1
             have HC33 := Aside0.mk H
             clear H
             go_upto_region 21 with (fail)
             repeat (go_quiet (fail); go_upto_region 21 with (fail))
             go_cut [11] (fun v11 wc => ∃ (kq : Nat) (x11_32 : Bool), v11 = .bool x11_32 ∧ Aside0 (intervalmonlaw29_RoutePeriodic.j4 kq t542 t546 t549 x9_1 x11_32 x12_1 t551 = some r) ∧ Aside0 (kq ≤ kj23) ∧ Aside0 (Kd.R k60 60 wc w.heap.size (fun _ => True) (.slice Ao13 t546.length co13) t546) ∧ Aside0 (Kd.R Kd.string 9 wc w.heap.size (fun _ => True) (.slice Ao25 x9_1.length co25) x9_1) ∧ Aside0 (Below w.heap.size w wc))
             case first =>
              have H := HC33.out
              clear HC33
              by_cases c34 : x11_1 = true
              ·subst c34
               have H1 : (intervalmonlaw29_RoutePeriodic.j4 kj23 t542 t546 t549 x9_1 true x12_1 t551) = some r := by rw [if_pos rfl] at H; exact H
               clear H
               have H := H1
               clear H1
               have H' := Aside0.mk H
               clear H
               go_wp2
               repeat (go_quiet (fail); try go_wp2)
               go_meet
               case rel => exact ⟨_, (true), (by first | rfl | (simp; done) | (simp [*]; done)), H', ⟨by have := HK1.out; have := HJ11.out; have := HK3.out; have := HJ23.out; first | omega | exact Nat.le_refl _⟩, ⟨by (with_reducible repeat (first | apply Kd.R_alloc | apply Kd.R_drewN | apply Kd.R_drew)); exact HO_7.out⟩, ⟨by (with_reducible repeat (first | apply Kd.R_alloc | apply Kd.R_drewN | apply Kd.R_drew)); exact HO_9.out⟩, ⟨by repeat (first | (with_reducible first | exact HB.out | apply below_alloc | apply pw_below_drewN | apply below_drew1) | exact HB.out)⟩⟩
              ·replace c34 := Bool.eq_false_iff.mpr c34
               subst c34
               have H1 : (intervalmonlaw29_RoutePeriodic.j4 kj23 t542 t546 t549 x9_1 x17_3 x12_1 t551) = some r := by rw [if_neg (show ¬ (false = true) by decide)] at H; exact H
               clear H
               have H := H1
               clear H1
               have H' := Aside0.mk H
               clear H
               go_wp2
               repeat (go_quiet (fail); try go_wp2)
               go_meet
               case rel => exact ⟨_, (x17_3), (by first | rfl | (simp; done) | (simp [*]; done)), H', ⟨by have := HK1.out; have := HJ11.out; have := HK3.out; have := HJ23.out; first | omega | exact Nat.le_refl _⟩, ⟨by (with_reducible repeat (first | apply Kd.R_alloc | apply Kd.R_drewN | apply Kd.R_drew)); exact HO_7.out⟩, ⟨by (with_reducible repeat (first | apply Kd.R_alloc | apply Kd.R_drewN | apply Kd.R_drew)); exact HO_9.out⟩, ⟨by repeat (first | (with_reducible first | exact HB.out | apply below_alloc | apply pw_below_drewN | apply below_drew1) | exact HB.out)⟩⟩
             case rest =>
              clear HC33
              try clear c1
              try clear c2
              try clear p2
              try clear c3
              try clear p5
              try clear q5
              try clear hx5
              try clear p6
              try clear c9
              try clear c9b0
              try clear c16
              try clear c16b0
              try clear c16b1
              try clear c17
              try clear c17b0
              try clear c17b1
              try clear c18
              try clear c19
              try clear c19b0
              try clear c20
              try clear c22
              try clear c22b0
              try clear c26
              try clear c26b0
              try clear c27
              try clear c28
              try clear c28b0
              try clear c28b1
              try clear c29
              try clear c30
              try clear c31
              try clear c32
              try clear c34
              try clear hx555_0
              try clear p2
              try clear p5
              try clear p555
              try clear p6
              try clear q5
              try clear q555
              obtain ⟨kq, x11_32, rfl, HA, HJ32, HO_7, HO_9, HB⟩ := hcut
              cases kq with
              | zero => exact absurd HA.out (by simp [intervalmonlaw29_RoutePeriodic.j4])
              | succ kj32 =>
               have H := HA.out
               clear HA
               simp only [intervalmonlaw29_RoutePeriodic.j4] at H
               by_cases c35 : x9_1.length < 8796093022208
               ·rw [if_pos c35] at H
                have LMc35 := Aside0.mk c35
                clear c35
                obtain ⟨y556, hy556⟩ : ∃ y_ : List ByteArray, y_ = (x9_1 ++ [t551]) := ⟨_, rfl⟩
                replace H : (intervalmonlaw29_RoutePeriodic.l2 kj32 t542 t546 t549 y556 t551 x11_32 x12_1 t551 false 0) = some r := by first | (rw [hy556]; with_reducible exact H) | (have H2_ := (Option.bind_some _ _).symm.trans H; rw [hy556]; with_reducible exact H2_) | (have H2_ := (Option.bind_some _ _).symm.trans H; with_reducible exact H2_) | with_reducible exact H | (rw [hy556]; exact H) | exact H
                have Ny556 := Aside0.mk hy556
                clear hy556
                have H' := Aside0.mk H
                clear H
                go_wp2_with (first | ((with_reducible refine gate_builtin (b := .append) (xs := #[.tmp 101, .tmp 103]) rfl ?_); at_builtin; refine Kd.R_append Kd.string (w0 := w) w.heap.size rfl (.tmp 101) (.tmp 103) 57 9 (.string ⟨#[]⟩) 16 rfl Try.underlying57 info9 rfl (by decide) (by omega) (.slice Ao25 x9_1.length co25) x9_1 t551 [.string t551] (fun _ => True) (fun _ => False) rfl rfl ?aP (fun _ hk => hk.elim) ?aF ?aO ?aB ?aS ?aL ?_; (case aP => exact rfl); (case aB => exact (hq HB)); (case aF => exact (fun _ _ => trivial)); (case aO => exact (rq HO_9)); (case aS => exact (below_size (hq HB))); (case aL => have := LMc35.out; omega); intro v557 w36 ho hb hg hat; rw [← Ny556.out] at ho; have n0_ := Aside0.mk (Kd.R_over' (rq HO_7) (Kd.R_typed (rq HO_9)) (by decide) hg); have n1_ := Aside0.mk (hb); have n2_ := Aside0.mk (ho); clear HO_7; clear HB; clear HO_9; have HO_7 := n0_; have HB := n1_; have HO558 := n2_; clear n0_ n1_ n2_; clear ho hb hg hat))
                repeat (go_quiet (first | ((with_reducible refine gate_builtin (b := .append) (xs := #[.tmp 101, .tmp 103]) rfl ?_); at_builtin; refine Kd.R_append Kd.string (w0 := w) w.heap.size rfl (.tmp 101) (.tmp 103) 57 9 (.string ⟨#[]⟩) 16 rfl Try.underlying57 info9 rfl (by decide) (by omega) (.slice Ao25 x9_1.length co25) x9_1 t551 [.string t551] (fun _ => True) (fun _ => False) rfl rfl ?aP (fun _ hk => hk.elim) ?aF ?aO ?aB ?aS ?aL ?_; (case aP => exact rfl); (case aB => exact (hq HB)); (case aF => exact (fun _ _ => trivial)); (case aO => exact (rq HO_9)); (case aS => exact (below_size (hq HB))); (case aL => have := LMc35.out; omega); intro v557 w36 ho hb hg hat; rw [← Ny556.out] at ho; have n0_ := Aside0.mk (Kd.R_over' (rq HO_7) (Kd.R_typed (rq HO_9)) (by decide) hg); have n1_ := Aside0.mk (hb); have n2_ := Aside0.mk (ho); clear HO_7; clear HB; clear HO_9; have HO_7 := n0_; have HB := n1_; have HO558 := n2_; clear n0_ n1_ n2_; clear ho hb hg hat)); try go_wp2_with (first | ((with_reducible refine gate_builtin (b := .append) (xs := #[.tmp 101, .tmp 103]) rfl ?_); at_builtin; refine Kd.R_append Kd.string (w0 := w) w.heap.size rfl (.tmp 101) (.tmp 103) 57 9 (.string ⟨#[]⟩) 16 rfl Try.underlying57 info9 rfl (by decide) (by omega) (.slice Ao25 x9_1.length co25) x9_1 t551 [.string t551] (fun _ => True) (fun _ => False) rfl rfl ?aP (fun _ hk => hk.elim) ?aF ?aO ?aB ?aS ?aL ?_; (case aP => exact rfl); (case aB => exact (hq HB)); (case aF => exact (fun _ _ => trivial)); (case aO => exact (rq HO_9)); (case aS => exact (below_size (hq HB))); (case aL => have := LMc35.out; omega); intro v557 w36 ho hb hg hat; rw [← Ny556.out] at ho; have n0_ := Aside0.mk (Kd.R_over' (rq HO_7) (Kd.R_typed (rq HO_9)) (by decide) hg); have n1_ := Aside0.mk (hb); have n2_ := Aside0.mk (ho); clear HO_7; clear HB; clear HO_9; have HO_7 := n0_; have HB := n1_; have HO558 := n2_; clear n0_ n1_ n2_; clear ho hb hg hat)))
                go_loopg [19, 20] kj32 (fun kq v19 v20 w' => ∃ (x19_6 : Bool) (x20_6 : Int), v19 = .bool x19_6 ∧ v20 = .int .i64 x20_6 ∧ Aside0 (intervalmonlaw29_RoutePeriodic.l2 kq t542 t546 t549 y556 t551 x11_32 x12_1 t551 x19_6 x20_6 = some r) ∧ Aside0 (kq ≤ kj32) ∧ Aside0 (Kd.R k60 60 w' w.heap.size (fun _ => True) (.slice Ao13 t546.length co13) t546) ∧ Aside0 (Kd.R Kd.string 9 w' w.heap.size (fun _ => True) v557 y556) ∧ Aside0 (Below w.heap.size w w'))
                case atStart => exact ⟨(false), (0), (by first | rfl | (simp; done) | (simp [*]; done)), (by first | rfl | (simp; done) | (simp [*]; done)), H', ⟨Nat.le_refl _⟩, ⟨by (with_reducible repeat (first | apply Kd.R_alloc | apply Kd.R_drewN | apply Kd.R_drew)); exact HO_7.out⟩, ⟨by (with_reducible repeat (first | apply Kd.R_alloc | apply Kd.R_drewN | apply Kd.R_drew)); exact HO558.out⟩, ⟨by repeat (first | (with_reducible first | exact HB.out | apply below_alloc | apply pw_below_drewN | apply below_drew1) | exact HB.out)⟩⟩
                case round =>
                 clear H'
                 try clear c1
                 try clear c2
                 try clear p2
                 try clear c3
                 try clear p5
                 try clear q5
                 try clear hx5
                 try clear p6
                 try clear c9
                 try clear c9b0
                 try clear c16
                 try clear c16b0
                 try clear c16b1
                 try clear c17
                 try clear c17b0
                 try clear c17b1
                 try clear c18
                 try clear c19
                 try clear c19b0
                 try clear c20
                 try clear c22
                 try clear c22b0
                 try clear c26
                 try clear c26b0
                 try clear c27
                 try clear c28
                 try clear c28b0
                 try clear c28b1
                 try clear c29
                 try clear c30
                 try clear c31
                 try clear c32
                 try clear c34
                 try clear c35
                 try clear hx555_0
                 try clear p2
                 try clear p5
                 try clear p555
                 try clear p6
                 try clear q5
                 try clear q555
                 obtain ⟨x19_6, x20_6, rfl, rfl, HA, HK6, HO_7, HO_9, HB⟩ := hrel
                 cases gk with
                 | zero => exact absurd HA.out (by simp [intervalmonlaw29_RoutePeriodic.l2])
                 | succ k6 =>
                  have H := HA.out
                  clear HA
                  simp only [intervalmonlaw29_RoutePeriodic.l2] at H
                  by_cases c37 : x20_6 < (t546.length : Int)
                  ·rw [if_pos c37] at H
                   have c37b0 : decide (x20_6 < (t546.length : Int)) = true := decide_eq_true c37
                   clear c37
                   by_cases c38 : x19_6 = true
                   ·subst c38
                    have H1 : (intervalmonlaw29_RoutePeriodic.l2 k6 t542 t546 t549 y556 t551 x11_32 x12_1 t551 true (wrap64 (x20_6 + 1))) = some r := by rw [if_pos rfl] at H; exact H
                    clear H
                    have H := H1
                    clear H1
                    have H' := Aside0.mk H
                    clear H
                    go_wp2
                    repeat (go_quiet (fail); try go_wp2)
                    go_roundg k6
                    case measure => have := HK1.out; have := HJ11.out; have := HK3.out; have := HJ23.out; have := HJ32.out; have := HK6.out; omega
                    case rel => exact ⟨(true), (wrap64 (x20_6 + 1)), (by first | rfl | (simp; done) | (simp [*]; done)), (by first | rfl | (simp; done) | (simp [*]; done)), H', ⟨by have := HK1.out; have := HJ11.out; have := HK3.out; have := HJ23.out; have := HJ32.out; have := HK6.out; omega⟩, ⟨by (with_reducible repeat (first | apply Kd.R_alloc | apply Kd.R_drewN | apply Kd.R_drew)); exact HO_7.out⟩, ⟨by (with_reducible repeat (first | apply Kd.R_alloc | apply Kd.R_drewN | apply Kd.R_drew)); exact HO_9.out⟩, ⟨by repeat (first | (with_reducible first | exact HB.out | apply below_alloc | apply pw_below_drewN | apply below_drew1) | exact HB.out)⟩⟩
                   ·replace c38 := Bool.eq_false_iff.mpr c38
                    subst c38
                    have H1 : (if 0 ≤ x20_6 then (if ((rd_T60 t546 x20_6).f0).toList = t551.toList then (if t542 = 0 then (none) else (if ((rd_T60 t546 x20_6).f1) ≤ (Int.tmod t549 t542) then (intervalmonlaw29_RoutePeriodic.l2 k6 t542 t546 t549 y556 t551 x11_32 x12_1 t551 (decide ((Int.tmod t549 t542) < ((rd_T60 t546 x20_6).f2))) (wrap64 (x20_6 + 1))) else (intervalmonlaw29_RoutePeriodic.l2 k6 t542 t546 t549 y556 t551 x11_32 x12_1 t551 false (wrap64 (x20_6 + 1))))) else (intervalmonlaw29_RoutePeriodic.l2 k6 t542 t546 t549 y556 t551 x11_32 x12_1 t551 false (wrap64 (x20_6 + 1)))) else (none)) = some r := by rw [if_neg (show ¬ (false = true) by decide)] at H; exact H
                    clear H
                    have H := H1
                    clear H1
                    by_cases c39 : 0 ≤ x20_6
                    ·rw [if_pos c39] at H
                     have c39b0 : decide (0 ≤ x20_6) = true := decide_eq_true c39
                     clear c39
                     by_cases c40 : ((rd_T60 t546 x20_6).f0).toList = t551.toList
                     ·rw [if_pos c40] at H
                      have c40b0 : (((rd_T60 t546 x20_6).f0).toList == t551.toList) = true := beq_iff_eq.mpr c40
                      have c40b1 : (((rd_T60 t546 x20_6).f0).toList != t551.toList) = false := bne_eq_false_iff_eq.mpr c40
                      clear c40
                      by_cases c41 : t542 = 0
                      ·rw [if_pos c41] at H
                       exact absurd H (by simp)
                      ·rw [if_neg c41] at H
                       have c41b0 : (t542 == 0) = false := beq_eq_false_iff_ne.mpr c41
                       have c41b1 : (t542 != 0) = true := bne_iff_ne.mpr c41
                       by_cases c42 : ((rd_T60 t546 x20_6).f1) ≤ (Int.tmod t549 t542)
                       ·rw [if_pos c42] at H
                        have c42b0 : decide (((rd_T60 t546 x20_6).f1) ≤ (Int.tmod t549 t542)) = true := decide_eq_true c42
                        clear c42
                        have H' := Aside0.mk H
                        clear H
                        have p559 : 0 ≤ (x20_6 : Int) := of_decide_eq_true (by first | (with_reducible assumption) | assumption)
                        have q559 : x20_6 < (t546.length : Int) := of_decide_eq_true (by first | (with_reducible assumption) | assumption)
                        obtain ⟨ad559, e559, hx559_0, hx559_1, hx559_2⟩ := at_T60 (Kd.R_reads' HO_7.out).2.2 x20_6 p559 q559
                        cases e559
                        replace p559 := eq_true p559
                        replace q559 := eq_true q559
                        have p560 : 0 ≤ (x20_6 : Int) := of_decide_eq_true (by first | (with_reducible assumption) | assumption)
                        have q560 : x20_6 < (t546.length : Int) := of_decide_eq_true (by first | (with_reducible assumption) | assumption)
                        obtain ⟨ad560, e560, hx560_0, hx560_1, hx560_2⟩ := at_T60 (Kd.R_reads' HO_7.out).2.2 x20_6 p560 q560
                        obtain rfl : ad559 = ad560 := (by injection e560)
                        replace p560 := eq_true p560
                        replace q560 := eq_true q560
                        have p561 : 0 ≤ (x20_6 : Int) := of_decide_eq_true (by first | (with_reducible assumption) | assumption)
                        have q561 : x20_6 < (t546.length : Int) := of_decide_eq_true (by first | (with_reducible assumption) | assumption)
                        obtain ⟨ad561, e561, hx561_0, hx561_1, hx561_2⟩ := at_T60 (Kd.R_reads' HO_7.out).2.2 x20_6 p561 q561
                        obtain rfl : ad559 = ad561 := (by injection e561)
                        replace p561 := eq_true p561
                        replace q561 := eq_true q561
                        go_wp2
                        repeat (go_quiet (fail); try go_wp2)
                        go_roundg k6
                        case measure => have := HK1.out; have := HJ11.out; have := HK3.out; have := HJ23.out; have := HJ32.out; have := HK6.out; omega
                        case rel => exact ⟨(decide ((Int.tmod t549 t542) < ((rd_T60 t546 x20_6).f2))), (wrap64 (x20_6 + 1)), (by first | rfl | (simp; done) | (simp [*]; done)), (by first | rfl | (simp; done) | (simp [*]; done)), H', ⟨by have := HK1.out; have := HJ11.out; have := HK3.out; have := HJ23.out; have := HJ32.out; have := HK6.out; omega⟩, ⟨by (with_reducible repeat (first | apply Kd.R_alloc | apply Kd.R_drewN | apply Kd.R_drew)); exact HO_7.out⟩, ⟨by (with_reducible repeat (first | apply Kd.R_alloc | apply Kd.R_drewN | apply Kd.R_drew)); exact HO_9.out⟩, ⟨by repeat (first | (with_reducible first | exact HB.out | apply below_alloc | apply pw_below_drewN | apply below_drew1) | exact HB.out)⟩⟩
                       ·rw [if_neg c42] at H
                        have c42b0 : decide (((rd_T60 t546 x20_6).f1) ≤ (Int.tmod t549 t542)) = false := decide_eq_false c42
                        clear c42
                        have H' := Aside0.mk H
                        clear H
                        have p559 : 0 ≤ (x20_6 : Int) := of_decide_eq_true (by first | (with_reducible assumption) | assumption)
                        have q559 : x20_6 < (t546.length : Int) := of_decide_eq_true (by first | (with_reducible assumption) | assumption)
                        obtain ⟨ad559, e559, hx559_0, hx559_1, hx559_2⟩ := at_T60 (Kd.R_reads' HO_7.out).2.2 x20_6 p559 q559
                        cases e559
                        replace p559 := eq_true p559
                        replace q559 := eq_true q559
                        have p560 : 0 ≤ (x20_6 : Int) := of_decide_eq_true (by first | (with_reducible assumption) | assumption)
                        have q560 : x20_6 < (t546.length : Int) := of_decide_eq_true (by first | (with_reducible assumption) | assumption)
                        obtain ⟨ad560, e560, hx560_0, hx560_1, hx560_2⟩ := at_T60 (Kd.R_reads' HO_7.out).2.2 x20_6 p560 q560
                        obtain rfl : ad559 = ad560 := (by injection e560)
                        replace p560 := eq_true p560
                        replace q560 := eq_true q560
                        go_wp2
                        repeat (go_quiet (fail); try go_wp2)
                        go_roundg k6
                        case measure => have := HK1.out; have := HJ11.out; have := HK3.out; have := HJ23.out; have := HJ32.out; have := HK6.out; omega
                        case rel => exact ⟨(false), (wrap64 (x20_6 + 1)), (by first | rfl | (simp; done) | (simp [*]; done)), (by first | rfl | (simp; done) | (simp [*]; done)), H', ⟨by have := HK1.out; have := HJ11.out; have := HK3.out; have := HJ23.out; have := HJ32.out; have := HK6.out; omega⟩, ⟨by (with_reducible repeat (first | apply Kd.R_alloc | apply Kd.R_drewN | apply Kd.R_drew)); exact HO_7.out⟩, ⟨by (with_reducible repeat (first | apply Kd.R_alloc | apply Kd.R_drewN | apply Kd.R_drew)); exact HO_9.out⟩, ⟨by repeat (first | (with_reducible first | exact HB.out | apply below_alloc | apply pw_below_drewN | apply below_drew1) | exact HB.out)⟩⟩
                     ·rw [if_neg c40] at H
                      have c40b0 : (((rd_T60 t546 x20_6).f0).toList == t551.toList) = false := beq_eq_false_iff_ne.mpr c40
                      have c40b1 : (((rd_T60 t546 x20_6).f0).toList != t551.toList) = true := bne_iff_ne.mpr c40
                      have H' := Aside0.mk H
                      clear H
                      have p559 : 0 ≤ (x20_6 : Int) := of_decide_eq_true (by first | (with_reducible assumption) | assumption)
                      have q559 : x20_6 < (t546.length : Int) := of_decide_eq_true (by first | (with_reducible assumption) | assumption)
                      obtain ⟨ad559, e559, hx559_0, hx559_1, hx559_2⟩ := at_T60 (Kd.R_reads' HO_7.out).2.2 x20_6 p559 q559
                      cases e559
                      replace p559 := eq_true p559
                      replace q559 := eq_true q559
                      go_wp2
                      repeat (go_quiet (fail); try go_wp2)
                      go_roundg k6
                      case measure => have := HK1.out; have := HJ11.out; have := HK3.out; have := HJ23.out; have := HJ32.out; have := HK6.out; omega
                      case rel => exact ⟨(false), (wrap64 (x20_6 + 1)), (by first | rfl | (simp; done) | (simp [*]; done)), (by first | rfl | (simp; done) | (simp [*]; done)), H', ⟨by have := HK1.out; have := HJ11.out; have := HK3.out; have := HJ23.out; have := HJ32.out; have := HK6.out; omega⟩, ⟨by (with_reducible repeat (first | apply Kd.R_alloc | apply Kd.R_drewN | apply Kd.R_drew)); exact HO_7.out⟩, ⟨by (with_reducible repeat (first | apply Kd.R_alloc | apply Kd.R_drewN | apply Kd.R_drew)); exact HO_9.out⟩, ⟨by repeat (first | (with_reducible first | exact HB.out | apply below_alloc | apply pw_below_drewN | apply below_drew1) | exact HB.out)⟩⟩
                    ·rw [if_neg c39] at H
                     exact absurd H (by simp)
                  ·rw [if_neg c37] at H
                   have c37b0 : decide (x20_6 < (t546.length : Int)) = false := decide_eq_false c37
                   clear c37
                   by_cases c43 : x19_6 = true
                   ·subst c43
                    have H1 : (intervalmonlaw29_RoutePeriodic.l0 k6 t542 t546 t549 y556 t551 x11_32 (wrap64 (x12_1 + 1))) = some r := by rw [if_pos rfl] at H; exact H
                    clear H
                    have H := H1
                    clear H1
                    have H' := Aside0.mk H
                    clear H
                    go_wp2
                    repeat (go_quiet (fail); try go_wp2)
                    go_roundg k6
                    case measure => have := HK1.out; have := HJ11.out; have := HK3.out; have := HJ23.out; have := HJ32.out; have := HK6.out; omega
                    case rel => exact ⟨(y556), (t551), (x11_32), (wrap64 (x12_1 + 1)), (by first | rfl | (simp; done) | (simp [*]; done)), (by first | rfl | (simp; done) | (simp [*]; done)), (by first | rfl | (simp; done) | (simp [*]; done)), H', ⟨by have := HK1.out; have := HJ11.out; have := HK3.out; have := HJ23.out; have := HJ32.out; have := HK6.out; omega⟩, ⟨by (with_reducible repeat (first | apply Kd.R_alloc | apply Kd.R_drewN | apply Kd.R_drew)); exact HO_7.out⟩, ⟨by (with_reducible repeat (first | apply Kd.R_alloc | apply Kd.R_drewN | apply Kd.R_drew)); exact HO_9.out⟩, ⟨by repeat (first | (with_reducible first | exact HB.out | apply below_alloc | apply pw_below_drewN | apply below_drew1) | exact HB.out)⟩⟩
                   ·replace c43 := Bool.eq_false_iff.mpr c43
                    subst c43
                    have H1 : (some false) = some r := by rw [if_neg (show ¬ (false = true) by decide)] at H; exact H
                    clear H
                    have H := H1
                    clear H1
                    obtain rfl := Option.some.inj H
                    go_wp2
                    repeat (go_quiet (fail); try go_wp2)
                    go_ret
                    exact ⟨by first | rfl | (simp [errW_none, errW_some] <;> rfl) | (simp [*, errW_none, errW_some] <;> rfl), by repeat (first | (with_reducible first | exact HB.out | apply below_alloc | apply pw_below_drewN | apply below_drew1) | exact HB.out)⟩
               ·rw [if_neg c35] at H
                exact absurd H (by simp)
   ·rw [if_neg c9] at H
    have c9b0 : decide (x12_1 < 9) = false := decide_eq_false c9
    clear c9
    replace H := Option.bind_eq_some_iff.mp H
    obtain ⟨t550, A440, H⟩ := H
    replace H : (some t550) = some r := H
    have A44 := Aside0.mk A440
    clear A440
    obtain rfl := Option.some.inj H
    go_wp2_with (first | (go_at_call 17; (with_reducible refine (intervalmonlaw29_lives.calls k1  t550 _ A44.out).mono ?_); rintro e w45 ⟨rfl, hb⟩; have n0_ := Aside0.mk (Kd.R_below (rq HO_7) hb); have n1_ := Aside0.mk (Kd.R_below (rq HO_9) hb); have n2_ := Aside0.mk (below_step (hq HB) hb); clear HO_7; clear HO_9; clear HB; have HO_7 := n0_; have HO_9 := n1_; have HB := n2_; clear n0_ n1_ n2_; (try clear hb); (try clear hb2); (try clear hk); (try clear hi)))
    repeat (go_quiet (first | (go_at_call 17; (with_reducible refine (intervalmonlaw29_lives.calls k1  t550 _ A44.out).mono ?_); rintro e w45 ⟨rfl, hb⟩; have n0_ := Aside0.mk (Kd.R_below (rq HO_7) hb); have n1_ := Aside0.mk (Kd.R_below (rq HO_9) hb); have n2_ := Aside0.mk (below_step (hq HB) hb); clear HO_7; clear HO_9; clear HB; have HO_7 := n0_; have HO_9 := n1_; have HB := n2_; clear n0_ n1_ n2_; (try clear hb); (try clear hb2); (try clear hk); (try clear hi))); try go_wp2_with (first | (go_at_call 17; (with_reducible refine (intervalmonlaw29_lives.calls k1  t550 _ A44.out).mono ?_); rintro e w45 ⟨rfl, hb⟩; have n0_ := Aside0.mk (Kd.R_below (rq HO_7) hb); have n1_ := Aside0.mk (Kd.R_below (rq HO_9) hb); have n2_ := Aside0.mk (below_step (hq HB) hb); clear HO_7; clear HO_9; clear HB; have HO_7 := n0_; have HO_9 := n1_; have HB := n2_; clear n0_ n1_ n2_; (try clear hb); (try clear hb2); (try clear hk); (try clear hi))))
    go_ret
    exact ⟨by first | rfl | (simp [errW_none, errW_some] <;> rfl) | (simp [*, errW_none, errW_some] <;> rfl), by repeat (first | (with_reducible first | exact HB.out | apply below_alloc | apply pw_below_drewN | apply below_drew1) | exact HB.out)⟩

/-- THE ONE PURE STATEMENT of intervalmonlaw29_RoutePeriodic: yours. -/
def intervalmonlaw29_RoutePeriodic.Pure : Prop := ∀ (l0 : List Int) (a1 : Int), l0.length ≤ maxLen → l0.length * 8 ≤ 140737488351232 → (∀ x ∈ l0, (Lit.int .i64 x).wf = true) → (Lit.int .i64 a1).wf = true → ∃ k, intervalmonlaw29_RoutePeriodic.f k l0 a1 = some true
theorem intervalmonlaw29_RoutePeriodic.walk (P : intervalmonlaw29_RoutePeriodic.Pure) (a0 : Option Addr) (len0 cap0 : Nat) (z0 : List Int) (a1 : Int) (w : World) (w0 : (a0 = none ∧ len0 = 0 ∧ cap0 = 0 ∧ z0 = []) ∨ ∃ x, a0 = some x ∧ len0 ≤ cap0 ∧ cap0 ≤ maxLen ∧ z0.length = cap0 ∧ (∀ i, i < z0.length → w.cell? (x.add i) = some (.int .i64 (z0.getD i 0))) ∧ ∀ n ∈ z0, (Lit.int .i64 n).wf = true) (y0 : len0 * 8 ≤ 140737488351232) (w1 : (Lit.int .i64 a1).wf = true) :
  Calls Try.prog 9 #[.slice a0 len0 cap0, .int .i64 a1] w fun e w' => e = .returned (.bool true) ∧ Below w.heap.size w w' := by
 obtain ⟨l0, rfl, hr0, hm0, hw0, hc0⟩ := ReadsInt.ofRowC w0
 obtain ⟨k, h⟩ := P l0 a1 hm0 y0 hw0 w1
 refine (intervalmonlaw29_RoutePeriodic.calls k _ _ l0 a1 true w (Kd.C_of_reads (d := (0 : Int)) (h1 := fun _ => rfl) hr0) hc0 h).mono ?_
 rintro e w' ⟨rfl, hd⟩
 exact ⟨rfl, hd⟩

end Go.Proofs.Ytcamljlhdejmmaa.P
