-- Written by this session's own copy of a printing program (wip/tools); Lean checks it.
import Derived.Test.YtcamljlhdejmmaaPx0
import Derived.Test.YtcamljlhdejmmaaPx2
import Derived.Test.YtcamljlhdejmmaaPx3
import Derived.Test.YtcamljlhdejmmaaPx6
import Derived.Test.YtcamljlhdejmmaaPx8
import Derived.Test.YtcamljlhdejmmaaPx11
import Derived.Test.YtcamljlhdejmmaaPx13
import Derived.Test.YtcamljlhdejmmaaHValid
namespace Go.Proofs.Ytcamljlhdejmmaa.P
open Go.RowKit Go.Proofs.YtcamljlhdejmmaaW.PrintWords Go.Proofs.YtcamljlhdejmmaaW.PrintLast Go.Proofs.YtcamljlhdejmmaaW.PrintMore
attribute [local go_sem] max2_int min2_int max_two min_two max_three min_three max_four min_four   -- for this text's walks alone
set_option linter.unusedVariables false
set_option linter.unusedSimpArgs false

/-! ### intervalmonlaw29_RouteMonotone: function 6 -/
mutual
def intervalmonlaw29_RouteMonotone.j0 : Nat → Int → Int → Int → List Bool → List Bool → Bool → Int → List (S27) → Option (Bool)
 | 0, _, _, _, _, _, _, _, _ => none
 | k + 1, x2, x3, x4, x12, x13, x40, x392000, x392001 => if x40 = true then (if x392000 = 0 then (if (x13.length : Int) = 0 then ((intervalmonlaw29_lives.f k).bind fun t398 => (some t398)) else (some false)) else (some false)) else (if ([] : List (S27)).length + x392001.length < 8796093022208 then ((some (([] : List (S27)) ++ x392001 : List (S27))).bind fun y399 => ((intervalmonref01_Around.f x2 x392000).bind fun t402 => ((intervalmonref01_Around.f x3 x392000).bind fun t403 => ((some (([(⟨t402, t403⟩ : S27)] : List (S27)) : List (S27))).bind fun y404 => (if y399.length + y404.length < 8796093022208 then ((some (y399 ++ y404 : List (S27))).bind fun y407 => ((route_Inhibited.f k x392000 y407 x12).bind fun t411 => (intervalmonlaw29_RouteMonotone.l0 k x4 x12 x13 t411 0 x392000 x392001 x392000 y407))) else (none)))))) else (none))
def intervalmonlaw29_RouteMonotone.l0 : Nat → Int → List Bool → List Bool → List Bool → Int → Int → List (S27) → Int → List (S27) → Option (Bool)
 | 0, _, _, _, _, _, _, _, _, _ => none
 | k + 1, x4, x12, x13, x16, x17, x392000, x392001, x411000, x411001 => if x17 < x392000 then ((route_Valid.f k x411000 x411001).bind fun t414 => (intervalmonlaw29_RouteMonotone.j2 k x4 x12 x13 x16 x17 (t414 == 0) x392000 x392001 x411000 x411001)) else (intervalmonlaw29_RouteMonotone.j2 k x4 x12 x13 x16 x17 false x392000 x392001 x411000 x411001)
def intervalmonlaw29_RouteMonotone.j2 : Nat → Int → List Bool → List Bool → List Bool → Int → Bool → Int → List (S27) → Int → List (S27) → Option (Bool)
 | 0, _, _, _, _, _, _, _, _, _, _ => none
 | k + 1, x4, x12, x13, x16, x17, x82, x392000, x392001, x411000, x411001 => if x82 = true then (if (x16.length : Int) = x392000 then (if 0 ≤ x17 then (if x17 < (x13.length : Int) then (if rdOf false x13 x17 = true then (if x17 < (x16.length : Int) then (if rdOf false x16 x17 = true then (intervalmonlaw29_RouteMonotone.l0 k x4 x12 x13 x16 (wrap64 (x17 + 1)) x392000 x392001 x411000 x411001) else (some false)) else (none)) else (intervalmonlaw29_RouteMonotone.l0 k x4 x12 x13 x16 (wrap64 (x17 + 1)) x392000 x392001 x411000 x411001)) else (none)) else (none)) else (some false)) else ((intervalmonref01_Around.f x4 x392000).bind fun t417 => (if 0 ≤ t417 then (if t417 < (x13.length : Int) then (if rdOf false x13 t417 = true then (if t417 < (x12.length : Int) then ((route_Inhibited.f k x392000 x392001 (x12.set (t417 : Int).toNat false)).bind fun t421 => (intervalmonlaw29_RouteMonotone.l1 k x13 t417 t421 0 x392000 x392001)) else (none)) else ((intervalmonlaw29_lives.f k).bind fun t419 => (some t419))) else (none)) else (none)))
def intervalmonlaw29_RouteMonotone.l1 : Nat → List Bool → Int → List Bool → Int → Int → List (S27) → Option (Bool)
 | 0, _, _, _, _, _, _ => none
 | k + 1, x13, x18, x19, x20, x392000, x392001 => if x20 < x392000 then (if (x19.length : Int) = x392000 then (if x20 = x18 then (intervalmonlaw29_RouteMonotone.l1 k x13 x18 x19 (wrap64 (x20 + 1)) x392000 x392001) else (if 0 ≤ x20 then (if x20 < (x19.length : Int) then (if x20 < (x13.length : Int) then (if ((rdOf false x19 x20) != (rdOf false x13 x20)) = true then (some false) else (intervalmonlaw29_RouteMonotone.l1 k x13 x18 x19 (wrap64 (x20 + 1)) x392000 x392001)) else (none)) else (none)) else (none))) else (some false)) else (if 0 ≤ x18 then (if x18 < (x19.length : Int) then (if rdOf false x19 x18 = true then (some false) else ((intervalmonlaw29_lives.f k).bind fun t427 => (some t427))) else (none)) else (none))
end
def intervalmonlaw29_RouteMonotone.f (k : Nat) (l0 : List Int) (a1 : Int) (a2 : Int) (a3 : Int) (a4 : Int) : Option (Bool) := (intervalmonref29_Acyclic.f k l0).bind fun bt383 => ((intervalmonlaw29_graph.f bt383.1 bt383.2).bind fun bt387 => ((intervalmonref29_Firing.f k bt387.1 a1).bind fun t392 => ((route_Inhibited.f k bt387.1 bt387.2 t392).bind fun t395 => (if bt387.1 = 0 then (intervalmonlaw29_RouteMonotone.j0 k a2 a3 a4 t392 t395 true bt387.1 bt387.2) else (intervalmonlaw29_RouteMonotone.j0 k a2 a3 a4 t392 t395 ((t395.length : Int) != bt387.1) bt387.1 bt387.2)))))
theorem intervalmonlaw29_RouteMonotone.mono_l : ∀ k, (∀ y0 y1 y2 y3 y4 y5 y6 y7, LeO (intervalmonlaw29_RouteMonotone.j0 k y0 y1 y2 y3 y4 y5 y6 y7) (intervalmonlaw29_RouteMonotone.j0 (k + 1) y0 y1 y2 y3 y4 y5 y6 y7)) ∧ (∀ y0 y1 y2 y3 y4 y5 y6 y7 y8, LeO (intervalmonlaw29_RouteMonotone.l0 k y0 y1 y2 y3 y4 y5 y6 y7 y8) (intervalmonlaw29_RouteMonotone.l0 (k + 1) y0 y1 y2 y3 y4 y5 y6 y7 y8)) ∧ (∀ y0 y1 y2 y3 y4 y5 y6 y7 y8 y9, LeO (intervalmonlaw29_RouteMonotone.j2 k y0 y1 y2 y3 y4 y5 y6 y7 y8 y9) (intervalmonlaw29_RouteMonotone.j2 (k + 1) y0 y1 y2 y3 y4 y5 y6 y7 y8 y9)) ∧ (∀ y0 y1 y2 y3 y4 y5, LeO (intervalmonlaw29_RouteMonotone.l1 k y0 y1 y2 y3 y4 y5) (intervalmonlaw29_RouteMonotone.l1 (k + 1) y0 y1 y2 y3 y4 y5))
 | 0 => ⟨fun _ _ _ _ _ _ _ _ r h => by simp [intervalmonlaw29_RouteMonotone.j0] at h, fun _ _ _ _ _ _ _ _ _ r h => by simp [intervalmonlaw29_RouteMonotone.l0] at h, fun _ _ _ _ _ _ _ _ _ _ r h => by simp [intervalmonlaw29_RouteMonotone.j2] at h, fun _ _ _ _ _ _ r h => by simp [intervalmonlaw29_RouteMonotone.l1] at h⟩
 | k + 1 => by
  obtain ⟨ih0, ih1, ih2, ih3⟩ := intervalmonlaw29_RouteMonotone.mono_l k
  refine ⟨?_, ?_, ?_, ?_⟩
  ·intro y0 y1 y2 y3 y4 y5 y6 y7
   unfold intervalmonlaw29_RouteMonotone.j0
   repeat' first
   | (with_reducible exact ih0 _ _ _ _ _ _ _ _)
   | (with_reducible exact ih1 _ _ _ _ _ _ _ _ _)
   | (with_reducible exact ih2 _ _ _ _ _ _ _ _ _ _)
   | (with_reducible exact ih3 _ _ _ _ _ _)
   | (with_reducible exact intervalmonlaw29_lives.mono _)
   | (with_reducible exact intervalmonref29_Acyclic.mono _ _)
   | (with_reducible exact intervalmonref29_Firing.mono _ _ _)
   | (with_reducible exact route_Inhibited.mono _ _ _ _)
   | (with_reducible exact route_Valid.mono _ _ _)
   | (with_reducible exact LeO.refl _)
   | (with_reducible exact LeO.none _)
   | (with_reducible refine LeO.ite ?_ ?_)
   | (with_reducible refine LeO.bind ?_ (fun _ => ?_))
   | exact ih0 _ _ _ _ _ _ _ _
   | exact ih1 _ _ _ _ _ _ _ _ _
   | exact ih2 _ _ _ _ _ _ _ _ _ _
   | exact ih3 _ _ _ _ _ _
   | exact intervalmonlaw29_lives.mono _
   | exact intervalmonref29_Acyclic.mono _ _
   | exact intervalmonref29_Firing.mono _ _ _
   | exact route_Inhibited.mono _ _ _ _
   | exact route_Valid.mono _ _ _
   | exact LeO.none _
   | refine LeO.ite ?_ ?_
   | refine LeO.bind ?_ (fun _ => ?_)
  ·intro y0 y1 y2 y3 y4 y5 y6 y7 y8
   unfold intervalmonlaw29_RouteMonotone.l0
   repeat' first
   | (with_reducible exact ih0 _ _ _ _ _ _ _ _)
   | (with_reducible exact ih1 _ _ _ _ _ _ _ _ _)
   | (with_reducible exact ih2 _ _ _ _ _ _ _ _ _ _)
   | (with_reducible exact ih3 _ _ _ _ _ _)
   | (with_reducible exact intervalmonlaw29_lives.mono _)
   | (with_reducible exact intervalmonref29_Acyclic.mono _ _)
   | (with_reducible exact intervalmonref29_Firing.mono _ _ _)
   | (with_reducible exact route_Inhibited.mono _ _ _ _)
   | (with_reducible exact route_Valid.mono _ _ _)
   | (with_reducible exact LeO.refl _)
   | (with_reducible exact LeO.none _)
   | (with_reducible refine LeO.ite ?_ ?_)
   | (with_reducible refine LeO.bind ?_ (fun _ => ?_))
   | exact ih0 _ _ _ _ _ _ _ _
   | exact ih1 _ _ _ _ _ _ _ _ _
   | exact ih2 _ _ _ _ _ _ _ _ _ _
   | exact ih3 _ _ _ _ _ _
   | exact intervalmonlaw29_lives.mono _
   | exact intervalmonref29_Acyclic.mono _ _
   | exact intervalmonref29_Firing.mono _ _ _
   | exact route_Inhibited.mono _ _ _ _
   | exact route_Valid.mono _ _ _
   | exact LeO.none _
   | refine LeO.ite ?_ ?_
   | refine LeO.bind ?_ (fun _ => ?_)
  ·intro y0 y1 y2 y3 y4 y5 y6 y7 y8 y9
   unfold intervalmonlaw29_RouteMonotone.j2
   repeat' first
   | (with_reducible exact ih0 _ _ _ _ _ _ _ _)
   | (with_reducible exact ih1 _ _ _ _ _ _ _ _ _)
   | (with_reducible exact ih2 _ _ _ _ _ _ _ _ _ _)
   | (with_reducible exact ih3 _ _ _ _ _ _)
   | (with_reducible exact intervalmonlaw29_lives.mono _)
   | (with_reducible exact intervalmonref29_Acyclic.mono _ _)
   | (with_reducible exact intervalmonref29_Firing.mono _ _ _)
   | (with_reducible exact route_Inhibited.mono _ _ _ _)
   | (with_reducible exact route_Valid.mono _ _ _)
   | (with_reducible exact LeO.refl _)
   | (with_reducible exact LeO.none _)
   | (with_reducible refine LeO.ite ?_ ?_)
   | (with_reducible refine LeO.bind ?_ (fun _ => ?_))
   | exact ih0 _ _ _ _ _ _ _ _
   | exact ih1 _ _ _ _ _ _ _ _ _
   | exact ih2 _ _ _ _ _ _ _ _ _ _
   | exact ih3 _ _ _ _ _ _
   | exact intervalmonlaw29_lives.mono _
   | exact intervalmonref29_Acyclic.mono _ _
   | exact intervalmonref29_Firing.mono _ _ _
   | exact route_Inhibited.mono _ _ _ _
   | exact route_Valid.mono _ _ _
   | exact LeO.none _
   | refine LeO.ite ?_ ?_
   | refine LeO.bind ?_ (fun _ => ?_)
  ·intro y0 y1 y2 y3 y4 y5
   unfold intervalmonlaw29_RouteMonotone.l1
   repeat' first
   | (with_reducible exact ih0 _ _ _ _ _ _ _ _)
   | (with_reducible exact ih1 _ _ _ _ _ _ _ _ _)
   | (with_reducible exact ih2 _ _ _ _ _ _ _ _ _ _)
   | (with_reducible exact ih3 _ _ _ _ _ _)
   | (with_reducible exact intervalmonlaw29_lives.mono _)
   | (with_reducible exact intervalmonref29_Acyclic.mono _ _)
   | (with_reducible exact intervalmonref29_Firing.mono _ _ _)
   | (with_reducible exact route_Inhibited.mono _ _ _ _)
   | (with_reducible exact route_Valid.mono _ _ _)
   | (with_reducible exact LeO.refl _)
   | (with_reducible exact LeO.none _)
   | (with_reducible refine LeO.ite ?_ ?_)
   | (with_reducible refine LeO.bind ?_ (fun _ => ?_))
   | exact ih0 _ _ _ _ _ _ _ _
   | exact ih1 _ _ _ _ _ _ _ _ _
   | exact ih2 _ _ _ _ _ _ _ _ _ _
   | exact ih3 _ _ _ _ _ _
   | exact intervalmonlaw29_lives.mono _
   | exact intervalmonref29_Acyclic.mono _ _
   | exact intervalmonref29_Firing.mono _ _ _
   | exact route_Inhibited.mono _ _ _ _
   | exact route_Valid.mono _ _ _
   | exact LeO.none _
   | refine LeO.ite ?_ ?_
   | refine LeO.bind ?_ (fun _ => ?_)
theorem intervalmonlaw29_RouteMonotone.mono : ∀ a0 a1 a2 a3 a4 k, LeO (intervalmonlaw29_RouteMonotone.f k a0 a1 a2 a3 a4) (intervalmonlaw29_RouteMonotone.f (k + 1) a0 a1 a2 a3 a4) := by
 intro a0 a1 a2 a3 a4 k
 obtain ⟨ih0, ih1, ih2, ih3⟩ := intervalmonlaw29_RouteMonotone.mono_l k
 unfold intervalmonlaw29_RouteMonotone.f
 repeat' first
   | (with_reducible exact ih0 _ _ _ _ _ _ _ _)
   | (with_reducible exact ih1 _ _ _ _ _ _ _ _ _)
   | (with_reducible exact ih2 _ _ _ _ _ _ _ _ _ _)
   | (with_reducible exact ih3 _ _ _ _ _ _)
   | (with_reducible exact intervalmonlaw29_lives.mono _)
   | (with_reducible exact intervalmonref29_Acyclic.mono _ _)
   | (with_reducible exact intervalmonref29_Firing.mono _ _ _)
   | (with_reducible exact route_Inhibited.mono _ _ _ _)
   | (with_reducible exact route_Valid.mono _ _ _)
   | (with_reducible exact LeO.refl _)
   | (with_reducible exact LeO.none _)
   | (with_reducible refine LeO.ite ?_ ?_)
   | (with_reducible refine LeO.bind ?_ (fun _ => ?_))
   | exact ih0 _ _ _ _ _ _ _ _
   | exact ih1 _ _ _ _ _ _ _ _ _
   | exact ih2 _ _ _ _ _ _ _ _ _ _
   | exact ih3 _ _ _ _ _ _
   | exact intervalmonlaw29_lives.mono _
   | exact intervalmonref29_Acyclic.mono _ _
   | exact intervalmonref29_Firing.mono _ _ _
   | exact route_Inhibited.mono _ _ _ _
   | exact route_Valid.mono _ _ _
   | exact LeO.none _
   | refine LeO.ite ?_ ?_
   | refine LeO.bind ?_ (fun _ => ?_)
def intervalmonlaw29_RouteMonotone.T8 : Bool × List (List Nat × List Nat) := (true, [([], []), ([0], [0]), ([], []), ([], []), ([], []), ([4], [4]), ([3, 5], [3, 5]), ([], []), ([], []), ([8], [8]), ([7, 9, 6], [7, 9]), ([6, 10], [6, 10]), ([11], [11]), ([2, 12, 10], [2, 12]), ([1, 13], [1, 13]), ([], []), ([15, 14, 13, 0, 1, 2, 3, 4, 5, 6, 7, 8, 9, 10, 11, 12, 13, 14, 15], [14, 15])])
def intervalmonlaw29_RouteMonotone.B8 : List Nat := [0, 1, 0, 0, 0, 16, 56, 0, 0, 256, 1016, 2040, 4088, 8188, 16383, 0, 65535]
theorem intervalmonlaw29_RouteMonotone.tab8 : rtab .any (opsOf Try.f6 8) = intervalmonlaw29_RouteMonotone.T8 := by kernel_rfl
theorem intervalmonlaw29_RouteMonotone.bits8 : waitsOk intervalmonlaw29_RouteMonotone.T8.2 intervalmonlaw29_RouteMonotone.B8 = true := by kernel_rfl
def intervalmonlaw29_RouteMonotone.T23 : Bool × List (List Nat × List Nat) := (true, [([], []), ([0], [0]), ([], []), ([2], [2]), ([1, 3], [1, 3]), ([4], [4]), ([5], [5]), ([5], [5]), ([6, 7, 5], [5, 6, 7]), ([8, 5, 5], [5, 8]), ([9], [9]), ([9], [9]), ([10, 11, 9], [9, 10, 11]), ([12, 9], [9, 12]), ([9], [9]), ([9], [9]), ([14, 15, 9], [9, 14, 15]), ([16, 9], [9, 16]), ([13, 17, 9], [9, 13, 17]), ([9, 18, 5], [5, 9, 18]), ([5, 19], [5, 19])])
def intervalmonlaw29_RouteMonotone.B23 : List Nat := [0, 1, 0, 4, 15, 31, 63, 63, 255, 511, 1023, 1023, 4095, 8191, 1023, 1023, 50175, 115711, 262143, 524287, 1048575]
theorem intervalmonlaw29_RouteMonotone.tab23 : rtab .any (opsOf Try.f6 23) = intervalmonlaw29_RouteMonotone.T23 := by kernel_rfl
theorem intervalmonlaw29_RouteMonotone.bits23 : waitsOk intervalmonlaw29_RouteMonotone.T23.2 intervalmonlaw29_RouteMonotone.B23 = true := by kernel_rfl
set_option maxHeartbeats 8000000 in
set_option maxRecDepth 100000 in
theorem intervalmonlaw29_RouteMonotone.calls (k : Nat) (A0 : Option Addr) (c0 : Nat) (l0 : List Int) (a1 : Int) (a2 : Int) (a3 : Int) (a4 : Int) (r : Bool) (w : World) (hr0 : Kd.C (Kd.int .i64) w A0 l0.length l0) (hc0 : l0.length ≤ c0) (h : intervalmonlaw29_RouteMonotone.f k l0 a1 a2 a3 a4 = some r) :
  Calls Try.prog 6 #[.slice A0 l0.length c0, .int .i64 a1, .int .i64 a2, .int .i64 a3, .int .i64 a4] w fun e w' => e = .returned (.bool r) ∧ Below w.heap.size w w' := by
 have hu31 := Try.underlying31
 have hu27 := Try.underlying27
 have HR0 := Aside0.mk hr0
 have HC0 := Aside0.mk hc0
 clear hr0 hc0
 have HB := Aside0.mk (Below.refl w.heap.size w)
 have H : ((intervalmonref29_Acyclic.f k l0).bind fun bt383 => ((intervalmonlaw29_graph.f bt383.1 bt383.2).bind fun bt387 => ((intervalmonref29_Firing.f k bt387.1 a1).bind fun t392 => ((route_Inhibited.f k bt387.1 bt387.2 t392).bind fun t395 => (if bt387.1 = 0 then (intervalmonlaw29_RouteMonotone.j0 k a2 a3 a4 t392 t395 true bt387.1 bt387.2) else (intervalmonlaw29_RouteMonotone.j0 k a2 a3 a4 t392 t395 ((t395.length : Int) != bt387.1) bt387.1 bt387.2)))))) = some r := h
 clear h
 replace H := Option.bind_eq_some_iff.mp H
 obtain ⟨⟨t383, t384⟩, A60, H⟩ := H
 replace H : ((intervalmonlaw29_graph.f t383 t384).bind fun bt387 => ((intervalmonref29_Firing.f k bt387.1 a1).bind fun t392 => ((route_Inhibited.f k bt387.1 bt387.2 t392).bind fun t395 => (if bt387.1 = 0 then (intervalmonlaw29_RouteMonotone.j0 k a2 a3 a4 t392 t395 true bt387.1 bt387.2) else (intervalmonlaw29_RouteMonotone.j0 k a2 a3 a4 t392 t395 ((t395.length : Int) != bt387.1) bt387.1 bt387.2))))) = some r := H
 have A6 := Aside0.mk A60
 clear A60
 replace H := Option.bind_eq_some_iff.mp H
 obtain ⟨⟨t387, t388⟩, A70, H⟩ := H
 replace H : ((intervalmonref29_Firing.f k t387 a1).bind fun t392 => ((route_Inhibited.f k t387 t388 t392).bind fun t395 => (if t387 = 0 then (intervalmonlaw29_RouteMonotone.j0 k a2 a3 a4 t392 t395 true t387 t388) else (intervalmonlaw29_RouteMonotone.j0 k a2 a3 a4 t392 t395 ((t395.length : Int) != t387) t387 t388)))) = some r := H
 have A7 := Aside0.mk A70
 clear A70
 replace H := Option.bind_eq_some_iff.mp H
 obtain ⟨t392, A80, H⟩ := H
 replace H : ((route_Inhibited.f k t387 t388 t392).bind fun t395 => (if t387 = 0 then (intervalmonlaw29_RouteMonotone.j0 k a2 a3 a4 t392 t395 true t387 t388) else (intervalmonlaw29_RouteMonotone.j0 k a2 a3 a4 t392 t395 ((t395.length : Int) != t387) t387 t388))) = some r := H
 have A8 := Aside0.mk A80
 clear A80
 replace H := Option.bind_eq_some_iff.mp H
 obtain ⟨t395, A90, H⟩ := H
 replace H : (if t387 = 0 then (intervalmonlaw29_RouteMonotone.j0 k a2 a3 a4 t392 t395 true t387 t388) else (intervalmonlaw29_RouteMonotone.j0 k a2 a3 a4 t392 t395 ((t395.length : Int) != t387) t387 t388)) = some r := H
 have A9 := Aside0.mk A90
 clear A90
 have HC10 := Aside0.mk H
 clear H
 go_enter Try.func6, Try.ntmps6
 go_upto_region 4 with (first | ((with_reducible refine gate_callee (f := 22) rfl ?_); refine goesL_ (some 22) rfl rfl Try.func22 (by kernel_rfl) rfl #[.slice A0 l0.length c0] rfl aq ?_; (with_reducible refine (intervalmonref29_Acyclic.calls k _ _ l0 t383 t384 _ ?side1 ?side2 A6.out).mono ?_); (case side1 => repeat (first | exact HR0.out | (with_reducible refine Kd.C_alloc ?_ _) | (with_reducible refine Kd.C_drewN ?_ _) | (with_reducible refine Kd.C_drew ?_))); (case side2 => exact HC0.out); rintro e w11 ⟨v385, rfl, ho0, hb⟩; refine ⟨_, rfl, ?_⟩; have n0_ := Aside0.mk (Kd.R_lower ho0 (below_size (hq HB))); have n1_ := Aside0.mk (below_step (hq HB) hb); clear HB; have HO386 := n0_; have HB := n1_; clear n0_ n1_; (try clear hb); (try clear hb2); (try clear hk); (try clear hi); (try clear ho0); obtain ⟨Ao12, co12, eo12⟩ := Kd.R_slice HO386.out; subst eo12) | ((with_reducible refine gate_callee (f := 15) rfl ?_); refine goesL_ (some 23) rfl rfl Try.func15 (by kernel_rfl) rfl #[.agg #[.int .i64 t383, .slice Ao12 t384.length co12]] rfl aq ?_; (with_reducible refine (intervalmonlaw29_graph.calls t383 (fun k_ => some k_ = (.slice Ao12 t384.length co12 : Value).ownBlock) _ _ t384 t387 t388 _ ?side1 A7.out).mono ?_); (case side1 => exact Kd.R_V (Kd.R_tight rfl (HO386.out))); rintro e w13 ⟨v389, rfl, ho0, hb⟩; refine ⟨_, rfl, ?_⟩; have n0_ := Aside0.mk (Kd.R_below (rq HO386) hb); have n1_ := Aside0.mk (Kd.V_lower (Kd.V_mono (ok' := fun k_ => True) ho0 (fun k_ hk_ => trivial)) (below_size (hq HB))); have n2_ := Aside0.mk (below_step (hq HB) hb); clear HO386; clear HB; have HO386 := n0_; have HO390 := n1_; have HB := n2_; clear n0_ n1_ n2_; (try clear hb); (try clear hb2); (try clear hk); (try clear hi); (try clear ho0)) | ((with_reducible refine gate_dst (N := 11) rfl ?_); (try (refine gate_guard (by rfl) ?_; dsimp only)); refine box_event ?hg (N := 11) ?hd (cs := #[.int .i64 0, .slice none 0 0]) (t := 31) ?hr ?_; (case hd => rfl); (case hg => rfl); (case hr => first | (go_simp; done) | (go_simp; rfl)); intro gb391 hg w14 hbox hb; have n0_ := Aside0.mk (Kd.R_below (rq HO386) hb); have n1_ := Aside0.mk (Kd.V_below (Kd.V_elderB (vq HO390) gb391 (Nat.le_of_eq hg.symm)) hb); have n2_ := Aside0.mk (below_step (hq HB) hb); have n3_ := Aside0.mk (hbox); have n4_ := Aside0.mk ((by rw [hg]; exact (below_size (hq HB)) : w.heap.size ≤ gb391)); have n5_ := Aside0.mk ((by rw [hg]; exact (below_size (hq HB)) : w.heap.size ≤ gb391)); clear HO386; clear HO390; clear HB; have HO386 := n0_; have HO390 := n1_; have HB := n2_; have BK391 := n3_; have GW391 := n4_; have GE391 := n5_; clear n0_ n1_ n2_ n3_ n4_ n5_; clear hb hbox hg; have hcz15_0 : w14.cell? ⟨gb391, 0, none⟩ = some (.int .i64 0) := (blk_cell BK391.out 0).trans rfl; have hcz15_1 : w14.cell? ⟨gb391, 1, none⟩ = some (.slice none 0 0) := (blk_cell BK391.out 1).trans rfl; have hfz15_0 := blk_frozen BK391.out 0; have hfz15_1 := blk_frozen BK391.out 1; obtain ⟨Ao16, co16, eo16⟩ := Kd.V_slice HO390.out; subst eo16) | ((with_reducible refine gate_callee (f := 18) rfl ?_); refine goesL_ (some 27) rfl rfl Try.func18 (by kernel_rfl) rfl #[.int .i64 t387, .int .i64 a1] rfl aq ?_; (with_reducible refine (intervalmonref29_Firing.calls k t387 a1 t392 _ A8.out).mono ?_); rintro e w17 ⟨v393, rfl, ho0, hb⟩; refine ⟨_, rfl, ?_⟩; have n0_ := Aside0.mk (Kd.R_below (by (with_reducible repeat (first | apply Kd.R_alloc | apply Kd.R_drewN | apply Kd.R_drew)); exact (Kd.R_mono (Kd.R_far (p := ⟨gb391, 1, none⟩) (Kd.R_far (p := ⟨gb391, 0, none⟩) (Kd.R_types HO386.out BK391.out (by decide)) (fun _ hk => hk.2) (.int .i64 t387)) (fun _ hk => hk.2) (.slice Ao16 t388.length co16)) (fun _ h_ => h_.1))) hb); have n1_ := Aside0.mk (Kd.V_elder' (by (with_reducible repeat (first | apply Kd.V_alloc | apply Kd.V_drewN | apply Kd.V_drew)); exact (Kd.V_mono (Kd.V_far (p := ⟨gb391, 1, none⟩) (Kd.V_far (p := ⟨gb391, 0, none⟩) (Kd.V_mono HO390.out (fun k_ hk => (⟨hk, hk.2⟩ : _ ∧ k_ ≠ gb391))) (fun _ hk => hk.2) (.int .i64 t387)) (fun _ hk => hk.2) (.slice Ao16 t388.length co16)) (fun _ h_ => h_.1))) (Kd.R_base ho0) hb); have n2_ := Aside0.mk (Kd.R_lower ho0 (below_size (hq HB))); have n3_ := Aside0.mk (blk_below (g := gb391) (o := .cells #[.int .i64 t387, .slice Ao16 t388.length co16] 31 (0, 0)) (by (with_reducible repeat (first | refine blk_drewN ?_ _ | refine blk_drew ?_ | refine blk_alloc ?_ _)); refine blk_put (cs := #[.int .i64 t387, .slice none 0 0]) ?_ 1 _ rfl; (with_reducible repeat (first | refine blk_drewN ?_ _ | refine blk_drew ?_ | refine blk_alloc ?_ _)); refine blk_put (cs := #[.int .i64 0, .slice none 0 0]) ?_ 0 _ rfl; (with_reducible repeat (first | refine blk_drewN ?_ _ | refine blk_drew ?_ | refine blk_alloc ?_ _)); exact BK391.out) hb); have n4_ := Aside0.mk (below_step (hq HB) hb); clear HO386; clear HO390; clear BK391; clear HB; have HO386 := n0_; have HO390 := n1_; have HO394 := n2_; have BK391 := n3_; have HB := n4_; clear n0_ n1_ n2_ n3_ n4_; (try clear hb); (try clear hb2); (try clear hk); (try clear hi); (try clear ho0); have hcz18_0 : w17.cell? ⟨gb391, 0, none⟩ = some (.int .i64 t387) := (blk_cell BK391.out 0).trans rfl; have hcz18_1 : w17.cell? ⟨gb391, 1, none⟩ = some (.slice Ao16 t388.length co16) := (blk_cell BK391.out 1).trans rfl; have hfz18_0 := blk_frozen BK391.out 0; have hfz18_1 := blk_frozen BK391.out 1; obtain ⟨Ao19, co19, eo19⟩ := Kd.R_slice HO394.out; subst eo19) | ((with_reducible refine gate_callee (f := 20) rfl ?_); refine goesL_ (some 30) rfl rfl Try.func20 (by kernel_rfl) rfl #[.agg #[.int .i64 t387, .slice Ao16 t388.length co16], .slice Ao19 t392.length co19] rfl aq ?_; (with_reducible refine (route_Inhibited.calls k t387 _ _ t388 _ _ t392 t395 _ ?side1 ?side2 ?side3 ?side4 A9.out).mono ?_); (case side1 => repeat (first | exact (Kd.V_reads' HO390.out).2.2 | (with_reducible refine Kd.C_alloc ?_ _) | (with_reducible refine Kd.C_drewN ?_ _) | (with_reducible refine Kd.C_drew ?_))); (case side2 => exact (Kd.V_reads' HO390.out).2.1); (case side3 => repeat (first | exact (Kd.R_reads' HO394.out).2.2 | (with_reducible refine Kd.C_alloc ?_ _) | (with_reducible refine Kd.C_drewN ?_ _) | (with_reducible refine Kd.C_drew ?_))); (case side4 => exact (Kd.R_reads' HO394.out).2.1); rintro e w20 ⟨v396, rfl, ho0, hb⟩; refine ⟨_, rfl, ?_⟩; have n0_ := Aside0.mk (Kd.R_below (rq HO386) hb); have n1_ := Aside0.mk (Kd.V_elder' (vq HO390) (Kd.R_base ho0) hb); have n2_ := Aside0.mk (Kd.R_elder' (rq HO394) (Kd.R_base ho0) hb); have n3_ := Aside0.mk (Kd.R_lower (Kd.R_new' ho0 (Kd.R_lt (rq HO394))) (below_size (hq HB))); have n4_ := Aside0.mk (blk_below (g := gb391) (o := .cells #[.int .i64 t387, .slice Ao16 t388.length co16] 31 (0, 0)) (bq BK391) hb); have n5_ := Aside0.mk (below_step (hq HB) hb); clear HO386; clear HO390; clear HO394; clear BK391; clear HB; have HO386 := n0_; have HO390 := n1_; have HO394 := n2_; have HO397 := n3_; have BK391 := n4_; have HB := n5_; clear n0_ n1_ n2_ n3_ n4_ n5_; (try clear hb); (try clear hb2); (try clear hk); (try clear hi); (try clear ho0)))
 (try simp only [Act.put, List.setIfInBounds_toArray, List.set_cons_zero, List.set_cons_succ])
 go_cut [40] (fun v40 wc => ∃ (kq : Nat) (x40_9 : Bool), v40 = .bool x40_9 ∧ Aside0 (intervalmonlaw29_RouteMonotone.j0 kq a2 a3 a4 t392 t395 x40_9 t387 t388 = some r) ∧ Aside0 (kq ≤ k) ∧ Aside0 (Kd.R Kd.bool 4 wc w.heap.size (fun k_ => some k_ ≠ (v396 : Value).ownBlock) (.slice Ao19 t392.length co19) t392) ∧ Aside0 (Kd.R Kd.bool 4 wc w.heap.size (fun k_ => some k_ ≠ ((.slice Ao19 t392.length co19) : Value).ownBlock) v396 t395) ∧ Aside0 (Kd.V k27 27 wc w.heap.size (fun k_ => some k_ ≠ ((.slice Ao19 t392.length co19) : Value).ownBlock ∧ some k_ ≠ (v396 : Value).ownBlock ∧ k_ ≠ gb391) (.slice Ao16 t388.length co16) t388) ∧ Aside0 (wc.heap[gb391]? = some (.cells #[.int .i64 t387, (.slice Ao16 t388.length co16)] 31 (0, 0))) ∧ Aside0 (Below w.heap.size w wc))
 case first =>
  have H := HC10.out
  clear HC10
  by_cases c21 : t387 = 0
  ·rw [if_pos c21] at H
   have c21b0 : (t387 == 0) = true := beq_iff_eq.mpr c21
   have c21b1 : (t387 != 0) = false := bne_eq_false_iff_eq.mpr c21
   clear c21
   (first | rw [c21b0] | (simp only [i64_w, i32_w]; rw [c21b0]) | skip)
   have H' := Aside0.mk H
   clear H
   have hcz22_0 : w20.cell? ⟨gb391, 0, none⟩ = some (.int .i64 t387) := (blk_cell BK391.out 0).trans rfl
   have hcz22_1 : w20.cell? ⟨gb391, 1, none⟩ = some (.slice Ao16 t388.length co16) := (blk_cell BK391.out 1).trans rfl
   have hfz22_0 := blk_frozen BK391.out 0
   have hfz22_1 := blk_frozen BK391.out 1
   go_wp2
   go_meet
   case rel => exact ⟨_, (true), (by first | rfl | (simp; done) | (simp [*]; done)), H', ⟨by first | omega | exact Nat.le_refl _⟩, ⟨by (with_reducible repeat (first | apply Kd.R_alloc | apply Kd.R_drewN | apply Kd.R_drew)); exact Kd.R_mono HO394.out (fun _ hk => hk.2)⟩, ⟨by (with_reducible repeat (first | apply Kd.R_alloc | apply Kd.R_drewN | apply Kd.R_drew)); exact Kd.R_mono HO397.out (fun _ hk => hk.2)⟩, ⟨by (with_reducible repeat (first | apply Kd.V_alloc | apply Kd.V_drewN | apply Kd.V_drew)); exact Kd.V_mono HO390.out (fun _ hk => ⟨hk.1.2, ⟨hk.2, hk.1.1.2⟩⟩)⟩, ⟨by (with_reducible repeat (first | refine blk_drewN ?_ _ | refine blk_drew ?_ | refine blk_alloc ?_ _)); exact BK391.out⟩, ⟨by repeat (first | (with_reducible first | exact HB.out | apply below_alloc | apply pw_below_drewN | apply below_drew1 | refine below_set ?_ GE391.out) | exact HB.out)⟩⟩
  ·rw [if_neg c21] at H
   have c21b0 : (t387 == 0) = false := beq_eq_false_iff_ne.mpr c21
   have c21b1 : (t387 != 0) = true := bne_iff_ne.mpr c21
   (first | rw [c21b0] | (simp only [i64_w, i32_w]; rw [c21b0]) | skip)
   have H' := Aside0.mk H
   clear H
   have hcz23_0 : w20.cell? ⟨gb391, 0, none⟩ = some (.int .i64 t387) := (blk_cell BK391.out 0).trans rfl
   have hcz23_1 : w20.cell? ⟨gb391, 1, none⟩ = some (.slice Ao16 t388.length co16) := (blk_cell BK391.out 1).trans rfl
   have hfz23_0 := blk_frozen BK391.out 0
   have hfz23_1 := blk_frozen BK391.out 1
   obtain ⟨Ao24, co24, eo24⟩ := Kd.R_slice HO397.out
   subst eo24
   go_wp2
   go_meet
   case rel => exact ⟨_, (((t395.length : Int) != t387)), (by first | rfl | (simp; done) | (simp [*]; done)), H', ⟨by first | omega | exact Nat.le_refl _⟩, ⟨by (with_reducible repeat (first | apply Kd.R_alloc | apply Kd.R_drewN | apply Kd.R_drew)); exact Kd.R_mono HO394.out (fun _ hk => hk.2)⟩, ⟨by (with_reducible repeat (first | apply Kd.R_alloc | apply Kd.R_drewN | apply Kd.R_drew)); exact Kd.R_mono HO397.out (fun _ hk => hk.2)⟩, ⟨by (with_reducible repeat (first | apply Kd.V_alloc | apply Kd.V_drewN | apply Kd.V_drew)); exact Kd.V_mono HO390.out (fun _ hk => ⟨hk.1.2, ⟨hk.2, hk.1.1.2⟩⟩)⟩, ⟨by (with_reducible repeat (first | refine blk_drewN ?_ _ | refine blk_drew ?_ | refine blk_alloc ?_ _)); exact BK391.out⟩, ⟨by repeat (first | (with_reducible first | exact HB.out | apply below_alloc | apply pw_below_drewN | apply below_drew1 | refine below_set ?_ GE391.out) | exact HB.out)⟩⟩
 case rest =>
  clear HC10
  try clear c1
  try clear c2
  try clear p2
  try clear c6
  try clear c15
  try clear c18
  try clear c20
  try clear c21
  try clear c21b0
  try clear c21b1
  try clear c22
  try clear hcz15_0
  try clear hcz15_1
  try clear hcz18_0
  try clear hcz18_1
  try clear hcz22_0
  try clear hcz22_1
  try clear hcz23_0
  try clear hcz23_1
  try clear hfz15_0
  try clear hfz15_1
  try clear hfz18_0
  try clear hfz18_1
  try clear hfz22_0
  try clear hfz22_1
  try clear hfz23_0
  try clear hfz23_1
  obtain ⟨kq, x40_9, rfl, HA, HJ9, HO_12, HO_13, HO_392001, BK391, HB⟩ := hcut
  cases kq with
  | zero => exact absurd HA.out (by simp [intervalmonlaw29_RouteMonotone.j0])
  | succ kj9 =>
   have H := HA.out
   clear HA
   simp only [intervalmonlaw29_RouteMonotone.j0] at H
   by_cases c25 : x40_9 = true
   ·subst c25
    have H1 : (if t387 = 0 then (if (t395.length : Int) = 0 then ((intervalmonlaw29_lives.f kj9).bind fun t398 => (some t398)) else (some false)) else (some false)) = some r := by rw [if_pos rfl] at H; exact H
    clear H
    have H := H1
    clear H1
    by_cases c26 : t387 = 0
    ·rw [if_pos c26] at H
     have c26b0 : (t387 == 0) = true := beq_iff_eq.mpr c26
     have c26b1 : (t387 != 0) = false := bne_eq_false_iff_eq.mpr c26
     clear c26
     by_cases c27 : (t395.length : Int) = 0
     ·rw [if_pos c27] at H
      have c27b0 : ((t395.length : Int) == 0) = true := beq_iff_eq.mpr c27
      have c27b1 : ((t395.length : Int) != 0) = false := bne_eq_false_iff_eq.mpr c27
      clear c27
      replace H := Option.bind_eq_some_iff.mp H
      obtain ⟨t398, A280, H⟩ := H
      replace H : (some t398) = some r := H
      have A28 := Aside0.mk A280
      clear A280
      obtain rfl := Option.some.inj H
      have hcz29_0 : wc.cell? ⟨gb391, 0, none⟩ = some (.int .i64 t387) := (blk_cell BK391.out 0).trans rfl
      have hcz29_1 : wc.cell? ⟨gb391, 1, none⟩ = some (.slice Ao16 t388.length co16) := (blk_cell BK391.out 1).trans rfl
      have hfz29_0 := blk_frozen BK391.out 0
      have hfz29_1 := blk_frozen BK391.out 1
      obtain ⟨Ao30, co30, eo30⟩ := Kd.R_slice HO_13.out
      subst eo30
      go_wp2_with (first | (go_at_call 17; (with_reducible refine (intervalmonlaw29_lives.calls kj9  t398 _ A28.out).mono ?_); rintro e w31 ⟨rfl, hb⟩; have n0_ := Aside0.mk (Kd.R_below (rq HO_12) hb); have n1_ := Aside0.mk (Kd.R_below (rq HO_13) hb); have n2_ := Aside0.mk (Kd.V_below (vq HO_392001) hb); have n3_ := Aside0.mk (blk_below (g := gb391) (o := .cells #[.int .i64 t387, .slice Ao16 t388.length co16] 31 (0, 0)) (bq BK391) hb); have n4_ := Aside0.mk (below_step (hq HB) hb); clear HO_12; clear HO_13; clear HO_392001; clear BK391; clear HB; have HO_12 := n0_; have HO_13 := n1_; have HO_392001 := n2_; have BK391 := n3_; have HB := n4_; clear n0_ n1_ n2_ n3_ n4_; (try clear hb); (try clear hb2); (try clear hk); (try clear hi)))
      go_ret
      exact ⟨by first | rfl | (simp [errW_none, errW_some] <;> rfl) | (simp [*, errW_none, errW_some] <;> rfl), by repeat (first | (with_reducible first | exact HB.out | apply below_alloc | apply pw_below_drewN | apply below_drew1 | refine below_set ?_ GE391.out) | exact HB.out)⟩
     ·rw [if_neg c27] at H
      have c27b0 : ((t395.length : Int) == 0) = false := beq_eq_false_iff_ne.mpr c27
      have c27b1 : ((t395.length : Int) != 0) = true := bne_iff_ne.mpr c27
      have c27b2 : ¬ (t395 = []) := fun h_ => c27 (by rw [h_]; rfl)
      obtain rfl := Option.some.inj H
      have hcz32_0 : wc.cell? ⟨gb391, 0, none⟩ = some (.int .i64 t387) := (blk_cell BK391.out 0).trans rfl
      have hcz32_1 : wc.cell? ⟨gb391, 1, none⟩ = some (.slice Ao16 t388.length co16) := (blk_cell BK391.out 1).trans rfl
      have hfz32_0 := blk_frozen BK391.out 0
      have hfz32_1 := blk_frozen BK391.out 1
      obtain ⟨Ao33, co33, eo33⟩ := Kd.R_slice HO_13.out
      subst eo33
      go_wp2
      go_ret
      exact ⟨by first | rfl | (simp [errW_none, errW_some] <;> rfl) | (simp [*, errW_none, errW_some] <;> rfl), by repeat (first | (with_reducible first | exact HB.out | apply below_alloc | apply pw_below_drewN | apply below_drew1 | refine below_set ?_ GE391.out) | exact HB.out)⟩
    ·rw [if_neg c26] at H
     have c26b0 : (t387 == 0) = false := beq_eq_false_iff_ne.mpr c26
     have c26b1 : (t387 != 0) = true := bne_iff_ne.mpr c26
     obtain rfl := Option.some.inj H
     have hcz34_0 : wc.cell? ⟨gb391, 0, none⟩ = some (.int .i64 t387) := (blk_cell BK391.out 0).trans rfl
     have hcz34_1 : wc.cell? ⟨gb391, 1, none⟩ = some (.slice Ao16 t388.length co16) := (blk_cell BK391.out 1).trans rfl
     have hfz34_0 := blk_frozen BK391.out 0
     have hfz34_1 := blk_frozen BK391.out 1
     go_wp2
     go_ret
     exact ⟨by first | rfl | (simp [errW_none, errW_some] <;> rfl) | (simp [*, errW_none, errW_some] <;> rfl), by repeat (first | (with_reducible first | exact HB.out | apply below_alloc | apply pw_below_drewN | apply below_drew1 | refine below_set ?_ GE391.out) | exact HB.out)⟩
   ·replace c25 := Bool.eq_false_iff.mpr c25
    subst c25
    have H1 : (if ([] : List (S27)).length + t388.length < 8796093022208 then ((some (([] : List (S27)) ++ t388 : List (S27))).bind fun y399 => ((intervalmonref01_Around.f a2 t387).bind fun t402 => ((intervalmonref01_Around.f a3 t387).bind fun t403 => ((some (([(⟨t402, t403⟩ : S27)] : List (S27)) : List (S27))).bind fun y404 => (if y399.length + y404.length < 8796093022208 then ((some (y399 ++ y404 : List (S27))).bind fun y407 => ((route_Inhibited.f kj9 t387 y407 t392).bind fun t411 => (intervalmonlaw29_RouteMonotone.l0 kj9 a4 t392 t395 t411 0 t387 t388 t387 y407))) else (none)))))) else (none)) = some r := by rw [if_neg (show ¬ (false = true) by decide)] at H; exact H
    clear H
    have H := H1
    clear H1
    by_cases c35 : ([] : List (S27)).length + t388.length < 8796093022208
    ·rw [if_pos c35] at H
     have LMc35 := Aside0.mk c35
     clear c35
     obtain ⟨y399, hy399⟩ : ∃ y_ : List (S27), y_ = (([] : List (S27)) ++ t388) := ⟨_, rfl⟩
     replace H : ((intervalmonref01_Around.f a2 t387).bind fun t402 => ((intervalmonref01_Around.f a3 t387).bind fun t403 => ((some (([(⟨t402, t403⟩ : S27)] : List (S27)) : List (S27))).bind fun y404 => (if y399.length + y404.length < 8796093022208 then ((some (y399 ++ y404 : List (S27))).bind fun y407 => ((route_Inhibited.f kj9 t387 y407 t392).bind fun t411 => (intervalmonlaw29_RouteMonotone.l0 kj9 a4 t392 t395 t411 0 t387 t388 t387 y407))) else (none))))) = some r := by first | (rw [hy399]; with_reducible exact H) | (have H2_ := (Option.bind_some _ _).symm.trans H; rw [hy399]; with_reducible exact H2_) | (have H2_ := (Option.bind_some _ _).symm.trans H; with_reducible exact H2_) | with_reducible exact H | (rw [hy399]; exact H) | exact H
     have Ny399 := Aside0.mk hy399
     clear hy399
     replace H := Option.bind_eq_some_iff.mp H
     obtain ⟨t402, A360, H⟩ := H
     replace H : ((intervalmonref01_Around.f a3 t387).bind fun t403 => ((some (([(⟨t402, t403⟩ : S27)] : List (S27)) : List (S27))).bind fun y404 => (if y399.length + y404.length < 8796093022208 then ((some (y399 ++ y404 : List (S27))).bind fun y407 => ((route_Inhibited.f kj9 t387 y407 t392).bind fun t411 => (intervalmonlaw29_RouteMonotone.l0 kj9 a4 t392 t395 t411 0 t387 t388 t387 y407))) else (none)))) = some r := H
     have A36 := Aside0.mk A360
     clear A360
     replace H := Option.bind_eq_some_iff.mp H
     obtain ⟨t403, A370, H⟩ := H
     replace H : ((some (([(⟨t402, t403⟩ : S27)] : List (S27)) : List (S27))).bind fun y404 => (if y399.length + y404.length < 8796093022208 then ((some (y399 ++ y404 : List (S27))).bind fun y407 => ((route_Inhibited.f kj9 t387 y407 t392).bind fun t411 => (intervalmonlaw29_RouteMonotone.l0 kj9 a4 t392 t395 t411 0 t387 t388 t387 y407))) else (none))) = some r := H
     have A37 := Aside0.mk A370
     clear A370
     obtain ⟨y404, hy404⟩ : ∃ y_ : List (S27), y_ = (([(⟨t402, t403⟩ : S27)] : List (S27))) := ⟨_, rfl⟩
     replace H : (if y399.length + y404.length < 8796093022208 then ((some (y399 ++ y404 : List (S27))).bind fun y407 => ((route_Inhibited.f kj9 t387 y407 t392).bind fun t411 => (intervalmonlaw29_RouteMonotone.l0 kj9 a4 t392 t395 t411 0 t387 t388 t387 y407))) else (none)) = some r := by first | (rw [hy404]; with_reducible exact H) | (have H2_ := (Option.bind_some _ _).symm.trans H; rw [hy404]; with_reducible exact H2_) | (have H2_ := (Option.bind_some _ _).symm.trans H; with_reducible exact H2_) | with_reducible exact H | (rw [hy404]; exact H) | exact H
     have Ny404 := Aside0.mk hy404
     clear hy404
     by_cases c38 : y399.length + y404.length < 8796093022208
     ·rw [if_pos c38] at H
      have LMc38 := Aside0.mk c38
      clear c38
      obtain ⟨y407, hy407⟩ : ∃ y_ : List (S27), y_ = (y399 ++ y404) := ⟨_, rfl⟩
      replace H : ((route_Inhibited.f kj9 t387 y407 t392).bind fun t411 => (intervalmonlaw29_RouteMonotone.l0 kj9 a4 t392 t395 t411 0 t387 t388 t387 y407)) = some r := by first | (rw [hy407]; with_reducible exact H) | (have H2_ := (Option.bind_some _ _).symm.trans H; rw [hy407]; with_reducible exact H2_) | (have H2_ := (Option.bind_some _ _).symm.trans H; with_reducible exact H2_) | with_reducible exact H | (rw [hy407]; exact H) | exact H
      have Ny407 := Aside0.mk hy407
      clear hy407
      replace H := Option.bind_eq_some_iff.mp H
      obtain ⟨t411, A390, H⟩ := H
      replace H : (intervalmonlaw29_RouteMonotone.l0 kj9 a4 t392 t395 t411 0 t387 t388 t387 y407) = some r := H
      have A39 := Aside0.mk A390
      clear A390
      have H' := Aside0.mk H
      clear H
      have hcz40_0 : wc.cell? ⟨gb391, 0, none⟩ = some (.int .i64 t387) := (blk_cell BK391.out 0).trans rfl
      have hcz40_1 : wc.cell? ⟨gb391, 1, none⟩ = some (.slice Ao16 t388.length co16) := (blk_cell BK391.out 1).trans rfl
      have hfz40_0 := blk_frozen BK391.out 0
      have hfz40_1 := blk_frozen BK391.out 1
      try go_wp2_with (first | ((with_reducible refine gate_builtin (b := .append) (xs := #[.tmp 52, .tmp 54]) rfl ?_); (try (refine gate_guard (by rfl) ?_; dsimp only)); at_builtin; refine Kd.R_append_rows k27 (w0 := w) w.heap.size rfl (.tmp 52) (.tmp 54) 23 27 (.agg #[(.int .i64 0), (.int .i64 0)]) 16 rfl Try.underlying23 info27 rfl (by decide) (by omega) (.slice none 0 0) ([] : List (S27)) t388 _ _ _ (fun _ => True) (fun _ => False) rfl rfl ?aO ?aR (fun _ _ h => h) (fun _ h => h.elim) ?aF ?aB ?aS ?aL ?_; (case aR => repeat (first | exact (Kd.V_reads' HO_392001.out).2.2 | (with_reducible refine Kd.C_alloc ?_ _) | (with_reducible refine Kd.C_drewN ?_ _) | (with_reducible refine Kd.C_drew ?_))); (case aB => exact (hq HB)); (case aF => exact (fun _ _ => trivial)); (case aO => exact ((Kd.R_nil _ _ _ _ (fun _ => True)))); (case aS => exact (below_size (hq HB))); (case aL => have := LMc35.out; omega); intro v400 w41 ho hb hg hat; rw [← Ny399.out] at ho; have n0_ := Aside0.mk (Kd.R_grown (rq HO_12) hg (fun _ _ => by simp [Value.ownBlock])); have n1_ := Aside0.mk (Kd.R_grown (rq HO_13) hg (fun _ _ => by simp [Value.ownBlock])); have n2_ := Aside0.mk (Kd.V_afterv (Kd.V_apart_nil (vq HO_392001)) hg hat); have n3_ := Aside0.mk (blk_grown (g := gb391) (o := .cells #[.int .i64 t387, .slice Ao16 t388.length co16] 31 (0, 0)) (bq BK391) hg (by simp [Value.ownBlock])); have n4_ := Aside0.mk (hb); have n5_ := Aside0.mk (ho); clear HO_12; clear HO_13; clear HO_392001; clear BK391; clear HB; have HO_12 := n0_; have HO_13 := n1_; have HO_392001 := n2_; have BK391 := n3_; have HB := n4_; have HO401 := n5_; clear n0_ n1_ n2_ n3_ n4_ n5_; clear ho hb hg hat; obtain ⟨Ao42, co42, eo42⟩ := Kd.R_slice HO401.out; subst eo42))
      have n0_ := Aside0.mk (Kd.R_drew HO_12.out)
      have n1_ := Aside0.mk (Kd.R_drew HO_13.out)
      have n2_ := Aside0.mk (Kd.V_drew HO_392001.out)
      have n3_ := Aside0.mk (Kd.R_drew HO401.out)
      have n4_ := Aside0.mk (blk_drew BK391.out)
      have n5_ := Aside0.mk (below_drew1 HB.out)
      clear HO_12
      clear HO_13
      clear HO_392001
      clear HO401
      clear BK391
      clear HB
      have HO_12 := n0_
      have HO_13 := n1_
      have HO_392001 := n2_
      have HO401 := n3_
      have BK391 := n4_
      have HB := n5_
      clear n0_ n1_ n2_ n3_ n4_ n5_
      refine start_ (n := 17) (S := fun w' => w'.cell? ⟨gb391, 0, none⟩ = some (.int .i64 t387) ∧ w'.cell? ⟨gb391, 1, none⟩ = some (.slice Ao16 t388.length co16)) (ds := []) #[false, false, false, false, false, false, false, false, false, false, false, false, false, false, false, false, false] (by kernel_rfl) rfl rfl ⟨(blk_cell BK391.out 0).trans rfl, (blk_cell BK391.out 1).trans rfl⟩ (fun hHeld => ?_); refine with_tabW intervalmonlaw29_RouteMonotone.tab8 intervalmonlaw29_RouteMonotone.bits8 (fun HT_ HW_ => ?_)
      generalize w41.drew = w43 at HO_12 HO_13 HO_392001 HO401 BK391 HB hHeld ⊢
      refine pure_ (i := 0) (N := some 56) (v := ?_) (a' := ?_) #[true, false, false, false, false, false, false, false, false, false, false, false, false, false, false, false, false] rfl rfl (any_of HT_.out (by kernel_rfl)) (fun _ _ _ h => h) (Or.inl ⟨by rfl, ?_⟩) ?_ ?_
      rotate_left
      ·intro w'
       go_simp
       with_reducible rfl
      rotate_left
      ·simp only [Act.put, List.setIfInBounds_toArray, List.set_cons_zero, List.set_cons_succ, i64_w, i32_w]
       rfl
      refine pure_ (i := 2) (N := some 58) (v := ?_) (a' := ?_) #[true, false, true, false, false, false, false, false, false, false, false, false, false, false, false, false, false] rfl rfl (any_of HT_.out (by kernel_rfl)) (fun _ _ _ h => h) (Or.inl ⟨by rfl, ?_⟩) ?_ ?_
      rotate_left
      ·intro w'
       go_simp
       with_reducible rfl
      rotate_left
      ·simp only [Act.put, List.setIfInBounds_toArray, List.set_cons_zero, List.set_cons_succ, i64_w, i32_w]
       rfl
      refine pure_ (i := 3) (N := some 59) (v := ?_) (a' := ?_) #[true, false, true, true, false, false, false, false, false, false, false, false, false, false, false, false, false] rfl rfl (any_of HT_.out (by kernel_rfl)) (fun _ _ _ h => h) (Or.inl ⟨by rfl, ?_⟩) ?_ ?_
      rotate_left
      ·intro w'
       go_simp
       with_reducible rfl
      rotate_left
      ·simp only [Act.put, List.setIfInBounds_toArray, List.set_cons_zero, List.set_cons_succ, i64_w, i32_w]
       rfl
      refine pure_ (i := 4) (N := some 60) (v := ?_) (a' := ?_) #[true, false, true, true, true, false, false, false, false, false, false, false, false, false, false, false, false] rfl rfl (any_of HT_.out (by kernel_rfl)) (fun _ _ _ h => h) (Or.inl ⟨by rfl, ?_⟩) ?_ ?_
      rotate_left
      ·intro w'
       go_simp
       with_reducible rfl
      rotate_left
      ·simp only [Act.put, List.setIfInBounds_toArray, List.set_cons_zero, List.set_cons_succ, i64_w, i32_w]
       rfl
      refine pure_ (i := 7) (N := some 63) (v := ?_) (a' := ?_) #[true, false, true, true, true, false, false, true, false, false, false, false, false, false, false, false, false] rfl rfl (any_of HT_.out (by kernel_rfl)) (fun _ _ _ h => h) (Or.inl ⟨by rfl, ?_⟩) ?_ ?_
      rotate_left
      ·intro w'
       go_simp
       with_reducible rfl
      rotate_left
      ·simp only [Act.put, List.setIfInBounds_toArray, List.set_cons_zero, List.set_cons_succ, i64_w, i32_w]
       rfl
      refine pure_ (i := 8) (N := some 64) (v := ?_) (a' := ?_) #[true, false, true, true, true, false, false, true, true, false, false, false, false, false, false, false, false] rfl rfl (any_of HT_.out (by kernel_rfl)) (fun _ _ _ h => h) (Or.inl ⟨by rfl, ?_⟩) ?_ ?_
      rotate_left
      ·intro w'
       go_simp
       with_reducible rfl
      rotate_left
      ·simp only [Act.put, List.setIfInBounds_toArray, List.set_cons_zero, List.set_cons_succ, i64_w, i32_w]
       rfl
      refine take_ (i := 1) (N := some 57) (v := ?_) (a' := ?_) #[true, true, true, true, true, false, false, true, true, false, false, false, false, false, false, false, false] rfl rfl (take_ofW HT_.out HW_.out (by kernel_rfl)) (fun _ _ _ h => h) (Or.inl ⟨by rfl, ?_⟩) hHeld ?_ ?_
      rotate_left
      ·rintro w' ⟨s0, s1⟩
       go_simp
       with_reducible rfl
      rotate_left
      ·simp only [Act.put, List.setIfInBounds_toArray, List.set_cons_zero, List.set_cons_succ, i64_w, i32_w]
       rfl
      refine take_ (i := 5) (N := some 61) (v := ?_) (a' := ?_) #[true, true, true, true, true, true, false, true, true, false, false, false, false, false, false, false, false] rfl rfl (take_ofW HT_.out HW_.out (by kernel_rfl)) (fun _ _ _ h => h) (Or.inl ⟨by rfl, ?_⟩) hHeld ?_ ?_
      rotate_left
      ·rintro w' ⟨s0, s1⟩
       go_simp
       with_reducible rfl
      rotate_left
      ·simp only [Act.put, List.setIfInBounds_toArray, List.set_cons_zero, List.set_cons_succ, i64_w, i32_w]
       rfl
      refine take_ (i := 9) (N := some 65) (v := ?_) (a' := ?_) #[true, true, true, true, true, true, false, true, true, true, false, false, false, false, false, false, false] rfl rfl (take_ofW HT_.out HW_.out (by kernel_rfl)) (fun _ _ _ h => h) (Or.inl ⟨by rfl, ?_⟩) hHeld ?_ ?_
      rotate_left
      ·rintro w' ⟨s0, s1⟩
       go_simp
       with_reducible rfl
      rotate_left
      ·simp only [Act.put, List.setIfInBounds_toArray, List.set_cons_zero, List.set_cons_succ, i64_w, i32_w]
       rfl
      refine join_ (σ := Value × Value × Nat) 1 #[true, true, true, true, true, true, true, true, true, true, true, true, true, true, true, true, false] (fun s_ => [(62, .int .i64 t402), (66, .int .i64 t403), (68, s_.1), (69, s_.2.1), (15, .pointer (some ⟨s_.2.2, 0, none⟩)), (67, .agg #[.int .i64 t402, .int .i64 t403]), (70, .agg #[.int .i64 t387, s_.2.1])]) (fun s_ w' => (w'.cell? ⟨gb391, 0, none⟩ = some (.int .i64 t387) ∧ w'.cell? ⟨gb391, 1, none⟩ = some (.slice Ao16 t388.length co16)) ∧ (Kd.R k27 27 w' w.heap.size (fun k_ => some k_ ≠ (s_.2.1 : Value).ownBlock) s_.1 y404) ∧ (Kd.R k27 27 w' w.heap.size (fun k_ => some k_ ≠ (s_.1 : Value).ownBlock) s_.2.1 y407) ∧ (Kd.R Kd.bool 4 w' w.heap.size (fun k_ => some k_ ≠ (v396 : Value).ownBlock) (.slice Ao19 t392.length co19) t392) ∧ (Kd.R Kd.bool 4 w' w.heap.size (fun k_ => some k_ ≠ (.slice Ao19 t392.length co19 : Value).ownBlock) v396 t395) ∧ (Kd.V k27 27 w' w.heap.size (fun k_ => some k_ ≠ (s_.1 : Value).ownBlock ∧ some k_ ≠ (s_.2.1 : Value).ownBlock ∧ some k_ ≠ (.slice Ao19 t392.length co19 : Value).ownBlock ∧ some k_ ≠ (v396 : Value).ownBlock ∧ k_ ≠ gb391 ∧ k_ ≠ s_.2.2) (.slice Ao16 t388.length co16) t388) ∧ (w'.heap[gb391]? = some (.cells #[.int .i64 t387, .slice Ao16 t388.length co16] 31 (0, 0))) ∧ (w'.heap[s_.2.2]? = some (.cells #[.int .i64 0, .slice none 0 0] 31 (0, 0))) ∧ (w.heap.size ≤ s_.2.2) ∧ (w.heap.size ≤ s_.2.2) ∧ (gb391 ≠ s_.2.2) ∧ (s_.2.2 ≠ gb391) ∧ (Below w.heap.size w w')) ?_ ?_
      rotate_left
      ·intro hJ6_10_12_13_15
       refine join_ (σ := Value × Value) 2 #[true, true, true, true, true, true, true, true, true, true, true, true, true, true, true, false, false] (fun s_ => [(62, .int .i64 t402), (66, .int .i64 t403), (68, s_.1), (69, s_.2), (67, .agg #[.int .i64 t402, .int .i64 t403]), (70, .agg #[.int .i64 t387, s_.2])]) (fun s_ w' => (w'.cell? ⟨gb391, 0, none⟩ = some (.int .i64 t387) ∧ w'.cell? ⟨gb391, 1, none⟩ = some (.slice Ao16 t388.length co16)) ∧ (Kd.R k27 27 w' w.heap.size (fun k_ => some k_ ≠ (s_.2 : Value).ownBlock) s_.1 y404) ∧ (Kd.R k27 27 w' w.heap.size (fun k_ => some k_ ≠ (s_.1 : Value).ownBlock) s_.2 y407) ∧ (Kd.R Kd.bool 4 w' w.heap.size (fun k_ => some k_ ≠ (v396 : Value).ownBlock) (.slice Ao19 t392.length co19) t392) ∧ (Kd.R Kd.bool 4 w' w.heap.size (fun k_ => some k_ ≠ (.slice Ao19 t392.length co19 : Value).ownBlock) v396 t395) ∧ (Kd.V k27 27 w' w.heap.size (fun k_ => some k_ ≠ (s_.1 : Value).ownBlock ∧ some k_ ≠ (s_.2 : Value).ownBlock ∧ some k_ ≠ (.slice Ao19 t392.length co19 : Value).ownBlock ∧ some k_ ≠ (v396 : Value).ownBlock ∧ k_ ≠ gb391) (.slice Ao16 t388.length co16) t388) ∧ (w'.heap[gb391]? = some (.cells #[.int .i64 t387, .slice Ao16 t388.length co16] 31 (0, 0))) ∧ (Below w.heap.size w w')) ?_ ?_
       rotate_left
       ·intro hJ6_10_12_13
        refine join_ (σ := Value × Nat) 3 #[true, true, true, true, true, true, true, true, true, true, true, true, true, false, false, true, false] (fun s_ => [(62, .int .i64 t402), (66, .int .i64 t403), (68, s_.1), (15, .pointer (some ⟨s_.2, 0, none⟩)), (67, .agg #[.int .i64 t402, .int .i64 t403])]) (fun s_ w' => (w'.cell? ⟨gb391, 0, none⟩ = some (.int .i64 t387) ∧ w'.cell? ⟨gb391, 1, none⟩ = some (.slice Ao16 t388.length co16)) ∧ (Kd.R k27 27 w' w.heap.size (fun k_ => some k_ ≠ (s_.1 : Value).ownBlock) (.slice Ao42 y399.length co42) y399) ∧ (Kd.R k27 27 w' w.heap.size (fun k_ => some k_ ≠ (.slice Ao42 y399.length co42 : Value).ownBlock) s_.1 y404) ∧ (Kd.R Kd.bool 4 w' w.heap.size (fun k_ => some k_ ≠ (v396 : Value).ownBlock) (.slice Ao19 t392.length co19) t392) ∧ (Kd.R Kd.bool 4 w' w.heap.size (fun k_ => some k_ ≠ (.slice Ao19 t392.length co19 : Value).ownBlock) v396 t395) ∧ (Kd.V k27 27 w' w.heap.size (fun k_ => some k_ ≠ (.slice Ao42 y399.length co42 : Value).ownBlock ∧ some k_ ≠ (s_.1 : Value).ownBlock ∧ some k_ ≠ (.slice Ao19 t392.length co19 : Value).ownBlock ∧ some k_ ≠ (v396 : Value).ownBlock ∧ k_ ≠ gb391 ∧ k_ ≠ s_.2) (.slice Ao16 t388.length co16) t388) ∧ (w'.heap[gb391]? = some (.cells #[.int .i64 t387, .slice Ao16 t388.length co16] 31 (0, 0))) ∧ (w'.heap[s_.2]? = some (.cells #[.int .i64 0, .slice none 0 0] 31 (0, 0))) ∧ (w.heap.size ≤ s_.2) ∧ (w.heap.size ≤ s_.2) ∧ (gb391 ≠ s_.2) ∧ (s_.2 ≠ gb391) ∧ (Below w.heap.size w w')) ?_ ?_
        rotate_left
        ·intro hJ6_10_12_15
         refine join_ (σ := Value) 4 #[true, true, true, true, true, true, true, true, true, true, true, true, true, false, false, false, false] (fun s_ => [(62, .int .i64 t402), (66, .int .i64 t403), (68, s_), (67, .agg #[.int .i64 t402, .int .i64 t403])]) (fun s_ w' => (w'.cell? ⟨gb391, 0, none⟩ = some (.int .i64 t387) ∧ w'.cell? ⟨gb391, 1, none⟩ = some (.slice Ao16 t388.length co16)) ∧ (Kd.R k27 27 w' w.heap.size (fun k_ => some k_ ≠ (s_ : Value).ownBlock) (.slice Ao42 y399.length co42) y399) ∧ (Kd.R k27 27 w' w.heap.size (fun k_ => some k_ ≠ (.slice Ao42 y399.length co42 : Value).ownBlock) s_ y404) ∧ (Kd.R Kd.bool 4 w' w.heap.size (fun k_ => some k_ ≠ (v396 : Value).ownBlock) (.slice Ao19 t392.length co19) t392) ∧ (Kd.R Kd.bool 4 w' w.heap.size (fun k_ => some k_ ≠ (.slice Ao19 t392.length co19 : Value).ownBlock) v396 t395) ∧ (Kd.V k27 27 w' w.heap.size (fun k_ => some k_ ≠ (.slice Ao42 y399.length co42 : Value).ownBlock ∧ some k_ ≠ (s_ : Value).ownBlock ∧ some k_ ≠ (.slice Ao19 t392.length co19 : Value).ownBlock ∧ some k_ ≠ (v396 : Value).ownBlock ∧ k_ ≠ gb391) (.slice Ao16 t388.length co16) t388) ∧ (w'.heap[gb391]? = some (.cells #[.int .i64 t387, .slice Ao16 t388.length co16] 31 (0, 0))) ∧ (Below w.heap.size w w')) ?_ ?_
         rotate_left
         ·intro hJ6_10_12
          refine join_ (σ := Nat) 4 #[true, true, true, true, true, true, true, true, true, true, true, true, false, false, false, true, false] (fun s_ => [(62, .int .i64 t402), (66, .int .i64 t403), (15, .pointer (some ⟨s_, 0, none⟩)), (67, .agg #[.int .i64 t402, .int .i64 t403])]) (fun s_ w' => (w'.cell? ⟨gb391, 0, none⟩ = some (.int .i64 t387) ∧ w'.cell? ⟨gb391, 1, none⟩ = some (.slice Ao16 t388.length co16)) ∧ (Kd.R k27 27 w' w.heap.size (fun _ => True) (.slice Ao42 y399.length co42) y399) ∧ (Kd.R Kd.bool 4 w' w.heap.size (fun k_ => some k_ ≠ (v396 : Value).ownBlock) (.slice Ao19 t392.length co19) t392) ∧ (Kd.R Kd.bool 4 w' w.heap.size (fun k_ => some k_ ≠ (.slice Ao19 t392.length co19 : Value).ownBlock) v396 t395) ∧ (Kd.V k27 27 w' w.heap.size (fun k_ => some k_ ≠ (.slice Ao42 y399.length co42 : Value).ownBlock ∧ some k_ ≠ (.slice Ao19 t392.length co19 : Value).ownBlock ∧ some k_ ≠ (v396 : Value).ownBlock ∧ k_ ≠ gb391 ∧ k_ ≠ s_) (.slice Ao16 t388.length co16) t388) ∧ (w'.heap[gb391]? = some (.cells #[.int .i64 t387, .slice Ao16 t388.length co16] 31 (0, 0))) ∧ (w'.heap[s_]? = some (.cells #[.int .i64 0, .slice none 0 0] 31 (0, 0))) ∧ (w.heap.size ≤ s_) ∧ (w.heap.size ≤ s_) ∧ (gb391 ≠ s_) ∧ (s_ ≠ gb391) ∧ (Below w.heap.size w w')) ?_ ?_
          rotate_left
          ·intro hJ6_10_15
           refine join_ (σ := Unit) 5 #[true, true, true, true, true, true, true, true, true, true, true, true, false, false, false, false, false] (fun s_ => [(62, .int .i64 t402), (66, .int .i64 t403), (67, .agg #[.int .i64 t402, .int .i64 t403])]) (fun s_ w' => (w'.cell? ⟨gb391, 0, none⟩ = some (.int .i64 t387) ∧ w'.cell? ⟨gb391, 1, none⟩ = some (.slice Ao16 t388.length co16)) ∧ (Kd.R k27 27 w' w.heap.size (fun _ => True) (.slice Ao42 y399.length co42) y399) ∧ (Kd.R Kd.bool 4 w' w.heap.size (fun k_ => some k_ ≠ (v396 : Value).ownBlock) (.slice Ao19 t392.length co19) t392) ∧ (Kd.R Kd.bool 4 w' w.heap.size (fun k_ => some k_ ≠ (.slice Ao19 t392.length co19 : Value).ownBlock) v396 t395) ∧ (Kd.V k27 27 w' w.heap.size (fun k_ => some k_ ≠ (.slice Ao42 y399.length co42 : Value).ownBlock ∧ some k_ ≠ (.slice Ao19 t392.length co19 : Value).ownBlock ∧ some k_ ≠ (v396 : Value).ownBlock ∧ k_ ≠ gb391) (.slice Ao16 t388.length co16) t388) ∧ (w'.heap[gb391]? = some (.cells #[.int .i64 t387, .slice Ao16 t388.length co16] 31 (0, 0))) ∧ (Below w.heap.size w w')) ?_ ?_
           rotate_left
           ·intro hJ6_10
            refine join_ (σ := Nat) 6 #[true, true, true, true, true, true, true, true, true, true, false, false, false, false, false, true, false] (fun s_ => [(62, .int .i64 t402), (15, .pointer (some ⟨s_, 0, none⟩))]) (fun s_ w' => (w'.cell? ⟨gb391, 0, none⟩ = some (.int .i64 t387) ∧ w'.cell? ⟨gb391, 1, none⟩ = some (.slice Ao16 t388.length co16)) ∧ (Kd.R k27 27 w' w.heap.size (fun _ => True) (.slice Ao42 y399.length co42) y399) ∧ (Kd.R Kd.bool 4 w' w.heap.size (fun k_ => some k_ ≠ (v396 : Value).ownBlock) (.slice Ao19 t392.length co19) t392) ∧ (Kd.R Kd.bool 4 w' w.heap.size (fun k_ => some k_ ≠ (.slice Ao19 t392.length co19 : Value).ownBlock) v396 t395) ∧ (Kd.V k27 27 w' w.heap.size (fun k_ => some k_ ≠ (.slice Ao42 y399.length co42 : Value).ownBlock ∧ some k_ ≠ (.slice Ao19 t392.length co19 : Value).ownBlock ∧ some k_ ≠ (v396 : Value).ownBlock ∧ k_ ≠ gb391 ∧ k_ ≠ s_) (.slice Ao16 t388.length co16) t388) ∧ (w'.heap[gb391]? = some (.cells #[.int .i64 t387, .slice Ao16 t388.length co16] 31 (0, 0))) ∧ (w'.heap[s_]? = some (.cells #[.int .i64 0, .slice none 0 0] 31 (0, 0))) ∧ (w.heap.size ≤ s_) ∧ (w.heap.size ≤ s_) ∧ (gb391 ≠ s_) ∧ (s_ ≠ gb391) ∧ (Below w.heap.size w w')) ?_ ?_
            rotate_left
            ·intro hJ6_15
             refine join_ (σ := Unit) 7 #[true, true, true, true, true, true, true, true, true, true, false, false, false, false, false, false, false] (fun s_ => [(62, .int .i64 t402)]) (fun s_ w' => (w'.cell? ⟨gb391, 0, none⟩ = some (.int .i64 t387) ∧ w'.cell? ⟨gb391, 1, none⟩ = some (.slice Ao16 t388.length co16)) ∧ (Kd.R k27 27 w' w.heap.size (fun _ => True) (.slice Ao42 y399.length co42) y399) ∧ (Kd.R Kd.bool 4 w' w.heap.size (fun k_ => some k_ ≠ (v396 : Value).ownBlock) (.slice Ao19 t392.length co19) t392) ∧ (Kd.R Kd.bool 4 w' w.heap.size (fun k_ => some k_ ≠ (.slice Ao19 t392.length co19 : Value).ownBlock) v396 t395) ∧ (Kd.V k27 27 w' w.heap.size (fun k_ => some k_ ≠ (.slice Ao42 y399.length co42 : Value).ownBlock ∧ some k_ ≠ (.slice Ao19 t392.length co19 : Value).ownBlock ∧ some k_ ≠ (v396 : Value).ownBlock ∧ k_ ≠ gb391) (.slice Ao16 t388.length co16) t388) ∧ (w'.heap[gb391]? = some (.cells #[.int .i64 t387, .slice Ao16 t388.length co16] 31 (0, 0))) ∧ (Below w.heap.size w w')) ?_ ?_
             rotate_left
             ·intro hJ6
              refine join_ (σ := Nat) 7 #[true, true, true, true, true, true, false, true, true, true, false, false, false, false, false, true, false] (fun s_ => [(15, .pointer (some ⟨s_, 0, none⟩))]) (fun s_ w' => (w'.cell? ⟨gb391, 0, none⟩ = some (.int .i64 t387) ∧ w'.cell? ⟨gb391, 1, none⟩ = some (.slice Ao16 t388.length co16)) ∧ (Kd.R k27 27 w' w.heap.size (fun _ => True) (.slice Ao42 y399.length co42) y399) ∧ (Kd.R Kd.bool 4 w' w.heap.size (fun k_ => some k_ ≠ (v396 : Value).ownBlock) (.slice Ao19 t392.length co19) t392) ∧ (Kd.R Kd.bool 4 w' w.heap.size (fun k_ => some k_ ≠ (.slice Ao19 t392.length co19 : Value).ownBlock) v396 t395) ∧ (Kd.V k27 27 w' w.heap.size (fun k_ => some k_ ≠ (.slice Ao42 y399.length co42 : Value).ownBlock ∧ some k_ ≠ (.slice Ao19 t392.length co19 : Value).ownBlock ∧ some k_ ≠ (v396 : Value).ownBlock ∧ k_ ≠ gb391 ∧ k_ ≠ s_) (.slice Ao16 t388.length co16) t388) ∧ (w'.heap[gb391]? = some (.cells #[.int .i64 t387, .slice Ao16 t388.length co16] 31 (0, 0))) ∧ (w'.heap[s_]? = some (.cells #[.int .i64 0, .slice none 0 0] 31 (0, 0))) ∧ (w.heap.size ≤ s_) ∧ (w.heap.size ≤ s_) ∧ (gb391 ≠ s_) ∧ (s_ ≠ gb391) ∧ (Below w.heap.size w w')) ?_ ?_
              rotate_left
              ·intro hJ15
               refine two_ (i := 6) (j := 15) (Ni := some 62) (Nj := some 15) #[true, true, true, true, true, true, true, true, true, true, false, false, false, false, false, false, false] #[true, true, true, true, true, true, false, true, true, true, false, false, false, false, false, true, false] rfl rfl rfl rfl (two_of HT_.out (by kernel_rfl)) (by decide) (by decide) (fun K hK => ?_) (fun K hK => ?_)
               ·skip
                refine goes_ Try.func13 (by kernel_rfl) rfl #[.int .i64 a2, .int .i64 t387] (by rfl) rfl rfl aq ?_
                with_reducible refine (intervalmonref01_Around.calls a2 t387 t402 _ A36.out).mono ?_
                rintro e w' ⟨rfl, ⟨nd, rfl⟩⟩
                refine ⟨_, rfl, ?_⟩
                refine hK.out _ _ ⟨(blk_cell BK391.out 0).trans rfl, (blk_cell BK391.out 1).trans rfl⟩ (fun hHeld => ?_)
                clear hK K
                refine norm_ (a' := ?_) ?_ ?_
                rotate_left
                ·show Act.put _ (some 62) _ = _
                 simp only [Act.put, List.setIfInBounds_toArray, List.set_cons_zero, List.set_cons_succ, i64_w, i32_w]
                 rfl
                exact norm_ (by first | (simp only [putAll, Act.put, List.setIfInBounds_toArray, List.set_cons_zero, List.set_cons_succ]; done) | (simp only [putAll, Act.put, List.setIfInBounds_toArray, List.set_cons_zero, List.set_cons_succ]; rfl)) (hJ6 () _ ⟨hHeld, (rq HO401), (rq HO_12), (rq HO_13), (by (with_reducible repeat (first | apply Kd.V_alloc | apply Kd.V_drewN | apply Kd.V_drew)); exact Kd.V_mono HO_392001.out (fun _ hk => ⟨hk.2, ⟨hk.1.1, ⟨hk.1.2.1, hk.1.2.2⟩⟩⟩)), (bq BK391), (hq HB)⟩)
               ·skip
                refine box_step ?hg (N := 15) ?hd (cs := #[.int .i64 0, .slice none 0 0]) (t := 31) ?hr ?_; (case hd => rfl); (case hg => rfl); (case hr => first | (go_simp; done) | (go_simp; rfl))
                intro gb410 hg w44 hbox hb
                have n0_ := Aside0.mk (Kd.R_below (rq HO_12) hb)
                have n1_ := Aside0.mk (Kd.R_below (rq HO_13) hb)
                have n2_ := Aside0.mk (Kd.V_below (Kd.V_elderB (vq HO_392001) gb410 (Nat.le_of_eq hg.symm)) hb)
                have n3_ := Aside0.mk (Kd.R_below (rq HO401) hb)
                have n4_ := Aside0.mk (blk_below (g := gb391) (o := .cells #[.int .i64 t387, .slice Ao16 t388.length co16] 31 (0, 0)) (bq BK391) hb)
                have n5_ := Aside0.mk (below_step (hq HB) hb)
                have n6_ := Aside0.mk (hbox)
                have n7_ := Aside0.mk ((by rw [hg]; exact (below_size (hq HB)) : w.heap.size ≤ gb410))
                have n8_ := Aside0.mk ((by rw [hg]; exact (below_size (hq HB)) : w.heap.size ≤ gb410))
                have n9_ := Aside0.mk ((by rw [hg]; exact Nat.ne_of_lt (blk_lt (g := gb391) (o := .cells #[.int .i64 t387, .slice Ao16 t388.length co16] 31 (0, 0)) (bq BK391)) : gb391 ≠ gb410))
                have n10_ := Aside0.mk ((by rw [hg]; exact Nat.ne_of_gt (blk_lt (g := gb391) (o := .cells #[.int .i64 t387, .slice Ao16 t388.length co16] 31 (0, 0)) (bq BK391)) : gb410 ≠ gb391))
                clear HO_12
                clear HO_13
                clear HO_392001
                clear HO401
                clear BK391
                clear HB
                have HO_12 := n0_
                have HO_13 := n1_
                have HO_392001 := n2_
                have HO401 := n3_
                have BK391 := n4_
                have HB := n5_
                have BK410 := n6_
                have GW410 := n7_
                have GE410 := n8_
                have NB391_410 := n9_
                have NB410_391 := n10_
                clear n0_ n1_ n2_ n3_ n4_ n5_ n6_ n7_ n8_ n9_ n10_
                clear hb hbox hg
                refine hK.out _ _ ⟨(blk_cell BK391.out 0).trans rfl, (blk_cell BK391.out 1).trans rfl⟩ (fun hHeld => ?_)
                clear hK K
                refine norm_ (a' := ?_) ?_ ?_
                rotate_left
                ·show Act.put _ (some 15) _ = _
                 simp only [Act.put, List.setIfInBounds_toArray, List.set_cons_zero, List.set_cons_succ, i64_w, i32_w]
                 rfl
                exact norm_ (by first | (simp only [putAll, Act.put, List.setIfInBounds_toArray, List.set_cons_zero, List.set_cons_succ]; done) | (simp only [putAll, Act.put, List.setIfInBounds_toArray, List.set_cons_zero, List.set_cons_succ]; rfl)) (hJ15 (gb410) _ ⟨hHeld, (rq HO401), (rq HO_12), (rq HO_13), (by (with_reducible repeat (first | apply Kd.V_alloc | apply Kd.V_drewN | apply Kd.V_drew)); exact Kd.V_mono HO_392001.out (fun _ hk => ⟨hk.1.2, ⟨hk.1.1.1, ⟨hk.1.1.2.1, ⟨hk.1.1.2.2, hk.2⟩⟩⟩⟩)), (bq BK391), (bq BK410), GW410.out, GE410.out, NB391_410.out, NB410_391.out, (hq HB)⟩)
              ·skip
               rintro gb410 w45 ⟨hS_, h0_, h1_, h2_, h3_, h4_, h5_, h6_, h7_, h8_, h9_, h10_⟩
               have n0_ : Aside0 (Kd.R k27 27 w45 w.heap.size (fun _ => True) (.slice Ao42 y399.length co42) y399) := ⟨h0_⟩
               have n1_ : Aside0 (Kd.R Kd.bool 4 w45 w.heap.size (fun k_ => some k_ ≠ (v396 : Value).ownBlock) (.slice Ao19 t392.length co19) t392) := ⟨h1_⟩
               have n2_ : Aside0 (Kd.R Kd.bool 4 w45 w.heap.size (fun k_ => some k_ ≠ (.slice Ao19 t392.length co19 : Value).ownBlock) v396 t395) := ⟨h2_⟩
               have n3_ : Aside0 (Kd.V k27 27 w45 w.heap.size (fun k_ => some k_ ≠ (.slice Ao42 y399.length co42 : Value).ownBlock ∧ some k_ ≠ (.slice Ao19 t392.length co19 : Value).ownBlock ∧ some k_ ≠ (v396 : Value).ownBlock ∧ k_ ≠ gb391 ∧ k_ ≠ gb410) (.slice Ao16 t388.length co16) t388) := ⟨h3_⟩
               have n4_ : Aside0 (w45.heap[gb391]? = some (.cells #[.int .i64 t387, .slice Ao16 t388.length co16] 31 (0, 0))) := ⟨h4_⟩
               have n5_ : Aside0 (w45.heap[gb410]? = some (.cells #[.int .i64 0, .slice none 0 0] 31 (0, 0))) := ⟨h5_⟩
               have n6_ : Aside0 (w.heap.size ≤ gb410) := ⟨h6_⟩
               have n7_ : Aside0 (w.heap.size ≤ gb410) := ⟨h7_⟩
               have n8_ : Aside0 (gb391 ≠ gb410) := ⟨h8_⟩
               have n9_ : Aside0 (gb410 ≠ gb391) := ⟨h9_⟩
               have n10_ : Aside0 (Below w.heap.size w w45) := ⟨h10_⟩
               clear HO_12
               clear HO_13
               clear HO_392001
               clear HO401
               clear BK391
               clear HB
               clear h0_ h1_ h2_ h3_ h4_ h5_ h6_ h7_ h8_ h9_ h10_
               have HO401 := n0_
               have HO_12 := n1_
               have HO_13 := n2_
               have HO_392001 := n3_
               have BK391 := n4_
               have BK410 := n5_
               have GW410 := n6_
               have GE410 := n7_
               have NB391_410 := n8_
               have NB410_391 := n9_
               have HB := n10_
               clear n0_ n1_ n2_ n3_ n4_ n5_ n6_ n7_ n8_ n9_ n10_
               have hHeld : w45.cell? ⟨gb391, 0, none⟩ = some (.int .i64 t387) ∧ w45.cell? ⟨gb391, 1, none⟩ = some (.slice Ao16 t388.length co16) := hS_
               refine norm_ (a' := ?_) ?_ ?_
               rotate_left
               ·simp only [putAll, Act.put, List.setIfInBounds_toArray, List.set_cons_zero, List.set_cons_succ]
                rfl
               refine one_ (i := 6) (N := some 62) #[true, true, true, true, true, true, true, true, true, true, false, false, false, false, false, true, false] rfl rfl (one_of HT_.out (by kernel_rfl)) (by decide) (fun K hK => ?_)
               refine goes_ Try.func13 (by kernel_rfl) rfl #[.int .i64 a2, .int .i64 t387] (by rfl) rfl rfl aq ?_
               with_reducible refine (intervalmonref01_Around.calls a2 t387 t402 _ A36.out).mono ?_
               rintro e w' ⟨rfl, ⟨nd, rfl⟩⟩
               refine ⟨_, rfl, ?_⟩
               refine hK.out _ _ ⟨(blk_cell BK391.out 0).trans rfl, (blk_cell BK391.out 1).trans rfl⟩ (fun hHeld => ?_)
               clear hK K
               refine norm_ (a' := ?_) ?_ ?_
               rotate_left
               ·show Act.put _ (some 62) _ = _
                simp only [Act.put, List.setIfInBounds_toArray, List.set_cons_zero, List.set_cons_succ, i64_w, i32_w]
                rfl
               exact norm_ (by first | (simp only [putAll, Act.put, List.setIfInBounds_toArray, List.set_cons_zero, List.set_cons_succ]; done) | (simp only [putAll, Act.put, List.setIfInBounds_toArray, List.set_cons_zero, List.set_cons_succ]; rfl)) (hJ6_15 (gb410) _ ⟨hHeld, (rq HO401), (rq HO_12), (rq HO_13), (vq HO_392001), (bq BK391), (bq BK410), GW410.out, GE410.out, NB391_410.out, NB410_391.out, (hq HB)⟩)
             ·skip
              rintro _ w44 ⟨hS_, h0_, h1_, h2_, h3_, h4_, h5_⟩
              have n0_ : Aside0 (Kd.R k27 27 w44 w.heap.size (fun _ => True) (.slice Ao42 y399.length co42) y399) := ⟨h0_⟩
              have n1_ : Aside0 (Kd.R Kd.bool 4 w44 w.heap.size (fun k_ => some k_ ≠ (v396 : Value).ownBlock) (.slice Ao19 t392.length co19) t392) := ⟨h1_⟩
              have n2_ : Aside0 (Kd.R Kd.bool 4 w44 w.heap.size (fun k_ => some k_ ≠ (.slice Ao19 t392.length co19 : Value).ownBlock) v396 t395) := ⟨h2_⟩
              have n3_ : Aside0 (Kd.V k27 27 w44 w.heap.size (fun k_ => some k_ ≠ (.slice Ao42 y399.length co42 : Value).ownBlock ∧ some k_ ≠ (.slice Ao19 t392.length co19 : Value).ownBlock ∧ some k_ ≠ (v396 : Value).ownBlock ∧ k_ ≠ gb391) (.slice Ao16 t388.length co16) t388) := ⟨h3_⟩
              have n4_ : Aside0 (w44.heap[gb391]? = some (.cells #[.int .i64 t387, .slice Ao16 t388.length co16] 31 (0, 0))) := ⟨h4_⟩
              have n5_ : Aside0 (Below w.heap.size w w44) := ⟨h5_⟩
              clear HO_12
              clear HO_13
              clear HO_392001
              clear HO401
              clear BK391
              clear HB
              clear h0_ h1_ h2_ h3_ h4_ h5_
              have HO401 := n0_
              have HO_12 := n1_
              have HO_13 := n2_
              have HO_392001 := n3_
              have BK391 := n4_
              have HB := n5_
              clear n0_ n1_ n2_ n3_ n4_ n5_
              have hHeld : w44.cell? ⟨gb391, 0, none⟩ = some (.int .i64 t387) ∧ w44.cell? ⟨gb391, 1, none⟩ = some (.slice Ao16 t388.length co16) := hS_
              refine norm_ (a' := ?_) ?_ ?_
              rotate_left
              ·simp only [putAll, Act.put, List.setIfInBounds_toArray, List.set_cons_zero, List.set_cons_succ]
               rfl
              refine two_ (i := 10) (j := 15) (Ni := some 66) (Nj := some 15) #[true, true, true, true, true, true, true, true, true, true, true, false, false, false, false, false, false] #[true, true, true, true, true, true, true, true, true, true, false, false, false, false, false, true, false] rfl rfl rfl rfl (two_of HT_.out (by kernel_rfl)) (by decide) (by decide) (fun K hK => ?_) (fun K hK => ?_)
              ·skip
               refine goes_ Try.func13 (by kernel_rfl) rfl #[.int .i64 a3, .int .i64 t387] (by rfl) rfl rfl aq ?_
               with_reducible refine (intervalmonref01_Around.calls a3 t387 t403 _ A37.out).mono ?_
               rintro e w' ⟨rfl, ⟨nd, rfl⟩⟩
               refine ⟨_, rfl, ?_⟩
               refine hK.out _ _ ⟨(blk_cell BK391.out 0).trans rfl, (blk_cell BK391.out 1).trans rfl⟩ (fun hHeld => ?_)
               clear hK K
               refine norm_ (a' := ?_) ?_ ?_
               rotate_left
               ·show Act.put _ (some 66) _ = _
                simp only [Act.put, List.setIfInBounds_toArray, List.set_cons_zero, List.set_cons_succ, i64_w, i32_w]
                rfl
               refine pure_ (i := 11) (N := some 67) (v := ?_) (a' := ?_) #[true, true, true, true, true, true, true, true, true, true, true, true, false, false, false, false, false] rfl rfl (any_of HT_.out (by kernel_rfl)) (fun _ _ _ h => h) (Or.inl ⟨by rfl, ?_⟩) ?_ ?_
               rotate_left
               ·intro w'
                go_simp
                with_reducible rfl
               rotate_left
               ·simp only [Act.put, List.setIfInBounds_toArray, List.set_cons_zero, List.set_cons_succ, i64_w, i32_w]
                rfl
               exact norm_ (by first | (simp only [putAll, Act.put, List.setIfInBounds_toArray, List.set_cons_zero, List.set_cons_succ]; done) | (simp only [putAll, Act.put, List.setIfInBounds_toArray, List.set_cons_zero, List.set_cons_succ]; rfl)) (hJ6_10 () _ ⟨hHeld, (rq HO401), (rq HO_12), (rq HO_13), (vq HO_392001), (bq BK391), (hq HB)⟩)
              ·skip
               refine box_step ?hg (N := 15) ?hd (cs := #[.int .i64 0, .slice none 0 0]) (t := 31) ?hr ?_; (case hd => rfl); (case hg => rfl); (case hr => first | (go_simp; done) | (go_simp; rfl))
               intro gb410 hg w45 hbox hb
               have n0_ := Aside0.mk (Kd.R_below (rq HO_12) hb)
               have n1_ := Aside0.mk (Kd.R_below (rq HO_13) hb)
               have n2_ := Aside0.mk (Kd.V_below (Kd.V_elderB (vq HO_392001) gb410 (Nat.le_of_eq hg.symm)) hb)
               have n3_ := Aside0.mk (Kd.R_below (rq HO401) hb)
               have n4_ := Aside0.mk (blk_below (g := gb391) (o := .cells #[.int .i64 t387, .slice Ao16 t388.length co16] 31 (0, 0)) (bq BK391) hb)
               have n5_ := Aside0.mk (below_step (hq HB) hb)
               have n6_ := Aside0.mk (hbox)
               have n7_ := Aside0.mk ((by rw [hg]; exact (below_size (hq HB)) : w.heap.size ≤ gb410))
               have n8_ := Aside0.mk ((by rw [hg]; exact (below_size (hq HB)) : w.heap.size ≤ gb410))
               have n9_ := Aside0.mk ((by rw [hg]; exact Nat.ne_of_lt (blk_lt (g := gb391) (o := .cells #[.int .i64 t387, .slice Ao16 t388.length co16] 31 (0, 0)) (bq BK391)) : gb391 ≠ gb410))
               have n10_ := Aside0.mk ((by rw [hg]; exact Nat.ne_of_gt (blk_lt (g := gb391) (o := .cells #[.int .i64 t387, .slice Ao16 t388.length co16] 31 (0, 0)) (bq BK391)) : gb410 ≠ gb391))
               clear HO_12
               clear HO_13
               clear HO_392001
               clear HO401
               clear BK391
               clear HB
               have HO_12 := n0_
               have HO_13 := n1_
               have HO_392001 := n2_
               have HO401 := n3_
               have BK391 := n4_
               have HB := n5_
               have BK410 := n6_
               have GW410 := n7_
               have GE410 := n8_
               have NB391_410 := n9_
               have NB410_391 := n10_
               clear n0_ n1_ n2_ n3_ n4_ n5_ n6_ n7_ n8_ n9_ n10_
               clear hb hbox hg
               refine hK.out _ _ ⟨(blk_cell BK391.out 0).trans rfl, (blk_cell BK391.out 1).trans rfl⟩ (fun hHeld => ?_)
               clear hK K
               refine norm_ (a' := ?_) ?_ ?_
               rotate_left
               ·show Act.put _ (some 15) _ = _
                simp only [Act.put, List.setIfInBounds_toArray, List.set_cons_zero, List.set_cons_succ, i64_w, i32_w]
                rfl
               exact norm_ (by first | (simp only [putAll, Act.put, List.setIfInBounds_toArray, List.set_cons_zero, List.set_cons_succ]; done) | (simp only [putAll, Act.put, List.setIfInBounds_toArray, List.set_cons_zero, List.set_cons_succ]; rfl)) (hJ6_15 (gb410) _ ⟨hHeld, (rq HO401), (rq HO_12), (rq HO_13), (by (with_reducible repeat (first | apply Kd.V_alloc | apply Kd.V_drewN | apply Kd.V_drew)); exact Kd.V_mono HO_392001.out (fun _ hk => ⟨hk.1.1, ⟨hk.1.2.1, ⟨hk.1.2.2.1, ⟨hk.1.2.2.2, hk.2⟩⟩⟩⟩)), (bq BK391), (bq BK410), GW410.out, GE410.out, NB391_410.out, NB410_391.out, (hq HB)⟩)
            ·skip
             rintro gb410 w45 ⟨hS_, h0_, h1_, h2_, h3_, h4_, h5_, h6_, h7_, h8_, h9_, h10_⟩
             have n0_ : Aside0 (Kd.R k27 27 w45 w.heap.size (fun _ => True) (.slice Ao42 y399.length co42) y399) := ⟨h0_⟩
             have n1_ : Aside0 (Kd.R Kd.bool 4 w45 w.heap.size (fun k_ => some k_ ≠ (v396 : Value).ownBlock) (.slice Ao19 t392.length co19) t392) := ⟨h1_⟩
             have n2_ : Aside0 (Kd.R Kd.bool 4 w45 w.heap.size (fun k_ => some k_ ≠ (.slice Ao19 t392.length co19 : Value).ownBlock) v396 t395) := ⟨h2_⟩
             have n3_ : Aside0 (Kd.V k27 27 w45 w.heap.size (fun k_ => some k_ ≠ (.slice Ao42 y399.length co42 : Value).ownBlock ∧ some k_ ≠ (.slice Ao19 t392.length co19 : Value).ownBlock ∧ some k_ ≠ (v396 : Value).ownBlock ∧ k_ ≠ gb391 ∧ k_ ≠ gb410) (.slice Ao16 t388.length co16) t388) := ⟨h3_⟩
             have n4_ : Aside0 (w45.heap[gb391]? = some (.cells #[.int .i64 t387, .slice Ao16 t388.length co16] 31 (0, 0))) := ⟨h4_⟩
             have n5_ : Aside0 (w45.heap[gb410]? = some (.cells #[.int .i64 0, .slice none 0 0] 31 (0, 0))) := ⟨h5_⟩
             have n6_ : Aside0 (w.heap.size ≤ gb410) := ⟨h6_⟩
             have n7_ : Aside0 (w.heap.size ≤ gb410) := ⟨h7_⟩
             have n8_ : Aside0 (gb391 ≠ gb410) := ⟨h8_⟩
             have n9_ : Aside0 (gb410 ≠ gb391) := ⟨h9_⟩
             have n10_ : Aside0 (Below w.heap.size w w45) := ⟨h10_⟩
             clear HO_12
             clear HO_13
             clear HO_392001
             clear HO401
             clear BK391
             clear HB
             clear h0_ h1_ h2_ h3_ h4_ h5_ h6_ h7_ h8_ h9_ h10_
             have HO401 := n0_
             have HO_12 := n1_
             have HO_13 := n2_
             have HO_392001 := n3_
             have BK391 := n4_
             have BK410 := n5_
             have GW410 := n6_
             have GE410 := n7_
             have NB391_410 := n8_
             have NB410_391 := n9_
             have HB := n10_
             clear n0_ n1_ n2_ n3_ n4_ n5_ n6_ n7_ n8_ n9_ n10_
             have hHeld : w45.cell? ⟨gb391, 0, none⟩ = some (.int .i64 t387) ∧ w45.cell? ⟨gb391, 1, none⟩ = some (.slice Ao16 t388.length co16) := hS_
             refine norm_ (a' := ?_) ?_ ?_
             rotate_left
             ·simp only [putAll, Act.put, List.setIfInBounds_toArray, List.set_cons_zero, List.set_cons_succ]
              rfl
             refine one_ (i := 10) (N := some 66) #[true, true, true, true, true, true, true, true, true, true, true, false, false, false, false, true, false] rfl rfl (one_of HT_.out (by kernel_rfl)) (by decide) (fun K hK => ?_)
             refine goes_ Try.func13 (by kernel_rfl) rfl #[.int .i64 a3, .int .i64 t387] (by rfl) rfl rfl aq ?_
             with_reducible refine (intervalmonref01_Around.calls a3 t387 t403 _ A37.out).mono ?_
             rintro e w' ⟨rfl, ⟨nd, rfl⟩⟩
             refine ⟨_, rfl, ?_⟩
             refine hK.out _ _ ⟨(blk_cell BK391.out 0).trans rfl, (blk_cell BK391.out 1).trans rfl⟩ (fun hHeld => ?_)
             clear hK K
             refine norm_ (a' := ?_) ?_ ?_
             rotate_left
             ·show Act.put _ (some 66) _ = _
              simp only [Act.put, List.setIfInBounds_toArray, List.set_cons_zero, List.set_cons_succ, i64_w, i32_w]
              rfl
             refine pure_ (i := 11) (N := some 67) (v := ?_) (a' := ?_) #[true, true, true, true, true, true, true, true, true, true, true, true, false, false, false, true, false] rfl rfl (any_of HT_.out (by kernel_rfl)) (fun _ _ _ h => h) (Or.inl ⟨by rfl, ?_⟩) ?_ ?_
             rotate_left
             ·intro w'
              go_simp
              with_reducible rfl
             rotate_left
             ·simp only [Act.put, List.setIfInBounds_toArray, List.set_cons_zero, List.set_cons_succ, i64_w, i32_w]
              rfl
             exact norm_ (by first | (simp only [putAll, Act.put, List.setIfInBounds_toArray, List.set_cons_zero, List.set_cons_succ]; done) | (simp only [putAll, Act.put, List.setIfInBounds_toArray, List.set_cons_zero, List.set_cons_succ]; rfl)) (hJ6_10_15 (gb410) _ ⟨hHeld, (rq HO401), (rq HO_12), (rq HO_13), (vq HO_392001), (bq BK391), (bq BK410), GW410.out, GE410.out, NB391_410.out, NB410_391.out, (hq HB)⟩)
           ·skip
            rintro _ w44 ⟨hS_, h0_, h1_, h2_, h3_, h4_, h5_⟩
            have n0_ : Aside0 (Kd.R k27 27 w44 w.heap.size (fun _ => True) (.slice Ao42 y399.length co42) y399) := ⟨h0_⟩
            have n1_ : Aside0 (Kd.R Kd.bool 4 w44 w.heap.size (fun k_ => some k_ ≠ (v396 : Value).ownBlock) (.slice Ao19 t392.length co19) t392) := ⟨h1_⟩
            have n2_ : Aside0 (Kd.R Kd.bool 4 w44 w.heap.size (fun k_ => some k_ ≠ (.slice Ao19 t392.length co19 : Value).ownBlock) v396 t395) := ⟨h2_⟩
            have n3_ : Aside0 (Kd.V k27 27 w44 w.heap.size (fun k_ => some k_ ≠ (.slice Ao42 y399.length co42 : Value).ownBlock ∧ some k_ ≠ (.slice Ao19 t392.length co19 : Value).ownBlock ∧ some k_ ≠ (v396 : Value).ownBlock ∧ k_ ≠ gb391) (.slice Ao16 t388.length co16) t388) := ⟨h3_⟩
            have n4_ : Aside0 (w44.heap[gb391]? = some (.cells #[.int .i64 t387, .slice Ao16 t388.length co16] 31 (0, 0))) := ⟨h4_⟩
            have n5_ : Aside0 (Below w.heap.size w w44) := ⟨h5_⟩
            clear HO_12
            clear HO_13
            clear HO_392001
            clear HO401
            clear BK391
            clear HB
            clear h0_ h1_ h2_ h3_ h4_ h5_
            have HO401 := n0_
            have HO_12 := n1_
            have HO_13 := n2_
            have HO_392001 := n3_
            have BK391 := n4_
            have HB := n5_
            clear n0_ n1_ n2_ n3_ n4_ n5_
            have hHeld : w44.cell? ⟨gb391, 0, none⟩ = some (.int .i64 t387) ∧ w44.cell? ⟨gb391, 1, none⟩ = some (.slice Ao16 t388.length co16) := hS_
            refine norm_ (a' := ?_) ?_ ?_
            rotate_left
            ·simp only [putAll, Act.put, List.setIfInBounds_toArray, List.set_cons_zero, List.set_cons_succ]
             rfl
            refine two_ (i := 12) (j := 15) (Ni := some 68) (Nj := some 15) #[true, true, true, true, true, true, true, true, true, true, true, true, true, false, false, false, false] #[true, true, true, true, true, true, true, true, true, true, true, true, false, false, false, true, false] rfl rfl rfl rfl (two_of HT_.out (by kernel_rfl)) (by decide) (by decide) (fun K hK => ?_) (fun K hK => ?_)
            ·skip
             refine Kd.R_lit_step k27 _ 27 ?hg (N := 68) ?hd (xs := ([(⟨t402, t403⟩ : S27)] : List (S27))) (inner := [.int .i64 t402, .int .i64 t403]) (ok := fun _ => True) (okp := fun _ => True) ?hr ?hp (fun _ hk => hk) trivial (Below.refl _ _) (Nat.le_refl _) (by simp) ?_; (case hd => rfl); (case hg => rfl); (case hr => first | (go_simp; done) | (go_simp; rfl)); (case hp => exact (Reps.c2 (show Kd.M k27 _ _ _ (⟨t402, t403⟩ : S27) [.int .i64 t402, .int .i64 t403] from (k27_mkM _ _ _ (⟨t402, t403⟩ : S27) )) (Reps.none _ _)))
             intro v405 w45 ho46 hb hg_ hnew_
             clear hg_ hnew_
             (first | rw [← Ny404.out] at ho46 | (simp only [Int.reduceToNat] at ho46; rw [← Ny404.out] at ho46))
             have n0_ := Aside0.mk (Kd.R_below (rq HO_12) hb)
             have n1_ := Aside0.mk (Kd.R_below (rq HO_13) hb)
             have n2_ := Aside0.mk (Kd.V_elder' (vq HO_392001) (Kd.R_base ho46) hb)
             have n3_ := Aside0.mk (Kd.R_elder' (rq HO401) (Kd.R_base ho46) hb)
             have n4_ := Aside0.mk (Kd.R_lower (Kd.R_new' ho46 (Kd.R_lt (rq HO401))) (below_size (hq HB)))
             have n5_ := Aside0.mk (blk_below (g := gb391) (o := .cells #[.int .i64 t387, .slice Ao16 t388.length co16] 31 (0, 0)) (bq BK391) hb)
             have n6_ := Aside0.mk (below_step (hq HB) hb)
             clear HO_12
             clear HO_13
             clear HO_392001
             clear HO401
             clear BK391
             clear HB
             have HO_12 := n0_
             have HO_13 := n1_
             have HO_392001 := n2_
             have HO401 := n3_
             have HO406 := n4_
             have BK391 := n5_
             have HB := n6_
             clear n0_ n1_ n2_ n3_ n4_ n5_ n6_
             clear hb ho46
             refine hK.out _ _ ⟨(blk_cell BK391.out 0).trans rfl, (blk_cell BK391.out 1).trans rfl⟩ (fun hHeld => ?_)
             clear hK K
             refine norm_ (a' := ?_) ?_ ?_
             rotate_left
             ·show Act.put _ (some 68) _ = _
              simp only [Act.put, List.setIfInBounds_toArray, List.set_cons_zero, List.set_cons_succ, i64_w, i32_w]
              rfl
             exact norm_ (by first | (simp only [putAll, Act.put, List.setIfInBounds_toArray, List.set_cons_zero, List.set_cons_succ]; done) | (simp only [putAll, Act.put, List.setIfInBounds_toArray, List.set_cons_zero, List.set_cons_succ]; rfl)) (hJ6_10_12 (v405) _ ⟨hHeld, (by (with_reducible repeat (first | apply Kd.R_alloc | apply Kd.R_drewN | apply Kd.R_drew)); exact Kd.R_mono HO401.out (fun _ hk => hk.2)), (by (with_reducible repeat (first | apply Kd.R_alloc | apply Kd.R_drewN | apply Kd.R_drew)); exact Kd.R_mono HO406.out (fun _ hk => hk.2)), (rq HO_12), (rq HO_13), (by (with_reducible repeat (first | apply Kd.V_alloc | apply Kd.V_drewN | apply Kd.V_drew)); exact Kd.V_mono HO_392001.out (fun _ hk => ⟨hk.1.1, ⟨hk.2, ⟨hk.1.2.1, ⟨hk.1.2.2.1, hk.1.2.2.2⟩⟩⟩⟩)), (bq BK391), (hq HB)⟩)
            ·skip
             refine box_step ?hg (N := 15) ?hd (cs := #[.int .i64 0, .slice none 0 0]) (t := 31) ?hr ?_; (case hd => rfl); (case hg => rfl); (case hr => first | (go_simp; done) | (go_simp; rfl))
             intro gb410 hg w45 hbox hb
             have n0_ := Aside0.mk (Kd.R_below (rq HO_12) hb)
             have n1_ := Aside0.mk (Kd.R_below (rq HO_13) hb)
             have n2_ := Aside0.mk (Kd.V_below (Kd.V_elderB (vq HO_392001) gb410 (Nat.le_of_eq hg.symm)) hb)
             have n3_ := Aside0.mk (Kd.R_below (rq HO401) hb)
             have n4_ := Aside0.mk (blk_below (g := gb391) (o := .cells #[.int .i64 t387, .slice Ao16 t388.length co16] 31 (0, 0)) (bq BK391) hb)
             have n5_ := Aside0.mk (below_step (hq HB) hb)
             have n6_ := Aside0.mk (hbox)
             have n7_ := Aside0.mk ((by rw [hg]; exact (below_size (hq HB)) : w.heap.size ≤ gb410))
             have n8_ := Aside0.mk ((by rw [hg]; exact (below_size (hq HB)) : w.heap.size ≤ gb410))
             have n9_ := Aside0.mk ((by rw [hg]; exact Nat.ne_of_lt (blk_lt (g := gb391) (o := .cells #[.int .i64 t387, .slice Ao16 t388.length co16] 31 (0, 0)) (bq BK391)) : gb391 ≠ gb410))
             have n10_ := Aside0.mk ((by rw [hg]; exact Nat.ne_of_gt (blk_lt (g := gb391) (o := .cells #[.int .i64 t387, .slice Ao16 t388.length co16] 31 (0, 0)) (bq BK391)) : gb410 ≠ gb391))
             clear HO_12
             clear HO_13
             clear HO_392001
             clear HO401
             clear BK391
             clear HB
             have HO_12 := n0_
             have HO_13 := n1_
             have HO_392001 := n2_
             have HO401 := n3_
             have BK391 := n4_
             have HB := n5_
             have BK410 := n6_
             have GW410 := n7_
             have GE410 := n8_
             have NB391_410 := n9_
             have NB410_391 := n10_
             clear n0_ n1_ n2_ n3_ n4_ n5_ n6_ n7_ n8_ n9_ n10_
             clear hb hbox hg
             refine hK.out _ _ ⟨(blk_cell BK391.out 0).trans rfl, (blk_cell BK391.out 1).trans rfl⟩ (fun hHeld => ?_)
             clear hK K
             refine norm_ (a' := ?_) ?_ ?_
             rotate_left
             ·show Act.put _ (some 15) _ = _
              simp only [Act.put, List.setIfInBounds_toArray, List.set_cons_zero, List.set_cons_succ, i64_w, i32_w]
              rfl
             exact norm_ (by first | (simp only [putAll, Act.put, List.setIfInBounds_toArray, List.set_cons_zero, List.set_cons_succ]; done) | (simp only [putAll, Act.put, List.setIfInBounds_toArray, List.set_cons_zero, List.set_cons_succ]; rfl)) (hJ6_10_15 (gb410) _ ⟨hHeld, (rq HO401), (rq HO_12), (rq HO_13), (by (with_reducible repeat (first | apply Kd.V_alloc | apply Kd.V_drewN | apply Kd.V_drew)); exact Kd.V_mono HO_392001.out (fun _ hk => ⟨hk.1.1, ⟨hk.1.2.1, ⟨hk.1.2.2.1, ⟨hk.1.2.2.2, hk.2⟩⟩⟩⟩)), (bq BK391), (bq BK410), GW410.out, GE410.out, NB391_410.out, NB410_391.out, (hq HB)⟩)
          ·skip
           rintro gb410 w45 ⟨hS_, h0_, h1_, h2_, h3_, h4_, h5_, h6_, h7_, h8_, h9_, h10_⟩
           have n0_ : Aside0 (Kd.R k27 27 w45 w.heap.size (fun _ => True) (.slice Ao42 y399.length co42) y399) := ⟨h0_⟩
           have n1_ : Aside0 (Kd.R Kd.bool 4 w45 w.heap.size (fun k_ => some k_ ≠ (v396 : Value).ownBlock) (.slice Ao19 t392.length co19) t392) := ⟨h1_⟩
           have n2_ : Aside0 (Kd.R Kd.bool 4 w45 w.heap.size (fun k_ => some k_ ≠ (.slice Ao19 t392.length co19 : Value).ownBlock) v396 t395) := ⟨h2_⟩
           have n3_ : Aside0 (Kd.V k27 27 w45 w.heap.size (fun k_ => some k_ ≠ (.slice Ao42 y399.length co42 : Value).ownBlock ∧ some k_ ≠ (.slice Ao19 t392.length co19 : Value).ownBlock ∧ some k_ ≠ (v396 : Value).ownBlock ∧ k_ ≠ gb391 ∧ k_ ≠ gb410) (.slice Ao16 t388.length co16) t388) := ⟨h3_⟩
           have n4_ : Aside0 (w45.heap[gb391]? = some (.cells #[.int .i64 t387, .slice Ao16 t388.length co16] 31 (0, 0))) := ⟨h4_⟩
           have n5_ : Aside0 (w45.heap[gb410]? = some (.cells #[.int .i64 0, .slice none 0 0] 31 (0, 0))) := ⟨h5_⟩
           have n6_ : Aside0 (w.heap.size ≤ gb410) := ⟨h6_⟩
           have n7_ : Aside0 (w.heap.size ≤ gb410) := ⟨h7_⟩
           have n8_ : Aside0 (gb391 ≠ gb410) := ⟨h8_⟩
           have n9_ : Aside0 (gb410 ≠ gb391) := ⟨h9_⟩
           have n10_ : Aside0 (Below w.heap.size w w45) := ⟨h10_⟩
           clear HO_12
           clear HO_13
           clear HO_392001
           clear HO401
           clear BK391
           clear HB
           clear h0_ h1_ h2_ h3_ h4_ h5_ h6_ h7_ h8_ h9_ h10_
           have HO401 := n0_
           have HO_12 := n1_
           have HO_13 := n2_
           have HO_392001 := n3_
           have BK391 := n4_
           have BK410 := n5_
           have GW410 := n6_
           have GE410 := n7_
           have NB391_410 := n8_
           have NB410_391 := n9_
           have HB := n10_
           clear n0_ n1_ n2_ n3_ n4_ n5_ n6_ n7_ n8_ n9_ n10_
           have hHeld : w45.cell? ⟨gb391, 0, none⟩ = some (.int .i64 t387) ∧ w45.cell? ⟨gb391, 1, none⟩ = some (.slice Ao16 t388.length co16) := hS_
           refine norm_ (a' := ?_) ?_ ?_
           rotate_left
           ·simp only [putAll, Act.put, List.setIfInBounds_toArray, List.set_cons_zero, List.set_cons_succ]
            rfl
           refine one_ (i := 12) (N := some 68) #[true, true, true, true, true, true, true, true, true, true, true, true, true, false, false, true, false] rfl rfl (one_of HT_.out (by kernel_rfl)) (by decide) (fun K hK => ?_)
           refine Kd.R_lit_step k27 _ 27 ?hg (N := 68) ?hd (xs := ([(⟨t402, t403⟩ : S27)] : List (S27))) (inner := [.int .i64 t402, .int .i64 t403]) (ok := fun _ => True) (okp := fun _ => True) ?hr ?hp (fun _ hk => hk) trivial (Below.refl _ _) (Nat.le_refl _) (by simp) ?_; (case hd => rfl); (case hg => rfl); (case hr => first | (go_simp; done) | (go_simp; rfl)); (case hp => exact (Reps.c2 (show Kd.M k27 _ _ _ (⟨t402, t403⟩ : S27) [.int .i64 t402, .int .i64 t403] from (k27_mkM _ _ _ (⟨t402, t403⟩ : S27) )) (Reps.none _ _)))
           intro v405 w46 ho47 hb hg_ hnew_
           clear hg_ hnew_
           (first | rw [← Ny404.out] at ho47 | (simp only [Int.reduceToNat] at ho47; rw [← Ny404.out] at ho47))
           have n0_ := Aside0.mk (Kd.R_below (rq HO_12) hb)
           have n1_ := Aside0.mk (Kd.R_below (rq HO_13) hb)
           have n2_ := Aside0.mk (Kd.V_elder' (vq HO_392001) (Kd.R_base ho47) hb)
           have n3_ := Aside0.mk (Kd.R_elder' (rq HO401) (Kd.R_base ho47) hb)
           have n4_ := Aside0.mk (Kd.R_lower (Kd.R_new' ho47 (Kd.R_lt (rq HO401))) (below_size (hq HB)))
           have n5_ := Aside0.mk (blk_below (g := gb391) (o := .cells #[.int .i64 t387, .slice Ao16 t388.length co16] 31 (0, 0)) (bq BK391) hb)
           have n6_ := Aside0.mk (blk_below (g := gb410) (o := .cells #[.int .i64 0, .slice none 0 0] 31 (0, 0)) (bq BK410) hb)
           have n7_ := Aside0.mk (below_step (hq HB) hb)
           clear HO_12
           clear HO_13
           clear HO_392001
           clear HO401
           clear BK391
           clear BK410
           clear HB
           have HO_12 := n0_
           have HO_13 := n1_
           have HO_392001 := n2_
           have HO401 := n3_
           have HO406 := n4_
           have BK391 := n5_
           have BK410 := n6_
           have HB := n7_
           clear n0_ n1_ n2_ n3_ n4_ n5_ n6_ n7_
           clear hb ho47
           refine hK.out _ _ ⟨(blk_cell BK391.out 0).trans rfl, (blk_cell BK391.out 1).trans rfl⟩ (fun hHeld => ?_)
           clear hK K
           refine norm_ (a' := ?_) ?_ ?_
           rotate_left
           ·show Act.put _ (some 68) _ = _
            simp only [Act.put, List.setIfInBounds_toArray, List.set_cons_zero, List.set_cons_succ, i64_w, i32_w]
            rfl
           exact norm_ (by first | (simp only [putAll, Act.put, List.setIfInBounds_toArray, List.set_cons_zero, List.set_cons_succ]; done) | (simp only [putAll, Act.put, List.setIfInBounds_toArray, List.set_cons_zero, List.set_cons_succ]; rfl)) (hJ6_10_12_15 (v405, gb410) _ ⟨hHeld, (by (with_reducible repeat (first | apply Kd.R_alloc | apply Kd.R_drewN | apply Kd.R_drew)); exact Kd.R_mono HO401.out (fun _ hk => hk.2)), (by (with_reducible repeat (first | apply Kd.R_alloc | apply Kd.R_drewN | apply Kd.R_drew)); exact Kd.R_mono HO406.out (fun _ hk => hk.2)), (rq HO_12), (rq HO_13), (by (with_reducible repeat (first | apply Kd.V_alloc | apply Kd.V_drewN | apply Kd.V_drew)); exact Kd.V_mono HO_392001.out (fun _ hk => ⟨hk.1.1, ⟨hk.2, ⟨hk.1.2.1, ⟨hk.1.2.2.1, ⟨hk.1.2.2.2.1, hk.1.2.2.2.2⟩⟩⟩⟩⟩)), (bq BK391), (bq BK410), GW410.out, GE410.out, NB391_410.out, NB410_391.out, (hq HB)⟩)
         ·skip
          rintro v405 w46 ⟨hS_, h0_, h1_, h2_, h3_, h4_, h5_, h6_⟩
          have n0_ : Aside0 (Kd.R k27 27 w46 w.heap.size (fun k_ => some k_ ≠ (v405 : Value).ownBlock) (.slice Ao42 y399.length co42) y399) := ⟨h0_⟩
          have n1_ : Aside0 (Kd.R k27 27 w46 w.heap.size (fun k_ => some k_ ≠ (.slice Ao42 y399.length co42 : Value).ownBlock) v405 y404) := ⟨h1_⟩
          have n2_ : Aside0 (Kd.R Kd.bool 4 w46 w.heap.size (fun k_ => some k_ ≠ (v396 : Value).ownBlock) (.slice Ao19 t392.length co19) t392) := ⟨h2_⟩
          have n3_ : Aside0 (Kd.R Kd.bool 4 w46 w.heap.size (fun k_ => some k_ ≠ (.slice Ao19 t392.length co19 : Value).ownBlock) v396 t395) := ⟨h3_⟩
          have n4_ : Aside0 (Kd.V k27 27 w46 w.heap.size (fun k_ => some k_ ≠ (.slice Ao42 y399.length co42 : Value).ownBlock ∧ some k_ ≠ (v405 : Value).ownBlock ∧ some k_ ≠ (.slice Ao19 t392.length co19 : Value).ownBlock ∧ some k_ ≠ (v396 : Value).ownBlock ∧ k_ ≠ gb391) (.slice Ao16 t388.length co16) t388) := ⟨h4_⟩
          have n5_ : Aside0 (w46.heap[gb391]? = some (.cells #[.int .i64 t387, .slice Ao16 t388.length co16] 31 (0, 0))) := ⟨h5_⟩
          have n6_ : Aside0 (Below w.heap.size w w46) := ⟨h6_⟩
          clear HO_12
          clear HO_13
          clear HO_392001
          clear HO401
          clear BK391
          clear HB
          clear h0_ h1_ h2_ h3_ h4_ h5_ h6_
          have HO401 := n0_
          have HO406 := n1_
          have HO_12 := n2_
          have HO_13 := n3_
          have HO_392001 := n4_
          have BK391 := n5_
          have HB := n6_
          clear n0_ n1_ n2_ n3_ n4_ n5_ n6_
          have hHeld : w46.cell? ⟨gb391, 0, none⟩ = some (.int .i64 t387) ∧ w46.cell? ⟨gb391, 1, none⟩ = some (.slice Ao16 t388.length co16) := hS_
          obtain ⟨Ao48, co48, eo48⟩ := Kd.R_slice HO406.out
          (first | subst eo48 | (injection eo48 with f1_ f2_ f3_; have f4_ := f1_.symm; have f5_ := f3_.symm; clear f1_ f2_ f3_; subst f4_; subst f5_))
          refine norm_ (a' := ?_) ?_ ?_
          rotate_left
          ·simp only [putAll, Act.put, List.setIfInBounds_toArray, List.set_cons_zero, List.set_cons_succ]
           rfl
          refine two_ (i := 13) (j := 15) (Ni := some 69) (Nj := some 15) #[true, true, true, true, true, true, true, true, true, true, true, true, true, true, false, false, false] #[true, true, true, true, true, true, true, true, true, true, true, true, true, false, false, true, false] rfl rfl rfl rfl (two_of HT_.out (by kernel_rfl)) (by decide) (by decide) (fun K hK => ?_) (fun K hK => ?_)
          ·skip
           refine Kd.R_append_rows_step k27 (w0 := w) w.heap.size (by rfl) (.tmp 58) (.tmp 68) 23 27 (.agg #[(.int .i64 0), (.int .i64 0)]) 16 rfl Try.underlying23 info27 rfl (by decide) (by omega) (.slice Ao42 y399.length co42) y399 y404 _ _ _ (fun k_ => some k_ ≠ (.slice Ao48 y404.length co48 : Value).ownBlock) (fun _ => False) rfl rfl ?aO ?aR (fun _ _ h => h) (fun _ h => h.elim) ?aF ?aB ?aS ?aL ?_
           (case aR => repeat (first | exact (Kd.R_reads' HO406.out).2.2 | (with_reducible refine Kd.C_alloc ?_ _) | (with_reducible refine Kd.C_drewN ?_ _) | (with_reducible refine Kd.C_drew ?_)))
           (case aB => exact (hq HB))
           (case aF => exact (fun k_ hk => Kd.fresh' (Kd.R_lt (rq HO406)) k_ hk))
           (case aO => exact (rq HO401))
           (case aS => exact (below_size (hq HB)))
           (case aL => have := LMc38.out; omega)
           intro v408 w47 ho hb hg hat
           rw [← Ny407.out] at ho
           have n0_ := Aside0.mk (Kd.R_over' (rq HO_12) (Kd.R_typed (rq HO401)) (by decide) hg)
           have n1_ := Aside0.mk (Kd.R_over' (rq HO_13) (Kd.R_typed (rq HO401)) (by decide) hg)
           have n2_ := Aside0.mk (Kd.V_afterv (ok := (fun k_ => some k_ ≠ (.slice Ao19 t392.length co19 : Value).ownBlock ∧ some k_ ≠ (v396 : Value).ownBlock ∧ some k_ ≠ (.slice Ao48 y404.length co48 : Value).ownBlock ∧ k_ ≠ gb391)) (by (with_reducible repeat (first | apply Kd.V_alloc | apply Kd.V_drewN | apply Kd.V_drew)); exact Kd.V_mono HO_392001.out (fun _ hk => ⟨⟨hk.2.2.1, ⟨hk.2.2.2.1, ⟨hk.2.1, hk.2.2.2.2⟩⟩⟩, hk.1⟩)) hg hat)
           have n3_ := Aside0.mk (blk_grown (g := gb391) (o := .cells #[.int .i64 t387, .slice Ao16 t388.length co16] 31 (0, 0)) (bq BK391) hg (Kd.R_ne HO401.out BK391.out (by decide)))
           have n4_ := Aside0.mk (Kd.R_after (ok := (fun _ => True)) (by (with_reducible repeat (first | apply Kd.R_alloc | apply Kd.R_drewN | apply Kd.R_drew)); exact Kd.R_mono HO406.out (fun _ hk => ⟨trivial, hk⟩)) hg hat)
           have n5_ := Aside0.mk (hb)
           have n6_ := Aside0.mk (ho)
           clear HO_12
           clear HO_13
           clear HO_392001
           clear BK391
           clear HO406
           clear HB
           clear HO401
           have HO_12 := n0_
           have HO_13 := n1_
           have HO_392001 := n2_
           have BK391 := n3_
           have HO406 := n4_
           have HB := n5_
           have HO409 := n6_
           clear n0_ n1_ n2_ n3_ n4_ n5_ n6_
           clear ho hb hg hat
           obtain ⟨Ao49, co49, eo49⟩ := Kd.R_slice HO409.out
           (first | subst eo49 | (injection eo49 with f1_ f2_ f3_; have f4_ := f1_.symm; have f5_ := f3_.symm; clear f1_ f2_ f3_; subst f4_; subst f5_))
           refine hK.out _ _ ⟨(blk_cell BK391.out 0).trans rfl, (blk_cell BK391.out 1).trans rfl⟩ (fun hHeld => ?_)
           clear hK K
           refine norm_ (a' := ?_) ?_ ?_
           rotate_left
           ·show Act.put _ (some 69) _ = _
            simp only [Act.put, List.setIfInBounds_toArray, List.set_cons_zero, List.set_cons_succ, i64_w, i32_w]
            rfl
           refine pure_ (i := 14) (N := some 70) (v := ?_) (a' := ?_) #[true, true, true, true, true, true, true, true, true, true, true, true, true, true, true, false, false] rfl rfl (any_of HT_.out (by kernel_rfl)) (fun _ _ _ h => h) (Or.inl ⟨by rfl, ?_⟩) ?_ ?_
           rotate_left
           ·intro w'
            go_simp
            with_reducible rfl
           rotate_left
           ·simp only [Act.put, List.setIfInBounds_toArray, List.set_cons_zero, List.set_cons_succ, i64_w, i32_w]
            rfl
           exact norm_ (by first | (simp only [putAll, Act.put, List.setIfInBounds_toArray, List.set_cons_zero, List.set_cons_succ]; done) | (simp only [putAll, Act.put, List.setIfInBounds_toArray, List.set_cons_zero, List.set_cons_succ]; rfl)) (hJ6_10_12_13 (.slice Ao48 y404.length co48, .slice Ao49 y407.length co49) _ ⟨hHeld, (by (with_reducible repeat (first | apply Kd.R_alloc | apply Kd.R_drewN | apply Kd.R_drew)); exact Kd.R_mono HO406.out (fun _ hk => hk.2)), (rq HO409), (rq HO_12), (rq HO_13), (by (with_reducible repeat (first | apply Kd.V_alloc | apply Kd.V_drewN | apply Kd.V_drew)); exact Kd.V_mono HO_392001.out (fun _ hk => ⟨hk.1.2.2.1, ⟨hk.2, ⟨hk.1.1, ⟨hk.1.2.1, hk.1.2.2.2⟩⟩⟩⟩)), (bq BK391), (hq HB)⟩)
          ·skip
           refine box_step ?hg (N := 15) ?hd (cs := #[.int .i64 0, .slice none 0 0]) (t := 31) ?hr ?_; (case hd => rfl); (case hg => rfl); (case hr => first | (go_simp; done) | (go_simp; rfl))
           intro gb410 hg w47 hbox hb
           have n0_ := Aside0.mk (Kd.R_below (rq HO_12) hb)
           have n1_ := Aside0.mk (Kd.R_below (rq HO_13) hb)
           have n2_ := Aside0.mk (Kd.V_below (Kd.V_elderB (vq HO_392001) gb410 (Nat.le_of_eq hg.symm)) hb)
           have n3_ := Aside0.mk (Kd.R_below (rq HO401) hb)
           have n4_ := Aside0.mk (Kd.R_below (rq HO406) hb)
           have n5_ := Aside0.mk (blk_below (g := gb391) (o := .cells #[.int .i64 t387, .slice Ao16 t388.length co16] 31 (0, 0)) (bq BK391) hb)
           have n6_ := Aside0.mk (below_step (hq HB) hb)
           have n7_ := Aside0.mk (hbox)
           have n8_ := Aside0.mk ((by rw [hg]; exact (below_size (hq HB)) : w.heap.size ≤ gb410))
           have n9_ := Aside0.mk ((by rw [hg]; exact (below_size (hq HB)) : w.heap.size ≤ gb410))
           have n10_ := Aside0.mk ((by rw [hg]; exact Nat.ne_of_lt (blk_lt (g := gb391) (o := .cells #[.int .i64 t387, .slice Ao16 t388.length co16] 31 (0, 0)) (bq BK391)) : gb391 ≠ gb410))
           have n11_ := Aside0.mk ((by rw [hg]; exact Nat.ne_of_gt (blk_lt (g := gb391) (o := .cells #[.int .i64 t387, .slice Ao16 t388.length co16] 31 (0, 0)) (bq BK391)) : gb410 ≠ gb391))
           clear HO_12
           clear HO_13
           clear HO_392001
           clear HO401
           clear HO406
           clear BK391
           clear HB
           have HO_12 := n0_
           have HO_13 := n1_
           have HO_392001 := n2_
           have HO401 := n3_
           have HO406 := n4_
           have BK391 := n5_
           have HB := n6_
           have BK410 := n7_
           have GW410 := n8_
           have GE410 := n9_
           have NB391_410 := n10_
           have NB410_391 := n11_
           clear n0_ n1_ n2_ n3_ n4_ n5_ n6_ n7_ n8_ n9_ n10_ n11_
           clear hb hbox hg
           refine hK.out _ _ ⟨(blk_cell BK391.out 0).trans rfl, (blk_cell BK391.out 1).trans rfl⟩ (fun hHeld => ?_)
           clear hK K
           refine norm_ (a' := ?_) ?_ ?_
           rotate_left
           ·show Act.put _ (some 15) _ = _
            simp only [Act.put, List.setIfInBounds_toArray, List.set_cons_zero, List.set_cons_succ, i64_w, i32_w]
            rfl
           exact norm_ (by first | (simp only [putAll, Act.put, List.setIfInBounds_toArray, List.set_cons_zero, List.set_cons_succ]; done) | (simp only [putAll, Act.put, List.setIfInBounds_toArray, List.set_cons_zero, List.set_cons_succ]; rfl)) (hJ6_10_12_15 (.slice Ao48 y404.length co48, gb410) _ ⟨hHeld, (rq HO401), (rq HO406), (rq HO_12), (rq HO_13), (by (with_reducible repeat (first | apply Kd.V_alloc | apply Kd.V_drewN | apply Kd.V_drew)); exact Kd.V_mono HO_392001.out (fun _ hk => ⟨hk.1.1, ⟨hk.1.2.1, ⟨hk.1.2.2.1, ⟨hk.1.2.2.2.1, ⟨hk.1.2.2.2.2, hk.2⟩⟩⟩⟩⟩)), (bq BK391), (bq BK410), GW410.out, GE410.out, NB391_410.out, NB410_391.out, (hq HB)⟩)
        ·skip
         rintro ⟨v405, gb410⟩ w47 ⟨hS_, h0_, h1_, h2_, h3_, h4_, h5_, h6_, h7_, h8_, h9_, h10_, h11_⟩
         have n0_ : Aside0 (Kd.R k27 27 w47 w.heap.size (fun k_ => some k_ ≠ (v405 : Value).ownBlock) (.slice Ao42 y399.length co42) y399) := ⟨h0_⟩
         have n1_ : Aside0 (Kd.R k27 27 w47 w.heap.size (fun k_ => some k_ ≠ (.slice Ao42 y399.length co42 : Value).ownBlock) v405 y404) := ⟨h1_⟩
         have n2_ : Aside0 (Kd.R Kd.bool 4 w47 w.heap.size (fun k_ => some k_ ≠ (v396 : Value).ownBlock) (.slice Ao19 t392.length co19) t392) := ⟨h2_⟩
         have n3_ : Aside0 (Kd.R Kd.bool 4 w47 w.heap.size (fun k_ => some k_ ≠ (.slice Ao19 t392.length co19 : Value).ownBlock) v396 t395) := ⟨h3_⟩
         have n4_ : Aside0 (Kd.V k27 27 w47 w.heap.size (fun k_ => some k_ ≠ (.slice Ao42 y399.length co42 : Value).ownBlock ∧ some k_ ≠ (v405 : Value).ownBlock ∧ some k_ ≠ (.slice Ao19 t392.length co19 : Value).ownBlock ∧ some k_ ≠ (v396 : Value).ownBlock ∧ k_ ≠ gb391 ∧ k_ ≠ gb410) (.slice Ao16 t388.length co16) t388) := ⟨h4_⟩
         have n5_ : Aside0 (w47.heap[gb391]? = some (.cells #[.int .i64 t387, .slice Ao16 t388.length co16] 31 (0, 0))) := ⟨h5_⟩
         have n6_ : Aside0 (w47.heap[gb410]? = some (.cells #[.int .i64 0, .slice none 0 0] 31 (0, 0))) := ⟨h6_⟩
         have n7_ : Aside0 (w.heap.size ≤ gb410) := ⟨h7_⟩
         have n8_ : Aside0 (w.heap.size ≤ gb410) := ⟨h8_⟩
         have n9_ : Aside0 (gb391 ≠ gb410) := ⟨h9_⟩
         have n10_ : Aside0 (gb410 ≠ gb391) := ⟨h10_⟩
         have n11_ : Aside0 (Below w.heap.size w w47) := ⟨h11_⟩
         clear HO_12
         clear HO_13
         clear HO_392001
         clear HO401
         clear BK391
         clear HB
         clear h0_ h1_ h2_ h3_ h4_ h5_ h6_ h7_ h8_ h9_ h10_ h11_
         have HO401 := n0_
         have HO406 := n1_
         have HO_12 := n2_
         have HO_13 := n3_
         have HO_392001 := n4_
         have BK391 := n5_
         have BK410 := n6_
         have GW410 := n7_
         have GE410 := n8_
         have NB391_410 := n9_
         have NB410_391 := n10_
         have HB := n11_
         clear n0_ n1_ n2_ n3_ n4_ n5_ n6_ n7_ n8_ n9_ n10_ n11_
         have hHeld : w47.cell? ⟨gb391, 0, none⟩ = some (.int .i64 t387) ∧ w47.cell? ⟨gb391, 1, none⟩ = some (.slice Ao16 t388.length co16) := hS_
         obtain ⟨Ao49, co49, eo49⟩ := Kd.R_slice HO406.out
         (first | subst eo49 | (injection eo49 with f1_ f2_ f3_; have f4_ := f1_.symm; have f5_ := f3_.symm; clear f1_ f2_ f3_; subst f4_; subst f5_))
         refine norm_ (a' := ?_) ?_ ?_
         rotate_left
         ·simp only [putAll, Act.put, List.setIfInBounds_toArray, List.set_cons_zero, List.set_cons_succ]
          rfl
         refine one_ (i := 13) (N := some 69) #[true, true, true, true, true, true, true, true, true, true, true, true, true, true, false, true, false] rfl rfl (one_of HT_.out (by kernel_rfl)) (by decide) (fun K hK => ?_)
         refine Kd.R_append_rows_step k27 (w0 := w) w.heap.size (by rfl) (.tmp 58) (.tmp 68) 23 27 (.agg #[(.int .i64 0), (.int .i64 0)]) 16 rfl Try.underlying23 info27 rfl (by decide) (by omega) (.slice Ao42 y399.length co42) y399 y404 _ _ _ (fun k_ => some k_ ≠ (.slice Ao49 y404.length co49 : Value).ownBlock) (fun _ => False) rfl rfl ?aO ?aR (fun _ _ h => h) (fun _ h => h.elim) ?aF ?aB ?aS ?aL ?_
         (case aR => repeat (first | exact (Kd.R_reads' HO406.out).2.2 | (with_reducible refine Kd.C_alloc ?_ _) | (with_reducible refine Kd.C_drewN ?_ _) | (with_reducible refine Kd.C_drew ?_)))
         (case aB => exact (hq HB))
         (case aF => exact (fun k_ hk => Kd.fresh' (Kd.R_lt (rq HO406)) k_ hk))
         (case aO => exact (rq HO401))
         (case aS => exact (below_size (hq HB)))
         (case aL => have := LMc38.out; omega)
         intro v408 w48 ho hb hg hat
         rw [← Ny407.out] at ho
         have n0_ := Aside0.mk (Kd.R_over' (rq HO_12) (Kd.R_typed (rq HO401)) (by decide) hg)
         have n1_ := Aside0.mk (Kd.R_over' (rq HO_13) (Kd.R_typed (rq HO401)) (by decide) hg)
         have n2_ := Aside0.mk (Kd.V_afterv (ok := (fun k_ => some k_ ≠ (.slice Ao19 t392.length co19 : Value).ownBlock ∧ some k_ ≠ (v396 : Value).ownBlock ∧ some k_ ≠ (.slice Ao49 y404.length co49 : Value).ownBlock ∧ k_ ≠ gb391 ∧ k_ ≠ gb410)) (by (with_reducible repeat (first | apply Kd.V_alloc | apply Kd.V_drewN | apply Kd.V_drew)); exact Kd.V_mono HO_392001.out (fun _ hk => ⟨⟨hk.2.2.1, ⟨hk.2.2.2.1, ⟨hk.2.1, ⟨hk.2.2.2.2.1, hk.2.2.2.2.2⟩⟩⟩⟩, hk.1⟩)) hg hat)
         have n3_ := Aside0.mk (blk_grown (g := gb391) (o := .cells #[.int .i64 t387, .slice Ao16 t388.length co16] 31 (0, 0)) (bq BK391) hg (Kd.R_ne HO401.out BK391.out (by decide)))
         have n4_ := Aside0.mk (Kd.R_after (ok := (fun _ => True)) (by (with_reducible repeat (first | apply Kd.R_alloc | apply Kd.R_drewN | apply Kd.R_drew)); exact Kd.R_mono HO406.out (fun _ hk => ⟨trivial, hk⟩)) hg hat)
         have n5_ := Aside0.mk (blk_grown (g := gb410) (o := .cells #[.int .i64 0, .slice none 0 0] 31 (0, 0)) (bq BK410) hg (Kd.R_ne HO401.out BK410.out (by decide)))
         have n6_ := Aside0.mk (hb)
         have n7_ := Aside0.mk (ho)
         clear HO_12
         clear HO_13
         clear HO_392001
         clear BK391
         clear HO406
         clear BK410
         clear HB
         clear HO401
         have HO_12 := n0_
         have HO_13 := n1_
         have HO_392001 := n2_
         have BK391 := n3_
         have HO406 := n4_
         have BK410 := n5_
         have HB := n6_
         have HO409 := n7_
         clear n0_ n1_ n2_ n3_ n4_ n5_ n6_ n7_
         clear ho hb hg hat
         obtain ⟨Ao50, co50, eo50⟩ := Kd.R_slice HO409.out
         (first | subst eo50 | (injection eo50 with f1_ f2_ f3_; have f4_ := f1_.symm; have f5_ := f3_.symm; clear f1_ f2_ f3_; subst f4_; subst f5_))
         refine hK.out _ _ ⟨(blk_cell BK391.out 0).trans rfl, (blk_cell BK391.out 1).trans rfl⟩ (fun hHeld => ?_)
         clear hK K
         refine norm_ (a' := ?_) ?_ ?_
         rotate_left
         ·show Act.put _ (some 69) _ = _
          simp only [Act.put, List.setIfInBounds_toArray, List.set_cons_zero, List.set_cons_succ, i64_w, i32_w]
          rfl
         refine pure_ (i := 14) (N := some 70) (v := ?_) (a' := ?_) #[true, true, true, true, true, true, true, true, true, true, true, true, true, true, true, true, false] rfl rfl (any_of HT_.out (by kernel_rfl)) (fun _ _ _ h => h) (Or.inl ⟨by rfl, ?_⟩) ?_ ?_
         rotate_left
         ·intro w'
          go_simp
          with_reducible rfl
         rotate_left
         ·simp only [Act.put, List.setIfInBounds_toArray, List.set_cons_zero, List.set_cons_succ, i64_w, i32_w]
          rfl
         exact norm_ (by first | (simp only [putAll, Act.put, List.setIfInBounds_toArray, List.set_cons_zero, List.set_cons_succ]; done) | (simp only [putAll, Act.put, List.setIfInBounds_toArray, List.set_cons_zero, List.set_cons_succ]; rfl)) (hJ6_10_12_13_15 (.slice Ao49 y404.length co49, .slice Ao50 y407.length co50, gb410) _ ⟨hHeld, (by (with_reducible repeat (first | apply Kd.R_alloc | apply Kd.R_drewN | apply Kd.R_drew)); exact Kd.R_mono HO406.out (fun _ hk => hk.2)), (rq HO409), (rq HO_12), (rq HO_13), (by (with_reducible repeat (first | apply Kd.V_alloc | apply Kd.V_drewN | apply Kd.V_drew)); exact Kd.V_mono HO_392001.out (fun _ hk => ⟨hk.1.2.2.1, ⟨hk.2, ⟨hk.1.1, ⟨hk.1.2.1, ⟨hk.1.2.2.2.1, hk.1.2.2.2.2⟩⟩⟩⟩⟩)), (bq BK391), (bq BK410), GW410.out, GE410.out, NB391_410.out, NB410_391.out, (hq HB)⟩)
       ·skip
        rintro ⟨v405, v408⟩ w49 ⟨hS_, h0_, h1_, h2_, h3_, h4_, h5_, h6_⟩
        have n0_ : Aside0 (Kd.R k27 27 w49 w.heap.size (fun k_ => some k_ ≠ (v408 : Value).ownBlock) v405 y404) := ⟨h0_⟩
        have n1_ : Aside0 (Kd.R k27 27 w49 w.heap.size (fun k_ => some k_ ≠ (v405 : Value).ownBlock) v408 y407) := ⟨h1_⟩
        have n2_ : Aside0 (Kd.R Kd.bool 4 w49 w.heap.size (fun k_ => some k_ ≠ (v396 : Value).ownBlock) (.slice Ao19 t392.length co19) t392) := ⟨h2_⟩
        have n3_ : Aside0 (Kd.R Kd.bool 4 w49 w.heap.size (fun k_ => some k_ ≠ (.slice Ao19 t392.length co19 : Value).ownBlock) v396 t395) := ⟨h3_⟩
        have n4_ : Aside0 (Kd.V k27 27 w49 w.heap.size (fun k_ => some k_ ≠ (v405 : Value).ownBlock ∧ some k_ ≠ (v408 : Value).ownBlock ∧ some k_ ≠ (.slice Ao19 t392.length co19 : Value).ownBlock ∧ some k_ ≠ (v396 : Value).ownBlock ∧ k_ ≠ gb391) (.slice Ao16 t388.length co16) t388) := ⟨h4_⟩
        have n5_ : Aside0 (w49.heap[gb391]? = some (.cells #[.int .i64 t387, .slice Ao16 t388.length co16] 31 (0, 0))) := ⟨h5_⟩
        have n6_ : Aside0 (Below w.heap.size w w49) := ⟨h6_⟩
        clear HO_12
        clear HO_13
        clear HO_392001
        clear HO401
        clear BK391
        clear HB
        clear h0_ h1_ h2_ h3_ h4_ h5_ h6_
        have HO406 := n0_
        have HO409 := n1_
        have HO_12 := n2_
        have HO_13 := n3_
        have HO_392001 := n4_
        have BK391 := n5_
        have HB := n6_
        clear n0_ n1_ n2_ n3_ n4_ n5_ n6_
        have hHeld : w49.cell? ⟨gb391, 0, none⟩ = some (.int .i64 t387) ∧ w49.cell? ⟨gb391, 1, none⟩ = some (.slice Ao16 t388.length co16) := hS_
        obtain ⟨Ao50, co50, eo50⟩ := Kd.R_slice HO409.out
        (first | subst eo50 | (injection eo50 with f1_ f2_ f3_; have f4_ := f1_.symm; have f5_ := f3_.symm; clear f1_ f2_ f3_; subst f4_; subst f5_))
        refine norm_ (a' := ?_) ?_ ?_
        rotate_left
        ·simp only [putAll, Act.put, List.setIfInBounds_toArray, List.set_cons_zero, List.set_cons_succ]
         rfl
        refine one_ (i := 15) (N := some 15) #[true, true, true, true, true, true, true, true, true, true, true, true, true, true, true, true, false] rfl rfl (one_of HT_.out (by kernel_rfl)) (by decide) (fun K hK => ?_)
        refine box_step ?hg (N := 15) ?hd (cs := #[.int .i64 0, .slice none 0 0]) (t := 31) ?hr ?_; (case hd => rfl); (case hg => rfl); (case hr => first | (go_simp; done) | (go_simp; rfl))
        intro gb410 hg w51 hbox hb
        have n0_ := Aside0.mk (Kd.R_below (rq HO_12) hb)
        have n1_ := Aside0.mk (Kd.R_below (rq HO_13) hb)
        have n2_ := Aside0.mk (Kd.V_below (Kd.V_elderB (vq HO_392001) gb410 (Nat.le_of_eq hg.symm)) hb)
        have n3_ := Aside0.mk (Kd.R_below (rq HO406) hb)
        have n4_ := Aside0.mk (Kd.R_below (rq HO409) hb)
        have n5_ := Aside0.mk (blk_below (g := gb391) (o := .cells #[.int .i64 t387, .slice Ao16 t388.length co16] 31 (0, 0)) (bq BK391) hb)
        have n6_ := Aside0.mk (below_step (hq HB) hb)
        have n7_ := Aside0.mk (hbox)
        have n8_ := Aside0.mk ((by rw [hg]; exact (below_size (hq HB)) : w.heap.size ≤ gb410))
        have n9_ := Aside0.mk ((by rw [hg]; exact (below_size (hq HB)) : w.heap.size ≤ gb410))
        have n10_ := Aside0.mk ((by rw [hg]; exact Nat.ne_of_lt (blk_lt (g := gb391) (o := .cells #[.int .i64 t387, .slice Ao16 t388.length co16] 31 (0, 0)) (bq BK391)) : gb391 ≠ gb410))
        have n11_ := Aside0.mk ((by rw [hg]; exact Nat.ne_of_gt (blk_lt (g := gb391) (o := .cells #[.int .i64 t387, .slice Ao16 t388.length co16] 31 (0, 0)) (bq BK391)) : gb410 ≠ gb391))
        clear HO_12
        clear HO_13
        clear HO_392001
        clear HO406
        clear HO409
        clear BK391
        clear HB
        have HO_12 := n0_
        have HO_13 := n1_
        have HO_392001 := n2_
        have HO406 := n3_
        have HO409 := n4_
        have BK391 := n5_
        have HB := n6_
        have BK410 := n7_
        have GW410 := n8_
        have GE410 := n9_
        have NB391_410 := n10_
        have NB410_391 := n11_
        clear n0_ n1_ n2_ n3_ n4_ n5_ n6_ n7_ n8_ n9_ n10_ n11_
        clear hb hbox hg
        refine hK.out _ _ ⟨(blk_cell BK391.out 0).trans rfl, (blk_cell BK391.out 1).trans rfl⟩ (fun hHeld => ?_)
        clear hK K
        refine norm_ (a' := ?_) ?_ ?_
        rotate_left
        ·show Act.put _ (some 15) _ = _
         simp only [Act.put, List.setIfInBounds_toArray, List.set_cons_zero, List.set_cons_succ, i64_w, i32_w]
         rfl
        exact norm_ (by first | (simp only [putAll, Act.put, List.setIfInBounds_toArray, List.set_cons_zero, List.set_cons_succ]; done) | (simp only [putAll, Act.put, List.setIfInBounds_toArray, List.set_cons_zero, List.set_cons_succ]; rfl)) (hJ6_10_12_13_15 (v405, .slice Ao50 y407.length co50, gb410) _ ⟨hHeld, (rq HO406), (rq HO409), (rq HO_12), (rq HO_13), (by (with_reducible repeat (first | apply Kd.V_alloc | apply Kd.V_drewN | apply Kd.V_drew)); exact Kd.V_mono HO_392001.out (fun _ hk => ⟨hk.1.1, ⟨hk.1.2.1, ⟨hk.1.2.2.1, ⟨hk.1.2.2.2.1, ⟨hk.1.2.2.2.2, hk.2⟩⟩⟩⟩⟩)), (bq BK391), (bq BK410), GW410.out, GE410.out, NB391_410.out, NB410_391.out, (hq HB)⟩)
      rintro ⟨v405, v408, gb410⟩ w50 ⟨hS_, h0_, h1_, h2_, h3_, h4_, h5_, h6_, h7_, h8_, h9_, h10_, h11_⟩
      have n0_ : Aside0 (Kd.R k27 27 w50 w.heap.size (fun k_ => some k_ ≠ (v408 : Value).ownBlock) v405 y404) := ⟨h0_⟩
      have n1_ : Aside0 (Kd.R k27 27 w50 w.heap.size (fun k_ => some k_ ≠ (v405 : Value).ownBlock) v408 y407) := ⟨h1_⟩
      have n2_ : Aside0 (Kd.R Kd.bool 4 w50 w.heap.size (fun k_ => some k_ ≠ (v396 : Value).ownBlock) (.slice Ao19 t392.length co19) t392) := ⟨h2_⟩
      have n3_ : Aside0 (Kd.R Kd.bool 4 w50 w.heap.size (fun k_ => some k_ ≠ (.slice Ao19 t392.length co19 : Value).ownBlock) v396 t395) := ⟨h3_⟩
      have n4_ : Aside0 (Kd.V k27 27 w50 w.heap.size (fun k_ => some k_ ≠ (v405 : Value).ownBlock ∧ some k_ ≠ (v408 : Value).ownBlock ∧ some k_ ≠ (.slice Ao19 t392.length co19 : Value).ownBlock ∧ some k_ ≠ (v396 : Value).ownBlock ∧ k_ ≠ gb391 ∧ k_ ≠ gb410) (.slice Ao16 t388.length co16) t388) := ⟨h4_⟩
      have n5_ : Aside0 (w50.heap[gb391]? = some (.cells #[.int .i64 t387, .slice Ao16 t388.length co16] 31 (0, 0))) := ⟨h5_⟩
      have n6_ : Aside0 (w50.heap[gb410]? = some (.cells #[.int .i64 0, .slice none 0 0] 31 (0, 0))) := ⟨h6_⟩
      have n7_ : Aside0 (w.heap.size ≤ gb410) := ⟨h7_⟩
      have n8_ : Aside0 (w.heap.size ≤ gb410) := ⟨h8_⟩
      have n9_ : Aside0 (gb391 ≠ gb410) := ⟨h9_⟩
      have n10_ : Aside0 (gb410 ≠ gb391) := ⟨h10_⟩
      have n11_ : Aside0 (Below w.heap.size w w50) := ⟨h11_⟩
      clear HO_12
      clear HO_13
      clear HO_392001
      clear HO401
      clear BK391
      clear HB
      clear h0_ h1_ h2_ h3_ h4_ h5_ h6_ h7_ h8_ h9_ h10_ h11_
      have HO406 := n0_
      have HO409 := n1_
      have HO_12 := n2_
      have HO_13 := n3_
      have HO_392001 := n4_
      have BK391 := n5_
      have BK410 := n6_
      have GW410 := n7_
      have GE410 := n8_
      have NB391_410 := n9_
      have NB410_391 := n10_
      have HB := n11_
      clear n0_ n1_ n2_ n3_ n4_ n5_ n6_ n7_ n8_ n9_ n10_ n11_
      have hHeld : w50.cell? ⟨gb391, 0, none⟩ = some (.int .i64 t387) ∧ w50.cell? ⟨gb391, 1, none⟩ = some (.slice Ao16 t388.length co16) := hS_
      obtain ⟨Ao51, co51, eo51⟩ := Kd.R_slice HO409.out
      (first | subst eo51 | (injection eo51 with f1_ f2_ f3_; have f4_ := f1_.symm; have f5_ := f3_.symm; clear f1_ f2_ f3_; subst f4_; subst f5_))
      refine norm_ (a' := ?_) ?_ ?_
      rotate_left
      ·simp only [putAll, Act.put, List.setIfInBounds_toArray, List.set_cons_zero, List.set_cons_succ]
       rfl
      refine one_ (i := 16) (N := none) #[true, true, true, true, true, true, true, true, true, true, true, true, true, true, true, true, true] rfl rfl (one_of HT_.out (by kernel_rfl)) (by decide) (fun K hK => ?_)
      have hs52 : w50.cell? ⟨gb410, 0, none⟩ = some (.int .i64 0) := (blk_cell BK410.out 0).trans rfl
      have hfs52 := blk_frozen BK410.out 0
      have hns52_0 := NB391_410.out
      have hms52_0 := NB410_391.out
      have hs53 : w50.cell? ⟨gb410, 1, none⟩ = some (.slice none 0 0) := (blk_cell BK410.out 1).trans rfl
      have hfs53 := blk_frozen BK410.out 1
      have hns53_0 := NB391_410.out
      have hms53_0 := NB410_391.out
      refine skip_ (w1 := ?_) (by rfl) rfl ?_ ?_
      rotate_left
      ·go_simp
       rfl
      refine hK.out _ _ ⟨((cell_far (p := ⟨gb410, _, none⟩) NB391_410.out _).trans (((cell_far (p := ⟨gb410, _, none⟩) NB391_410.out _).trans (hHeld.1)))), ((cell_far (p := ⟨gb410, _, none⟩) NB391_410.out _).trans (((cell_far (p := ⟨gb410, _, none⟩) NB391_410.out _).trans (hHeld.2))))⟩ (fun hHeld => ?_)
      clear hK K
      refine done_ (done_of HT_.out (by kernel_rfl)) ?_
      have hnb54 := NB410_391.out
      have hnc54 := NB391_410.out
      have hcz55_0 : w50.cell? ⟨gb410, 0, none⟩ = some (.int .i64 0) := (blk_cell BK410.out 0).trans rfl
      have hcz55_1 : w50.cell? ⟨gb410, 1, none⟩ = some (.slice none 0 0) := (blk_cell BK410.out 1).trans rfl
      have hfz55_0 := blk_frozen BK410.out 0
      have hfz55_1 := blk_frozen BK410.out 1
      try go_wp2_with (first | ((with_reducible refine gate_callee (f := 20) rfl ?_); refine goesL_ (some 73) rfl rfl Try.func20 (by kernel_rfl) rfl #[.agg #[.int .i64 t387, .slice Ao51 y407.length co51], .slice Ao19 t392.length co19] rfl aq ?_; (with_reducible refine (route_Inhibited.calls kj9 t387 _ _ y407 _ _ t392 t411 _ ?side1 ?side2 ?side3 ?side4 A39.out).mono ?_); (case side1 => refine (Kd.R_reads' (e := 27) (base := w.heap.size) (ok := fun k_ => some k_ ≠ (v405 : Value).ownBlock) (n := y407.length) (c := co51) ?_).2.2; exact (by (with_reducible repeat (first | apply Kd.R_alloc | apply Kd.R_drewN | apply Kd.R_drew)); exact (Kd.R_mono (Kd.R_far (p := ⟨gb410, 1, none⟩) (Kd.R_far (p := ⟨gb410, 0, none⟩) (Kd.R_types HO409.out BK410.out (by decide)) (fun _ hk => hk.2) (.int .i64 t387)) (fun _ hk => hk.2) (.slice Ao51 y407.length co51)) (fun _ h_ => h_.1)))); (case side2 => exact (Kd.R_reads' HO409.out).2.1); (case side3 => refine (Kd.R_reads' (e := 4) (base := w.heap.size) (ok := fun k_ => some k_ ≠ (v396 : Value).ownBlock) (n := t392.length) (c := co19) ?_).2.2; exact (by (with_reducible repeat (first | apply Kd.R_alloc | apply Kd.R_drewN | apply Kd.R_drew)); exact (Kd.R_mono (Kd.R_far (p := ⟨gb410, 1, none⟩) (Kd.R_far (p := ⟨gb410, 0, none⟩) (Kd.R_types HO_12.out BK410.out (by decide)) (fun _ hk => hk.2) (.int .i64 t387)) (fun _ hk => hk.2) (.slice Ao51 y407.length co51)) (fun _ h_ => h_.1)))); (case side4 => exact (Kd.R_reads' HO_12.out).2.1); rintro e w56 ⟨v412, rfl, ho0, hb⟩; refine ⟨_, rfl, ?_⟩; have n0_ := Aside0.mk (Kd.R_elder' (by (with_reducible repeat (first | apply Kd.R_alloc | apply Kd.R_drewN | apply Kd.R_drew)); exact (Kd.R_mono (Kd.R_far (p := ⟨gb410, 1, none⟩) (Kd.R_far (p := ⟨gb410, 0, none⟩) (Kd.R_types HO_12.out BK410.out (by decide)) (fun _ hk => hk.2) (.int .i64 t387)) (fun _ hk => hk.2) (.slice Ao51 y407.length co51)) (fun _ h_ => h_.1))) (Kd.R_base ho0) hb); have n1_ := Aside0.mk (Kd.R_elder' (by (with_reducible repeat (first | apply Kd.R_alloc | apply Kd.R_drewN | apply Kd.R_drew)); exact (Kd.R_mono (Kd.R_far (p := ⟨gb410, 1, none⟩) (Kd.R_far (p := ⟨gb410, 0, none⟩) (Kd.R_types HO_13.out BK410.out (by decide)) (fun _ hk => hk.2) (.int .i64 t387)) (fun _ hk => hk.2) (.slice Ao51 y407.length co51)) (fun _ h_ => h_.1))) (Kd.R_base ho0) hb); have n2_ := Aside0.mk (Kd.V_elder' (by (with_reducible repeat (first | apply Kd.V_alloc | apply Kd.V_drewN | apply Kd.V_drew)); exact (Kd.V_mono (Kd.V_far (p := ⟨gb410, 1, none⟩) (Kd.V_far (p := ⟨gb410, 0, none⟩) (Kd.V_mono HO_392001.out (fun k_ hk => (⟨hk, hk.2.2.2.2.2⟩ : _ ∧ k_ ≠ gb410))) (fun _ hk => hk.2) (.int .i64 t387)) (fun _ hk => hk.2) (.slice Ao51 y407.length co51)) (fun _ h_ => h_.1))) (Kd.R_base ho0) hb); have n3_ := Aside0.mk (Kd.R_below (by (with_reducible repeat (first | apply Kd.R_alloc | apply Kd.R_drewN | apply Kd.R_drew)); exact (Kd.R_mono (Kd.R_far (p := ⟨gb410, 1, none⟩) (Kd.R_far (p := ⟨gb410, 0, none⟩) (Kd.R_types HO406.out BK410.out (by decide)) (fun _ hk => hk.2) (.int .i64 t387)) (fun _ hk => hk.2) (.slice Ao51 y407.length co51)) (fun _ h_ => h_.1))) hb); have n4_ := Aside0.mk (Kd.R_below (by (with_reducible repeat (first | apply Kd.R_alloc | apply Kd.R_drewN | apply Kd.R_drew)); exact (Kd.R_mono (Kd.R_far (p := ⟨gb410, 1, none⟩) (Kd.R_far (p := ⟨gb410, 0, none⟩) (Kd.R_types HO409.out BK410.out (by decide)) (fun _ hk => hk.2) (.int .i64 t387)) (fun _ hk => hk.2) (.slice Ao51 y407.length co51)) (fun _ h_ => h_.1))) hb); have n5_ := Aside0.mk (Kd.R_lower (Kd.R_new' (Kd.R_new' ho0 (Kd.R_lt (by (with_reducible repeat (first | apply Kd.R_alloc | apply Kd.R_drewN | apply Kd.R_drew)); exact (Kd.R_mono (Kd.R_far (p := ⟨gb410, 1, none⟩) (Kd.R_far (p := ⟨gb410, 0, none⟩) (Kd.R_types HO_12.out BK410.out (by decide)) (fun _ hk => hk.2) (.int .i64 t387)) (fun _ hk => hk.2) (.slice Ao51 y407.length co51)) (fun _ h_ => h_.1))))) (Kd.R_lt (by (with_reducible repeat (first | apply Kd.R_alloc | apply Kd.R_drewN | apply Kd.R_drew)); exact (Kd.R_mono (Kd.R_far (p := ⟨gb410, 1, none⟩) (Kd.R_far (p := ⟨gb410, 0, none⟩) (Kd.R_types HO_13.out BK410.out (by decide)) (fun _ hk => hk.2) (.int .i64 t387)) (fun _ hk => hk.2) (.slice Ao51 y407.length co51)) (fun _ h_ => h_.1))))) (below_size (hq HB))); have n6_ := Aside0.mk (blk_below (g := gb391) (o := .cells #[.int .i64 t387, .slice Ao16 t388.length co16] 31 (0, 0)) (by (with_reducible repeat (first | refine blk_drewN ?_ _ | refine blk_drew ?_ | refine blk_alloc ?_ _)); refine blk_far ?_ NB391_410.out _; (with_reducible repeat (first | refine blk_drewN ?_ _ | refine blk_drew ?_ | refine blk_alloc ?_ _)); refine blk_far ?_ NB391_410.out _; (with_reducible repeat (first | refine blk_drewN ?_ _ | refine blk_drew ?_ | refine blk_alloc ?_ _)); exact BK391.out) hb); have n7_ := Aside0.mk (blk_below (g := gb410) (o := .cells #[.int .i64 t387, .slice Ao51 y407.length co51] 31 (0, 0)) (by (with_reducible repeat (first | refine blk_drewN ?_ _ | refine blk_drew ?_ | refine blk_alloc ?_ _)); refine blk_put (cs := #[.int .i64 t387, .slice none 0 0]) ?_ 1 _ rfl; (with_reducible repeat (first | refine blk_drewN ?_ _ | refine blk_drew ?_ | refine blk_alloc ?_ _)); refine blk_put (cs := #[.int .i64 0, .slice none 0 0]) ?_ 0 _ rfl; (with_reducible repeat (first | refine blk_drewN ?_ _ | refine blk_drew ?_ | refine blk_alloc ?_ _)); exact BK410.out) hb); have n8_ := Aside0.mk (below_step (hq HB) hb); clear HO_12; clear HO_13; clear HO_392001; clear HO406; clear HO409; clear BK391; clear BK410; clear HB; have HO_12 := n0_; have HO_13 := n1_; have HO_392001 := n2_; have HO406 := n3_; have HO409 := n4_; have HO413 := n5_; have BK391 := n6_; have BK410 := n7_; have HB := n8_; clear n0_ n1_ n2_ n3_ n4_ n5_ n6_ n7_ n8_; (try clear hb); (try clear hb2); (try clear hk); (try clear hi); (try clear ho0)))
      go_loopg [17] kj9 (fun kq v17 w' => ∃ (x17_2 : Int), v17 = .int .i64 x17_2 ∧ Aside0 (intervalmonlaw29_RouteMonotone.l0 kq a4 t392 t395 t411 x17_2 t387 t388 t387 y407 = some r) ∧ Aside0 (kq ≤ kj9) ∧ Aside0 (Kd.R Kd.bool 4 w' w.heap.size (fun k_ => some k_ ≠ (v396 : Value).ownBlock ∧ some k_ ≠ (v412 : Value).ownBlock) (.slice Ao19 t392.length co19) t392) ∧ Aside0 (Kd.R Kd.bool 4 w' w.heap.size (fun k_ => some k_ ≠ ((.slice Ao19 t392.length co19) : Value).ownBlock ∧ some k_ ≠ (v412 : Value).ownBlock) v396 t395) ∧ Aside0 (Kd.R Kd.bool 4 w' w.heap.size (fun k_ => some k_ ≠ ((.slice Ao19 t392.length co19) : Value).ownBlock ∧ some k_ ≠ (v396 : Value).ownBlock) v412 t411) ∧ Aside0 (Kd.V k27 27 w' w.heap.size (fun k_ => some k_ ≠ ((.slice Ao19 t392.length co19) : Value).ownBlock ∧ some k_ ≠ (v396 : Value).ownBlock ∧ some k_ ≠ (v412 : Value).ownBlock ∧ some k_ ≠ ((.slice Ao51 y407.length co51) : Value).ownBlock ∧ k_ ≠ gb391 ∧ k_ ≠ gb410) (.slice Ao16 t388.length co16) t388) ∧ Aside0 (Kd.R k27 27 w' w.heap.size (fun _ => True) (.slice Ao51 y407.length co51) y407) ∧ Aside0 (w'.heap[gb391]? = some (.cells #[.int .i64 t387, (.slice Ao16 t388.length co16)] 31 (0, 0))) ∧ Aside0 (w'.heap[gb410]? = some (.cells #[.int .i64 t387, (.slice Ao51 y407.length co51)] 31 (0, 0))) ∧ Aside0 (Below w.heap.size w w'))
      case atStart => exact ⟨(0), (by first | rfl | (simp; done) | (simp [*]; done)), H', ⟨Nat.le_refl _⟩, ⟨by (with_reducible repeat (first | apply Kd.R_alloc | apply Kd.R_drewN | apply Kd.R_drew)); exact HO_12.out⟩, ⟨by (with_reducible repeat (first | apply Kd.R_alloc | apply Kd.R_drewN | apply Kd.R_drew)); exact HO_13.out⟩, ⟨by (with_reducible repeat (first | apply Kd.R_alloc | apply Kd.R_drewN | apply Kd.R_drew)); exact Kd.R_mono HO413.out (fun _ hk => ⟨hk.1.2, hk.2⟩)⟩, ⟨by (with_reducible repeat (first | apply Kd.V_alloc | apply Kd.V_drewN | apply Kd.V_drew)); exact Kd.V_mono HO_392001.out (fun _ hk => ⟨hk.1.2.2.1, ⟨hk.1.2.2.2.1, ⟨hk.2, ⟨hk.1.2.1, ⟨hk.1.2.2.2.2.1, hk.1.2.2.2.2.2⟩⟩⟩⟩⟩)⟩, ⟨by (with_reducible repeat (first | apply Kd.R_alloc | apply Kd.R_drewN | apply Kd.R_drew)); exact Kd.R_mono HO409.out (fun _ hk => trivial)⟩, ⟨by (with_reducible repeat (first | refine blk_drewN ?_ _ | refine blk_drew ?_ | refine blk_alloc ?_ _)); exact BK391.out⟩, ⟨by (with_reducible repeat (first | refine blk_drewN ?_ _ | refine blk_drew ?_ | refine blk_alloc ?_ _)); exact BK410.out⟩, ⟨by repeat (first | (with_reducible first | exact HB.out | apply below_alloc | apply pw_below_drewN | apply below_drew1 | refine below_set ?_ GE391.out | refine below_set ?_ GE410.out) | exact HB.out)⟩⟩
      case round =>
       clear H'
       try clear c1
       try clear c2
       try clear p2
       try clear c3
       try clear c5
       try clear c13
       try clear c20
       try clear c38
       try clear c54
       try clear hcz55_0
       try clear hcz55_1
       try clear hfz55_0
       try clear hfz55_1
       obtain ⟨x17_2, rfl, HA, HK2, HO_12, HO_13, HO_16, HO_392001, HO_411001, BK391, BK410, HB⟩ := hrel
       cases gk with
       | zero => exact absurd HA.out (by simp [intervalmonlaw29_RouteMonotone.l0])
       | succ k2 =>
        have H := HA.out
        clear HA
        simp only [intervalmonlaw29_RouteMonotone.l0] at H
        have HC57 := Aside0.mk H
        clear H
        go_upto_region 11 with (fail)
        go_cut [82] (fun v82 wc => ∃ (kq : Nat) (x82_56 : Bool), v82 = .bool x82_56 ∧ Aside0 (intervalmonlaw29_RouteMonotone.j2 kq a4 t392 t395 t411 x17_2 x82_56 t387 t388 t387 y407 = some r) ∧ Aside0 (kq ≤ k2) ∧ Aside0 (Kd.R Kd.bool 4 wc w.heap.size (fun k_ => some k_ ≠ (v396 : Value).ownBlock ∧ some k_ ≠ (v412 : Value).ownBlock) (.slice Ao19 t392.length co19) t392) ∧ Aside0 (Kd.R Kd.bool 4 wc w.heap.size (fun k_ => some k_ ≠ ((.slice Ao19 t392.length co19) : Value).ownBlock ∧ some k_ ≠ (v412 : Value).ownBlock) v396 t395) ∧ Aside0 (Kd.R Kd.bool 4 wc w.heap.size (fun k_ => some k_ ≠ ((.slice Ao19 t392.length co19) : Value).ownBlock ∧ some k_ ≠ (v396 : Value).ownBlock) v412 t411) ∧ Aside0 (Kd.V k27 27 wc w.heap.size (fun k_ => some k_ ≠ ((.slice Ao19 t392.length co19) : Value).ownBlock ∧ some k_ ≠ (v396 : Value).ownBlock ∧ some k_ ≠ (v412 : Value).ownBlock ∧ some k_ ≠ ((.slice Ao51 y407.length co51) : Value).ownBlock ∧ k_ ≠ gb391 ∧ k_ ≠ gb410) (.slice Ao16 t388.length co16) t388) ∧ Aside0 (Kd.R k27 27 wc w.heap.size (fun _ => True) (.slice Ao51 y407.length co51) y407) ∧ Aside0 (wc.heap[gb391]? = some (.cells #[.int .i64 t387, (.slice Ao16 t388.length co16)] 31 (0, 0))) ∧ Aside0 (wc.heap[gb410]? = some (.cells #[.int .i64 t387, (.slice Ao51 y407.length co51)] 31 (0, 0))) ∧ Aside0 (Below w.heap.size w wc))
        case first =>
         have H := HC57.out
         clear HC57
         by_cases c58 : x17_2 < t387
         ·rw [if_pos c58] at H
          have c58b0 : decide (x17_2 < t387) = true := decide_eq_true c58
          clear c58
          (first | rw [c58b0] | (simp only [i64_w, i32_w]; rw [c58b0]) | skip)
          replace H := Option.bind_eq_some_iff.mp H
          obtain ⟨t414, A590, H⟩ := H
          replace H : (intervalmonlaw29_RouteMonotone.j2 k2 a4 t392 t395 t411 x17_2 (t414 == 0) t387 t388 t387 y407) = some r := H
          have A59 := Aside0.mk A590
          clear A590
          have H' := Aside0.mk H
          clear H
          have hnb60 := NB391_410.out
          have hnc60 := NB410_391.out
          have hcz61_0 : wr.cell? ⟨gb391, 0, none⟩ = some (.int .i64 t387) := (blk_cell BK391.out 0).trans rfl
          have hcz61_1 : wr.cell? ⟨gb391, 1, none⟩ = some (.slice Ao16 t388.length co16) := (blk_cell BK391.out 1).trans rfl
          have hfz61_0 := blk_frozen BK391.out 0
          have hfz61_1 := blk_frozen BK391.out 1
          have hcz62_0 : wr.cell? ⟨gb410, 0, none⟩ = some (.int .i64 t387) := (blk_cell BK410.out 0).trans rfl
          have hcz62_1 : wr.cell? ⟨gb410, 1, none⟩ = some (.slice Ao51 y407.length co51) := (blk_cell BK410.out 1).trans rfl
          have hfz62_0 := blk_frozen BK410.out 0
          have hfz62_1 := blk_frozen BK410.out 1
          go_wp2_with (first | (go_at_call 14; (with_reducible refine (route_Valid.calls k2 t387 _ _ y407 t414 _ ?side1 ?side2 A59.out).mono ?_); (case side1 => repeat (first | exact (Kd.R_reads' HO_411001.out).2.2 | (with_reducible refine Kd.C_alloc ?_ _) | (with_reducible refine Kd.C_drewN ?_ _) | (with_reducible refine Kd.C_drew ?_))); (case side2 => exact (Kd.R_reads' HO_411001.out).2.1); rintro e w63 ⟨rfl, hb⟩; have n0_ := Aside0.mk (Kd.R_below (rq HO_12) hb); have n1_ := Aside0.mk (Kd.R_below (rq HO_13) hb); have n2_ := Aside0.mk (Kd.R_below (rq HO_16) hb); have n3_ := Aside0.mk (Kd.V_below (vq HO_392001) hb); have n4_ := Aside0.mk (Kd.R_below (rq HO_411001) hb); have n5_ := Aside0.mk (blk_below (g := gb391) (o := .cells #[.int .i64 t387, .slice Ao16 t388.length co16] 31 (0, 0)) (bq BK391) hb); have n6_ := Aside0.mk (blk_below (g := gb410) (o := .cells #[.int .i64 t387, .slice Ao51 y407.length co51] 31 (0, 0)) (bq BK410) hb); have n7_ := Aside0.mk (below_step (hq HB) hb); clear HO_12; clear HO_13; clear HO_16; clear HO_392001; clear HO_411001; clear BK391; clear BK410; clear HB; have HO_12 := n0_; have HO_13 := n1_; have HO_16 := n2_; have HO_392001 := n3_; have HO_411001 := n4_; have BK391 := n5_; have BK410 := n6_; have HB := n7_; clear n0_ n1_ n2_ n3_ n4_ n5_ n6_ n7_; (try clear hb); (try clear hb2); (try clear hk); (try clear hi)))
          go_meet
          case rel => exact ⟨_, ((t414 == 0)), (by first | rfl | (simp; done) | (simp [*]; done)), H', ⟨by have := HJ9.out; have := HK2.out; first | omega | exact Nat.le_refl _⟩, ⟨by (with_reducible repeat (first | apply Kd.R_alloc | apply Kd.R_drewN | apply Kd.R_drew)); exact HO_12.out⟩, ⟨by (with_reducible repeat (first | apply Kd.R_alloc | apply Kd.R_drewN | apply Kd.R_drew)); exact HO_13.out⟩, ⟨by (with_reducible repeat (first | apply Kd.R_alloc | apply Kd.R_drewN | apply Kd.R_drew)); exact HO_16.out⟩, ⟨by (with_reducible repeat (first | apply Kd.V_alloc | apply Kd.V_drewN | apply Kd.V_drew)); exact HO_392001.out⟩, ⟨by (with_reducible repeat (first | apply Kd.R_alloc | apply Kd.R_drewN | apply Kd.R_drew)); exact HO_411001.out⟩, ⟨by (with_reducible repeat (first | refine blk_drewN ?_ _ | refine blk_drew ?_ | refine blk_alloc ?_ _)); exact BK391.out⟩, ⟨by (with_reducible repeat (first | refine blk_drewN ?_ _ | refine blk_drew ?_ | refine blk_alloc ?_ _)); exact BK410.out⟩, ⟨by repeat (first | (with_reducible first | exact HB.out | apply below_alloc | apply pw_below_drewN | apply below_drew1 | refine below_set ?_ GE391.out | refine below_set ?_ GE410.out) | exact HB.out)⟩⟩
         ·rw [if_neg c58] at H
          have c58b0 : decide (x17_2 < t387) = false := decide_eq_false c58
          clear c58
          (first | rw [c58b0] | (simp only [i64_w, i32_w]; rw [c58b0]) | skip)
          have H' := Aside0.mk H
          clear H
          have hnb64 := NB391_410.out
          have hnc64 := NB410_391.out
          have hcz65_0 : wr.cell? ⟨gb391, 0, none⟩ = some (.int .i64 t387) := (blk_cell BK391.out 0).trans rfl
          have hcz65_1 : wr.cell? ⟨gb391, 1, none⟩ = some (.slice Ao16 t388.length co16) := (blk_cell BK391.out 1).trans rfl
          have hfz65_0 := blk_frozen BK391.out 0
          have hfz65_1 := blk_frozen BK391.out 1
          go_wp2
          go_meet
          case rel => exact ⟨_, (false), (by first | rfl | (simp; done) | (simp [*]; done)), H', ⟨by have := HJ9.out; have := HK2.out; first | omega | exact Nat.le_refl _⟩, ⟨by (with_reducible repeat (first | apply Kd.R_alloc | apply Kd.R_drewN | apply Kd.R_drew)); exact HO_12.out⟩, ⟨by (with_reducible repeat (first | apply Kd.R_alloc | apply Kd.R_drewN | apply Kd.R_drew)); exact HO_13.out⟩, ⟨by (with_reducible repeat (first | apply Kd.R_alloc | apply Kd.R_drewN | apply Kd.R_drew)); exact HO_16.out⟩, ⟨by (with_reducible repeat (first | apply Kd.V_alloc | apply Kd.V_drewN | apply Kd.V_drew)); exact HO_392001.out⟩, ⟨by (with_reducible repeat (first | apply Kd.R_alloc | apply Kd.R_drewN | apply Kd.R_drew)); exact HO_411001.out⟩, ⟨by (with_reducible repeat (first | refine blk_drewN ?_ _ | refine blk_drew ?_ | refine blk_alloc ?_ _)); exact BK391.out⟩, ⟨by (with_reducible repeat (first | refine blk_drewN ?_ _ | refine blk_drew ?_ | refine blk_alloc ?_ _)); exact BK410.out⟩, ⟨by repeat (first | (with_reducible first | exact HB.out | apply below_alloc | apply pw_below_drewN | apply below_drew1 | refine below_set ?_ GE391.out | refine below_set ?_ GE410.out) | exact HB.out)⟩⟩
        case rest =>
         clear HC57
         try clear c1
         try clear c2
         try clear p2
         try clear c3
         try clear c5
         try clear c6
         try clear c13
         try clear c20
         try clear c38
         try clear c54
         try clear c58
         try clear c58b0
         try clear c60
         try clear c64
         try clear hcz55_0
         try clear hcz55_1
         try clear hcz61_0
         try clear hcz61_1
         try clear hcz62_0
         try clear hcz62_1
         try clear hcz65_0
         try clear hcz65_1
         try clear hfz55_0
         try clear hfz55_1
         try clear hfz61_0
         try clear hfz61_1
         try clear hfz62_0
         try clear hfz62_1
         try clear hfz65_0
         try clear hfz65_1
         try clear p2
         obtain ⟨kq, x82_56, rfl, HA, HJ56, HO_12, HO_13, HO_16, HO_392001, HO_411001, BK391, BK410, HB⟩ := hcut
         cases kq with
         | zero => exact absurd HA.out (by simp [intervalmonlaw29_RouteMonotone.j2])
         | succ kj56 =>
          have H := HA.out
          clear HA
          simp only [intervalmonlaw29_RouteMonotone.j2] at H
          by_cases c66 : x82_56 = true
          ·subst c66
           have H1 : (if (t411.length : Int) = t387 then (if 0 ≤ x17_2 then (if x17_2 < (t395.length : Int) then (if rdOf false t395 x17_2 = true then (if x17_2 < (t411.length : Int) then (if rdOf false t411 x17_2 = true then (intervalmonlaw29_RouteMonotone.l0 kj56 a4 t392 t395 t411 (wrap64 (x17_2 + 1)) t387 t388 t387 y407) else (some false)) else (none)) else (intervalmonlaw29_RouteMonotone.l0 kj56 a4 t392 t395 t411 (wrap64 (x17_2 + 1)) t387 t388 t387 y407)) else (none)) else (none)) else (some false)) = some r := by rw [if_pos rfl] at H; exact H
           clear H
           have H := H1
           clear H1
           by_cases c67 : (t411.length : Int) = t387
           ·rw [if_pos c67] at H
            have c67b0 : ((t411.length : Int) == t387) = true := beq_iff_eq.mpr c67
            have c67b1 : ((t411.length : Int) != t387) = false := bne_eq_false_iff_eq.mpr c67
            clear c67
            by_cases c68 : 0 ≤ x17_2
            ·rw [if_pos c68] at H
             have c68b0 : decide (0 ≤ x17_2) = true := decide_eq_true c68
             clear c68
             by_cases c69 : x17_2 < (t395.length : Int)
             ·rw [if_pos c69] at H
              have c69b0 : decide (x17_2 < (t395.length : Int)) = true := decide_eq_true c69
              clear c69
              obtain ⟨bq70, hbq70⟩ : ∃ b_ : Bool, b_ = (rdOf false t395 x17_2) := ⟨_, rfl⟩
              replace H : (if bq70 = true then (if x17_2 < (t411.length : Int) then (if rdOf false t411 x17_2 = true then (intervalmonlaw29_RouteMonotone.l0 kj56 a4 t392 t395 t411 (wrap64 (x17_2 + 1)) t387 t388 t387 y407) else (some false)) else (none)) else (intervalmonlaw29_RouteMonotone.l0 kj56 a4 t392 t395 t411 (wrap64 (x17_2 + 1)) t387 t388 t387 y407)) = some r := by rw [← hbq70] at H; exact H
              have Nbq70 := Aside0.mk hbq70
              clear hbq70
              by_cases c71 : bq70 = true
              ·subst c71
               have H1 : (if x17_2 < (t411.length : Int) then (if rdOf false t411 x17_2 = true then (intervalmonlaw29_RouteMonotone.l0 kj56 a4 t392 t395 t411 (wrap64 (x17_2 + 1)) t387 t388 t387 y407) else (some false)) else (none)) = some r := by rw [if_pos rfl] at H; exact H
               clear H
               have H := H1
               clear H1
               by_cases c72 : x17_2 < (t411.length : Int)
               ·rw [if_pos c72] at H
                have c72b0 : decide (x17_2 < (t411.length : Int)) = true := decide_eq_true c72
                clear c72
                obtain ⟨bq73, hbq73⟩ : ∃ b_ : Bool, b_ = (rdOf false t411 x17_2) := ⟨_, rfl⟩
                replace H : (if bq73 = true then (intervalmonlaw29_RouteMonotone.l0 kj56 a4 t392 t395 t411 (wrap64 (x17_2 + 1)) t387 t388 t387 y407) else (some false)) = some r := by rw [← hbq73] at H; exact H
                have Nbq73 := Aside0.mk hbq73
                clear hbq73
                by_cases c74 : bq73 = true
                ·subst c74
                 have H1 : (intervalmonlaw29_RouteMonotone.l0 kj56 a4 t392 t395 t411 (wrap64 (x17_2 + 1)) t387 t388 t387 y407) = some r := by rw [if_pos rfl] at H; exact H
                 clear H
                 have H := H1
                 clear H1
                 have H' := Aside0.mk H
                 clear H
                 obtain ⟨Ao75, co75, eo75⟩ := Kd.R_slice HO_16.out
                 subst eo75
                 have hnb76 := NB391_410.out
                 have hnc76 := NB410_391.out
                 have hcz77_0 : wc.cell? ⟨gb391, 0, none⟩ = some (.int .i64 t387) := (blk_cell BK391.out 0).trans rfl
                 have hcz77_1 : wc.cell? ⟨gb391, 1, none⟩ = some (.slice Ao16 t388.length co16) := (blk_cell BK391.out 1).trans rfl
                 have hfz77_0 := blk_frozen BK391.out 0
                 have hfz77_1 := blk_frozen BK391.out 1
                 obtain ⟨Ao78, co78, eo78⟩ := Kd.R_slice HO_13.out
                 subst eo78
                 have p415 : 0 ≤ (x17_2 : Int) := of_decide_eq_true (by first | (with_reducible assumption) | assumption)
                 have q415 : x17_2 < (t395.length : Int) := of_decide_eq_true (by first | (with_reducible assumption) | assumption)
                 obtain ⟨ad415, e415, hx415_0⟩ := Kd.at_bool (Kd.R_reads' HO_13.out).2.2 x17_2 p415 q415
                 (try rw [← Nbq70.out] at hx415_0)
                 (try rw [← Nbq73.out] at hx415_0)
                 cases e415
                 replace p415 := eq_true p415
                 replace q415 := eq_true q415
                 have p416 : 0 ≤ (x17_2 : Int) := of_decide_eq_true (by first | (with_reducible assumption) | assumption)
                 have q416 : x17_2 < (t411.length : Int) := of_decide_eq_true (by first | (with_reducible assumption) | assumption)
                 obtain ⟨ad416, e416, hx416_0⟩ := Kd.at_bool (Kd.R_reads' HO_16.out).2.2 x17_2 p416 q416
                 (try rw [← Nbq70.out] at hx416_0)
                 (try rw [← Nbq73.out] at hx416_0)
                 cases e416
                 replace p416 := eq_true p416
                 replace q416 := eq_true q416
                 go_wp2
                 go_roundg kj56
                 case measure => have := HJ9.out; have := HK2.out; have := HJ56.out; omega
                 case rel => exact ⟨(wrap64 (x17_2 + 1)), (by first | rfl | (simp; done) | (simp [*]; done)), H', ⟨by have := HJ9.out; have := HK2.out; have := HJ56.out; omega⟩, ⟨by (with_reducible repeat (first | apply Kd.R_alloc | apply Kd.R_drewN | apply Kd.R_drew)); exact HO_12.out⟩, ⟨by (with_reducible repeat (first | apply Kd.R_alloc | apply Kd.R_drewN | apply Kd.R_drew)); exact HO_13.out⟩, ⟨by (with_reducible repeat (first | apply Kd.R_alloc | apply Kd.R_drewN | apply Kd.R_drew)); exact HO_16.out⟩, ⟨by (with_reducible repeat (first | apply Kd.V_alloc | apply Kd.V_drewN | apply Kd.V_drew)); exact HO_392001.out⟩, ⟨by (with_reducible repeat (first | apply Kd.R_alloc | apply Kd.R_drewN | apply Kd.R_drew)); exact HO_411001.out⟩, ⟨by (with_reducible repeat (first | refine blk_drewN ?_ _ | refine blk_drew ?_ | refine blk_alloc ?_ _)); exact BK391.out⟩, ⟨by (with_reducible repeat (first | refine blk_drewN ?_ _ | refine blk_drew ?_ | refine blk_alloc ?_ _)); exact BK410.out⟩, ⟨by repeat (first | (with_reducible first | exact HB.out | apply below_alloc | apply pw_below_drewN | apply below_drew1 | refine below_set ?_ GE391.out | refine below_set ?_ GE410.out) | exact HB.out)⟩⟩
                ·replace c74 := Bool.eq_false_iff.mpr c74
                 subst c74
                 have H1 : (some false) = some r := by rw [if_neg (show ¬ (false = true) by decide)] at H; exact H
                 clear H
                 have H := H1
                 clear H1
                 obtain rfl := Option.some.inj H
                 obtain ⟨Ao79, co79, eo79⟩ := Kd.R_slice HO_16.out
                 subst eo79
                 have hnb80 := NB391_410.out
                 have hnc80 := NB410_391.out
                 have hcz81_0 : wc.cell? ⟨gb391, 0, none⟩ = some (.int .i64 t387) := (blk_cell BK391.out 0).trans rfl
                 have hcz81_1 : wc.cell? ⟨gb391, 1, none⟩ = some (.slice Ao16 t388.length co16) := (blk_cell BK391.out 1).trans rfl
                 have hfz81_0 := blk_frozen BK391.out 0
                 have hfz81_1 := blk_frozen BK391.out 1
                 obtain ⟨Ao82, co82, eo82⟩ := Kd.R_slice HO_13.out
                 subst eo82
                 have p415 : 0 ≤ (x17_2 : Int) := of_decide_eq_true (by first | (with_reducible assumption) | assumption)
                 have q415 : x17_2 < (t395.length : Int) := of_decide_eq_true (by first | (with_reducible assumption) | assumption)
                 obtain ⟨ad415, e415, hx415_0⟩ := Kd.at_bool (Kd.R_reads' HO_13.out).2.2 x17_2 p415 q415
                 (try rw [← Nbq70.out] at hx415_0)
                 (try rw [← Nbq73.out] at hx415_0)
                 cases e415
                 replace p415 := eq_true p415
                 replace q415 := eq_true q415
                 have p416 : 0 ≤ (x17_2 : Int) := of_decide_eq_true (by first | (with_reducible assumption) | assumption)
                 have q416 : x17_2 < (t411.length : Int) := of_decide_eq_true (by first | (with_reducible assumption) | assumption)
                 obtain ⟨ad416, e416, hx416_0⟩ := Kd.at_bool (Kd.R_reads' HO_16.out).2.2 x17_2 p416 q416
                 (try rw [← Nbq70.out] at hx416_0)
                 (try rw [← Nbq73.out] at hx416_0)
                 cases e416
                 replace p416 := eq_true p416
                 replace q416 := eq_true q416
                 go_wp2
                 go_ret
                 exact ⟨by first | rfl | (simp [errW_none, errW_some] <;> rfl) | (simp [*, errW_none, errW_some] <;> rfl), by repeat (first | (with_reducible first | exact HB.out | apply below_alloc | apply pw_below_drewN | apply below_drew1 | refine below_set ?_ GE391.out | refine below_set ?_ GE410.out) | exact HB.out)⟩
               ·rw [if_neg c72] at H
                exact absurd H (by simp)
              ·replace c71 := Bool.eq_false_iff.mpr c71
               subst c71
               have H1 : (intervalmonlaw29_RouteMonotone.l0 kj56 a4 t392 t395 t411 (wrap64 (x17_2 + 1)) t387 t388 t387 y407) = some r := by rw [if_neg (show ¬ (false = true) by decide)] at H; exact H
               clear H
               have H := H1
               clear H1
               have H' := Aside0.mk H
               clear H
               obtain ⟨Ao83, co83, eo83⟩ := Kd.R_slice HO_16.out
               subst eo83
               have hnb84 := NB391_410.out
               have hnc84 := NB410_391.out
               have hcz85_0 : wc.cell? ⟨gb391, 0, none⟩ = some (.int .i64 t387) := (blk_cell BK391.out 0).trans rfl
               have hcz85_1 : wc.cell? ⟨gb391, 1, none⟩ = some (.slice Ao16 t388.length co16) := (blk_cell BK391.out 1).trans rfl
               have hfz85_0 := blk_frozen BK391.out 0
               have hfz85_1 := blk_frozen BK391.out 1
               obtain ⟨Ao86, co86, eo86⟩ := Kd.R_slice HO_13.out
               subst eo86
               have p415 : 0 ≤ (x17_2 : Int) := of_decide_eq_true (by first | (with_reducible assumption) | assumption)
               have q415 : x17_2 < (t395.length : Int) := of_decide_eq_true (by first | (with_reducible assumption) | assumption)
               obtain ⟨ad415, e415, hx415_0⟩ := Kd.at_bool (Kd.R_reads' HO_13.out).2.2 x17_2 p415 q415
               (try rw [← Nbq70.out] at hx415_0)
               cases e415
               replace p415 := eq_true p415
               replace q415 := eq_true q415
               go_wp2
               go_roundg kj56
               case measure => have := HJ9.out; have := HK2.out; have := HJ56.out; omega
               case rel => exact ⟨(wrap64 (x17_2 + 1)), (by first | rfl | (simp; done) | (simp [*]; done)), H', ⟨by have := HJ9.out; have := HK2.out; have := HJ56.out; omega⟩, ⟨by (with_reducible repeat (first | apply Kd.R_alloc | apply Kd.R_drewN | apply Kd.R_drew)); exact HO_12.out⟩, ⟨by (with_reducible repeat (first | apply Kd.R_alloc | apply Kd.R_drewN | apply Kd.R_drew)); exact HO_13.out⟩, ⟨by (with_reducible repeat (first | apply Kd.R_alloc | apply Kd.R_drewN | apply Kd.R_drew)); exact HO_16.out⟩, ⟨by (with_reducible repeat (first | apply Kd.V_alloc | apply Kd.V_drewN | apply Kd.V_drew)); exact HO_392001.out⟩, ⟨by (with_reducible repeat (first | apply Kd.R_alloc | apply Kd.R_drewN | apply Kd.R_drew)); exact HO_411001.out⟩, ⟨by (with_reducible repeat (first | refine blk_drewN ?_ _ | refine blk_drew ?_ | refine blk_alloc ?_ _)); exact BK391.out⟩, ⟨by (with_reducible repeat (first | refine blk_drewN ?_ _ | refine blk_drew ?_ | refine blk_alloc ?_ _)); exact BK410.out⟩, ⟨by repeat (first | (with_reducible first | exact HB.out | apply below_alloc | apply pw_below_drewN | apply below_drew1 | refine below_set ?_ GE391.out | refine below_set ?_ GE410.out) | exact HB.out)⟩⟩
             ·rw [if_neg c69] at H
              exact absurd H (by simp)
            ·rw [if_neg c68] at H
             exact absurd H (by simp)
           ·rw [if_neg c67] at H
            have c67b0 : ((t411.length : Int) == t387) = false := beq_eq_false_iff_ne.mpr c67
            have c67b1 : ((t411.length : Int) != t387) = true := bne_iff_ne.mpr c67
            obtain rfl := Option.some.inj H
            obtain ⟨Ao87, co87, eo87⟩ := Kd.R_slice HO_16.out
            subst eo87
            have hnb88 := NB391_410.out
            have hnc88 := NB410_391.out
            have hcz89_0 : wc.cell? ⟨gb391, 0, none⟩ = some (.int .i64 t387) := (blk_cell BK391.out 0).trans rfl
            have hcz89_1 : wc.cell? ⟨gb391, 1, none⟩ = some (.slice Ao16 t388.length co16) := (blk_cell BK391.out 1).trans rfl
            have hfz89_0 := blk_frozen BK391.out 0
            have hfz89_1 := blk_frozen BK391.out 1
            go_wp2
            go_ret
            exact ⟨by first | rfl | (simp [errW_none, errW_some] <;> rfl) | (simp [*, errW_none, errW_some] <;> rfl), by repeat (first | (with_reducible first | exact HB.out | apply below_alloc | apply pw_below_drewN | apply below_drew1 | refine below_set ?_ GE391.out | refine below_set ?_ GE410.out) | exact HB.out)⟩
          ·replace c66 := Bool.eq_false_iff.mpr c66
           subst c66
           have H1 : ((intervalmonref01_Around.f a4 t387).bind fun t417 => (if 0 ≤ t417 then (if t417 < (t395.length : Int) then (if rdOf false t395 t417 = true then (if t417 < (t392.length : Int) then ((route_Inhibited.f kj56 t387 t388 (t392.set (t417 : Int).toNat false)).bind fun t421 => (intervalmonlaw29_RouteMonotone.l1 kj56 t395 t417 t421 0 t387 t388)) else (none)) else ((intervalmonlaw29_lives.f kj56).bind fun t419 => (some t419))) else (none)) else (none))) = some r := by rw [if_neg (show ¬ (false = true) by decide)] at H; exact H
           clear H
           have H := H1
           clear H1
           replace H := Option.bind_eq_some_iff.mp H
           obtain ⟨t417, A900, H⟩ := H
           replace H : (if 0 ≤ t417 then (if t417 < (t395.length : Int) then (if rdOf false t395 t417 = true then (if t417 < (t392.length : Int) then ((route_Inhibited.f kj56 t387 t388 (t392.set (t417 : Int).toNat false)).bind fun t421 => (intervalmonlaw29_RouteMonotone.l1 kj56 t395 t417 t421 0 t387 t388)) else (none)) else ((intervalmonlaw29_lives.f kj56).bind fun t419 => (some t419))) else (none)) else (none)) = some r := H
           have A90 := Aside0.mk A900
           clear A900
           by_cases c91 : 0 ≤ t417
           ·rw [if_pos c91] at H
            have c91b0 : decide (0 ≤ t417) = true := decide_eq_true c91
            clear c91
            by_cases c92 : t417 < (t395.length : Int)
            ·rw [if_pos c92] at H
             have c92b0 : decide (t417 < (t395.length : Int)) = true := decide_eq_true c92
             clear c92
             obtain ⟨bq93, hbq93⟩ : ∃ b_ : Bool, b_ = (rdOf false t395 t417) := ⟨_, rfl⟩
             replace H : (if bq93 = true then (if t417 < (t392.length : Int) then ((route_Inhibited.f kj56 t387 t388 (t392.set (t417 : Int).toNat false)).bind fun t421 => (intervalmonlaw29_RouteMonotone.l1 kj56 t395 t417 t421 0 t387 t388)) else (none)) else ((intervalmonlaw29_lives.f kj56).bind fun t419 => (some t419))) = some r := by rw [← hbq93] at H; exact H
             have Nbq93 := Aside0.mk hbq93
             clear hbq93
             by_cases c94 : bq93 = true
             ·subst c94
              have H1 : (if t417 < (t392.length : Int) then ((route_Inhibited.f kj56 t387 t388 (t392.set (t417 : Int).toNat false)).bind fun t421 => (intervalmonlaw29_RouteMonotone.l1 kj56 t395 t417 t421 0 t387 t388)) else (none)) = some r := by rw [if_pos rfl] at H; exact H
              clear H
              have H := H1
              clear H1
              by_cases c95 : t417 < (t392.length : Int)
              ·rw [if_pos c95] at H
               have c95b0 : decide (t417 < (t392.length : Int)) = true := decide_eq_true c95
               clear c95
               obtain ⟨y420, hy420⟩ : ∃ y_ : List Bool, y_ = (t392.set (t417 : Int).toNat false) := ⟨_, rfl⟩
               replace H : ((route_Inhibited.f kj56 t387 t388 y420).bind fun t421 => (intervalmonlaw29_RouteMonotone.l1 kj56 t395 t417 t421 0 t387 t388)) = some r := by first | (rw [hy420]; with_reducible exact H) | (have H2_ := (Option.bind_some _ _).symm.trans H; rw [hy420]; with_reducible exact H2_) | (have H2_ := (Option.bind_some _ _).symm.trans H; with_reducible exact H2_) | with_reducible exact H | (rw [hy420]; exact H) | exact H
               have Ny420 := Aside0.mk hy420
               clear hy420
               replace H := Option.bind_eq_some_iff.mp H
               obtain ⟨t421, A970, H⟩ := H
               replace H : (intervalmonlaw29_RouteMonotone.l1 kj56 t395 t417 t421 0 t387 t388) = some r := H
               have A97 := Aside0.mk A970
               clear A970
               have H' := Aside0.mk H
               clear H
               have hnb98 := NB391_410.out
               have hnc98 := NB410_391.out
               have hcz99_0 : wc.cell? ⟨gb391, 0, none⟩ = some (.int .i64 t387) := (blk_cell BK391.out 0).trans rfl
               have hcz99_1 : wc.cell? ⟨gb391, 1, none⟩ = some (.slice Ao16 t388.length co16) := (blk_cell BK391.out 1).trans rfl
               have hfz99_0 := blk_frozen BK391.out 0
               have hfz99_1 := blk_frozen BK391.out 1
               go_wp2_with (first | ((with_reducible refine gate_callee (f := 13) rfl ?_); refine goesL_ (some 106) rfl rfl Try.func13 (by kernel_rfl) rfl #[.int .i64 a4, .int .i64 t387] rfl aq ?_; (with_reducible refine (intervalmonref01_Around.calls a4 t387 t417 _ A90.out).mono ?_); rintro e w' ⟨rfl, ⟨nd, rfl⟩⟩; refine ⟨_, rfl, ?_⟩; (try (rw [drewN_self wc]; generalize hq_ : World.drewN wc _ = wc; have n0_ : Aside0 (Kd.R Kd.bool 4 wc w.heap.size (fun k_ => some k_ ≠ (v396 : Value).ownBlock ∧ some k_ ≠ (v412 : Value).ownBlock) (.slice Ao19 t392.length co19) t392) := ⟨by rw [← hq_]; exact (rq HO_12)⟩; have n1_ : Aside0 (Kd.R Kd.bool 4 wc w.heap.size (fun k_ => some k_ ≠ (.slice Ao19 t392.length co19 : Value).ownBlock ∧ some k_ ≠ (v412 : Value).ownBlock) v396 t395) := ⟨by rw [← hq_]; exact (rq HO_13)⟩; have n2_ : Aside0 (Kd.R Kd.bool 4 wc w.heap.size (fun k_ => some k_ ≠ (.slice Ao19 t392.length co19 : Value).ownBlock ∧ some k_ ≠ (v396 : Value).ownBlock) v412 t411) := ⟨by rw [← hq_]; exact (rq HO_16)⟩; have n3_ : Aside0 (Kd.V k27 27 wc w.heap.size (fun k_ => some k_ ≠ (.slice Ao19 t392.length co19 : Value).ownBlock ∧ some k_ ≠ (v396 : Value).ownBlock ∧ some k_ ≠ (v412 : Value).ownBlock ∧ some k_ ≠ (.slice Ao51 y407.length co51 : Value).ownBlock ∧ k_ ≠ gb391 ∧ k_ ≠ gb410) (.slice Ao16 t388.length co16) t388) := ⟨by rw [← hq_]; exact (vq HO_392001)⟩; have n4_ : Aside0 (Kd.R k27 27 wc w.heap.size (fun _ => True) (.slice Ao51 y407.length co51) y407) := ⟨by rw [← hq_]; exact (rq HO_411001)⟩; have n5_ : Aside0 (wc.heap[gb391]? = some (.cells #[.int .i64 t387, .slice Ao16 t388.length co16] 31 (0, 0))) := ⟨by rw [← hq_]; exact (bq BK391)⟩; have n6_ : Aside0 (wc.heap[gb410]? = some (.cells #[.int .i64 t387, .slice Ao51 y407.length co51] 31 (0, 0))) := ⟨by rw [← hq_]; exact (bq BK410)⟩; have n7_ : Aside0 (Below w.heap.size w wc) := ⟨by rw [← hq_]; exact (hq HB)⟩; clear HO_12 HO_13 HO_16 HO_392001 HO_411001 BK391 BK410 HB hq_; have HO_12 := n0_; have HO_13 := n1_; have HO_16 := n2_; have HO_392001 := n3_; have HO_411001 := n4_; have BK391 := n5_; have BK410 := n6_; have HB := n7_; clear n0_ n1_ n2_ n3_ n4_ n5_ n6_ n7_)); obtain ⟨Ao100, co100, eo100⟩ := Kd.R_slice HO_13.out; subst eo100; have p418 : 0 ≤ (t417 : Int) := of_decide_eq_true (by first | (with_reducible assumption) | assumption); have q418 : t417 < (t395.length : Int) := of_decide_eq_true (by first | (with_reducible assumption) | assumption); obtain ⟨ad418, e418, hx418_0⟩ := Kd.at_bool (Kd.R_reads' HO_13.out).2.2 t417 p418 q418; (try rw [← Nbq93.out] at hx418_0); cases e418; replace p418 := eq_true p418; replace q418 := eq_true q418; have p96 : 0 ≤ (t417 : Int) := of_decide_eq_true (by first | (with_reducible assumption) | assumption); have q96 : (t417 : Int) < ((t392.length : Int) : Int) := of_decide_eq_true (by first | (with_reducible assumption) | assumption); obtain ⟨go96, co96, eo96, gb96, gl96, cl96, HG96⟩ := Kd.R_form HO_12.out (by omega); (first | cases eo96 | (injection eo96 with ea_ en_ ec_; (first | subst ea_ | (injection ea_ with ea_; subst ea_)); subst ec_; clear en_)); have GB96 := Aside0.mk gb96; have GG96 := Aside0.mk HG96; clear gb96 gl96 HG96; obtain ⟨hx96_0, hf96_0⟩ := Kd.R_celln false HO_12.out (t417 : Int) p96 q96; replace p96 := eq_true p96; replace q96 := eq_true q96; obtain ⟨hy101_, hz101_⟩ := Kd.R_celln false HO_12.out (t417 : Int) (of_decide_eq_true (by first | (with_reducible assumption) | assumption)) (of_decide_eq_true (by first | (with_reducible assumption) | assumption)); have HP101 := Kd.R_putg HO_12.out (t417 : Int) false) | ((with_reducible refine gate_store (t := 4) (p := 115) rfl ?_); refine store_event (t := 4) (p := 115) (v := ?vo_w102) (w1 := (wc.setCell ⟨go96, (t417 : Int).toNat, none⟩ (.bool false))) ?hg ?ho ?hn ?hr ?_; (case ho => rfl); (case hg => rfl); (case hn => rfl); (case hr => first | (go_simp; done) | (go_simp; rfl)); intro w102 hw; have hg : wc.grownBy w102 (some go96) := (by rw [hw]; exact HP101.2); have hp_ : Kd.R Kd.bool 4 w102 w.heap.size (fun k_ => some k_ ≠ (.slice (some ad418) t395.length co100 : Value).ownBlock ∧ some k_ ≠ (v412 : Value).ownBlock) (.slice (some ⟨go96, 0, none⟩) t392.length co19) y420 := (by rw [hw, Ny420.out]; exact HP101.1); clear HP101; have n0_ := Aside0.mk (hp_); have n1_ := Aside0.mk (Kd.R_after (v := (.slice (some ⟨go96, 0, none⟩) t392.length co19)) (v1 := (.slice (some ⟨go96, 0, none⟩) t392.length co19)) (ok := (fun k_ => some k_ ≠ (v412 : Value).ownBlock)) (by (with_reducible repeat (first | apply Kd.R_alloc | apply Kd.R_drewN | apply Kd.R_drew)); exact Kd.R_mono HO_13.out (fun _ hk => ⟨hk.2, hk.1⟩)) hg (.inl rfl)); have n2_ := Aside0.mk (Kd.R_after (v := (.slice (some ⟨go96, 0, none⟩) t392.length co19)) (v1 := (.slice (some ⟨go96, 0, none⟩) t392.length co19)) (ok := (fun k_ => some k_ ≠ (.slice (some ad418) t395.length co100 : Value).ownBlock)) (by (with_reducible repeat (first | apply Kd.R_alloc | apply Kd.R_drewN | apply Kd.R_drew)); exact Kd.R_mono HO_16.out (fun _ hk => ⟨hk.2, hk.1⟩)) hg (.inl rfl)); have n3_ := Aside0.mk (Kd.V_afterv (v := (.slice (some ⟨go96, 0, none⟩) t392.length co19)) (v1 := (.slice (some ⟨go96, 0, none⟩) t392.length co19)) (ok := (fun k_ => some k_ ≠ (.slice (some ad418) t395.length co100 : Value).ownBlock ∧ some k_ ≠ (v412 : Value).ownBlock ∧ some k_ ≠ (.slice Ao51 y407.length co51 : Value).ownBlock ∧ k_ ≠ gb391 ∧ k_ ≠ gb410)) (by (with_reducible repeat (first | apply Kd.V_alloc | apply Kd.V_drewN | apply Kd.V_drew)); exact Kd.V_mono HO_392001.out (fun _ hk => ⟨⟨hk.2.1, ⟨hk.2.2.1, ⟨hk.2.2.2.1, ⟨hk.2.2.2.2.1, hk.2.2.2.2.2⟩⟩⟩⟩, hk.1⟩)) hg (.inl rfl)); have n4_ := Aside0.mk (Kd.R_over' (v := (.slice (some ⟨go96, 0, none⟩) t392.length co19)) (rq HO_411001) (Kd.R_typed HO_12.out) (by decide) hg); have n5_ := Aside0.mk (blk_grown (g := gb391) (o := .cells #[.int .i64 t387, .slice Ao16 t388.length co16] 31 (0, 0)) (bq BK391) hg (Kd.R_ne HO_12.out BK391.out (by decide))); have n6_ := Aside0.mk (blk_grown (g := gb410) (o := .cells #[.int .i64 t387, .slice Ao51 y407.length co51] 31 (0, 0)) (bq BK410) hg (Kd.R_ne HO_12.out BK410.out (by decide))); have n7_ := Aside0.mk ((by rw [hw]; exact below_set (HB.out) GB96.out : Below w.heap.size w w102)); clear HO_12; clear HO_13; clear HO_16; clear HO_392001; clear HO_411001; clear BK391; clear BK410; clear HB; have HO_12 := n0_; have HO_13 := n1_; have HO_16 := n2_; have HO_392001 := n3_; have HO_411001 := n4_; have BK391 := n5_; have BK410 := n6_; have HB := n7_; clear n0_ n1_ n2_ n3_ n4_ n5_ n6_ n7_; clear hg hw hp_; have hcz103_0 : w102.cell? ⟨gb391, 0, none⟩ = some (.int .i64 t387) := (blk_cell BK391.out 0).trans rfl; have hcz103_1 : w102.cell? ⟨gb391, 1, none⟩ = some (.slice Ao16 t388.length co16) := (blk_cell BK391.out 1).trans rfl; have hfz103_0 := blk_frozen BK391.out 0; have hfz103_1 := blk_frozen BK391.out 1) | ((with_reducible refine gate_callee (f := 20) rfl ?_); refine goesL_ (some 118) rfl rfl Try.func20 (by kernel_rfl) rfl #[.agg #[.int .i64 t387, .slice Ao16 t388.length co16], .slice (some ⟨go96, 0, none⟩) y420.length co19] rfl (by (try simp only [List.map_toArray, List.map_cons, List.map_nil]); first | done | (rw [show y420.length = t392.length from (Kd.R_reads' HO_12.out).1.symm] <;> rfl) | rfl | (simp only [List.length_drop, List.length_take]; rfl)) ?_; (with_reducible refine (route_Inhibited.calls kj56 t387 _ _ t388 _ _ y420 t421 _ ?side1 ?side2 ?side3 ?side4 A97.out).mono ?_); (case side1 => repeat (first | exact (Kd.V_reads' HO_392001.out).2.2 | (with_reducible refine Kd.C_alloc ?_ _) | (with_reducible refine Kd.C_drewN ?_ _) | (with_reducible refine Kd.C_drew ?_))); (case side2 => exact (Kd.V_reads' HO_392001.out).2.1); (case side3 => repeat (first | exact (Kd.R_reads' HO_12.out).2.2 | (with_reducible refine Kd.C_alloc ?_ _) | (with_reducible refine Kd.C_drewN ?_ _) | (with_reducible refine Kd.C_drew ?_))); (case side4 => rw [show y420.length = t392.length from (Kd.R_reads' HO_12.out).1.symm]; exact (Kd.R_reads' HO_12.out).2.1); rintro e w104 ⟨v422, rfl, ho0, hb⟩; refine ⟨_, rfl, ?_⟩; have n0_ := Aside0.mk (Kd.R_elder' (rq HO_12) (Kd.R_base ho0) hb); have n1_ := Aside0.mk (Kd.R_elder' (rq HO_13) (Kd.R_base ho0) hb); have n2_ := Aside0.mk (Kd.R_elder' (rq HO_16) (Kd.R_base ho0) hb); have n3_ := Aside0.mk (Kd.V_elder' (vq HO_392001) (Kd.R_base ho0) hb); have n4_ := Aside0.mk (Kd.R_below (rq HO_411001) hb); have n5_ := Aside0.mk (Kd.R_lower (Kd.R_new' (Kd.R_new' (Kd.R_new' ho0 (Kd.R_lt (rq HO_12))) (Kd.R_lt (rq HO_13))) (Kd.R_lt (rq HO_16))) (below_size (hq HB))); have n6_ := Aside0.mk (blk_below (g := gb391) (o := .cells #[.int .i64 t387, .slice Ao16 t388.length co16] 31 (0, 0)) (bq BK391) hb); have n7_ := Aside0.mk (blk_below (g := gb410) (o := .cells #[.int .i64 t387, .slice Ao51 y407.length co51] 31 (0, 0)) (bq BK410) hb); have n8_ := Aside0.mk (below_step (hq HB) hb); clear HO_12; clear HO_13; clear HO_16; clear HO_392001; clear HO_411001; clear BK391; clear BK410; clear HB; have HO_12 := n0_; have HO_13 := n1_; have HO_16 := n2_; have HO_392001 := n3_; have HO_411001 := n4_; have HO423 := n5_; have BK391 := n6_; have BK410 := n7_; have HB := n8_; clear n0_ n1_ n2_ n3_ n4_ n5_ n6_ n7_ n8_; (try clear hb); (try clear hb2); (try clear hk); (try clear hi); (try clear ho0)))
               go_loopg [20] kj56 (fun kq v20 w' => ∃ (x20_4 : Int), v20 = .int .i64 x20_4 ∧ Aside0 (intervalmonlaw29_RouteMonotone.l1 kq t395 t417 t421 x20_4 t387 t388 = some r) ∧ Aside0 (kq ≤ kj56) ∧ Aside0 (Kd.R Kd.bool 4 w' w.heap.size (fun k_ => some k_ ≠ (v422 : Value).ownBlock) (.slice (some ad418) t395.length co100) t395) ∧ Aside0 (Kd.R Kd.bool 4 w' w.heap.size (fun k_ => some k_ ≠ ((.slice (some ad418) t395.length co100) : Value).ownBlock) v422 t421) ∧ Aside0 (Kd.V k27 27 w' w.heap.size (fun k_ => some k_ ≠ ((.slice (some ad418) t395.length co100) : Value).ownBlock ∧ some k_ ≠ (v422 : Value).ownBlock ∧ some k_ ≠ ((.slice Ao51 y407.length co51) : Value).ownBlock ∧ k_ ≠ gb391 ∧ k_ ≠ gb410) (.slice Ao16 t388.length co16) t388) ∧ Aside0 (Kd.R k27 27 w' w.heap.size (fun _ => True) (.slice Ao51 y407.length co51) y407) ∧ Aside0 (w'.heap[gb391]? = some (.cells #[.int .i64 t387, (.slice Ao16 t388.length co16)] 31 (0, 0))) ∧ Aside0 (w'.heap[gb410]? = some (.cells #[.int .i64 t387, (.slice Ao51 y407.length co51)] 31 (0, 0))) ∧ Aside0 (Below w.heap.size w w'))
               case atStart => exact ⟨(0), (by first | rfl | (simp; done) | (simp [*]; done)), H', ⟨Nat.le_refl _⟩, ⟨by (with_reducible repeat (first | apply Kd.R_alloc | apply Kd.R_drewN | apply Kd.R_drew)); exact Kd.R_mono HO_13.out (fun _ hk => hk.2)⟩, ⟨by (with_reducible repeat (first | apply Kd.R_alloc | apply Kd.R_drewN | apply Kd.R_drew)); exact Kd.R_mono HO423.out (fun _ hk => hk.1.2)⟩, ⟨by (with_reducible repeat (first | apply Kd.V_alloc | apply Kd.V_drewN | apply Kd.V_drew)); exact Kd.V_mono HO_392001.out (fun _ hk => ⟨hk.1.1.1, ⟨hk.2, ⟨hk.1.1.2.2.1, ⟨hk.1.1.2.2.2.1, hk.1.1.2.2.2.2⟩⟩⟩⟩)⟩, ⟨by (with_reducible repeat (first | apply Kd.R_alloc | apply Kd.R_drewN | apply Kd.R_drew)); exact HO_411001.out⟩, ⟨by (with_reducible repeat (first | refine blk_drewN ?_ _ | refine blk_drew ?_ | refine blk_alloc ?_ _)); exact BK391.out⟩, ⟨by (with_reducible repeat (first | refine blk_drewN ?_ _ | refine blk_drew ?_ | refine blk_alloc ?_ _)); exact BK410.out⟩, ⟨by repeat (first | (with_reducible first | exact HB.out | apply below_alloc | apply pw_below_drewN | apply below_drew1 | refine below_set ?_ GE391.out | refine below_set ?_ GE410.out) | exact HB.out)⟩⟩
               case round =>
                clear H'
                try clear c1
                try clear c2
                try clear p2
                try clear c3
                try clear p4
                try clear q4
                try clear hx4
                try clear c5
                try clear c6
                try clear p6
                try clear c7
                try clear q7
                try clear c8
                try clear c9
                try clear p9
                try clear q9
                try clear hx9
                try clear hf9
                try clear c13
                try clear c20
                try clear c38
                try clear p41
                try clear q41
                try clear hx41
                try clear c54
                try clear c58
                try clear c58b0
                try clear c60
                try clear c64
                try clear p64
                try clear c66
                try clear c67
                try clear c67b0
                try clear c67b1
                try clear c68
                try clear c68b0
                try clear c69
                try clear c69b0
                try clear q70
                try clear c71
                try clear c72
                try clear c72b0
                try clear q73
                try clear c74
                try clear c76
                try clear c80
                try clear c84
                try clear c88
                try clear c91
                try clear c91b0
                try clear c92
                try clear c92b0
                try clear q93
                try clear c94
                try clear c95
                try clear c95b0
                try clear p96
                try clear q96
                try clear hx96
                try clear hf96
                try clear c98
                try clear hcz103_0
                try clear hcz103_1
                try clear hcz55_0
                try clear hcz55_1
                try clear hcz61_0
                try clear hcz61_1
                try clear hcz62_0
                try clear hcz62_1
                try clear hcz65_0
                try clear hcz65_1
                try clear hcz77_0
                try clear hcz77_1
                try clear hcz81_0
                try clear hcz81_1
                try clear hcz85_0
                try clear hcz85_1
                try clear hcz89_0
                try clear hcz89_1
                try clear hcz99_0
                try clear hcz99_1
                try clear hfz103_0
                try clear hfz103_1
                try clear hfz55_0
                try clear hfz55_1
                try clear hfz61_0
                try clear hfz61_1
                try clear hfz62_0
                try clear hfz62_1
                try clear hfz65_0
                try clear hfz65_1
                try clear hfz77_0
                try clear hfz77_1
                try clear hfz81_0
                try clear hfz81_1
                try clear hfz85_0
                try clear hfz85_1
                try clear hfz89_0
                try clear hfz89_1
                try clear hfz99_0
                try clear hfz99_1
                try clear hx415_0
                try clear hx416_0
                try clear hx418_0
                try clear hx96_0
                try clear p2
                try clear p415
                try clear p416
                try clear p418
                try clear p96
                try clear q415
                try clear q416
                try clear q418
                try clear q96
                obtain ⟨x20_4, rfl, HA, HK4, HO_13, HO_19, HO_392001, HO_411001, BK391, BK410, HB⟩ := hrel
                cases gk with
                | zero => exact absurd HA.out (by simp [intervalmonlaw29_RouteMonotone.l1])
                | succ k4 =>
                 have H := HA.out
                 clear HA
                 simp only [intervalmonlaw29_RouteMonotone.l1] at H
                 by_cases c105 : x20_4 < t387
                 ·rw [if_pos c105] at H
                  have c105b0 : decide (x20_4 < t387) = true := decide_eq_true c105
                  clear c105
                  by_cases c106 : (t421.length : Int) = t387
                  ·rw [if_pos c106] at H
                   have c106b0 : ((t421.length : Int) == t387) = true := beq_iff_eq.mpr c106
                   have c106b1 : ((t421.length : Int) != t387) = false := bne_eq_false_iff_eq.mpr c106
                   clear c106
                   by_cases c107 : x20_4 = t417
                   ·rw [if_pos c107] at H
                    have c107b0 : (x20_4 == t417) = true := beq_iff_eq.mpr c107
                    have c107b1 : (x20_4 != t417) = false := bne_eq_false_iff_eq.mpr c107
                    clear c107
                    have H' := Aside0.mk H
                    clear H
                    have hnb108 := NB391_410.out
                    have hnc108 := NB410_391.out
                    have hcz109_0 : wr.cell? ⟨gb391, 0, none⟩ = some (.int .i64 t387) := (blk_cell BK391.out 0).trans rfl
                    have hcz109_1 : wr.cell? ⟨gb391, 1, none⟩ = some (.slice Ao16 t388.length co16) := (blk_cell BK391.out 1).trans rfl
                    have hfz109_0 := blk_frozen BK391.out 0
                    have hfz109_1 := blk_frozen BK391.out 1
                    try go_wp2
                    have n0_ := Aside0.mk (Kd.R_drew HO_13.out)
                    have n1_ := Aside0.mk (Kd.R_drew HO_19.out)
                    have n2_ := Aside0.mk (Kd.V_drew HO_392001.out)
                    have n3_ := Aside0.mk (Kd.R_drew HO_411001.out)
                    have n4_ := Aside0.mk (blk_drew BK391.out)
                    have n5_ := Aside0.mk (blk_drew BK410.out)
                    have n6_ := Aside0.mk (below_drew1 HB.out)
                    clear HO_13
                    clear HO_19
                    clear HO_392001
                    clear HO_411001
                    clear BK391
                    clear BK410
                    clear HB
                    have HO_13 := n0_
                    have HO_19 := n1_
                    have HO_392001 := n2_
                    have HO_411001 := n3_
                    have BK391 := n4_
                    have BK410 := n5_
                    have HB := n6_
                    clear n0_ n1_ n2_ n3_ n4_ n5_ n6_
                    obtain ⟨Ao111, co111, eo111⟩ := Kd.R_slice HO_19.out
                    (first | subst eo111 | (injection eo111 with f1_ f2_ f3_; have f4_ := f1_.symm; have f5_ := f3_.symm; clear f1_ f2_ f3_; subst f4_; subst f5_))
                    refine start_ (n := 21) (S := fun w' => w'.cell? ⟨gb391, 0, none⟩ = some (.int .i64 t387) ∧ w'.cell? ⟨gb391, 1, none⟩ = some (.slice Ao16 t388.length co16)) (ds := []) #[false, false, false, false, false, false, false, false, false, false, false, false, false, false, false, false, false, false, false, false, false] (by kernel_rfl) rfl rfl ⟨(blk_cell BK391.out 0).trans rfl, (blk_cell BK391.out 1).trans rfl⟩ (fun hHeld => ?_); refine with_tabW intervalmonlaw29_RouteMonotone.tab23 intervalmonlaw29_RouteMonotone.bits23 (fun HT_ HW_ => ?_)
                    generalize wr.drew = w110 at HO_13 HO_19 HO_392001 HO_411001 BK391 BK410 HB hHeld ⊢
                    refine pure_ (i := 0) (N := some 125) (v := ?_) (a' := ?_) #[true, false, false, false, false, false, false, false, false, false, false, false, false, false, false, false, false, false, false, false, false] rfl rfl (any_of HT_.out (by kernel_rfl)) (fun _ _ _ h => h) (Or.inl ⟨by rfl, ?_⟩) ?_ ?_
                    rotate_left
                    ·intro w'
                     go_simp
                     with_reducible rfl
                    rotate_left
                    ·simp only [Act.put, List.setIfInBounds_toArray, List.set_cons_zero, List.set_cons_succ, i64_w, i32_w]
                     rfl
                    refine pure_ (i := 1) (N := some 126) (v := ?_) (a' := ?_) #[true, true, false, false, false, false, false, false, false, false, false, false, false, false, false, false, false, false, false, false, false] rfl rfl (any_of HT_.out (by kernel_rfl)) (fun _ _ _ h => h) (Or.inl ⟨by rfl, ?_⟩) ?_ ?_
                    rotate_left
                    ·intro w'
                     go_simp
                     with_reducible rfl
                    rotate_left
                    ·simp only [Act.put, List.setIfInBounds_toArray, List.set_cons_zero, List.set_cons_succ, i64_w, i32_w]
                     rfl
                    refine pure_ (i := 2) (N := some 127) (v := ?_) (a' := ?_) #[true, true, true, false, false, false, false, false, false, false, false, false, false, false, false, false, false, false, false, false, false] rfl rfl (any_of HT_.out (by kernel_rfl)) (fun _ _ _ h => h) (Or.inl ⟨by rfl, ?_⟩) ?_ ?_
                    rotate_left
                    ·intro w'
                     go_simp
                     with_reducible rfl
                    rotate_left
                    ·simp only [Act.put, List.setIfInBounds_toArray, List.set_cons_zero, List.set_cons_succ, i64_w, i32_w]
                     rfl
                    refine take_ (i := 3) (N := some 128) (v := ?_) (a' := ?_) #[true, true, true, true, false, false, false, false, false, false, false, false, false, false, false, false, false, false, false, false, false] rfl rfl (take_ofW HT_.out HW_.out (by kernel_rfl)) (fun _ _ _ h => h) (Or.inl ⟨by rfl, ?_⟩) hHeld ?_ ?_
                    rotate_left
                    ·rintro w' ⟨s0, s1⟩
                     go_simp
                     with_reducible rfl
                    rotate_left
                    ·simp only [Act.put, List.setIfInBounds_toArray, List.set_cons_zero, List.set_cons_succ, i64_w, i32_w]
                     rfl
                    refine pure_ (i := 4) (N := some 129) (v := ?_) (a' := ?_) #[true, true, true, true, true, false, false, false, false, false, false, false, false, false, false, false, false, false, false, false, false] rfl rfl (any_of HT_.out (by kernel_rfl)) (fun _ _ _ h => h) (Or.inl ⟨by rfl, ?_⟩) ?_ ?_
                    rotate_left
                    ·intro w'
                     go_simp
                     with_reducible rfl
                    rotate_left
                    ·simp only [Act.put, List.setIfInBounds_toArray, List.set_cons_zero, List.set_cons_succ, i64_w, i32_w]
                     rfl
                    refine pure_ (i := 5) (N := some 130) (v := ?_) (a' := ?_) #[true, true, true, true, true, true, false, false, false, false, false, false, false, false, false, false, false, false, false, false, false] rfl rfl (any_of HT_.out (by kernel_rfl)) (fun _ _ _ h => h) (Or.inl ⟨by rfl, ?_⟩) ?_ ?_
                    rotate_left
                    ·intro w'
                     go_simp
                     with_reducible rfl
                    rotate_left
                    ·simp only [Act.put, List.setIfInBounds_toArray, List.set_cons_zero, List.set_cons_succ, i64_w, i32_w]
                     rfl
                    refine pure_ (i := 6) (N := some 131) (v := ?_) (a' := ?_) #[true, true, true, true, true, true, true, false, false, false, false, false, false, false, false, false, false, false, false, false, false] rfl rfl (any_of HT_.out (by kernel_rfl)) (fun _ _ _ h => h) (Or.inl ⟨by rfl, ?_⟩) ?_ ?_
                    rotate_left
                    ·intro w'
                     go_simp
                     with_reducible rfl
                    rotate_left
                    ·simp only [Act.put, List.setIfInBounds_toArray, List.set_cons_zero, List.set_cons_succ, i64_w, i32_w]
                     rfl
                    refine pure_ (i := 7) (N := some 132) (v := ?_) (a' := ?_) #[true, true, true, true, true, true, true, true, false, false, false, false, false, false, false, false, false, false, false, false, false] rfl rfl (any_of HT_.out (by kernel_rfl)) (fun _ _ _ h => h) (Or.inl ⟨by rfl, ?_⟩) ?_ ?_
                    rotate_left
                    ·intro w'
                     go_simp
                     with_reducible rfl
                    rotate_left
                    ·simp only [Act.put, List.setIfInBounds_toArray, List.set_cons_zero, List.set_cons_succ, i64_w, i32_w]
                     rfl
                    refine pure_ (i := 8) (N := some 133) (v := ?_) (a' := ?_) #[true, true, true, true, true, true, true, true, true, false, false, false, false, false, false, false, false, false, false, false, false] rfl rfl (any_of HT_.out (by kernel_rfl)) (fun _ _ _ h => h) (Or.inl ⟨by rfl, ?_⟩) ?_ ?_
                    rotate_left
                    ·intro w'
                     go_simp
                     with_reducible rfl
                    rotate_left
                    ·simp only [Act.put, List.setIfInBounds_toArray, List.set_cons_zero, List.set_cons_succ, i64_w, i32_w]
                     rfl
                    refine pure_ (i := 9) (N := some 134) (v := ?_) (a' := ?_) #[true, true, true, true, true, true, true, true, true, true, false, false, false, false, false, false, false, false, false, false, false] rfl rfl (any_of HT_.out (by kernel_rfl)) (fun _ _ _ h => h) (Or.inl ⟨by rfl, ?_⟩) ?_ ?_
                    rotate_left
                    ·intro w'
                     go_simp
                     with_reducible rfl
                    rotate_left
                    ·simp only [Act.put, List.setIfInBounds_toArray, List.set_cons_zero, List.set_cons_succ, i64_w, i32_w]
                     rfl
                    refine pure_ (i := 10) (N := some 135) (v := undef) (a' := ?_) #[true, true, true, true, true, true, true, true, true, true, true, false, false, false, false, false, false, false, false, false, false] rfl rfl (any_of HT_.out (by kernel_rfl)) (fun _ _ _ h => h) (Or.inr ⟨by rfl, rfl⟩) ?_ ?_
                    rotate_left
                    ·simp only [Act.put, List.setIfInBounds_toArray, List.set_cons_zero, List.set_cons_succ, i64_w, i32_w]
                     rfl
                    refine pure_ (i := 11) (N := some 136) (v := undef) (a' := ?_) #[true, true, true, true, true, true, true, true, true, true, true, true, false, false, false, false, false, false, false, false, false] rfl rfl (any_of HT_.out (by kernel_rfl)) (fun _ _ _ h => h) (Or.inr ⟨by rfl, rfl⟩) ?_ ?_
                    rotate_left
                    ·simp only [Act.put, List.setIfInBounds_toArray, List.set_cons_zero, List.set_cons_succ, i64_w, i32_w]
                     rfl
                    refine pure_ (i := 12) (N := some 137) (v := undef) (a' := ?_) #[true, true, true, true, true, true, true, true, true, true, true, true, true, false, false, false, false, false, false, false, false] rfl rfl (any_of HT_.out (by kernel_rfl)) (fun _ _ _ h => h) (Or.inr ⟨by rfl, rfl⟩) ?_ ?_
                    rotate_left
                    ·simp only [Act.put, List.setIfInBounds_toArray, List.set_cons_zero, List.set_cons_succ, i64_w, i32_w]
                     rfl
                    refine pure_ (i := 13) (N := some 138) (v := undef) (a' := ?_) #[true, true, true, true, true, true, true, true, true, true, true, true, true, true, false, false, false, false, false, false, false] rfl rfl (any_of HT_.out (by kernel_rfl)) (fun _ _ _ h => h) (Or.inr ⟨by rfl, rfl⟩) ?_ ?_
                    rotate_left
                    ·simp only [Act.put, List.setIfInBounds_toArray, List.set_cons_zero, List.set_cons_succ, i64_w, i32_w]
                     rfl
                    refine pure_ (i := 14) (N := some 139) (v := undef) (a' := ?_) #[true, true, true, true, true, true, true, true, true, true, true, true, true, true, true, false, false, false, false, false, false] rfl rfl (any_of HT_.out (by kernel_rfl)) (fun _ _ _ h => h) (Or.inr ⟨by rfl, rfl⟩) ?_ ?_
                    rotate_left
                    ·simp only [Act.put, List.setIfInBounds_toArray, List.set_cons_zero, List.set_cons_succ, i64_w, i32_w]
                     rfl
                    refine pure_ (i := 15) (N := some 140) (v := undef) (a' := ?_) #[true, true, true, true, true, true, true, true, true, true, true, true, true, true, true, true, false, false, false, false, false] rfl rfl (any_of HT_.out (by kernel_rfl)) (fun _ _ _ h => h) (Or.inr ⟨by rfl, rfl⟩) ?_ ?_
                    rotate_left
                    ·simp only [Act.put, List.setIfInBounds_toArray, List.set_cons_zero, List.set_cons_succ, i64_w, i32_w]
                     rfl
                    refine pure_ (i := 16) (N := some 141) (v := undef) (a' := ?_) #[true, true, true, true, true, true, true, true, true, true, true, true, true, true, true, true, true, false, false, false, false] rfl rfl (any_of HT_.out (by kernel_rfl)) (fun _ _ _ h => h) (Or.inr ⟨by rfl, rfl⟩) ?_ ?_
                    rotate_left
                    ·simp only [Act.put, List.setIfInBounds_toArray, List.set_cons_zero, List.set_cons_succ, i64_w, i32_w]
                     rfl
                    refine pure_ (i := 17) (N := some 142) (v := undef) (a' := ?_) #[true, true, true, true, true, true, true, true, true, true, true, true, true, true, true, true, true, true, false, false, false] rfl rfl (any_of HT_.out (by kernel_rfl)) (fun _ _ _ h => h) (Or.inr ⟨by rfl, rfl⟩) ?_ ?_
                    rotate_left
                    ·simp only [Act.put, List.setIfInBounds_toArray, List.set_cons_zero, List.set_cons_succ, i64_w, i32_w]
                     rfl
                    refine pure_ (i := 18) (N := some 143) (v := undef) (a' := ?_) #[true, true, true, true, true, true, true, true, true, true, true, true, true, true, true, true, true, true, true, false, false] rfl rfl (any_of HT_.out (by kernel_rfl)) (fun _ _ _ h => h) (Or.inr ⟨by rfl, rfl⟩) ?_ ?_
                    rotate_left
                    ·simp only [Act.put, List.setIfInBounds_toArray, List.set_cons_zero, List.set_cons_succ, i64_w, i32_w]
                     rfl
                    refine pure_ (i := 19) (N := some 144) (v := ?_) (a' := ?_) #[true, true, true, true, true, true, true, true, true, true, true, true, true, true, true, true, true, true, true, true, false] rfl rfl (any_of HT_.out (by kernel_rfl)) (fun _ _ _ h => h) (Or.inl ⟨by rfl, ?_⟩) ?_ ?_
                    rotate_left
                    ·intro w'
                     go_simp
                     with_reducible rfl
                    rotate_left
                    ·simp only [Act.put, List.setIfInBounds_toArray, List.set_cons_zero, List.set_cons_succ, i64_w, i32_w]
                     rfl
                    refine pure_ (i := 20) (N := some 145) (v := ?_) (a' := ?_) #[true, true, true, true, true, true, true, true, true, true, true, true, true, true, true, true, true, true, true, true, true] rfl rfl (any_of HT_.out (by kernel_rfl)) (fun _ _ _ h => h) (Or.inl ⟨by rfl, ?_⟩) ?_ ?_
                    rotate_left
                    ·intro w'
                     go_simp
                     with_reducible rfl
                    rotate_left
                    ·simp only [Act.put, List.setIfInBounds_toArray, List.set_cons_zero, List.set_cons_succ, i64_w, i32_w]
                     rfl
                    refine done_ (done_of HT_.out (by kernel_rfl)) ?_
                    try go_wp2
                    go_roundg k4
                    case measure => have := HJ9.out; have := HK2.out; have := HJ56.out; have := HK4.out; omega
                    case rel => exact ⟨(wrap64 (x20_4 + 1)), (by first | rfl | (simp; done) | (simp [*]; done)), H', ⟨by have := HJ9.out; have := HK2.out; have := HJ56.out; have := HK4.out; omega⟩, ⟨by (with_reducible repeat (first | apply Kd.R_alloc | apply Kd.R_drewN | apply Kd.R_drew)); exact HO_13.out⟩, ⟨by (with_reducible repeat (first | apply Kd.R_alloc | apply Kd.R_drewN | apply Kd.R_drew)); exact HO_19.out⟩, ⟨by (with_reducible repeat (first | apply Kd.V_alloc | apply Kd.V_drewN | apply Kd.V_drew)); exact HO_392001.out⟩, ⟨by (with_reducible repeat (first | apply Kd.R_alloc | apply Kd.R_drewN | apply Kd.R_drew)); exact HO_411001.out⟩, ⟨by (with_reducible repeat (first | refine blk_drewN ?_ _ | refine blk_drew ?_ | refine blk_alloc ?_ _)); exact BK391.out⟩, ⟨by (with_reducible repeat (first | refine blk_drewN ?_ _ | refine blk_drew ?_ | refine blk_alloc ?_ _)); exact BK410.out⟩, ⟨by repeat (first | (with_reducible first | exact HB.out | apply below_alloc | apply pw_below_drewN | apply below_drew1 | refine below_set ?_ GE391.out | refine below_set ?_ GE410.out) | exact HB.out)⟩⟩
                   ·rw [if_neg c107] at H
                    have c107b0 : (x20_4 == t417) = false := beq_eq_false_iff_ne.mpr c107
                    have c107b1 : (x20_4 != t417) = true := bne_iff_ne.mpr c107
                    by_cases c112 : 0 ≤ x20_4
                    ·rw [if_pos c112] at H
                     have c112b0 : decide (0 ≤ x20_4) = true := decide_eq_true c112
                     clear c112
                     by_cases c113 : x20_4 < (t421.length : Int)
                     ·rw [if_pos c113] at H
                      have c113b0 : decide (x20_4 < (t421.length : Int)) = true := decide_eq_true c113
                      clear c113
                      by_cases c114 : x20_4 < (t395.length : Int)
                      ·rw [if_pos c114] at H
                       have c114b0 : decide (x20_4 < (t395.length : Int)) = true := decide_eq_true c114
                       clear c114
                       by_cases c115 : ((rdOf false t421 x20_4) != (rdOf false t395 x20_4)) = true
                       ·rw [if_pos c115] at H
                        have c115b0 : ((rdOf false t421 x20_4) != (rdOf false t395 x20_4)) = true := c115
                        (try (have c115b1 : decide ((rdOf false t421 x20_4) = (rdOf false t395 x20_4)) = false := by simpa using c115))
                        (try (have c115b2 : ((rdOf false t421 x20_4) == (rdOf false t395 x20_4)) = false := by simpa using c115))
                        (try (have c115b3 : ¬ ((rdOf false t421 x20_4) = (rdOf false t395 x20_4)) := by simpa using c115))
                        clear c115
                        obtain rfl := Option.some.inj H
                        have hnb116 := NB391_410.out
                        have hnc116 := NB410_391.out
                        have hcz117_0 : wr.cell? ⟨gb391, 0, none⟩ = some (.int .i64 t387) := (blk_cell BK391.out 0).trans rfl
                        have hcz117_1 : wr.cell? ⟨gb391, 1, none⟩ = some (.slice Ao16 t388.length co16) := (blk_cell BK391.out 1).trans rfl
                        have hfz117_0 := blk_frozen BK391.out 0
                        have hfz117_1 := blk_frozen BK391.out 1
                        try go_wp2
                        have n0_ := Aside0.mk (Kd.R_drew HO_13.out)
                        have n1_ := Aside0.mk (Kd.R_drew HO_19.out)
                        have n2_ := Aside0.mk (Kd.V_drew HO_392001.out)
                        have n3_ := Aside0.mk (Kd.R_drew HO_411001.out)
                        have n4_ := Aside0.mk (blk_drew BK391.out)
                        have n5_ := Aside0.mk (blk_drew BK410.out)
                        have n6_ := Aside0.mk (below_drew1 HB.out)
                        clear HO_13
                        clear HO_19
                        clear HO_392001
                        clear HO_411001
                        clear BK391
                        clear BK410
                        clear HB
                        have HO_13 := n0_
                        have HO_19 := n1_
                        have HO_392001 := n2_
                        have HO_411001 := n3_
                        have BK391 := n4_
                        have BK410 := n5_
                        have HB := n6_
                        clear n0_ n1_ n2_ n3_ n4_ n5_ n6_
                        obtain ⟨Ao119, co119, eo119⟩ := Kd.R_slice HO_19.out
                        (first | subst eo119 | (injection eo119 with f1_ f2_ f3_; have f4_ := f1_.symm; have f5_ := f3_.symm; clear f1_ f2_ f3_; subst f4_; subst f5_))
                        have p424 : 0 ≤ (x20_4 : Int) := of_decide_eq_true (by first | (with_reducible assumption) | assumption)
                        have q424 : x20_4 < (t421.length : Int) := of_decide_eq_true (by first | (with_reducible assumption) | assumption)
                        obtain ⟨ad424, e424, hx424_0⟩ := Kd.at_bool (Kd.R_reads' HO_19.out).2.2 x20_4 p424 q424
                        (try rw [← Nbq93.out] at hx424_0)
                        cases e424
                        replace p424 := eq_true p424
                        replace q424 := eq_true q424
                        have p425 : 0 ≤ (x20_4 : Int) := of_decide_eq_true (by first | (with_reducible assumption) | assumption)
                        have q425 : x20_4 < (t395.length : Int) := of_decide_eq_true (by first | (with_reducible assumption) | assumption)
                        obtain ⟨ad425, e425, hx425_0⟩ := Kd.at_bool (Kd.R_reads' HO_13.out).2.2 x20_4 p425 q425
                        (try rw [← Nbq93.out] at hx425_0)
                        obtain rfl : ad418 = ad425 := (by injection e425)
                        replace p425 := eq_true p425
                        replace q425 := eq_true q425
                        refine start_ (n := 21) (S := fun w' => w'.cell? ⟨gb391, 0, none⟩ = some (.int .i64 t387) ∧ w'.cell? ⟨gb391, 1, none⟩ = some (.slice Ao16 t388.length co16) ∧ w'.cell? (ad424.add (x20_4).toNat) = some (.bool (rdOf false t421 x20_4)) ∧ w'.cell? (ad418.add (x20_4).toNat) = some (.bool (rdOf false t395 x20_4))) (ds := []) #[false, false, false, false, false, false, false, false, false, false, false, false, false, false, false, false, false, false, false, false, false] (by kernel_rfl) rfl rfl ⟨(blk_cell BK391.out 0).trans rfl, (blk_cell BK391.out 1).trans rfl, hx424_0, hx425_0⟩ (fun hHeld => ?_); refine with_tabW intervalmonlaw29_RouteMonotone.tab23 intervalmonlaw29_RouteMonotone.bits23 (fun HT_ HW_ => ?_)
                        generalize wr.drew = w118 at HO_13 HO_19 HO_392001 HO_411001 BK391 BK410 HB hx424_0 hx425_0 hHeld ⊢
                        refine pure_ (i := 0) (N := some 125) (v := ?_) (a' := ?_) #[true, false, false, false, false, false, false, false, false, false, false, false, false, false, false, false, false, false, false, false, false] rfl rfl (any_of HT_.out (by kernel_rfl)) (fun _ _ _ h => h) (Or.inl ⟨by rfl, ?_⟩) ?_ ?_
                        rotate_left
                        ·intro w'
                         go_simp
                         with_reducible rfl
                        rotate_left
                        ·simp only [Act.put, List.setIfInBounds_toArray, List.set_cons_zero, List.set_cons_succ, i64_w, i32_w]
                         rfl
                        refine pure_ (i := 1) (N := some 126) (v := ?_) (a' := ?_) #[true, true, false, false, false, false, false, false, false, false, false, false, false, false, false, false, false, false, false, false, false] rfl rfl (any_of HT_.out (by kernel_rfl)) (fun _ _ _ h => h) (Or.inl ⟨by rfl, ?_⟩) ?_ ?_
                        rotate_left
                        ·intro w'
                         go_simp
                         with_reducible rfl
                        rotate_left
                        ·simp only [Act.put, List.setIfInBounds_toArray, List.set_cons_zero, List.set_cons_succ, i64_w, i32_w]
                         rfl
                        refine pure_ (i := 2) (N := some 127) (v := ?_) (a' := ?_) #[true, true, true, false, false, false, false, false, false, false, false, false, false, false, false, false, false, false, false, false, false] rfl rfl (any_of HT_.out (by kernel_rfl)) (fun _ _ _ h => h) (Or.inl ⟨by rfl, ?_⟩) ?_ ?_
                        rotate_left
                        ·intro w'
                         go_simp
                         with_reducible rfl
                        rotate_left
                        ·simp only [Act.put, List.setIfInBounds_toArray, List.set_cons_zero, List.set_cons_succ, i64_w, i32_w]
                         rfl
                        refine take_ (i := 3) (N := some 128) (v := ?_) (a' := ?_) #[true, true, true, true, false, false, false, false, false, false, false, false, false, false, false, false, false, false, false, false, false] rfl rfl (take_ofW HT_.out HW_.out (by kernel_rfl)) (fun _ _ _ h => h) (Or.inl ⟨by rfl, ?_⟩) hHeld ?_ ?_
                        rotate_left
                        ·rintro w' ⟨s0, s1, s2, s3⟩
                         go_simp
                         with_reducible rfl
                        rotate_left
                        ·simp only [Act.put, List.setIfInBounds_toArray, List.set_cons_zero, List.set_cons_succ, i64_w, i32_w]
                         rfl
                        refine pure_ (i := 4) (N := some 129) (v := ?_) (a' := ?_) #[true, true, true, true, true, false, false, false, false, false, false, false, false, false, false, false, false, false, false, false, false] rfl rfl (any_of HT_.out (by kernel_rfl)) (fun _ _ _ h => h) (Or.inl ⟨by rfl, ?_⟩) ?_ ?_
                        rotate_left
                        ·intro w'
                         go_simp
                         with_reducible rfl
                        rotate_left
                        ·simp only [Act.put, List.setIfInBounds_toArray, List.set_cons_zero, List.set_cons_succ, i64_w, i32_w]
                         rfl
                        refine pure_ (i := 5) (N := some 130) (v := ?_) (a' := ?_) #[true, true, true, true, true, true, false, false, false, false, false, false, false, false, false, false, false, false, false, false, false] rfl rfl (any_of HT_.out (by kernel_rfl)) (fun _ _ _ h => h) (Or.inl ⟨by rfl, ?_⟩) ?_ ?_
                        rotate_left
                        ·intro w'
                         go_simp
                         with_reducible rfl
                        rotate_left
                        ·simp only [Act.put, List.setIfInBounds_toArray, List.set_cons_zero, List.set_cons_succ, i64_w, i32_w]
                         rfl
                        refine pure_ (i := 6) (N := some 131) (v := ?_) (a' := ?_) #[true, true, true, true, true, true, true, false, false, false, false, false, false, false, false, false, false, false, false, false, false] rfl rfl (any_of HT_.out (by kernel_rfl)) (fun _ _ _ h => h) (Or.inl ⟨by rfl, ?_⟩) ?_ ?_
                        rotate_left
                        ·intro w'
                         go_simp
                         with_reducible rfl
                        rotate_left
                        ·simp only [Act.put, List.setIfInBounds_toArray, List.set_cons_zero, List.set_cons_succ, i64_w, i32_w]
                         rfl
                        refine pure_ (i := 7) (N := some 132) (v := ?_) (a' := ?_) #[true, true, true, true, true, true, true, true, false, false, false, false, false, false, false, false, false, false, false, false, false] rfl rfl (any_of HT_.out (by kernel_rfl)) (fun _ _ _ h => h) (Or.inl ⟨by rfl, ?_⟩) ?_ ?_
                        rotate_left
                        ·intro w'
                         go_simp
                         with_reducible rfl
                        rotate_left
                        ·simp only [Act.put, List.setIfInBounds_toArray, List.set_cons_zero, List.set_cons_succ, i64_w, i32_w]
                         rfl
                        refine pure_ (i := 8) (N := some 133) (v := ?_) (a' := ?_) #[true, true, true, true, true, true, true, true, true, false, false, false, false, false, false, false, false, false, false, false, false] rfl rfl (any_of HT_.out (by kernel_rfl)) (fun _ _ _ h => h) (Or.inl ⟨by rfl, ?_⟩) ?_ ?_
                        rotate_left
                        ·intro w'
                         go_simp
                         with_reducible rfl
                        rotate_left
                        ·simp only [Act.put, List.setIfInBounds_toArray, List.set_cons_zero, List.set_cons_succ, i64_w, i32_w]
                         rfl
                        refine pure_ (i := 9) (N := some 134) (v := ?_) (a' := ?_) #[true, true, true, true, true, true, true, true, true, true, false, false, false, false, false, false, false, false, false, false, false] rfl rfl (any_of HT_.out (by kernel_rfl)) (fun _ _ _ h => h) (Or.inl ⟨by rfl, ?_⟩) ?_ ?_
                        rotate_left
                        ·intro w'
                         go_simp
                         with_reducible rfl
                        rotate_left
                        ·simp only [Act.put, List.setIfInBounds_toArray, List.set_cons_zero, List.set_cons_succ, i64_w, i32_w]
                         rfl
                        refine pure_ (i := 10) (N := some 135) (v := ?_) (a' := ?_) #[true, true, true, true, true, true, true, true, true, true, true, false, false, false, false, false, false, false, false, false, false] rfl rfl (any_of HT_.out (by kernel_rfl)) (fun _ _ _ h => h) (Or.inl ⟨by rfl, ?_⟩) ?_ ?_
                        rotate_left
                        ·intro w'
                         go_simp
                         with_reducible rfl
                        rotate_left
                        ·simp only [Act.put, List.setIfInBounds_toArray, List.set_cons_zero, List.set_cons_succ, i64_w, i32_w]
                         rfl
                        refine pure_ (i := 11) (N := some 136) (v := ?_) (a' := ?_) #[true, true, true, true, true, true, true, true, true, true, true, true, false, false, false, false, false, false, false, false, false] rfl rfl (any_of HT_.out (by kernel_rfl)) (fun _ _ _ h => h) (Or.inl ⟨by rfl, ?_⟩) ?_ ?_
                        rotate_left
                        ·intro w'
                         go_simp
                         with_reducible rfl
                        rotate_left
                        ·simp only [Act.put, List.setIfInBounds_toArray, List.set_cons_zero, List.set_cons_succ, i64_w, i32_w]
                         rfl
                        refine pure_ (i := 12) (N := some 137) (v := ?_) (a' := ?_) #[true, true, true, true, true, true, true, true, true, true, true, true, true, false, false, false, false, false, false, false, false] rfl rfl (any_of HT_.out (by kernel_rfl)) (fun _ _ _ h => h) (Or.inl ⟨by rfl, ?_⟩) ?_ ?_
                        rotate_left
                        ·intro w'
                         go_simp
                         with_reducible rfl
                        rotate_left
                        ·simp only [Act.put, List.setIfInBounds_toArray, List.set_cons_zero, List.set_cons_succ, i64_w, i32_w]
                         rfl
                        refine pure_ (i := 14) (N := some 139) (v := ?_) (a' := ?_) #[true, true, true, true, true, true, true, true, true, true, true, true, true, false, true, false, false, false, false, false, false] rfl rfl (any_of HT_.out (by kernel_rfl)) (fun _ _ _ h => h) (Or.inl ⟨by rfl, ?_⟩) ?_ ?_
                        rotate_left
                        ·intro w'
                         go_simp
                         with_reducible rfl
                        rotate_left
                        ·simp only [Act.put, List.setIfInBounds_toArray, List.set_cons_zero, List.set_cons_succ, i64_w, i32_w]
                         rfl
                        refine pure_ (i := 15) (N := some 140) (v := ?_) (a' := ?_) #[true, true, true, true, true, true, true, true, true, true, true, true, true, false, true, true, false, false, false, false, false] rfl rfl (any_of HT_.out (by kernel_rfl)) (fun _ _ _ h => h) (Or.inl ⟨by rfl, ?_⟩) ?_ ?_
                        rotate_left
                        ·intro w'
                         go_simp
                         with_reducible rfl
                        rotate_left
                        ·simp only [Act.put, List.setIfInBounds_toArray, List.set_cons_zero, List.set_cons_succ, i64_w, i32_w]
                         rfl
                        refine pure_ (i := 16) (N := some 141) (v := ?_) (a' := ?_) #[true, true, true, true, true, true, true, true, true, true, true, true, true, false, true, true, true, false, false, false, false] rfl rfl (any_of HT_.out (by kernel_rfl)) (fun _ _ _ h => h) (Or.inl ⟨by rfl, ?_⟩) ?_ ?_
                        rotate_left
                        ·intro w'
                         go_simp
                         with_reducible rfl
                        rotate_left
                        ·simp only [Act.put, List.setIfInBounds_toArray, List.set_cons_zero, List.set_cons_succ, i64_w, i32_w]
                         rfl
                        refine take_ (i := 13) (N := some 138) (v := ?_) (a' := ?_) #[true, true, true, true, true, true, true, true, true, true, true, true, true, true, true, true, true, false, false, false, false] rfl rfl (take_ofW HT_.out HW_.out (by kernel_rfl)) (fun _ _ _ h => h) (Or.inl ⟨by rfl, ?_⟩) hHeld ?_ ?_
                        rotate_left
                        ·rintro w' ⟨s0, s1, s2, s3⟩
                         go_simp
                         with_reducible rfl
                        rotate_left
                        ·simp only [Act.put, List.setIfInBounds_toArray, List.set_cons_zero, List.set_cons_succ, i64_w, i32_w]
                         rfl
                        refine take_ (i := 17) (N := some 142) (v := ?_) (a' := ?_) #[true, true, true, true, true, true, true, true, true, true, true, true, true, true, true, true, true, true, false, false, false] rfl rfl (take_ofW HT_.out HW_.out (by kernel_rfl)) (fun _ _ _ h => h) (Or.inl ⟨by rfl, ?_⟩) hHeld ?_ ?_
                        rotate_left
                        ·rintro w' ⟨s0, s1, s2, s3⟩
                         go_simp
                         with_reducible rfl
                        rotate_left
                        ·simp only [Act.put, List.setIfInBounds_toArray, List.set_cons_zero, List.set_cons_succ, i64_w, i32_w]
                         rfl
                        refine pure_ (i := 18) (N := some 143) (v := ?_) (a' := ?_) #[true, true, true, true, true, true, true, true, true, true, true, true, true, true, true, true, true, true, true, false, false] rfl rfl (any_of HT_.out (by kernel_rfl)) (fun _ _ _ h => h) (Or.inl ⟨by rfl, ?_⟩) ?_ ?_
                        rotate_left
                        ·intro w'
                         go_simp
                         with_reducible rfl
                        rotate_left
                        ·simp only [Act.put, List.setIfInBounds_toArray, List.set_cons_zero, List.set_cons_succ, i64_w, i32_w]
                         rfl
                        refine pure_ (i := 19) (N := some 144) (v := ?_) (a' := ?_) #[true, true, true, true, true, true, true, true, true, true, true, true, true, true, true, true, true, true, true, true, false] rfl rfl (any_of HT_.out (by kernel_rfl)) (fun _ _ _ h => h) (Or.inl ⟨by rfl, ?_⟩) ?_ ?_
                        rotate_left
                        ·intro w'
                         go_simp
                         with_reducible rfl
                        rotate_left
                        ·simp only [Act.put, List.setIfInBounds_toArray, List.set_cons_zero, List.set_cons_succ, i64_w, i32_w]
                         rfl
                        refine pure_ (i := 20) (N := some 145) (v := ?_) (a' := ?_) #[true, true, true, true, true, true, true, true, true, true, true, true, true, true, true, true, true, true, true, true, true] rfl rfl (any_of HT_.out (by kernel_rfl)) (fun _ _ _ h => h) (Or.inl ⟨by rfl, ?_⟩) ?_ ?_
                        rotate_left
                        ·intro w'
                         go_simp
                         with_reducible rfl
                        rotate_left
                        ·simp only [Act.put, List.setIfInBounds_toArray, List.set_cons_zero, List.set_cons_succ, i64_w, i32_w]
                         rfl
                        refine done_ (done_of HT_.out (by kernel_rfl)) ?_
                        try go_wp2
                        go_ret
                        exact ⟨by first | rfl | (simp [errW_none, errW_some] <;> rfl) | (simp [*, errW_none, errW_some] <;> rfl), by repeat (first | (with_reducible first | exact HB.out | apply below_alloc | apply pw_below_drewN | apply below_drew1 | refine below_set ?_ GE391.out | refine below_set ?_ GE410.out) | exact HB.out)⟩
                       ·rw [if_neg c115] at H
                        have c115b0 : ((rdOf false t421 x20_4) != (rdOf false t395 x20_4)) = false := by simpa using c115
                        (try (have c115b1 : decide ((rdOf false t421 x20_4) = (rdOf false t395 x20_4)) = true := by simpa using c115))
                        (try (have c115b2 : ((rdOf false t421 x20_4) == (rdOf false t395 x20_4)) = true := by simpa using c115))
                        clear c115
                        have H' := Aside0.mk H
                        clear H
                        have hnb120 := NB391_410.out
                        have hnc120 := NB410_391.out
                        have hcz121_0 : wr.cell? ⟨gb391, 0, none⟩ = some (.int .i64 t387) := (blk_cell BK391.out 0).trans rfl
                        have hcz121_1 : wr.cell? ⟨gb391, 1, none⟩ = some (.slice Ao16 t388.length co16) := (blk_cell BK391.out 1).trans rfl
                        have hfz121_0 := blk_frozen BK391.out 0
                        have hfz121_1 := blk_frozen BK391.out 1
                        try go_wp2
                        have n0_ := Aside0.mk (Kd.R_drew HO_13.out)
                        have n1_ := Aside0.mk (Kd.R_drew HO_19.out)
                        have n2_ := Aside0.mk (Kd.V_drew HO_392001.out)
                        have n3_ := Aside0.mk (Kd.R_drew HO_411001.out)
                        have n4_ := Aside0.mk (blk_drew BK391.out)
                        have n5_ := Aside0.mk (blk_drew BK410.out)
                        have n6_ := Aside0.mk (below_drew1 HB.out)
                        clear HO_13
                        clear HO_19
                        clear HO_392001
                        clear HO_411001
                        clear BK391
                        clear BK410
                        clear HB
                        have HO_13 := n0_
                        have HO_19 := n1_
                        have HO_392001 := n2_
                        have HO_411001 := n3_
                        have BK391 := n4_
                        have BK410 := n5_
                        have HB := n6_
                        clear n0_ n1_ n2_ n3_ n4_ n5_ n6_
                        obtain ⟨Ao123, co123, eo123⟩ := Kd.R_slice HO_19.out
                        (first | subst eo123 | (injection eo123 with f1_ f2_ f3_; have f4_ := f1_.symm; have f5_ := f3_.symm; clear f1_ f2_ f3_; subst f4_; subst f5_))
                        have p424 : 0 ≤ (x20_4 : Int) := of_decide_eq_true (by first | (with_reducible assumption) | assumption)
                        have q424 : x20_4 < (t421.length : Int) := of_decide_eq_true (by first | (with_reducible assumption) | assumption)
                        obtain ⟨ad424, e424, hx424_0⟩ := Kd.at_bool (Kd.R_reads' HO_19.out).2.2 x20_4 p424 q424
                        (try rw [← Nbq93.out] at hx424_0)
                        cases e424
                        replace p424 := eq_true p424
                        replace q424 := eq_true q424
                        have p425 : 0 ≤ (x20_4 : Int) := of_decide_eq_true (by first | (with_reducible assumption) | assumption)
                        have q425 : x20_4 < (t395.length : Int) := of_decide_eq_true (by first | (with_reducible assumption) | assumption)
                        obtain ⟨ad425, e425, hx425_0⟩ := Kd.at_bool (Kd.R_reads' HO_13.out).2.2 x20_4 p425 q425
                        (try rw [← Nbq93.out] at hx425_0)
                        obtain rfl : ad418 = ad425 := (by injection e425)
                        replace p425 := eq_true p425
                        replace q425 := eq_true q425
                        refine start_ (n := 21) (S := fun w' => w'.cell? ⟨gb391, 0, none⟩ = some (.int .i64 t387) ∧ w'.cell? ⟨gb391, 1, none⟩ = some (.slice Ao16 t388.length co16) ∧ w'.cell? (ad424.add (x20_4).toNat) = some (.bool (rdOf false t421 x20_4)) ∧ w'.cell? (ad418.add (x20_4).toNat) = some (.bool (rdOf false t395 x20_4))) (ds := []) #[false, false, false, false, false, false, false, false, false, false, false, false, false, false, false, false, false, false, false, false, false] (by kernel_rfl) rfl rfl ⟨(blk_cell BK391.out 0).trans rfl, (blk_cell BK391.out 1).trans rfl, hx424_0, hx425_0⟩ (fun hHeld => ?_); refine with_tabW intervalmonlaw29_RouteMonotone.tab23 intervalmonlaw29_RouteMonotone.bits23 (fun HT_ HW_ => ?_)
                        generalize wr.drew = w122 at HO_13 HO_19 HO_392001 HO_411001 BK391 BK410 HB hx424_0 hx425_0 hHeld ⊢
                        refine pure_ (i := 0) (N := some 125) (v := ?_) (a' := ?_) #[true, false, false, false, false, false, false, false, false, false, false, false, false, false, false, false, false, false, false, false, false] rfl rfl (any_of HT_.out (by kernel_rfl)) (fun _ _ _ h => h) (Or.inl ⟨by rfl, ?_⟩) ?_ ?_
                        rotate_left
                        ·intro w'
                         go_simp
                         with_reducible rfl
                        rotate_left
                        ·simp only [Act.put, List.setIfInBounds_toArray, List.set_cons_zero, List.set_cons_succ, i64_w, i32_w]
                         rfl
                        refine pure_ (i := 1) (N := some 126) (v := ?_) (a' := ?_) #[true, true, false, false, false, false, false, false, false, false, false, false, false, false, false, false, false, false, false, false, false] rfl rfl (any_of HT_.out (by kernel_rfl)) (fun _ _ _ h => h) (Or.inl ⟨by rfl, ?_⟩) ?_ ?_
                        rotate_left
                        ·intro w'
                         go_simp
                         with_reducible rfl
                        rotate_left
                        ·simp only [Act.put, List.setIfInBounds_toArray, List.set_cons_zero, List.set_cons_succ, i64_w, i32_w]
                         rfl
                        refine pure_ (i := 2) (N := some 127) (v := ?_) (a' := ?_) #[true, true, true, false, false, false, false, false, false, false, false, false, false, false, false, false, false, false, false, false, false] rfl rfl (any_of HT_.out (by kernel_rfl)) (fun _ _ _ h => h) (Or.inl ⟨by rfl, ?_⟩) ?_ ?_
                        rotate_left
                        ·intro w'
                         go_simp
                         with_reducible rfl
                        rotate_left
                        ·simp only [Act.put, List.setIfInBounds_toArray, List.set_cons_zero, List.set_cons_succ, i64_w, i32_w]
                         rfl
                        refine take_ (i := 3) (N := some 128) (v := ?_) (a' := ?_) #[true, true, true, true, false, false, false, false, false, false, false, false, false, false, false, false, false, false, false, false, false] rfl rfl (take_ofW HT_.out HW_.out (by kernel_rfl)) (fun _ _ _ h => h) (Or.inl ⟨by rfl, ?_⟩) hHeld ?_ ?_
                        rotate_left
                        ·rintro w' ⟨s0, s1, s2, s3⟩
                         go_simp
                         with_reducible rfl
                        rotate_left
                        ·simp only [Act.put, List.setIfInBounds_toArray, List.set_cons_zero, List.set_cons_succ, i64_w, i32_w]
                         rfl
                        refine pure_ (i := 4) (N := some 129) (v := ?_) (a' := ?_) #[true, true, true, true, true, false, false, false, false, false, false, false, false, false, false, false, false, false, false, false, false] rfl rfl (any_of HT_.out (by kernel_rfl)) (fun _ _ _ h => h) (Or.inl ⟨by rfl, ?_⟩) ?_ ?_
                        rotate_left
                        ·intro w'
                         go_simp
                         with_reducible rfl
                        rotate_left
                        ·simp only [Act.put, List.setIfInBounds_toArray, List.set_cons_zero, List.set_cons_succ, i64_w, i32_w]
                         rfl
                        refine pure_ (i := 5) (N := some 130) (v := ?_) (a' := ?_) #[true, true, true, true, true, true, false, false, false, false, false, false, false, false, false, false, false, false, false, false, false] rfl rfl (any_of HT_.out (by kernel_rfl)) (fun _ _ _ h => h) (Or.inl ⟨by rfl, ?_⟩) ?_ ?_
                        rotate_left
                        ·intro w'
                         go_simp
                         with_reducible rfl
                        rotate_left
                        ·simp only [Act.put, List.setIfInBounds_toArray, List.set_cons_zero, List.set_cons_succ, i64_w, i32_w]
                         rfl
                        refine pure_ (i := 6) (N := some 131) (v := ?_) (a' := ?_) #[true, true, true, true, true, true, true, false, false, false, false, false, false, false, false, false, false, false, false, false, false] rfl rfl (any_of HT_.out (by kernel_rfl)) (fun _ _ _ h => h) (Or.inl ⟨by rfl, ?_⟩) ?_ ?_
                        rotate_left
                        ·intro w'
                         go_simp
                         with_reducible rfl
                        rotate_left
                        ·simp only [Act.put, List.setIfInBounds_toArray, List.set_cons_zero, List.set_cons_succ, i64_w, i32_w]
                         rfl
                        refine pure_ (i := 7) (N := some 132) (v := ?_) (a' := ?_) #[true, true, true, true, true, true, true, true, false, false, false, false, false, false, false, false, false, false, false, false, false] rfl rfl (any_of HT_.out (by kernel_rfl)) (fun _ _ _ h => h) (Or.inl ⟨by rfl, ?_⟩) ?_ ?_
                        rotate_left
                        ·intro w'
                         go_simp
                         with_reducible rfl
                        rotate_left
                        ·simp only [Act.put, List.setIfInBounds_toArray, List.set_cons_zero, List.set_cons_succ, i64_w, i32_w]
                         rfl
                        refine pure_ (i := 8) (N := some 133) (v := ?_) (a' := ?_) #[true, true, true, true, true, true, true, true, true, false, false, false, false, false, false, false, false, false, false, false, false] rfl rfl (any_of HT_.out (by kernel_rfl)) (fun _ _ _ h => h) (Or.inl ⟨by rfl, ?_⟩) ?_ ?_
                        rotate_left
                        ·intro w'
                         go_simp
                         with_reducible rfl
                        rotate_left
                        ·simp only [Act.put, List.setIfInBounds_toArray, List.set_cons_zero, List.set_cons_succ, i64_w, i32_w]
                         rfl
                        refine pure_ (i := 9) (N := some 134) (v := ?_) (a' := ?_) #[true, true, true, true, true, true, true, true, true, true, false, false, false, false, false, false, false, false, false, false, false] rfl rfl (any_of HT_.out (by kernel_rfl)) (fun _ _ _ h => h) (Or.inl ⟨by rfl, ?_⟩) ?_ ?_
                        rotate_left
                        ·intro w'
                         go_simp
                         with_reducible rfl
                        rotate_left
                        ·simp only [Act.put, List.setIfInBounds_toArray, List.set_cons_zero, List.set_cons_succ, i64_w, i32_w]
                         rfl
                        refine pure_ (i := 10) (N := some 135) (v := ?_) (a' := ?_) #[true, true, true, true, true, true, true, true, true, true, true, false, false, false, false, false, false, false, false, false, false] rfl rfl (any_of HT_.out (by kernel_rfl)) (fun _ _ _ h => h) (Or.inl ⟨by rfl, ?_⟩) ?_ ?_
                        rotate_left
                        ·intro w'
                         go_simp
                         with_reducible rfl
                        rotate_left
                        ·simp only [Act.put, List.setIfInBounds_toArray, List.set_cons_zero, List.set_cons_succ, i64_w, i32_w]
                         rfl
                        refine pure_ (i := 11) (N := some 136) (v := ?_) (a' := ?_) #[true, true, true, true, true, true, true, true, true, true, true, true, false, false, false, false, false, false, false, false, false] rfl rfl (any_of HT_.out (by kernel_rfl)) (fun _ _ _ h => h) (Or.inl ⟨by rfl, ?_⟩) ?_ ?_
                        rotate_left
                        ·intro w'
                         go_simp
                         with_reducible rfl
                        rotate_left
                        ·simp only [Act.put, List.setIfInBounds_toArray, List.set_cons_zero, List.set_cons_succ, i64_w, i32_w]
                         rfl
                        refine pure_ (i := 12) (N := some 137) (v := ?_) (a' := ?_) #[true, true, true, true, true, true, true, true, true, true, true, true, true, false, false, false, false, false, false, false, false] rfl rfl (any_of HT_.out (by kernel_rfl)) (fun _ _ _ h => h) (Or.inl ⟨by rfl, ?_⟩) ?_ ?_
                        rotate_left
                        ·intro w'
                         go_simp
                         with_reducible rfl
                        rotate_left
                        ·simp only [Act.put, List.setIfInBounds_toArray, List.set_cons_zero, List.set_cons_succ, i64_w, i32_w]
                         rfl
                        refine pure_ (i := 14) (N := some 139) (v := ?_) (a' := ?_) #[true, true, true, true, true, true, true, true, true, true, true, true, true, false, true, false, false, false, false, false, false] rfl rfl (any_of HT_.out (by kernel_rfl)) (fun _ _ _ h => h) (Or.inl ⟨by rfl, ?_⟩) ?_ ?_
                        rotate_left
                        ·intro w'
                         go_simp
                         with_reducible rfl
                        rotate_left
                        ·simp only [Act.put, List.setIfInBounds_toArray, List.set_cons_zero, List.set_cons_succ, i64_w, i32_w]
                         rfl
                        refine pure_ (i := 15) (N := some 140) (v := ?_) (a' := ?_) #[true, true, true, true, true, true, true, true, true, true, true, true, true, false, true, true, false, false, false, false, false] rfl rfl (any_of HT_.out (by kernel_rfl)) (fun _ _ _ h => h) (Or.inl ⟨by rfl, ?_⟩) ?_ ?_
                        rotate_left
                        ·intro w'
                         go_simp
                         with_reducible rfl
                        rotate_left
                        ·simp only [Act.put, List.setIfInBounds_toArray, List.set_cons_zero, List.set_cons_succ, i64_w, i32_w]
                         rfl
                        refine pure_ (i := 16) (N := some 141) (v := ?_) (a' := ?_) #[true, true, true, true, true, true, true, true, true, true, true, true, true, false, true, true, true, false, false, false, false] rfl rfl (any_of HT_.out (by kernel_rfl)) (fun _ _ _ h => h) (Or.inl ⟨by rfl, ?_⟩) ?_ ?_
                        rotate_left
                        ·intro w'
                         go_simp
                         with_reducible rfl
                        rotate_left
                        ·simp only [Act.put, List.setIfInBounds_toArray, List.set_cons_zero, List.set_cons_succ, i64_w, i32_w]
                         rfl
                        refine take_ (i := 13) (N := some 138) (v := ?_) (a' := ?_) #[true, true, true, true, true, true, true, true, true, true, true, true, true, true, true, true, true, false, false, false, false] rfl rfl (take_ofW HT_.out HW_.out (by kernel_rfl)) (fun _ _ _ h => h) (Or.inl ⟨by rfl, ?_⟩) hHeld ?_ ?_
                        rotate_left
                        ·rintro w' ⟨s0, s1, s2, s3⟩
                         go_simp
                         with_reducible rfl
                        rotate_left
                        ·simp only [Act.put, List.setIfInBounds_toArray, List.set_cons_zero, List.set_cons_succ, i64_w, i32_w]
                         rfl
                        refine take_ (i := 17) (N := some 142) (v := ?_) (a' := ?_) #[true, true, true, true, true, true, true, true, true, true, true, true, true, true, true, true, true, true, false, false, false] rfl rfl (take_ofW HT_.out HW_.out (by kernel_rfl)) (fun _ _ _ h => h) (Or.inl ⟨by rfl, ?_⟩) hHeld ?_ ?_
                        rotate_left
                        ·rintro w' ⟨s0, s1, s2, s3⟩
                         go_simp
                         with_reducible rfl
                        rotate_left
                        ·simp only [Act.put, List.setIfInBounds_toArray, List.set_cons_zero, List.set_cons_succ, i64_w, i32_w]
                         rfl
                        refine pure_ (i := 18) (N := some 143) (v := ?_) (a' := ?_) #[true, true, true, true, true, true, true, true, true, true, true, true, true, true, true, true, true, true, true, false, false] rfl rfl (any_of HT_.out (by kernel_rfl)) (fun _ _ _ h => h) (Or.inl ⟨by rfl, ?_⟩) ?_ ?_
                        rotate_left
                        ·intro w'
                         go_simp
                         with_reducible rfl
                        rotate_left
                        ·simp only [Act.put, List.setIfInBounds_toArray, List.set_cons_zero, List.set_cons_succ, i64_w, i32_w]
                         rfl
                        refine pure_ (i := 19) (N := some 144) (v := ?_) (a' := ?_) #[true, true, true, true, true, true, true, true, true, true, true, true, true, true, true, true, true, true, true, true, false] rfl rfl (any_of HT_.out (by kernel_rfl)) (fun _ _ _ h => h) (Or.inl ⟨by rfl, ?_⟩) ?_ ?_
                        rotate_left
                        ·intro w'
                         go_simp
                         with_reducible rfl
                        rotate_left
                        ·simp only [Act.put, List.setIfInBounds_toArray, List.set_cons_zero, List.set_cons_succ, i64_w, i32_w]
                         rfl
                        refine pure_ (i := 20) (N := some 145) (v := ?_) (a' := ?_) #[true, true, true, true, true, true, true, true, true, true, true, true, true, true, true, true, true, true, true, true, true] rfl rfl (any_of HT_.out (by kernel_rfl)) (fun _ _ _ h => h) (Or.inl ⟨by rfl, ?_⟩) ?_ ?_
                        rotate_left
                        ·intro w'
                         go_simp
                         with_reducible rfl
                        rotate_left
                        ·simp only [Act.put, List.setIfInBounds_toArray, List.set_cons_zero, List.set_cons_succ, i64_w, i32_w]
                         rfl
                        refine done_ (done_of HT_.out (by kernel_rfl)) ?_
                        try go_wp2
                        go_roundg k4
                        case measure => have := HJ9.out; have := HK2.out; have := HJ56.out; have := HK4.out; omega
                        case rel => exact ⟨(wrap64 (x20_4 + 1)), (by first | rfl | (simp; done) | (simp [*]; done)), H', ⟨by have := HJ9.out; have := HK2.out; have := HJ56.out; have := HK4.out; omega⟩, ⟨by (with_reducible repeat (first | apply Kd.R_alloc | apply Kd.R_drewN | apply Kd.R_drew)); exact HO_13.out⟩, ⟨by (with_reducible repeat (first | apply Kd.R_alloc | apply Kd.R_drewN | apply Kd.R_drew)); exact HO_19.out⟩, ⟨by (with_reducible repeat (first | apply Kd.V_alloc | apply Kd.V_drewN | apply Kd.V_drew)); exact HO_392001.out⟩, ⟨by (with_reducible repeat (first | apply Kd.R_alloc | apply Kd.R_drewN | apply Kd.R_drew)); exact HO_411001.out⟩, ⟨by (with_reducible repeat (first | refine blk_drewN ?_ _ | refine blk_drew ?_ | refine blk_alloc ?_ _)); exact BK391.out⟩, ⟨by (with_reducible repeat (first | refine blk_drewN ?_ _ | refine blk_drew ?_ | refine blk_alloc ?_ _)); exact BK410.out⟩, ⟨by repeat (first | (with_reducible first | exact HB.out | apply below_alloc | apply pw_below_drewN | apply below_drew1 | refine below_set ?_ GE391.out | refine below_set ?_ GE410.out) | exact HB.out)⟩⟩
                      ·rw [if_neg c114] at H
                       exact absurd H (by simp)
                     ·rw [if_neg c113] at H
                      exact absurd H (by simp)
                    ·rw [if_neg c112] at H
                     exact absurd H (by simp)
                  ·rw [if_neg c106] at H
                   have c106b0 : ((t421.length : Int) == t387) = false := beq_eq_false_iff_ne.mpr c106
                   have c106b1 : ((t421.length : Int) != t387) = true := bne_iff_ne.mpr c106
                   obtain rfl := Option.some.inj H
                   have hnb124 := NB391_410.out
                   have hnc124 := NB410_391.out
                   have hcz125_0 : wr.cell? ⟨gb391, 0, none⟩ = some (.int .i64 t387) := (blk_cell BK391.out 0).trans rfl
                   have hcz125_1 : wr.cell? ⟨gb391, 1, none⟩ = some (.slice Ao16 t388.length co16) := (blk_cell BK391.out 1).trans rfl
                   have hfz125_0 := blk_frozen BK391.out 0
                   have hfz125_1 := blk_frozen BK391.out 1
                   try go_wp2
                   have n0_ := Aside0.mk (Kd.R_drew HO_13.out)
                   have n1_ := Aside0.mk (Kd.R_drew HO_19.out)
                   have n2_ := Aside0.mk (Kd.V_drew HO_392001.out)
                   have n3_ := Aside0.mk (Kd.R_drew HO_411001.out)
                   have n4_ := Aside0.mk (blk_drew BK391.out)
                   have n5_ := Aside0.mk (blk_drew BK410.out)
                   have n6_ := Aside0.mk (below_drew1 HB.out)
                   clear HO_13
                   clear HO_19
                   clear HO_392001
                   clear HO_411001
                   clear BK391
                   clear BK410
                   clear HB
                   have HO_13 := n0_
                   have HO_19 := n1_
                   have HO_392001 := n2_
                   have HO_411001 := n3_
                   have BK391 := n4_
                   have BK410 := n5_
                   have HB := n6_
                   clear n0_ n1_ n2_ n3_ n4_ n5_ n6_
                   obtain ⟨Ao127, co127, eo127⟩ := Kd.R_slice HO_19.out
                   (first | subst eo127 | (injection eo127 with f1_ f2_ f3_; have f4_ := f1_.symm; have f5_ := f3_.symm; clear f1_ f2_ f3_; subst f4_; subst f5_))
                   refine start_ (n := 21) (S := fun w' => w'.cell? ⟨gb391, 0, none⟩ = some (.int .i64 t387) ∧ w'.cell? ⟨gb391, 1, none⟩ = some (.slice Ao16 t388.length co16)) (ds := []) #[false, false, false, false, false, false, false, false, false, false, false, false, false, false, false, false, false, false, false, false, false] (by kernel_rfl) rfl rfl ⟨(blk_cell BK391.out 0).trans rfl, (blk_cell BK391.out 1).trans rfl⟩ (fun hHeld => ?_); refine with_tabW intervalmonlaw29_RouteMonotone.tab23 intervalmonlaw29_RouteMonotone.bits23 (fun HT_ HW_ => ?_)
                   generalize wr.drew = w126 at HO_13 HO_19 HO_392001 HO_411001 BK391 BK410 HB hHeld ⊢
                   refine pure_ (i := 0) (N := some 125) (v := ?_) (a' := ?_) #[true, false, false, false, false, false, false, false, false, false, false, false, false, false, false, false, false, false, false, false, false] rfl rfl (any_of HT_.out (by kernel_rfl)) (fun _ _ _ h => h) (Or.inl ⟨by rfl, ?_⟩) ?_ ?_
                   rotate_left
                   ·intro w'
                    go_simp
                    with_reducible rfl
                   rotate_left
                   ·simp only [Act.put, List.setIfInBounds_toArray, List.set_cons_zero, List.set_cons_succ, i64_w, i32_w]
                    rfl
                   refine pure_ (i := 1) (N := some 126) (v := ?_) (a' := ?_) #[true, true, false, false, false, false, false, false, false, false, false, false, false, false, false, false, false, false, false, false, false] rfl rfl (any_of HT_.out (by kernel_rfl)) (fun _ _ _ h => h) (Or.inl ⟨by rfl, ?_⟩) ?_ ?_
                   rotate_left
                   ·intro w'
                    go_simp
                    with_reducible rfl
                   rotate_left
                   ·simp only [Act.put, List.setIfInBounds_toArray, List.set_cons_zero, List.set_cons_succ, i64_w, i32_w]
                    rfl
                   refine pure_ (i := 2) (N := some 127) (v := ?_) (a' := ?_) #[true, true, true, false, false, false, false, false, false, false, false, false, false, false, false, false, false, false, false, false, false] rfl rfl (any_of HT_.out (by kernel_rfl)) (fun _ _ _ h => h) (Or.inl ⟨by rfl, ?_⟩) ?_ ?_
                   rotate_left
                   ·intro w'
                    go_simp
                    with_reducible rfl
                   rotate_left
                   ·simp only [Act.put, List.setIfInBounds_toArray, List.set_cons_zero, List.set_cons_succ, i64_w, i32_w]
                    rfl
                   refine take_ (i := 3) (N := some 128) (v := ?_) (a' := ?_) #[true, true, true, true, false, false, false, false, false, false, false, false, false, false, false, false, false, false, false, false, false] rfl rfl (take_ofW HT_.out HW_.out (by kernel_rfl)) (fun _ _ _ h => h) (Or.inl ⟨by rfl, ?_⟩) hHeld ?_ ?_
                   rotate_left
                   ·rintro w' ⟨s0, s1⟩
                    go_simp
                    with_reducible rfl
                   rotate_left
                   ·simp only [Act.put, List.setIfInBounds_toArray, List.set_cons_zero, List.set_cons_succ, i64_w, i32_w]
                    rfl
                   refine pure_ (i := 4) (N := some 129) (v := ?_) (a' := ?_) #[true, true, true, true, true, false, false, false, false, false, false, false, false, false, false, false, false, false, false, false, false] rfl rfl (any_of HT_.out (by kernel_rfl)) (fun _ _ _ h => h) (Or.inl ⟨by rfl, ?_⟩) ?_ ?_
                   rotate_left
                   ·intro w'
                    go_simp
                    with_reducible rfl
                   rotate_left
                   ·simp only [Act.put, List.setIfInBounds_toArray, List.set_cons_zero, List.set_cons_succ, i64_w, i32_w]
                    rfl
                   refine pure_ (i := 5) (N := some 130) (v := ?_) (a' := ?_) #[true, true, true, true, true, true, false, false, false, false, false, false, false, false, false, false, false, false, false, false, false] rfl rfl (any_of HT_.out (by kernel_rfl)) (fun _ _ _ h => h) (Or.inl ⟨by rfl, ?_⟩) ?_ ?_
                   rotate_left
                   ·intro w'
                    go_simp
                    with_reducible rfl
                   rotate_left
                   ·simp only [Act.put, List.setIfInBounds_toArray, List.set_cons_zero, List.set_cons_succ, i64_w, i32_w]
                    rfl
                   refine pure_ (i := 6) (N := some 131) (v := undef) (a' := ?_) #[true, true, true, true, true, true, true, false, false, false, false, false, false, false, false, false, false, false, false, false, false] rfl rfl (any_of HT_.out (by kernel_rfl)) (fun _ _ _ h => h) (Or.inr ⟨by rfl, rfl⟩) ?_ ?_
                   rotate_left
                   ·simp only [Act.put, List.setIfInBounds_toArray, List.set_cons_zero, List.set_cons_succ, i64_w, i32_w]
                    rfl
                   refine pure_ (i := 7) (N := some 132) (v := undef) (a' := ?_) #[true, true, true, true, true, true, true, true, false, false, false, false, false, false, false, false, false, false, false, false, false] rfl rfl (any_of HT_.out (by kernel_rfl)) (fun _ _ _ h => h) (Or.inr ⟨by rfl, rfl⟩) ?_ ?_
                   rotate_left
                   ·simp only [Act.put, List.setIfInBounds_toArray, List.set_cons_zero, List.set_cons_succ, i64_w, i32_w]
                    rfl
                   refine pure_ (i := 8) (N := some 133) (v := undef) (a' := ?_) #[true, true, true, true, true, true, true, true, true, false, false, false, false, false, false, false, false, false, false, false, false] rfl rfl (any_of HT_.out (by kernel_rfl)) (fun _ _ _ h => h) (Or.inr ⟨by rfl, rfl⟩) ?_ ?_
                   rotate_left
                   ·simp only [Act.put, List.setIfInBounds_toArray, List.set_cons_zero, List.set_cons_succ, i64_w, i32_w]
                    rfl
                   refine pure_ (i := 9) (N := some 134) (v := undef) (a' := ?_) #[true, true, true, true, true, true, true, true, true, true, false, false, false, false, false, false, false, false, false, false, false] rfl rfl (any_of HT_.out (by kernel_rfl)) (fun _ _ _ h => h) (Or.inr ⟨by rfl, rfl⟩) ?_ ?_
                   rotate_left
                   ·simp only [Act.put, List.setIfInBounds_toArray, List.set_cons_zero, List.set_cons_succ, i64_w, i32_w]
                    rfl
                   refine pure_ (i := 10) (N := some 135) (v := undef) (a' := ?_) #[true, true, true, true, true, true, true, true, true, true, true, false, false, false, false, false, false, false, false, false, false] rfl rfl (any_of HT_.out (by kernel_rfl)) (fun _ _ _ h => h) (Or.inr ⟨by rfl, rfl⟩) ?_ ?_
                   rotate_left
                   ·simp only [Act.put, List.setIfInBounds_toArray, List.set_cons_zero, List.set_cons_succ, i64_w, i32_w]
                    rfl
                   refine pure_ (i := 11) (N := some 136) (v := undef) (a' := ?_) #[true, true, true, true, true, true, true, true, true, true, true, true, false, false, false, false, false, false, false, false, false] rfl rfl (any_of HT_.out (by kernel_rfl)) (fun _ _ _ h => h) (Or.inr ⟨by rfl, rfl⟩) ?_ ?_
                   rotate_left
                   ·simp only [Act.put, List.setIfInBounds_toArray, List.set_cons_zero, List.set_cons_succ, i64_w, i32_w]
                    rfl
                   refine pure_ (i := 12) (N := some 137) (v := undef) (a' := ?_) #[true, true, true, true, true, true, true, true, true, true, true, true, true, false, false, false, false, false, false, false, false] rfl rfl (any_of HT_.out (by kernel_rfl)) (fun _ _ _ h => h) (Or.inr ⟨by rfl, rfl⟩) ?_ ?_
                   rotate_left
                   ·simp only [Act.put, List.setIfInBounds_toArray, List.set_cons_zero, List.set_cons_succ, i64_w, i32_w]
                    rfl
                   refine pure_ (i := 13) (N := some 138) (v := undef) (a' := ?_) #[true, true, true, true, true, true, true, true, true, true, true, true, true, true, false, false, false, false, false, false, false] rfl rfl (any_of HT_.out (by kernel_rfl)) (fun _ _ _ h => h) (Or.inr ⟨by rfl, rfl⟩) ?_ ?_
                   rotate_left
                   ·simp only [Act.put, List.setIfInBounds_toArray, List.set_cons_zero, List.set_cons_succ, i64_w, i32_w]
                    rfl
                   refine pure_ (i := 14) (N := some 139) (v := undef) (a' := ?_) #[true, true, true, true, true, true, true, true, true, true, true, true, true, true, true, false, false, false, false, false, false] rfl rfl (any_of HT_.out (by kernel_rfl)) (fun _ _ _ h => h) (Or.inr ⟨by rfl, rfl⟩) ?_ ?_
                   rotate_left
                   ·simp only [Act.put, List.setIfInBounds_toArray, List.set_cons_zero, List.set_cons_succ, i64_w, i32_w]
                    rfl
                   refine pure_ (i := 15) (N := some 140) (v := undef) (a' := ?_) #[true, true, true, true, true, true, true, true, true, true, true, true, true, true, true, true, false, false, false, false, false] rfl rfl (any_of HT_.out (by kernel_rfl)) (fun _ _ _ h => h) (Or.inr ⟨by rfl, rfl⟩) ?_ ?_
                   rotate_left
                   ·simp only [Act.put, List.setIfInBounds_toArray, List.set_cons_zero, List.set_cons_succ, i64_w, i32_w]
                    rfl
                   refine pure_ (i := 16) (N := some 141) (v := undef) (a' := ?_) #[true, true, true, true, true, true, true, true, true, true, true, true, true, true, true, true, true, false, false, false, false] rfl rfl (any_of HT_.out (by kernel_rfl)) (fun _ _ _ h => h) (Or.inr ⟨by rfl, rfl⟩) ?_ ?_
                   rotate_left
                   ·simp only [Act.put, List.setIfInBounds_toArray, List.set_cons_zero, List.set_cons_succ, i64_w, i32_w]
                    rfl
                   refine pure_ (i := 17) (N := some 142) (v := undef) (a' := ?_) #[true, true, true, true, true, true, true, true, true, true, true, true, true, true, true, true, true, true, false, false, false] rfl rfl (any_of HT_.out (by kernel_rfl)) (fun _ _ _ h => h) (Or.inr ⟨by rfl, rfl⟩) ?_ ?_
                   rotate_left
                   ·simp only [Act.put, List.setIfInBounds_toArray, List.set_cons_zero, List.set_cons_succ, i64_w, i32_w]
                    rfl
                   refine pure_ (i := 18) (N := some 143) (v := undef) (a' := ?_) #[true, true, true, true, true, true, true, true, true, true, true, true, true, true, true, true, true, true, true, false, false] rfl rfl (any_of HT_.out (by kernel_rfl)) (fun _ _ _ h => h) (Or.inr ⟨by rfl, rfl⟩) ?_ ?_
                   rotate_left
                   ·simp only [Act.put, List.setIfInBounds_toArray, List.set_cons_zero, List.set_cons_succ, i64_w, i32_w]
                    rfl
                   refine pure_ (i := 19) (N := some 144) (v := undef) (a' := ?_) #[true, true, true, true, true, true, true, true, true, true, true, true, true, true, true, true, true, true, true, true, false] rfl rfl (any_of HT_.out (by kernel_rfl)) (fun _ _ _ h => h) (Or.inr ⟨by rfl, rfl⟩) ?_ ?_
                   rotate_left
                   ·simp only [Act.put, List.setIfInBounds_toArray, List.set_cons_zero, List.set_cons_succ, i64_w, i32_w]
                    rfl
                   refine pure_ (i := 20) (N := some 145) (v := ?_) (a' := ?_) #[true, true, true, true, true, true, true, true, true, true, true, true, true, true, true, true, true, true, true, true, true] rfl rfl (any_of HT_.out (by kernel_rfl)) (fun _ _ _ h => h) (Or.inl ⟨by rfl, ?_⟩) ?_ ?_
                   rotate_left
                   ·intro w'
                    go_simp
                    with_reducible rfl
                   rotate_left
                   ·simp only [Act.put, List.setIfInBounds_toArray, List.set_cons_zero, List.set_cons_succ, i64_w, i32_w]
                    rfl
                   refine done_ (done_of HT_.out (by kernel_rfl)) ?_
                   try go_wp2
                   go_ret
                   exact ⟨by first | rfl | (simp [errW_none, errW_some] <;> rfl) | (simp [*, errW_none, errW_some] <;> rfl), by repeat (first | (with_reducible first | exact HB.out | apply below_alloc | apply pw_below_drewN | apply below_drew1 | refine below_set ?_ GE391.out | refine below_set ?_ GE410.out) | exact HB.out)⟩
                 ·rw [if_neg c105] at H
                  have c105b0 : decide (x20_4 < t387) = false := decide_eq_false c105
                  clear c105
                  by_cases c128 : 0 ≤ t417
                  ·rw [if_pos c128] at H
                   have c128b0 : decide (0 ≤ t417) = true := decide_eq_true c128
                   clear c128
                   by_cases c129 : t417 < (t421.length : Int)
                   ·rw [if_pos c129] at H
                    have c129b0 : decide (t417 < (t421.length : Int)) = true := decide_eq_true c129
                    clear c129
                    obtain ⟨bq130, hbq130⟩ : ∃ b_ : Bool, b_ = (rdOf false t421 t417) := ⟨_, rfl⟩
                    replace H : (if bq130 = true then (some false) else ((intervalmonlaw29_lives.f k4).bind fun t427 => (some t427))) = some r := by rw [← hbq130] at H; exact H
                    have Nbq130 := Aside0.mk hbq130
                    clear hbq130
                    by_cases c131 : bq130 = true
                    ·subst c131
                     have H1 : (some false) = some r := by rw [if_pos rfl] at H; exact H
                     clear H
                     have H := H1
                     clear H1
                     obtain rfl := Option.some.inj H
                     have hnb132 := NB391_410.out
                     have hnc132 := NB410_391.out
                     have hcz133_0 : wr.cell? ⟨gb391, 0, none⟩ = some (.int .i64 t387) := (blk_cell BK391.out 0).trans rfl
                     have hcz133_1 : wr.cell? ⟨gb391, 1, none⟩ = some (.slice Ao16 t388.length co16) := (blk_cell BK391.out 1).trans rfl
                     have hfz133_0 := blk_frozen BK391.out 0
                     have hfz133_1 := blk_frozen BK391.out 1
                     obtain ⟨Ao134, co134, eo134⟩ := Kd.R_slice HO_19.out
                     subst eo134
                     have p426 : 0 ≤ (t417 : Int) := of_decide_eq_true (by first | (with_reducible assumption) | assumption)
                     have q426 : t417 < (t421.length : Int) := of_decide_eq_true (by first | (with_reducible assumption) | assumption)
                     obtain ⟨ad426, e426, hx426_0⟩ := Kd.at_bool (Kd.R_reads' HO_19.out).2.2 t417 p426 q426
                     (try rw [← Nbq93.out] at hx426_0)
                     (try rw [← Nbq130.out] at hx426_0)
                     cases e426
                     replace p426 := eq_true p426
                     replace q426 := eq_true q426
                     go_wp2
                     go_ret
                     exact ⟨by first | rfl | (simp [errW_none, errW_some] <;> rfl) | (simp [*, errW_none, errW_some] <;> rfl), by repeat (first | (with_reducible first | exact HB.out | apply below_alloc | apply pw_below_drewN | apply below_drew1 | refine below_set ?_ GE391.out | refine below_set ?_ GE410.out) | exact HB.out)⟩
                    ·replace c131 := Bool.eq_false_iff.mpr c131
                     subst c131
                     have H1 : ((intervalmonlaw29_lives.f k4).bind fun t427 => (some t427)) = some r := by rw [if_neg (show ¬ (false = true) by decide)] at H; exact H
                     clear H
                     have H := H1
                     clear H1
                     replace H := Option.bind_eq_some_iff.mp H
                     obtain ⟨t427, A1350, H⟩ := H
                     replace H : (some t427) = some r := H
                     have A135 := Aside0.mk A1350
                     clear A1350
                     obtain rfl := Option.some.inj H
                     have hnb136 := NB391_410.out
                     have hnc136 := NB410_391.out
                     have hcz137_0 : wr.cell? ⟨gb391, 0, none⟩ = some (.int .i64 t387) := (blk_cell BK391.out 0).trans rfl
                     have hcz137_1 : wr.cell? ⟨gb391, 1, none⟩ = some (.slice Ao16 t388.length co16) := (blk_cell BK391.out 1).trans rfl
                     have hfz137_0 := blk_frozen BK391.out 0
                     have hfz137_1 := blk_frozen BK391.out 1
                     obtain ⟨Ao138, co138, eo138⟩ := Kd.R_slice HO_19.out
                     subst eo138
                     have p426 : 0 ≤ (t417 : Int) := of_decide_eq_true (by first | (with_reducible assumption) | assumption)
                     have q426 : t417 < (t421.length : Int) := of_decide_eq_true (by first | (with_reducible assumption) | assumption)
                     obtain ⟨ad426, e426, hx426_0⟩ := Kd.at_bool (Kd.R_reads' HO_19.out).2.2 t417 p426 q426
                     (try rw [← Nbq93.out] at hx426_0)
                     (try rw [← Nbq130.out] at hx426_0)
                     cases e426
                     replace p426 := eq_true p426
                     replace q426 := eq_true q426
                     go_wp2_with (first | (go_at_call 17; (with_reducible refine (intervalmonlaw29_lives.calls k4  t427 _ A135.out).mono ?_); rintro e w139 ⟨rfl, hb⟩; have n0_ := Aside0.mk (Kd.R_below (rq HO_13) hb); have n1_ := Aside0.mk (Kd.R_below (rq HO_19) hb); have n2_ := Aside0.mk (Kd.V_below (vq HO_392001) hb); have n3_ := Aside0.mk (Kd.R_below (rq HO_411001) hb); have n4_ := Aside0.mk (blk_below (g := gb391) (o := .cells #[.int .i64 t387, .slice Ao16 t388.length co16] 31 (0, 0)) (bq BK391) hb); have n5_ := Aside0.mk (blk_below (g := gb410) (o := .cells #[.int .i64 t387, .slice Ao51 y407.length co51] 31 (0, 0)) (bq BK410) hb); have n6_ := Aside0.mk (below_step (hq HB) hb); clear HO_13; clear HO_19; clear HO_392001; clear HO_411001; clear BK391; clear BK410; clear HB; have HO_13 := n0_; have HO_19 := n1_; have HO_392001 := n2_; have HO_411001 := n3_; have BK391 := n4_; have BK410 := n5_; have HB := n6_; clear n0_ n1_ n2_ n3_ n4_ n5_ n6_; (try clear hb); (try clear hb2); (try clear hk); (try clear hi)))
                     go_ret
                     exact ⟨by first | rfl | (simp [errW_none, errW_some] <;> rfl) | (simp [*, errW_none, errW_some] <;> rfl), by repeat (first | (with_reducible first | exact HB.out | apply below_alloc | apply pw_below_drewN | apply below_drew1 | refine below_set ?_ GE391.out | refine below_set ?_ GE410.out) | exact HB.out)⟩
                   ·rw [if_neg c129] at H
                    exact absurd H (by simp)
                  ·rw [if_neg c128] at H
                   exact absurd H (by simp)
              ·rw [if_neg c95] at H
               exact absurd H (by simp)
             ·replace c94 := Bool.eq_false_iff.mpr c94
              subst c94
              have H1 : ((intervalmonlaw29_lives.f kj56).bind fun t419 => (some t419)) = some r := by rw [if_neg (show ¬ (false = true) by decide)] at H; exact H
              clear H
              have H := H1
              clear H1
              replace H := Option.bind_eq_some_iff.mp H
              obtain ⟨t419, A1400, H⟩ := H
              replace H : (some t419) = some r := H
              have A140 := Aside0.mk A1400
              clear A1400
              obtain rfl := Option.some.inj H
              have hnb141 := NB391_410.out
              have hnc141 := NB410_391.out
              have hcz142_0 : wc.cell? ⟨gb391, 0, none⟩ = some (.int .i64 t387) := (blk_cell BK391.out 0).trans rfl
              have hcz142_1 : wc.cell? ⟨gb391, 1, none⟩ = some (.slice Ao16 t388.length co16) := (blk_cell BK391.out 1).trans rfl
              have hfz142_0 := blk_frozen BK391.out 0
              have hfz142_1 := blk_frozen BK391.out 1
              go_wp2_with (first | ((with_reducible refine gate_callee (f := 13) rfl ?_); refine goesL_ (some 106) rfl rfl Try.func13 (by kernel_rfl) rfl #[.int .i64 a4, .int .i64 t387] rfl aq ?_; (with_reducible refine (intervalmonref01_Around.calls a4 t387 t417 _ A90.out).mono ?_); rintro e w' ⟨rfl, ⟨nd, rfl⟩⟩; refine ⟨_, rfl, ?_⟩; obtain ⟨Ao143, co143, eo143⟩ := Kd.R_slice HO_13.out; subst eo143; have p418 : 0 ≤ (t417 : Int) := of_decide_eq_true (by first | (with_reducible assumption) | assumption); have q418 : t417 < (t395.length : Int) := of_decide_eq_true (by first | (with_reducible assumption) | assumption); obtain ⟨ad418, e418, hx418_0⟩ := Kd.at_bool (Kd.R_reads' HO_13.out).2.2 t417 p418 q418; (try rw [← Nbq93.out] at hx418_0); cases e418; replace p418 := eq_true p418; replace q418 := eq_true q418) | ((with_reducible refine gate_callee (f := 17) rfl ?_); refine goesL_ (some 112) rfl rfl Try.func17 (by kernel_rfl) rfl #[] rfl aq ?_; (with_reducible refine (intervalmonlaw29_lives.calls kj56  t419 _ A140.out).mono ?_); rintro e w144 ⟨rfl, hb⟩; refine ⟨_, rfl, ?_⟩; have n0_ := Aside0.mk (Kd.R_below (rq HO_12) hb); have n1_ := Aside0.mk (Kd.R_below (rq HO_13) hb); have n2_ := Aside0.mk (Kd.R_below (rq HO_16) hb); have n3_ := Aside0.mk (Kd.V_below (vq HO_392001) hb); have n4_ := Aside0.mk (Kd.R_below (rq HO_411001) hb); have n5_ := Aside0.mk (blk_below (g := gb391) (o := .cells #[.int .i64 t387, .slice Ao16 t388.length co16] 31 (0, 0)) (bq BK391) hb); have n6_ := Aside0.mk (blk_below (g := gb410) (o := .cells #[.int .i64 t387, .slice Ao51 y407.length co51] 31 (0, 0)) (bq BK410) hb); have n7_ := Aside0.mk (below_step (hq HB) hb); clear HO_12; clear HO_13; clear HO_16; clear HO_392001; clear HO_411001; clear BK391; clear BK410; clear HB; have HO_12 := n0_; have HO_13 := n1_; have HO_16 := n2_; have HO_392001 := n3_; have HO_411001 := n4_; have BK391 := n5_; have BK410 := n6_; have HB := n7_; clear n0_ n1_ n2_ n3_ n4_ n5_ n6_ n7_; (try clear hb); (try clear hb2); (try clear hk); (try clear hi)))
              go_ret
              exact ⟨by first | rfl | (simp [errW_none, errW_some] <;> rfl) | (simp [*, errW_none, errW_some] <;> rfl), by repeat (first | (with_reducible first | exact HB.out | apply below_alloc | apply pw_below_drewN | apply below_drew1 | refine below_set ?_ GE391.out | refine below_set ?_ GE410.out) | exact HB.out)⟩
            ·rw [if_neg c92] at H
             exact absurd H (by simp)
           ·rw [if_neg c91] at H
            exact absurd H (by simp)
     ·rw [if_neg c38] at H
      exact absurd H (by simp)
    ·rw [if_neg c35] at H
     exact absurd H (by simp)

/-- THE ONE PURE STATEMENT of intervalmonlaw29_RouteMonotone: yours. -/
def intervalmonlaw29_RouteMonotone.Pure : Prop := ∀ (l0 : List Int) (a1 : Int) (a2 : Int) (a3 : Int) (a4 : Int), l0.length ≤ maxLen → l0.length * 8 ≤ 140737488351232 → (∀ x ∈ l0, (Lit.int .i64 x).wf = true) → (Lit.int .i64 a1).wf = true → (Lit.int .i64 a2).wf = true → (Lit.int .i64 a3).wf = true → (Lit.int .i64 a4).wf = true → ∃ k, intervalmonlaw29_RouteMonotone.f k l0 a1 a2 a3 a4 = some true
theorem intervalmonlaw29_RouteMonotone.walk (P : intervalmonlaw29_RouteMonotone.Pure) (a0 : Option Addr) (len0 cap0 : Nat) (z0 : List Int) (a1 : Int) (a2 : Int) (a3 : Int) (a4 : Int) (w : World) (w0 : (a0 = none ∧ len0 = 0 ∧ cap0 = 0 ∧ z0 = []) ∨ ∃ x, a0 = some x ∧ len0 ≤ cap0 ∧ cap0 ≤ maxLen ∧ z0.length = cap0 ∧ (∀ i, i < z0.length → w.cell? (x.add i) = some (.int .i64 (z0.getD i 0))) ∧ ∀ n ∈ z0, (Lit.int .i64 n).wf = true) (y0 : len0 * 8 ≤ 140737488351232) (w1 : (Lit.int .i64 a1).wf = true) (w2 : (Lit.int .i64 a2).wf = true) (w3 : (Lit.int .i64 a3).wf = true) (w4 : (Lit.int .i64 a4).wf = true) :
  Calls Try.prog 6 #[.slice a0 len0 cap0, .int .i64 a1, .int .i64 a2, .int .i64 a3, .int .i64 a4] w fun e w' => e = .returned (.bool true) ∧ Below w.heap.size w w' := by
 obtain ⟨l0, rfl, hr0, hm0, hw0, hc0⟩ := ReadsInt.ofRowC w0
 obtain ⟨k, h⟩ := P l0 a1 a2 a3 a4 hm0 y0 hw0 w1 w2 w3 w4
 refine (intervalmonlaw29_RouteMonotone.calls k _ _ l0 a1 a2 a3 a4 true w (Kd.C_of_reads (d := (0 : Int)) (h1 := fun _ => rfl) hr0) hc0 h).mono ?_
 rintro e w' ⟨rfl, hd⟩
 exact ⟨rfl, hd⟩

end Go.Proofs.Ytcamljlhdejmmaa.P
