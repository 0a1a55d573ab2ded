-- Written by this session's own copy of a printing program (wip/tools); Lean checks it.
import Derived.Test.YtcamljlhdejmmaaPx0
import Derived.Test.YtcamljlhdejmmaaPx3
import Derived.Test.YtcamljlhdejmmaaPx6
import Derived.Test.YtcamljlhdejmmaaPx8
import Derived.Test.YtcamljlhdejmmaaPx11
import Derived.Test.YtcamljlhdejmmaaPx13
namespace Go.Proofs.Ytcamljlhdejmmaa.P
open Go.RowKit Go.Proofs.YtcamljlhdejmmaaW.PrintWords Go.Proofs.YtcamljlhdejmmaaW.PrintLast Go.Proofs.YtcamljlhdejmmaaW.PrintMore
attribute [local go_sem] max2_int min2_int max_two min_two max_three min_three max_four min_four   -- for this text's walks alone
set_option linter.unusedVariables false
set_option linter.unusedSimpArgs false

/-! ### intervalmonlaw29_RouteRoots: function 5 -/
mutual
def intervalmonlaw29_RouteRoots.l0 : Nat → List Bool → List Bool → List Bool → Bool → Bool → Int → Int → List (S27) → Option (Bool)
 | 0, _, _, _, _, _, _, _, _ => none
 | k + 1, x6, x7, x8, x9, x10, x11, x351000, x351001 => if x11 < x351000 then (if x9 = true then (intervalmonlaw29_RouteRoots.j1 k x6 x7 x8 true x10 x11 x351000 x351001) else (if 0 ≤ x11 then (if x11 < (x6.length : Int) then (intervalmonlaw29_RouteRoots.j1 k x6 x7 x8 (rdOf false x6 x11) x10 x11 x351000 x351001) else (none)) else (none))) else (intervalmonlaw29_RouteRoots.l2 k x6 x7 x8 x9 x10 0 x351000 x351001)
def intervalmonlaw29_RouteRoots.j1 : Nat → List Bool → List Bool → List Bool → Bool → Bool → Int → Int → List (S27) → Option (Bool)
 | 0, _, _, _, _, _, _, _, _ => none
 | k + 1, x6, x7, x8, x9, x10, x11, x351000, x351001 => if 0 ≤ x11 then (if x11 < (x6.length : Int) then (if rdOf false x6 x11 = true then (if x11 < (x7.length : Int) then (intervalmonlaw29_RouteRoots.j2 k x6 x7 x8 x9 x10 x11 (!(rdOf false x7 x11)) x351000 x351001) else (none)) else (intervalmonlaw29_RouteRoots.j2 k x6 x7 x8 x9 x10 x11 false x351000 x351001)) else (none)) else (none)
def intervalmonlaw29_RouteRoots.j2 : Nat → List Bool → List Bool → List Bool → Bool → Bool → Int → Bool → Int → List (S27) → Option (Bool)
 | 0, _, _, _, _, _, _, _, _, _ => none
 | k + 1, x6, x7, x8, x9, x10, x11, x56, x351000, x351001 => if x56 = true then ((intervalmonref29_Reached.f k x351000 x351001 x11).bind fun t367 => (intervalmonlaw29_RouteRoots.l1 k x6 x7 x8 x9 true x11 t367 0 x351000 x351001)) else (intervalmonlaw29_RouteRoots.l0 k x6 x7 x8 x9 x10 (wrap64 (x11 + 1)) x351000 x351001)
def intervalmonlaw29_RouteRoots.l1 : Nat → List Bool → List Bool → List Bool → Bool → Bool → Int → List Bool → Int → Int → List (S27) → Option (Bool)
 | 0, _, _, _, _, _, _, _, _, _, _ => none
 | k + 1, x6, x7, x8, x9, x10, x11, x12, x13, x351000, x351001 => if x13 < x351000 then (if 0 ≤ x13 then (if x13 < (x8.length : Int) then (if rdOf false x8 x13 = true then (intervalmonlaw29_RouteRoots.l1 k x6 x7 (x8.set (x13 : Int).toNat true) x9 x10 x11 x12 (wrap64 (x13 + 1)) x351000 x351001) else (if x13 < (x12.length : Int) then (intervalmonlaw29_RouteRoots.l1 k x6 x7 (x8.set (x13 : Int).toNat (rdOf false x12 x13)) x9 x10 x11 x12 (wrap64 (x13 + 1)) x351000 x351001) else (none))) else (none)) else (none)) else (intervalmonlaw29_RouteRoots.l0 k x6 x7 x8 x9 x10 (wrap64 (x11 + 1)) x351000 x351001)
def intervalmonlaw29_RouteRoots.l2 : Nat → List Bool → List Bool → List Bool → Bool → Bool → Int → Int → List (S27) → Option (Bool)
 | 0, _, _, _, _, _, _, _, _ => none
 | k + 1, x6, x7, x8, x9, x10, x14, x351000, x351001 => if x14 < x351000 then (if 0 ≤ x14 then (if x14 < (x7.length : Int) then (if rdOf false x7 x14 = true then (if x14 < (x6.length : Int) then (if rdOf false x6 x14 = true then (if x14 < (x8.length : Int) then (if rdOf false x8 x14 = true then (intervalmonlaw29_RouteRoots.l2 k x6 x7 x8 x9 x10 (wrap64 (x14 + 1)) x351000 x351001) else (some false)) else (none)) else (some false)) else (none)) else (if x14 < (x6.length : Int) then (if rdOf false x6 x14 = true then (if x14 < (x8.length : Int) then (if rdOf false x8 x14 = true then (some false) else (intervalmonlaw29_RouteRoots.l2 k x6 x7 x8 x9 x10 (wrap64 (x14 + 1)) x351000 x351001)) else (none)) else (intervalmonlaw29_RouteRoots.l2 k x6 x7 x8 x9 x10 (wrap64 (x14 + 1)) x351000 x351001)) else (none))) else (none)) else (none)) else (if (x9 == x10) = true then ((intervalmonlaw29_lives.f k).bind fun t382 => (some t382)) else (some false))
end
def intervalmonlaw29_RouteRoots.f (k : Nat) (l0 : List Int) (a1 : Int) : Option (Bool) := (intervalmonref29_Acyclic.f k l0).bind fun bt346 => ((intervalmonref29_Firing.f k bt346.1 a1).bind fun t351 => ((intervalmonlaw29_graph.f bt346.1 bt346.2).bind fun bt354 => ((route_Inhibited.f k bt354.1 bt354.2 t351).bind fun t358 => (if (t358.length : Int) = bt346.1 then (if 0 ≤ bt346.1 then (if (bt346.1 : Int).toNat ≤ 281474976710656 then (intervalmonlaw29_RouteRoots.l0 k t351 t358 (List.replicate (bt346.1 : Int).toNat false) false false 0 bt346.1 bt346.2) else (none)) else (none)) else (some false)))))
theorem intervalmonlaw29_RouteRoots.mono_l : ∀ k, (∀ y0 y1 y2 y3 y4 y5 y6 y7, LeO (intervalmonlaw29_RouteRoots.l0 k y0 y1 y2 y3 y4 y5 y6 y7) (intervalmonlaw29_RouteRoots.l0 (k + 1) y0 y1 y2 y3 y4 y5 y6 y7)) ∧ (∀ y0 y1 y2 y3 y4 y5 y6 y7, LeO (intervalmonlaw29_RouteRoots.j1 k y0 y1 y2 y3 y4 y5 y6 y7) (intervalmonlaw29_RouteRoots.j1 (k + 1) y0 y1 y2 y3 y4 y5 y6 y7)) ∧ (∀ y0 y1 y2 y3 y4 y5 y6 y7 y8, LeO (intervalmonlaw29_RouteRoots.j2 k y0 y1 y2 y3 y4 y5 y6 y7 y8) (intervalmonlaw29_RouteRoots.j2 (k + 1) y0 y1 y2 y3 y4 y5 y6 y7 y8)) ∧ (∀ y0 y1 y2 y3 y4 y5 y6 y7 y8 y9, LeO (intervalmonlaw29_RouteRoots.l1 k y0 y1 y2 y3 y4 y5 y6 y7 y8 y9) (intervalmonlaw29_RouteRoots.l1 (k + 1) y0 y1 y2 y3 y4 y5 y6 y7 y8 y9)) ∧ (∀ y0 y1 y2 y3 y4 y5 y6 y7, LeO (intervalmonlaw29_RouteRoots.l2 k y0 y1 y2 y3 y4 y5 y6 y7) (intervalmonlaw29_RouteRoots.l2 (k + 1) y0 y1 y2 y3 y4 y5 y6 y7))
 | 0 => ⟨fun _ _ _ _ _ _ _ _ r h => by simp [intervalmonlaw29_RouteRoots.l0] at h, fun _ _ _ _ _ _ _ _ r h => by simp [intervalmonlaw29_RouteRoots.j1] at h, fun _ _ _ _ _ _ _ _ _ r h => by simp [intervalmonlaw29_RouteRoots.j2] at h, fun _ _ _ _ _ _ _ _ _ _ r h => by simp [intervalmonlaw29_RouteRoots.l1] at h, fun _ _ _ _ _ _ _ _ r h => by simp [intervalmonlaw29_RouteRoots.l2] at h⟩
 | k + 1 => by
  obtain ⟨ih0, ih1, ih2, ih3, ih4⟩ := intervalmonlaw29_RouteRoots.mono_l k
  refine ⟨?_, ?_, ?_, ?_, ?_⟩
  ·intro y0 y1 y2 y3 y4 y5 y6 y7
   unfold intervalmonlaw29_RouteRoots.l0
   repeat' first
   | (with_reducible exact ih0 _ _ _ _ _ _ _ _)
   | (with_reducible exact ih1 _ _ _ _ _ _ _ _)
   | (with_reducible exact ih2 _ _ _ _ _ _ _ _ _)
   | (with_reducible exact ih3 _ _ _ _ _ _ _ _ _ _)
   | (with_reducible exact ih4 _ _ _ _ _ _ _ _)
   | (with_reducible exact intervalmonlaw29_lives.mono _)
   | (with_reducible exact intervalmonref29_Acyclic.mono _ _)
   | (with_reducible exact intervalmonref29_Firing.mono _ _ _)
   | (with_reducible exact intervalmonref29_Reached.mono _ _ _ _)
   | (with_reducible exact route_Inhibited.mono _ _ _ _)
   | (with_reducible exact LeO.refl _)
   | (with_reducible exact LeO.none _)
   | (with_reducible refine LeO.ite ?_ ?_)
   | (with_reducible refine LeO.bind ?_ (fun _ => ?_))
   | exact ih0 _ _ _ _ _ _ _ _
   | exact ih1 _ _ _ _ _ _ _ _
   | exact ih2 _ _ _ _ _ _ _ _ _
   | exact ih3 _ _ _ _ _ _ _ _ _ _
   | exact ih4 _ _ _ _ _ _ _ _
   | exact intervalmonlaw29_lives.mono _
   | exact intervalmonref29_Acyclic.mono _ _
   | exact intervalmonref29_Firing.mono _ _ _
   | exact intervalmonref29_Reached.mono _ _ _ _
   | exact route_Inhibited.mono _ _ _ _
   | exact LeO.none _
   | refine LeO.ite ?_ ?_
   | refine LeO.bind ?_ (fun _ => ?_)
  ·intro y0 y1 y2 y3 y4 y5 y6 y7
   unfold intervalmonlaw29_RouteRoots.j1
   repeat' first
   | (with_reducible exact ih0 _ _ _ _ _ _ _ _)
   | (with_reducible exact ih1 _ _ _ _ _ _ _ _)
   | (with_reducible exact ih2 _ _ _ _ _ _ _ _ _)
   | (with_reducible exact ih3 _ _ _ _ _ _ _ _ _ _)
   | (with_reducible exact ih4 _ _ _ _ _ _ _ _)
   | (with_reducible exact intervalmonlaw29_lives.mono _)
   | (with_reducible exact intervalmonref29_Acyclic.mono _ _)
   | (with_reducible exact intervalmonref29_Firing.mono _ _ _)
   | (with_reducible exact intervalmonref29_Reached.mono _ _ _ _)
   | (with_reducible exact route_Inhibited.mono _ _ _ _)
   | (with_reducible exact LeO.refl _)
   | (with_reducible exact LeO.none _)
   | (with_reducible refine LeO.ite ?_ ?_)
   | (with_reducible refine LeO.bind ?_ (fun _ => ?_))
   | exact ih0 _ _ _ _ _ _ _ _
   | exact ih1 _ _ _ _ _ _ _ _
   | exact ih2 _ _ _ _ _ _ _ _ _
   | exact ih3 _ _ _ _ _ _ _ _ _ _
   | exact ih4 _ _ _ _ _ _ _ _
   | exact intervalmonlaw29_lives.mono _
   | exact intervalmonref29_Acyclic.mono _ _
   | exact intervalmonref29_Firing.mono _ _ _
   | exact intervalmonref29_Reached.mono _ _ _ _
   | exact route_Inhibited.mono _ _ _ _
   | exact LeO.none _
   | refine LeO.ite ?_ ?_
   | refine LeO.bind ?_ (fun _ => ?_)
  ·intro y0 y1 y2 y3 y4 y5 y6 y7 y8
   unfold intervalmonlaw29_RouteRoots.j2
   repeat' first
   | (with_reducible exact ih0 _ _ _ _ _ _ _ _)
   | (with_reducible exact ih1 _ _ _ _ _ _ _ _)
   | (with_reducible exact ih2 _ _ _ _ _ _ _ _ _)
   | (with_reducible exact ih3 _ _ _ _ _ _ _ _ _ _)
   | (with_reducible exact ih4 _ _ _ _ _ _ _ _)
   | (with_reducible exact intervalmonlaw29_lives.mono _)
   | (with_reducible exact intervalmonref29_Acyclic.mono _ _)
   | (with_reducible exact intervalmonref29_Firing.mono _ _ _)
   | (with_reducible exact intervalmonref29_Reached.mono _ _ _ _)
   | (with_reducible exact route_Inhibited.mono _ _ _ _)
   | (with_reducible exact LeO.refl _)
   | (with_reducible exact LeO.none _)
   | (with_reducible refine LeO.ite ?_ ?_)
   | (with_reducible refine LeO.bind ?_ (fun _ => ?_))
   | exact ih0 _ _ _ _ _ _ _ _
   | exact ih1 _ _ _ _ _ _ _ _
   | exact ih2 _ _ _ _ _ _ _ _ _
   | exact ih3 _ _ _ _ _ _ _ _ _ _
   | exact ih4 _ _ _ _ _ _ _ _
   | exact intervalmonlaw29_lives.mono _
   | exact intervalmonref29_Acyclic.mono _ _
   | exact intervalmonref29_Firing.mono _ _ _
   | exact intervalmonref29_Reached.mono _ _ _ _
   | exact route_Inhibited.mono _ _ _ _
   | exact LeO.none _
   | refine LeO.ite ?_ ?_
   | refine LeO.bind ?_ (fun _ => ?_)
  ·intro y0 y1 y2 y3 y4 y5 y6 y7 y8 y9
   unfold intervalmonlaw29_RouteRoots.l1
   repeat' first
   | (with_reducible exact ih0 _ _ _ _ _ _ _ _)
   | (with_reducible exact ih1 _ _ _ _ _ _ _ _)
   | (with_reducible exact ih2 _ _ _ _ _ _ _ _ _)
   | (with_reducible exact ih3 _ _ _ _ _ _ _ _ _ _)
   | (with_reducible exact ih4 _ _ _ _ _ _ _ _)
   | (with_reducible exact intervalmonlaw29_lives.mono _)
   | (with_reducible exact intervalmonref29_Acyclic.mono _ _)
   | (with_reducible exact intervalmonref29_Firing.mono _ _ _)
   | (with_reducible exact intervalmonref29_Reached.mono _ _ _ _)
   | (with_reducible exact route_Inhibited.mono _ _ _ _)
   | (with_reducible exact LeO.refl _)
   | (with_reducible exact LeO.none _)
   | (with_reducible refine LeO.ite ?_ ?_)
   | (with_reducible refine LeO.bind ?_ (fun _ => ?_))
   | exact ih0 _ _ _ _ _ _ _ _
   | exact ih1 _ _ _ _ _ _ _ _
   | exact ih2 _ _ _ _ _ _ _ _ _
   | exact ih3 _ _ _ _ _ _ _ _ _ _
   | exact ih4 _ _ _ _ _ _ _ _
   | exact intervalmonlaw29_lives.mono _
   | exact intervalmonref29_Acyclic.mono _ _
   | exact intervalmonref29_Firing.mono _ _ _
   | exact intervalmonref29_Reached.mono _ _ _ _
   | exact route_Inhibited.mono _ _ _ _
   | exact LeO.none _
   | refine LeO.ite ?_ ?_
   | refine LeO.bind ?_ (fun _ => ?_)
  ·intro y0 y1 y2 y3 y4 y5 y6 y7
   unfold intervalmonlaw29_RouteRoots.l2
   repeat' first
   | (with_reducible exact ih0 _ _ _ _ _ _ _ _)
   | (with_reducible exact ih1 _ _ _ _ _ _ _ _)
   | (with_reducible exact ih2 _ _ _ _ _ _ _ _ _)
   | (with_reducible exact ih3 _ _ _ _ _ _ _ _ _ _)
   | (with_reducible exact ih4 _ _ _ _ _ _ _ _)
   | (with_reducible exact intervalmonlaw29_lives.mono _)
   | (with_reducible exact intervalmonref29_Acyclic.mono _ _)
   | (with_reducible exact intervalmonref29_Firing.mono _ _ _)
   | (with_reducible exact intervalmonref29_Reached.mono _ _ _ _)
   | (with_reducible exact route_Inhibited.mono _ _ _ _)
   | (with_reducible exact LeO.refl _)
   | (with_reducible exact LeO.none _)
   | (with_reducible refine LeO.ite ?_ ?_)
   | (with_reducible refine LeO.bind ?_ (fun _ => ?_))
   | exact ih0 _ _ _ _ _ _ _ _
   | exact ih1 _ _ _ _ _ _ _ _
   | exact ih2 _ _ _ _ _ _ _ _ _
   | exact ih3 _ _ _ _ _ _ _ _ _ _
   | exact ih4 _ _ _ _ _ _ _ _
   | exact intervalmonlaw29_lives.mono _
   | exact intervalmonref29_Acyclic.mono _ _
   | exact intervalmonref29_Firing.mono _ _ _
   | exact intervalmonref29_Reached.mono _ _ _ _
   | exact route_Inhibited.mono _ _ _ _
   | exact LeO.none _
   | refine LeO.ite ?_ ?_
   | refine LeO.bind ?_ (fun _ => ?_)
theorem intervalmonlaw29_RouteRoots.mono : ∀ a0 a1 k, LeO (intervalmonlaw29_RouteRoots.f k a0 a1) (intervalmonlaw29_RouteRoots.f (k + 1) a0 a1) := by
 intro a0 a1 k
 obtain ⟨ih0, ih1, ih2, ih3, ih4⟩ := intervalmonlaw29_RouteRoots.mono_l k
 unfold intervalmonlaw29_RouteRoots.f
 repeat' first
   | (with_reducible exact ih0 _ _ _ _ _ _ _ _)
   | (with_reducible exact ih1 _ _ _ _ _ _ _ _)
   | (with_reducible exact ih2 _ _ _ _ _ _ _ _ _)
   | (with_reducible exact ih3 _ _ _ _ _ _ _ _ _ _)
   | (with_reducible exact ih4 _ _ _ _ _ _ _ _)
   | (with_reducible exact intervalmonlaw29_lives.mono _)
   | (with_reducible exact intervalmonref29_Acyclic.mono _ _)
   | (with_reducible exact intervalmonref29_Firing.mono _ _ _)
   | (with_reducible exact intervalmonref29_Reached.mono _ _ _ _)
   | (with_reducible exact route_Inhibited.mono _ _ _ _)
   | (with_reducible exact LeO.refl _)
   | (with_reducible exact LeO.none _)
   | (with_reducible refine LeO.ite ?_ ?_)
   | (with_reducible refine LeO.bind ?_ (fun _ => ?_))
   | exact ih0 _ _ _ _ _ _ _ _
   | exact ih1 _ _ _ _ _ _ _ _
   | exact ih2 _ _ _ _ _ _ _ _ _
   | exact ih3 _ _ _ _ _ _ _ _ _ _
   | exact ih4 _ _ _ _ _ _ _ _
   | exact intervalmonlaw29_lives.mono _
   | exact intervalmonref29_Acyclic.mono _ _
   | exact intervalmonref29_Firing.mono _ _ _
   | exact intervalmonref29_Reached.mono _ _ _ _
   | exact route_Inhibited.mono _ _ _ _
   | exact LeO.none _
   | refine LeO.ite ?_ ?_
   | refine LeO.bind ?_ (fun _ => ?_)
set_option maxHeartbeats 8000000 in
set_option maxRecDepth 100000 in
theorem intervalmonlaw29_RouteRoots.calls (k : Nat) (A0 : Option Addr) (c0 : Nat) (l0 : List Int) (a1 : Int) (r : Bool) (w : World) (hr0 : Kd.C (Kd.int .i64) w A0 l0.length l0) (hc0 : l0.length ≤ c0) (h : intervalmonlaw29_RouteRoots.f k l0 a1 = some r) :
  Calls Try.prog 5 #[.slice A0 l0.length c0, .int .i64 a1] w fun e w' => e = .returned (.bool r) ∧ Below w.heap.size w w' := by
 have hu25 := Try.underlying25
 have HR0 := Aside0.mk hr0
 have HC0 := Aside0.mk hc0
 clear hr0 hc0
 have HB := Aside0.mk (Below.refl w.heap.size w)
 have H : ((intervalmonref29_Acyclic.f k l0).bind fun bt346 => ((intervalmonref29_Firing.f k bt346.1 a1).bind fun t351 => ((intervalmonlaw29_graph.f bt346.1 bt346.2).bind fun bt354 => ((route_Inhibited.f k bt354.1 bt354.2 t351).bind fun t358 => (if (t358.length : Int) = bt346.1 then (if 0 ≤ bt346.1 then (if (bt346.1 : Int).toNat ≤ 281474976710656 then (intervalmonlaw29_RouteRoots.l0 k t351 t358 (List.replicate (bt346.1 : Int).toNat false) false false 0 bt346.1 bt346.2) else (none)) else (none)) else (some false)))))) = some r := h
 clear h
 replace H := Option.bind_eq_some_iff.mp H
 obtain ⟨⟨t346, t347⟩, A30, H⟩ := H
 replace H : ((intervalmonref29_Firing.f k t346 a1).bind fun t351 => ((intervalmonlaw29_graph.f t346 t347).bind fun bt354 => ((route_Inhibited.f k bt354.1 bt354.2 t351).bind fun t358 => (if (t358.length : Int) = t346 then (if 0 ≤ t346 then (if (t346 : Int).toNat ≤ 281474976710656 then (intervalmonlaw29_RouteRoots.l0 k t351 t358 (List.replicate (t346 : Int).toNat false) false false 0 t346 t347) else (none)) else (none)) else (some false))))) = some r := H
 have A3 := Aside0.mk A30
 clear A30
 replace H := Option.bind_eq_some_iff.mp H
 obtain ⟨t351, A40, H⟩ := H
 replace H : ((intervalmonlaw29_graph.f t346 t347).bind fun bt354 => ((route_Inhibited.f k bt354.1 bt354.2 t351).bind fun t358 => (if (t358.length : Int) = t346 then (if 0 ≤ t346 then (if (t346 : Int).toNat ≤ 281474976710656 then (intervalmonlaw29_RouteRoots.l0 k t351 t358 (List.replicate (t346 : Int).toNat false) false false 0 t346 t347) else (none)) else (none)) else (some false)))) = some r := H
 have A4 := Aside0.mk A40
 clear A40
 replace H := Option.bind_eq_some_iff.mp H
 obtain ⟨⟨t354, t355⟩, A50, H⟩ := H
 replace H : ((route_Inhibited.f k t354 t355 t351).bind fun t358 => (if (t358.length : Int) = t346 then (if 0 ≤ t346 then (if (t346 : Int).toNat ≤ 281474976710656 then (intervalmonlaw29_RouteRoots.l0 k t351 t358 (List.replicate (t346 : Int).toNat false) false false 0 t346 t347) else (none)) else (none)) else (some false))) = some r := H
 have A5 := Aside0.mk A50
 clear A50
 replace H := Option.bind_eq_some_iff.mp H
 obtain ⟨t358, A60, H⟩ := H
 replace H : (if (t358.length : Int) = t346 then (if 0 ≤ t346 then (if (t346 : Int).toNat ≤ 281474976710656 then (intervalmonlaw29_RouteRoots.l0 k t351 t358 (List.replicate (t346 : Int).toNat false) false false 0 t346 t347) else (none)) else (none)) else (some false)) = some r := H
 have A6 := Aside0.mk A60
 clear A60
 by_cases c7 : (t358.length : Int) = t346
 ·rw [if_pos c7] at H
  have c7b0 : ((t358.length : Int) == t346) = true := beq_iff_eq.mpr c7
  have c7b1 : ((t358.length : Int) != t346) = false := bne_eq_false_iff_eq.mpr c7
  clear c7
  by_cases c8 : 0 ≤ t346
  ·rw [if_pos c8] at H
   have c8b0 := eq_true c8
   have c8b1 : decide (0 ≤ t346) = true := decide_eq_true c8
   clear c8
   by_cases c9 : (t346 : Int).toNat ≤ 281474976710656
   ·rw [if_pos c9] at H
    have c9b0 := eq_true c9
    have c9b1 : decide ((t346 : Int).toNat ≤ 281474976710656) = true := decide_eq_true c9
    clear c9
    obtain ⟨y361, hy361⟩ : ∃ y_ : List Bool, y_ = (List.replicate (t346 : Int).toNat false) := ⟨_, rfl⟩
    replace H : (intervalmonlaw29_RouteRoots.l0 k t351 t358 y361 false false 0 t346 t347) = some r := by first | (rw [hy361]; with_reducible exact H) | (have H2_ := (Option.bind_some _ _).symm.trans H; rw [hy361]; with_reducible exact H2_) | (have H2_ := (Option.bind_some _ _).symm.trans H; with_reducible exact H2_) | with_reducible exact H | (rw [hy361]; exact H) | exact H
    have Ny361 := Aside0.mk hy361
    clear hy361
    have H' := Aside0.mk H
    clear H
    go_enter Try.func5, Try.ntmps5
    go_wp2_with (first | ((with_reducible refine gate_callee (f := 22) rfl ?_); refine goesL_ (some 16) rfl rfl Try.func22 (by kernel_rfl) rfl #[.slice A0 l0.length c0] rfl aq ?_; (with_reducible refine (intervalmonref29_Acyclic.calls k _ _ l0 t346 t347 _ ?side1 ?side2 A3.out).mono ?_); (case side1 => repeat (first | exact HR0.out | (with_reducible refine Kd.C_alloc ?_ _) | (with_reducible refine Kd.C_drewN ?_ _) | (with_reducible refine Kd.C_drew ?_))); (case side2 => exact HC0.out); rintro e w10 ⟨v348, rfl, ho0, hb⟩; refine ⟨_, rfl, ?_⟩; have n0_ := Aside0.mk (Kd.R_lower ho0 (below_size (hq HB))); have n1_ := Aside0.mk (below_step (hq HB) hb); clear HB; have HO349 := n0_; have HB := n1_; clear n0_ n1_; (try clear hb); (try clear hb2); (try clear hk); (try clear hi); (try clear ho0)) | ((with_reducible refine gate_dst (N := 5) rfl ?_); refine box_event ?hg (N := 5) ?hd (cs := #[.int .i64 0, .slice none 0 0]) (t := 25) ?hr ?_; (case hd => rfl); (case hg => rfl); (case hr => first | (go_simp; done) | (go_simp; rfl)); intro gb350 hg w11 hbox hb; have n0_ := Aside0.mk (Kd.R_below (rq HO349) hb); have n1_ := Aside0.mk (below_step (hq HB) hb); have n2_ := Aside0.mk (hbox); have n3_ := Aside0.mk ((by rw [hg]; exact (below_size (hq HB)) : w.heap.size ≤ gb350)); have n4_ := Aside0.mk ((by rw [hg]; exact (below_size (hq HB)) : w.heap.size ≤ gb350)); clear HO349; clear HB; have HO349 := n0_; have HB := n1_; have BK350 := n2_; have GW350 := n3_; have GE350 := n4_; clear n0_ n1_ n2_ n3_ n4_; clear hb hbox hg; have hcz12_0 : w11.cell? ⟨gb350, 0, none⟩ = some (.int .i64 0) := (blk_cell BK350.out 0).trans rfl; have hcz12_1 : w11.cell? ⟨gb350, 1, none⟩ = some (.slice none 0 0) := (blk_cell BK350.out 1).trans rfl; have hfz12_0 := blk_frozen BK350.out 0; have hfz12_1 := blk_frozen BK350.out 1; obtain ⟨Ao13, co13, eo13⟩ := Kd.R_slice HO349.out; subst eo13) | ((with_reducible refine gate_callee (f := 18) rfl ?_); refine goesL_ (some 20) rfl rfl Try.func18 (by kernel_rfl) rfl #[.int .i64 t346, .int .i64 a1] rfl aq ?_; (with_reducible refine (intervalmonref29_Firing.calls k t346 a1 t351 _ A4.out).mono ?_); rintro e w14 ⟨v352, rfl, ho0, hb⟩; refine ⟨_, rfl, ?_⟩; have n0_ := Aside0.mk (Kd.R_below (by (with_reducible repeat (first | apply Kd.R_alloc | apply Kd.R_drewN | apply Kd.R_drew)); exact (Kd.R_mono (Kd.R_far (p := ⟨gb350, 1, none⟩) (Kd.R_far (p := ⟨gb350, 0, none⟩) (Kd.R_types HO349.out BK350.out (by decide)) (fun _ hk => hk.2) (.int .i64 t346)) (fun _ hk => hk.2) (.slice Ao13 t347.length co13)) (fun _ h_ => h_.1))) hb); have n1_ := Aside0.mk (Kd.R_lower ho0 (below_size (hq HB))); have n2_ := Aside0.mk (blk_below (g := gb350) (o := .cells #[.int .i64 t346, .slice Ao13 t347.length co13] 25 (0, 0)) (by (with_reducible repeat (first | refine blk_drewN ?_ _ | refine blk_drew ?_ | refine blk_alloc ?_ _)); refine blk_put (cs := #[.int .i64 t346, .slice none 0 0]) ?_ 1 _ rfl; (with_reducible repeat (first | refine blk_drewN ?_ _ | refine blk_drew ?_ | refine blk_alloc ?_ _)); refine blk_put (cs := #[.int .i64 0, .slice none 0 0]) ?_ 0 _ rfl; (with_reducible repeat (first | refine blk_drewN ?_ _ | refine blk_drew ?_ | refine blk_alloc ?_ _)); exact BK350.out) hb); have n3_ := Aside0.mk (below_step (hq HB) hb); clear HO349; clear BK350; clear HB; have HO349 := n0_; have HO353 := n1_; have BK350 := n2_; have HB := n3_; clear n0_ n1_ n2_ n3_; (try clear hb); (try clear hb2); (try clear hk); (try clear hi); (try clear ho0); have hcz15_0 : w14.cell? ⟨gb350, 0, none⟩ = some (.int .i64 t346) := (blk_cell BK350.out 0).trans rfl; have hcz15_1 : w14.cell? ⟨gb350, 1, none⟩ = some (.slice Ao13 t347.length co13) := (blk_cell BK350.out 1).trans rfl; have hfz15_0 := blk_frozen BK350.out 0; have hfz15_1 := blk_frozen BK350.out 1) | ((with_reducible refine gate_callee (f := 15) rfl ?_); refine goesL_ (some 22) rfl rfl Try.func15 (by kernel_rfl) rfl #[.agg #[.int .i64 t346, .slice Ao13 t347.length co13]] rfl aq ?_; (with_reducible refine (intervalmonlaw29_graph.calls t346 (fun k_ => some k_ = (.slice Ao13 t347.length co13 : Value).ownBlock) _ _ t347 t354 t355 _ ?side1 A5.out).mono ?_); (case side1 => exact Kd.R_V (Kd.R_tight rfl (Kd.R_types (Kd.R_apart' (HO349.out) (Kd.R_typed HO353.out) (by decide)) BK350.out (by decide)))); rintro e w16 ⟨v356, rfl, ho0, hb⟩; refine ⟨_, rfl, ?_⟩; have n0_ := Aside0.mk (Kd.R_below (rq HO349) hb); have n1_ := Aside0.mk (Kd.R_below (rq HO353) hb); have n2_ := Aside0.mk (Kd.V_lower (Kd.V_mono (ok' := fun k_ => some k_ ≠ (v352 : Value).ownBlock ∧ k_ ≠ gb350) ho0 (fun k_ hk_ => ⟨Or.elim hk_ (fun hs_ => ((Kd.R_types (Kd.R_apart' (HO349.out) (Kd.R_typed HO353.out) (by decide)) BK350.out (by decide)).1 k_ hs_.symm).1.2) (fun hn_ => (Kd.fresh' (Kd.R_lt (rq HO353)) k_ hn_)), Or.elim hk_ (fun hs_ => ((Kd.R_types (Kd.R_apart' (HO349.out) (Kd.R_typed HO353.out) (by decide)) BK350.out (by decide)).1 k_ hs_.symm).2) (fun hn_ => (Kd.freshB (g := gb350) (o := .cells #[.int .i64 t346, .slice Ao13 t347.length co13] 25 (0, 0)) (bq BK350) k_ hn_))⟩)) (below_size (hq HB))); have n3_ := Aside0.mk (blk_below (g := gb350) (o := .cells #[.int .i64 t346, .slice Ao13 t347.length co13] 25 (0, 0)) (bq BK350) hb); have n4_ := Aside0.mk (below_step (hq HB) hb); clear HO349; clear HO353; clear BK350; clear HB; have HO349 := n0_; have HO353 := n1_; have HO357 := n2_; have BK350 := n3_; have HB := n4_; clear n0_ n1_ n2_ n3_ n4_; (try clear hb); (try clear hb2); (try clear hk); (try clear hi); (try clear ho0); obtain ⟨Ao17, co17, eo17⟩ := Kd.V_slice HO357.out; subst eo17; obtain ⟨Ao18, co18, eo18⟩ := Kd.R_slice HO353.out; subst eo18) | ((with_reducible refine gate_callee (f := 20) rfl ?_); refine goesL_ (some 24) rfl rfl Try.func20 (by kernel_rfl) rfl #[.agg #[.int .i64 t354, .slice Ao17 t355.length co17], .slice Ao18 t351.length co18] rfl aq ?_; (with_reducible refine (route_Inhibited.calls k t354 _ _ t355 _ _ t351 t358 _ ?side1 ?side2 ?side3 ?side4 A6.out).mono ?_); (case side1 => repeat (first | exact (Kd.V_reads' HO357.out).2.2 | (with_reducible refine Kd.C_alloc ?_ _) | (with_reducible refine Kd.C_drewN ?_ _) | (with_reducible refine Kd.C_drew ?_))); (case side2 => exact (Kd.V_reads' HO357.out).2.1); (case side3 => repeat (first | exact (Kd.R_reads' HO353.out).2.2 | (with_reducible refine Kd.C_alloc ?_ _) | (with_reducible refine Kd.C_drewN ?_ _) | (with_reducible refine Kd.C_drew ?_))); (case side4 => exact (Kd.R_reads' HO353.out).2.1); rintro e w19 ⟨v359, rfl, ho0, hb⟩; refine ⟨_, rfl, ?_⟩; have n0_ := Aside0.mk (Kd.R_below (rq HO349) hb); have n1_ := Aside0.mk (Kd.R_elder' (rq HO353) (Kd.R_base ho0) hb); have n2_ := Aside0.mk (Kd.V_elder' (vq HO357) (Kd.R_base ho0) hb); have n3_ := Aside0.mk (Kd.R_lower (Kd.R_new' ho0 (Kd.R_lt (rq HO353))) (below_size (hq HB))); have n4_ := Aside0.mk (blk_below (g := gb350) (o := .cells #[.int .i64 t346, .slice Ao13 t347.length co13] 25 (0, 0)) (bq BK350) hb); have n5_ := Aside0.mk (below_step (hq HB) hb); clear HO349; clear HO353; clear HO357; clear BK350; clear HB; have HO349 := n0_; have HO353 := n1_; have HO357 := n2_; have HO360 := n3_; have BK350 := n4_; have HB := n5_; clear n0_ n1_ n2_ n3_ n4_ n5_; (try clear hb); (try clear hb2); (try clear hk); (try clear hi); (try clear ho0); obtain ⟨Ao20, co20, eo20⟩ := Kd.R_slice HO360.out; subst eo20; have hcz21_0 : w19.cell? ⟨gb350, 0, none⟩ = some (.int .i64 t346) := (blk_cell BK350.out 0).trans rfl; have hcz21_1 : w19.cell? ⟨gb350, 1, none⟩ = some (.slice Ao13 t347.length co13) := (blk_cell BK350.out 1).trans rfl; have hfz21_0 := blk_frozen BK350.out 0; have hfz21_1 := blk_frozen BK350.out 1) | ((with_reducible refine gate_dst (N := 32) rfl ?_); refine Kd.R_make Kd.bool _ 4 rfl (N := 32) rfl 36 _ _ rfl t346 rfl rfl Try.underlying36 (.bool false) 1 info4 rfl (by decide) (by omega) false (ok := fun _ => True) (okp := fun _ => True) rfl (fun _ hk => hk) trivial (of_decide_eq_true (by first | (with_reducible assumption) | assumption)) (Nat.le_trans (Nat.mul_le_mul_right _ (of_decide_eq_true (by first | (with_reducible assumption) | assumption) : t346.toNat ≤ 281474976710656)) (by omega)) (Below.refl _ _) (Nat.le_refl _) ?_; intro v362 w22 ho23 hb hg_ hnew_; clear hg_ hnew_; (first | rw [← Ny361.out] at ho23 | (simp only [Int.reduceToNat] at ho23; rw [← Ny361.out] at ho23)); have n0_ := Aside0.mk (Kd.R_below (rq HO349) hb); have n1_ := Aside0.mk (Kd.R_elder' (rq HO353) (Kd.R_base ho23) hb); have n2_ := Aside0.mk (Kd.V_elder' (vq HO357) (Kd.R_base ho23) hb); have n3_ := Aside0.mk (Kd.R_elder' (rq HO360) (Kd.R_base ho23) hb); have n4_ := Aside0.mk (Kd.R_lower (Kd.R_new' (Kd.R_new' ho23 (Kd.R_lt (rq HO353))) (Kd.R_lt (rq HO360))) (below_size (hq HB))); have n5_ := Aside0.mk (blk_below (g := gb350) (o := .cells #[.int .i64 t346, .slice Ao13 t347.length co13] 25 (0, 0)) (bq BK350) hb); have n6_ := Aside0.mk (below_step (hq HB) hb); clear HO349; clear HO353; clear HO357; clear HO360; clear BK350; clear HB; have HO349 := n0_; have HO353 := n1_; have HO357 := n2_; have HO360 := n3_; have HO363 := n4_; have BK350 := n5_; have HB := n6_; clear n0_ n1_ n2_ n3_ n4_ n5_ n6_; clear hb ho23))
    go_loopg [9, 10, 11] k (fun kq v9 v10 v11 w' => ∃ (x8_1 : List Bool) (x9_1 : Bool) (x10_1 : Bool) (x11_1 : Int), v9 = .bool x9_1 ∧ v10 = .bool x10_1 ∧ v11 = .int .i64 x11_1 ∧ Aside0 (intervalmonlaw29_RouteRoots.l0 kq t351 t358 x8_1 x9_1 x10_1 x11_1 t346 t347 = some r) ∧ Aside0 (kq ≤ k) ∧ Aside0 (Kd.R Kd.bool 4 w' w.heap.size (fun k_ => some k_ ≠ ((.slice Ao20 t358.length co20) : Value).ownBlock ∧ some k_ ≠ (v362 : Value).ownBlock) (.slice Ao18 t351.length co18) t351) ∧ Aside0 (Kd.R Kd.bool 4 w' w.heap.size (fun k_ => some k_ ≠ ((.slice Ao18 t351.length co18) : Value).ownBlock ∧ some k_ ≠ (v362 : Value).ownBlock) (.slice Ao20 t358.length co20) t358) ∧ Aside0 (Kd.R Kd.bool 4 w' w.heap.size (fun k_ => some k_ ≠ ((.slice Ao18 t351.length co18) : Value).ownBlock ∧ some k_ ≠ ((.slice Ao20 t358.length co20) : Value).ownBlock) v362 x8_1) ∧ Aside0 (Kd.R k27 27 w' w.heap.size (fun _ => True) (.slice Ao13 t347.length co13) t347) ∧ Aside0 (w'.heap[gb350]? = some (.cells #[.int .i64 t346, (.slice Ao13 t347.length co13)] 25 (0, 0))) ∧ Aside0 (Below w.heap.size w w'))
    case atStart => exact ⟨(y361), (false), (false), (0), (by first | rfl | (simp; done) | (simp [*]; done)), (by first | rfl | (simp; done) | (simp [*]; done)), (by first | rfl | (simp; done) | (simp [*]; done)), H', ⟨Nat.le_refl _⟩, ⟨by (with_reducible repeat (first | apply Kd.R_alloc | apply Kd.R_drewN | apply Kd.R_drew)); exact Kd.R_mono HO353.out (fun _ hk => ⟨hk.1.2, hk.2⟩)⟩, ⟨by (with_reducible repeat (first | apply Kd.R_alloc | apply Kd.R_drewN | apply Kd.R_drew)); exact Kd.R_mono HO360.out (fun _ hk => ⟨hk.1.2, hk.2⟩)⟩, ⟨by (with_reducible repeat (first | apply Kd.R_alloc | apply Kd.R_drewN | apply Kd.R_drew)); exact Kd.R_mono HO363.out (fun _ hk => ⟨hk.1.2, hk.2⟩)⟩, ⟨by (with_reducible repeat (first | apply Kd.R_alloc | apply Kd.R_drewN | apply Kd.R_drew)); exact HO349.out⟩, ⟨by (with_reducible repeat (first | refine blk_drewN ?_ _ | refine blk_drew ?_ | refine blk_alloc ?_ _)); exact BK350.out⟩, ⟨by repeat (first | (with_reducible first | exact HB.out | apply below_alloc | apply pw_below_drewN | apply below_drew1 | refine below_set ?_ GE350.out) | exact HB.out)⟩⟩
    case round =>
     clear H'
     try clear c1
     try clear c2
     try clear p2
     try clear c5
     try clear c7
     try clear c7b0
     try clear c7b1
     try clear c8
     try clear c8b0
     try clear c8b1
     try clear c9
     try clear c9b0
     try clear c9b1
     try clear c15
     try clear c18
     try clear c20
     try clear c22
     try clear hcz12_0
     try clear hcz12_1
     try clear hcz15_0
     try clear hcz15_1
     try clear hcz21_0
     try clear hcz21_1
     try clear hfz12_0
     try clear hfz12_1
     try clear hfz15_0
     try clear hfz15_1
     try clear hfz21_0
     try clear hfz21_1
     obtain ⟨x8_1, x9_1, x10_1, x11_1, rfl, rfl, rfl, HA, HK1, HO_6, HO_7, HO_8, HO_351001, BK350, HB⟩ := hrel
     cases gk with
     | zero => exact absurd HA.out (by simp [intervalmonlaw29_RouteRoots.l0])
     | succ k1 =>
      have H := HA.out
      clear HA
      simp only [intervalmonlaw29_RouteRoots.l0] at H
      by_cases c24 : x11_1 < t346
      ·rw [if_pos c24] at H
       have c24b0 : decide (x11_1 < t346) = true := decide_eq_true c24
       clear c24
       have HC25 := Aside0.mk H
       clear H
       have hcz26_0 : wr.cell? ⟨gb350, 0, none⟩ = some (.int .i64 t346) := (blk_cell BK350.out 0).trans rfl
       have hcz26_1 : wr.cell? ⟨gb350, 1, none⟩ = some (.slice Ao13 t347.length co13) := (blk_cell BK350.out 1).trans rfl
       have hfz26_0 := blk_frozen BK350.out 0
       have hfz26_1 := blk_frozen BK350.out 1
       go_upto_region 12 with (fail)
       go_cut [9] (fun v9 wc => ∃ (kq : Nat) (x9_24 : Bool), v9 = .bool x9_24 ∧ Aside0 (intervalmonlaw29_RouteRoots.j1 kq t351 t358 x8_1 x9_24 x10_1 x11_1 t346 t347 = some r) ∧ Aside0 (kq ≤ k1) ∧ Aside0 (Kd.R Kd.bool 4 wc w.heap.size (fun k_ => some k_ ≠ ((.slice Ao20 t358.length co20) : Value).ownBlock ∧ some k_ ≠ (v362 : Value).ownBlock) (.slice Ao18 t351.length co18) t351) ∧ Aside0 (Kd.R Kd.bool 4 wc w.heap.size (fun k_ => some k_ ≠ ((.slice Ao18 t351.length co18) : Value).ownBlock ∧ some k_ ≠ (v362 : Value).ownBlock) (.slice Ao20 t358.length co20) t358) ∧ Aside0 (Kd.R Kd.bool 4 wc w.heap.size (fun k_ => some k_ ≠ ((.slice Ao18 t351.length co18) : Value).ownBlock ∧ some k_ ≠ ((.slice Ao20 t358.length co20) : Value).ownBlock) v362 x8_1) ∧ Aside0 (Kd.R k27 27 wc w.heap.size (fun _ => True) (.slice Ao13 t347.length co13) t347) ∧ Aside0 (wc.heap[gb350]? = some (.cells #[.int .i64 t346, (.slice Ao13 t347.length co13)] 25 (0, 0))) ∧ Aside0 (Below w.heap.size w wc))
       case first =>
        have H := HC25.out
        clear HC25
        by_cases c27 : x9_1 = true
        ·subst c27
         have H1 : (intervalmonlaw29_RouteRoots.j1 k1 t351 t358 x8_1 true x10_1 x11_1 t346 t347) = some r := by rw [if_pos rfl] at H; exact H
         clear H
         have H := H1
         clear H1
         have H' := Aside0.mk H
         clear H
         go_wp2
         go_meet
         case rel => exact ⟨_, (true), (by first | rfl | (simp; done) | (simp [*]; done)), H', ⟨by have := HK1.out; first | omega | exact Nat.le_refl _⟩, ⟨by (with_reducible repeat (first | apply Kd.R_alloc | apply Kd.R_drewN | apply Kd.R_drew)); exact HO_6.out⟩, ⟨by (with_reducible repeat (first | apply Kd.R_alloc | apply Kd.R_drewN | apply Kd.R_drew)); exact HO_7.out⟩, ⟨by (with_reducible repeat (first | apply Kd.R_alloc | apply Kd.R_drewN | apply Kd.R_drew)); exact HO_8.out⟩, ⟨by (with_reducible repeat (first | apply Kd.R_alloc | apply Kd.R_drewN | apply Kd.R_drew)); exact HO_351001.out⟩, ⟨by (with_reducible repeat (first | refine blk_drewN ?_ _ | refine blk_drew ?_ | refine blk_alloc ?_ _)); exact BK350.out⟩, ⟨by repeat (first | (with_reducible first | exact HB.out | apply below_alloc | apply pw_below_drewN | apply below_drew1 | refine below_set ?_ GE350.out) | exact HB.out)⟩⟩
        ·replace c27 := Bool.eq_false_iff.mpr c27
         subst c27
         have H1 : (if 0 ≤ x11_1 then (if x11_1 < (t351.length : Int) then (intervalmonlaw29_RouteRoots.j1 k1 t351 t358 x8_1 (rdOf false t351 x11_1) x10_1 x11_1 t346 t347) else (none)) else (none)) = some r := by rw [if_neg (show ¬ (false = true) by decide)] at H; exact H
         clear H
         have H := H1
         clear H1
         by_cases c28 : 0 ≤ x11_1
         ·rw [if_pos c28] at H
          have c28b0 : decide (0 ≤ x11_1) = true := decide_eq_true c28
          clear c28
          (first | rw [c28b0] | (simp only [i64_w, i32_w]; rw [c28b0]) | skip)
          by_cases c29 : x11_1 < (t351.length : Int)
          ·rw [if_pos c29] at H
           have c29b0 : decide (x11_1 < (t351.length : Int)) = true := decide_eq_true c29
           clear c29
           have H' := Aside0.mk H
           clear H
           have p364 : 0 ≤ (x11_1 : Int) := of_decide_eq_true (by first | (with_reducible assumption) | assumption)
           have q364 : x11_1 < (t351.length : Int) := of_decide_eq_true (by first | (with_reducible assumption) | assumption)
           obtain ⟨ad364, e364, hx364_0⟩ := Kd.at_bool (Kd.R_reads' HO_6.out).2.2 x11_1 p364 q364
           cases e364
           replace p364 := eq_true p364
           replace q364 := eq_true q364
           go_wp2
           go_meet
           case rel => exact ⟨_, (rdOf false t351 x11_1), (by first | rfl | (simp; done) | (simp [*]; done)), H', ⟨by have := HK1.out; first | omega | exact Nat.le_refl _⟩, ⟨by (with_reducible repeat (first | apply Kd.R_alloc | apply Kd.R_drewN | apply Kd.R_drew)); exact HO_6.out⟩, ⟨by (with_reducible repeat (first | apply Kd.R_alloc | apply Kd.R_drewN | apply Kd.R_drew)); exact HO_7.out⟩, ⟨by (with_reducible repeat (first | apply Kd.R_alloc | apply Kd.R_drewN | apply Kd.R_drew)); exact HO_8.out⟩, ⟨by (with_reducible repeat (first | apply Kd.R_alloc | apply Kd.R_drewN | apply Kd.R_drew)); exact HO_351001.out⟩, ⟨by (with_reducible repeat (first | refine blk_drewN ?_ _ | refine blk_drew ?_ | refine blk_alloc ?_ _)); exact BK350.out⟩, ⟨by repeat (first | (with_reducible first | exact HB.out | apply below_alloc | apply pw_below_drewN | apply below_drew1 | refine below_set ?_ GE350.out) | exact HB.out)⟩⟩
          ·rw [if_neg c29] at H
           exact absurd H (by simp)
         ·rw [if_neg c28] at H
          exact absurd H (by simp)
       case rest =>
        clear HC25
        try clear c1
        try clear c2
        try clear p2
        try clear p3
        try clear q3
        try clear hx3
        try clear c5
        try clear c7
        try clear c7b0
        try clear c7b1
        try clear c8
        try clear c8b0
        try clear c8b1
        try clear c9
        try clear c9b0
        try clear c9b1
        try clear c15
        try clear c18
        try clear c20
        try clear c22
        try clear c24
        try clear c24b0
        try clear c27
        try clear c28
        try clear c28b0
        try clear c29
        try clear c29b0
        try clear hcz12_0
        try clear hcz12_1
        try clear hcz15_0
        try clear hcz15_1
        try clear hcz21_0
        try clear hcz21_1
        try clear hcz26_0
        try clear hcz26_1
        try clear hfz12_0
        try clear hfz12_1
        try clear hfz15_0
        try clear hfz15_1
        try clear hfz21_0
        try clear hfz21_1
        try clear hfz26_0
        try clear hfz26_1
        try clear hx364_0
        try clear p2
        try clear p364
        try clear q364
        obtain ⟨kq, x9_24, rfl, HA, HJ24, HO_6, HO_7, HO_8, HO_351001, BK350, HB⟩ := hcut
        cases kq with
        | zero => exact absurd HA.out (by simp [intervalmonlaw29_RouteRoots.j1])
        | succ kj24 =>
         have H := HA.out
         clear HA
         simp only [intervalmonlaw29_RouteRoots.j1] at H
         have HC30 := Aside0.mk H
         clear H
         go_upto_region 13 with (fail)
         go_cut [56] (fun v56 wc => ∃ (kq : Nat) (x56_29 : Bool), v56 = .bool x56_29 ∧ Aside0 (intervalmonlaw29_RouteRoots.j2 kq t351 t358 x8_1 x9_24 x10_1 x11_1 x56_29 t346 t347 = some r) ∧ Aside0 (kq ≤ kj24) ∧ Aside0 (Kd.R Kd.bool 4 wc w.heap.size (fun k_ => some k_ ≠ ((.slice Ao20 t358.length co20) : Value).ownBlock ∧ some k_ ≠ (v362 : Value).ownBlock) (.slice Ao18 t351.length co18) t351) ∧ Aside0 (Kd.R Kd.bool 4 wc w.heap.size (fun k_ => some k_ ≠ ((.slice Ao18 t351.length co18) : Value).ownBlock ∧ some k_ ≠ (v362 : Value).ownBlock) (.slice Ao20 t358.length co20) t358) ∧ Aside0 (Kd.R Kd.bool 4 wc w.heap.size (fun k_ => some k_ ≠ ((.slice Ao18 t351.length co18) : Value).ownBlock ∧ some k_ ≠ ((.slice Ao20 t358.length co20) : Value).ownBlock) v362 x8_1) ∧ Aside0 (Kd.R k27 27 wc w.heap.size (fun _ => True) (.slice Ao13 t347.length co13) t347) ∧ Aside0 (wc.heap[gb350]? = some (.cells #[.int .i64 t346, (.slice Ao13 t347.length co13)] 25 (0, 0))) ∧ Aside0 (Below w.heap.size w wc))
         case first =>
          have H := HC30.out
          clear HC30
          by_cases c31 : 0 ≤ x11_1
          ·rw [if_pos c31] at H
           have c31b0 : decide (0 ≤ x11_1) = true := decide_eq_true c31
           clear c31
           (first | rw [c31b0] | (simp only [i64_w, i32_w]; rw [c31b0]) | skip)
           by_cases c32 : x11_1 < (t351.length : Int)
           ·rw [if_pos c32] at H
            have c32b0 : decide (x11_1 < (t351.length : Int)) = true := decide_eq_true c32
            clear c32
            obtain ⟨bq33, hbq33⟩ : ∃ b_ : Bool, b_ = (rdOf false t351 x11_1) := ⟨_, rfl⟩
            replace H : (if bq33 = true then (if x11_1 < (t358.length : Int) then (intervalmonlaw29_RouteRoots.j2 kj24 t351 t358 x8_1 x9_24 x10_1 x11_1 (!(rdOf false t358 x11_1)) t346 t347) else (none)) else (intervalmonlaw29_RouteRoots.j2 kj24 t351 t358 x8_1 x9_24 x10_1 x11_1 false t346 t347)) = some r := by rw [← hbq33] at H; exact H
            have Nbq33 := Aside0.mk hbq33
            clear hbq33
            by_cases c34 : bq33 = true
            ·subst c34
             have H1 : (if x11_1 < (t358.length : Int) then (intervalmonlaw29_RouteRoots.j2 kj24 t351 t358 x8_1 x9_24 x10_1 x11_1 (!(rdOf false t358 x11_1)) t346 t347) else (none)) = some r := by rw [if_pos rfl] at H; exact H
             clear H
             have H := H1
             clear H1
             by_cases c35 : x11_1 < (t358.length : Int)
             ·rw [if_pos c35] at H
              have c35b0 : decide (x11_1 < (t358.length : Int)) = true := decide_eq_true c35
              clear c35
              have H' := Aside0.mk H
              clear H
              have p365 : 0 ≤ (x11_1 : Int) := of_decide_eq_true (by first | (with_reducible assumption) | assumption)
              have q365 : x11_1 < (t351.length : Int) := of_decide_eq_true (by first | (with_reducible assumption) | assumption)
              obtain ⟨ad365, e365, hx365_0⟩ := Kd.at_bool (Kd.R_reads' HO_6.out).2.2 x11_1 p365 q365
              (try rw [← Nbq33.out] at hx365_0)
              cases e365
              replace p365 := eq_true p365
              replace q365 := eq_true q365
              have p366 : 0 ≤ (x11_1 : Int) := of_decide_eq_true (by first | (with_reducible assumption) | assumption)
              have q366 : x11_1 < (t358.length : Int) := of_decide_eq_true (by first | (with_reducible assumption) | assumption)
              obtain ⟨ad366, e366, hx366_0⟩ := Kd.at_bool (Kd.R_reads' HO_7.out).2.2 x11_1 p366 q366
              (try rw [← Nbq33.out] at hx366_0)
              cases e366
              replace p366 := eq_true p366
              replace q366 := eq_true q366
              go_wp2
              go_meet
              case rel => exact ⟨_, (!(rdOf false t358 x11_1)), (by first | rfl | (simp; done) | (simp [*]; done)), H', ⟨by have := HK1.out; have := HJ24.out; first | omega | exact Nat.le_refl _⟩, ⟨by (with_reducible repeat (first | apply Kd.R_alloc | apply Kd.R_drewN | apply Kd.R_drew)); exact HO_6.out⟩, ⟨by (with_reducible repeat (first | apply Kd.R_alloc | apply Kd.R_drewN | apply Kd.R_drew)); exact HO_7.out⟩, ⟨by (with_reducible repeat (first | apply Kd.R_alloc | apply Kd.R_drewN | apply Kd.R_drew)); exact HO_8.out⟩, ⟨by (with_reducible repeat (first | apply Kd.R_alloc | apply Kd.R_drewN | apply Kd.R_drew)); exact HO_351001.out⟩, ⟨by (with_reducible repeat (first | refine blk_drewN ?_ _ | refine blk_drew ?_ | refine blk_alloc ?_ _)); exact BK350.out⟩, ⟨by repeat (first | (with_reducible first | exact HB.out | apply below_alloc | apply pw_below_drewN | apply below_drew1 | refine below_set ?_ GE350.out) | exact HB.out)⟩⟩
             ·rw [if_neg c35] at H
              exact absurd H (by simp)
            ·replace c34 := Bool.eq_false_iff.mpr c34
             subst c34
             have H1 : (intervalmonlaw29_RouteRoots.j2 kj24 t351 t358 x8_1 x9_24 x10_1 x11_1 false t346 t347) = some r := by rw [if_neg (show ¬ (false = true) by decide)] at H; exact H
             clear H
             have H := H1
             clear H1
             have H' := Aside0.mk H
             clear H
             have p365 : 0 ≤ (x11_1 : Int) := of_decide_eq_true (by first | (with_reducible assumption) | assumption)
             have q365 : x11_1 < (t351.length : Int) := of_decide_eq_true (by first | (with_reducible assumption) | assumption)
             obtain ⟨ad365, e365, hx365_0⟩ := Kd.at_bool (Kd.R_reads' HO_6.out).2.2 x11_1 p365 q365
             (try rw [← Nbq33.out] at hx365_0)
             cases e365
             replace p365 := eq_true p365
             replace q365 := eq_true q365
             go_wp2
             go_meet
             case rel => exact ⟨_, (false), (by first | rfl | (simp; done) | (simp [*]; done)), H', ⟨by have := HK1.out; have := HJ24.out; first | omega | exact Nat.le_refl _⟩, ⟨by (with_reducible repeat (first | apply Kd.R_alloc | apply Kd.R_drewN | apply Kd.R_drew)); exact HO_6.out⟩, ⟨by (with_reducible repeat (first | apply Kd.R_alloc | apply Kd.R_drewN | apply Kd.R_drew)); exact HO_7.out⟩, ⟨by (with_reducible repeat (first | apply Kd.R_alloc | apply Kd.R_drewN | apply Kd.R_drew)); exact HO_8.out⟩, ⟨by (with_reducible repeat (first | apply Kd.R_alloc | apply Kd.R_drewN | apply Kd.R_drew)); exact HO_351001.out⟩, ⟨by (with_reducible repeat (first | refine blk_drewN ?_ _ | refine blk_drew ?_ | refine blk_alloc ?_ _)); exact BK350.out⟩, ⟨by repeat (first | (with_reducible first | exact HB.out | apply below_alloc | apply pw_below_drewN | apply below_drew1 | refine below_set ?_ GE350.out) | exact HB.out)⟩⟩
           ·rw [if_neg c32] at H
            exact absurd H (by simp)
          ·rw [if_neg c31] at H
           exact absurd H (by simp)
         case rest =>
          clear HC30
          try clear c1
          try clear c2
          try clear p2
          try clear c3
          try clear p3
          try clear q3
          try clear hx3
          try clear c5
          try clear c7
          try clear c7b0
          try clear c7b1
          try clear c8
          try clear c8b0
          try clear c8b1
          try clear c9
          try clear c9b0
          try clear c9b1
          try clear c15
          try clear c18
          try clear c20
          try clear c22
          try clear c24
          try clear c24b0
          try clear c27
          try clear c28
          try clear c28b0
          try clear c29
          try clear c29b0
          try clear c31
          try clear c31b0
          try clear c32
          try clear c32b0
          try clear q33
          try clear c34
          try clear c35
          try clear c35b0
          try clear hcz12_0
          try clear hcz12_1
          try clear hcz15_0
          try clear hcz15_1
          try clear hcz21_0
          try clear hcz21_1
          try clear hcz26_0
          try clear hcz26_1
          try clear hfz12_0
          try clear hfz12_1
          try clear hfz15_0
          try clear hfz15_1
          try clear hfz21_0
          try clear hfz21_1
          try clear hfz26_0
          try clear hfz26_1
          try clear hx364_0
          try clear hx365_0
          try clear hx366_0
          try clear p2
          try clear p3
          try clear p364
          try clear p365
          try clear p366
          try clear q3
          try clear q364
          try clear q365
          try clear q366
          obtain ⟨kq, x56_29, rfl, HA, HJ29, HO_6, HO_7, HO_8, HO_351001, BK350, HB⟩ := hcut
          cases kq with
          | zero => exact absurd HA.out (by simp [intervalmonlaw29_RouteRoots.j2])
          | succ kj29 =>
           have H := HA.out
           clear HA
           simp only [intervalmonlaw29_RouteRoots.j2] at H
           by_cases c36 : x56_29 = true
           ·subst c36
            have H1 : ((intervalmonref29_Reached.f kj29 t346 t347 x11_1).bind fun t367 => (intervalmonlaw29_RouteRoots.l1 kj29 t351 t358 x8_1 x9_24 true x11_1 t367 0 t346 t347)) = some r := by rw [if_pos rfl] at H; exact H
            clear H
            have H := H1
            clear H1
            replace H := Option.bind_eq_some_iff.mp H
            obtain ⟨t367, A370, H⟩ := H
            replace H : (intervalmonlaw29_RouteRoots.l1 kj29 t351 t358 x8_1 x9_24 true x11_1 t367 0 t346 t347) = some r := H
            have A37 := Aside0.mk A370
            clear A370
            have H' := Aside0.mk H
            clear H
            have hcz38_0 : wc.cell? ⟨gb350, 0, none⟩ = some (.int .i64 t346) := (blk_cell BK350.out 0).trans rfl
            have hcz38_1 : wc.cell? ⟨gb350, 1, none⟩ = some (.slice Ao13 t347.length co13) := (blk_cell BK350.out 1).trans rfl
            have hfz38_0 := blk_frozen BK350.out 0
            have hfz38_1 := blk_frozen BK350.out 1
            go_wp2_with (first | ((with_reducible refine gate_callee (f := 23) rfl ?_); refine goesL_ (some 59) rfl rfl Try.func23 (by kernel_rfl) rfl #[.agg #[.int .i64 t346, .slice Ao13 t347.length co13], .int .i64 x11_1] rfl aq ?_; (with_reducible refine (intervalmonref29_Reached.calls kj29 t346 _ _ t347 x11_1 t367 _ ?side1 ?side2 A37.out).mono ?_); (case side1 => repeat (first | exact (Kd.R_reads' HO_351001.out).2.2 | (with_reducible refine Kd.C_alloc ?_ _) | (with_reducible refine Kd.C_drewN ?_ _) | (with_reducible refine Kd.C_drew ?_))); (case side2 => exact (Kd.R_reads' HO_351001.out).2.1); rintro e w39 ⟨v368, rfl, ho0, hb⟩; refine ⟨_, rfl, ?_⟩; have n0_ := Aside0.mk (Kd.R_elder' (rq HO_6) (Kd.R_base ho0) hb); have n1_ := Aside0.mk (Kd.R_elder' (rq HO_7) (Kd.R_base ho0) hb); have n2_ := Aside0.mk (Kd.R_elder' (rq HO_8) (Kd.R_base ho0) hb); have n3_ := Aside0.mk (Kd.R_below (rq HO_351001) hb); have n4_ := Aside0.mk (Kd.R_lower (Kd.R_new' (Kd.R_new' (Kd.R_new' ho0 (Kd.R_lt (rq HO_6))) (Kd.R_lt (rq HO_7))) (Kd.R_lt (rq HO_8))) (below_size (hq HB))); have n5_ := Aside0.mk (blk_below (g := gb350) (o := .cells #[.int .i64 t346, .slice Ao13 t347.length co13] 25 (0, 0)) (bq BK350) hb); have n6_ := Aside0.mk (below_step (hq HB) hb); clear HO_6; clear HO_7; clear HO_8; clear HO_351001; clear BK350; clear HB; have HO_6 := n0_; have HO_7 := n1_; have HO_8 := n2_; have HO_351001 := n3_; have HO369 := n4_; have BK350 := n5_; have HB := n6_; clear n0_ n1_ n2_ n3_ n4_ n5_ n6_; (try clear hb); (try clear hb2); (try clear hk); (try clear hi); (try clear ho0)))
            go_loopg [13] kj29 (fun kq v13 w' => ∃ (x8_4 : List Bool) (x13_4 : Int), v13 = .int .i64 x13_4 ∧ Aside0 (intervalmonlaw29_RouteRoots.l1 kq t351 t358 x8_4 x9_24 true x11_1 t367 x13_4 t346 t347 = some r) ∧ Aside0 (kq ≤ kj29) ∧ Aside0 (Kd.R Kd.bool 4 w' w.heap.size (fun k_ => some k_ ≠ ((.slice Ao20 t358.length co20) : Value).ownBlock ∧ some k_ ≠ (v362 : Value).ownBlock ∧ some k_ ≠ (v368 : Value).ownBlock) (.slice Ao18 t351.length co18) t351) ∧ Aside0 (Kd.R Kd.bool 4 w' w.heap.size (fun k_ => some k_ ≠ ((.slice Ao18 t351.length co18) : Value).ownBlock ∧ some k_ ≠ (v362 : Value).ownBlock ∧ some k_ ≠ (v368 : Value).ownBlock) (.slice Ao20 t358.length co20) t358) ∧ Aside0 (Kd.R Kd.bool 4 w' w.heap.size (fun k_ => some k_ ≠ ((.slice Ao18 t351.length co18) : Value).ownBlock ∧ some k_ ≠ ((.slice Ao20 t358.length co20) : Value).ownBlock ∧ some k_ ≠ (v368 : Value).ownBlock) v362 x8_4) ∧ Aside0 (Kd.R Kd.bool 4 w' w.heap.size (fun k_ => some k_ ≠ ((.slice Ao18 t351.length co18) : Value).ownBlock ∧ some k_ ≠ ((.slice Ao20 t358.length co20) : Value).ownBlock ∧ some k_ ≠ (v362 : Value).ownBlock) v368 t367) ∧ Aside0 (Kd.R k27 27 w' w.heap.size (fun _ => True) (.slice Ao13 t347.length co13) t347) ∧ Aside0 (w'.heap[gb350]? = some (.cells #[.int .i64 t346, (.slice Ao13 t347.length co13)] 25 (0, 0))) ∧ Aside0 (Below w.heap.size w w'))
            case atStart => exact ⟨(x8_1), (0), (by first | rfl | (simp; done) | (simp [*]; done)), H', ⟨Nat.le_refl _⟩, ⟨by (with_reducible repeat (first | apply Kd.R_alloc | apply Kd.R_drewN | apply Kd.R_drew)); exact Kd.R_mono HO_6.out (fun _ hk => ⟨hk.1.1, ⟨hk.1.2, hk.2⟩⟩)⟩, ⟨by (with_reducible repeat (first | apply Kd.R_alloc | apply Kd.R_drewN | apply Kd.R_drew)); exact Kd.R_mono HO_7.out (fun _ hk => ⟨hk.1.1, ⟨hk.1.2, hk.2⟩⟩)⟩, ⟨by (with_reducible repeat (first | apply Kd.R_alloc | apply Kd.R_drewN | apply Kd.R_drew)); exact Kd.R_mono HO_8.out (fun _ hk => ⟨hk.1.1, ⟨hk.1.2, hk.2⟩⟩)⟩, ⟨by (with_reducible repeat (first | apply Kd.R_alloc | apply Kd.R_drewN | apply Kd.R_drew)); exact Kd.R_mono HO369.out (fun _ hk => ⟨hk.1.1.2, ⟨hk.1.2, hk.2⟩⟩)⟩, ⟨by (with_reducible repeat (first | apply Kd.R_alloc | apply Kd.R_drewN | apply Kd.R_drew)); exact HO_351001.out⟩, ⟨by (with_reducible repeat (first | refine blk_drewN ?_ _ | refine blk_drew ?_ | refine blk_alloc ?_ _)); exact BK350.out⟩, ⟨by repeat (first | (with_reducible first | exact HB.out | apply below_alloc | apply pw_below_drewN | apply below_drew1 | refine below_set ?_ GE350.out) | exact HB.out)⟩⟩
            case round =>
             clear H'
             try clear c1
             try clear c2
             try clear p2
             try clear c3
             try clear p3
             try clear q3
             try clear hx3
             try clear c5
             try clear c7
             try clear c7b0
             try clear c7b1
             try clear c8
             try clear c8b0
             try clear c8b1
             try clear c9
             try clear c9b0
             try clear c9b1
             try clear c15
             try clear c18
             try clear c20
             try clear c22
             try clear c23
             try clear c24
             try clear c24b0
             try clear c27
             try clear c28
             try clear c28b0
             try clear c29
             try clear c29b0
             try clear c31
             try clear c31b0
             try clear c32
             try clear c32b0
             try clear q33
             try clear c34
             try clear c35
             try clear c35b0
             try clear c36
             try clear p36
             try clear q36
             try clear hx36
             try clear hcz12_0
             try clear hcz12_1
             try clear hcz15_0
             try clear hcz15_1
             try clear hcz21_0
             try clear hcz21_1
             try clear hcz26_0
             try clear hcz26_1
             try clear hcz38_0
             try clear hcz38_1
             try clear hfz12_0
             try clear hfz12_1
             try clear hfz15_0
             try clear hfz15_1
             try clear hfz21_0
             try clear hfz21_1
             try clear hfz26_0
             try clear hfz26_1
             try clear hfz38_0
             try clear hfz38_1
             try clear hx364_0
             try clear hx365_0
             try clear hx366_0
             try clear p2
             try clear p3
             try clear p364
             try clear p365
             try clear p366
             try clear q3
             try clear q33
             try clear q364
             try clear q365
             try clear q366
             obtain ⟨x8_4, x13_4, rfl, HA, HK4, HO_6, HO_7, HO_8, HO_12, HO_351001, BK350, HB⟩ := hrel
             cases gk with
             | zero => exact absurd HA.out (by simp [intervalmonlaw29_RouteRoots.l1])
             | succ k4 =>
              have H := HA.out
              clear HA
              simp only [intervalmonlaw29_RouteRoots.l1] at H
              by_cases c40 : x13_4 < t346
              ·rw [if_pos c40] at H
               have c40b0 : decide (x13_4 < t346) = true := decide_eq_true c40
               clear c40
               by_cases c41 : 0 ≤ x13_4
               ·rw [if_pos c41] at H
                have c41b0 : decide (0 ≤ x13_4) = true := decide_eq_true c41
                clear c41
                by_cases c42 : x13_4 < (x8_4.length : Int)
                ·rw [if_pos c42] at H
                 have c42b0 : decide (x13_4 < (x8_4.length : Int)) = true := decide_eq_true c42
                 clear c42
                 obtain ⟨bq43, hbq43⟩ : ∃ b_ : Bool, b_ = (rdOf false x8_4 x13_4) := ⟨_, rfl⟩
                 replace H : (if bq43 = true then (intervalmonlaw29_RouteRoots.l1 k4 t351 t358 (x8_4.set (x13_4 : Int).toNat true) x9_24 true x11_1 t367 (wrap64 (x13_4 + 1)) t346 t347) else (if x13_4 < (t367.length : Int) then (intervalmonlaw29_RouteRoots.l1 k4 t351 t358 (x8_4.set (x13_4 : Int).toNat (rdOf false t367 x13_4)) x9_24 true x11_1 t367 (wrap64 (x13_4 + 1)) t346 t347) else (none))) = some r := by rw [← hbq43] at H; exact H
                 have Nbq43 := Aside0.mk hbq43
                 clear hbq43
                 by_cases c44 : bq43 = true
                 ·subst c44
                  have H1 : (intervalmonlaw29_RouteRoots.l1 k4 t351 t358 (x8_4.set (x13_4 : Int).toNat true) x9_24 true x11_1 t367 (wrap64 (x13_4 + 1)) t346 t347) = some r := by rw [if_pos rfl] at H; exact H
                  clear H
                  have H := H1
                  clear H1
                  obtain ⟨y371, hy371⟩ : ∃ y_ : List Bool, y_ = (x8_4.set (x13_4 : Int).toNat true) := ⟨_, rfl⟩
                  replace H : (intervalmonlaw29_RouteRoots.l1 k4 t351 t358 y371 x9_24 true x11_1 t367 (wrap64 (x13_4 + 1)) t346 t347) = some r := by first | (rw [hy371]; with_reducible exact H) | (have H2_ := (Option.bind_some _ _).symm.trans H; rw [hy371]; with_reducible exact H2_) | (have H2_ := (Option.bind_some _ _).symm.trans H; with_reducible exact H2_) | with_reducible exact H | (rw [hy371]; exact H) | exact H
                  have Ny371 := Aside0.mk hy371
                  clear hy371
                  have H' := Aside0.mk H
                  clear H
                  have hcz46_0 : wr.cell? ⟨gb350, 0, none⟩ = some (.int .i64 t346) := (blk_cell BK350.out 0).trans rfl
                  have hcz46_1 : wr.cell? ⟨gb350, 1, none⟩ = some (.slice Ao13 t347.length co13) := (blk_cell BK350.out 1).trans rfl
                  have hfz46_0 := blk_frozen BK350.out 0
                  have hfz46_1 := blk_frozen BK350.out 1
                  obtain ⟨Ao47, co47, eo47⟩ := Kd.R_slice HO_8.out
                  subst eo47
                  have p370 : 0 ≤ (x13_4 : Int) := of_decide_eq_true (by first | (with_reducible assumption) | assumption)
                  have q370 : x13_4 < (x8_4.length : Int) := of_decide_eq_true (by first | (with_reducible assumption) | assumption)
                  obtain ⟨ad370, e370, hx370_0⟩ := Kd.at_bool (Kd.R_reads' HO_8.out).2.2 x13_4 p370 q370
                  (try rw [← Nbq43.out] at hx370_0)
                  cases e370
                  replace p370 := eq_true p370
                  replace q370 := eq_true q370
                  have p45 : 0 ≤ (x13_4 : Int) := of_decide_eq_true (by first | (with_reducible assumption) | assumption)
                  have q45 : (x13_4 : Int) < ((x8_4.length : Int) : Int) := of_decide_eq_true (by first | (with_reducible assumption) | assumption)
                  obtain ⟨go45, co45, eo45, gb45, gl45, cl45, HG45⟩ := Kd.R_form HO_8.out (by omega)
                  (first | cases eo45 | (injection eo45 with ea_ en_ ec_; (first | subst ea_ | (injection ea_ with ea_; subst ea_)); subst ec_; clear en_))
                  have GB45 := Aside0.mk gb45
                  have GG45 := Aside0.mk HG45
                  clear gb45 gl45 HG45
                  (first | simp only [add_plain] at hx370_0 | skip)
                  obtain ⟨hx45_0, hf45_0⟩ := Kd.R_celln false HO_8.out (x13_4 : Int) p45 q45
                  replace p45 := eq_true p45
                  replace q45 := eq_true q45
                  have HP48 := Kd.R_putg HO_8.out (x13_4 : Int) true
                  go_wp2_with (first | ((with_reducible refine gate_store (t := 4) (p := 78) rfl ?_); refine store_event (t := 4) (p := 78) (v := ?vo_w49) (w1 := (wr.setCell ⟨go45, (x13_4 : Int).toNat, none⟩ (.bool true))) ?hg ?ho ?hn ?hr ?_; (case ho => rfl); (case hg => rfl); (case hn => rfl); (case hr => first | (go_simp; done) | (go_simp; rfl)); intro w49 hw; have hg : wr.grownBy w49 (some go45) := (by rw [hw]; exact HP48.2); have hp_ : Kd.R Kd.bool 4 w49 w.heap.size (fun k_ => some k_ ≠ (.slice Ao18 t351.length co18 : Value).ownBlock ∧ some k_ ≠ (.slice Ao20 t358.length co20 : Value).ownBlock ∧ some k_ ≠ (v368 : Value).ownBlock) (.slice (some ⟨go45, 0, none⟩) x8_4.length co47) y371 := (by rw [hw, Ny371.out]; exact HP48.1); clear HP48; have n0_ := Aside0.mk (Kd.R_after (v := (.slice (some ⟨go45, 0, none⟩) x8_4.length co47)) (v1 := (.slice (some ⟨go45, 0, none⟩) x8_4.length co47)) (ok := (fun k_ => some k_ ≠ (.slice Ao20 t358.length co20 : Value).ownBlock ∧ some k_ ≠ (v368 : Value).ownBlock)) (by (with_reducible repeat (first | apply Kd.R_alloc | apply Kd.R_drewN | apply Kd.R_drew)); exact Kd.R_mono HO_6.out (fun _ hk => ⟨⟨hk.1, hk.2.2⟩, hk.2.1⟩)) hg (.inl rfl)); have n1_ := Aside0.mk (Kd.R_after (v := (.slice (some ⟨go45, 0, none⟩) x8_4.length co47)) (v1 := (.slice (some ⟨go45, 0, none⟩) x8_4.length co47)) (ok := (fun k_ => some k_ ≠ (.slice Ao18 t351.length co18 : Value).ownBlock ∧ some k_ ≠ (v368 : Value).ownBlock)) (by (with_reducible repeat (first | apply Kd.R_alloc | apply Kd.R_drewN | apply Kd.R_drew)); exact Kd.R_mono HO_7.out (fun _ hk => ⟨⟨hk.1, hk.2.2⟩, hk.2.1⟩)) hg (.inl rfl)); have n2_ := Aside0.mk (hp_); have n3_ := Aside0.mk (Kd.R_after (v := (.slice (some ⟨go45, 0, none⟩) x8_4.length co47)) (v1 := (.slice (some ⟨go45, 0, none⟩) x8_4.length co47)) (ok := (fun k_ => some k_ ≠ (.slice Ao18 t351.length co18 : Value).ownBlock ∧ some k_ ≠ (.slice Ao20 t358.length co20 : Value).ownBlock)) (by (with_reducible repeat (first | apply Kd.R_alloc | apply Kd.R_drewN | apply Kd.R_drew)); exact Kd.R_mono HO_12.out (fun _ hk => ⟨⟨hk.1, hk.2.1⟩, hk.2.2⟩)) hg (.inl rfl)); have n4_ := Aside0.mk (Kd.R_over' (v := (.slice (some ⟨go45, 0, none⟩) x8_4.length co47)) (rq HO_351001) (Kd.R_typed HO_8.out) (by decide) hg); have n5_ := Aside0.mk (blk_grown (g := gb350) (o := .cells #[.int .i64 t346, .slice Ao13 t347.length co13] 25 (0, 0)) (bq BK350) hg (Kd.R_ne HO_8.out BK350.out (by decide))); have n6_ := Aside0.mk ((by rw [hw]; exact below_set (HB.out) GB45.out : Below w.heap.size w w49)); clear HO_6; clear HO_7; clear HO_8; clear HO_12; clear HO_351001; clear BK350; clear HB; have HO_6 := n0_; have HO_7 := n1_; have HO_8 := n2_; have HO_12 := n3_; have HO_351001 := n4_; have BK350 := n5_; have HB := n6_; clear n0_ n1_ n2_ n3_ n4_ n5_ n6_; clear hg hw hp_))
                  go_roundg k4
                  case measure => have := HK1.out; have := HJ24.out; have := HJ29.out; have := HK4.out; omega
                  case rel => exact ⟨(y371), (wrap64 (x13_4 + 1)), (by first | rfl | (simp; done) | (simp [*]; done)), H', ⟨by have := HK1.out; have := HJ24.out; have := HJ29.out; have := HK4.out; omega⟩, ⟨by (with_reducible repeat (first | apply Kd.R_alloc | apply Kd.R_drewN | apply Kd.R_drew)); exact Kd.R_mono HO_6.out (fun _ hk => ⟨hk.1.1, ⟨hk.2, hk.1.2⟩⟩)⟩, ⟨by (with_reducible repeat (first | apply Kd.R_alloc | apply Kd.R_drewN | apply Kd.R_drew)); exact Kd.R_mono HO_7.out (fun _ hk => ⟨hk.1.1, ⟨hk.2, hk.1.2⟩⟩)⟩, ⟨by (with_reducible repeat (first | apply Kd.R_alloc | apply Kd.R_drewN | apply Kd.R_drew)); exact HO_8.out⟩, ⟨by (with_reducible repeat (first | apply Kd.R_alloc | apply Kd.R_drewN | apply Kd.R_drew)); exact Kd.R_mono HO_12.out (fun _ hk => ⟨hk.1.1, ⟨hk.1.2, hk.2⟩⟩)⟩, ⟨by (with_reducible repeat (first | apply Kd.R_alloc | apply Kd.R_drewN | apply Kd.R_drew)); exact HO_351001.out⟩, ⟨by (with_reducible repeat (first | refine blk_drewN ?_ _ | refine blk_drew ?_ | refine blk_alloc ?_ _)); exact BK350.out⟩, ⟨by repeat (first | (with_reducible first | exact HB.out | apply below_alloc | apply pw_below_drewN | apply below_drew1 | refine below_set ?_ GE350.out) | exact HB.out)⟩⟩
                 ·replace c44 := Bool.eq_false_iff.mpr c44
                  subst c44
                  have H1 : (if x13_4 < (t367.length : Int) then (intervalmonlaw29_RouteRoots.l1 k4 t351 t358 (x8_4.set (x13_4 : Int).toNat (rdOf false t367 x13_4)) x9_24 true x11_1 t367 (wrap64 (x13_4 + 1)) t346 t347) else (none)) = some r := by rw [if_neg (show ¬ (false = true) by decide)] at H; exact H
                  clear H
                  have H := H1
                  clear H1
                  by_cases c50 : x13_4 < (t367.length : Int)
                  ·rw [if_pos c50] at H
                   have c50b0 : decide (x13_4 < (t367.length : Int)) = true := decide_eq_true c50
                   clear c50
                   obtain ⟨y373, hy373⟩ : ∃ y_ : List Bool, y_ = (x8_4.set (x13_4 : Int).toNat (rdOf false t367 x13_4)) := ⟨_, rfl⟩
                   replace H : (intervalmonlaw29_RouteRoots.l1 k4 t351 t358 y373 x9_24 true x11_1 t367 (wrap64 (x13_4 + 1)) t346 t347) = some r := by first | (rw [hy373]; with_reducible exact H) | (have H2_ := (Option.bind_some _ _).symm.trans H; rw [hy373]; with_reducible exact H2_) | (have H2_ := (Option.bind_some _ _).symm.trans H; with_reducible exact H2_) | with_reducible exact H | (rw [hy373]; exact H) | exact H
                   have Ny373 := Aside0.mk hy373
                   clear hy373
                   have H' := Aside0.mk H
                   clear H
                   have hcz52_0 : wr.cell? ⟨gb350, 0, none⟩ = some (.int .i64 t346) := (blk_cell BK350.out 0).trans rfl
                   have hcz52_1 : wr.cell? ⟨gb350, 1, none⟩ = some (.slice Ao13 t347.length co13) := (blk_cell BK350.out 1).trans rfl
                   have hfz52_0 := blk_frozen BK350.out 0
                   have hfz52_1 := blk_frozen BK350.out 1
                   obtain ⟨Ao53, co53, eo53⟩ := Kd.R_slice HO_8.out
                   subst eo53
                   have p370 : 0 ≤ (x13_4 : Int) := of_decide_eq_true (by first | (with_reducible assumption) | assumption)
                   have q370 : x13_4 < (x8_4.length : Int) := of_decide_eq_true (by first | (with_reducible assumption) | assumption)
                   obtain ⟨ad370, e370, hx370_0⟩ := Kd.at_bool (Kd.R_reads' HO_8.out).2.2 x13_4 p370 q370
                   (try rw [← Nbq43.out] at hx370_0)
                   cases e370
                   replace p370 := eq_true p370
                   replace q370 := eq_true q370
                   obtain ⟨Ao54, co54, eo54⟩ := Kd.R_slice HO_12.out
                   subst eo54
                   have p372 : 0 ≤ (x13_4 : Int) := of_decide_eq_true (by first | (with_reducible assumption) | assumption)
                   have q372 : x13_4 < (t367.length : Int) := of_decide_eq_true (by first | (with_reducible assumption) | assumption)
                   obtain ⟨ad372, e372, hx372_0⟩ := Kd.at_bool (Kd.R_reads' HO_12.out).2.2 x13_4 p372 q372
                   (try rw [← Nbq43.out] at hx372_0)
                   cases e372
                   replace p372 := eq_true p372
                   replace q372 := eq_true q372
                   have p51 : 0 ≤ (x13_4 : Int) := of_decide_eq_true (by first | (with_reducible assumption) | assumption)
                   have q51 : (x13_4 : Int) < ((x8_4.length : Int) : Int) := of_decide_eq_true (by first | (with_reducible assumption) | assumption)
                   obtain ⟨go51, co51, eo51, gb51, gl51, cl51, HG51⟩ := Kd.R_form HO_8.out (by omega)
                   (first | cases eo51 | (injection eo51 with ea_ en_ ec_; (first | subst ea_ | (injection ea_ with ea_; subst ea_)); subst ec_; clear en_))
                   have GB51 := Aside0.mk gb51
                   have GG51 := Aside0.mk HG51
                   clear gb51 gl51 HG51
                   (first | simp only [add_plain] at hx370_0 | skip)
                   obtain ⟨hx51_0, hf51_0⟩ := Kd.R_celln false HO_8.out (x13_4 : Int) p51 q51
                   replace p51 := eq_true p51
                   replace q51 := eq_true q51
                   have HP55 := Kd.R_putg HO_8.out (x13_4 : Int) (rdOf false t367 x13_4)
                   go_wp2_with (first | ((with_reducible refine gate_store (t := 4) (p := 78) rfl ?_); refine store_event (t := 4) (p := 78) (v := ?vo_w56) (w1 := (wr.setCell ⟨go51, (x13_4 : Int).toNat, none⟩ (.bool (rdOf false t367 x13_4)))) ?hg ?ho ?hn ?hr ?_; (case ho => rfl); (case hg => rfl); (case hn => rfl); (case hr => first | (go_simp; done) | (go_simp; rfl)); intro w56 hw; have hg : wr.grownBy w56 (some go51) := (by rw [hw]; exact HP55.2); have hp_ : Kd.R Kd.bool 4 w56 w.heap.size (fun k_ => some k_ ≠ (.slice Ao18 t351.length co18 : Value).ownBlock ∧ some k_ ≠ (.slice Ao20 t358.length co20 : Value).ownBlock ∧ some k_ ≠ (.slice (some ad372) t367.length co54 : Value).ownBlock) (.slice (some ⟨go51, 0, none⟩) x8_4.length co53) y373 := (by rw [hw, Ny373.out]; exact HP55.1); clear HP55; have n0_ := Aside0.mk (Kd.R_after (v := (.slice (some ⟨go51, 0, none⟩) x8_4.length co53)) (v1 := (.slice (some ⟨go51, 0, none⟩) x8_4.length co53)) (ok := (fun k_ => some k_ ≠ (.slice Ao20 t358.length co20 : Value).ownBlock ∧ some k_ ≠ (.slice (some ad372) t367.length co54 : Value).ownBlock)) (by (with_reducible repeat (first | apply Kd.R_alloc | apply Kd.R_drewN | apply Kd.R_drew)); exact Kd.R_mono HO_6.out (fun _ hk => ⟨⟨hk.1, hk.2.2⟩, hk.2.1⟩)) hg (.inl rfl)); have n1_ := Aside0.mk (Kd.R_after (v := (.slice (some ⟨go51, 0, none⟩) x8_4.length co53)) (v1 := (.slice (some ⟨go51, 0, none⟩) x8_4.length co53)) (ok := (fun k_ => some k_ ≠ (.slice Ao18 t351.length co18 : Value).ownBlock ∧ some k_ ≠ (.slice (some ad372) t367.length co54 : Value).ownBlock)) (by (with_reducible repeat (first | apply Kd.R_alloc | apply Kd.R_drewN | apply Kd.R_drew)); exact Kd.R_mono HO_7.out (fun _ hk => ⟨⟨hk.1, hk.2.2⟩, hk.2.1⟩)) hg (.inl rfl)); have n2_ := Aside0.mk (hp_); have n3_ := Aside0.mk (Kd.R_after (v := (.slice (some ⟨go51, 0, none⟩) x8_4.length co53)) (v1 := (.slice (some ⟨go51, 0, none⟩) x8_4.length co53)) (ok := (fun k_ => some k_ ≠ (.slice Ao18 t351.length co18 : Value).ownBlock ∧ some k_ ≠ (.slice Ao20 t358.length co20 : Value).ownBlock)) (by (with_reducible repeat (first | apply Kd.R_alloc | apply Kd.R_drewN | apply Kd.R_drew)); exact Kd.R_mono HO_12.out (fun _ hk => ⟨⟨hk.1, hk.2.1⟩, hk.2.2⟩)) hg (.inl rfl)); have n4_ := Aside0.mk (Kd.R_over' (v := (.slice (some ⟨go51, 0, none⟩) x8_4.length co53)) (rq HO_351001) (Kd.R_typed HO_8.out) (by decide) hg); have n5_ := Aside0.mk (blk_grown (g := gb350) (o := .cells #[.int .i64 t346, .slice Ao13 t347.length co13] 25 (0, 0)) (bq BK350) hg (Kd.R_ne HO_8.out BK350.out (by decide))); have n6_ := Aside0.mk ((by rw [hw]; exact below_set (HB.out) GB51.out : Below w.heap.size w w56)); clear HO_6; clear HO_7; clear HO_8; clear HO_12; clear HO_351001; clear BK350; clear HB; have HO_6 := n0_; have HO_7 := n1_; have HO_8 := n2_; have HO_12 := n3_; have HO_351001 := n4_; have BK350 := n5_; have HB := n6_; clear n0_ n1_ n2_ n3_ n4_ n5_ n6_; clear hg hw hp_))
                   go_roundg k4
                   case measure => have := HK1.out; have := HJ24.out; have := HJ29.out; have := HK4.out; omega
                   case rel => exact ⟨(y373), (wrap64 (x13_4 + 1)), (by first | rfl | (simp; done) | (simp [*]; done)), H', ⟨by have := HK1.out; have := HJ24.out; have := HJ29.out; have := HK4.out; omega⟩, ⟨by (with_reducible repeat (first | apply Kd.R_alloc | apply Kd.R_drewN | apply Kd.R_drew)); exact Kd.R_mono HO_6.out (fun _ hk => ⟨hk.1.1, ⟨hk.2, hk.1.2⟩⟩)⟩, ⟨by (with_reducible repeat (first | apply Kd.R_alloc | apply Kd.R_drewN | apply Kd.R_drew)); exact Kd.R_mono HO_7.out (fun _ hk => ⟨hk.1.1, ⟨hk.2, hk.1.2⟩⟩)⟩, ⟨by (with_reducible repeat (first | apply Kd.R_alloc | apply Kd.R_drewN | apply Kd.R_drew)); exact HO_8.out⟩, ⟨by (with_reducible repeat (first | apply Kd.R_alloc | apply Kd.R_drewN | apply Kd.R_drew)); exact Kd.R_mono HO_12.out (fun _ hk => ⟨hk.1.1, ⟨hk.1.2, hk.2⟩⟩)⟩, ⟨by (with_reducible repeat (first | apply Kd.R_alloc | apply Kd.R_drewN | apply Kd.R_drew)); exact HO_351001.out⟩, ⟨by (with_reducible repeat (first | refine blk_drewN ?_ _ | refine blk_drew ?_ | refine blk_alloc ?_ _)); exact BK350.out⟩, ⟨by repeat (first | (with_reducible first | exact HB.out | apply below_alloc | apply pw_below_drewN | apply below_drew1 | refine below_set ?_ GE350.out) | exact HB.out)⟩⟩
                  ·rw [if_neg c50] at H
                   exact absurd H (by simp)
                ·rw [if_neg c42] at H
                 exact absurd H (by simp)
               ·rw [if_neg c41] at H
                exact absurd H (by simp)
              ·rw [if_neg c40] at H
               have c40b0 : decide (x13_4 < t346) = false := decide_eq_false c40
               clear c40
               have H' := Aside0.mk H
               clear H
               have hcz57_0 : wr.cell? ⟨gb350, 0, none⟩ = some (.int .i64 t346) := (blk_cell BK350.out 0).trans rfl
               have hcz57_1 : wr.cell? ⟨gb350, 1, none⟩ = some (.slice Ao13 t347.length co13) := (blk_cell BK350.out 1).trans rfl
               have hfz57_0 := blk_frozen BK350.out 0
               have hfz57_1 := blk_frozen BK350.out 1
               go_wp2
               go_roundg k4
               case measure => have := HK1.out; have := HJ24.out; have := HJ29.out; have := HK4.out; omega
               case rel => exact ⟨(x8_4), (x9_24), (true), (wrap64 (x11_1 + 1)), (by first | rfl | (simp; done) | (simp [*]; done)), (by first | rfl | (simp; done) | (simp [*]; done)), (by first | rfl | (simp; done) | (simp [*]; done)), H', ⟨by have := HK1.out; have := HJ24.out; have := HJ29.out; have := HK4.out; omega⟩, ⟨by (with_reducible repeat (first | apply Kd.R_alloc | apply Kd.R_drewN | apply Kd.R_drew)); exact Kd.R_mono HO_6.out (fun _ hk => ⟨hk.1, hk.2.1⟩)⟩, ⟨by (with_reducible repeat (first | apply Kd.R_alloc | apply Kd.R_drewN | apply Kd.R_drew)); exact Kd.R_mono HO_7.out (fun _ hk => ⟨hk.1, hk.2.1⟩)⟩, ⟨by (with_reducible repeat (first | apply Kd.R_alloc | apply Kd.R_drewN | apply Kd.R_drew)); exact Kd.R_mono HO_8.out (fun _ hk => ⟨hk.1, hk.2.1⟩)⟩, ⟨by (with_reducible repeat (first | apply Kd.R_alloc | apply Kd.R_drewN | apply Kd.R_drew)); exact HO_351001.out⟩, ⟨by (with_reducible repeat (first | refine blk_drewN ?_ _ | refine blk_drew ?_ | refine blk_alloc ?_ _)); exact BK350.out⟩, ⟨by repeat (first | (with_reducible first | exact HB.out | apply below_alloc | apply pw_below_drewN | apply below_drew1 | refine below_set ?_ GE350.out) | exact HB.out)⟩⟩
           ·replace c36 := Bool.eq_false_iff.mpr c36
            subst c36
            have H1 : (intervalmonlaw29_RouteRoots.l0 kj29 t351 t358 x8_1 x9_24 x10_1 (wrap64 (x11_1 + 1)) t346 t347) = some r := by rw [if_neg (show ¬ (false = true) by decide)] at H; exact H
            clear H
            have H := H1
            clear H1
            have H' := Aside0.mk H
            clear H
            go_wp2
            go_roundg kj29
            case measure => have := HK1.out; have := HJ24.out; have := HJ29.out; omega
            case rel => exact ⟨(x8_1), (x9_24), (x10_1), (wrap64 (x11_1 + 1)), (by first | rfl | (simp; done) | (simp [*]; done)), (by first | rfl | (simp; done) | (simp [*]; done)), (by first | rfl | (simp; done) | (simp [*]; done)), H', ⟨by have := HK1.out; have := HJ24.out; have := HJ29.out; omega⟩, ⟨by (with_reducible repeat (first | apply Kd.R_alloc | apply Kd.R_drewN | apply Kd.R_drew)); exact HO_6.out⟩, ⟨by (with_reducible repeat (first | apply Kd.R_alloc | apply Kd.R_drewN | apply Kd.R_drew)); exact HO_7.out⟩, ⟨by (with_reducible repeat (first | apply Kd.R_alloc | apply Kd.R_drewN | apply Kd.R_drew)); exact HO_8.out⟩, ⟨by (with_reducible repeat (first | apply Kd.R_alloc | apply Kd.R_drewN | apply Kd.R_drew)); exact HO_351001.out⟩, ⟨by (with_reducible repeat (first | refine blk_drewN ?_ _ | refine blk_drew ?_ | refine blk_alloc ?_ _)); exact BK350.out⟩, ⟨by repeat (first | (with_reducible first | exact HB.out | apply below_alloc | apply pw_below_drewN | apply below_drew1 | refine below_set ?_ GE350.out) | exact HB.out)⟩⟩
      ·rw [if_neg c24] at H
       have c24b0 : decide (x11_1 < t346) = false := decide_eq_false c24
       clear c24
       have H' := Aside0.mk H
       clear H
       have hcz58_0 : wr.cell? ⟨gb350, 0, none⟩ = some (.int .i64 t346) := (blk_cell BK350.out 0).trans rfl
       have hcz58_1 : wr.cell? ⟨gb350, 1, none⟩ = some (.slice Ao13 t347.length co13) := (blk_cell BK350.out 1).trans rfl
       have hfz58_0 := blk_frozen BK350.out 0
       have hfz58_1 := blk_frozen BK350.out 1
       go_wp2
       go_loopg [14] k1 (fun kq v14 w' => ∃ (x14_2 : Int), v14 = .int .i64 x14_2 ∧ Aside0 (intervalmonlaw29_RouteRoots.l2 kq t351 t358 x8_1 x9_1 x10_1 x14_2 t346 t347 = some r) ∧ Aside0 (kq ≤ k1) ∧ Aside0 (Kd.R Kd.bool 4 w' w.heap.size (fun k_ => some k_ ≠ ((.slice Ao20 t358.length co20) : Value).ownBlock ∧ some k_ ≠ (v362 : Value).ownBlock) (.slice Ao18 t351.length co18) t351) ∧ Aside0 (Kd.R Kd.bool 4 w' w.heap.size (fun k_ => some k_ ≠ ((.slice Ao18 t351.length co18) : Value).ownBlock ∧ some k_ ≠ (v362 : Value).ownBlock) (.slice Ao20 t358.length co20) t358) ∧ Aside0 (Kd.R Kd.bool 4 w' w.heap.size (fun k_ => some k_ ≠ ((.slice Ao18 t351.length co18) : Value).ownBlock ∧ some k_ ≠ ((.slice Ao20 t358.length co20) : Value).ownBlock) v362 x8_1) ∧ Aside0 (Kd.R k27 27 w' w.heap.size (fun _ => True) (.slice Ao13 t347.length co13) t347) ∧ Aside0 (w'.heap[gb350]? = some (.cells #[.int .i64 t346, (.slice Ao13 t347.length co13)] 25 (0, 0))) ∧ Aside0 (Below w.heap.size w w'))
       case atStart => exact ⟨(0), (by first | rfl | (simp; done) | (simp [*]; done)), H', ⟨Nat.le_refl _⟩, ⟨by (with_reducible repeat (first | apply Kd.R_alloc | apply Kd.R_drewN | apply Kd.R_drew)); exact HO_6.out⟩, ⟨by (with_reducible repeat (first | apply Kd.R_alloc | apply Kd.R_drewN | apply Kd.R_drew)); exact HO_7.out⟩, ⟨by (with_reducible repeat (first | apply Kd.R_alloc | apply Kd.R_drewN | apply Kd.R_drew)); exact HO_8.out⟩, ⟨by (with_reducible repeat (first | apply Kd.R_alloc | apply Kd.R_drewN | apply Kd.R_drew)); exact HO_351001.out⟩, ⟨by (with_reducible repeat (first | refine blk_drewN ?_ _ | refine blk_drew ?_ | refine blk_alloc ?_ _)); exact BK350.out⟩, ⟨by repeat (first | (with_reducible first | exact HB.out | apply below_alloc | apply pw_below_drewN | apply below_drew1 | refine below_set ?_ GE350.out) | exact HB.out)⟩⟩
       case round =>
        clear H'
        try clear c1
        try clear c2
        try clear p2
        try clear c3
        try clear p3
        try clear q3
        try clear hx3
        try clear c4
        try clear p4
        try clear q4
        try clear hx4
        try clear hf4
        try clear c5
        try clear p5
        try clear q5
        try clear hx5
        try clear hf5
        try clear p6
        try clear c7
        try clear c7b0
        try clear c7b1
        try clear c8
        try clear c8b0
        try clear c8b1
        try clear c9
        try clear c9b0
        try clear c9b1
        try clear c15
        try clear c18
        try clear c20
        try clear c22
        try clear c23
        try clear c24
        try clear c24b0
        try clear c27
        try clear c28
        try clear c28b0
        try clear c29
        try clear c29b0
        try clear c31
        try clear c31b0
        try clear c32
        try clear c32b0
        try clear q33
        try clear c34
        try clear c35
        try clear c35b0
        try clear c36
        try clear p36
        try clear q36
        try clear hx36
        try clear p37
        try clear q37
        try clear hx37
        try clear c40
        try clear c40b0
        try clear c41
        try clear c41b0
        try clear c42
        try clear c42b0
        try clear q43
        try clear c44
        try clear p45
        try clear q45
        try clear hx45
        try clear hf45
        try clear c50
        try clear c50b0
        try clear p51
        try clear q51
        try clear hx51
        try clear hf51
        try clear hcz12_0
        try clear hcz12_1
        try clear hcz15_0
        try clear hcz15_1
        try clear hcz21_0
        try clear hcz21_1
        try clear hcz26_0
        try clear hcz26_1
        try clear hcz38_0
        try clear hcz38_1
        try clear hcz46_0
        try clear hcz46_1
        try clear hcz52_0
        try clear hcz52_1
        try clear hcz57_0
        try clear hcz57_1
        try clear hcz58_0
        try clear hcz58_1
        try clear hfz12_0
        try clear hfz12_1
        try clear hfz15_0
        try clear hfz15_1
        try clear hfz21_0
        try clear hfz21_1
        try clear hfz26_0
        try clear hfz26_1
        try clear hfz38_0
        try clear hfz38_1
        try clear hfz46_0
        try clear hfz46_1
        try clear hfz52_0
        try clear hfz52_1
        try clear hfz57_0
        try clear hfz57_1
        try clear hfz58_0
        try clear hfz58_1
        try clear hx364_0
        try clear hx365_0
        try clear hx366_0
        try clear hx370_0
        try clear hx372_0
        try clear hx45_0
        try clear hx51_0
        try clear p2
        try clear p3
        try clear p36
        try clear p364
        try clear p365
        try clear p366
        try clear p370
        try clear p372
        try clear p45
        try clear p51
        try clear q3
        try clear q33
        try clear q36
        try clear q364
        try clear q365
        try clear q366
        try clear q370
        try clear q372
        try clear q45
        try clear q51
        obtain ⟨x14_2, rfl, HA, HK2, HO_6, HO_7, HO_8, HO_351001, BK350, HB⟩ := hrel
        cases gk with
        | zero => exact absurd HA.out (by simp [intervalmonlaw29_RouteRoots.l2])
        | succ k2 =>
         have H := HA.out
         clear HA
         simp only [intervalmonlaw29_RouteRoots.l2] at H
         by_cases c59 : x14_2 < t346
         ·rw [if_pos c59] at H
          have c59b0 : decide (x14_2 < t346) = true := decide_eq_true c59
          clear c59
          by_cases c60 : 0 ≤ x14_2
          ·rw [if_pos c60] at H
           have c60b0 : decide (0 ≤ x14_2) = true := decide_eq_true c60
           clear c60
           by_cases c61 : x14_2 < (t358.length : Int)
           ·rw [if_pos c61] at H
            have c61b0 : decide (x14_2 < (t358.length : Int)) = true := decide_eq_true c61
            clear c61
            obtain ⟨bq62, hbq62⟩ : ∃ b_ : Bool, b_ = (rdOf false t358 x14_2) := ⟨_, rfl⟩
            replace H : (if bq62 = true then (if x14_2 < (t351.length : Int) then (if rdOf false t351 x14_2 = true then (if x14_2 < (x8_1.length : Int) then (if rdOf false x8_1 x14_2 = true then (intervalmonlaw29_RouteRoots.l2 k2 t351 t358 x8_1 x9_1 x10_1 (wrap64 (x14_2 + 1)) t346 t347) else (some false)) else (none)) else (some false)) else (none)) else (if x14_2 < (t351.length : Int) then (if rdOf false t351 x14_2 = true then (if x14_2 < (x8_1.length : Int) then (if rdOf false x8_1 x14_2 = true then (some false) else (intervalmonlaw29_RouteRoots.l2 k2 t351 t358 x8_1 x9_1 x10_1 (wrap64 (x14_2 + 1)) t346 t347)) else (none)) else (intervalmonlaw29_RouteRoots.l2 k2 t351 t358 x8_1 x9_1 x10_1 (wrap64 (x14_2 + 1)) t346 t347)) else (none))) = some r := by rw [← hbq62] at H; exact H
            have Nbq62 := Aside0.mk hbq62
            clear hbq62
            by_cases c63 : bq62 = true
            ·subst c63
             have H1 : (if x14_2 < (t351.length : Int) then (if rdOf false t351 x14_2 = true then (if x14_2 < (x8_1.length : Int) then (if rdOf false x8_1 x14_2 = true then (intervalmonlaw29_RouteRoots.l2 k2 t351 t358 x8_1 x9_1 x10_1 (wrap64 (x14_2 + 1)) t346 t347) else (some false)) else (none)) else (some false)) else (none)) = some r := by rw [if_pos rfl] at H; exact H
             clear H
             have H := H1
             clear H1
             by_cases c64 : x14_2 < (t351.length : Int)
             ·rw [if_pos c64] at H
              have c64b0 : decide (x14_2 < (t351.length : Int)) = true := decide_eq_true c64
              clear c64
              obtain ⟨bq65, hbq65⟩ : ∃ b_ : Bool, b_ = (rdOf false t351 x14_2) := ⟨_, rfl⟩
              replace H : (if bq65 = true then (if x14_2 < (x8_1.length : Int) then (if rdOf false x8_1 x14_2 = true then (intervalmonlaw29_RouteRoots.l2 k2 t351 t358 x8_1 x9_1 x10_1 (wrap64 (x14_2 + 1)) t346 t347) else (some false)) else (none)) else (some false)) = some r := by rw [← hbq65] at H; exact H
              have Nbq65 := Aside0.mk hbq65
              clear hbq65
              by_cases c66 : bq65 = true
              ·subst c66
               have H1 : (if x14_2 < (x8_1.length : Int) then (if rdOf false x8_1 x14_2 = true then (intervalmonlaw29_RouteRoots.l2 k2 t351 t358 x8_1 x9_1 x10_1 (wrap64 (x14_2 + 1)) t346 t347) else (some false)) else (none)) = some r := by rw [if_pos rfl] at H; exact H
               clear H
               have H := H1
               clear H1
               by_cases c67 : x14_2 < (x8_1.length : Int)
               ·rw [if_pos c67] at H
                have c67b0 : decide (x14_2 < (x8_1.length : Int)) = true := decide_eq_true c67
                clear c67
                obtain ⟨bq68, hbq68⟩ : ∃ b_ : Bool, b_ = (rdOf false x8_1 x14_2) := ⟨_, rfl⟩
                replace H : (if bq68 = true then (intervalmonlaw29_RouteRoots.l2 k2 t351 t358 x8_1 x9_1 x10_1 (wrap64 (x14_2 + 1)) t346 t347) else (some false)) = some r := by rw [← hbq68] at H; exact H
                have Nbq68 := Aside0.mk hbq68
                clear hbq68
                by_cases c69 : bq68 = true
                ·subst c69
                 have H1 : (intervalmonlaw29_RouteRoots.l2 k2 t351 t358 x8_1 x9_1 x10_1 (wrap64 (x14_2 + 1)) t346 t347) = some r := by rw [if_pos rfl] at H; exact H
                 clear H
                 have H := H1
                 clear H1
                 have H' := Aside0.mk H
                 clear H
                 have hcz70_0 : wr.cell? ⟨gb350, 0, none⟩ = some (.int .i64 t346) := (blk_cell BK350.out 0).trans rfl
                 have hcz70_1 : wr.cell? ⟨gb350, 1, none⟩ = some (.slice Ao13 t347.length co13) := (blk_cell BK350.out 1).trans rfl
                 have hfz70_0 := blk_frozen BK350.out 0
                 have hfz70_1 := blk_frozen BK350.out 1
                 have p374 : 0 ≤ (x14_2 : Int) := of_decide_eq_true (by first | (with_reducible assumption) | assumption)
                 have q374 : x14_2 < (t358.length : Int) := of_decide_eq_true (by first | (with_reducible assumption) | assumption)
                 obtain ⟨ad374, e374, hx374_0⟩ := Kd.at_bool (Kd.R_reads' HO_7.out).2.2 x14_2 p374 q374
                 (try rw [← Nbq62.out] at hx374_0)
                 (try rw [← Nbq65.out] at hx374_0)
                 (try rw [← Nbq68.out] at hx374_0)
                 cases e374
                 replace p374 := eq_true p374
                 replace q374 := eq_true q374
                 have p375 : 0 ≤ (x14_2 : Int) := of_decide_eq_true (by first | (with_reducible assumption) | assumption)
                 have q375 : x14_2 < (t351.length : Int) := of_decide_eq_true (by first | (with_reducible assumption) | assumption)
                 obtain ⟨ad375, e375, hx375_0⟩ := Kd.at_bool (Kd.R_reads' HO_6.out).2.2 x14_2 p375 q375
                 (try rw [← Nbq62.out] at hx375_0)
                 (try rw [← Nbq65.out] at hx375_0)
                 (try rw [← Nbq68.out] at hx375_0)
                 cases e375
                 replace p375 := eq_true p375
                 replace q375 := eq_true q375
                 obtain ⟨Ao71, co71, eo71⟩ := Kd.R_slice HO_8.out
                 subst eo71
                 have p376 : 0 ≤ (x14_2 : Int) := of_decide_eq_true (by first | (with_reducible assumption) | assumption)
                 have q376 : x14_2 < (x8_1.length : Int) := of_decide_eq_true (by first | (with_reducible assumption) | assumption)
                 obtain ⟨ad376, e376, hx376_0⟩ := Kd.at_bool (Kd.R_reads' HO_8.out).2.2 x14_2 p376 q376
                 (try rw [← Nbq62.out] at hx376_0)
                 (try rw [← Nbq65.out] at hx376_0)
                 (try rw [← Nbq68.out] at hx376_0)
                 cases e376
                 replace p376 := eq_true p376
                 replace q376 := eq_true q376
                 have p377 : 0 ≤ (x14_2 : Int) := of_decide_eq_true (by first | (with_reducible assumption) | assumption)
                 have q377 : x14_2 < (t351.length : Int) := of_decide_eq_true (by first | (with_reducible assumption) | assumption)
                 obtain ⟨ad377, e377, hx377_0⟩ := Kd.at_bool (Kd.R_reads' HO_6.out).2.2 x14_2 p377 q377
                 (try rw [← Nbq62.out] at hx377_0)
                 (try rw [← Nbq65.out] at hx377_0)
                 (try rw [← Nbq68.out] at hx377_0)
                 obtain rfl : ad375 = ad377 := (by injection e377)
                 replace p377 := eq_true p377
                 replace q377 := eq_true q377
                 have p378 : 0 ≤ (x14_2 : Int) := of_decide_eq_true (by first | (with_reducible assumption) | assumption)
                 have q378 : x14_2 < (t358.length : Int) := of_decide_eq_true (by first | (with_reducible assumption) | assumption)
                 obtain ⟨ad378, e378, hx378_0⟩ := Kd.at_bool (Kd.R_reads' HO_7.out).2.2 x14_2 p378 q378
                 (try rw [← Nbq62.out] at hx378_0)
                 (try rw [← Nbq65.out] at hx378_0)
                 (try rw [← Nbq68.out] at hx378_0)
                 obtain rfl : ad374 = ad378 := (by injection e378)
                 replace p378 := eq_true p378
                 replace q378 := eq_true q378
                 go_wp2
                 go_roundg k2
                 case measure => have := HK1.out; have := HK2.out; omega
                 case rel => exact ⟨(wrap64 (x14_2 + 1)), (by first | rfl | (simp; done) | (simp [*]; done)), H', ⟨by have := HK1.out; have := HK2.out; omega⟩, ⟨by (with_reducible repeat (first | apply Kd.R_alloc | apply Kd.R_drewN | apply Kd.R_drew)); exact HO_6.out⟩, ⟨by (with_reducible repeat (first | apply Kd.R_alloc | apply Kd.R_drewN | apply Kd.R_drew)); exact HO_7.out⟩, ⟨by (with_reducible repeat (first | apply Kd.R_alloc | apply Kd.R_drewN | apply Kd.R_drew)); exact HO_8.out⟩, ⟨by (with_reducible repeat (first | apply Kd.R_alloc | apply Kd.R_drewN | apply Kd.R_drew)); exact HO_351001.out⟩, ⟨by (with_reducible repeat (first | refine blk_drewN ?_ _ | refine blk_drew ?_ | refine blk_alloc ?_ _)); exact BK350.out⟩, ⟨by repeat (first | (with_reducible first | exact HB.out | apply below_alloc | apply pw_below_drewN | apply below_drew1 | refine below_set ?_ GE350.out) | exact HB.out)⟩⟩
                ·replace c69 := Bool.eq_false_iff.mpr c69
                 subst c69
                 have H1 : (some false) = some r := by rw [if_neg (show ¬ (false = true) by decide)] at H; exact H
                 clear H
                 have H := H1
                 clear H1
                 obtain rfl := Option.some.inj H
                 have hcz72_0 : wr.cell? ⟨gb350, 0, none⟩ = some (.int .i64 t346) := (blk_cell BK350.out 0).trans rfl
                 have hcz72_1 : wr.cell? ⟨gb350, 1, none⟩ = some (.slice Ao13 t347.length co13) := (blk_cell BK350.out 1).trans rfl
                 have hfz72_0 := blk_frozen BK350.out 0
                 have hfz72_1 := blk_frozen BK350.out 1
                 have p374 : 0 ≤ (x14_2 : Int) := of_decide_eq_true (by first | (with_reducible assumption) | assumption)
                 have q374 : x14_2 < (t358.length : Int) := of_decide_eq_true (by first | (with_reducible assumption) | assumption)
                 obtain ⟨ad374, e374, hx374_0⟩ := Kd.at_bool (Kd.R_reads' HO_7.out).2.2 x14_2 p374 q374
                 (try rw [← Nbq62.out] at hx374_0)
                 (try rw [← Nbq65.out] at hx374_0)
                 (try rw [← Nbq68.out] at hx374_0)
                 cases e374
                 replace p374 := eq_true p374
                 replace q374 := eq_true q374
                 have p375 : 0 ≤ (x14_2 : Int) := of_decide_eq_true (by first | (with_reducible assumption) | assumption)
                 have q375 : x14_2 < (t351.length : Int) := of_decide_eq_true (by first | (with_reducible assumption) | assumption)
                 obtain ⟨ad375, e375, hx375_0⟩ := Kd.at_bool (Kd.R_reads' HO_6.out).2.2 x14_2 p375 q375
                 (try rw [← Nbq62.out] at hx375_0)
                 (try rw [← Nbq65.out] at hx375_0)
                 (try rw [← Nbq68.out] at hx375_0)
                 cases e375
                 replace p375 := eq_true p375
                 replace q375 := eq_true q375
                 obtain ⟨Ao73, co73, eo73⟩ := Kd.R_slice HO_8.out
                 subst eo73
                 have p376 : 0 ≤ (x14_2 : Int) := of_decide_eq_true (by first | (with_reducible assumption) | assumption)
                 have q376 : x14_2 < (x8_1.length : Int) := of_decide_eq_true (by first | (with_reducible assumption) | assumption)
                 obtain ⟨ad376, e376, hx376_0⟩ := Kd.at_bool (Kd.R_reads' HO_8.out).2.2 x14_2 p376 q376
                 (try rw [← Nbq62.out] at hx376_0)
                 (try rw [← Nbq65.out] at hx376_0)
                 (try rw [← Nbq68.out] at hx376_0)
                 cases e376
                 replace p376 := eq_true p376
                 replace q376 := eq_true q376
                 go_wp2
                 go_ret
                 exact ⟨by first | rfl | (simp [errW_none, errW_some] <;> rfl) | (simp [*, errW_none, errW_some] <;> rfl), by repeat (first | (with_reducible first | exact HB.out | apply below_alloc | apply pw_below_drewN | apply below_drew1 | refine below_set ?_ GE350.out) | exact HB.out)⟩
               ·rw [if_neg c67] at H
                exact absurd H (by simp)
              ·replace c66 := Bool.eq_false_iff.mpr c66
               subst c66
               have H1 : (some false) = some r := by rw [if_neg (show ¬ (false = true) by decide)] at H; exact H
               clear H
               have H := H1
               clear H1
               obtain rfl := Option.some.inj H
               have hcz74_0 : wr.cell? ⟨gb350, 0, none⟩ = some (.int .i64 t346) := (blk_cell BK350.out 0).trans rfl
               have hcz74_1 : wr.cell? ⟨gb350, 1, none⟩ = some (.slice Ao13 t347.length co13) := (blk_cell BK350.out 1).trans rfl
               have hfz74_0 := blk_frozen BK350.out 0
               have hfz74_1 := blk_frozen BK350.out 1
               have p374 : 0 ≤ (x14_2 : Int) := of_decide_eq_true (by first | (with_reducible assumption) | assumption)
               have q374 : x14_2 < (t358.length : Int) := of_decide_eq_true (by first | (with_reducible assumption) | assumption)
               obtain ⟨ad374, e374, hx374_0⟩ := Kd.at_bool (Kd.R_reads' HO_7.out).2.2 x14_2 p374 q374
               (try rw [← Nbq62.out] at hx374_0)
               (try rw [← Nbq65.out] at hx374_0)
               cases e374
               replace p374 := eq_true p374
               replace q374 := eq_true q374
               have p375 : 0 ≤ (x14_2 : Int) := of_decide_eq_true (by first | (with_reducible assumption) | assumption)
               have q375 : x14_2 < (t351.length : Int) := of_decide_eq_true (by first | (with_reducible assumption) | assumption)
               obtain ⟨ad375, e375, hx375_0⟩ := Kd.at_bool (Kd.R_reads' HO_6.out).2.2 x14_2 p375 q375
               (try rw [← Nbq62.out] at hx375_0)
               (try rw [← Nbq65.out] at hx375_0)
               cases e375
               replace p375 := eq_true p375
               replace q375 := eq_true q375
               go_wp2
               go_ret
               exact ⟨by first | rfl | (simp [errW_none, errW_some] <;> rfl) | (simp [*, errW_none, errW_some] <;> rfl), by repeat (first | (with_reducible first | exact HB.out | apply below_alloc | apply pw_below_drewN | apply below_drew1 | refine below_set ?_ GE350.out) | exact HB.out)⟩
             ·rw [if_neg c64] at H
              exact absurd H (by simp)
            ·replace c63 := Bool.eq_false_iff.mpr c63
             subst c63
             have H1 : (if x14_2 < (t351.length : Int) then (if rdOf false t351 x14_2 = true then (if x14_2 < (x8_1.length : Int) then (if rdOf false x8_1 x14_2 = true then (some false) else (intervalmonlaw29_RouteRoots.l2 k2 t351 t358 x8_1 x9_1 x10_1 (wrap64 (x14_2 + 1)) t346 t347)) else (none)) else (intervalmonlaw29_RouteRoots.l2 k2 t351 t358 x8_1 x9_1 x10_1 (wrap64 (x14_2 + 1)) t346 t347)) else (none)) = some r := by rw [if_neg (show ¬ (false = true) by decide)] at H; exact H
             clear H
             have H := H1
             clear H1
             by_cases c75 : x14_2 < (t351.length : Int)
             ·rw [if_pos c75] at H
              have c75b0 : decide (x14_2 < (t351.length : Int)) = true := decide_eq_true c75
              clear c75
              obtain ⟨bq76, hbq76⟩ : ∃ b_ : Bool, b_ = (rdOf false t351 x14_2) := ⟨_, rfl⟩
              replace H : (if bq76 = true then (if x14_2 < (x8_1.length : Int) then (if rdOf false x8_1 x14_2 = true then (some false) else (intervalmonlaw29_RouteRoots.l2 k2 t351 t358 x8_1 x9_1 x10_1 (wrap64 (x14_2 + 1)) t346 t347)) else (none)) else (intervalmonlaw29_RouteRoots.l2 k2 t351 t358 x8_1 x9_1 x10_1 (wrap64 (x14_2 + 1)) t346 t347)) = some r := by rw [← hbq76] at H; exact H
              have Nbq76 := Aside0.mk hbq76
              clear hbq76
              by_cases c77 : bq76 = true
              ·subst c77
               have H1 : (if x14_2 < (x8_1.length : Int) then (if rdOf false x8_1 x14_2 = true then (some false) else (intervalmonlaw29_RouteRoots.l2 k2 t351 t358 x8_1 x9_1 x10_1 (wrap64 (x14_2 + 1)) t346 t347)) else (none)) = some r := by rw [if_pos rfl] at H; exact H
               clear H
               have H := H1
               clear H1
               by_cases c78 : x14_2 < (x8_1.length : Int)
               ·rw [if_pos c78] at H
                have c78b0 : decide (x14_2 < (x8_1.length : Int)) = true := decide_eq_true c78
                clear c78
                obtain ⟨bq79, hbq79⟩ : ∃ b_ : Bool, b_ = (rdOf false x8_1 x14_2) := ⟨_, rfl⟩
                replace H : (if bq79 = true then (some false) else (intervalmonlaw29_RouteRoots.l2 k2 t351 t358 x8_1 x9_1 x10_1 (wrap64 (x14_2 + 1)) t346 t347)) = some r := by rw [← hbq79] at H; exact H
                have Nbq79 := Aside0.mk hbq79
                clear hbq79
                by_cases c80 : bq79 = true
                ·subst c80
                 have H1 : (some false) = some r := by rw [if_pos rfl] at H; exact H
                 clear H
                 have H := H1
                 clear H1
                 obtain rfl := Option.some.inj H
                 have hcz81_0 : wr.cell? ⟨gb350, 0, none⟩ = some (.int .i64 t346) := (blk_cell BK350.out 0).trans rfl
                 have hcz81_1 : wr.cell? ⟨gb350, 1, none⟩ = some (.slice Ao13 t347.length co13) := (blk_cell BK350.out 1).trans rfl
                 have hfz81_0 := blk_frozen BK350.out 0
                 have hfz81_1 := blk_frozen BK350.out 1
                 have p374 : 0 ≤ (x14_2 : Int) := of_decide_eq_true (by first | (with_reducible assumption) | assumption)
                 have q374 : x14_2 < (t358.length : Int) := of_decide_eq_true (by first | (with_reducible assumption) | assumption)
                 obtain ⟨ad374, e374, hx374_0⟩ := Kd.at_bool (Kd.R_reads' HO_7.out).2.2 x14_2 p374 q374
                 (try rw [← Nbq62.out] at hx374_0)
                 (try rw [← Nbq76.out] at hx374_0)
                 (try rw [← Nbq79.out] at hx374_0)
                 cases e374
                 replace p374 := eq_true p374
                 replace q374 := eq_true q374
                 have p379 : 0 ≤ (x14_2 : Int) := of_decide_eq_true (by first | (with_reducible assumption) | assumption)
                 have q379 : x14_2 < (t351.length : Int) := of_decide_eq_true (by first | (with_reducible assumption) | assumption)
                 obtain ⟨ad379, e379, hx379_0⟩ := Kd.at_bool (Kd.R_reads' HO_6.out).2.2 x14_2 p379 q379
                 (try rw [← Nbq62.out] at hx379_0)
                 (try rw [← Nbq76.out] at hx379_0)
                 (try rw [← Nbq79.out] at hx379_0)
                 cases e379
                 replace p379 := eq_true p379
                 replace q379 := eq_true q379
                 have p380 : 0 ≤ (x14_2 : Int) := of_decide_eq_true (by first | (with_reducible assumption) | assumption)
                 have q380 : x14_2 < (t358.length : Int) := of_decide_eq_true (by first | (with_reducible assumption) | assumption)
                 obtain ⟨ad380, e380, hx380_0⟩ := Kd.at_bool (Kd.R_reads' HO_7.out).2.2 x14_2 p380 q380
                 (try rw [← Nbq62.out] at hx380_0)
                 (try rw [← Nbq76.out] at hx380_0)
                 (try rw [← Nbq79.out] at hx380_0)
                 obtain rfl : ad374 = ad380 := (by injection e380)
                 replace p380 := eq_true p380
                 replace q380 := eq_true q380
                 obtain ⟨Ao82, co82, eo82⟩ := Kd.R_slice HO_8.out
                 subst eo82
                 have p381 : 0 ≤ (x14_2 : Int) := of_decide_eq_true (by first | (with_reducible assumption) | assumption)
                 have q381 : x14_2 < (x8_1.length : Int) := of_decide_eq_true (by first | (with_reducible assumption) | assumption)
                 obtain ⟨ad381, e381, hx381_0⟩ := Kd.at_bool (Kd.R_reads' HO_8.out).2.2 x14_2 p381 q381
                 (try rw [← Nbq62.out] at hx381_0)
                 (try rw [← Nbq76.out] at hx381_0)
                 (try rw [← Nbq79.out] at hx381_0)
                 cases e381
                 replace p381 := eq_true p381
                 replace q381 := eq_true q381
                 go_wp2
                 go_ret
                 exact ⟨by first | rfl | (simp [errW_none, errW_some] <;> rfl) | (simp [*, errW_none, errW_some] <;> rfl), by repeat (first | (with_reducible first | exact HB.out | apply below_alloc | apply pw_below_drewN | apply below_drew1 | refine below_set ?_ GE350.out) | exact HB.out)⟩
                ·replace c80 := Bool.eq_false_iff.mpr c80
                 subst c80
                 have H1 : (intervalmonlaw29_RouteRoots.l2 k2 t351 t358 x8_1 x9_1 x10_1 (wrap64 (x14_2 + 1)) t346 t347) = some r := by rw [if_neg (show ¬ (false = true) by decide)] at H; exact H
                 clear H
                 have H := H1
                 clear H1
                 have H' := Aside0.mk H
                 clear H
                 have hcz83_0 : wr.cell? ⟨gb350, 0, none⟩ = some (.int .i64 t346) := (blk_cell BK350.out 0).trans rfl
                 have hcz83_1 : wr.cell? ⟨gb350, 1, none⟩ = some (.slice Ao13 t347.length co13) := (blk_cell BK350.out 1).trans rfl
                 have hfz83_0 := blk_frozen BK350.out 0
                 have hfz83_1 := blk_frozen BK350.out 1
                 have p374 : 0 ≤ (x14_2 : Int) := of_decide_eq_true (by first | (with_reducible assumption) | assumption)
                 have q374 : x14_2 < (t358.length : Int) := of_decide_eq_true (by first | (with_reducible assumption) | assumption)
                 obtain ⟨ad374, e374, hx374_0⟩ := Kd.at_bool (Kd.R_reads' HO_7.out).2.2 x14_2 p374 q374
                 (try rw [← Nbq62.out] at hx374_0)
                 (try rw [← Nbq76.out] at hx374_0)
                 (try rw [← Nbq79.out] at hx374_0)
                 cases e374
                 replace p374 := eq_true p374
                 replace q374 := eq_true q374
                 have p379 : 0 ≤ (x14_2 : Int) := of_decide_eq_true (by first | (with_reducible assumption) | assumption)
                 have q379 : x14_2 < (t351.length : Int) := of_decide_eq_true (by first | (with_reducible assumption) | assumption)
                 obtain ⟨ad379, e379, hx379_0⟩ := Kd.at_bool (Kd.R_reads' HO_6.out).2.2 x14_2 p379 q379
                 (try rw [← Nbq62.out] at hx379_0)
                 (try rw [← Nbq76.out] at hx379_0)
                 (try rw [← Nbq79.out] at hx379_0)
                 cases e379
                 replace p379 := eq_true p379
                 replace q379 := eq_true q379
                 have p380 : 0 ≤ (x14_2 : Int) := of_decide_eq_true (by first | (with_reducible assumption) | assumption)
                 have q380 : x14_2 < (t358.length : Int) := of_decide_eq_true (by first | (with_reducible assumption) | assumption)
                 obtain ⟨ad380, e380, hx380_0⟩ := Kd.at_bool (Kd.R_reads' HO_7.out).2.2 x14_2 p380 q380
                 (try rw [← Nbq62.out] at hx380_0)
                 (try rw [← Nbq76.out] at hx380_0)
                 (try rw [← Nbq79.out] at hx380_0)
                 obtain rfl : ad374 = ad380 := (by injection e380)
                 replace p380 := eq_true p380
                 replace q380 := eq_true q380
                 obtain ⟨Ao84, co84, eo84⟩ := Kd.R_slice HO_8.out
                 subst eo84
                 have p381 : 0 ≤ (x14_2 : Int) := of_decide_eq_true (by first | (with_reducible assumption) | assumption)
                 have q381 : x14_2 < (x8_1.length : Int) := of_decide_eq_true (by first | (with_reducible assumption) | assumption)
                 obtain ⟨ad381, e381, hx381_0⟩ := Kd.at_bool (Kd.R_reads' HO_8.out).2.2 x14_2 p381 q381
                 (try rw [← Nbq62.out] at hx381_0)
                 (try rw [← Nbq76.out] at hx381_0)
                 (try rw [← Nbq79.out] at hx381_0)
                 cases e381
                 replace p381 := eq_true p381
                 replace q381 := eq_true q381
                 go_wp2
                 go_roundg k2
                 case measure => have := HK1.out; have := HK2.out; omega
                 case rel => exact ⟨(wrap64 (x14_2 + 1)), (by first | rfl | (simp; done) | (simp [*]; done)), H', ⟨by have := HK1.out; have := HK2.out; omega⟩, ⟨by (with_reducible repeat (first | apply Kd.R_alloc | apply Kd.R_drewN | apply Kd.R_drew)); exact HO_6.out⟩, ⟨by (with_reducible repeat (first | apply Kd.R_alloc | apply Kd.R_drewN | apply Kd.R_drew)); exact HO_7.out⟩, ⟨by (with_reducible repeat (first | apply Kd.R_alloc | apply Kd.R_drewN | apply Kd.R_drew)); exact HO_8.out⟩, ⟨by (with_reducible repeat (first | apply Kd.R_alloc | apply Kd.R_drewN | apply Kd.R_drew)); exact HO_351001.out⟩, ⟨by (with_reducible repeat (first | refine blk_drewN ?_ _ | refine blk_drew ?_ | refine blk_alloc ?_ _)); exact BK350.out⟩, ⟨by repeat (first | (with_reducible first | exact HB.out | apply below_alloc | apply pw_below_drewN | apply below_drew1 | refine below_set ?_ GE350.out) | exact HB.out)⟩⟩
               ·rw [if_neg c78] at H
                exact absurd H (by simp)
              ·replace c77 := Bool.eq_false_iff.mpr c77
               subst c77
               have H1 : (intervalmonlaw29_RouteRoots.l2 k2 t351 t358 x8_1 x9_1 x10_1 (wrap64 (x14_2 + 1)) t346 t347) = some r := by rw [if_neg (show ¬ (false = true) by decide)] at H; exact H
               clear H
               have H := H1
               clear H1
               have H' := Aside0.mk H
               clear H
               have hcz85_0 : wr.cell? ⟨gb350, 0, none⟩ = some (.int .i64 t346) := (blk_cell BK350.out 0).trans rfl
               have hcz85_1 : wr.cell? ⟨gb350, 1, none⟩ = some (.slice Ao13 t347.length co13) := (blk_cell BK350.out 1).trans rfl
               have hfz85_0 := blk_frozen BK350.out 0
               have hfz85_1 := blk_frozen BK350.out 1
               have p374 : 0 ≤ (x14_2 : Int) := of_decide_eq_true (by first | (with_reducible assumption) | assumption)
               have q374 : x14_2 < (t358.length : Int) := of_decide_eq_true (by first | (with_reducible assumption) | assumption)
               obtain ⟨ad374, e374, hx374_0⟩ := Kd.at_bool (Kd.R_reads' HO_7.out).2.2 x14_2 p374 q374
               (try rw [← Nbq62.out] at hx374_0)
               (try rw [← Nbq76.out] at hx374_0)
               cases e374
               replace p374 := eq_true p374
               replace q374 := eq_true q374
               have p379 : 0 ≤ (x14_2 : Int) := of_decide_eq_true (by first | (with_reducible assumption) | assumption)
               have q379 : x14_2 < (t351.length : Int) := of_decide_eq_true (by first | (with_reducible assumption) | assumption)
               obtain ⟨ad379, e379, hx379_0⟩ := Kd.at_bool (Kd.R_reads' HO_6.out).2.2 x14_2 p379 q379
               (try rw [← Nbq62.out] at hx379_0)
               (try rw [← Nbq76.out] at hx379_0)
               cases e379
               replace p379 := eq_true p379
               replace q379 := eq_true q379
               go_wp2
               go_roundg k2
               case measure => have := HK1.out; have := HK2.out; omega
               case rel => exact ⟨(wrap64 (x14_2 + 1)), (by first | rfl | (simp; done) | (simp [*]; done)), H', ⟨by have := HK1.out; have := HK2.out; omega⟩, ⟨by (with_reducible repeat (first | apply Kd.R_alloc | apply Kd.R_drewN | apply Kd.R_drew)); exact HO_6.out⟩, ⟨by (with_reducible repeat (first | apply Kd.R_alloc | apply Kd.R_drewN | apply Kd.R_drew)); exact HO_7.out⟩, ⟨by (with_reducible repeat (first | apply Kd.R_alloc | apply Kd.R_drewN | apply Kd.R_drew)); exact HO_8.out⟩, ⟨by (with_reducible repeat (first | apply Kd.R_alloc | apply Kd.R_drewN | apply Kd.R_drew)); exact HO_351001.out⟩, ⟨by (with_reducible repeat (first | refine blk_drewN ?_ _ | refine blk_drew ?_ | refine blk_alloc ?_ _)); exact BK350.out⟩, ⟨by repeat (first | (with_reducible first | exact HB.out | apply below_alloc | apply pw_below_drewN | apply below_drew1 | refine below_set ?_ GE350.out) | exact HB.out)⟩⟩
             ·rw [if_neg c75] at H
              exact absurd H (by simp)
           ·rw [if_neg c61] at H
            exact absurd H (by simp)
          ·rw [if_neg c60] at H
           exact absurd H (by simp)
         ·rw [if_neg c59] at H
          have c59b0 : decide (x14_2 < t346) = false := decide_eq_false c59
          clear c59
          by_cases c86 : (x9_1 == x10_1) = true
          ·rw [if_pos c86] at H
           have c86b0 : (x9_1 == x10_1) = true := c86
           (try (have c86b1 : decide (x9_1 = x10_1) = true := by simpa using c86))
           (try (have c86b2 : (x9_1 == x10_1) = true := by simpa using c86))
           clear c86
           replace H := Option.bind_eq_some_iff.mp H
           obtain ⟨t382, A870, H⟩ := H
           replace H : (some t382) = some r := H
           have A87 := Aside0.mk A870
           clear A870
           obtain rfl := Option.some.inj H
           have hcz88_0 : wr.cell? ⟨gb350, 0, none⟩ = some (.int .i64 t346) := (blk_cell BK350.out 0).trans rfl
           have hcz88_1 : wr.cell? ⟨gb350, 1, none⟩ = some (.slice Ao13 t347.length co13) := (blk_cell BK350.out 1).trans rfl
           have hfz88_0 := blk_frozen BK350.out 0
           have hfz88_1 := blk_frozen BK350.out 1
           go_wp2_with (first | (go_at_call 17; (with_reducible refine (intervalmonlaw29_lives.calls k2  t382 _ A87.out).mono ?_); rintro e w89 ⟨rfl, hb⟩; have n0_ := Aside0.mk (Kd.R_below (rq HO_6) hb); have n1_ := Aside0.mk (Kd.R_below (rq HO_7) hb); have n2_ := Aside0.mk (Kd.R_below (rq HO_8) hb); have n3_ := Aside0.mk (Kd.R_below (rq HO_351001) hb); have n4_ := Aside0.mk (blk_below (g := gb350) (o := .cells #[.int .i64 t346, .slice Ao13 t347.length co13] 25 (0, 0)) (bq BK350) hb); have n5_ := Aside0.mk (below_step (hq HB) hb); clear HO_6; clear HO_7; clear HO_8; clear HO_351001; clear BK350; clear HB; have HO_6 := n0_; have HO_7 := n1_; have HO_8 := n2_; have HO_351001 := n3_; have BK350 := n4_; have HB := n5_; clear n0_ n1_ n2_ n3_ n4_ n5_; (try clear hb); (try clear hb2); (try clear hk); (try clear hi)))
           go_ret
           exact ⟨by first | rfl | (simp [errW_none, errW_some] <;> rfl) | (simp [*, errW_none, errW_some] <;> rfl), by repeat (first | (with_reducible first | exact HB.out | apply below_alloc | apply pw_below_drewN | apply below_drew1 | refine below_set ?_ GE350.out) | exact HB.out)⟩
          ·rw [if_neg c86] at H
           have c86b0 : (x9_1 == x10_1) = false := by simpa using c86
           (try (have c86b1 : decide (x9_1 = x10_1) = false := by simpa using c86))
           (try (have c86b2 : (x9_1 == x10_1) = false := by simpa using c86))
           (try (have c86b3 : ¬ (x9_1 = x10_1) := by simpa using c86))
           clear c86
           obtain rfl := Option.some.inj H
           have hcz90_0 : wr.cell? ⟨gb350, 0, none⟩ = some (.int .i64 t346) := (blk_cell BK350.out 0).trans rfl
           have hcz90_1 : wr.cell? ⟨gb350, 1, none⟩ = some (.slice Ao13 t347.length co13) := (blk_cell BK350.out 1).trans rfl
           have hfz90_0 := blk_frozen BK350.out 0
           have hfz90_1 := blk_frozen BK350.out 1
           go_wp2
           go_ret
           exact ⟨by first | rfl | (simp [errW_none, errW_some] <;> rfl) | (simp [*, errW_none, errW_some] <;> rfl), by repeat (first | (with_reducible first | exact HB.out | apply below_alloc | apply pw_below_drewN | apply below_drew1 | refine below_set ?_ GE350.out) | exact HB.out)⟩
   ·rw [if_neg c9] at H
    exact absurd H (by simp)
  ·rw [if_neg c8] at H
   exact absurd H (by simp)
 ·rw [if_neg c7] at H
  have c7b0 : ((t358.length : Int) == t346) = false := beq_eq_false_iff_ne.mpr c7
  have c7b1 : ((t358.length : Int) != t346) = true := bne_iff_ne.mpr c7
  obtain rfl := Option.some.inj H
  go_enter Try.func5, Try.ntmps5
  go_wp2_with (first | ((with_reducible refine gate_callee (f := 22) rfl ?_); refine goesL_ (some 16) rfl rfl Try.func22 (by kernel_rfl) rfl #[.slice A0 l0.length c0] rfl aq ?_; (with_reducible refine (intervalmonref29_Acyclic.calls k _ _ l0 t346 t347 _ ?side1 ?side2 A3.out).mono ?_); (case side1 => repeat (first | exact HR0.out | (with_reducible refine Kd.C_alloc ?_ _) | (with_reducible refine Kd.C_drewN ?_ _) | (with_reducible refine Kd.C_drew ?_))); (case side2 => exact HC0.out); rintro e w91 ⟨v348, rfl, ho0, hb⟩; refine ⟨_, rfl, ?_⟩; have n0_ := Aside0.mk (Kd.R_lower ho0 (below_size (hq HB))); have n1_ := Aside0.mk (below_step (hq HB) hb); clear HB; have HO349 := n0_; have HB := n1_; clear n0_ n1_; (try clear hb); (try clear hb2); (try clear hk); (try clear hi); (try clear ho0)) | ((with_reducible refine gate_dst (N := 5) rfl ?_); refine box_event ?hg (N := 5) ?hd (cs := #[.int .i64 0, .slice none 0 0]) (t := 25) ?hr ?_; (case hd => rfl); (case hg => rfl); (case hr => first | (go_simp; done) | (go_simp; rfl)); intro gb350 hg w92 hbox hb; have n0_ := Aside0.mk (Kd.R_below (rq HO349) hb); have n1_ := Aside0.mk (below_step (hq HB) hb); have n2_ := Aside0.mk (hbox); have n3_ := Aside0.mk ((by rw [hg]; exact (below_size (hq HB)) : w.heap.size ≤ gb350)); have n4_ := Aside0.mk ((by rw [hg]; exact (below_size (hq HB)) : w.heap.size ≤ gb350)); clear HO349; clear HB; have HO349 := n0_; have HB := n1_; have BK350 := n2_; have GW350 := n3_; have GE350 := n4_; clear n0_ n1_ n2_ n3_ n4_; clear hb hbox hg; have hcz93_0 : w92.cell? ⟨gb350, 0, none⟩ = some (.int .i64 0) := (blk_cell BK350.out 0).trans rfl; have hcz93_1 : w92.cell? ⟨gb350, 1, none⟩ = some (.slice none 0 0) := (blk_cell BK350.out 1).trans rfl; have hfz93_0 := blk_frozen BK350.out 0; have hfz93_1 := blk_frozen BK350.out 1; obtain ⟨Ao94, co94, eo94⟩ := Kd.R_slice HO349.out; subst eo94) | ((with_reducible refine gate_callee (f := 18) rfl ?_); refine goesL_ (some 20) rfl rfl Try.func18 (by kernel_rfl) rfl #[.int .i64 t346, .int .i64 a1] rfl aq ?_; (with_reducible refine (intervalmonref29_Firing.calls k t346 a1 t351 _ A4.out).mono ?_); rintro e w95 ⟨v352, rfl, ho0, hb⟩; refine ⟨_, rfl, ?_⟩; have n0_ := Aside0.mk (Kd.R_below (by (with_reducible repeat (first | apply Kd.R_alloc | apply Kd.R_drewN | apply Kd.R_drew)); exact (Kd.R_mono (Kd.R_far (p := ⟨gb350, 1, none⟩) (Kd.R_far (p := ⟨gb350, 0, none⟩) (Kd.R_types HO349.out BK350.out (by decide)) (fun _ hk => hk.2) (.int .i64 t346)) (fun _ hk => hk.2) (.slice Ao94 t347.length co94)) (fun _ h_ => h_.1))) hb); have n1_ := Aside0.mk (Kd.R_lower ho0 (below_size (hq HB))); have n2_ := Aside0.mk (blk_below (g := gb350) (o := .cells #[.int .i64 t346, .slice Ao94 t347.length co94] 25 (0, 0)) (by (with_reducible repeat (first | refine blk_drewN ?_ _ | refine blk_drew ?_ | refine blk_alloc ?_ _)); refine blk_put (cs := #[.int .i64 t346, .slice none 0 0]) ?_ 1 _ rfl; (with_reducible repeat (first | refine blk_drewN ?_ _ | refine blk_drew ?_ | refine blk_alloc ?_ _)); refine blk_put (cs := #[.int .i64 0, .slice none 0 0]) ?_ 0 _ rfl; (with_reducible repeat (first | refine blk_drewN ?_ _ | refine blk_drew ?_ | refine blk_alloc ?_ _)); exact BK350.out) hb); have n3_ := Aside0.mk (below_step (hq HB) hb); clear HO349; clear BK350; clear HB; have HO349 := n0_; have HO353 := n1_; have BK350 := n2_; have HB := n3_; clear n0_ n1_ n2_ n3_; (try clear hb); (try clear hb2); (try clear hk); (try clear hi); (try clear ho0); have hcz96_0 : w95.cell? ⟨gb350, 0, none⟩ = some (.int .i64 t346) := (blk_cell BK350.out 0).trans rfl; have hcz96_1 : w95.cell? ⟨gb350, 1, none⟩ = some (.slice Ao94 t347.length co94) := (blk_cell BK350.out 1).trans rfl; have hfz96_0 := blk_frozen BK350.out 0; have hfz96_1 := blk_frozen BK350.out 1) | ((with_reducible refine gate_callee (f := 15) rfl ?_); refine goesL_ (some 22) rfl rfl Try.func15 (by kernel_rfl) rfl #[.agg #[.int .i64 t346, .slice Ao94 t347.length co94]] rfl aq ?_; (with_reducible refine (intervalmonlaw29_graph.calls t346 (fun k_ => some k_ = (.slice Ao94 t347.length co94 : Value).ownBlock) _ _ t347 t354 t355 _ ?side1 A5.out).mono ?_); (case side1 => exact Kd.R_V (Kd.R_tight rfl (Kd.R_types (Kd.R_apart' (HO349.out) (Kd.R_typed HO353.out) (by decide)) BK350.out (by decide)))); rintro e w97 ⟨v356, rfl, ho0, hb⟩; refine ⟨_, rfl, ?_⟩; have n0_ := Aside0.mk (Kd.R_below (rq HO349) hb); have n1_ := Aside0.mk (Kd.R_below (rq HO353) hb); have n2_ := Aside0.mk (Kd.V_lower (Kd.V_mono (ok' := fun k_ => some k_ ≠ (v352 : Value).ownBlock ∧ k_ ≠ gb350) ho0 (fun k_ hk_ => ⟨Or.elim hk_ (fun hs_ => ((Kd.R_types (Kd.R_apart' (HO349.out) (Kd.R_typed HO353.out) (by decide)) BK350.out (by decide)).1 k_ hs_.symm).1.2) (fun hn_ => (Kd.fresh' (Kd.R_lt (rq HO353)) k_ hn_)), Or.elim hk_ (fun hs_ => ((Kd.R_types (Kd.R_apart' (HO349.out) (Kd.R_typed HO353.out) (by decide)) BK350.out (by decide)).1 k_ hs_.symm).2) (fun hn_ => (Kd.freshB (g := gb350) (o := .cells #[.int .i64 t346, .slice Ao94 t347.length co94] 25 (0, 0)) (bq BK350) k_ hn_))⟩)) (below_size (hq HB))); have n3_ := Aside0.mk (blk_below (g := gb350) (o := .cells #[.int .i64 t346, .slice Ao94 t347.length co94] 25 (0, 0)) (bq BK350) hb); have n4_ := Aside0.mk (below_step (hq HB) hb); clear HO349; clear HO353; clear BK350; clear HB; have HO349 := n0_; have HO353 := n1_; have HO357 := n2_; have BK350 := n3_; have HB := n4_; clear n0_ n1_ n2_ n3_ n4_; (try clear hb); (try clear hb2); (try clear hk); (try clear hi); (try clear ho0); obtain ⟨Ao98, co98, eo98⟩ := Kd.V_slice HO357.out; subst eo98; obtain ⟨Ao99, co99, eo99⟩ := Kd.R_slice HO353.out; subst eo99) | ((with_reducible refine gate_callee (f := 20) rfl ?_); refine goesL_ (some 24) rfl rfl Try.func20 (by kernel_rfl) rfl #[.agg #[.int .i64 t354, .slice Ao98 t355.length co98], .slice Ao99 t351.length co99] rfl aq ?_; (with_reducible refine (route_Inhibited.calls k t354 _ _ t355 _ _ t351 t358 _ ?side1 ?side2 ?side3 ?side4 A6.out).mono ?_); (case side1 => repeat (first | exact (Kd.V_reads' HO357.out).2.2 | (with_reducible refine Kd.C_alloc ?_ _) | (with_reducible refine Kd.C_drewN ?_ _) | (with_reducible refine Kd.C_drew ?_))); (case side2 => exact (Kd.V_reads' HO357.out).2.1); (case side3 => repeat (first | exact (Kd.R_reads' HO353.out).2.2 | (with_reducible refine Kd.C_alloc ?_ _) | (with_reducible refine Kd.C_drewN ?_ _) | (with_reducible refine Kd.C_drew ?_))); (case side4 => exact (Kd.R_reads' HO353.out).2.1); rintro e w100 ⟨v359, rfl, ho0, hb⟩; refine ⟨_, rfl, ?_⟩; have n0_ := Aside0.mk (Kd.R_below (rq HO349) hb); have n1_ := Aside0.mk (Kd.R_elder' (rq HO353) (Kd.R_base ho0) hb); have n2_ := Aside0.mk (Kd.V_elder' (vq HO357) (Kd.R_base ho0) hb); have n3_ := Aside0.mk (Kd.R_lower (Kd.R_new' ho0 (Kd.R_lt (rq HO353))) (below_size (hq HB))); have n4_ := Aside0.mk (blk_below (g := gb350) (o := .cells #[.int .i64 t346, .slice Ao94 t347.length co94] 25 (0, 0)) (bq BK350) hb); have n5_ := Aside0.mk (below_step (hq HB) hb); clear HO349; clear HO353; clear HO357; clear BK350; clear HB; have HO349 := n0_; have HO353 := n1_; have HO357 := n2_; have HO360 := n3_; have BK350 := n4_; have HB := n5_; clear n0_ n1_ n2_ n3_ n4_ n5_; (try clear hb); (try clear hb2); (try clear hk); (try clear hi); (try clear ho0); obtain ⟨Ao101, co101, eo101⟩ := Kd.R_slice HO360.out; subst eo101; have hcz102_0 : w100.cell? ⟨gb350, 0, none⟩ = some (.int .i64 t346) := (blk_cell BK350.out 0).trans rfl; have hcz102_1 : w100.cell? ⟨gb350, 1, none⟩ = some (.slice Ao94 t347.length co94) := (blk_cell BK350.out 1).trans rfl; have hfz102_0 := blk_frozen BK350.out 0; have hfz102_1 := blk_frozen BK350.out 1))
  go_ret
  exact ⟨by first | rfl | (simp [errW_none, errW_some] <;> rfl) | (simp [*, errW_none, errW_some] <;> rfl), by repeat (first | (with_reducible first | exact HB.out | apply below_alloc | apply pw_below_drewN | apply below_drew1 | refine below_set ?_ GE350.out) | exact HB.out)⟩

/-- THE ONE PURE STATEMENT of intervalmonlaw29_RouteRoots: yours. -/
def intervalmonlaw29_RouteRoots.Pure : Prop := ∀ (l0 : List Int) (a1 : Int), l0.length ≤ maxLen → l0.length * 8 ≤ 140737488351232 → (∀ x ∈ l0, (Lit.int .i64 x).wf = true) → (Lit.int .i64 a1).wf = true → ∃ k, intervalmonlaw29_RouteRoots.f k l0 a1 = some true
theorem intervalmonlaw29_RouteRoots.walk (P : intervalmonlaw29_RouteRoots.Pure) (a0 : Option Addr) (len0 cap0 : Nat) (z0 : List Int) (a1 : Int) (w : World) (w0 : (a0 = none ∧ len0 = 0 ∧ cap0 = 0 ∧ z0 = []) ∨ ∃ x, a0 = some x ∧ len0 ≤ cap0 ∧ cap0 ≤ maxLen ∧ z0.length = cap0 ∧ (∀ i, i < z0.length → w.cell? (x.add i) = some (.int .i64 (z0.getD i 0))) ∧ ∀ n ∈ z0, (Lit.int .i64 n).wf = true) (y0 : len0 * 8 ≤ 140737488351232) (w1 : (Lit.int .i64 a1).wf = true) :
  Calls Try.prog 5 #[.slice a0 len0 cap0, .int .i64 a1] w fun e w' => e = .returned (.bool true) ∧ Below w.heap.size w w' := by
 obtain ⟨l0, rfl, hr0, hm0, hw0, hc0⟩ := ReadsInt.ofRowC w0
 obtain ⟨k, h⟩ := P l0 a1 hm0 y0 hw0 w1
 refine (intervalmonlaw29_RouteRoots.calls k _ _ l0 a1 true w (Kd.C_of_reads (d := (0 : Int)) (h1 := fun _ => rfl) hr0) hc0 h).mono ?_
 rintro e w' ⟨rfl, hd⟩
 exact ⟨rfl, hd⟩

end Go.Proofs.Ytcamljlhdejmmaa.P
