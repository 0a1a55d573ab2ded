-- Written by this session's own copy of a printing program (wip/tools); Lean checks it.
import Derived.Test.YtcamljlhdejmmaaPx0
import Derived.Test.YtcamljlhdejmmaaPx2
import Derived.Test.YtcamljlhdejmmaaPx4
import Derived.Test.YtcamljlhdejmmaaPx6
import Derived.Test.YtcamljlhdejmmaaPx7
import Derived.Test.YtcamljlhdejmmaaPx11
import Derived.Test.YtcamljlhdejmmaaHValid
namespace Go.Proofs.Ytcamljlhdejmmaa.P
open Go.RowKit Go.Proofs.YtcamljlhdejmmaaW.PrintWords Go.Proofs.YtcamljlhdejmmaaW.PrintLast Go.Proofs.YtcamljlhdejmmaaW.PrintMore
attribute [local go_sem] max2_int min2_int max_two min_two max_three min_three max_four min_four   -- for this text's walks alone
set_option linter.unusedVariables false
set_option linter.unusedSimpArgs false

/-! ### intervalmonlaw29_RouteValid: function 3 -/
def intervalmonlaw29_RouteValid.f (k : Nat) (l0 : List Int) (a1 : Int) (a2 : Int) (a3 : Int) : Option (Bool) := (intervalmonref29_Any.f k l0).bind fun bt254 => ((some (([(⟨a2, a3⟩ : S27)] : List (S27)) : List (S27))).bind fun y259 => ((intervalmonref01_Around.f a1 210).bind fun t263 => ((intervalmonref01_Around.f a2 210).bind fun t264 => ((intervalmonref01_Around.f a3 210).bind fun t265 => ((some (([(⟨t264, t265⟩ : S27)] : List (S27)) : List (S27))).bind fun y266 => ((intervalmonlaw29_graph.f bt254.1 bt254.2).bind fun bt270 => ((route_Valid.f k bt270.1 bt270.2).bind fun t274 => ((intervalmonref29_Valid.f k bt254.1 bt254.2).bind fun t275 => (if t274 = t275 then ((intervalmonlaw29_graph.f a1 y259).bind fun bt276 => ((route_Valid.f k bt276.1 bt276.2).bind fun t280 => ((intervalmonref29_Valid.f k a1 y259).bind fun t281 => (if t280 = t281 then ((intervalmonlaw29_graph.f t263 y266).bind fun bt282 => ((route_Valid.f k bt282.1 bt282.2).bind fun t286 => ((intervalmonref29_Valid.f k t263 y266).bind fun t287 => (if t286 = t287 then ((intervalmonlaw29_lives.f k).bind fun t288 => (some t288)) else (some false))))) else (some false))))) else (some false))))))))))
theorem intervalmonlaw29_RouteValid.mono : ∀ a0 a1 a2 a3 k, LeO (intervalmonlaw29_RouteValid.f k a0 a1 a2 a3) (intervalmonlaw29_RouteValid.f (k + 1) a0 a1 a2 a3) := by
 intro a0 a1 a2 a3 k
 unfold intervalmonlaw29_RouteValid.f
 repeat' first
   | (with_reducible exact intervalmonlaw29_lives.mono _)
   | (with_reducible exact intervalmonref29_Any.mono _ _)
   | (with_reducible exact intervalmonref29_Valid.mono _ _ _)
   | (with_reducible exact route_Valid.mono _ _ _)
   | (with_reducible exact LeO.refl _)
   | (with_reducible exact LeO.none _)
   | (with_reducible refine LeO.ite ?_ ?_)
   | (with_reducible refine LeO.bind ?_ (fun _ => ?_))
   | exact intervalmonlaw29_lives.mono _
   | exact intervalmonref29_Any.mono _ _
   | exact intervalmonref29_Valid.mono _ _ _
   | exact route_Valid.mono _ _ _
   | exact LeO.none _
   | refine LeO.ite ?_ ?_
   | refine LeO.bind ?_ (fun _ => ?_)
def intervalmonlaw29_RouteValid.T4 : Bool × List (List Nat × List Nat) := (true, [([], []), ([0], [0]), ([1, 1], [1]), ([], []), ([3, 2], [3]), ([2, 4], [2, 4]), ([5, 4], [5]), ([6], [6]), ([7, 6, 6], [6, 7]), ([8, 8, 6], [6, 8]), ([6], [6]), ([10, 9, 6], [6, 10]), ([9, 11, 6], [6, 9, 11]), ([6, 12], [6, 12]), ([13, 11], [13]), ([14], [14]), ([15, 14, 14], [14, 15]), ([16, 16, 14], [14, 16]), ([14], [14]), ([18, 17, 14], [14, 18]), ([17, 19, 14], [14, 17, 19]), ([14, 20], [14, 20]), ([21, 19], [21]), ([22, 22], [22]), ([22, 23], [22, 23]), ([24, 23, 0, 1, 2, 3, 4, 5, 6, 7, 8, 9, 10, 11, 12, 13, 14, 15, 16, 17, 18, 19, 20, 21, 22, 23, 24], [24])])
def intervalmonlaw29_RouteValid.B4 : List Nat := [0, 1, 3, 0, 15, 31, 63, 127, 255, 511, 127, 2047, 4095, 8191, 16383, 32767, 65535, 131071, 32767, 524287, 1048575, 2097151, 4194303, 8388607, 16777215, 33554431]
theorem intervalmonlaw29_RouteValid.tab4 : rtab .any (opsOf Try.f3 4) = intervalmonlaw29_RouteValid.T4 := by kernel_rfl
theorem intervalmonlaw29_RouteValid.bits4 : waitsOk intervalmonlaw29_RouteValid.T4.2 intervalmonlaw29_RouteValid.B4 = true := by kernel_rfl
set_option maxHeartbeats 8000000 in
set_option maxRecDepth 100000 in
theorem intervalmonlaw29_RouteValid.calls (k : Nat) (A0 : Option Addr) (c0 : Nat) (l0 : List Int) (a1 : Int) (a2 : Int) (a3 : Int) (r : Bool) (w : World) (hr0 : Kd.C (Kd.int .i64) w A0 l0.length l0) (hc0 : l0.length ≤ c0) (h : intervalmonlaw29_RouteValid.f k l0 a1 a2 a3 = some r) :
  Calls Try.prog 3 #[.slice A0 l0.length c0, .int .i64 a1, .int .i64 a2, .int .i64 a3] w fun e w' => e = .returned (.bool r) ∧ Below w.heap.size w w' := by
 have hu25 := Try.underlying25
 have hu27 := Try.underlying27
 have HR0 := Aside0.mk hr0
 have HC0 := Aside0.mk hc0
 clear hr0 hc0
 have HB := Aside0.mk (Below.refl w.heap.size w)
 have H : ((intervalmonref29_Any.f k l0).bind fun bt254 => ((some (([(⟨a2, a3⟩ : S27)] : List (S27)) : List (S27))).bind fun y259 => ((intervalmonref01_Around.f a1 210).bind fun t263 => ((intervalmonref01_Around.f a2 210).bind fun t264 => ((intervalmonref01_Around.f a3 210).bind fun t265 => ((some (([(⟨t264, t265⟩ : S27)] : List (S27)) : List (S27))).bind fun y266 => ((intervalmonlaw29_graph.f bt254.1 bt254.2).bind fun bt270 => ((route_Valid.f k bt270.1 bt270.2).bind fun t274 => ((intervalmonref29_Valid.f k bt254.1 bt254.2).bind fun t275 => (if t274 = t275 then ((intervalmonlaw29_graph.f a1 y259).bind fun bt276 => ((route_Valid.f k bt276.1 bt276.2).bind fun t280 => ((intervalmonref29_Valid.f k a1 y259).bind fun t281 => (if t280 = t281 then ((intervalmonlaw29_graph.f t263 y266).bind fun bt282 => ((route_Valid.f k bt282.1 bt282.2).bind fun t286 => ((intervalmonref29_Valid.f k t263 y266).bind fun t287 => (if t286 = t287 then ((intervalmonlaw29_lives.f k).bind fun t288 => (some t288)) else (some false))))) else (some false))))) else (some false))))))))))) = some r := h
 clear h
 replace H := Option.bind_eq_some_iff.mp H
 obtain ⟨⟨t254, t255⟩, A50, H⟩ := H
 replace H : ((some (([(⟨a2, a3⟩ : S27)] : List (S27)) : List (S27))).bind fun y259 => ((intervalmonref01_Around.f a1 210).bind fun t263 => ((intervalmonref01_Around.f a2 210).bind fun t264 => ((intervalmonref01_Around.f a3 210).bind fun t265 => ((some (([(⟨t264, t265⟩ : S27)] : List (S27)) : List (S27))).bind fun y266 => ((intervalmonlaw29_graph.f t254 t255).bind fun bt270 => ((route_Valid.f k bt270.1 bt270.2).bind fun t274 => ((intervalmonref29_Valid.f k t254 t255).bind fun t275 => (if t274 = t275 then ((intervalmonlaw29_graph.f a1 y259).bind fun bt276 => ((route_Valid.f k bt276.1 bt276.2).bind fun t280 => ((intervalmonref29_Valid.f k a1 y259).bind fun t281 => (if t280 = t281 then ((intervalmonlaw29_graph.f t263 y266).bind fun bt282 => ((route_Valid.f k bt282.1 bt282.2).bind fun t286 => ((intervalmonref29_Valid.f k t263 y266).bind fun t287 => (if t286 = t287 then ((intervalmonlaw29_lives.f k).bind fun t288 => (some t288)) else (some false))))) else (some false))))) else (some false)))))))))) = some r := H
 have A5 := Aside0.mk A50
 clear A50
 obtain ⟨y259, hy259⟩ : ∃ y_ : List (S27), y_ = (([(⟨a2, a3⟩ : S27)] : List (S27))) := ⟨_, rfl⟩
 replace H : ((intervalmonref01_Around.f a1 210).bind fun t263 => ((intervalmonref01_Around.f a2 210).bind fun t264 => ((intervalmonref01_Around.f a3 210).bind fun t265 => ((some (([(⟨t264, t265⟩ : S27)] : List (S27)) : List (S27))).bind fun y266 => ((intervalmonlaw29_graph.f t254 t255).bind fun bt270 => ((route_Valid.f k bt270.1 bt270.2).bind fun t274 => ((intervalmonref29_Valid.f k t254 t255).bind fun t275 => (if t274 = t275 then ((intervalmonlaw29_graph.f a1 y259).bind fun bt276 => ((route_Valid.f k bt276.1 bt276.2).bind fun t280 => ((intervalmonref29_Valid.f k a1 y259).bind fun t281 => (if t280 = t281 then ((intervalmonlaw29_graph.f t263 y266).bind fun bt282 => ((route_Valid.f k bt282.1 bt282.2).bind fun t286 => ((intervalmonref29_Valid.f k t263 y266).bind fun t287 => (if t286 = t287 then ((intervalmonlaw29_lives.f k).bind fun t288 => (some t288)) else (some false))))) else (some false))))) else (some false))))))))) = some r := by first | (rw [hy259]; with_reducible exact H) | (have H2_ := (Option.bind_some _ _).symm.trans H; rw [hy259]; with_reducible exact H2_) | (have H2_ := (Option.bind_some _ _).symm.trans H; with_reducible exact H2_) | with_reducible exact H | (rw [hy259]; exact H) | exact H
 have Ny259 := Aside0.mk hy259
 clear hy259
 replace H := Option.bind_eq_some_iff.mp H
 obtain ⟨t263, A60, H⟩ := H
 replace H : ((intervalmonref01_Around.f a2 210).bind fun t264 => ((intervalmonref01_Around.f a3 210).bind fun t265 => ((some (([(⟨t264, t265⟩ : S27)] : List (S27)) : List (S27))).bind fun y266 => ((intervalmonlaw29_graph.f t254 t255).bind fun bt270 => ((route_Valid.f k bt270.1 bt270.2).bind fun t274 => ((intervalmonref29_Valid.f k t254 t255).bind fun t275 => (if t274 = t275 then ((intervalmonlaw29_graph.f a1 y259).bind fun bt276 => ((route_Valid.f k bt276.1 bt276.2).bind fun t280 => ((intervalmonref29_Valid.f k a1 y259).bind fun t281 => (if t280 = t281 then ((intervalmonlaw29_graph.f t263 y266).bind fun bt282 => ((route_Valid.f k bt282.1 bt282.2).bind fun t286 => ((intervalmonref29_Valid.f k t263 y266).bind fun t287 => (if t286 = t287 then ((intervalmonlaw29_lives.f k).bind fun t288 => (some t288)) else (some false))))) else (some false))))) else (some false)))))))) = some r := H
 have A6 := Aside0.mk A60
 clear A60
 replace H := Option.bind_eq_some_iff.mp H
 obtain ⟨t264, A70, H⟩ := H
 replace H : ((intervalmonref01_Around.f a3 210).bind fun t265 => ((some (([(⟨t264, t265⟩ : S27)] : List (S27)) : List (S27))).bind fun y266 => ((intervalmonlaw29_graph.f t254 t255).bind fun bt270 => ((route_Valid.f k bt270.1 bt270.2).bind fun t274 => ((intervalmonref29_Valid.f k t254 t255).bind fun t275 => (if t274 = t275 then ((intervalmonlaw29_graph.f a1 y259).bind fun bt276 => ((route_Valid.f k bt276.1 bt276.2).bind fun t280 => ((intervalmonref29_Valid.f k a1 y259).bind fun t281 => (if t280 = t281 then ((intervalmonlaw29_graph.f t263 y266).bind fun bt282 => ((route_Valid.f k bt282.1 bt282.2).bind fun t286 => ((intervalmonref29_Valid.f k t263 y266).bind fun t287 => (if t286 = t287 then ((intervalmonlaw29_lives.f k).bind fun t288 => (some t288)) else (some false))))) else (some false))))) else (some false))))))) = some r := H
 have A7 := Aside0.mk A70
 clear A70
 replace H := Option.bind_eq_some_iff.mp H
 obtain ⟨t265, A80, H⟩ := H
 replace H : ((some (([(⟨t264, t265⟩ : S27)] : List (S27)) : List (S27))).bind fun y266 => ((intervalmonlaw29_graph.f t254 t255).bind fun bt270 => ((route_Valid.f k bt270.1 bt270.2).bind fun t274 => ((intervalmonref29_Valid.f k t254 t255).bind fun t275 => (if t274 = t275 then ((intervalmonlaw29_graph.f a1 y259).bind fun bt276 => ((route_Valid.f k bt276.1 bt276.2).bind fun t280 => ((intervalmonref29_Valid.f k a1 y259).bind fun t281 => (if t280 = t281 then ((intervalmonlaw29_graph.f t263 y266).bind fun bt282 => ((route_Valid.f k bt282.1 bt282.2).bind fun t286 => ((intervalmonref29_Valid.f k t263 y266).bind fun t287 => (if t286 = t287 then ((intervalmonlaw29_lives.f k).bind fun t288 => (some t288)) else (some false))))) else (some false))))) else (some false)))))) = some r := H
 have A8 := Aside0.mk A80
 clear A80
 obtain ⟨y266, hy266⟩ : ∃ y_ : List (S27), y_ = (([(⟨t264, t265⟩ : S27)] : List (S27))) := ⟨_, rfl⟩
 replace H : ((intervalmonlaw29_graph.f t254 t255).bind fun bt270 => ((route_Valid.f k bt270.1 bt270.2).bind fun t274 => ((intervalmonref29_Valid.f k t254 t255).bind fun t275 => (if t274 = t275 then ((intervalmonlaw29_graph.f a1 y259).bind fun bt276 => ((route_Valid.f k bt276.1 bt276.2).bind fun t280 => ((intervalmonref29_Valid.f k a1 y259).bind fun t281 => (if t280 = t281 then ((intervalmonlaw29_graph.f t263 y266).bind fun bt282 => ((route_Valid.f k bt282.1 bt282.2).bind fun t286 => ((intervalmonref29_Valid.f k t263 y266).bind fun t287 => (if t286 = t287 then ((intervalmonlaw29_lives.f k).bind fun t288 => (some t288)) else (some false))))) else (some false))))) else (some false))))) = some r := by first | (rw [hy266]; with_reducible exact H) | (have H2_ := (Option.bind_some _ _).symm.trans H; rw [hy266]; with_reducible exact H2_) | (have H2_ := (Option.bind_some _ _).symm.trans H; with_reducible exact H2_) | with_reducible exact H | (rw [hy266]; exact H) | exact H
 have Ny266 := Aside0.mk hy266
 clear hy266
 replace H := Option.bind_eq_some_iff.mp H
 obtain ⟨⟨t270, t271⟩, A90, H⟩ := H
 replace H : ((route_Valid.f k t270 t271).bind fun t274 => ((intervalmonref29_Valid.f k t254 t255).bind fun t275 => (if t274 = t275 then ((intervalmonlaw29_graph.f a1 y259).bind fun bt276 => ((route_Valid.f k bt276.1 bt276.2).bind fun t280 => ((intervalmonref29_Valid.f k a1 y259).bind fun t281 => (if t280 = t281 then ((intervalmonlaw29_graph.f t263 y266).bind fun bt282 => ((route_Valid.f k bt282.1 bt282.2).bind fun t286 => ((intervalmonref29_Valid.f k t263 y266).bind fun t287 => (if t286 = t287 then ((intervalmonlaw29_lives.f k).bind fun t288 => (some t288)) else (some false))))) else (some false))))) else (some false)))) = some r := H
 have A9 := Aside0.mk A90
 clear A90
 replace H := Option.bind_eq_some_iff.mp H
 obtain ⟨t274, A100, H⟩ := H
 replace H : ((intervalmonref29_Valid.f k t254 t255).bind fun t275 => (if t274 = t275 then ((intervalmonlaw29_graph.f a1 y259).bind fun bt276 => ((route_Valid.f k bt276.1 bt276.2).bind fun t280 => ((intervalmonref29_Valid.f k a1 y259).bind fun t281 => (if t280 = t281 then ((intervalmonlaw29_graph.f t263 y266).bind fun bt282 => ((route_Valid.f k bt282.1 bt282.2).bind fun t286 => ((intervalmonref29_Valid.f k t263 y266).bind fun t287 => (if t286 = t287 then ((intervalmonlaw29_lives.f k).bind fun t288 => (some t288)) else (some false))))) else (some false))))) else (some false))) = some r := H
 have A10 := Aside0.mk A100
 clear A100
 replace H := Option.bind_eq_some_iff.mp H
 obtain ⟨t275, A110, H⟩ := H
 replace H : (if t274 = t275 then ((intervalmonlaw29_graph.f a1 y259).bind fun bt276 => ((route_Valid.f k bt276.1 bt276.2).bind fun t280 => ((intervalmonref29_Valid.f k a1 y259).bind fun t281 => (if t280 = t281 then ((intervalmonlaw29_graph.f t263 y266).bind fun bt282 => ((route_Valid.f k bt282.1 bt282.2).bind fun t286 => ((intervalmonref29_Valid.f k t263 y266).bind fun t287 => (if t286 = t287 then ((intervalmonlaw29_lives.f k).bind fun t288 => (some t288)) else (some false))))) else (some false))))) else (some false)) = some r := H
 have A11 := Aside0.mk A110
 clear A110
 by_cases c12 : t274 = t275
 ·rw [if_pos c12] at H
  have c12b0 : (t274 == t275) = true := beq_iff_eq.mpr c12
  have c12b1 : (t274 != t275) = false := bne_eq_false_iff_eq.mpr c12
  clear c12
  replace H := Option.bind_eq_some_iff.mp H
  obtain ⟨⟨t276, t277⟩, A130, H⟩ := H
  replace H : ((route_Valid.f k t276 t277).bind fun t280 => ((intervalmonref29_Valid.f k a1 y259).bind fun t281 => (if t280 = t281 then ((intervalmonlaw29_graph.f t263 y266).bind fun bt282 => ((route_Valid.f k bt282.1 bt282.2).bind fun t286 => ((intervalmonref29_Valid.f k t263 y266).bind fun t287 => (if t286 = t287 then ((intervalmonlaw29_lives.f k).bind fun t288 => (some t288)) else (some false))))) else (some false)))) = some r := H
  have A13 := Aside0.mk A130
  clear A130
  replace H := Option.bind_eq_some_iff.mp H
  obtain ⟨t280, A140, H⟩ := H
  replace H : ((intervalmonref29_Valid.f k a1 y259).bind fun t281 => (if t280 = t281 then ((intervalmonlaw29_graph.f t263 y266).bind fun bt282 => ((route_Valid.f k bt282.1 bt282.2).bind fun t286 => ((intervalmonref29_Valid.f k t263 y266).bind fun t287 => (if t286 = t287 then ((intervalmonlaw29_lives.f k).bind fun t288 => (some t288)) else (some false))))) else (some false))) = some r := H
  have A14 := Aside0.mk A140
  clear A140
  replace H := Option.bind_eq_some_iff.mp H
  obtain ⟨t281, A150, H⟩ := H
  replace H : (if t280 = t281 then ((intervalmonlaw29_graph.f t263 y266).bind fun bt282 => ((route_Valid.f k bt282.1 bt282.2).bind fun t286 => ((intervalmonref29_Valid.f k t263 y266).bind fun t287 => (if t286 = t287 then ((intervalmonlaw29_lives.f k).bind fun t288 => (some t288)) else (some false))))) else (some false)) = some r := H
  have A15 := Aside0.mk A150
  clear A150
  by_cases c16 : t280 = t281
  ·rw [if_pos c16] at H
   have c16b0 : (t280 == t281) = true := beq_iff_eq.mpr c16
   have c16b1 : (t280 != t281) = false := bne_eq_false_iff_eq.mpr c16
   clear c16
   replace H := Option.bind_eq_some_iff.mp H
   obtain ⟨⟨t282, t283⟩, A170, H⟩ := H
   replace H : ((route_Valid.f k t282 t283).bind fun t286 => ((intervalmonref29_Valid.f k t263 y266).bind fun t287 => (if t286 = t287 then ((intervalmonlaw29_lives.f k).bind fun t288 => (some t288)) else (some false)))) = some r := H
   have A17 := Aside0.mk A170
   clear A170
   replace H := Option.bind_eq_some_iff.mp H
   obtain ⟨t286, A180, H⟩ := H
   replace H : ((intervalmonref29_Valid.f k t263 y266).bind fun t287 => (if t286 = t287 then ((intervalmonlaw29_lives.f k).bind fun t288 => (some t288)) else (some false))) = some r := H
   have A18 := Aside0.mk A180
   clear A180
   replace H := Option.bind_eq_some_iff.mp H
   obtain ⟨t287, A190, H⟩ := H
   replace H : (if t286 = t287 then ((intervalmonlaw29_lives.f k).bind fun t288 => (some t288)) else (some false)) = some r := H
   have A19 := Aside0.mk A190
   clear A190
   by_cases c20 : t286 = t287
   ·rw [if_pos c20] at H
    have c20b0 : (t286 == t287) = true := beq_iff_eq.mpr c20
    have c20b1 : (t286 != t287) = false := bne_eq_false_iff_eq.mpr c20
    clear c20
    replace H := Option.bind_eq_some_iff.mp H
    obtain ⟨t288, A210, H⟩ := H
    replace H : (some t288) = some r := H
    have A21 := Aside0.mk A210
    clear A210
    obtain rfl := Option.some.inj H
    go_enter Try.func3, Try.ntmps3
    try go_wp2_with (first | ((with_reducible refine gate_callee (f := 12) rfl ?_); refine goesL_ (some 13) rfl rfl Try.func12 (by kernel_rfl) rfl #[.slice A0 l0.length c0] rfl aq ?_; (with_reducible refine (intervalmonref29_Any.calls k _ _ l0 t254 t255 _ ?side1 ?side2 A5.out).mono ?_); (case side1 => repeat (first | exact HR0.out | (with_reducible refine Kd.C_alloc ?_ _) | (with_reducible refine Kd.C_drewN ?_ _) | (with_reducible refine Kd.C_drew ?_))); (case side2 => exact HC0.out); rintro e w22 ⟨v256, rfl, ho0, hb⟩; refine ⟨_, rfl, ?_⟩; have n0_ := Aside0.mk (Kd.R_lower ho0 (below_size (hq HB))); have n1_ := Aside0.mk (below_step (hq HB) hb); clear HB; have HO257 := n0_; have HB := n1_; clear n0_ n1_; (try clear hb); (try clear hb2); (try clear hk); (try clear hi); (try clear ho0)) | ((with_reducible refine gate_dst (N := 9) rfl ?_); refine box_event ?hg (N := 9) ?hd (cs := #[.int .i64 0, .slice none 0 0]) (t := 25) ?hr ?_; (case hd => rfl); (case hg => rfl); (case hr => first | (go_simp; done) | (go_simp; rfl)); intro gb258 hg w23 hbox hb; have n0_ := Aside0.mk (Kd.R_below (rq HO257) hb); have n1_ := Aside0.mk (below_step (hq HB) hb); have n2_ := Aside0.mk (hbox); have n3_ := Aside0.mk ((by rw [hg]; exact (below_size (hq HB)) : w.heap.size ≤ gb258)); have n4_ := Aside0.mk ((by rw [hg]; exact (below_size (hq HB)) : w.heap.size ≤ gb258)); clear HO257; clear HB; have HO257 := n0_; have HB := n1_; have BK258 := n2_; have GW258 := n3_; have GE258 := n4_; clear n0_ n1_ n2_ n3_ n4_; clear hb hbox hg; have hcz24_0 : w23.cell? ⟨gb258, 0, none⟩ = some (.int .i64 0) := (blk_cell BK258.out 0).trans rfl; have hcz24_1 : w23.cell? ⟨gb258, 1, none⟩ = some (.slice none 0 0) := (blk_cell BK258.out 1).trans rfl; have hfz24_0 := blk_frozen BK258.out 0; have hfz24_1 := blk_frozen BK258.out 1; obtain ⟨Ao25, co25, eo25⟩ := Kd.R_slice HO257.out; subst eo25) | ((with_reducible refine gate_dst (N := 18) rfl ?_); refine Kd.R_lit k27 _ 27 ?hg (N := 18) ?hd (xs := ([(⟨a2, a3⟩ : S27)] : List (S27))) (inner := [.int .i64 a2, .int .i64 a3]) (ok := fun _ => True) (okp := fun _ => True) ?hr ?hp (fun _ hk => hk) trivial (Below.refl _ _) (Nat.le_refl _) (by simp) ?_; (case hd => rfl); (case hg => rfl); (case hr => first | (go_simp; done) | (go_simp; rfl)); (case hp => exact (Reps.c2 (show Kd.M k27 _ _ _ (⟨a2, a3⟩ : S27) [.int .i64 a2, .int .i64 a3] from (k27_mkM _ _ _ (⟨a2, a3⟩ : S27) )) (Reps.none _ _))); intro v260 w26 ho27 hb hg_ hnew_; clear hg_ hnew_; (first | rw [← Ny259.out] at ho27 | (simp only [Int.reduceToNat] at ho27; rw [← Ny259.out] at ho27)); have n0_ := Aside0.mk (Kd.R_elder' (by (with_reducible repeat (first | apply Kd.R_alloc | apply Kd.R_drewN | apply Kd.R_drew)); exact (Kd.R_mono (Kd.R_far (p := ⟨gb258, 1, none⟩) (Kd.R_far (p := ⟨gb258, 0, none⟩) (Kd.R_types HO257.out BK258.out (by decide)) (fun _ hk => hk.2) (.int .i64 t254)) (fun _ hk => hk.2) (.slice Ao25 t255.length co25)) (fun _ h_ => h_.1))) (Kd.R_base ho27) hb); have n1_ := Aside0.mk (Kd.R_lower (Kd.R_new' ho27 (Kd.R_lt (by (with_reducible repeat (first | apply Kd.R_alloc | apply Kd.R_drewN | apply Kd.R_drew)); exact (Kd.R_mono (Kd.R_far (p := ⟨gb258, 1, none⟩) (Kd.R_far (p := ⟨gb258, 0, none⟩) (Kd.R_types HO257.out BK258.out (by decide)) (fun _ hk => hk.2) (.int .i64 t254)) (fun _ hk => hk.2) (.slice Ao25 t255.length co25)) (fun _ h_ => h_.1))))) (below_size (hq HB))); have n2_ := Aside0.mk (blk_below (g := gb258) (o := .cells #[.int .i64 t254, .slice Ao25 t255.length co25] 25 (0, 0)) (by (with_reducible repeat (first | refine blk_drewN ?_ _ | refine blk_drew ?_ | refine blk_alloc ?_ _)); refine blk_put (cs := #[.int .i64 t254, .slice none 0 0]) ?_ 1 _ rfl; (with_reducible repeat (first | refine blk_drewN ?_ _ | refine blk_drew ?_ | refine blk_alloc ?_ _)); refine blk_put (cs := #[.int .i64 0, .slice none 0 0]) ?_ 0 _ rfl; (with_reducible repeat (first | refine blk_drewN ?_ _ | refine blk_drew ?_ | refine blk_alloc ?_ _)); exact BK258.out) hb); have n3_ := Aside0.mk (below_step (hq HB) hb); clear HO257; clear BK258; clear HB; have HO257 := n0_; have HO261 := n1_; have BK258 := n2_; have HB := n3_; clear n0_ n1_ n2_ n3_; clear hb ho27; obtain ⟨Ao28, co28, eo28⟩ := Kd.R_slice HO261.out; subst eo28) | ((with_reducible refine gate_dst (N := 10) rfl ?_); refine box_event ?hg (N := 10) ?hd (cs := #[.int .i64 0, .slice none 0 0]) (t := 25) ?hr ?_; (case hd => rfl); (case hg => rfl); (case hr => first | (go_simp; done) | (go_simp; rfl)); intro gb262 hg w29 hbox hb; have n0_ := Aside0.mk (Kd.R_below (rq HO257) hb); have n1_ := Aside0.mk (Kd.R_below (rq HO261) hb); have n2_ := Aside0.mk (blk_below (g := gb258) (o := .cells #[.int .i64 t254, .slice Ao25 t255.length co25] 25 (0, 0)) (bq BK258) hb); have n3_ := Aside0.mk (below_step (hq HB) hb); have n4_ := Aside0.mk (hbox); have n5_ := Aside0.mk ((by rw [hg]; exact (below_size (hq HB)) : w.heap.size ≤ gb262)); have n6_ := Aside0.mk ((by rw [hg]; exact (below_size (hq HB)) : w.heap.size ≤ gb262)); have n7_ := Aside0.mk ((by rw [hg]; exact Nat.ne_of_lt (blk_lt (g := gb258) (o := .cells #[.int .i64 t254, .slice Ao25 t255.length co25] 25 (0, 0)) (bq BK258)) : gb258 ≠ gb262)); have n8_ := Aside0.mk ((by rw [hg]; exact Nat.ne_of_gt (blk_lt (g := gb258) (o := .cells #[.int .i64 t254, .slice Ao25 t255.length co25] 25 (0, 0)) (bq BK258)) : gb262 ≠ gb258)); clear HO257; clear HO261; clear BK258; clear HB; have HO257 := n0_; have HO261 := n1_; have BK258 := n2_; have HB := n3_; have BK262 := n4_; have GW262 := n5_; have GE262 := n6_; have NB258_262 := n7_; have NB262_258 := n8_; clear n0_ n1_ n2_ n3_ n4_ n5_ n6_ n7_ n8_; clear hb hbox hg; have hnb30 := NB262_258.out; have hnc30 := NB258_262.out; have hcz31_0 : w29.cell? ⟨gb262, 0, none⟩ = some (.int .i64 0) := (blk_cell BK262.out 0).trans rfl; have hcz31_1 : w29.cell? ⟨gb262, 1, none⟩ = some (.slice none 0 0) := (blk_cell BK262.out 1).trans rfl; have hfz31_0 := blk_frozen BK262.out 0; have hfz31_1 := blk_frozen BK262.out 1) | ((with_reducible refine gate_callee (f := 13) rfl ?_); refine goesL_ (some 21) rfl rfl Try.func13 (by kernel_rfl) rfl #[.int .i64 a1, .int .i64 210] rfl aq ?_; (with_reducible refine (intervalmonref01_Around.calls a1 210 t263 _ A6.out).mono ?_); rintro e w' ⟨rfl, ⟨nd, rfl⟩⟩; refine ⟨_, rfl, ?_⟩) | ((with_reducible refine gate_callee (f := 13) rfl ?_); refine goesL_ (some 23) rfl rfl Try.func13 (by kernel_rfl) rfl #[.int .i64 a2, .int .i64 210] rfl aq ?_; (with_reducible refine (intervalmonref01_Around.calls a2 210 t264 _ A7.out).mono ?_); rintro e w' ⟨rfl, ⟨nd, rfl⟩⟩; refine ⟨_, rfl, ?_⟩) | ((with_reducible refine gate_callee (f := 13) rfl ?_); refine goesL_ (some 25) rfl rfl Try.func13 (by kernel_rfl) rfl #[.int .i64 a3, .int .i64 210] rfl aq ?_; (with_reducible refine (intervalmonref01_Around.calls a3 210 t265 _ A8.out).mono ?_); rintro e w' ⟨rfl, ⟨nd, rfl⟩⟩; refine ⟨_, rfl, ?_⟩) | ((with_reducible refine gate_dst (N := 27) rfl ?_); refine Kd.R_lit k27 _ 27 ?hg (N := 27) ?hd (xs := ([(⟨t264, t265⟩ : S27)] : List (S27))) (inner := [.int .i64 t264, .int .i64 t265]) (ok := fun _ => True) (okp := fun _ => True) ?hr ?hp (fun _ hk => hk) trivial (Below.refl _ _) (Nat.le_refl _) (by simp) ?_; (case hd => rfl); (case hg => rfl); (case hr => first | (go_simp; done) | (go_simp; rfl)); (case hp => exact (Reps.c2 (show Kd.M k27 _ _ _ (⟨t264, t265⟩ : S27) [.int .i64 t264, .int .i64 t265] from (k27_mkM _ _ _ (⟨t264, t265⟩ : S27) )) (Reps.none _ _))); intro v267 w32 ho33 hb hg_ hnew_; clear hg_ hnew_; (first | rw [← Ny266.out] at ho33 | (simp only [Int.reduceToNat] at ho33; rw [← Ny266.out] at ho33)); have n0_ := Aside0.mk (Kd.R_elder' (by (with_reducible repeat (first | apply Kd.R_alloc | apply Kd.R_drewN | apply Kd.R_drew)); exact (Kd.R_mono (Kd.R_far (p := ⟨gb262, 1, none⟩) (Kd.R_far (p := ⟨gb262, 0, none⟩) (Kd.R_types HO257.out BK262.out (by decide)) (fun _ hk => hk.2) (.int .i64 a1)) (fun _ hk => hk.2) (.slice Ao28 y259.length co28)) (fun _ h_ => h_.1))) (Kd.R_base ho33) hb); have n1_ := Aside0.mk (Kd.R_elder' (by (with_reducible repeat (first | apply Kd.R_alloc | apply Kd.R_drewN | apply Kd.R_drew)); exact (Kd.R_mono (Kd.R_far (p := ⟨gb262, 1, none⟩) (Kd.R_far (p := ⟨gb262, 0, none⟩) (Kd.R_types HO261.out BK262.out (by decide)) (fun _ hk => hk.2) (.int .i64 a1)) (fun _ hk => hk.2) (.slice Ao28 y259.length co28)) (fun _ h_ => h_.1))) (Kd.R_base ho33) hb); have n2_ := Aside0.mk (Kd.R_lower (Kd.R_new' (Kd.R_new' ho33 (Kd.R_lt (by (with_reducible repeat (first | apply Kd.R_alloc | apply Kd.R_drewN | apply Kd.R_drew)); exact (Kd.R_mono (Kd.R_far (p := ⟨gb262, 1, none⟩) (Kd.R_far (p := ⟨gb262, 0, none⟩) (Kd.R_types HO257.out BK262.out (by decide)) (fun _ hk => hk.2) (.int .i64 a1)) (fun _ hk => hk.2) (.slice Ao28 y259.length co28)) (fun _ h_ => h_.1))))) (Kd.R_lt (by (with_reducible repeat (first | apply Kd.R_alloc | apply Kd.R_drewN | apply Kd.R_drew)); exact (Kd.R_mono (Kd.R_far (p := ⟨gb262, 1, none⟩) (Kd.R_far (p := ⟨gb262, 0, none⟩) (Kd.R_types HO261.out BK262.out (by decide)) (fun _ hk => hk.2) (.int .i64 a1)) (fun _ hk => hk.2) (.slice Ao28 y259.length co28)) (fun _ h_ => h_.1))))) (below_size (hq HB))); have n3_ := Aside0.mk (blk_below (g := gb258) (o := .cells #[.int .i64 t254, .slice Ao25 t255.length co25] 25 (0, 0)) (by (with_reducible repeat (first | refine blk_drewN ?_ _ | refine blk_drew ?_ | refine blk_alloc ?_ _)); refine blk_far ?_ NB258_262.out _; (with_reducible repeat (first | refine blk_drewN ?_ _ | refine blk_drew ?_ | refine blk_alloc ?_ _)); refine blk_far ?_ NB258_262.out _; (with_reducible repeat (first | refine blk_drewN ?_ _ | refine blk_drew ?_ | refine blk_alloc ?_ _)); exact BK258.out) hb); have n4_ := Aside0.mk (blk_below (g := gb262) (o := .cells #[.int .i64 a1, .slice Ao28 y259.length co28] 25 (0, 0)) (by (with_reducible repeat (first | refine blk_drewN ?_ _ | refine blk_drew ?_ | refine blk_alloc ?_ _)); refine blk_put (cs := #[.int .i64 a1, .slice none 0 0]) ?_ 1 _ rfl; (with_reducible repeat (first | refine blk_drewN ?_ _ | refine blk_drew ?_ | refine blk_alloc ?_ _)); refine blk_put (cs := #[.int .i64 0, .slice none 0 0]) ?_ 0 _ rfl; (with_reducible repeat (first | refine blk_drewN ?_ _ | refine blk_drew ?_ | refine blk_alloc ?_ _)); exact BK262.out) hb); have n5_ := Aside0.mk (below_step (hq HB) hb); clear HO257; clear HO261; clear BK258; clear BK262; clear HB; have HO257 := n0_; have HO261 := n1_; have HO268 := n2_; have BK258 := n3_; have BK262 := n4_; have HB := n5_; clear n0_ n1_ n2_ n3_ n4_ n5_; clear hb ho33; obtain ⟨Ao34, co34, eo34⟩ := Kd.R_slice HO268.out; subst eo34) | ((with_reducible refine gate_dst (N := 11) rfl ?_); refine box_event ?hg (N := 11) ?hd (cs := #[.int .i64 0, .slice none 0 0]) (t := 25) ?hr ?_; (case hd => rfl); (case hg => rfl); (case hr => first | (go_simp; done) | (go_simp; rfl)); intro gb269 hg w35 hbox hb; have n0_ := Aside0.mk (Kd.R_below (rq HO257) hb); have n1_ := Aside0.mk (Kd.R_below (rq HO261) hb); have n2_ := Aside0.mk (Kd.R_below (rq HO268) hb); have n3_ := Aside0.mk (blk_below (g := gb258) (o := .cells #[.int .i64 t254, .slice Ao25 t255.length co25] 25 (0, 0)) (bq BK258) hb); have n4_ := Aside0.mk (blk_below (g := gb262) (o := .cells #[.int .i64 a1, .slice Ao28 y259.length co28] 25 (0, 0)) (bq BK262) hb); have n5_ := Aside0.mk (below_step (hq HB) hb); have n6_ := Aside0.mk (hbox); have n7_ := Aside0.mk ((by rw [hg]; exact (below_size (hq HB)) : w.heap.size ≤ gb269)); have n8_ := Aside0.mk ((by rw [hg]; exact (below_size (hq HB)) : w.heap.size ≤ gb269)); have n9_ := Aside0.mk ((by rw [hg]; exact Nat.ne_of_lt (blk_lt (g := gb258) (o := .cells #[.int .i64 t254, .slice Ao25 t255.length co25] 25 (0, 0)) (bq BK258)) : gb258 ≠ gb269)); have n10_ := Aside0.mk ((by rw [hg]; exact Nat.ne_of_gt (blk_lt (g := gb258) (o := .cells #[.int .i64 t254, .slice Ao25 t255.length co25] 25 (0, 0)) (bq BK258)) : gb269 ≠ gb258)); have n11_ := Aside0.mk ((by rw [hg]; exact Nat.ne_of_lt (blk_lt (g := gb262) (o := .cells #[.int .i64 a1, .slice Ao28 y259.length co28] 25 (0, 0)) (bq BK262)) : gb262 ≠ gb269)); have n12_ := Aside0.mk ((by rw [hg]; exact Nat.ne_of_gt (blk_lt (g := gb262) (o := .cells #[.int .i64 a1, .slice Ao28 y259.length co28] 25 (0, 0)) (bq BK262)) : gb269 ≠ gb262)); clear HO257; clear HO261; clear HO268; clear BK258; clear BK262; clear HB; have HO257 := n0_; have HO261 := n1_; have HO268 := n2_; have BK258 := n3_; have BK262 := n4_; have HB := n5_; have BK269 := n6_; have GW269 := n7_; have GE269 := n8_; have NB258_269 := n9_; have NB269_258 := n10_; have NB262_269 := n11_; have NB269_262 := n12_; clear n0_ n1_ n2_ n3_ n4_ n5_ n6_ n7_ n8_ n9_ n10_ n11_ n12_; clear hb hbox hg; have hnb36 := NB269_258.out; have hnc36 := NB258_269.out; have hnb37 := NB269_262.out; have hnc37 := NB262_269.out; have hcz38_0 : w35.cell? ⟨gb269, 0, none⟩ = some (.int .i64 0) := (blk_cell BK269.out 0).trans rfl; have hcz38_1 : w35.cell? ⟨gb269, 1, none⟩ = some (.slice none 0 0) := (blk_cell BK269.out 1).trans rfl; have hfz38_0 := blk_frozen BK269.out 0; have hfz38_1 := blk_frozen BK269.out 1))
    have n0_ : Aside0 (Kd.R k27 27 ((w35.setCell ⟨gb269, 0, none⟩ (.int .i64 t263)).setCell ⟨gb269, 1, none⟩ (.slice Ao34 y266.length co34)) w.heap.size (fun k_ => some k_ ≠ (.slice Ao28 y259.length co28 : Value).ownBlock ∧ some k_ ≠ (.slice Ao34 y266.length co34 : Value).ownBlock) (.slice Ao25 t255.length co25) t255) := ⟨by (with_reducible repeat (first | apply Kd.R_alloc | apply Kd.R_drewN | apply Kd.R_drew)); exact Kd.R_mono (Kd.R_far (p := ⟨gb269, 1, none⟩) (Kd.R_far (p := ⟨gb269, 0, none⟩) (Kd.R_types HO257.out BK269.out (by decide)) (fun _ hk => hk.2) (.int .i64 t263)) (fun _ hk => hk.2) (.slice Ao34 y266.length co34)) (fun _ hk => ⟨hk.1.1.2, hk.1.2⟩)⟩
    have n1_ : Aside0 (Kd.R k27 27 ((w35.setCell ⟨gb269, 0, none⟩ (.int .i64 t263)).setCell ⟨gb269, 1, none⟩ (.slice Ao34 y266.length co34)) w.heap.size (fun k_ => some k_ ≠ (.slice Ao25 t255.length co25 : Value).ownBlock ∧ some k_ ≠ (.slice Ao34 y266.length co34 : Value).ownBlock) (.slice Ao28 y259.length co28) y259) := ⟨by (with_reducible repeat (first | apply Kd.R_alloc | apply Kd.R_drewN | apply Kd.R_drew)); exact Kd.R_mono (Kd.R_far (p := ⟨gb269, 1, none⟩) (Kd.R_far (p := ⟨gb269, 0, none⟩) (Kd.R_types HO261.out BK269.out (by decide)) (fun _ hk => hk.2) (.int .i64 t263)) (fun _ hk => hk.2) (.slice Ao34 y266.length co34)) (fun _ hk => ⟨hk.1.1.2, hk.1.2⟩)⟩
    have n2_ : Aside0 (Kd.R k27 27 ((w35.setCell ⟨gb269, 0, none⟩ (.int .i64 t263)).setCell ⟨gb269, 1, none⟩ (.slice Ao34 y266.length co34)) w.heap.size (fun k_ => some k_ ≠ (.slice Ao25 t255.length co25 : Value).ownBlock ∧ some k_ ≠ (.slice Ao28 y259.length co28 : Value).ownBlock) (.slice Ao34 y266.length co34) y266) := ⟨by (with_reducible repeat (first | apply Kd.R_alloc | apply Kd.R_drewN | apply Kd.R_drew)); exact Kd.R_mono (Kd.R_far (p := ⟨gb269, 1, none⟩) (Kd.R_far (p := ⟨gb269, 0, none⟩) (Kd.R_types HO268.out BK269.out (by decide)) (fun _ hk => hk.2) (.int .i64 t263)) (fun _ hk => hk.2) (.slice Ao34 y266.length co34)) (fun _ hk => ⟨hk.1.1.2, hk.1.2⟩)⟩
    have n3_ : Aside0 (((w35.setCell ⟨gb269, 0, none⟩ (.int .i64 t263)).setCell ⟨gb269, 1, none⟩ (.slice Ao34 y266.length co34)).heap[gb258]? = some (.cells #[.int .i64 t254, .slice Ao25 t255.length co25] 25 (0, 0))) := ⟨by (with_reducible repeat (first | refine blk_drewN ?_ _ | refine blk_drew ?_ | refine blk_alloc ?_ _)); refine blk_far ?_ NB258_269.out _; (with_reducible repeat (first | refine blk_drewN ?_ _ | refine blk_drew ?_ | refine blk_alloc ?_ _)); refine blk_far ?_ NB258_269.out _; (with_reducible repeat (first | refine blk_drewN ?_ _ | refine blk_drew ?_ | refine blk_alloc ?_ _)); exact BK258.out⟩
    have n4_ : Aside0 (((w35.setCell ⟨gb269, 0, none⟩ (.int .i64 t263)).setCell ⟨gb269, 1, none⟩ (.slice Ao34 y266.length co34)).heap[gb262]? = some (.cells #[.int .i64 a1, .slice Ao28 y259.length co28] 25 (0, 0))) := ⟨by (with_reducible repeat (first | refine blk_drewN ?_ _ | refine blk_drew ?_ | refine blk_alloc ?_ _)); refine blk_far ?_ NB262_269.out _; (with_reducible repeat (first | refine blk_drewN ?_ _ | refine blk_drew ?_ | refine blk_alloc ?_ _)); refine blk_far ?_ NB262_269.out _; (with_reducible repeat (first | refine blk_drewN ?_ _ | refine blk_drew ?_ | refine blk_alloc ?_ _)); exact BK262.out⟩
    have n5_ : Aside0 (((w35.setCell ⟨gb269, 0, none⟩ (.int .i64 t263)).setCell ⟨gb269, 1, none⟩ (.slice Ao34 y266.length co34)).heap[gb269]? = some (.cells #[.int .i64 t263, .slice Ao34 y266.length co34] 25 (0, 0))) := ⟨by (with_reducible repeat (first | refine blk_drewN ?_ _ | refine blk_drew ?_ | refine blk_alloc ?_ _)); refine blk_put (cs := #[.int .i64 t263, .slice none 0 0]) ?_ 1 _ rfl; (with_reducible repeat (first | refine blk_drewN ?_ _ | refine blk_drew ?_ | refine blk_alloc ?_ _)); refine blk_put (cs := #[.int .i64 0, .slice none 0 0]) ?_ 0 _ rfl; (with_reducible repeat (first | refine blk_drewN ?_ _ | refine blk_drew ?_ | refine blk_alloc ?_ _)); exact BK269.out⟩
    have n6_ : Aside0 (Below w.heap.size w ((w35.setCell ⟨gb269, 0, none⟩ (.int .i64 t263)).setCell ⟨gb269, 1, none⟩ (.slice Ao34 y266.length co34))) := ⟨by repeat (first | (with_reducible first | exact HB.out | apply below_alloc | apply pw_below_drewN | apply below_drew1 | refine below_set ?_ GE258.out | refine below_set ?_ GE262.out | refine below_set ?_ GE269.out) | exact HB.out)⟩
    (try clear HO257)
    (try clear HO261)
    (try clear HO268)
    (try clear BK258)
    (try clear BK262)
    (try clear BK269)
    (try clear HB)
    generalize ((w35.setCell ⟨gb269, 0, none⟩ (.int .i64 t263)).setCell ⟨gb269, 1, none⟩ (.slice Ao34 y266.length co34)) = w39 at n0_ n1_ n2_ n3_ n4_ n5_ n6_ ⊢
    have HO257 := n0_
    have HO261 := n1_
    have HO268 := n2_
    have BK258 := n3_
    have BK262 := n4_
    have BK269 := n5_
    have HB := n6_
    clear n0_ n1_ n2_ n3_ n4_ n5_ n6_
    have n0_ := Aside0.mk (Kd.R_drew HO257.out)
    have n1_ := Aside0.mk (Kd.R_drew HO261.out)
    have n2_ := Aside0.mk (Kd.R_drew HO268.out)
    have n3_ := Aside0.mk (blk_drew BK258.out)
    have n4_ := Aside0.mk (blk_drew BK262.out)
    have n5_ := Aside0.mk (blk_drew BK269.out)
    have n6_ := Aside0.mk (below_drew1 HB.out)
    clear HO257
    clear HO261
    clear HO268
    clear BK258
    clear BK262
    clear BK269
    clear HB
    have HO257 := n0_
    have HO261 := n1_
    have HO268 := n2_
    have BK258 := n3_
    have BK262 := n4_
    have BK269 := n5_
    have HB := n6_
    clear n0_ n1_ n2_ n3_ n4_ n5_ n6_
    refine start_ (n := 26) (S := fun w' => w'.cell? ⟨gb258, 0, none⟩ = some (.int .i64 t254) ∧ w'.cell? ⟨gb258, 1, none⟩ = some (.slice Ao25 t255.length co25) ∧ w'.cell? ⟨gb262, 0, none⟩ = some (.int .i64 a1) ∧ w'.cell? ⟨gb262, 1, none⟩ = some (.slice Ao28 y259.length co28) ∧ w'.cell? ⟨gb269, 0, none⟩ = some (.int .i64 t263) ∧ w'.cell? ⟨gb269, 1, none⟩ = some (.slice Ao34 y266.length co34)) (ds := []) #[false, false, false, false, false, false, false, false, false, false, false, false, false, false, false, false, false, false, false, false, false, false, false, false, false, false] (by kernel_rfl) rfl rfl ⟨(blk_cell BK258.out 0).trans rfl, (blk_cell BK258.out 1).trans rfl, (blk_cell BK262.out 0).trans rfl, (blk_cell BK262.out 1).trans rfl, (blk_cell BK269.out 0).trans rfl, (blk_cell BK269.out 1).trans rfl⟩ (fun hHeld => ?_); refine with_tabW intervalmonlaw29_RouteValid.tab4 intervalmonlaw29_RouteValid.bits4 (fun HT_ HW_ => ?_)
    generalize w39.drew = w40 at HO257 HO261 HO268 BK258 BK262 BK269 HB hHeld ⊢
    refine take_ (i := 0) (N := some 29) (v := ?_) (a' := ?_) #[true, false, false, false, false, false, false, false, false, false, false, false, false, false, false, false, false, false, false, false, false, false, false, false, false, false] rfl rfl (take_ofW HT_.out HW_.out (by kernel_rfl)) (fun _ _ _ h => h) (Or.inl ⟨by rfl, ?_⟩) hHeld ?_ ?_
    rotate_left
    ·rintro w' ⟨s0, s1, s2, s3, s4, s5⟩
     go_simp
     with_reducible rfl
    rotate_left
    ·simp only [Act.put, List.setIfInBounds_toArray, List.set_cons_zero, List.set_cons_succ, i64_w, i32_w]
     rfl
    refine take_ (i := 3) (N := some 32) (v := ?_) (a' := ?_) #[true, false, false, true, false, false, false, false, false, false, false, false, false, false, false, false, false, false, false, false, false, false, false, false, false, false] rfl rfl (take_ofW HT_.out HW_.out (by kernel_rfl)) (fun _ _ _ h => h) (Or.inl ⟨by rfl, ?_⟩) hHeld ?_ ?_
    rotate_left
    ·rintro w' ⟨s0, s1, s2, s3, s4, s5⟩
     go_simp
     with_reducible rfl
    rotate_left
    ·simp only [Act.put, List.setIfInBounds_toArray, List.set_cons_zero, List.set_cons_succ, i64_w, i32_w]
     rfl
    refine one_ (i := 1) (N := some 30) #[true, true, false, true, false, false, false, false, false, false, false, false, false, false, false, false, false, false, false, false, false, false, false, false, false, false] rfl rfl (one_of HT_.out (by kernel_rfl)) (by decide) (fun K hK => ?_)
    refine goes_ Try.func15 (by kernel_rfl) rfl #[.agg #[.int .i64 t254, .slice Ao25 t255.length co25]] (by rfl) rfl rfl aq ?_
    with_reducible refine (intervalmonlaw29_graph.calls t254 (fun k_ => some k_ = (.slice Ao25 t255.length co25 : Value).ownBlock) _ _ t255 t270 t271 _ ?side1 A9.out).mono ?_
    (case side1 => exact Kd.R_V (Kd.R_tight rfl (Kd.R_types (Kd.R_types (Kd.R_types (HO257.out) BK258.out (by decide)) BK262.out (by decide)) BK269.out (by decide))))
    rintro e w41 ⟨v272, rfl, ho0, hb⟩
    refine ⟨_, rfl, ?_⟩
    have n0_ := Aside0.mk (Kd.R_below (rq HO257) hb)
    have n1_ := Aside0.mk (Kd.R_below (rq HO261) hb)
    have n2_ := Aside0.mk (Kd.R_below (rq HO268) hb)
    have n3_ := Aside0.mk (Kd.V_lower (Kd.V_mono (ok' := fun k_ => some k_ ≠ (.slice Ao28 y259.length co28 : Value).ownBlock ∧ some k_ ≠ (.slice Ao34 y266.length co34 : Value).ownBlock ∧ k_ ≠ gb258 ∧ k_ ≠ gb262 ∧ k_ ≠ gb269) ho0 (fun k_ hk_ => ⟨Or.elim hk_ (fun hs_ => ((Kd.R_types (Kd.R_types (Kd.R_types (HO257.out) BK258.out (by decide)) BK262.out (by decide)) BK269.out (by decide)).1 k_ hs_.symm).1.1.1.1) (fun hn_ => (Kd.fresh' (Kd.R_lt (rq HO261)) k_ hn_)), Or.elim hk_ (fun hs_ => ((Kd.R_types (Kd.R_types (Kd.R_types (HO257.out) BK258.out (by decide)) BK262.out (by decide)) BK269.out (by decide)).1 k_ hs_.symm).1.1.1.2) (fun hn_ => (Kd.fresh' (Kd.R_lt (rq HO268)) k_ hn_)), Or.elim hk_ (fun hs_ => ((Kd.R_types (Kd.R_types (Kd.R_types (HO257.out) BK258.out (by decide)) BK262.out (by decide)) BK269.out (by decide)).1 k_ hs_.symm).1.1.2) (fun hn_ => (Kd.freshB (g := gb258) (o := .cells #[.int .i64 t254, .slice Ao25 t255.length co25] 25 (0, 0)) (bq BK258) k_ hn_)), Or.elim hk_ (fun hs_ => ((Kd.R_types (Kd.R_types (Kd.R_types (HO257.out) BK258.out (by decide)) BK262.out (by decide)) BK269.out (by decide)).1 k_ hs_.symm).1.2) (fun hn_ => (Kd.freshB (g := gb262) (o := .cells #[.int .i64 a1, .slice Ao28 y259.length co28] 25 (0, 0)) (bq BK262) k_ hn_)), Or.elim hk_ (fun hs_ => ((Kd.R_types (Kd.R_types (Kd.R_types (HO257.out) BK258.out (by decide)) BK262.out (by decide)) BK269.out (by decide)).1 k_ hs_.symm).2) (fun hn_ => (Kd.freshB (g := gb269) (o := .cells #[.int .i64 t263, .slice Ao34 y266.length co34] 25 (0, 0)) (bq BK269) k_ hn_))⟩)) (below_size (hq HB)))
    have n4_ := Aside0.mk (blk_below (g := gb258) (o := .cells #[.int .i64 t254, .slice Ao25 t255.length co25] 25 (0, 0)) (bq BK258) hb)
    have n5_ := Aside0.mk (blk_below (g := gb262) (o := .cells #[.int .i64 a1, .slice Ao28 y259.length co28] 25 (0, 0)) (bq BK262) hb)
    have n6_ := Aside0.mk (blk_below (g := gb269) (o := .cells #[.int .i64 t263, .slice Ao34 y266.length co34] 25 (0, 0)) (bq BK269) hb)
    have n7_ := Aside0.mk (below_step (hq HB) hb)
    clear HO257
    clear HO261
    clear HO268
    clear BK258
    clear BK262
    clear BK269
    clear HB
    have HO257 := n0_
    have HO261 := n1_
    have HO268 := n2_
    have HO273 := n3_
    have BK258 := n4_
    have BK262 := n5_
    have BK269 := n6_
    have HB := n7_
    clear n0_ n1_ n2_ n3_ n4_ n5_ n6_ n7_
    (try clear hb)
    (try clear hb2)
    (try clear hk)
    (try clear hi)
    (try clear ho0)
    obtain ⟨Ao42, co42, eo42⟩ := Kd.V_slice HO273.out
    (first | subst eo42 | (injection eo42 with f1_ f2_ f3_; have f4_ := f1_.symm; have f5_ := f3_.symm; clear f1_ f2_ f3_; subst f4_; subst f5_))
    refine hK.out _ _ ⟨(blk_cell BK258.out 0).trans rfl, (blk_cell BK258.out 1).trans rfl, (blk_cell BK262.out 0).trans rfl, (blk_cell BK262.out 1).trans rfl, (blk_cell BK269.out 0).trans rfl, (blk_cell BK269.out 1).trans rfl⟩ (fun hHeld => ?_)
    clear hK K
    refine norm_ (a' := ?_) ?_ ?_
    rotate_left
    ·show Act.put _ (some 30) _ = _
     simp only [Act.put, List.setIfInBounds_toArray, List.set_cons_zero, List.set_cons_succ, i64_w, i32_w]
     rfl
    refine one_ (i := 2) (N := some 31) #[true, true, true, true, false, false, false, false, false, false, false, false, false, false, false, false, false, false, false, false, false, false, false, false, false, false] rfl rfl (one_of HT_.out (by kernel_rfl)) (by decide) (fun K hK => ?_)
    refine goes_ Try.func14 (by kernel_rfl) rfl #[.agg #[.int .i64 t270, .slice Ao42 t271.length co42]] (by rfl) rfl rfl aq ?_
    with_reducible refine (route_Valid.calls k t270 _ _ t271 t274 _ ?side1 ?side2 A10.out).mono ?_
    (case side1 => repeat (first | exact (Kd.V_reads' HO273.out).2.2 | (with_reducible refine Kd.C_alloc ?_ _) | (with_reducible refine Kd.C_drewN ?_ _) | (with_reducible refine Kd.C_drew ?_)))
    (case side2 => exact (Kd.V_reads' HO273.out).2.1)
    rintro e w43 ⟨rfl, hb⟩
    refine ⟨_, rfl, ?_⟩
    have n0_ := Aside0.mk (Kd.R_below (rq HO257) hb)
    have n1_ := Aside0.mk (Kd.R_below (rq HO261) hb)
    have n2_ := Aside0.mk (Kd.R_below (rq HO268) hb)
    have n3_ := Aside0.mk (Kd.V_below (vq HO273) hb)
    have n4_ := Aside0.mk (blk_below (g := gb258) (o := .cells #[.int .i64 t254, .slice Ao25 t255.length co25] 25 (0, 0)) (bq BK258) hb)
    have n5_ := Aside0.mk (blk_below (g := gb262) (o := .cells #[.int .i64 a1, .slice Ao28 y259.length co28] 25 (0, 0)) (bq BK262) hb)
    have n6_ := Aside0.mk (blk_below (g := gb269) (o := .cells #[.int .i64 t263, .slice Ao34 y266.length co34] 25 (0, 0)) (bq BK269) hb)
    have n7_ := Aside0.mk (below_step (hq HB) hb)
    clear HO257
    clear HO261
    clear HO268
    clear HO273
    clear BK258
    clear BK262
    clear BK269
    clear HB
    have HO257 := n0_
    have HO261 := n1_
    have HO268 := n2_
    have HO273 := n3_
    have BK258 := n4_
    have BK262 := n5_
    have BK269 := n6_
    have HB := n7_
    clear n0_ n1_ n2_ n3_ n4_ n5_ n6_ n7_
    (try clear hb)
    (try clear hb2)
    (try clear hk)
    (try clear hi)
    refine hK.out _ _ ⟨(blk_cell BK258.out 0).trans rfl, (blk_cell BK258.out 1).trans rfl, (blk_cell BK262.out 0).trans rfl, (blk_cell BK262.out 1).trans rfl, (blk_cell BK269.out 0).trans rfl, (blk_cell BK269.out 1).trans rfl⟩ (fun hHeld => ?_)
    clear hK K
    refine norm_ (a' := ?_) ?_ ?_
    rotate_left
    ·show Act.put _ (some 31) _ = _
     simp only [Act.put, List.setIfInBounds_toArray, List.set_cons_zero, List.set_cons_succ, i64_w, i32_w]
     rfl
    refine one_ (i := 4) (N := some 33) #[true, true, true, true, true, false, false, false, false, false, false, false, false, false, false, false, false, false, false, false, false, false, false, false, false, false] rfl rfl (one_of HT_.out (by kernel_rfl)) (by decide) (fun K hK => ?_)
    refine goes_ Try.func16 (by kernel_rfl) rfl #[.agg #[.int .i64 t254, .slice Ao25 t255.length co25]] (by rfl) rfl rfl aq ?_
    with_reducible refine (intervalmonref29_Valid.calls k t254 _ _ t255 t275 _ ?side1 ?side2 A11.out).mono ?_
    (case side1 => repeat (first | exact (Kd.R_reads' HO257.out).2.2 | (with_reducible refine Kd.C_alloc ?_ _) | (with_reducible refine Kd.C_drewN ?_ _) | (with_reducible refine Kd.C_drew ?_)))
    (case side2 => exact (Kd.R_reads' HO257.out).2.1)
    rintro e w44 ⟨rfl, hb⟩
    refine ⟨_, rfl, ?_⟩
    have n0_ := Aside0.mk (Kd.R_below (rq HO257) hb)
    have n1_ := Aside0.mk (Kd.R_below (rq HO261) hb)
    have n2_ := Aside0.mk (Kd.R_below (rq HO268) hb)
    have n3_ := Aside0.mk (Kd.V_below (vq HO273) hb)
    have n4_ := Aside0.mk (blk_below (g := gb258) (o := .cells #[.int .i64 t254, .slice Ao25 t255.length co25] 25 (0, 0)) (bq BK258) hb)
    have n5_ := Aside0.mk (blk_below (g := gb262) (o := .cells #[.int .i64 a1, .slice Ao28 y259.length co28] 25 (0, 0)) (bq BK262) hb)
    have n6_ := Aside0.mk (blk_below (g := gb269) (o := .cells #[.int .i64 t263, .slice Ao34 y266.length co34] 25 (0, 0)) (bq BK269) hb)
    have n7_ := Aside0.mk (below_step (hq HB) hb)
    clear HO257
    clear HO261
    clear HO268
    clear HO273
    clear BK258
    clear BK262
    clear BK269
    clear HB
    have HO257 := n0_
    have HO261 := n1_
    have HO268 := n2_
    have HO273 := n3_
    have BK258 := n4_
    have BK262 := n5_
    have BK269 := n6_
    have HB := n7_
    clear n0_ n1_ n2_ n3_ n4_ n5_ n6_ n7_
    (try clear hb)
    (try clear hb2)
    (try clear hk)
    (try clear hi)
    refine hK.out _ _ ⟨(blk_cell BK258.out 0).trans rfl, (blk_cell BK258.out 1).trans rfl, (blk_cell BK262.out 0).trans rfl, (blk_cell BK262.out 1).trans rfl, (blk_cell BK269.out 0).trans rfl, (blk_cell BK269.out 1).trans rfl⟩ (fun hHeld => ?_)
    clear hK K
    refine norm_ (a' := ?_) ?_ ?_
    rotate_left
    ·show Act.put _ (some 33) _ = _
     simp only [Act.put, List.setIfInBounds_toArray, List.set_cons_zero, List.set_cons_succ, i64_w, i32_w]
     rfl
    refine pure_ (i := 5) (N := some 34) (v := ?_) (a' := ?_) #[true, true, true, true, true, true, false, false, false, false, false, false, false, false, false, false, false, false, false, false, false, false, false, false, false, false] rfl rfl (any_of HT_.out (by kernel_rfl)) (fun _ _ _ h => h) (Or.inl ⟨by rfl, ?_⟩) ?_ ?_
    rotate_left
    ·intro w'
     go_simp
     with_reducible rfl
    rotate_left
    ·simp only [Act.put, List.setIfInBounds_toArray, List.set_cons_zero, List.set_cons_succ, i64_w, i32_w]
     rfl
    refine pure_ (i := 6) (N := some 35) (v := ?_) (a' := ?_) #[true, true, true, true, true, true, true, false, false, false, false, false, false, false, false, false, false, false, false, false, false, false, false, false, false, false] rfl rfl (any_of HT_.out (by kernel_rfl)) (fun _ _ _ h => h) (Or.inl ⟨by rfl, ?_⟩) ?_ ?_
    rotate_left
    ·intro w'
     go_simp
     with_reducible rfl
    rotate_left
    ·simp only [Act.put, List.setIfInBounds_toArray, List.set_cons_zero, List.set_cons_succ, i64_w, i32_w]
     rfl
    refine take_ (i := 7) (N := some 36) (v := ?_) (a' := ?_) #[true, true, true, true, true, true, true, true, false, false, false, false, false, false, false, false, false, false, false, false, false, false, false, false, false, false] rfl rfl (take_ofW HT_.out HW_.out (by kernel_rfl)) (fun _ _ _ h => h) (Or.inl ⟨by rfl, ?_⟩) hHeld ?_ ?_
    rotate_left
    ·rintro w' ⟨s0, s1, s2, s3, s4, s5⟩
     go_simp
     with_reducible rfl
    rotate_left
    ·simp only [Act.put, List.setIfInBounds_toArray, List.set_cons_zero, List.set_cons_succ, i64_w, i32_w]
     rfl
    refine take_ (i := 10) (N := some 39) (v := ?_) (a' := ?_) #[true, true, true, true, true, true, true, true, false, false, true, false, false, false, false, false, false, false, false, false, false, false, false, false, false, false] rfl rfl (take_ofW HT_.out HW_.out (by kernel_rfl)) (fun _ _ _ h => h) (Or.inl ⟨by rfl, ?_⟩) hHeld ?_ ?_
    rotate_left
    ·rintro w' ⟨s0, s1, s2, s3, s4, s5⟩
     go_simp
     with_reducible rfl
    rotate_left
    ·simp only [Act.put, List.setIfInBounds_toArray, List.set_cons_zero, List.set_cons_succ, i64_w, i32_w]
     rfl
    refine one_ (i := 8) (N := some 37) #[true, true, true, true, true, true, true, true, true, false, true, false, false, false, false, false, false, false, false, false, false, false, false, false, false, false] rfl rfl (one_of HT_.out (by kernel_rfl)) (by decide) (fun K hK => ?_)
    refine goes_ Try.func15 (by kernel_rfl) rfl #[.agg #[.int .i64 a1, .slice Ao28 y259.length co28]] (by rfl) rfl rfl aq ?_
    with_reducible refine (intervalmonlaw29_graph.calls a1 (fun k_ => some k_ = (.slice Ao28 y259.length co28 : Value).ownBlock) _ _ y259 t276 t277 _ ?side1 A13.out).mono ?_
    (case side1 => exact Kd.R_V (Kd.R_tight rfl (Kd.R_types (Kd.R_types (Kd.R_types (HO261.out) BK258.out (by decide)) BK262.out (by decide)) BK269.out (by decide))))
    rintro e w45 ⟨v278, rfl, ho0, hb⟩
    refine ⟨_, rfl, ?_⟩
    have n0_ := Aside0.mk (Kd.R_below (rq HO257) hb)
    have n1_ := Aside0.mk (Kd.R_below (rq HO261) hb)
    have n2_ := Aside0.mk (Kd.R_below (rq HO268) hb)
    have n3_ := Aside0.mk (Kd.V_below (vq HO273) hb)
    have n4_ := Aside0.mk (Kd.V_lower (Kd.V_mono (ok' := fun k_ => some k_ ≠ (.slice Ao25 t255.length co25 : Value).ownBlock ∧ some k_ ≠ (.slice Ao34 y266.length co34 : Value).ownBlock ∧ k_ ≠ gb258 ∧ k_ ≠ gb262 ∧ k_ ≠ gb269) ho0 (fun k_ hk_ => ⟨Or.elim hk_ (fun hs_ => ((Kd.R_types (Kd.R_types (Kd.R_types (HO261.out) BK258.out (by decide)) BK262.out (by decide)) BK269.out (by decide)).1 k_ hs_.symm).1.1.1.1) (fun hn_ => (Kd.fresh' (Kd.R_lt (rq HO257)) k_ hn_)), Or.elim hk_ (fun hs_ => ((Kd.R_types (Kd.R_types (Kd.R_types (HO261.out) BK258.out (by decide)) BK262.out (by decide)) BK269.out (by decide)).1 k_ hs_.symm).1.1.1.2) (fun hn_ => (Kd.fresh' (Kd.R_lt (rq HO268)) k_ hn_)), Or.elim hk_ (fun hs_ => ((Kd.R_types (Kd.R_types (Kd.R_types (HO261.out) BK258.out (by decide)) BK262.out (by decide)) BK269.out (by decide)).1 k_ hs_.symm).1.1.2) (fun hn_ => (Kd.freshB (g := gb258) (o := .cells #[.int .i64 t254, .slice Ao25 t255.length co25] 25 (0, 0)) (bq BK258) k_ hn_)), Or.elim hk_ (fun hs_ => ((Kd.R_types (Kd.R_types (Kd.R_types (HO261.out) BK258.out (by decide)) BK262.out (by decide)) BK269.out (by decide)).1 k_ hs_.symm).1.2) (fun hn_ => (Kd.freshB (g := gb262) (o := .cells #[.int .i64 a1, .slice Ao28 y259.length co28] 25 (0, 0)) (bq BK262) k_ hn_)), Or.elim hk_ (fun hs_ => ((Kd.R_types (Kd.R_types (Kd.R_types (HO261.out) BK258.out (by decide)) BK262.out (by decide)) BK269.out (by decide)).1 k_ hs_.symm).2) (fun hn_ => (Kd.freshB (g := gb269) (o := .cells #[.int .i64 t263, .slice Ao34 y266.length co34] 25 (0, 0)) (bq BK269) k_ hn_))⟩)) (below_size (hq HB)))
    have n5_ := Aside0.mk (blk_below (g := gb258) (o := .cells #[.int .i64 t254, .slice Ao25 t255.length co25] 25 (0, 0)) (bq BK258) hb)
    have n6_ := Aside0.mk (blk_below (g := gb262) (o := .cells #[.int .i64 a1, .slice Ao28 y259.length co28] 25 (0, 0)) (bq BK262) hb)
    have n7_ := Aside0.mk (blk_below (g := gb269) (o := .cells #[.int .i64 t263, .slice Ao34 y266.length co34] 25 (0, 0)) (bq BK269) hb)
    have n8_ := Aside0.mk (below_step (hq HB) hb)
    clear HO257
    clear HO261
    clear HO268
    clear HO273
    clear BK258
    clear BK262
    clear BK269
    clear HB
    have HO257 := n0_
    have HO261 := n1_
    have HO268 := n2_
    have HO273 := n3_
    have HO279 := n4_
    have BK258 := n5_
    have BK262 := n6_
    have BK269 := n7_
    have HB := n8_
    clear n0_ n1_ n2_ n3_ n4_ n5_ n6_ n7_ n8_
    (try clear hb)
    (try clear hb2)
    (try clear hk)
    (try clear hi)
    (try clear ho0)
    obtain ⟨Ao46, co46, eo46⟩ := Kd.V_slice HO279.out
    (first | subst eo46 | (injection eo46 with f1_ f2_ f3_; have f4_ := f1_.symm; have f5_ := f3_.symm; clear f1_ f2_ f3_; subst f4_; subst f5_))
    refine hK.out _ _ ⟨(blk_cell BK258.out 0).trans rfl, (blk_cell BK258.out 1).trans rfl, (blk_cell BK262.out 0).trans rfl, (blk_cell BK262.out 1).trans rfl, (blk_cell BK269.out 0).trans rfl, (blk_cell BK269.out 1).trans rfl⟩ (fun hHeld => ?_)
    clear hK K
    refine norm_ (a' := ?_) ?_ ?_
    rotate_left
    ·show Act.put _ (some 37) _ = _
     simp only [Act.put, List.setIfInBounds_toArray, List.set_cons_zero, List.set_cons_succ, i64_w, i32_w]
     rfl
    refine one_ (i := 9) (N := some 38) #[true, true, true, true, true, true, true, true, true, true, true, false, false, false, false, false, false, false, false, false, false, false, false, false, false, false] rfl rfl (one_of HT_.out (by kernel_rfl)) (by decide) (fun K hK => ?_)
    refine goes_ Try.func14 (by kernel_rfl) rfl #[.agg #[.int .i64 t276, .slice Ao46 t277.length co46]] (by rfl) rfl rfl aq ?_
    with_reducible refine (route_Valid.calls k t276 _ _ t277 t280 _ ?side1 ?side2 A14.out).mono ?_
    (case side1 => repeat (first | exact (Kd.V_reads' HO279.out).2.2 | (with_reducible refine Kd.C_alloc ?_ _) | (with_reducible refine Kd.C_drewN ?_ _) | (with_reducible refine Kd.C_drew ?_)))
    (case side2 => exact (Kd.V_reads' HO279.out).2.1)
    rintro e w47 ⟨rfl, hb⟩
    refine ⟨_, rfl, ?_⟩
    have n0_ := Aside0.mk (Kd.R_below (rq HO257) hb)
    have n1_ := Aside0.mk (Kd.R_below (rq HO261) hb)
    have n2_ := Aside0.mk (Kd.R_below (rq HO268) hb)
    have n3_ := Aside0.mk (Kd.V_below (vq HO273) hb)
    have n4_ := Aside0.mk (Kd.V_below (vq HO279) hb)
    have n5_ := Aside0.mk (blk_below (g := gb258) (o := .cells #[.int .i64 t254, .slice Ao25 t255.length co25] 25 (0, 0)) (bq BK258) hb)
    have n6_ := Aside0.mk (blk_below (g := gb262) (o := .cells #[.int .i64 a1, .slice Ao28 y259.length co28] 25 (0, 0)) (bq BK262) hb)
    have n7_ := Aside0.mk (blk_below (g := gb269) (o := .cells #[.int .i64 t263, .slice Ao34 y266.length co34] 25 (0, 0)) (bq BK269) hb)
    have n8_ := Aside0.mk (below_step (hq HB) hb)
    clear HO257
    clear HO261
    clear HO268
    clear HO273
    clear HO279
    clear BK258
    clear BK262
    clear BK269
    clear HB
    have HO257 := n0_
    have HO261 := n1_
    have HO268 := n2_
    have HO273 := n3_
    have HO279 := n4_
    have BK258 := n5_
    have BK262 := n6_
    have BK269 := n7_
    have HB := n8_
    clear n0_ n1_ n2_ n3_ n4_ n5_ n6_ n7_ n8_
    (try clear hb)
    (try clear hb2)
    (try clear hk)
    (try clear hi)
    refine hK.out _ _ ⟨(blk_cell BK258.out 0).trans rfl, (blk_cell BK258.out 1).trans rfl, (blk_cell BK262.out 0).trans rfl, (blk_cell BK262.out 1).trans rfl, (blk_cell BK269.out 0).trans rfl, (blk_cell BK269.out 1).trans rfl⟩ (fun hHeld => ?_)
    clear hK K
    refine norm_ (a' := ?_) ?_ ?_
    rotate_left
    ·show Act.put _ (some 38) _ = _
     simp only [Act.put, List.setIfInBounds_toArray, List.set_cons_zero, List.set_cons_succ, i64_w, i32_w]
     rfl
    refine one_ (i := 11) (N := some 40) #[true, true, true, true, true, true, true, true, true, true, true, true, false, false, false, false, false, false, false, false, false, false, false, false, false, false] rfl rfl (one_of HT_.out (by kernel_rfl)) (by decide) (fun K hK => ?_)
    refine goes_ Try.func16 (by kernel_rfl) rfl #[.agg #[.int .i64 a1, .slice Ao28 y259.length co28]] (by rfl) rfl rfl aq ?_
    with_reducible refine (intervalmonref29_Valid.calls k a1 _ _ y259 t281 _ ?side1 ?side2 A15.out).mono ?_
    (case side1 => repeat (first | exact (Kd.R_reads' HO261.out).2.2 | (with_reducible refine Kd.C_alloc ?_ _) | (with_reducible refine Kd.C_drewN ?_ _) | (with_reducible refine Kd.C_drew ?_)))
    (case side2 => exact (Kd.R_reads' HO261.out).2.1)
    rintro e w48 ⟨rfl, hb⟩
    refine ⟨_, rfl, ?_⟩
    have n0_ := Aside0.mk (Kd.R_below (rq HO257) hb)
    have n1_ := Aside0.mk (Kd.R_below (rq HO261) hb)
    have n2_ := Aside0.mk (Kd.R_below (rq HO268) hb)
    have n3_ := Aside0.mk (Kd.V_below (vq HO273) hb)
    have n4_ := Aside0.mk (Kd.V_below (vq HO279) hb)
    have n5_ := Aside0.mk (blk_below (g := gb258) (o := .cells #[.int .i64 t254, .slice Ao25 t255.length co25] 25 (0, 0)) (bq BK258) hb)
    have n6_ := Aside0.mk (blk_below (g := gb262) (o := .cells #[.int .i64 a1, .slice Ao28 y259.length co28] 25 (0, 0)) (bq BK262) hb)
    have n7_ := Aside0.mk (blk_below (g := gb269) (o := .cells #[.int .i64 t263, .slice Ao34 y266.length co34] 25 (0, 0)) (bq BK269) hb)
    have n8_ := Aside0.mk (below_step (hq HB) hb)
    clear HO257
    clear HO261
    clear HO268
    clear HO273
    clear HO279
    clear BK258
    clear BK262
    clear BK269
    clear HB
    have HO257 := n0_
    have HO261 := n1_
    have HO268 := n2_
    have HO273 := n3_
    have HO279 := n4_
    have BK258 := n5_
    have BK262 := n6_
    have BK269 := n7_
    have HB := n8_
    clear n0_ n1_ n2_ n3_ n4_ n5_ n6_ n7_ n8_
    (try clear hb)
    (try clear hb2)
    (try clear hk)
    (try clear hi)
    refine hK.out _ _ ⟨(blk_cell BK258.out 0).trans rfl, (blk_cell BK258.out 1).trans rfl, (blk_cell BK262.out 0).trans rfl, (blk_cell BK262.out 1).trans rfl, (blk_cell BK269.out 0).trans rfl, (blk_cell BK269.out 1).trans rfl⟩ (fun hHeld => ?_)
    clear hK K
    refine norm_ (a' := ?_) ?_ ?_
    rotate_left
    ·show Act.put _ (some 40) _ = _
     simp only [Act.put, List.setIfInBounds_toArray, List.set_cons_zero, List.set_cons_succ, i64_w, i32_w]
     rfl
    refine pure_ (i := 12) (N := some 41) (v := ?_) (a' := ?_) #[true, true, true, true, true, true, true, true, true, true, true, true, true, false, false, false, false, false, false, false, false, false, false, false, false, false] rfl rfl (any_of HT_.out (by kernel_rfl)) (fun _ _ _ h => h) (Or.inl ⟨by rfl, ?_⟩) ?_ ?_
    rotate_left
    ·intro w'
     go_simp
     with_reducible rfl
    rotate_left
    ·simp only [Act.put, List.setIfInBounds_toArray, List.set_cons_zero, List.set_cons_succ, i64_w, i32_w]
     rfl
    refine pure_ (i := 13) (N := some 42) (v := ?_) (a' := ?_) #[true, true, true, true, true, true, true, true, true, true, true, true, true, true, false, false, false, false, false, false, false, false, false, false, false, false] rfl rfl (any_of HT_.out (by kernel_rfl)) (fun _ _ _ h => h) (Or.inl ⟨by rfl, ?_⟩) ?_ ?_
    rotate_left
    ·intro w'
     go_simp
     with_reducible rfl
    rotate_left
    ·simp only [Act.put, List.setIfInBounds_toArray, List.set_cons_zero, List.set_cons_succ, i64_w, i32_w]
     rfl
    refine pure_ (i := 14) (N := some 43) (v := ?_) (a' := ?_) #[true, true, true, true, true, true, true, true, true, true, true, true, true, true, true, false, false, false, false, false, false, false, false, false, false, false] rfl rfl (any_of HT_.out (by kernel_rfl)) (fun _ _ _ h => h) (Or.inl ⟨by rfl, ?_⟩) ?_ ?_
    rotate_left
    ·intro w'
     go_simp
     with_reducible rfl
    rotate_left
    ·simp only [Act.put, List.setIfInBounds_toArray, List.set_cons_zero, List.set_cons_succ, i64_w, i32_w]
     rfl
    refine take_ (i := 15) (N := some 44) (v := ?_) (a' := ?_) #[true, true, true, true, true, true, true, true, true, true, true, true, true, true, true, true, false, false, false, false, false, false, false, false, false, false] rfl rfl (take_ofW HT_.out HW_.out (by kernel_rfl)) (fun _ _ _ h => h) (Or.inl ⟨by rfl, ?_⟩) hHeld ?_ ?_
    rotate_left
    ·rintro w' ⟨s0, s1, s2, s3, s4, s5⟩
     go_simp
     with_reducible rfl
    rotate_left
    ·simp only [Act.put, List.setIfInBounds_toArray, List.set_cons_zero, List.set_cons_succ, i64_w, i32_w]
     rfl
    refine take_ (i := 18) (N := some 47) (v := ?_) (a' := ?_) #[true, true, true, true, true, true, true, true, true, true, true, true, true, true, true, true, false, false, true, false, false, false, false, false, false, false] rfl rfl (take_ofW HT_.out HW_.out (by kernel_rfl)) (fun _ _ _ h => h) (Or.inl ⟨by rfl, ?_⟩) hHeld ?_ ?_
    rotate_left
    ·rintro w' ⟨s0, s1, s2, s3, s4, s5⟩
     go_simp
     with_reducible rfl
    rotate_left
    ·simp only [Act.put, List.setIfInBounds_toArray, List.set_cons_zero, List.set_cons_succ, i64_w, i32_w]
     rfl
    refine one_ (i := 16) (N := some 45) #[true, true, true, true, true, true, true, true, true, true, true, true, true, true, true, true, true, false, true, false, false, false, false, false, false, false] rfl rfl (one_of HT_.out (by kernel_rfl)) (by decide) (fun K hK => ?_)
    refine goes_ Try.func15 (by kernel_rfl) rfl #[.agg #[.int .i64 t263, .slice Ao34 y266.length co34]] (by rfl) rfl rfl aq ?_
    with_reducible refine (intervalmonlaw29_graph.calls t263 (fun k_ => some k_ = (.slice Ao34 y266.length co34 : Value).ownBlock) _ _ y266 t282 t283 _ ?side1 A17.out).mono ?_
    (case side1 => exact Kd.R_V (Kd.R_tight rfl (Kd.R_types (Kd.R_types (Kd.R_types (HO268.out) BK258.out (by decide)) BK262.out (by decide)) BK269.out (by decide))))
    rintro e w49 ⟨v284, rfl, ho0, hb⟩
    refine ⟨_, rfl, ?_⟩
    have n0_ := Aside0.mk (Kd.R_below (rq HO257) hb)
    have n1_ := Aside0.mk (Kd.R_below (rq HO261) hb)
    have n2_ := Aside0.mk (Kd.R_below (rq HO268) hb)
    have n3_ := Aside0.mk (Kd.V_below (vq HO273) hb)
    have n4_ := Aside0.mk (Kd.V_below (vq HO279) hb)
    have n5_ := Aside0.mk (Kd.V_lower (Kd.V_mono (ok' := fun k_ => some k_ ≠ (.slice Ao25 t255.length co25 : Value).ownBlock ∧ some k_ ≠ (.slice Ao28 y259.length co28 : Value).ownBlock ∧ k_ ≠ gb258 ∧ k_ ≠ gb262 ∧ k_ ≠ gb269) ho0 (fun k_ hk_ => ⟨Or.elim hk_ (fun hs_ => ((Kd.R_types (Kd.R_types (Kd.R_types (HO268.out) BK258.out (by decide)) BK262.out (by decide)) BK269.out (by decide)).1 k_ hs_.symm).1.1.1.1) (fun hn_ => (Kd.fresh' (Kd.R_lt (rq HO257)) k_ hn_)), Or.elim hk_ (fun hs_ => ((Kd.R_types (Kd.R_types (Kd.R_types (HO268.out) BK258.out (by decide)) BK262.out (by decide)) BK269.out (by decide)).1 k_ hs_.symm).1.1.1.2) (fun hn_ => (Kd.fresh' (Kd.R_lt (rq HO261)) k_ hn_)), Or.elim hk_ (fun hs_ => ((Kd.R_types (Kd.R_types (Kd.R_types (HO268.out) BK258.out (by decide)) BK262.out (by decide)) BK269.out (by decide)).1 k_ hs_.symm).1.1.2) (fun hn_ => (Kd.freshB (g := gb258) (o := .cells #[.int .i64 t254, .slice Ao25 t255.length co25] 25 (0, 0)) (bq BK258) k_ hn_)), Or.elim hk_ (fun hs_ => ((Kd.R_types (Kd.R_types (Kd.R_types (HO268.out) BK258.out (by decide)) BK262.out (by decide)) BK269.out (by decide)).1 k_ hs_.symm).1.2) (fun hn_ => (Kd.freshB (g := gb262) (o := .cells #[.int .i64 a1, .slice Ao28 y259.length co28] 25 (0, 0)) (bq BK262) k_ hn_)), Or.elim hk_ (fun hs_ => ((Kd.R_types (Kd.R_types (Kd.R_types (HO268.out) BK258.out (by decide)) BK262.out (by decide)) BK269.out (by decide)).1 k_ hs_.symm).2) (fun hn_ => (Kd.freshB (g := gb269) (o := .cells #[.int .i64 t263, .slice Ao34 y266.length co34] 25 (0, 0)) (bq BK269) k_ hn_))⟩)) (below_size (hq HB)))
    have n6_ := Aside0.mk (blk_below (g := gb258) (o := .cells #[.int .i64 t254, .slice Ao25 t255.length co25] 25 (0, 0)) (bq BK258) hb)
    have n7_ := Aside0.mk (blk_below (g := gb262) (o := .cells #[.int .i64 a1, .slice Ao28 y259.length co28] 25 (0, 0)) (bq BK262) hb)
    have n8_ := Aside0.mk (blk_below (g := gb269) (o := .cells #[.int .i64 t263, .slice Ao34 y266.length co34] 25 (0, 0)) (bq BK269) hb)
    have n9_ := Aside0.mk (below_step (hq HB) hb)
    clear HO257
    clear HO261
    clear HO268
    clear HO273
    clear HO279
    clear BK258
    clear BK262
    clear BK269
    clear HB
    have HO257 := n0_
    have HO261 := n1_
    have HO268 := n2_
    have HO273 := n3_
    have HO279 := n4_
    have HO285 := n5_
    have BK258 := n6_
    have BK262 := n7_
    have BK269 := n8_
    have HB := n9_
    clear n0_ n1_ n2_ n3_ n4_ n5_ n6_ n7_ n8_ n9_
    (try clear hb)
    (try clear hb2)
    (try clear hk)
    (try clear hi)
    (try clear ho0)
    obtain ⟨Ao50, co50, eo50⟩ := Kd.V_slice HO285.out
    (first | subst eo50 | (injection eo50 with f1_ f2_ f3_; have f4_ := f1_.symm; have f5_ := f3_.symm; clear f1_ f2_ f3_; subst f4_; subst f5_))
    refine hK.out _ _ ⟨(blk_cell BK258.out 0).trans rfl, (blk_cell BK258.out 1).trans rfl, (blk_cell BK262.out 0).trans rfl, (blk_cell BK262.out 1).trans rfl, (blk_cell BK269.out 0).trans rfl, (blk_cell BK269.out 1).trans rfl⟩ (fun hHeld => ?_)
    clear hK K
    refine norm_ (a' := ?_) ?_ ?_
    rotate_left
    ·show Act.put _ (some 45) _ = _
     simp only [Act.put, List.setIfInBounds_toArray, List.set_cons_zero, List.set_cons_succ, i64_w, i32_w]
     rfl
    refine one_ (i := 17) (N := some 46) #[true, true, true, true, true, true, true, true, true, true, true, true, true, true, true, true, true, true, true, false, false, false, false, false, false, false] rfl rfl (one_of HT_.out (by kernel_rfl)) (by decide) (fun K hK => ?_)
    refine goes_ Try.func14 (by kernel_rfl) rfl #[.agg #[.int .i64 t282, .slice Ao50 t283.length co50]] (by rfl) rfl rfl aq ?_
    with_reducible refine (route_Valid.calls k t282 _ _ t283 t286 _ ?side1 ?side2 A18.out).mono ?_
    (case side1 => repeat (first | exact (Kd.V_reads' HO285.out).2.2 | (with_reducible refine Kd.C_alloc ?_ _) | (with_reducible refine Kd.C_drewN ?_ _) | (with_reducible refine Kd.C_drew ?_)))
    (case side2 => exact (Kd.V_reads' HO285.out).2.1)
    rintro e w51 ⟨rfl, hb⟩
    refine ⟨_, rfl, ?_⟩
    have n0_ := Aside0.mk (Kd.R_below (rq HO257) hb)
    have n1_ := Aside0.mk (Kd.R_below (rq HO261) hb)
    have n2_ := Aside0.mk (Kd.R_below (rq HO268) hb)
    have n3_ := Aside0.mk (Kd.V_below (vq HO273) hb)
    have n4_ := Aside0.mk (Kd.V_below (vq HO279) hb)
    have n5_ := Aside0.mk (Kd.V_below (vq HO285) hb)
    have n6_ := Aside0.mk (blk_below (g := gb258) (o := .cells #[.int .i64 t254, .slice Ao25 t255.length co25] 25 (0, 0)) (bq BK258) hb)
    have n7_ := Aside0.mk (blk_below (g := gb262) (o := .cells #[.int .i64 a1, .slice Ao28 y259.length co28] 25 (0, 0)) (bq BK262) hb)
    have n8_ := Aside0.mk (blk_below (g := gb269) (o := .cells #[.int .i64 t263, .slice Ao34 y266.length co34] 25 (0, 0)) (bq BK269) hb)
    have n9_ := Aside0.mk (below_step (hq HB) hb)
    clear HO257
    clear HO261
    clear HO268
    clear HO273
    clear HO279
    clear HO285
    clear BK258
    clear BK262
    clear BK269
    clear HB
    have HO257 := n0_
    have HO261 := n1_
    have HO268 := n2_
    have HO273 := n3_
    have HO279 := n4_
    have HO285 := n5_
    have BK258 := n6_
    have BK262 := n7_
    have BK269 := n8_
    have HB := n9_
    clear n0_ n1_ n2_ n3_ n4_ n5_ n6_ n7_ n8_ n9_
    (try clear hb)
    (try clear hb2)
    (try clear hk)
    (try clear hi)
    refine hK.out _ _ ⟨(blk_cell BK258.out 0).trans rfl, (blk_cell BK258.out 1).trans rfl, (blk_cell BK262.out 0).trans rfl, (blk_cell BK262.out 1).trans rfl, (blk_cell BK269.out 0).trans rfl, (blk_cell BK269.out 1).trans rfl⟩ (fun hHeld => ?_)
    clear hK K
    refine norm_ (a' := ?_) ?_ ?_
    rotate_left
    ·show Act.put _ (some 46) _ = _
     simp only [Act.put, List.setIfInBounds_toArray, List.set_cons_zero, List.set_cons_succ, i64_w, i32_w]
     rfl
    refine one_ (i := 19) (N := some 48) #[true, true, true, true, true, true, true, true, true, true, true, true, true, true, true, true, true, true, true, true, false, false, false, false, false, false] rfl rfl (one_of HT_.out (by kernel_rfl)) (by decide) (fun K hK => ?_)
    refine goes_ Try.func16 (by kernel_rfl) rfl #[.agg #[.int .i64 t263, .slice Ao34 y266.length co34]] (by rfl) rfl rfl aq ?_
    with_reducible refine (intervalmonref29_Valid.calls k t263 _ _ y266 t287 _ ?side1 ?side2 A19.out).mono ?_
    (case side1 => repeat (first | exact (Kd.R_reads' HO268.out).2.2 | (with_reducible refine Kd.C_alloc ?_ _) | (with_reducible refine Kd.C_drewN ?_ _) | (with_reducible refine Kd.C_drew ?_)))
    (case side2 => exact (Kd.R_reads' HO268.out).2.1)
    rintro e w52 ⟨rfl, hb⟩
    refine ⟨_, rfl, ?_⟩
    have n0_ := Aside0.mk (Kd.R_below (rq HO257) hb)
    have n1_ := Aside0.mk (Kd.R_below (rq HO261) hb)
    have n2_ := Aside0.mk (Kd.R_below (rq HO268) hb)
    have n3_ := Aside0.mk (Kd.V_below (vq HO273) hb)
    have n4_ := Aside0.mk (Kd.V_below (vq HO279) hb)
    have n5_ := Aside0.mk (Kd.V_below (vq HO285) hb)
    have n6_ := Aside0.mk (blk_below (g := gb258) (o := .cells #[.int .i64 t254, .slice Ao25 t255.length co25] 25 (0, 0)) (bq BK258) hb)
    have n7_ := Aside0.mk (blk_below (g := gb262) (o := .cells #[.int .i64 a1, .slice Ao28 y259.length co28] 25 (0, 0)) (bq BK262) hb)
    have n8_ := Aside0.mk (blk_below (g := gb269) (o := .cells #[.int .i64 t263, .slice Ao34 y266.length co34] 25 (0, 0)) (bq BK269) hb)
    have n9_ := Aside0.mk (below_step (hq HB) hb)
    clear HO257
    clear HO261
    clear HO268
    clear HO273
    clear HO279
    clear HO285
    clear BK258
    clear BK262
    clear BK269
    clear HB
    have HO257 := n0_
    have HO261 := n1_
    have HO268 := n2_
    have HO273 := n3_
    have HO279 := n4_
    have HO285 := n5_
    have BK258 := n6_
    have BK262 := n7_
    have BK269 := n8_
    have HB := n9_
    clear n0_ n1_ n2_ n3_ n4_ n5_ n6_ n7_ n8_ n9_
    (try clear hb)
    (try clear hb2)
    (try clear hk)
    (try clear hi)
    refine hK.out _ _ ⟨(blk_cell BK258.out 0).trans rfl, (blk_cell BK258.out 1).trans rfl, (blk_cell BK262.out 0).trans rfl, (blk_cell BK262.out 1).trans rfl, (blk_cell BK269.out 0).trans rfl, (blk_cell BK269.out 1).trans rfl⟩ (fun hHeld => ?_)
    clear hK K
    refine norm_ (a' := ?_) ?_ ?_
    rotate_left
    ·show Act.put _ (some 48) _ = _
     simp only [Act.put, List.setIfInBounds_toArray, List.set_cons_zero, List.set_cons_succ, i64_w, i32_w]
     rfl
    refine pure_ (i := 20) (N := some 49) (v := ?_) (a' := ?_) #[true, true, true, true, true, true, true, true, true, true, true, true, true, true, true, true, true, true, true, true, true, false, false, false, false, false] rfl rfl (any_of HT_.out (by kernel_rfl)) (fun _ _ _ h => h) (Or.inl ⟨by rfl, ?_⟩) ?_ ?_
    rotate_left
    ·intro w'
     go_simp
     with_reducible rfl
    rotate_left
    ·simp only [Act.put, List.setIfInBounds_toArray, List.set_cons_zero, List.set_cons_succ, i64_w, i32_w]
     rfl
    refine pure_ (i := 21) (N := some 50) (v := ?_) (a' := ?_) #[true, true, true, true, true, true, true, true, true, true, true, true, true, true, true, true, true, true, true, true, true, true, false, false, false, false] rfl rfl (any_of HT_.out (by kernel_rfl)) (fun _ _ _ h => h) (Or.inl ⟨by rfl, ?_⟩) ?_ ?_
    rotate_left
    ·intro w'
     go_simp
     with_reducible rfl
    rotate_left
    ·simp only [Act.put, List.setIfInBounds_toArray, List.set_cons_zero, List.set_cons_succ, i64_w, i32_w]
     rfl
    refine pure_ (i := 22) (N := some 51) (v := ?_) (a' := ?_) #[true, true, true, true, true, true, true, true, true, true, true, true, true, true, true, true, true, true, true, true, true, true, true, false, false, false] rfl rfl (any_of HT_.out (by kernel_rfl)) (fun _ _ _ h => h) (Or.inl ⟨by rfl, ?_⟩) ?_ ?_
    rotate_left
    ·intro w'
     go_simp
     with_reducible rfl
    rotate_left
    ·simp only [Act.put, List.setIfInBounds_toArray, List.set_cons_zero, List.set_cons_succ, i64_w, i32_w]
     rfl
    refine one_ (i := 23) (N := some 52) #[true, true, true, true, true, true, true, true, true, true, true, true, true, true, true, true, true, true, true, true, true, true, true, true, false, false] rfl rfl (one_of HT_.out (by kernel_rfl)) (by decide) (fun K hK => ?_)
    refine goes_ Try.func17 (by kernel_rfl) rfl #[] (by rfl) rfl rfl aq ?_
    with_reducible refine (intervalmonlaw29_lives.calls k  t288 _ A21.out).mono ?_
    rintro e w53 ⟨rfl, hb⟩
    refine ⟨_, rfl, ?_⟩
    have n0_ := Aside0.mk (Kd.R_below (rq HO257) hb)
    have n1_ := Aside0.mk (Kd.R_below (rq HO261) hb)
    have n2_ := Aside0.mk (Kd.R_below (rq HO268) hb)
    have n3_ := Aside0.mk (Kd.V_below (vq HO273) hb)
    have n4_ := Aside0.mk (Kd.V_below (vq HO279) hb)
    have n5_ := Aside0.mk (Kd.V_below (vq HO285) hb)
    have n6_ := Aside0.mk (blk_below (g := gb258) (o := .cells #[.int .i64 t254, .slice Ao25 t255.length co25] 25 (0, 0)) (bq BK258) hb)
    have n7_ := Aside0.mk (blk_below (g := gb262) (o := .cells #[.int .i64 a1, .slice Ao28 y259.length co28] 25 (0, 0)) (bq BK262) hb)
    have n8_ := Aside0.mk (blk_below (g := gb269) (o := .cells #[.int .i64 t263, .slice Ao34 y266.length co34] 25 (0, 0)) (bq BK269) hb)
    have n9_ := Aside0.mk (below_step (hq HB) hb)
    clear HO257
    clear HO261
    clear HO268
    clear HO273
    clear HO279
    clear HO285
    clear BK258
    clear BK262
    clear BK269
    clear HB
    have HO257 := n0_
    have HO261 := n1_
    have HO268 := n2_
    have HO273 := n3_
    have HO279 := n4_
    have HO285 := n5_
    have BK258 := n6_
    have BK262 := n7_
    have BK269 := n8_
    have HB := n9_
    clear n0_ n1_ n2_ n3_ n4_ n5_ n6_ n7_ n8_ n9_
    (try clear hb)
    (try clear hb2)
    (try clear hk)
    (try clear hi)
    refine hK.out _ _ ⟨(blk_cell BK258.out 0).trans rfl, (blk_cell BK258.out 1).trans rfl, (blk_cell BK262.out 0).trans rfl, (blk_cell BK262.out 1).trans rfl, (blk_cell BK269.out 0).trans rfl, (blk_cell BK269.out 1).trans rfl⟩ (fun hHeld => ?_)
    clear hK K
    refine norm_ (a' := ?_) ?_ ?_
    rotate_left
    ·show Act.put _ (some 52) _ = _
     simp only [Act.put, List.setIfInBounds_toArray, List.set_cons_zero, List.set_cons_succ, i64_w, i32_w]
     rfl
    refine pure_ (i := 24) (N := some 53) (v := ?_) (a' := ?_) #[true, true, true, true, true, true, true, true, true, true, true, true, true, true, true, true, true, true, true, true, true, true, true, true, true, false] rfl rfl (any_of HT_.out (by kernel_rfl)) (fun _ _ _ h => h) (Or.inl ⟨by rfl, ?_⟩) ?_ ?_
    rotate_left
    ·intro w'
     go_simp
     with_reducible rfl
    rotate_left
    ·simp only [Act.put, List.setIfInBounds_toArray, List.set_cons_zero, List.set_cons_succ, i64_w, i32_w]
     rfl
    refine pure_ (i := 25) (N := some 8) (v := ?_) (a' := ?_) #[true, true, true, true, true, true, true, true, true, true, true, true, true, true, true, true, true, true, true, true, true, true, true, true, true, true] rfl rfl (any_of HT_.out (by kernel_rfl)) (fun _ _ _ h => h) (Or.inl ⟨by rfl, ?_⟩) ?_ ?_
    rotate_left
    ·intro w'
     go_simp
     with_reducible rfl
    rotate_left
    ·simp only [Act.put, List.setIfInBounds_toArray, List.set_cons_zero, List.set_cons_succ, i64_w, i32_w]
     rfl
    refine done_ (done_of HT_.out (by kernel_rfl)) ?_
    try go_wp2
    go_ret
    exact ⟨by first | rfl | (simp [errW_none, errW_some] <;> rfl) | (simp [*, errW_none, errW_some] <;> rfl), by repeat (first | (with_reducible first | exact HB.out | apply below_alloc | apply pw_below_drewN | apply below_drew1 | refine below_set ?_ GE258.out | refine below_set ?_ GE262.out | refine below_set ?_ GE269.out) | exact HB.out)⟩
   ·rw [if_neg c20] at H
    have c20b0 : (t286 == t287) = false := beq_eq_false_iff_ne.mpr c20
    have c20b1 : (t286 != t287) = true := bne_iff_ne.mpr c20
    obtain rfl := Option.some.inj H
    go_enter Try.func3, Try.ntmps3
    try go_wp2_with (first | ((with_reducible refine gate_callee (f := 12) rfl ?_); refine goesL_ (some 13) rfl rfl Try.func12 (by kernel_rfl) rfl #[.slice A0 l0.length c0] rfl aq ?_; (with_reducible refine (intervalmonref29_Any.calls k _ _ l0 t254 t255 _ ?side1 ?side2 A5.out).mono ?_); (case side1 => repeat (first | exact HR0.out | (with_reducible refine Kd.C_alloc ?_ _) | (with_reducible refine Kd.C_drewN ?_ _) | (with_reducible refine Kd.C_drew ?_))); (case side2 => exact HC0.out); rintro e w54 ⟨v256, rfl, ho0, hb⟩; refine ⟨_, rfl, ?_⟩; have n0_ := Aside0.mk (Kd.R_lower ho0 (below_size (hq HB))); have n1_ := Aside0.mk (below_step (hq HB) hb); clear HB; have HO257 := n0_; have HB := n1_; clear n0_ n1_; (try clear hb); (try clear hb2); (try clear hk); (try clear hi); (try clear ho0)) | ((with_reducible refine gate_dst (N := 9) rfl ?_); refine box_event ?hg (N := 9) ?hd (cs := #[.int .i64 0, .slice none 0 0]) (t := 25) ?hr ?_; (case hd => rfl); (case hg => rfl); (case hr => first | (go_simp; done) | (go_simp; rfl)); intro gb258 hg w55 hbox hb; have n0_ := Aside0.mk (Kd.R_below (rq HO257) hb); have n1_ := Aside0.mk (below_step (hq HB) hb); have n2_ := Aside0.mk (hbox); have n3_ := Aside0.mk ((by rw [hg]; exact (below_size (hq HB)) : w.heap.size ≤ gb258)); have n4_ := Aside0.mk ((by rw [hg]; exact (below_size (hq HB)) : w.heap.size ≤ gb258)); clear HO257; clear HB; have HO257 := n0_; have HB := n1_; have BK258 := n2_; have GW258 := n3_; have GE258 := n4_; clear n0_ n1_ n2_ n3_ n4_; clear hb hbox hg; have hcz56_0 : w55.cell? ⟨gb258, 0, none⟩ = some (.int .i64 0) := (blk_cell BK258.out 0).trans rfl; have hcz56_1 : w55.cell? ⟨gb258, 1, none⟩ = some (.slice none 0 0) := (blk_cell BK258.out 1).trans rfl; have hfz56_0 := blk_frozen BK258.out 0; have hfz56_1 := blk_frozen BK258.out 1; obtain ⟨Ao57, co57, eo57⟩ := Kd.R_slice HO257.out; subst eo57) | ((with_reducible refine gate_dst (N := 18) rfl ?_); refine Kd.R_lit k27 _ 27 ?hg (N := 18) ?hd (xs := ([(⟨a2, a3⟩ : S27)] : List (S27))) (inner := [.int .i64 a2, .int .i64 a3]) (ok := fun _ => True) (okp := fun _ => True) ?hr ?hp (fun _ hk => hk) trivial (Below.refl _ _) (Nat.le_refl _) (by simp) ?_; (case hd => rfl); (case hg => rfl); (case hr => first | (go_simp; done) | (go_simp; rfl)); (case hp => exact (Reps.c2 (show Kd.M k27 _ _ _ (⟨a2, a3⟩ : S27) [.int .i64 a2, .int .i64 a3] from (k27_mkM _ _ _ (⟨a2, a3⟩ : S27) )) (Reps.none _ _))); intro v260 w58 ho59 hb hg_ hnew_; clear hg_ hnew_; (first | rw [← Ny259.out] at ho59 | (simp only [Int.reduceToNat] at ho59; rw [← Ny259.out] at ho59)); have n0_ := Aside0.mk (Kd.R_elder' (by (with_reducible repeat (first | apply Kd.R_alloc | apply Kd.R_drewN | apply Kd.R_drew)); exact (Kd.R_mono (Kd.R_far (p := ⟨gb258, 1, none⟩) (Kd.R_far (p := ⟨gb258, 0, none⟩) (Kd.R_types HO257.out BK258.out (by decide)) (fun _ hk => hk.2) (.int .i64 t254)) (fun _ hk => hk.2) (.slice Ao57 t255.length co57)) (fun _ h_ => h_.1))) (Kd.R_base ho59) hb); have n1_ := Aside0.mk (Kd.R_lower (Kd.R_new' ho59 (Kd.R_lt (by (with_reducible repeat (first | apply Kd.R_alloc | apply Kd.R_drewN | apply Kd.R_drew)); exact (Kd.R_mono (Kd.R_far (p := ⟨gb258, 1, none⟩) (Kd.R_far (p := ⟨gb258, 0, none⟩) (Kd.R_types HO257.out BK258.out (by decide)) (fun _ hk => hk.2) (.int .i64 t254)) (fun _ hk => hk.2) (.slice Ao57 t255.length co57)) (fun _ h_ => h_.1))))) (below_size (hq HB))); have n2_ := Aside0.mk (blk_below (g := gb258) (o := .cells #[.int .i64 t254, .slice Ao57 t255.length co57] 25 (0, 0)) (by (with_reducible repeat (first | refine blk_drewN ?_ _ | refine blk_drew ?_ | refine blk_alloc ?_ _)); refine blk_put (cs := #[.int .i64 t254, .slice none 0 0]) ?_ 1 _ rfl; (with_reducible repeat (first | refine blk_drewN ?_ _ | refine blk_drew ?_ | refine blk_alloc ?_ _)); refine blk_put (cs := #[.int .i64 0, .slice none 0 0]) ?_ 0 _ rfl; (with_reducible repeat (first | refine blk_drewN ?_ _ | refine blk_drew ?_ | refine blk_alloc ?_ _)); exact BK258.out) hb); have n3_ := Aside0.mk (below_step (hq HB) hb); clear HO257; clear BK258; clear HB; have HO257 := n0_; have HO261 := n1_; have BK258 := n2_; have HB := n3_; clear n0_ n1_ n2_ n3_; clear hb ho59; obtain ⟨Ao60, co60, eo60⟩ := Kd.R_slice HO261.out; subst eo60) | ((with_reducible refine gate_dst (N := 10) rfl ?_); refine box_event ?hg (N := 10) ?hd (cs := #[.int .i64 0, .slice none 0 0]) (t := 25) ?hr ?_; (case hd => rfl); (case hg => rfl); (case hr => first | (go_simp; done) | (go_simp; rfl)); intro gb262 hg w61 hbox hb; have n0_ := Aside0.mk (Kd.R_below (rq HO257) hb); have n1_ := Aside0.mk (Kd.R_below (rq HO261) hb); have n2_ := Aside0.mk (blk_below (g := gb258) (o := .cells #[.int .i64 t254, .slice Ao57 t255.length co57] 25 (0, 0)) (bq BK258) hb); have n3_ := Aside0.mk (below_step (hq HB) hb); have n4_ := Aside0.mk (hbox); have n5_ := Aside0.mk ((by rw [hg]; exact (below_size (hq HB)) : w.heap.size ≤ gb262)); have n6_ := Aside0.mk ((by rw [hg]; exact (below_size (hq HB)) : w.heap.size ≤ gb262)); have n7_ := Aside0.mk ((by rw [hg]; exact Nat.ne_of_lt (blk_lt (g := gb258) (o := .cells #[.int .i64 t254, .slice Ao57 t255.length co57] 25 (0, 0)) (bq BK258)) : gb258 ≠ gb262)); have n8_ := Aside0.mk ((by rw [hg]; exact Nat.ne_of_gt (blk_lt (g := gb258) (o := .cells #[.int .i64 t254, .slice Ao57 t255.length co57] 25 (0, 0)) (bq BK258)) : gb262 ≠ gb258)); clear HO257; clear HO261; clear BK258; clear HB; have HO257 := n0_; have HO261 := n1_; have BK258 := n2_; have HB := n3_; have BK262 := n4_; have GW262 := n5_; have GE262 := n6_; have NB258_262 := n7_; have NB262_258 := n8_; clear n0_ n1_ n2_ n3_ n4_ n5_ n6_ n7_ n8_; clear hb hbox hg; have hnb62 := NB262_258.out; have hnc62 := NB258_262.out; have hcz63_0 : w61.cell? ⟨gb262, 0, none⟩ = some (.int .i64 0) := (blk_cell BK262.out 0).trans rfl; have hcz63_1 : w61.cell? ⟨gb262, 1, none⟩ = some (.slice none 0 0) := (blk_cell BK262.out 1).trans rfl; have hfz63_0 := blk_frozen BK262.out 0; have hfz63_1 := blk_frozen BK262.out 1) | ((with_reducible refine gate_callee (f := 13) rfl ?_); refine goesL_ (some 21) rfl rfl Try.func13 (by kernel_rfl) rfl #[.int .i64 a1, .int .i64 210] rfl aq ?_; (with_reducible refine (intervalmonref01_Around.calls a1 210 t263 _ A6.out).mono ?_); rintro e w' ⟨rfl, ⟨nd, rfl⟩⟩; refine ⟨_, rfl, ?_⟩) | ((with_reducible refine gate_callee (f := 13) rfl ?_); refine goesL_ (some 23) rfl rfl Try.func13 (by kernel_rfl) rfl #[.int .i64 a2, .int .i64 210] rfl aq ?_; (with_reducible refine (intervalmonref01_Around.calls a2 210 t264 _ A7.out).mono ?_); rintro e w' ⟨rfl, ⟨nd, rfl⟩⟩; refine ⟨_, rfl, ?_⟩) | ((with_reducible refine gate_callee (f := 13) rfl ?_); refine goesL_ (some 25) rfl rfl Try.func13 (by kernel_rfl) rfl #[.int .i64 a3, .int .i64 210] rfl aq ?_; (with_reducible refine (intervalmonref01_Around.calls a3 210 t265 _ A8.out).mono ?_); rintro e w' ⟨rfl, ⟨nd, rfl⟩⟩; refine ⟨_, rfl, ?_⟩) | ((with_reducible refine gate_dst (N := 27) rfl ?_); refine Kd.R_lit k27 _ 27 ?hg (N := 27) ?hd (xs := ([(⟨t264, t265⟩ : S27)] : List (S27))) (inner := [.int .i64 t264, .int .i64 t265]) (ok := fun _ => True) (okp := fun _ => True) ?hr ?hp (fun _ hk => hk) trivial (Below.refl _ _) (Nat.le_refl _) (by simp) ?_; (case hd => rfl); (case hg => rfl); (case hr => first | (go_simp; done) | (go_simp; rfl)); (case hp => exact (Reps.c2 (show Kd.M k27 _ _ _ (⟨t264, t265⟩ : S27) [.int .i64 t264, .int .i64 t265] from (k27_mkM _ _ _ (⟨t264, t265⟩ : S27) )) (Reps.none _ _))); intro v267 w64 ho65 hb hg_ hnew_; clear hg_ hnew_; (first | rw [← Ny266.out] at ho65 | (simp only [Int.reduceToNat] at ho65; rw [← Ny266.out] at ho65)); have n0_ := Aside0.mk (Kd.R_elder' (by (with_reducible repeat (first | apply Kd.R_alloc | apply Kd.R_drewN | apply Kd.R_drew)); exact (Kd.R_mono (Kd.R_far (p := ⟨gb262, 1, none⟩) (Kd.R_far (p := ⟨gb262, 0, none⟩) (Kd.R_types HO257.out BK262.out (by decide)) (fun _ hk => hk.2) (.int .i64 a1)) (fun _ hk => hk.2) (.slice Ao60 y259.length co60)) (fun _ h_ => h_.1))) (Kd.R_base ho65) hb); have n1_ := Aside0.mk (Kd.R_elder' (by (with_reducible repeat (first | apply Kd.R_alloc | apply Kd.R_drewN | apply Kd.R_drew)); exact (Kd.R_mono (Kd.R_far (p := ⟨gb262, 1, none⟩) (Kd.R_far (p := ⟨gb262, 0, none⟩) (Kd.R_types HO261.out BK262.out (by decide)) (fun _ hk => hk.2) (.int .i64 a1)) (fun _ hk => hk.2) (.slice Ao60 y259.length co60)) (fun _ h_ => h_.1))) (Kd.R_base ho65) hb); have n2_ := Aside0.mk (Kd.R_lower (Kd.R_new' (Kd.R_new' ho65 (Kd.R_lt (by (with_reducible repeat (first | apply Kd.R_alloc | apply Kd.R_drewN | apply Kd.R_drew)); exact (Kd.R_mono (Kd.R_far (p := ⟨gb262, 1, none⟩) (Kd.R_far (p := ⟨gb262, 0, none⟩) (Kd.R_types HO257.out BK262.out (by decide)) (fun _ hk => hk.2) (.int .i64 a1)) (fun _ hk => hk.2) (.slice Ao60 y259.length co60)) (fun _ h_ => h_.1))))) (Kd.R_lt (by (with_reducible repeat (first | apply Kd.R_alloc | apply Kd.R_drewN | apply Kd.R_drew)); exact (Kd.R_mono (Kd.R_far (p := ⟨gb262, 1, none⟩) (Kd.R_far (p := ⟨gb262, 0, none⟩) (Kd.R_types HO261.out BK262.out (by decide)) (fun _ hk => hk.2) (.int .i64 a1)) (fun _ hk => hk.2) (.slice Ao60 y259.length co60)) (fun _ h_ => h_.1))))) (below_size (hq HB))); have n3_ := Aside0.mk (blk_below (g := gb258) (o := .cells #[.int .i64 t254, .slice Ao57 t255.length co57] 25 (0, 0)) (by (with_reducible repeat (first | refine blk_drewN ?_ _ | refine blk_drew ?_ | refine blk_alloc ?_ _)); refine blk_far ?_ NB258_262.out _; (with_reducible repeat (first | refine blk_drewN ?_ _ | refine blk_drew ?_ | refine blk_alloc ?_ _)); refine blk_far ?_ NB258_262.out _; (with_reducible repeat (first | refine blk_drewN ?_ _ | refine blk_drew ?_ | refine blk_alloc ?_ _)); exact BK258.out) hb); have n4_ := Aside0.mk (blk_below (g := gb262) (o := .cells #[.int .i64 a1, .slice Ao60 y259.length co60] 25 (0, 0)) (by (with_reducible repeat (first | refine blk_drewN ?_ _ | refine blk_drew ?_ | refine blk_alloc ?_ _)); refine blk_put (cs := #[.int .i64 a1, .slice none 0 0]) ?_ 1 _ rfl; (with_reducible repeat (first | refine blk_drewN ?_ _ | refine blk_drew ?_ | refine blk_alloc ?_ _)); refine blk_put (cs := #[.int .i64 0, .slice none 0 0]) ?_ 0 _ rfl; (with_reducible repeat (first | refine blk_drewN ?_ _ | refine blk_drew ?_ | refine blk_alloc ?_ _)); exact BK262.out) hb); have n5_ := Aside0.mk (below_step (hq HB) hb); clear HO257; clear HO261; clear BK258; clear BK262; clear HB; have HO257 := n0_; have HO261 := n1_; have HO268 := n2_; have BK258 := n3_; have BK262 := n4_; have HB := n5_; clear n0_ n1_ n2_ n3_ n4_ n5_; clear hb ho65; obtain ⟨Ao66, co66, eo66⟩ := Kd.R_slice HO268.out; subst eo66) | ((with_reducible refine gate_dst (N := 11) rfl ?_); refine box_event ?hg (N := 11) ?hd (cs := #[.int .i64 0, .slice none 0 0]) (t := 25) ?hr ?_; (case hd => rfl); (case hg => rfl); (case hr => first | (go_simp; done) | (go_simp; rfl)); intro gb269 hg w67 hbox hb; have n0_ := Aside0.mk (Kd.R_below (rq HO257) hb); have n1_ := Aside0.mk (Kd.R_below (rq HO261) hb); have n2_ := Aside0.mk (Kd.R_below (rq HO268) hb); have n3_ := Aside0.mk (blk_below (g := gb258) (o := .cells #[.int .i64 t254, .slice Ao57 t255.length co57] 25 (0, 0)) (bq BK258) hb); have n4_ := Aside0.mk (blk_below (g := gb262) (o := .cells #[.int .i64 a1, .slice Ao60 y259.length co60] 25 (0, 0)) (bq BK262) hb); have n5_ := Aside0.mk (below_step (hq HB) hb); have n6_ := Aside0.mk (hbox); have n7_ := Aside0.mk ((by rw [hg]; exact (below_size (hq HB)) : w.heap.size ≤ gb269)); have n8_ := Aside0.mk ((by rw [hg]; exact (below_size (hq HB)) : w.heap.size ≤ gb269)); have n9_ := Aside0.mk ((by rw [hg]; exact Nat.ne_of_lt (blk_lt (g := gb258) (o := .cells #[.int .i64 t254, .slice Ao57 t255.length co57] 25 (0, 0)) (bq BK258)) : gb258 ≠ gb269)); have n10_ := Aside0.mk ((by rw [hg]; exact Nat.ne_of_gt (blk_lt (g := gb258) (o := .cells #[.int .i64 t254, .slice Ao57 t255.length co57] 25 (0, 0)) (bq BK258)) : gb269 ≠ gb258)); have n11_ := Aside0.mk ((by rw [hg]; exact Nat.ne_of_lt (blk_lt (g := gb262) (o := .cells #[.int .i64 a1, .slice Ao60 y259.length co60] 25 (0, 0)) (bq BK262)) : gb262 ≠ gb269)); have n12_ := Aside0.mk ((by rw [hg]; exact Nat.ne_of_gt (blk_lt (g := gb262) (o := .cells #[.int .i64 a1, .slice Ao60 y259.length co60] 25 (0, 0)) (bq BK262)) : gb269 ≠ gb262)); clear HO257; clear HO261; clear HO268; clear BK258; clear BK262; clear HB; have HO257 := n0_; have HO261 := n1_; have HO268 := n2_; have BK258 := n3_; have BK262 := n4_; have HB := n5_; have BK269 := n6_; have GW269 := n7_; have GE269 := n8_; have NB258_269 := n9_; have NB269_258 := n10_; have NB262_269 := n11_; have NB269_262 := n12_; clear n0_ n1_ n2_ n3_ n4_ n5_ n6_ n7_ n8_ n9_ n10_ n11_ n12_; clear hb hbox hg; have hnb68 := NB269_258.out; have hnc68 := NB258_269.out; have hnb69 := NB269_262.out; have hnc69 := NB262_269.out; have hcz70_0 : w67.cell? ⟨gb269, 0, none⟩ = some (.int .i64 0) := (blk_cell BK269.out 0).trans rfl; have hcz70_1 : w67.cell? ⟨gb269, 1, none⟩ = some (.slice none 0 0) := (blk_cell BK269.out 1).trans rfl; have hfz70_0 := blk_frozen BK269.out 0; have hfz70_1 := blk_frozen BK269.out 1))
    have n0_ : Aside0 (Kd.R k27 27 ((w67.setCell ⟨gb269, 0, none⟩ (.int .i64 t263)).setCell ⟨gb269, 1, none⟩ (.slice Ao66 y266.length co66)) w.heap.size (fun k_ => some k_ ≠ (.slice Ao60 y259.length co60 : Value).ownBlock ∧ some k_ ≠ (.slice Ao66 y266.length co66 : Value).ownBlock) (.slice Ao57 t255.length co57) t255) := ⟨by (with_reducible repeat (first | apply Kd.R_alloc | apply Kd.R_drewN | apply Kd.R_drew)); exact Kd.R_mono (Kd.R_far (p := ⟨gb269, 1, none⟩) (Kd.R_far (p := ⟨gb269, 0, none⟩) (Kd.R_types HO257.out BK269.out (by decide)) (fun _ hk => hk.2) (.int .i64 t263)) (fun _ hk => hk.2) (.slice Ao66 y266.length co66)) (fun _ hk => ⟨hk.1.1.2, hk.1.2⟩)⟩
    have n1_ : Aside0 (Kd.R k27 27 ((w67.setCell ⟨gb269, 0, none⟩ (.int .i64 t263)).setCell ⟨gb269, 1, none⟩ (.slice Ao66 y266.length co66)) w.heap.size (fun k_ => some k_ ≠ (.slice Ao57 t255.length co57 : Value).ownBlock ∧ some k_ ≠ (.slice Ao66 y266.length co66 : Value).ownBlock) (.slice Ao60 y259.length co60) y259) := ⟨by (with_reducible repeat (first | apply Kd.R_alloc | apply Kd.R_drewN | apply Kd.R_drew)); exact Kd.R_mono (Kd.R_far (p := ⟨gb269, 1, none⟩) (Kd.R_far (p := ⟨gb269, 0, none⟩) (Kd.R_types HO261.out BK269.out (by decide)) (fun _ hk => hk.2) (.int .i64 t263)) (fun _ hk => hk.2) (.slice Ao66 y266.length co66)) (fun _ hk => ⟨hk.1.1.2, hk.1.2⟩)⟩
    have n2_ : Aside0 (Kd.R k27 27 ((w67.setCell ⟨gb269, 0, none⟩ (.int .i64 t263)).setCell ⟨gb269, 1, none⟩ (.slice Ao66 y266.length co66)) w.heap.size (fun k_ => some k_ ≠ (.slice Ao57 t255.length co57 : Value).ownBlock ∧ some k_ ≠ (.slice Ao60 y259.length co60 : Value).ownBlock) (.slice Ao66 y266.length co66) y266) := ⟨by (with_reducible repeat (first | apply Kd.R_alloc | apply Kd.R_drewN | apply Kd.R_drew)); exact Kd.R_mono (Kd.R_far (p := ⟨gb269, 1, none⟩) (Kd.R_far (p := ⟨gb269, 0, none⟩) (Kd.R_types HO268.out BK269.out (by decide)) (fun _ hk => hk.2) (.int .i64 t263)) (fun _ hk => hk.2) (.slice Ao66 y266.length co66)) (fun _ hk => ⟨hk.1.1.2, hk.1.2⟩)⟩
    have n3_ : Aside0 (((w67.setCell ⟨gb269, 0, none⟩ (.int .i64 t263)).setCell ⟨gb269, 1, none⟩ (.slice Ao66 y266.length co66)).heap[gb258]? = some (.cells #[.int .i64 t254, .slice Ao57 t255.length co57] 25 (0, 0))) := ⟨by (with_reducible repeat (first | refine blk_drewN ?_ _ | refine blk_drew ?_ | refine blk_alloc ?_ _)); refine blk_far ?_ NB258_269.out _; (with_reducible repeat (first | refine blk_drewN ?_ _ | refine blk_drew ?_ | refine blk_alloc ?_ _)); refine blk_far ?_ NB258_269.out _; (with_reducible repeat (first | refine blk_drewN ?_ _ | refine blk_drew ?_ | refine blk_alloc ?_ _)); exact BK258.out⟩
    have n4_ : Aside0 (((w67.setCell ⟨gb269, 0, none⟩ (.int .i64 t263)).setCell ⟨gb269, 1, none⟩ (.slice Ao66 y266.length co66)).heap[gb262]? = some (.cells #[.int .i64 a1, .slice Ao60 y259.length co60] 25 (0, 0))) := ⟨by (with_reducible repeat (first | refine blk_drewN ?_ _ | refine blk_drew ?_ | refine blk_alloc ?_ _)); refine blk_far ?_ NB262_269.out _; (with_reducible repeat (first | refine blk_drewN ?_ _ | refine blk_drew ?_ | refine blk_alloc ?_ _)); refine blk_far ?_ NB262_269.out _; (with_reducible repeat (first | refine blk_drewN ?_ _ | refine blk_drew ?_ | refine blk_alloc ?_ _)); exact BK262.out⟩
    have n5_ : Aside0 (((w67.setCell ⟨gb269, 0, none⟩ (.int .i64 t263)).setCell ⟨gb269, 1, none⟩ (.slice Ao66 y266.length co66)).heap[gb269]? = some (.cells #[.int .i64 t263, .slice Ao66 y266.length co66] 25 (0, 0))) := ⟨by (with_reducible repeat (first | refine blk_drewN ?_ _ | refine blk_drew ?_ | refine blk_alloc ?_ _)); refine blk_put (cs := #[.int .i64 t263, .slice none 0 0]) ?_ 1 _ rfl; (with_reducible repeat (first | refine blk_drewN ?_ _ | refine blk_drew ?_ | refine blk_alloc ?_ _)); refine blk_put (cs := #[.int .i64 0, .slice none 0 0]) ?_ 0 _ rfl; (with_reducible repeat (first | refine blk_drewN ?_ _ | refine blk_drew ?_ | refine blk_alloc ?_ _)); exact BK269.out⟩
    have n6_ : Aside0 (Below w.heap.size w ((w67.setCell ⟨gb269, 0, none⟩ (.int .i64 t263)).setCell ⟨gb269, 1, none⟩ (.slice Ao66 y266.length co66))) := ⟨by repeat (first | (with_reducible first | exact HB.out | apply below_alloc | apply pw_below_drewN | apply below_drew1 | refine below_set ?_ GE258.out | refine below_set ?_ GE262.out | refine below_set ?_ GE269.out) | exact HB.out)⟩
    (try clear HO257)
    (try clear HO261)
    (try clear HO268)
    (try clear BK258)
    (try clear BK262)
    (try clear BK269)
    (try clear HB)
    generalize ((w67.setCell ⟨gb269, 0, none⟩ (.int .i64 t263)).setCell ⟨gb269, 1, none⟩ (.slice Ao66 y266.length co66)) = w71 at n0_ n1_ n2_ n3_ n4_ n5_ n6_ ⊢
    have HO257 := n0_
    have HO261 := n1_
    have HO268 := n2_
    have BK258 := n3_
    have BK262 := n4_
    have BK269 := n5_
    have HB := n6_
    clear n0_ n1_ n2_ n3_ n4_ n5_ n6_
    have n0_ := Aside0.mk (Kd.R_drew HO257.out)
    have n1_ := Aside0.mk (Kd.R_drew HO261.out)
    have n2_ := Aside0.mk (Kd.R_drew HO268.out)
    have n3_ := Aside0.mk (blk_drew BK258.out)
    have n4_ := Aside0.mk (blk_drew BK262.out)
    have n5_ := Aside0.mk (blk_drew BK269.out)
    have n6_ := Aside0.mk (below_drew1 HB.out)
    clear HO257
    clear HO261
    clear HO268
    clear BK258
    clear BK262
    clear BK269
    clear HB
    have HO257 := n0_
    have HO261 := n1_
    have HO268 := n2_
    have BK258 := n3_
    have BK262 := n4_
    have BK269 := n5_
    have HB := n6_
    clear n0_ n1_ n2_ n3_ n4_ n5_ n6_
    refine start_ (n := 26) (S := fun w' => w'.cell? ⟨gb258, 0, none⟩ = some (.int .i64 t254) ∧ w'.cell? ⟨gb258, 1, none⟩ = some (.slice Ao57 t255.length co57) ∧ w'.cell? ⟨gb262, 0, none⟩ = some (.int .i64 a1) ∧ w'.cell? ⟨gb262, 1, none⟩ = some (.slice Ao60 y259.length co60) ∧ w'.cell? ⟨gb269, 0, none⟩ = some (.int .i64 t263) ∧ w'.cell? ⟨gb269, 1, none⟩ = some (.slice Ao66 y266.length co66)) (ds := []) #[false, false, false, false, false, false, false, false, false, false, false, false, false, false, false, false, false, false, false, false, false, false, false, false, false, false] (by kernel_rfl) rfl rfl ⟨(blk_cell BK258.out 0).trans rfl, (blk_cell BK258.out 1).trans rfl, (blk_cell BK262.out 0).trans rfl, (blk_cell BK262.out 1).trans rfl, (blk_cell BK269.out 0).trans rfl, (blk_cell BK269.out 1).trans rfl⟩ (fun hHeld => ?_); refine with_tabW intervalmonlaw29_RouteValid.tab4 intervalmonlaw29_RouteValid.bits4 (fun HT_ HW_ => ?_)
    generalize w71.drew = w72 at HO257 HO261 HO268 BK258 BK262 BK269 HB hHeld ⊢
    refine take_ (i := 0) (N := some 29) (v := ?_) (a' := ?_) #[true, false, false, false, false, false, false, false, false, false, false, false, false, false, false, false, false, false, false, false, false, false, false, false, false, false] rfl rfl (take_ofW HT_.out HW_.out (by kernel_rfl)) (fun _ _ _ h => h) (Or.inl ⟨by rfl, ?_⟩) hHeld ?_ ?_
    rotate_left
    ·rintro w' ⟨s0, s1, s2, s3, s4, s5⟩
     go_simp
     with_reducible rfl
    rotate_left
    ·simp only [Act.put, List.setIfInBounds_toArray, List.set_cons_zero, List.set_cons_succ, i64_w, i32_w]
     rfl
    refine take_ (i := 3) (N := some 32) (v := ?_) (a' := ?_) #[true, false, false, true, false, false, false, false, false, false, false, false, false, false, false, false, false, false, false, false, false, false, false, false, false, false] rfl rfl (take_ofW HT_.out HW_.out (by kernel_rfl)) (fun _ _ _ h => h) (Or.inl ⟨by rfl, ?_⟩) hHeld ?_ ?_
    rotate_left
    ·rintro w' ⟨s0, s1, s2, s3, s4, s5⟩
     go_simp
     with_reducible rfl
    rotate_left
    ·simp only [Act.put, List.setIfInBounds_toArray, List.set_cons_zero, List.set_cons_succ, i64_w, i32_w]
     rfl
    refine one_ (i := 1) (N := some 30) #[true, true, false, true, false, false, false, false, false, false, false, false, false, false, false, false, false, false, false, false, false, false, false, false, false, false] rfl rfl (one_of HT_.out (by kernel_rfl)) (by decide) (fun K hK => ?_)
    refine goes_ Try.func15 (by kernel_rfl) rfl #[.agg #[.int .i64 t254, .slice Ao57 t255.length co57]] (by rfl) rfl rfl aq ?_
    with_reducible refine (intervalmonlaw29_graph.calls t254 (fun k_ => some k_ = (.slice Ao57 t255.length co57 : Value).ownBlock) _ _ t255 t270 t271 _ ?side1 A9.out).mono ?_
    (case side1 => exact Kd.R_V (Kd.R_tight rfl (Kd.R_types (Kd.R_types (Kd.R_types (HO257.out) BK258.out (by decide)) BK262.out (by decide)) BK269.out (by decide))))
    rintro e w73 ⟨v272, rfl, ho0, hb⟩
    refine ⟨_, rfl, ?_⟩
    have n0_ := Aside0.mk (Kd.R_below (rq HO257) hb)
    have n1_ := Aside0.mk (Kd.R_below (rq HO261) hb)
    have n2_ := Aside0.mk (Kd.R_below (rq HO268) hb)
    have n3_ := Aside0.mk (Kd.V_lower (Kd.V_mono (ok' := fun k_ => some k_ ≠ (.slice Ao60 y259.length co60 : Value).ownBlock ∧ some k_ ≠ (.slice Ao66 y266.length co66 : Value).ownBlock ∧ k_ ≠ gb258 ∧ k_ ≠ gb262 ∧ k_ ≠ gb269) ho0 (fun k_ hk_ => ⟨Or.elim hk_ (fun hs_ => ((Kd.R_types (Kd.R_types (Kd.R_types (HO257.out) BK258.out (by decide)) BK262.out (by decide)) BK269.out (by decide)).1 k_ hs_.symm).1.1.1.1) (fun hn_ => (Kd.fresh' (Kd.R_lt (rq HO261)) k_ hn_)), Or.elim hk_ (fun hs_ => ((Kd.R_types (Kd.R_types (Kd.R_types (HO257.out) BK258.out (by decide)) BK262.out (by decide)) BK269.out (by decide)).1 k_ hs_.symm).1.1.1.2) (fun hn_ => (Kd.fresh' (Kd.R_lt (rq HO268)) k_ hn_)), Or.elim hk_ (fun hs_ => ((Kd.R_types (Kd.R_types (Kd.R_types (HO257.out) BK258.out (by decide)) BK262.out (by decide)) BK269.out (by decide)).1 k_ hs_.symm).1.1.2) (fun hn_ => (Kd.freshB (g := gb258) (o := .cells #[.int .i64 t254, .slice Ao57 t255.length co57] 25 (0, 0)) (bq BK258) k_ hn_)), Or.elim hk_ (fun hs_ => ((Kd.R_types (Kd.R_types (Kd.R_types (HO257.out) BK258.out (by decide)) BK262.out (by decide)) BK269.out (by decide)).1 k_ hs_.symm).1.2) (fun hn_ => (Kd.freshB (g := gb262) (o := .cells #[.int .i64 a1, .slice Ao60 y259.length co60] 25 (0, 0)) (bq BK262) k_ hn_)), Or.elim hk_ (fun hs_ => ((Kd.R_types (Kd.R_types (Kd.R_types (HO257.out) BK258.out (by decide)) BK262.out (by decide)) BK269.out (by decide)).1 k_ hs_.symm).2) (fun hn_ => (Kd.freshB (g := gb269) (o := .cells #[.int .i64 t263, .slice Ao66 y266.length co66] 25 (0, 0)) (bq BK269) k_ hn_))⟩)) (below_size (hq HB)))
    have n4_ := Aside0.mk (blk_below (g := gb258) (o := .cells #[.int .i64 t254, .slice Ao57 t255.length co57] 25 (0, 0)) (bq BK258) hb)
    have n5_ := Aside0.mk (blk_below (g := gb262) (o := .cells #[.int .i64 a1, .slice Ao60 y259.length co60] 25 (0, 0)) (bq BK262) hb)
    have n6_ := Aside0.mk (blk_below (g := gb269) (o := .cells #[.int .i64 t263, .slice Ao66 y266.length co66] 25 (0, 0)) (bq BK269) hb)
    have n7_ := Aside0.mk (below_step (hq HB) hb)
    clear HO257
    clear HO261
    clear HO268
    clear BK258
    clear BK262
    clear BK269
    clear HB
    have HO257 := n0_
    have HO261 := n1_
    have HO268 := n2_
    have HO273 := n3_
    have BK258 := n4_
    have BK262 := n5_
    have BK269 := n6_
    have HB := n7_
    clear n0_ n1_ n2_ n3_ n4_ n5_ n6_ n7_
    (try clear hb)
    (try clear hb2)
    (try clear hk)
    (try clear hi)
    (try clear ho0)
    obtain ⟨Ao74, co74, eo74⟩ := Kd.V_slice HO273.out
    (first | subst eo74 | (injection eo74 with f1_ f2_ f3_; have f4_ := f1_.symm; have f5_ := f3_.symm; clear f1_ f2_ f3_; subst f4_; subst f5_))
    refine hK.out _ _ ⟨(blk_cell BK258.out 0).trans rfl, (blk_cell BK258.out 1).trans rfl, (blk_cell BK262.out 0).trans rfl, (blk_cell BK262.out 1).trans rfl, (blk_cell BK269.out 0).trans rfl, (blk_cell BK269.out 1).trans rfl⟩ (fun hHeld => ?_)
    clear hK K
    refine norm_ (a' := ?_) ?_ ?_
    rotate_left
    ·show Act.put _ (some 30) _ = _
     simp only [Act.put, List.setIfInBounds_toArray, List.set_cons_zero, List.set_cons_succ, i64_w, i32_w]
     rfl
    refine one_ (i := 2) (N := some 31) #[true, true, true, true, false, false, false, false, false, false, false, false, false, false, false, false, false, false, false, false, false, false, false, false, false, false] rfl rfl (one_of HT_.out (by kernel_rfl)) (by decide) (fun K hK => ?_)
    refine goes_ Try.func14 (by kernel_rfl) rfl #[.agg #[.int .i64 t270, .slice Ao74 t271.length co74]] (by rfl) rfl rfl aq ?_
    with_reducible refine (route_Valid.calls k t270 _ _ t271 t274 _ ?side1 ?side2 A10.out).mono ?_
    (case side1 => repeat (first | exact (Kd.V_reads' HO273.out).2.2 | (with_reducible refine Kd.C_alloc ?_ _) | (with_reducible refine Kd.C_drewN ?_ _) | (with_reducible refine Kd.C_drew ?_)))
    (case side2 => exact (Kd.V_reads' HO273.out).2.1)
    rintro e w75 ⟨rfl, hb⟩
    refine ⟨_, rfl, ?_⟩
    have n0_ := Aside0.mk (Kd.R_below (rq HO257) hb)
    have n1_ := Aside0.mk (Kd.R_below (rq HO261) hb)
    have n2_ := Aside0.mk (Kd.R_below (rq HO268) hb)
    have n3_ := Aside0.mk (Kd.V_below (vq HO273) hb)
    have n4_ := Aside0.mk (blk_below (g := gb258) (o := .cells #[.int .i64 t254, .slice Ao57 t255.length co57] 25 (0, 0)) (bq BK258) hb)
    have n5_ := Aside0.mk (blk_below (g := gb262) (o := .cells #[.int .i64 a1, .slice Ao60 y259.length co60] 25 (0, 0)) (bq BK262) hb)
    have n6_ := Aside0.mk (blk_below (g := gb269) (o := .cells #[.int .i64 t263, .slice Ao66 y266.length co66] 25 (0, 0)) (bq BK269) hb)
    have n7_ := Aside0.mk (below_step (hq HB) hb)
    clear HO257
    clear HO261
    clear HO268
    clear HO273
    clear BK258
    clear BK262
    clear BK269
    clear HB
    have HO257 := n0_
    have HO261 := n1_
    have HO268 := n2_
    have HO273 := n3_
    have BK258 := n4_
    have BK262 := n5_
    have BK269 := n6_
    have HB := n7_
    clear n0_ n1_ n2_ n3_ n4_ n5_ n6_ n7_
    (try clear hb)
    (try clear hb2)
    (try clear hk)
    (try clear hi)
    refine hK.out _ _ ⟨(blk_cell BK258.out 0).trans rfl, (blk_cell BK258.out 1).trans rfl, (blk_cell BK262.out 0).trans rfl, (blk_cell BK262.out 1).trans rfl, (blk_cell BK269.out 0).trans rfl, (blk_cell BK269.out 1).trans rfl⟩ (fun hHeld => ?_)
    clear hK K
    refine norm_ (a' := ?_) ?_ ?_
    rotate_left
    ·show Act.put _ (some 31) _ = _
     simp only [Act.put, List.setIfInBounds_toArray, List.set_cons_zero, List.set_cons_succ, i64_w, i32_w]
     rfl
    refine one_ (i := 4) (N := some 33) #[true, true, true, true, true, false, false, false, false, false, false, false, false, false, false, false, false, false, false, false, false, false, false, false, false, false] rfl rfl (one_of HT_.out (by kernel_rfl)) (by decide) (fun K hK => ?_)
    refine goes_ Try.func16 (by kernel_rfl) rfl #[.agg #[.int .i64 t254, .slice Ao57 t255.length co57]] (by rfl) rfl rfl aq ?_
    with_reducible refine (intervalmonref29_Valid.calls k t254 _ _ t255 t275 _ ?side1 ?side2 A11.out).mono ?_
    (case side1 => repeat (first | exact (Kd.R_reads' HO257.out).2.2 | (with_reducible refine Kd.C_alloc ?_ _) | (with_reducible refine Kd.C_drewN ?_ _) | (with_reducible refine Kd.C_drew ?_)))
    (case side2 => exact (Kd.R_reads' HO257.out).2.1)
    rintro e w76 ⟨rfl, hb⟩
    refine ⟨_, rfl, ?_⟩
    have n0_ := Aside0.mk (Kd.R_below (rq HO257) hb)
    have n1_ := Aside0.mk (Kd.R_below (rq HO261) hb)
    have n2_ := Aside0.mk (Kd.R_below (rq HO268) hb)
    have n3_ := Aside0.mk (Kd.V_below (vq HO273) hb)
    have n4_ := Aside0.mk (blk_below (g := gb258) (o := .cells #[.int .i64 t254, .slice Ao57 t255.length co57] 25 (0, 0)) (bq BK258) hb)
    have n5_ := Aside0.mk (blk_below (g := gb262) (o := .cells #[.int .i64 a1, .slice Ao60 y259.length co60] 25 (0, 0)) (bq BK262) hb)
    have n6_ := Aside0.mk (blk_below (g := gb269) (o := .cells #[.int .i64 t263, .slice Ao66 y266.length co66] 25 (0, 0)) (bq BK269) hb)
    have n7_ := Aside0.mk (below_step (hq HB) hb)
    clear HO257
    clear HO261
    clear HO268
    clear HO273
    clear BK258
    clear BK262
    clear BK269
    clear HB
    have HO257 := n0_
    have HO261 := n1_
    have HO268 := n2_
    have HO273 := n3_
    have BK258 := n4_
    have BK262 := n5_
    have BK269 := n6_
    have HB := n7_
    clear n0_ n1_ n2_ n3_ n4_ n5_ n6_ n7_
    (try clear hb)
    (try clear hb2)
    (try clear hk)
    (try clear hi)
    refine hK.out _ _ ⟨(blk_cell BK258.out 0).trans rfl, (blk_cell BK258.out 1).trans rfl, (blk_cell BK262.out 0).trans rfl, (blk_cell BK262.out 1).trans rfl, (blk_cell BK269.out 0).trans rfl, (blk_cell BK269.out 1).trans rfl⟩ (fun hHeld => ?_)
    clear hK K
    refine norm_ (a' := ?_) ?_ ?_
    rotate_left
    ·show Act.put _ (some 33) _ = _
     simp only [Act.put, List.setIfInBounds_toArray, List.set_cons_zero, List.set_cons_succ, i64_w, i32_w]
     rfl
    refine pure_ (i := 5) (N := some 34) (v := ?_) (a' := ?_) #[true, true, true, true, true, true, false, false, false, false, false, false, false, false, false, false, false, false, false, false, false, false, false, false, false, false] rfl rfl (any_of HT_.out (by kernel_rfl)) (fun _ _ _ h => h) (Or.inl ⟨by rfl, ?_⟩) ?_ ?_
    rotate_left
    ·intro w'
     go_simp
     with_reducible rfl
    rotate_left
    ·simp only [Act.put, List.setIfInBounds_toArray, List.set_cons_zero, List.set_cons_succ, i64_w, i32_w]
     rfl
    refine pure_ (i := 6) (N := some 35) (v := ?_) (a' := ?_) #[true, true, true, true, true, true, true, false, false, false, false, false, false, false, false, false, false, false, false, false, false, false, false, false, false, false] rfl rfl (any_of HT_.out (by kernel_rfl)) (fun _ _ _ h => h) (Or.inl ⟨by rfl, ?_⟩) ?_ ?_
    rotate_left
    ·intro w'
     go_simp
     with_reducible rfl
    rotate_left
    ·simp only [Act.put, List.setIfInBounds_toArray, List.set_cons_zero, List.set_cons_succ, i64_w, i32_w]
     rfl
    refine take_ (i := 7) (N := some 36) (v := ?_) (a' := ?_) #[true, true, true, true, true, true, true, true, false, false, false, false, false, false, false, false, false, false, false, false, false, false, false, false, false, false] rfl rfl (take_ofW HT_.out HW_.out (by kernel_rfl)) (fun _ _ _ h => h) (Or.inl ⟨by rfl, ?_⟩) hHeld ?_ ?_
    rotate_left
    ·rintro w' ⟨s0, s1, s2, s3, s4, s5⟩
     go_simp
     with_reducible rfl
    rotate_left
    ·simp only [Act.put, List.setIfInBounds_toArray, List.set_cons_zero, List.set_cons_succ, i64_w, i32_w]
     rfl
    refine take_ (i := 10) (N := some 39) (v := ?_) (a' := ?_) #[true, true, true, true, true, true, true, true, false, false, true, false, false, false, false, false, false, false, false, false, false, false, false, false, false, false] rfl rfl (take_ofW HT_.out HW_.out (by kernel_rfl)) (fun _ _ _ h => h) (Or.inl ⟨by rfl, ?_⟩) hHeld ?_ ?_
    rotate_left
    ·rintro w' ⟨s0, s1, s2, s3, s4, s5⟩
     go_simp
     with_reducible rfl
    rotate_left
    ·simp only [Act.put, List.setIfInBounds_toArray, List.set_cons_zero, List.set_cons_succ, i64_w, i32_w]
     rfl
    refine one_ (i := 8) (N := some 37) #[true, true, true, true, true, true, true, true, true, false, true, false, false, false, false, false, false, false, false, false, false, false, false, false, false, false] rfl rfl (one_of HT_.out (by kernel_rfl)) (by decide) (fun K hK => ?_)
    refine goes_ Try.func15 (by kernel_rfl) rfl #[.agg #[.int .i64 a1, .slice Ao60 y259.length co60]] (by rfl) rfl rfl aq ?_
    with_reducible refine (intervalmonlaw29_graph.calls a1 (fun k_ => some k_ = (.slice Ao60 y259.length co60 : Value).ownBlock) _ _ y259 t276 t277 _ ?side1 A13.out).mono ?_
    (case side1 => exact Kd.R_V (Kd.R_tight rfl (Kd.R_types (Kd.R_types (Kd.R_types (HO261.out) BK258.out (by decide)) BK262.out (by decide)) BK269.out (by decide))))
    rintro e w77 ⟨v278, rfl, ho0, hb⟩
    refine ⟨_, rfl, ?_⟩
    have n0_ := Aside0.mk (Kd.R_below (rq HO257) hb)
    have n1_ := Aside0.mk (Kd.R_below (rq HO261) hb)
    have n2_ := Aside0.mk (Kd.R_below (rq HO268) hb)
    have n3_ := Aside0.mk (Kd.V_below (vq HO273) hb)
    have n4_ := Aside0.mk (Kd.V_lower (Kd.V_mono (ok' := fun k_ => some k_ ≠ (.slice Ao57 t255.length co57 : Value).ownBlock ∧ some k_ ≠ (.slice Ao66 y266.length co66 : Value).ownBlock ∧ k_ ≠ gb258 ∧ k_ ≠ gb262 ∧ k_ ≠ gb269) ho0 (fun k_ hk_ => ⟨Or.elim hk_ (fun hs_ => ((Kd.R_types (Kd.R_types (Kd.R_types (HO261.out) BK258.out (by decide)) BK262.out (by decide)) BK269.out (by decide)).1 k_ hs_.symm).1.1.1.1) (fun hn_ => (Kd.fresh' (Kd.R_lt (rq HO257)) k_ hn_)), Or.elim hk_ (fun hs_ => ((Kd.R_types (Kd.R_types (Kd.R_types (HO261.out) BK258.out (by decide)) BK262.out (by decide)) BK269.out (by decide)).1 k_ hs_.symm).1.1.1.2) (fun hn_ => (Kd.fresh' (Kd.R_lt (rq HO268)) k_ hn_)), Or.elim hk_ (fun hs_ => ((Kd.R_types (Kd.R_types (Kd.R_types (HO261.out) BK258.out (by decide)) BK262.out (by decide)) BK269.out (by decide)).1 k_ hs_.symm).1.1.2) (fun hn_ => (Kd.freshB (g := gb258) (o := .cells #[.int .i64 t254, .slice Ao57 t255.length co57] 25 (0, 0)) (bq BK258) k_ hn_)), Or.elim hk_ (fun hs_ => ((Kd.R_types (Kd.R_types (Kd.R_types (HO261.out) BK258.out (by decide)) BK262.out (by decide)) BK269.out (by decide)).1 k_ hs_.symm).1.2) (fun hn_ => (Kd.freshB (g := gb262) (o := .cells #[.int .i64 a1, .slice Ao60 y259.length co60] 25 (0, 0)) (bq BK262) k_ hn_)), Or.elim hk_ (fun hs_ => ((Kd.R_types (Kd.R_types (Kd.R_types (HO261.out) BK258.out (by decide)) BK262.out (by decide)) BK269.out (by decide)).1 k_ hs_.symm).2) (fun hn_ => (Kd.freshB (g := gb269) (o := .cells #[.int .i64 t263, .slice Ao66 y266.length co66] 25 (0, 0)) (bq BK269) k_ hn_))⟩)) (below_size (hq HB)))
    have n5_ := Aside0.mk (blk_below (g := gb258) (o := .cells #[.int .i64 t254, .slice Ao57 t255.length co57] 25 (0, 0)) (bq BK258) hb)
    have n6_ := Aside0.mk (blk_below (g := gb262) (o := .cells #[.int .i64 a1, .slice Ao60 y259.length co60] 25 (0, 0)) (bq BK262) hb)
    have n7_ := Aside0.mk (blk_below (g := gb269) (o := .cells #[.int .i64 t263, .slice Ao66 y266.length co66] 25 (0, 0)) (bq BK269) hb)
    have n8_ := Aside0.mk (below_step (hq HB) hb)
    clear HO257
    clear HO261
    clear HO268
    clear HO273
    clear BK258
    clear BK262
    clear BK269
    clear HB
    have HO257 := n0_
    have HO261 := n1_
    have HO268 := n2_
    have HO273 := n3_
    have HO279 := n4_
    have BK258 := n5_
    have BK262 := n6_
    have BK269 := n7_
    have HB := n8_
    clear n0_ n1_ n2_ n3_ n4_ n5_ n6_ n7_ n8_
    (try clear hb)
    (try clear hb2)
    (try clear hk)
    (try clear hi)
    (try clear ho0)
    obtain ⟨Ao78, co78, eo78⟩ := Kd.V_slice HO279.out
    (first | subst eo78 | (injection eo78 with f1_ f2_ f3_; have f4_ := f1_.symm; have f5_ := f3_.symm; clear f1_ f2_ f3_; subst f4_; subst f5_))
    refine hK.out _ _ ⟨(blk_cell BK258.out 0).trans rfl, (blk_cell BK258.out 1).trans rfl, (blk_cell BK262.out 0).trans rfl, (blk_cell BK262.out 1).trans rfl, (blk_cell BK269.out 0).trans rfl, (blk_cell BK269.out 1).trans rfl⟩ (fun hHeld => ?_)
    clear hK K
    refine norm_ (a' := ?_) ?_ ?_
    rotate_left
    ·show Act.put _ (some 37) _ = _
     simp only [Act.put, List.setIfInBounds_toArray, List.set_cons_zero, List.set_cons_succ, i64_w, i32_w]
     rfl
    refine one_ (i := 9) (N := some 38) #[true, true, true, true, true, true, true, true, true, true, true, false, false, false, false, false, false, false, false, false, false, false, false, false, false, false] rfl rfl (one_of HT_.out (by kernel_rfl)) (by decide) (fun K hK => ?_)
    refine goes_ Try.func14 (by kernel_rfl) rfl #[.agg #[.int .i64 t276, .slice Ao78 t277.length co78]] (by rfl) rfl rfl aq ?_
    with_reducible refine (route_Valid.calls k t276 _ _ t277 t280 _ ?side1 ?side2 A14.out).mono ?_
    (case side1 => repeat (first | exact (Kd.V_reads' HO279.out).2.2 | (with_reducible refine Kd.C_alloc ?_ _) | (with_reducible refine Kd.C_drewN ?_ _) | (with_reducible refine Kd.C_drew ?_)))
    (case side2 => exact (Kd.V_reads' HO279.out).2.1)
    rintro e w79 ⟨rfl, hb⟩
    refine ⟨_, rfl, ?_⟩
    have n0_ := Aside0.mk (Kd.R_below (rq HO257) hb)
    have n1_ := Aside0.mk (Kd.R_below (rq HO261) hb)
    have n2_ := Aside0.mk (Kd.R_below (rq HO268) hb)
    have n3_ := Aside0.mk (Kd.V_below (vq HO273) hb)
    have n4_ := Aside0.mk (Kd.V_below (vq HO279) hb)
    have n5_ := Aside0.mk (blk_below (g := gb258) (o := .cells #[.int .i64 t254, .slice Ao57 t255.length co57] 25 (0, 0)) (bq BK258) hb)
    have n6_ := Aside0.mk (blk_below (g := gb262) (o := .cells #[.int .i64 a1, .slice Ao60 y259.length co60] 25 (0, 0)) (bq BK262) hb)
    have n7_ := Aside0.mk (blk_below (g := gb269) (o := .cells #[.int .i64 t263, .slice Ao66 y266.length co66] 25 (0, 0)) (bq BK269) hb)
    have n8_ := Aside0.mk (below_step (hq HB) hb)
    clear HO257
    clear HO261
    clear HO268
    clear HO273
    clear HO279
    clear BK258
    clear BK262
    clear BK269
    clear HB
    have HO257 := n0_
    have HO261 := n1_
    have HO268 := n2_
    have HO273 := n3_
    have HO279 := n4_
    have BK258 := n5_
    have BK262 := n6_
    have BK269 := n7_
    have HB := n8_
    clear n0_ n1_ n2_ n3_ n4_ n5_ n6_ n7_ n8_
    (try clear hb)
    (try clear hb2)
    (try clear hk)
    (try clear hi)
    refine hK.out _ _ ⟨(blk_cell BK258.out 0).trans rfl, (blk_cell BK258.out 1).trans rfl, (blk_cell BK262.out 0).trans rfl, (blk_cell BK262.out 1).trans rfl, (blk_cell BK269.out 0).trans rfl, (blk_cell BK269.out 1).trans rfl⟩ (fun hHeld => ?_)
    clear hK K
    refine norm_ (a' := ?_) ?_ ?_
    rotate_left
    ·show Act.put _ (some 38) _ = _
     simp only [Act.put, List.setIfInBounds_toArray, List.set_cons_zero, List.set_cons_succ, i64_w, i32_w]
     rfl
    refine one_ (i := 11) (N := some 40) #[true, true, true, true, true, true, true, true, true, true, true, true, false, false, false, false, false, false, false, false, false, false, false, false, false, false] rfl rfl (one_of HT_.out (by kernel_rfl)) (by decide) (fun K hK => ?_)
    refine goes_ Try.func16 (by kernel_rfl) rfl #[.agg #[.int .i64 a1, .slice Ao60 y259.length co60]] (by rfl) rfl rfl aq ?_
    with_reducible refine (intervalmonref29_Valid.calls k a1 _ _ y259 t281 _ ?side1 ?side2 A15.out).mono ?_
    (case side1 => repeat (first | exact (Kd.R_reads' HO261.out).2.2 | (with_reducible refine Kd.C_alloc ?_ _) | (with_reducible refine Kd.C_drewN ?_ _) | (with_reducible refine Kd.C_drew ?_)))
    (case side2 => exact (Kd.R_reads' HO261.out).2.1)
    rintro e w80 ⟨rfl, hb⟩
    refine ⟨_, rfl, ?_⟩
    have n0_ := Aside0.mk (Kd.R_below (rq HO257) hb)
    have n1_ := Aside0.mk (Kd.R_below (rq HO261) hb)
    have n2_ := Aside0.mk (Kd.R_below (rq HO268) hb)
    have n3_ := Aside0.mk (Kd.V_below (vq HO273) hb)
    have n4_ := Aside0.mk (Kd.V_below (vq HO279) hb)
    have n5_ := Aside0.mk (blk_below (g := gb258) (o := .cells #[.int .i64 t254, .slice Ao57 t255.length co57] 25 (0, 0)) (bq BK258) hb)
    have n6_ := Aside0.mk (blk_below (g := gb262) (o := .cells #[.int .i64 a1, .slice Ao60 y259.length co60] 25 (0, 0)) (bq BK262) hb)
    have n7_ := Aside0.mk (blk_below (g := gb269) (o := .cells #[.int .i64 t263, .slice Ao66 y266.length co66] 25 (0, 0)) (bq BK269) hb)
    have n8_ := Aside0.mk (below_step (hq HB) hb)
    clear HO257
    clear HO261
    clear HO268
    clear HO273
    clear HO279
    clear BK258
    clear BK262
    clear BK269
    clear HB
    have HO257 := n0_
    have HO261 := n1_
    have HO268 := n2_
    have HO273 := n3_
    have HO279 := n4_
    have BK258 := n5_
    have BK262 := n6_
    have BK269 := n7_
    have HB := n8_
    clear n0_ n1_ n2_ n3_ n4_ n5_ n6_ n7_ n8_
    (try clear hb)
    (try clear hb2)
    (try clear hk)
    (try clear hi)
    refine hK.out _ _ ⟨(blk_cell BK258.out 0).trans rfl, (blk_cell BK258.out 1).trans rfl, (blk_cell BK262.out 0).trans rfl, (blk_cell BK262.out 1).trans rfl, (blk_cell BK269.out 0).trans rfl, (blk_cell BK269.out 1).trans rfl⟩ (fun hHeld => ?_)
    clear hK K
    refine norm_ (a' := ?_) ?_ ?_
    rotate_left
    ·show Act.put _ (some 40) _ = _
     simp only [Act.put, List.setIfInBounds_toArray, List.set_cons_zero, List.set_cons_succ, i64_w, i32_w]
     rfl
    refine pure_ (i := 12) (N := some 41) (v := ?_) (a' := ?_) #[true, true, true, true, true, true, true, true, true, true, true, true, true, false, false, false, false, false, false, false, false, false, false, false, false, false] rfl rfl (any_of HT_.out (by kernel_rfl)) (fun _ _ _ h => h) (Or.inl ⟨by rfl, ?_⟩) ?_ ?_
    rotate_left
    ·intro w'
     go_simp
     with_reducible rfl
    rotate_left
    ·simp only [Act.put, List.setIfInBounds_toArray, List.set_cons_zero, List.set_cons_succ, i64_w, i32_w]
     rfl
    refine pure_ (i := 13) (N := some 42) (v := ?_) (a' := ?_) #[true, true, true, true, true, true, true, true, true, true, true, true, true, true, false, false, false, false, false, false, false, false, false, false, false, false] rfl rfl (any_of HT_.out (by kernel_rfl)) (fun _ _ _ h => h) (Or.inl ⟨by rfl, ?_⟩) ?_ ?_
    rotate_left
    ·intro w'
     go_simp
     with_reducible rfl
    rotate_left
    ·simp only [Act.put, List.setIfInBounds_toArray, List.set_cons_zero, List.set_cons_succ, i64_w, i32_w]
     rfl
    refine pure_ (i := 14) (N := some 43) (v := ?_) (a' := ?_) #[true, true, true, true, true, true, true, true, true, true, true, true, true, true, true, false, false, false, false, false, false, false, false, false, false, false] rfl rfl (any_of HT_.out (by kernel_rfl)) (fun _ _ _ h => h) (Or.inl ⟨by rfl, ?_⟩) ?_ ?_
    rotate_left
    ·intro w'
     go_simp
     with_reducible rfl
    rotate_left
    ·simp only [Act.put, List.setIfInBounds_toArray, List.set_cons_zero, List.set_cons_succ, i64_w, i32_w]
     rfl
    refine take_ (i := 15) (N := some 44) (v := ?_) (a' := ?_) #[true, true, true, true, true, true, true, true, true, true, true, true, true, true, true, true, false, false, false, false, false, false, false, false, false, false] rfl rfl (take_ofW HT_.out HW_.out (by kernel_rfl)) (fun _ _ _ h => h) (Or.inl ⟨by rfl, ?_⟩) hHeld ?_ ?_
    rotate_left
    ·rintro w' ⟨s0, s1, s2, s3, s4, s5⟩
     go_simp
     with_reducible rfl
    rotate_left
    ·simp only [Act.put, List.setIfInBounds_toArray, List.set_cons_zero, List.set_cons_succ, i64_w, i32_w]
     rfl
    refine take_ (i := 18) (N := some 47) (v := ?_) (a' := ?_) #[true, true, true, true, true, true, true, true, true, true, true, true, true, true, true, true, false, false, true, false, false, false, false, false, false, false] rfl rfl (take_ofW HT_.out HW_.out (by kernel_rfl)) (fun _ _ _ h => h) (Or.inl ⟨by rfl, ?_⟩) hHeld ?_ ?_
    rotate_left
    ·rintro w' ⟨s0, s1, s2, s3, s4, s5⟩
     go_simp
     with_reducible rfl
    rotate_left
    ·simp only [Act.put, List.setIfInBounds_toArray, List.set_cons_zero, List.set_cons_succ, i64_w, i32_w]
     rfl
    refine one_ (i := 16) (N := some 45) #[true, true, true, true, true, true, true, true, true, true, true, true, true, true, true, true, true, false, true, false, false, false, false, false, false, false] rfl rfl (one_of HT_.out (by kernel_rfl)) (by decide) (fun K hK => ?_)
    refine goes_ Try.func15 (by kernel_rfl) rfl #[.agg #[.int .i64 t263, .slice Ao66 y266.length co66]] (by rfl) rfl rfl aq ?_
    with_reducible refine (intervalmonlaw29_graph.calls t263 (fun k_ => some k_ = (.slice Ao66 y266.length co66 : Value).ownBlock) _ _ y266 t282 t283 _ ?side1 A17.out).mono ?_
    (case side1 => exact Kd.R_V (Kd.R_tight rfl (Kd.R_types (Kd.R_types (Kd.R_types (HO268.out) BK258.out (by decide)) BK262.out (by decide)) BK269.out (by decide))))
    rintro e w81 ⟨v284, rfl, ho0, hb⟩
    refine ⟨_, rfl, ?_⟩
    have n0_ := Aside0.mk (Kd.R_below (rq HO257) hb)
    have n1_ := Aside0.mk (Kd.R_below (rq HO261) hb)
    have n2_ := Aside0.mk (Kd.R_below (rq HO268) hb)
    have n3_ := Aside0.mk (Kd.V_below (vq HO273) hb)
    have n4_ := Aside0.mk (Kd.V_below (vq HO279) hb)
    have n5_ := Aside0.mk (Kd.V_lower (Kd.V_mono (ok' := fun k_ => some k_ ≠ (.slice Ao57 t255.length co57 : Value).ownBlock ∧ some k_ ≠ (.slice Ao60 y259.length co60 : Value).ownBlock ∧ k_ ≠ gb258 ∧ k_ ≠ gb262 ∧ k_ ≠ gb269) ho0 (fun k_ hk_ => ⟨Or.elim hk_ (fun hs_ => ((Kd.R_types (Kd.R_types (Kd.R_types (HO268.out) BK258.out (by decide)) BK262.out (by decide)) BK269.out (by decide)).1 k_ hs_.symm).1.1.1.1) (fun hn_ => (Kd.fresh' (Kd.R_lt (rq HO257)) k_ hn_)), Or.elim hk_ (fun hs_ => ((Kd.R_types (Kd.R_types (Kd.R_types (HO268.out) BK258.out (by decide)) BK262.out (by decide)) BK269.out (by decide)).1 k_ hs_.symm).1.1.1.2) (fun hn_ => (Kd.fresh' (Kd.R_lt (rq HO261)) k_ hn_)), Or.elim hk_ (fun hs_ => ((Kd.R_types (Kd.R_types (Kd.R_types (HO268.out) BK258.out (by decide)) BK262.out (by decide)) BK269.out (by decide)).1 k_ hs_.symm).1.1.2) (fun hn_ => (Kd.freshB (g := gb258) (o := .cells #[.int .i64 t254, .slice Ao57 t255.length co57] 25 (0, 0)) (bq BK258) k_ hn_)), Or.elim hk_ (fun hs_ => ((Kd.R_types (Kd.R_types (Kd.R_types (HO268.out) BK258.out (by decide)) BK262.out (by decide)) BK269.out (by decide)).1 k_ hs_.symm).1.2) (fun hn_ => (Kd.freshB (g := gb262) (o := .cells #[.int .i64 a1, .slice Ao60 y259.length co60] 25 (0, 0)) (bq BK262) k_ hn_)), Or.elim hk_ (fun hs_ => ((Kd.R_types (Kd.R_types (Kd.R_types (HO268.out) BK258.out (by decide)) BK262.out (by decide)) BK269.out (by decide)).1 k_ hs_.symm).2) (fun hn_ => (Kd.freshB (g := gb269) (o := .cells #[.int .i64 t263, .slice Ao66 y266.length co66] 25 (0, 0)) (bq BK269) k_ hn_))⟩)) (below_size (hq HB)))
    have n6_ := Aside0.mk (blk_below (g := gb258) (o := .cells #[.int .i64 t254, .slice Ao57 t255.length co57] 25 (0, 0)) (bq BK258) hb)
    have n7_ := Aside0.mk (blk_below (g := gb262) (o := .cells #[.int .i64 a1, .slice Ao60 y259.length co60] 25 (0, 0)) (bq BK262) hb)
    have n8_ := Aside0.mk (blk_below (g := gb269) (o := .cells #[.int .i64 t263, .slice Ao66 y266.length co66] 25 (0, 0)) (bq BK269) hb)
    have n9_ := Aside0.mk (below_step (hq HB) hb)
    clear HO257
    clear HO261
    clear HO268
    clear HO273
    clear HO279
    clear BK258
    clear BK262
    clear BK269
    clear HB
    have HO257 := n0_
    have HO261 := n1_
    have HO268 := n2_
    have HO273 := n3_
    have HO279 := n4_
    have HO285 := n5_
    have BK258 := n6_
    have BK262 := n7_
    have BK269 := n8_
    have HB := n9_
    clear n0_ n1_ n2_ n3_ n4_ n5_ n6_ n7_ n8_ n9_
    (try clear hb)
    (try clear hb2)
    (try clear hk)
    (try clear hi)
    (try clear ho0)
    obtain ⟨Ao82, co82, eo82⟩ := Kd.V_slice HO285.out
    (first | subst eo82 | (injection eo82 with f1_ f2_ f3_; have f4_ := f1_.symm; have f5_ := f3_.symm; clear f1_ f2_ f3_; subst f4_; subst f5_))
    refine hK.out _ _ ⟨(blk_cell BK258.out 0).trans rfl, (blk_cell BK258.out 1).trans rfl, (blk_cell BK262.out 0).trans rfl, (blk_cell BK262.out 1).trans rfl, (blk_cell BK269.out 0).trans rfl, (blk_cell BK269.out 1).trans rfl⟩ (fun hHeld => ?_)
    clear hK K
    refine norm_ (a' := ?_) ?_ ?_
    rotate_left
    ·show Act.put _ (some 45) _ = _
     simp only [Act.put, List.setIfInBounds_toArray, List.set_cons_zero, List.set_cons_succ, i64_w, i32_w]
     rfl
    refine one_ (i := 17) (N := some 46) #[true, true, true, true, true, true, true, true, true, true, true, true, true, true, true, true, true, true, true, false, false, false, false, false, false, false] rfl rfl (one_of HT_.out (by kernel_rfl)) (by decide) (fun K hK => ?_)
    refine goes_ Try.func14 (by kernel_rfl) rfl #[.agg #[.int .i64 t282, .slice Ao82 t283.length co82]] (by rfl) rfl rfl aq ?_
    with_reducible refine (route_Valid.calls k t282 _ _ t283 t286 _ ?side1 ?side2 A18.out).mono ?_
    (case side1 => repeat (first | exact (Kd.V_reads' HO285.out).2.2 | (with_reducible refine Kd.C_alloc ?_ _) | (with_reducible refine Kd.C_drewN ?_ _) | (with_reducible refine Kd.C_drew ?_)))
    (case side2 => exact (Kd.V_reads' HO285.out).2.1)
    rintro e w83 ⟨rfl, hb⟩
    refine ⟨_, rfl, ?_⟩
    have n0_ := Aside0.mk (Kd.R_below (rq HO257) hb)
    have n1_ := Aside0.mk (Kd.R_below (rq HO261) hb)
    have n2_ := Aside0.mk (Kd.R_below (rq HO268) hb)
    have n3_ := Aside0.mk (Kd.V_below (vq HO273) hb)
    have n4_ := Aside0.mk (Kd.V_below (vq HO279) hb)
    have n5_ := Aside0.mk (Kd.V_below (vq HO285) hb)
    have n6_ := Aside0.mk (blk_below (g := gb258) (o := .cells #[.int .i64 t254, .slice Ao57 t255.length co57] 25 (0, 0)) (bq BK258) hb)
    have n7_ := Aside0.mk (blk_below (g := gb262) (o := .cells #[.int .i64 a1, .slice Ao60 y259.length co60] 25 (0, 0)) (bq BK262) hb)
    have n8_ := Aside0.mk (blk_below (g := gb269) (o := .cells #[.int .i64 t263, .slice Ao66 y266.length co66] 25 (0, 0)) (bq BK269) hb)
    have n9_ := Aside0.mk (below_step (hq HB) hb)
    clear HO257
    clear HO261
    clear HO268
    clear HO273
    clear HO279
    clear HO285
    clear BK258
    clear BK262
    clear BK269
    clear HB
    have HO257 := n0_
    have HO261 := n1_
    have HO268 := n2_
    have HO273 := n3_
    have HO279 := n4_
    have HO285 := n5_
    have BK258 := n6_
    have BK262 := n7_
    have BK269 := n8_
    have HB := n9_
    clear n0_ n1_ n2_ n3_ n4_ n5_ n6_ n7_ n8_ n9_
    (try clear hb)
    (try clear hb2)
    (try clear hk)
    (try clear hi)
    refine hK.out _ _ ⟨(blk_cell BK258.out 0).trans rfl, (blk_cell BK258.out 1).trans rfl, (blk_cell BK262.out 0).trans rfl, (blk_cell BK262.out 1).trans rfl, (blk_cell BK269.out 0).trans rfl, (blk_cell BK269.out 1).trans rfl⟩ (fun hHeld => ?_)
    clear hK K
    refine norm_ (a' := ?_) ?_ ?_
    rotate_left
    ·show Act.put _ (some 46) _ = _
     simp only [Act.put, List.setIfInBounds_toArray, List.set_cons_zero, List.set_cons_succ, i64_w, i32_w]
     rfl
    refine one_ (i := 19) (N := some 48) #[true, true, true, true, true, true, true, true, true, true, true, true, true, true, true, true, true, true, true, true, false, false, false, false, false, false] rfl rfl (one_of HT_.out (by kernel_rfl)) (by decide) (fun K hK => ?_)
    refine goes_ Try.func16 (by kernel_rfl) rfl #[.agg #[.int .i64 t263, .slice Ao66 y266.length co66]] (by rfl) rfl rfl aq ?_
    with_reducible refine (intervalmonref29_Valid.calls k t263 _ _ y266 t287 _ ?side1 ?side2 A19.out).mono ?_
    (case side1 => repeat (first | exact (Kd.R_reads' HO268.out).2.2 | (with_reducible refine Kd.C_alloc ?_ _) | (with_reducible refine Kd.C_drewN ?_ _) | (with_reducible refine Kd.C_drew ?_)))
    (case side2 => exact (Kd.R_reads' HO268.out).2.1)
    rintro e w84 ⟨rfl, hb⟩
    refine ⟨_, rfl, ?_⟩
    have n0_ := Aside0.mk (Kd.R_below (rq HO257) hb)
    have n1_ := Aside0.mk (Kd.R_below (rq HO261) hb)
    have n2_ := Aside0.mk (Kd.R_below (rq HO268) hb)
    have n3_ := Aside0.mk (Kd.V_below (vq HO273) hb)
    have n4_ := Aside0.mk (Kd.V_below (vq HO279) hb)
    have n5_ := Aside0.mk (Kd.V_below (vq HO285) hb)
    have n6_ := Aside0.mk (blk_below (g := gb258) (o := .cells #[.int .i64 t254, .slice Ao57 t255.length co57] 25 (0, 0)) (bq BK258) hb)
    have n7_ := Aside0.mk (blk_below (g := gb262) (o := .cells #[.int .i64 a1, .slice Ao60 y259.length co60] 25 (0, 0)) (bq BK262) hb)
    have n8_ := Aside0.mk (blk_below (g := gb269) (o := .cells #[.int .i64 t263, .slice Ao66 y266.length co66] 25 (0, 0)) (bq BK269) hb)
    have n9_ := Aside0.mk (below_step (hq HB) hb)
    clear HO257
    clear HO261
    clear HO268
    clear HO273
    clear HO279
    clear HO285
    clear BK258
    clear BK262
    clear BK269
    clear HB
    have HO257 := n0_
    have HO261 := n1_
    have HO268 := n2_
    have HO273 := n3_
    have HO279 := n4_
    have HO285 := n5_
    have BK258 := n6_
    have BK262 := n7_
    have BK269 := n8_
    have HB := n9_
    clear n0_ n1_ n2_ n3_ n4_ n5_ n6_ n7_ n8_ n9_
    (try clear hb)
    (try clear hb2)
    (try clear hk)
    (try clear hi)
    refine hK.out _ _ ⟨(blk_cell BK258.out 0).trans rfl, (blk_cell BK258.out 1).trans rfl, (blk_cell BK262.out 0).trans rfl, (blk_cell BK262.out 1).trans rfl, (blk_cell BK269.out 0).trans rfl, (blk_cell BK269.out 1).trans rfl⟩ (fun hHeld => ?_)
    clear hK K
    refine norm_ (a' := ?_) ?_ ?_
    rotate_left
    ·show Act.put _ (some 48) _ = _
     simp only [Act.put, List.setIfInBounds_toArray, List.set_cons_zero, List.set_cons_succ, i64_w, i32_w]
     rfl
    refine pure_ (i := 20) (N := some 49) (v := ?_) (a' := ?_) #[true, true, true, true, true, true, true, true, true, true, true, true, true, true, true, true, true, true, true, true, true, false, false, false, false, false] rfl rfl (any_of HT_.out (by kernel_rfl)) (fun _ _ _ h => h) (Or.inl ⟨by rfl, ?_⟩) ?_ ?_
    rotate_left
    ·intro w'
     go_simp
     with_reducible rfl
    rotate_left
    ·simp only [Act.put, List.setIfInBounds_toArray, List.set_cons_zero, List.set_cons_succ, i64_w, i32_w]
     rfl
    refine pure_ (i := 21) (N := some 50) (v := ?_) (a' := ?_) #[true, true, true, true, true, true, true, true, true, true, true, true, true, true, true, true, true, true, true, true, true, true, false, false, false, false] rfl rfl (any_of HT_.out (by kernel_rfl)) (fun _ _ _ h => h) (Or.inl ⟨by rfl, ?_⟩) ?_ ?_
    rotate_left
    ·intro w'
     go_simp
     with_reducible rfl
    rotate_left
    ·simp only [Act.put, List.setIfInBounds_toArray, List.set_cons_zero, List.set_cons_succ, i64_w, i32_w]
     rfl
    refine pure_ (i := 22) (N := some 51) (v := ?_) (a' := ?_) #[true, true, true, true, true, true, true, true, true, true, true, true, true, true, true, true, true, true, true, true, true, true, true, false, false, false] rfl rfl (any_of HT_.out (by kernel_rfl)) (fun _ _ _ h => h) (Or.inl ⟨by rfl, ?_⟩) ?_ ?_
    rotate_left
    ·intro w'
     go_simp
     with_reducible rfl
    rotate_left
    ·simp only [Act.put, List.setIfInBounds_toArray, List.set_cons_zero, List.set_cons_succ, i64_w, i32_w]
     rfl
    refine pure_ (i := 23) (N := some 52) (v := undef) (a' := ?_) #[true, true, true, true, true, true, true, true, true, true, true, true, true, true, true, true, true, true, true, true, true, true, true, true, false, false] rfl rfl (any_of HT_.out (by kernel_rfl)) (fun _ _ _ h => h) (Or.inr ⟨by rfl, rfl⟩) ?_ ?_
    rotate_left
    ·simp only [Act.put, List.setIfInBounds_toArray, List.set_cons_zero, List.set_cons_succ, i64_w, i32_w]
     rfl
    refine pure_ (i := 24) (N := some 53) (v := ?_) (a' := ?_) #[true, true, true, true, true, true, true, true, true, true, true, true, true, true, true, true, true, true, true, true, true, true, true, true, true, false] rfl rfl (any_of HT_.out (by kernel_rfl)) (fun _ _ _ h => h) (Or.inl ⟨by rfl, ?_⟩) ?_ ?_
    rotate_left
    ·intro w'
     go_simp
     with_reducible rfl
    rotate_left
    ·simp only [Act.put, List.setIfInBounds_toArray, List.set_cons_zero, List.set_cons_succ, i64_w, i32_w]
     rfl
    refine pure_ (i := 25) (N := some 8) (v := ?_) (a' := ?_) #[true, true, true, true, true, true, true, true, true, true, true, true, true, true, true, true, true, true, true, true, true, true, true, true, true, true] rfl rfl (any_of HT_.out (by kernel_rfl)) (fun _ _ _ h => h) (Or.inl ⟨by rfl, ?_⟩) ?_ ?_
    rotate_left
    ·intro w'
     go_simp
     with_reducible rfl
    rotate_left
    ·simp only [Act.put, List.setIfInBounds_toArray, List.set_cons_zero, List.set_cons_succ, i64_w, i32_w]
     rfl
    refine done_ (done_of HT_.out (by kernel_rfl)) ?_
    try go_wp2
    go_ret
    exact ⟨by first | rfl | (simp [errW_none, errW_some] <;> rfl) | (simp [*, errW_none, errW_some] <;> rfl), by repeat (first | (with_reducible first | exact HB.out | apply below_alloc | apply pw_below_drewN | apply below_drew1 | refine below_set ?_ GE258.out | refine below_set ?_ GE262.out | refine below_set ?_ GE269.out) | exact HB.out)⟩
  ·rw [if_neg c16] at H
   have c16b0 : (t280 == t281) = false := beq_eq_false_iff_ne.mpr c16
   have c16b1 : (t280 != t281) = true := bne_iff_ne.mpr c16
   obtain rfl := Option.some.inj H
   go_enter Try.func3, Try.ntmps3
   try go_wp2_with (first | ((with_reducible refine gate_callee (f := 12) rfl ?_); refine goesL_ (some 13) rfl rfl Try.func12 (by kernel_rfl) rfl #[.slice A0 l0.length c0] rfl aq ?_; (with_reducible refine (intervalmonref29_Any.calls k _ _ l0 t254 t255 _ ?side1 ?side2 A5.out).mono ?_); (case side1 => repeat (first | exact HR0.out | (with_reducible refine Kd.C_alloc ?_ _) | (with_reducible refine Kd.C_drewN ?_ _) | (with_reducible refine Kd.C_drew ?_))); (case side2 => exact HC0.out); rintro e w85 ⟨v256, rfl, ho0, hb⟩; refine ⟨_, rfl, ?_⟩; have n0_ := Aside0.mk (Kd.R_lower ho0 (below_size (hq HB))); have n1_ := Aside0.mk (below_step (hq HB) hb); clear HB; have HO257 := n0_; have HB := n1_; clear n0_ n1_; (try clear hb); (try clear hb2); (try clear hk); (try clear hi); (try clear ho0)) | ((with_reducible refine gate_dst (N := 9) rfl ?_); refine box_event ?hg (N := 9) ?hd (cs := #[.int .i64 0, .slice none 0 0]) (t := 25) ?hr ?_; (case hd => rfl); (case hg => rfl); (case hr => first | (go_simp; done) | (go_simp; rfl)); intro gb258 hg w86 hbox hb; have n0_ := Aside0.mk (Kd.R_below (rq HO257) hb); have n1_ := Aside0.mk (below_step (hq HB) hb); have n2_ := Aside0.mk (hbox); have n3_ := Aside0.mk ((by rw [hg]; exact (below_size (hq HB)) : w.heap.size ≤ gb258)); have n4_ := Aside0.mk ((by rw [hg]; exact (below_size (hq HB)) : w.heap.size ≤ gb258)); clear HO257; clear HB; have HO257 := n0_; have HB := n1_; have BK258 := n2_; have GW258 := n3_; have GE258 := n4_; clear n0_ n1_ n2_ n3_ n4_; clear hb hbox hg; have hcz87_0 : w86.cell? ⟨gb258, 0, none⟩ = some (.int .i64 0) := (blk_cell BK258.out 0).trans rfl; have hcz87_1 : w86.cell? ⟨gb258, 1, none⟩ = some (.slice none 0 0) := (blk_cell BK258.out 1).trans rfl; have hfz87_0 := blk_frozen BK258.out 0; have hfz87_1 := blk_frozen BK258.out 1; obtain ⟨Ao88, co88, eo88⟩ := Kd.R_slice HO257.out; subst eo88) | ((with_reducible refine gate_dst (N := 18) rfl ?_); refine Kd.R_lit k27 _ 27 ?hg (N := 18) ?hd (xs := ([(⟨a2, a3⟩ : S27)] : List (S27))) (inner := [.int .i64 a2, .int .i64 a3]) (ok := fun _ => True) (okp := fun _ => True) ?hr ?hp (fun _ hk => hk) trivial (Below.refl _ _) (Nat.le_refl _) (by simp) ?_; (case hd => rfl); (case hg => rfl); (case hr => first | (go_simp; done) | (go_simp; rfl)); (case hp => exact (Reps.c2 (show Kd.M k27 _ _ _ (⟨a2, a3⟩ : S27) [.int .i64 a2, .int .i64 a3] from (k27_mkM _ _ _ (⟨a2, a3⟩ : S27) )) (Reps.none _ _))); intro v260 w89 ho90 hb hg_ hnew_; clear hg_ hnew_; (first | rw [← Ny259.out] at ho90 | (simp only [Int.reduceToNat] at ho90; rw [← Ny259.out] at ho90)); have n0_ := Aside0.mk (Kd.R_elder' (by (with_reducible repeat (first | apply Kd.R_alloc | apply Kd.R_drewN | apply Kd.R_drew)); exact (Kd.R_mono (Kd.R_far (p := ⟨gb258, 1, none⟩) (Kd.R_far (p := ⟨gb258, 0, none⟩) (Kd.R_types HO257.out BK258.out (by decide)) (fun _ hk => hk.2) (.int .i64 t254)) (fun _ hk => hk.2) (.slice Ao88 t255.length co88)) (fun _ h_ => h_.1))) (Kd.R_base ho90) hb); have n1_ := Aside0.mk (Kd.R_lower (Kd.R_new' ho90 (Kd.R_lt (by (with_reducible repeat (first | apply Kd.R_alloc | apply Kd.R_drewN | apply Kd.R_drew)); exact (Kd.R_mono (Kd.R_far (p := ⟨gb258, 1, none⟩) (Kd.R_far (p := ⟨gb258, 0, none⟩) (Kd.R_types HO257.out BK258.out (by decide)) (fun _ hk => hk.2) (.int .i64 t254)) (fun _ hk => hk.2) (.slice Ao88 t255.length co88)) (fun _ h_ => h_.1))))) (below_size (hq HB))); have n2_ := Aside0.mk (blk_below (g := gb258) (o := .cells #[.int .i64 t254, .slice Ao88 t255.length co88] 25 (0, 0)) (by (with_reducible repeat (first | refine blk_drewN ?_ _ | refine blk_drew ?_ | refine blk_alloc ?_ _)); refine blk_put (cs := #[.int .i64 t254, .slice none 0 0]) ?_ 1 _ rfl; (with_reducible repeat (first | refine blk_drewN ?_ _ | refine blk_drew ?_ | refine blk_alloc ?_ _)); refine blk_put (cs := #[.int .i64 0, .slice none 0 0]) ?_ 0 _ rfl; (with_reducible repeat (first | refine blk_drewN ?_ _ | refine blk_drew ?_ | refine blk_alloc ?_ _)); exact BK258.out) hb); have n3_ := Aside0.mk (below_step (hq HB) hb); clear HO257; clear BK258; clear HB; have HO257 := n0_; have HO261 := n1_; have BK258 := n2_; have HB := n3_; clear n0_ n1_ n2_ n3_; clear hb ho90; obtain ⟨Ao91, co91, eo91⟩ := Kd.R_slice HO261.out; subst eo91) | ((with_reducible refine gate_dst (N := 10) rfl ?_); refine box_event ?hg (N := 10) ?hd (cs := #[.int .i64 0, .slice none 0 0]) (t := 25) ?hr ?_; (case hd => rfl); (case hg => rfl); (case hr => first | (go_simp; done) | (go_simp; rfl)); intro gb262 hg w92 hbox hb; have n0_ := Aside0.mk (Kd.R_below (rq HO257) hb); have n1_ := Aside0.mk (Kd.R_below (rq HO261) hb); have n2_ := Aside0.mk (blk_below (g := gb258) (o := .cells #[.int .i64 t254, .slice Ao88 t255.length co88] 25 (0, 0)) (bq BK258) hb); have n3_ := Aside0.mk (below_step (hq HB) hb); have n4_ := Aside0.mk (hbox); have n5_ := Aside0.mk ((by rw [hg]; exact (below_size (hq HB)) : w.heap.size ≤ gb262)); have n6_ := Aside0.mk ((by rw [hg]; exact (below_size (hq HB)) : w.heap.size ≤ gb262)); have n7_ := Aside0.mk ((by rw [hg]; exact Nat.ne_of_lt (blk_lt (g := gb258) (o := .cells #[.int .i64 t254, .slice Ao88 t255.length co88] 25 (0, 0)) (bq BK258)) : gb258 ≠ gb262)); have n8_ := Aside0.mk ((by rw [hg]; exact Nat.ne_of_gt (blk_lt (g := gb258) (o := .cells #[.int .i64 t254, .slice Ao88 t255.length co88] 25 (0, 0)) (bq BK258)) : gb262 ≠ gb258)); clear HO257; clear HO261; clear BK258; clear HB; have HO257 := n0_; have HO261 := n1_; have BK258 := n2_; have HB := n3_; have BK262 := n4_; have GW262 := n5_; have GE262 := n6_; have NB258_262 := n7_; have NB262_258 := n8_; clear n0_ n1_ n2_ n3_ n4_ n5_ n6_ n7_ n8_; clear hb hbox hg; have hnb93 := NB262_258.out; have hnc93 := NB258_262.out; have hcz94_0 : w92.cell? ⟨gb262, 0, none⟩ = some (.int .i64 0) := (blk_cell BK262.out 0).trans rfl; have hcz94_1 : w92.cell? ⟨gb262, 1, none⟩ = some (.slice none 0 0) := (blk_cell BK262.out 1).trans rfl; have hfz94_0 := blk_frozen BK262.out 0; have hfz94_1 := blk_frozen BK262.out 1) | ((with_reducible refine gate_callee (f := 13) rfl ?_); refine goesL_ (some 21) rfl rfl Try.func13 (by kernel_rfl) rfl #[.int .i64 a1, .int .i64 210] rfl aq ?_; (with_reducible refine (intervalmonref01_Around.calls a1 210 t263 _ A6.out).mono ?_); rintro e w' ⟨rfl, ⟨nd, rfl⟩⟩; refine ⟨_, rfl, ?_⟩) | ((with_reducible refine gate_callee (f := 13) rfl ?_); refine goesL_ (some 23) rfl rfl Try.func13 (by kernel_rfl) rfl #[.int .i64 a2, .int .i64 210] rfl aq ?_; (with_reducible refine (intervalmonref01_Around.calls a2 210 t264 _ A7.out).mono ?_); rintro e w' ⟨rfl, ⟨nd, rfl⟩⟩; refine ⟨_, rfl, ?_⟩) | ((with_reducible refine gate_callee (f := 13) rfl ?_); refine goesL_ (some 25) rfl rfl Try.func13 (by kernel_rfl) rfl #[.int .i64 a3, .int .i64 210] rfl aq ?_; (with_reducible refine (intervalmonref01_Around.calls a3 210 t265 _ A8.out).mono ?_); rintro e w' ⟨rfl, ⟨nd, rfl⟩⟩; refine ⟨_, rfl, ?_⟩) | ((with_reducible refine gate_dst (N := 27) rfl ?_); refine Kd.R_lit k27 _ 27 ?hg (N := 27) ?hd (xs := ([(⟨t264, t265⟩ : S27)] : List (S27))) (inner := [.int .i64 t264, .int .i64 t265]) (ok := fun _ => True) (okp := fun _ => True) ?hr ?hp (fun _ hk => hk) trivial (Below.refl _ _) (Nat.le_refl _) (by simp) ?_; (case hd => rfl); (case hg => rfl); (case hr => first | (go_simp; done) | (go_simp; rfl)); (case hp => exact (Reps.c2 (show Kd.M k27 _ _ _ (⟨t264, t265⟩ : S27) [.int .i64 t264, .int .i64 t265] from (k27_mkM _ _ _ (⟨t264, t265⟩ : S27) )) (Reps.none _ _))); intro v267 w95 ho96 hb hg_ hnew_; clear hg_ hnew_; (first | rw [← Ny266.out] at ho96 | (simp only [Int.reduceToNat] at ho96; rw [← Ny266.out] at ho96)); have n0_ := Aside0.mk (Kd.R_elder' (by (with_reducible repeat (first | apply Kd.R_alloc | apply Kd.R_drewN | apply Kd.R_drew)); exact (Kd.R_mono (Kd.R_far (p := ⟨gb262, 1, none⟩) (Kd.R_far (p := ⟨gb262, 0, none⟩) (Kd.R_types HO257.out BK262.out (by decide)) (fun _ hk => hk.2) (.int .i64 a1)) (fun _ hk => hk.2) (.slice Ao91 y259.length co91)) (fun _ h_ => h_.1))) (Kd.R_base ho96) hb); have n1_ := Aside0.mk (Kd.R_elder' (by (with_reducible repeat (first | apply Kd.R_alloc | apply Kd.R_drewN | apply Kd.R_drew)); exact (Kd.R_mono (Kd.R_far (p := ⟨gb262, 1, none⟩) (Kd.R_far (p := ⟨gb262, 0, none⟩) (Kd.R_types HO261.out BK262.out (by decide)) (fun _ hk => hk.2) (.int .i64 a1)) (fun _ hk => hk.2) (.slice Ao91 y259.length co91)) (fun _ h_ => h_.1))) (Kd.R_base ho96) hb); have n2_ := Aside0.mk (Kd.R_lower (Kd.R_new' (Kd.R_new' ho96 (Kd.R_lt (by (with_reducible repeat (first | apply Kd.R_alloc | apply Kd.R_drewN | apply Kd.R_drew)); exact (Kd.R_mono (Kd.R_far (p := ⟨gb262, 1, none⟩) (Kd.R_far (p := ⟨gb262, 0, none⟩) (Kd.R_types HO257.out BK262.out (by decide)) (fun _ hk => hk.2) (.int .i64 a1)) (fun _ hk => hk.2) (.slice Ao91 y259.length co91)) (fun _ h_ => h_.1))))) (Kd.R_lt (by (with_reducible repeat (first | apply Kd.R_alloc | apply Kd.R_drewN | apply Kd.R_drew)); exact (Kd.R_mono (Kd.R_far (p := ⟨gb262, 1, none⟩) (Kd.R_far (p := ⟨gb262, 0, none⟩) (Kd.R_types HO261.out BK262.out (by decide)) (fun _ hk => hk.2) (.int .i64 a1)) (fun _ hk => hk.2) (.slice Ao91 y259.length co91)) (fun _ h_ => h_.1))))) (below_size (hq HB))); have n3_ := Aside0.mk (blk_below (g := gb258) (o := .cells #[.int .i64 t254, .slice Ao88 t255.length co88] 25 (0, 0)) (by (with_reducible repeat (first | refine blk_drewN ?_ _ | refine blk_drew ?_ | refine blk_alloc ?_ _)); refine blk_far ?_ NB258_262.out _; (with_reducible repeat (first | refine blk_drewN ?_ _ | refine blk_drew ?_ | refine blk_alloc ?_ _)); refine blk_far ?_ NB258_262.out _; (with_reducible repeat (first | refine blk_drewN ?_ _ | refine blk_drew ?_ | refine blk_alloc ?_ _)); exact BK258.out) hb); have n4_ := Aside0.mk (blk_below (g := gb262) (o := .cells #[.int .i64 a1, .slice Ao91 y259.length co91] 25 (0, 0)) (by (with_reducible repeat (first | refine blk_drewN ?_ _ | refine blk_drew ?_ | refine blk_alloc ?_ _)); refine blk_put (cs := #[.int .i64 a1, .slice none 0 0]) ?_ 1 _ rfl; (with_reducible repeat (first | refine blk_drewN ?_ _ | refine blk_drew ?_ | refine blk_alloc ?_ _)); refine blk_put (cs := #[.int .i64 0, .slice none 0 0]) ?_ 0 _ rfl; (with_reducible repeat (first | refine blk_drewN ?_ _ | refine blk_drew ?_ | refine blk_alloc ?_ _)); exact BK262.out) hb); have n5_ := Aside0.mk (below_step (hq HB) hb); clear HO257; clear HO261; clear BK258; clear BK262; clear HB; have HO257 := n0_; have HO261 := n1_; have HO268 := n2_; have BK258 := n3_; have BK262 := n4_; have HB := n5_; clear n0_ n1_ n2_ n3_ n4_ n5_; clear hb ho96; obtain ⟨Ao97, co97, eo97⟩ := Kd.R_slice HO268.out; subst eo97) | ((with_reducible refine gate_dst (N := 11) rfl ?_); refine box_event ?hg (N := 11) ?hd (cs := #[.int .i64 0, .slice none 0 0]) (t := 25) ?hr ?_; (case hd => rfl); (case hg => rfl); (case hr => first | (go_simp; done) | (go_simp; rfl)); intro gb269 hg w98 hbox hb; have n0_ := Aside0.mk (Kd.R_below (rq HO257) hb); have n1_ := Aside0.mk (Kd.R_below (rq HO261) hb); have n2_ := Aside0.mk (Kd.R_below (rq HO268) hb); have n3_ := Aside0.mk (blk_below (g := gb258) (o := .cells #[.int .i64 t254, .slice Ao88 t255.length co88] 25 (0, 0)) (bq BK258) hb); have n4_ := Aside0.mk (blk_below (g := gb262) (o := .cells #[.int .i64 a1, .slice Ao91 y259.length co91] 25 (0, 0)) (bq BK262) hb); have n5_ := Aside0.mk (below_step (hq HB) hb); have n6_ := Aside0.mk (hbox); have n7_ := Aside0.mk ((by rw [hg]; exact (below_size (hq HB)) : w.heap.size ≤ gb269)); have n8_ := Aside0.mk ((by rw [hg]; exact (below_size (hq HB)) : w.heap.size ≤ gb269)); have n9_ := Aside0.mk ((by rw [hg]; exact Nat.ne_of_lt (blk_lt (g := gb258) (o := .cells #[.int .i64 t254, .slice Ao88 t255.length co88] 25 (0, 0)) (bq BK258)) : gb258 ≠ gb269)); have n10_ := Aside0.mk ((by rw [hg]; exact Nat.ne_of_gt (blk_lt (g := gb258) (o := .cells #[.int .i64 t254, .slice Ao88 t255.length co88] 25 (0, 0)) (bq BK258)) : gb269 ≠ gb258)); have n11_ := Aside0.mk ((by rw [hg]; exact Nat.ne_of_lt (blk_lt (g := gb262) (o := .cells #[.int .i64 a1, .slice Ao91 y259.length co91] 25 (0, 0)) (bq BK262)) : gb262 ≠ gb269)); have n12_ := Aside0.mk ((by rw [hg]; exact Nat.ne_of_gt (blk_lt (g := gb262) (o := .cells #[.int .i64 a1, .slice Ao91 y259.length co91] 25 (0, 0)) (bq BK262)) : gb269 ≠ gb262)); clear HO257; clear HO261; clear HO268; clear BK258; clear BK262; clear HB; have HO257 := n0_; have HO261 := n1_; have HO268 := n2_; have BK258 := n3_; have BK262 := n4_; have HB := n5_; have BK269 := n6_; have GW269 := n7_; have GE269 := n8_; have NB258_269 := n9_; have NB269_258 := n10_; have NB262_269 := n11_; have NB269_262 := n12_; clear n0_ n1_ n2_ n3_ n4_ n5_ n6_ n7_ n8_ n9_ n10_ n11_ n12_; clear hb hbox hg; have hnb99 := NB269_258.out; have hnc99 := NB258_269.out; have hnb100 := NB269_262.out; have hnc100 := NB262_269.out; have hcz101_0 : w98.cell? ⟨gb269, 0, none⟩ = some (.int .i64 0) := (blk_cell BK269.out 0).trans rfl; have hcz101_1 : w98.cell? ⟨gb269, 1, none⟩ = some (.slice none 0 0) := (blk_cell BK269.out 1).trans rfl; have hfz101_0 := blk_frozen BK269.out 0; have hfz101_1 := blk_frozen BK269.out 1))
   have n0_ : Aside0 (Kd.R k27 27 ((w98.setCell ⟨gb269, 0, none⟩ (.int .i64 t263)).setCell ⟨gb269, 1, none⟩ (.slice Ao97 y266.length co97)) w.heap.size (fun k_ => some k_ ≠ (.slice Ao91 y259.length co91 : Value).ownBlock ∧ some k_ ≠ (.slice Ao97 y266.length co97 : Value).ownBlock) (.slice Ao88 t255.length co88) t255) := ⟨by (with_reducible repeat (first | apply Kd.R_alloc | apply Kd.R_drewN | apply Kd.R_drew)); exact Kd.R_mono (Kd.R_far (p := ⟨gb269, 1, none⟩) (Kd.R_far (p := ⟨gb269, 0, none⟩) (Kd.R_types HO257.out BK269.out (by decide)) (fun _ hk => hk.2) (.int .i64 t263)) (fun _ hk => hk.2) (.slice Ao97 y266.length co97)) (fun _ hk => ⟨hk.1.1.2, hk.1.2⟩)⟩
   have n1_ : Aside0 (Kd.R k27 27 ((w98.setCell ⟨gb269, 0, none⟩ (.int .i64 t263)).setCell ⟨gb269, 1, none⟩ (.slice Ao97 y266.length co97)) w.heap.size (fun k_ => some k_ ≠ (.slice Ao88 t255.length co88 : Value).ownBlock ∧ some k_ ≠ (.slice Ao97 y266.length co97 : Value).ownBlock) (.slice Ao91 y259.length co91) y259) := ⟨by (with_reducible repeat (first | apply Kd.R_alloc | apply Kd.R_drewN | apply Kd.R_drew)); exact Kd.R_mono (Kd.R_far (p := ⟨gb269, 1, none⟩) (Kd.R_far (p := ⟨gb269, 0, none⟩) (Kd.R_types HO261.out BK269.out (by decide)) (fun _ hk => hk.2) (.int .i64 t263)) (fun _ hk => hk.2) (.slice Ao97 y266.length co97)) (fun _ hk => ⟨hk.1.1.2, hk.1.2⟩)⟩
   have n2_ : Aside0 (Kd.R k27 27 ((w98.setCell ⟨gb269, 0, none⟩ (.int .i64 t263)).setCell ⟨gb269, 1, none⟩ (.slice Ao97 y266.length co97)) w.heap.size (fun k_ => some k_ ≠ (.slice Ao88 t255.length co88 : Value).ownBlock ∧ some k_ ≠ (.slice Ao91 y259.length co91 : Value).ownBlock) (.slice Ao97 y266.length co97) y266) := ⟨by (with_reducible repeat (first | apply Kd.R_alloc | apply Kd.R_drewN | apply Kd.R_drew)); exact Kd.R_mono (Kd.R_far (p := ⟨gb269, 1, none⟩) (Kd.R_far (p := ⟨gb269, 0, none⟩) (Kd.R_types HO268.out BK269.out (by decide)) (fun _ hk => hk.2) (.int .i64 t263)) (fun _ hk => hk.2) (.slice Ao97 y266.length co97)) (fun _ hk => ⟨hk.1.1.2, hk.1.2⟩)⟩
   have n3_ : Aside0 (((w98.setCell ⟨gb269, 0, none⟩ (.int .i64 t263)).setCell ⟨gb269, 1, none⟩ (.slice Ao97 y266.length co97)).heap[gb258]? = some (.cells #[.int .i64 t254, .slice Ao88 t255.length co88] 25 (0, 0))) := ⟨by (with_reducible repeat (first | refine blk_drewN ?_ _ | refine blk_drew ?_ | refine blk_alloc ?_ _)); refine blk_far ?_ NB258_269.out _; (with_reducible repeat (first | refine blk_drewN ?_ _ | refine blk_drew ?_ | refine blk_alloc ?_ _)); refine blk_far ?_ NB258_269.out _; (with_reducible repeat (first | refine blk_drewN ?_ _ | refine blk_drew ?_ | refine blk_alloc ?_ _)); exact BK258.out⟩
   have n4_ : Aside0 (((w98.setCell ⟨gb269, 0, none⟩ (.int .i64 t263)).setCell ⟨gb269, 1, none⟩ (.slice Ao97 y266.length co97)).heap[gb262]? = some (.cells #[.int .i64 a1, .slice Ao91 y259.length co91] 25 (0, 0))) := ⟨by (with_reducible repeat (first | refine blk_drewN ?_ _ | refine blk_drew ?_ | refine blk_alloc ?_ _)); refine blk_far ?_ NB262_269.out _; (with_reducible repeat (first | refine blk_drewN ?_ _ | refine blk_drew ?_ | refine blk_alloc ?_ _)); refine blk_far ?_ NB262_269.out _; (with_reducible repeat (first | refine blk_drewN ?_ _ | refine blk_drew ?_ | refine blk_alloc ?_ _)); exact BK262.out⟩
   have n5_ : Aside0 (((w98.setCell ⟨gb269, 0, none⟩ (.int .i64 t263)).setCell ⟨gb269, 1, none⟩ (.slice Ao97 y266.length co97)).heap[gb269]? = some (.cells #[.int .i64 t263, .slice Ao97 y266.length co97] 25 (0, 0))) := ⟨by (with_reducible repeat (first | refine blk_drewN ?_ _ | refine blk_drew ?_ | refine blk_alloc ?_ _)); refine blk_put (cs := #[.int .i64 t263, .slice none 0 0]) ?_ 1 _ rfl; (with_reducible repeat (first | refine blk_drewN ?_ _ | refine blk_drew ?_ | refine blk_alloc ?_ _)); refine blk_put (cs := #[.int .i64 0, .slice none 0 0]) ?_ 0 _ rfl; (with_reducible repeat (first | refine blk_drewN ?_ _ | refine blk_drew ?_ | refine blk_alloc ?_ _)); exact BK269.out⟩
   have n6_ : Aside0 (Below w.heap.size w ((w98.setCell ⟨gb269, 0, none⟩ (.int .i64 t263)).setCell ⟨gb269, 1, none⟩ (.slice Ao97 y266.length co97))) := ⟨by repeat (first | (with_reducible first | exact HB.out | apply below_alloc | apply pw_below_drewN | apply below_drew1 | refine below_set ?_ GE258.out | refine below_set ?_ GE262.out | refine below_set ?_ GE269.out) | exact HB.out)⟩
   (try clear HO257)
   (try clear HO261)
   (try clear HO268)
   (try clear BK258)
   (try clear BK262)
   (try clear BK269)
   (try clear HB)
   generalize ((w98.setCell ⟨gb269, 0, none⟩ (.int .i64 t263)).setCell ⟨gb269, 1, none⟩ (.slice Ao97 y266.length co97)) = w102 at n0_ n1_ n2_ n3_ n4_ n5_ n6_ ⊢
   have HO257 := n0_
   have HO261 := n1_
   have HO268 := n2_
   have BK258 := n3_
   have BK262 := n4_
   have BK269 := n5_
   have HB := n6_
   clear n0_ n1_ n2_ n3_ n4_ n5_ n6_
   have n0_ := Aside0.mk (Kd.R_drew HO257.out)
   have n1_ := Aside0.mk (Kd.R_drew HO261.out)
   have n2_ := Aside0.mk (Kd.R_drew HO268.out)
   have n3_ := Aside0.mk (blk_drew BK258.out)
   have n4_ := Aside0.mk (blk_drew BK262.out)
   have n5_ := Aside0.mk (blk_drew BK269.out)
   have n6_ := Aside0.mk (below_drew1 HB.out)
   clear HO257
   clear HO261
   clear HO268
   clear BK258
   clear BK262
   clear BK269
   clear HB
   have HO257 := n0_
   have HO261 := n1_
   have HO268 := n2_
   have BK258 := n3_
   have BK262 := n4_
   have BK269 := n5_
   have HB := n6_
   clear n0_ n1_ n2_ n3_ n4_ n5_ n6_
   refine start_ (n := 26) (S := fun w' => w'.cell? ⟨gb258, 0, none⟩ = some (.int .i64 t254) ∧ w'.cell? ⟨gb258, 1, none⟩ = some (.slice Ao88 t255.length co88) ∧ w'.cell? ⟨gb262, 0, none⟩ = some (.int .i64 a1) ∧ w'.cell? ⟨gb262, 1, none⟩ = some (.slice Ao91 y259.length co91)) (ds := []) #[false, false, false, false, false, false, false, false, false, false, false, false, false, false, false, false, false, false, false, false, false, false, false, false, false, false] (by kernel_rfl) rfl rfl ⟨(blk_cell BK258.out 0).trans rfl, (blk_cell BK258.out 1).trans rfl, (blk_cell BK262.out 0).trans rfl, (blk_cell BK262.out 1).trans rfl⟩ (fun hHeld => ?_); refine with_tabW intervalmonlaw29_RouteValid.tab4 intervalmonlaw29_RouteValid.bits4 (fun HT_ HW_ => ?_)
   generalize w102.drew = w103 at HO257 HO261 HO268 BK258 BK262 BK269 HB hHeld ⊢
   refine take_ (i := 0) (N := some 29) (v := ?_) (a' := ?_) #[true, false, false, false, false, false, false, false, false, false, false, false, false, false, false, false, false, false, false, false, false, false, false, false, false, false] rfl rfl (take_ofW HT_.out HW_.out (by kernel_rfl)) (fun _ _ _ h => h) (Or.inl ⟨by rfl, ?_⟩) hHeld ?_ ?_
   rotate_left
   ·rintro w' ⟨s0, s1, s2, s3⟩
    go_simp
    with_reducible rfl
   rotate_left
   ·simp only [Act.put, List.setIfInBounds_toArray, List.set_cons_zero, List.set_cons_succ, i64_w, i32_w]
    rfl
   refine take_ (i := 3) (N := some 32) (v := ?_) (a' := ?_) #[true, false, false, true, false, false, false, false, false, false, false, false, false, false, false, false, false, false, false, false, false, false, false, false, false, false] rfl rfl (take_ofW HT_.out HW_.out (by kernel_rfl)) (fun _ _ _ h => h) (Or.inl ⟨by rfl, ?_⟩) hHeld ?_ ?_
   rotate_left
   ·rintro w' ⟨s0, s1, s2, s3⟩
    go_simp
    with_reducible rfl
   rotate_left
   ·simp only [Act.put, List.setIfInBounds_toArray, List.set_cons_zero, List.set_cons_succ, i64_w, i32_w]
    rfl
   refine one_ (i := 1) (N := some 30) #[true, true, false, true, false, false, false, false, false, false, false, false, false, false, false, false, false, false, false, false, false, false, false, false, false, false] rfl rfl (one_of HT_.out (by kernel_rfl)) (by decide) (fun K hK => ?_)
   refine goes_ Try.func15 (by kernel_rfl) rfl #[.agg #[.int .i64 t254, .slice Ao88 t255.length co88]] (by rfl) rfl rfl aq ?_
   with_reducible refine (intervalmonlaw29_graph.calls t254 (fun k_ => some k_ = (.slice Ao88 t255.length co88 : Value).ownBlock) _ _ t255 t270 t271 _ ?side1 A9.out).mono ?_
   (case side1 => exact Kd.R_V (Kd.R_tight rfl (Kd.R_types (Kd.R_types (Kd.R_types (HO257.out) BK258.out (by decide)) BK262.out (by decide)) BK269.out (by decide))))
   rintro e w104 ⟨v272, rfl, ho0, hb⟩
   refine ⟨_, rfl, ?_⟩
   have n0_ := Aside0.mk (Kd.R_below (rq HO257) hb)
   have n1_ := Aside0.mk (Kd.R_below (rq HO261) hb)
   have n2_ := Aside0.mk (Kd.R_below (rq HO268) hb)
   have n3_ := Aside0.mk (Kd.V_lower (Kd.V_mono (ok' := fun k_ => some k_ ≠ (.slice Ao91 y259.length co91 : Value).ownBlock ∧ some k_ ≠ (.slice Ao97 y266.length co97 : Value).ownBlock ∧ k_ ≠ gb258 ∧ k_ ≠ gb262 ∧ k_ ≠ gb269) ho0 (fun k_ hk_ => ⟨Or.elim hk_ (fun hs_ => ((Kd.R_types (Kd.R_types (Kd.R_types (HO257.out) BK258.out (by decide)) BK262.out (by decide)) BK269.out (by decide)).1 k_ hs_.symm).1.1.1.1) (fun hn_ => (Kd.fresh' (Kd.R_lt (rq HO261)) k_ hn_)), Or.elim hk_ (fun hs_ => ((Kd.R_types (Kd.R_types (Kd.R_types (HO257.out) BK258.out (by decide)) BK262.out (by decide)) BK269.out (by decide)).1 k_ hs_.symm).1.1.1.2) (fun hn_ => (Kd.fresh' (Kd.R_lt (rq HO268)) k_ hn_)), Or.elim hk_ (fun hs_ => ((Kd.R_types (Kd.R_types (Kd.R_types (HO257.out) BK258.out (by decide)) BK262.out (by decide)) BK269.out (by decide)).1 k_ hs_.symm).1.1.2) (fun hn_ => (Kd.freshB (g := gb258) (o := .cells #[.int .i64 t254, .slice Ao88 t255.length co88] 25 (0, 0)) (bq BK258) k_ hn_)), Or.elim hk_ (fun hs_ => ((Kd.R_types (Kd.R_types (Kd.R_types (HO257.out) BK258.out (by decide)) BK262.out (by decide)) BK269.out (by decide)).1 k_ hs_.symm).1.2) (fun hn_ => (Kd.freshB (g := gb262) (o := .cells #[.int .i64 a1, .slice Ao91 y259.length co91] 25 (0, 0)) (bq BK262) k_ hn_)), Or.elim hk_ (fun hs_ => ((Kd.R_types (Kd.R_types (Kd.R_types (HO257.out) BK258.out (by decide)) BK262.out (by decide)) BK269.out (by decide)).1 k_ hs_.symm).2) (fun hn_ => (Kd.freshB (g := gb269) (o := .cells #[.int .i64 t263, .slice Ao97 y266.length co97] 25 (0, 0)) (bq BK269) k_ hn_))⟩)) (below_size (hq HB)))
   have n4_ := Aside0.mk (blk_below (g := gb258) (o := .cells #[.int .i64 t254, .slice Ao88 t255.length co88] 25 (0, 0)) (bq BK258) hb)
   have n5_ := Aside0.mk (blk_below (g := gb262) (o := .cells #[.int .i64 a1, .slice Ao91 y259.length co91] 25 (0, 0)) (bq BK262) hb)
   have n6_ := Aside0.mk (blk_below (g := gb269) (o := .cells #[.int .i64 t263, .slice Ao97 y266.length co97] 25 (0, 0)) (bq BK269) hb)
   have n7_ := Aside0.mk (below_step (hq HB) hb)
   clear HO257
   clear HO261
   clear HO268
   clear BK258
   clear BK262
   clear BK269
   clear HB
   have HO257 := n0_
   have HO261 := n1_
   have HO268 := n2_
   have HO273 := n3_
   have BK258 := n4_
   have BK262 := n5_
   have BK269 := n6_
   have HB := n7_
   clear n0_ n1_ n2_ n3_ n4_ n5_ n6_ n7_
   (try clear hb)
   (try clear hb2)
   (try clear hk)
   (try clear hi)
   (try clear ho0)
   obtain ⟨Ao105, co105, eo105⟩ := Kd.V_slice HO273.out
   (first | subst eo105 | (injection eo105 with f1_ f2_ f3_; have f4_ := f1_.symm; have f5_ := f3_.symm; clear f1_ f2_ f3_; subst f4_; subst f5_))
   refine hK.out _ _ ⟨(blk_cell BK258.out 0).trans rfl, (blk_cell BK258.out 1).trans rfl, (blk_cell BK262.out 0).trans rfl, (blk_cell BK262.out 1).trans rfl⟩ (fun hHeld => ?_)
   clear hK K
   refine norm_ (a' := ?_) ?_ ?_
   rotate_left
   ·show Act.put _ (some 30) _ = _
    simp only [Act.put, List.setIfInBounds_toArray, List.set_cons_zero, List.set_cons_succ, i64_w, i32_w]
    rfl
   refine one_ (i := 2) (N := some 31) #[true, true, true, true, false, false, false, false, false, false, false, false, false, false, false, false, false, false, false, false, false, false, false, false, false, false] rfl rfl (one_of HT_.out (by kernel_rfl)) (by decide) (fun K hK => ?_)
   refine goes_ Try.func14 (by kernel_rfl) rfl #[.agg #[.int .i64 t270, .slice Ao105 t271.length co105]] (by rfl) rfl rfl aq ?_
   with_reducible refine (route_Valid.calls k t270 _ _ t271 t274 _ ?side1 ?side2 A10.out).mono ?_
   (case side1 => repeat (first | exact (Kd.V_reads' HO273.out).2.2 | (with_reducible refine Kd.C_alloc ?_ _) | (with_reducible refine Kd.C_drewN ?_ _) | (with_reducible refine Kd.C_drew ?_)))
   (case side2 => exact (Kd.V_reads' HO273.out).2.1)
   rintro e w106 ⟨rfl, hb⟩
   refine ⟨_, rfl, ?_⟩
   have n0_ := Aside0.mk (Kd.R_below (rq HO257) hb)
   have n1_ := Aside0.mk (Kd.R_below (rq HO261) hb)
   have n2_ := Aside0.mk (Kd.R_below (rq HO268) hb)
   have n3_ := Aside0.mk (Kd.V_below (vq HO273) hb)
   have n4_ := Aside0.mk (blk_below (g := gb258) (o := .cells #[.int .i64 t254, .slice Ao88 t255.length co88] 25 (0, 0)) (bq BK258) hb)
   have n5_ := Aside0.mk (blk_below (g := gb262) (o := .cells #[.int .i64 a1, .slice Ao91 y259.length co91] 25 (0, 0)) (bq BK262) hb)
   have n6_ := Aside0.mk (blk_below (g := gb269) (o := .cells #[.int .i64 t263, .slice Ao97 y266.length co97] 25 (0, 0)) (bq BK269) hb)
   have n7_ := Aside0.mk (below_step (hq HB) hb)
   clear HO257
   clear HO261
   clear HO268
   clear HO273
   clear BK258
   clear BK262
   clear BK269
   clear HB
   have HO257 := n0_
   have HO261 := n1_
   have HO268 := n2_
   have HO273 := n3_
   have BK258 := n4_
   have BK262 := n5_
   have BK269 := n6_
   have HB := n7_
   clear n0_ n1_ n2_ n3_ n4_ n5_ n6_ n7_
   (try clear hb)
   (try clear hb2)
   (try clear hk)
   (try clear hi)
   refine hK.out _ _ ⟨(blk_cell BK258.out 0).trans rfl, (blk_cell BK258.out 1).trans rfl, (blk_cell BK262.out 0).trans rfl, (blk_cell BK262.out 1).trans rfl⟩ (fun hHeld => ?_)
   clear hK K
   refine norm_ (a' := ?_) ?_ ?_
   rotate_left
   ·show Act.put _ (some 31) _ = _
    simp only [Act.put, List.setIfInBounds_toArray, List.set_cons_zero, List.set_cons_succ, i64_w, i32_w]
    rfl
   refine one_ (i := 4) (N := some 33) #[true, true, true, true, true, false, false, false, false, false, false, false, false, false, false, false, false, false, false, false, false, false, false, false, false, false] rfl rfl (one_of HT_.out (by kernel_rfl)) (by decide) (fun K hK => ?_)
   refine goes_ Try.func16 (by kernel_rfl) rfl #[.agg #[.int .i64 t254, .slice Ao88 t255.length co88]] (by rfl) rfl rfl aq ?_
   with_reducible refine (intervalmonref29_Valid.calls k t254 _ _ t255 t275 _ ?side1 ?side2 A11.out).mono ?_
   (case side1 => repeat (first | exact (Kd.R_reads' HO257.out).2.2 | (with_reducible refine Kd.C_alloc ?_ _) | (with_reducible refine Kd.C_drewN ?_ _) | (with_reducible refine Kd.C_drew ?_)))
   (case side2 => exact (Kd.R_reads' HO257.out).2.1)
   rintro e w107 ⟨rfl, hb⟩
   refine ⟨_, rfl, ?_⟩
   have n0_ := Aside0.mk (Kd.R_below (rq HO257) hb)
   have n1_ := Aside0.mk (Kd.R_below (rq HO261) hb)
   have n2_ := Aside0.mk (Kd.R_below (rq HO268) hb)
   have n3_ := Aside0.mk (Kd.V_below (vq HO273) hb)
   have n4_ := Aside0.mk (blk_below (g := gb258) (o := .cells #[.int .i64 t254, .slice Ao88 t255.length co88] 25 (0, 0)) (bq BK258) hb)
   have n5_ := Aside0.mk (blk_below (g := gb262) (o := .cells #[.int .i64 a1, .slice Ao91 y259.length co91] 25 (0, 0)) (bq BK262) hb)
   have n6_ := Aside0.mk (blk_below (g := gb269) (o := .cells #[.int .i64 t263, .slice Ao97 y266.length co97] 25 (0, 0)) (bq BK269) hb)
   have n7_ := Aside0.mk (below_step (hq HB) hb)
   clear HO257
   clear HO261
   clear HO268
   clear HO273
   clear BK258
   clear BK262
   clear BK269
   clear HB
   have HO257 := n0_
   have HO261 := n1_
   have HO268 := n2_
   have HO273 := n3_
   have BK258 := n4_
   have BK262 := n5_
   have BK269 := n6_
   have HB := n7_
   clear n0_ n1_ n2_ n3_ n4_ n5_ n6_ n7_
   (try clear hb)
   (try clear hb2)
   (try clear hk)
   (try clear hi)
   refine hK.out _ _ ⟨(blk_cell BK258.out 0).trans rfl, (blk_cell BK258.out 1).trans rfl, (blk_cell BK262.out 0).trans rfl, (blk_cell BK262.out 1).trans rfl⟩ (fun hHeld => ?_)
   clear hK K
   refine norm_ (a' := ?_) ?_ ?_
   rotate_left
   ·show Act.put _ (some 33) _ = _
    simp only [Act.put, List.setIfInBounds_toArray, List.set_cons_zero, List.set_cons_succ, i64_w, i32_w]
    rfl
   refine pure_ (i := 5) (N := some 34) (v := ?_) (a' := ?_) #[true, true, true, true, true, true, false, false, false, false, false, false, false, false, false, false, false, false, false, false, false, false, false, false, false, false] rfl rfl (any_of HT_.out (by kernel_rfl)) (fun _ _ _ h => h) (Or.inl ⟨by rfl, ?_⟩) ?_ ?_
   rotate_left
   ·intro w'
    go_simp
    with_reducible rfl
   rotate_left
   ·simp only [Act.put, List.setIfInBounds_toArray, List.set_cons_zero, List.set_cons_succ, i64_w, i32_w]
    rfl
   refine pure_ (i := 6) (N := some 35) (v := ?_) (a' := ?_) #[true, true, true, true, true, true, true, false, false, false, false, false, false, false, false, false, false, false, false, false, false, false, false, false, false, false] rfl rfl (any_of HT_.out (by kernel_rfl)) (fun _ _ _ h => h) (Or.inl ⟨by rfl, ?_⟩) ?_ ?_
   rotate_left
   ·intro w'
    go_simp
    with_reducible rfl
   rotate_left
   ·simp only [Act.put, List.setIfInBounds_toArray, List.set_cons_zero, List.set_cons_succ, i64_w, i32_w]
    rfl
   refine take_ (i := 7) (N := some 36) (v := ?_) (a' := ?_) #[true, true, true, true, true, true, true, true, false, false, false, false, false, false, false, false, false, false, false, false, false, false, false, false, false, false] rfl rfl (take_ofW HT_.out HW_.out (by kernel_rfl)) (fun _ _ _ h => h) (Or.inl ⟨by rfl, ?_⟩) hHeld ?_ ?_
   rotate_left
   ·rintro w' ⟨s0, s1, s2, s3⟩
    go_simp
    with_reducible rfl
   rotate_left
   ·simp only [Act.put, List.setIfInBounds_toArray, List.set_cons_zero, List.set_cons_succ, i64_w, i32_w]
    rfl
   refine take_ (i := 10) (N := some 39) (v := ?_) (a' := ?_) #[true, true, true, true, true, true, true, true, false, false, true, false, false, false, false, false, false, false, false, false, false, false, false, false, false, false] rfl rfl (take_ofW HT_.out HW_.out (by kernel_rfl)) (fun _ _ _ h => h) (Or.inl ⟨by rfl, ?_⟩) hHeld ?_ ?_
   rotate_left
   ·rintro w' ⟨s0, s1, s2, s3⟩
    go_simp
    with_reducible rfl
   rotate_left
   ·simp only [Act.put, List.setIfInBounds_toArray, List.set_cons_zero, List.set_cons_succ, i64_w, i32_w]
    rfl
   refine one_ (i := 8) (N := some 37) #[true, true, true, true, true, true, true, true, true, false, true, false, false, false, false, false, false, false, false, false, false, false, false, false, false, false] rfl rfl (one_of HT_.out (by kernel_rfl)) (by decide) (fun K hK => ?_)
   refine goes_ Try.func15 (by kernel_rfl) rfl #[.agg #[.int .i64 a1, .slice Ao91 y259.length co91]] (by rfl) rfl rfl aq ?_
   with_reducible refine (intervalmonlaw29_graph.calls a1 (fun k_ => some k_ = (.slice Ao91 y259.length co91 : Value).ownBlock) _ _ y259 t276 t277 _ ?side1 A13.out).mono ?_
   (case side1 => exact Kd.R_V (Kd.R_tight rfl (Kd.R_types (Kd.R_types (Kd.R_types (HO261.out) BK258.out (by decide)) BK262.out (by decide)) BK269.out (by decide))))
   rintro e w108 ⟨v278, rfl, ho0, hb⟩
   refine ⟨_, rfl, ?_⟩
   have n0_ := Aside0.mk (Kd.R_below (rq HO257) hb)
   have n1_ := Aside0.mk (Kd.R_below (rq HO261) hb)
   have n2_ := Aside0.mk (Kd.R_below (rq HO268) hb)
   have n3_ := Aside0.mk (Kd.V_below (vq HO273) hb)
   have n4_ := Aside0.mk (Kd.V_lower (Kd.V_mono (ok' := fun k_ => some k_ ≠ (.slice Ao88 t255.length co88 : Value).ownBlock ∧ some k_ ≠ (.slice Ao97 y266.length co97 : Value).ownBlock ∧ k_ ≠ gb258 ∧ k_ ≠ gb262 ∧ k_ ≠ gb269) ho0 (fun k_ hk_ => ⟨Or.elim hk_ (fun hs_ => ((Kd.R_types (Kd.R_types (Kd.R_types (HO261.out) BK258.out (by decide)) BK262.out (by decide)) BK269.out (by decide)).1 k_ hs_.symm).1.1.1.1) (fun hn_ => (Kd.fresh' (Kd.R_lt (rq HO257)) k_ hn_)), Or.elim hk_ (fun hs_ => ((Kd.R_types (Kd.R_types (Kd.R_types (HO261.out) BK258.out (by decide)) BK262.out (by decide)) BK269.out (by decide)).1 k_ hs_.symm).1.1.1.2) (fun hn_ => (Kd.fresh' (Kd.R_lt (rq HO268)) k_ hn_)), Or.elim hk_ (fun hs_ => ((Kd.R_types (Kd.R_types (Kd.R_types (HO261.out) BK258.out (by decide)) BK262.out (by decide)) BK269.out (by decide)).1 k_ hs_.symm).1.1.2) (fun hn_ => (Kd.freshB (g := gb258) (o := .cells #[.int .i64 t254, .slice Ao88 t255.length co88] 25 (0, 0)) (bq BK258) k_ hn_)), Or.elim hk_ (fun hs_ => ((Kd.R_types (Kd.R_types (Kd.R_types (HO261.out) BK258.out (by decide)) BK262.out (by decide)) BK269.out (by decide)).1 k_ hs_.symm).1.2) (fun hn_ => (Kd.freshB (g := gb262) (o := .cells #[.int .i64 a1, .slice Ao91 y259.length co91] 25 (0, 0)) (bq BK262) k_ hn_)), Or.elim hk_ (fun hs_ => ((Kd.R_types (Kd.R_types (Kd.R_types (HO261.out) BK258.out (by decide)) BK262.out (by decide)) BK269.out (by decide)).1 k_ hs_.symm).2) (fun hn_ => (Kd.freshB (g := gb269) (o := .cells #[.int .i64 t263, .slice Ao97 y266.length co97] 25 (0, 0)) (bq BK269) k_ hn_))⟩)) (below_size (hq HB)))
   have n5_ := Aside0.mk (blk_below (g := gb258) (o := .cells #[.int .i64 t254, .slice Ao88 t255.length co88] 25 (0, 0)) (bq BK258) hb)
   have n6_ := Aside0.mk (blk_below (g := gb262) (o := .cells #[.int .i64 a1, .slice Ao91 y259.length co91] 25 (0, 0)) (bq BK262) hb)
   have n7_ := Aside0.mk (blk_below (g := gb269) (o := .cells #[.int .i64 t263, .slice Ao97 y266.length co97] 25 (0, 0)) (bq BK269) hb)
   have n8_ := Aside0.mk (below_step (hq HB) hb)
   clear HO257
   clear HO261
   clear HO268
   clear HO273
   clear BK258
   clear BK262
   clear BK269
   clear HB
   have HO257 := n0_
   have HO261 := n1_
   have HO268 := n2_
   have HO273 := n3_
   have HO279 := n4_
   have BK258 := n5_
   have BK262 := n6_
   have BK269 := n7_
   have HB := n8_
   clear n0_ n1_ n2_ n3_ n4_ n5_ n6_ n7_ n8_
   (try clear hb)
   (try clear hb2)
   (try clear hk)
   (try clear hi)
   (try clear ho0)
   obtain ⟨Ao109, co109, eo109⟩ := Kd.V_slice HO279.out
   (first | subst eo109 | (injection eo109 with f1_ f2_ f3_; have f4_ := f1_.symm; have f5_ := f3_.symm; clear f1_ f2_ f3_; subst f4_; subst f5_))
   refine hK.out _ _ ⟨(blk_cell BK258.out 0).trans rfl, (blk_cell BK258.out 1).trans rfl, (blk_cell BK262.out 0).trans rfl, (blk_cell BK262.out 1).trans rfl⟩ (fun hHeld => ?_)
   clear hK K
   refine norm_ (a' := ?_) ?_ ?_
   rotate_left
   ·show Act.put _ (some 37) _ = _
    simp only [Act.put, List.setIfInBounds_toArray, List.set_cons_zero, List.set_cons_succ, i64_w, i32_w]
    rfl
   refine one_ (i := 9) (N := some 38) #[true, true, true, true, true, true, true, true, true, true, true, false, false, false, false, false, false, false, false, false, false, false, false, false, false, false] rfl rfl (one_of HT_.out (by kernel_rfl)) (by decide) (fun K hK => ?_)
   refine goes_ Try.func14 (by kernel_rfl) rfl #[.agg #[.int .i64 t276, .slice Ao109 t277.length co109]] (by rfl) rfl rfl aq ?_
   with_reducible refine (route_Valid.calls k t276 _ _ t277 t280 _ ?side1 ?side2 A14.out).mono ?_
   (case side1 => repeat (first | exact (Kd.V_reads' HO279.out).2.2 | (with_reducible refine Kd.C_alloc ?_ _) | (with_reducible refine Kd.C_drewN ?_ _) | (with_reducible refine Kd.C_drew ?_)))
   (case side2 => exact (Kd.V_reads' HO279.out).2.1)
   rintro e w110 ⟨rfl, hb⟩
   refine ⟨_, rfl, ?_⟩
   have n0_ := Aside0.mk (Kd.R_below (rq HO257) hb)
   have n1_ := Aside0.mk (Kd.R_below (rq HO261) hb)
   have n2_ := Aside0.mk (Kd.R_below (rq HO268) hb)
   have n3_ := Aside0.mk (Kd.V_below (vq HO273) hb)
   have n4_ := Aside0.mk (Kd.V_below (vq HO279) hb)
   have n5_ := Aside0.mk (blk_below (g := gb258) (o := .cells #[.int .i64 t254, .slice Ao88 t255.length co88] 25 (0, 0)) (bq BK258) hb)
   have n6_ := Aside0.mk (blk_below (g := gb262) (o := .cells #[.int .i64 a1, .slice Ao91 y259.length co91] 25 (0, 0)) (bq BK262) hb)
   have n7_ := Aside0.mk (blk_below (g := gb269) (o := .cells #[.int .i64 t263, .slice Ao97 y266.length co97] 25 (0, 0)) (bq BK269) hb)
   have n8_ := Aside0.mk (below_step (hq HB) hb)
   clear HO257
   clear HO261
   clear HO268
   clear HO273
   clear HO279
   clear BK258
   clear BK262
   clear BK269
   clear HB
   have HO257 := n0_
   have HO261 := n1_
   have HO268 := n2_
   have HO273 := n3_
   have HO279 := n4_
   have BK258 := n5_
   have BK262 := n6_
   have BK269 := n7_
   have HB := n8_
   clear n0_ n1_ n2_ n3_ n4_ n5_ n6_ n7_ n8_
   (try clear hb)
   (try clear hb2)
   (try clear hk)
   (try clear hi)
   refine hK.out _ _ ⟨(blk_cell BK258.out 0).trans rfl, (blk_cell BK258.out 1).trans rfl, (blk_cell BK262.out 0).trans rfl, (blk_cell BK262.out 1).trans rfl⟩ (fun hHeld => ?_)
   clear hK K
   refine norm_ (a' := ?_) ?_ ?_
   rotate_left
   ·show Act.put _ (some 38) _ = _
    simp only [Act.put, List.setIfInBounds_toArray, List.set_cons_zero, List.set_cons_succ, i64_w, i32_w]
    rfl
   refine one_ (i := 11) (N := some 40) #[true, true, true, true, true, true, true, true, true, true, true, true, false, false, false, false, false, false, false, false, false, false, false, false, false, false] rfl rfl (one_of HT_.out (by kernel_rfl)) (by decide) (fun K hK => ?_)
   refine goes_ Try.func16 (by kernel_rfl) rfl #[.agg #[.int .i64 a1, .slice Ao91 y259.length co91]] (by rfl) rfl rfl aq ?_
   with_reducible refine (intervalmonref29_Valid.calls k a1 _ _ y259 t281 _ ?side1 ?side2 A15.out).mono ?_
   (case side1 => repeat (first | exact (Kd.R_reads' HO261.out).2.2 | (with_reducible refine Kd.C_alloc ?_ _) | (with_reducible refine Kd.C_drewN ?_ _) | (with_reducible refine Kd.C_drew ?_)))
   (case side2 => exact (Kd.R_reads' HO261.out).2.1)
   rintro e w111 ⟨rfl, hb⟩
   refine ⟨_, rfl, ?_⟩
   have n0_ := Aside0.mk (Kd.R_below (rq HO257) hb)
   have n1_ := Aside0.mk (Kd.R_below (rq HO261) hb)
   have n2_ := Aside0.mk (Kd.R_below (rq HO268) hb)
   have n3_ := Aside0.mk (Kd.V_below (vq HO273) hb)
   have n4_ := Aside0.mk (Kd.V_below (vq HO279) hb)
   have n5_ := Aside0.mk (blk_below (g := gb258) (o := .cells #[.int .i64 t254, .slice Ao88 t255.length co88] 25 (0, 0)) (bq BK258) hb)
   have n6_ := Aside0.mk (blk_below (g := gb262) (o := .cells #[.int .i64 a1, .slice Ao91 y259.length co91] 25 (0, 0)) (bq BK262) hb)
   have n7_ := Aside0.mk (blk_below (g := gb269) (o := .cells #[.int .i64 t263, .slice Ao97 y266.length co97] 25 (0, 0)) (bq BK269) hb)
   have n8_ := Aside0.mk (below_step (hq HB) hb)
   clear HO257
   clear HO261
   clear HO268
   clear HO273
   clear HO279
   clear BK258
   clear BK262
   clear BK269
   clear HB
   have HO257 := n0_
   have HO261 := n1_
   have HO268 := n2_
   have HO273 := n3_
   have HO279 := n4_
   have BK258 := n5_
   have BK262 := n6_
   have BK269 := n7_
   have HB := n8_
   clear n0_ n1_ n2_ n3_ n4_ n5_ n6_ n7_ n8_
   (try clear hb)
   (try clear hb2)
   (try clear hk)
   (try clear hi)
   refine hK.out _ _ ⟨(blk_cell BK258.out 0).trans rfl, (blk_cell BK258.out 1).trans rfl, (blk_cell BK262.out 0).trans rfl, (blk_cell BK262.out 1).trans rfl⟩ (fun hHeld => ?_)
   clear hK K
   refine norm_ (a' := ?_) ?_ ?_
   rotate_left
   ·show Act.put _ (some 40) _ = _
    simp only [Act.put, List.setIfInBounds_toArray, List.set_cons_zero, List.set_cons_succ, i64_w, i32_w]
    rfl
   refine pure_ (i := 12) (N := some 41) (v := ?_) (a' := ?_) #[true, true, true, true, true, true, true, true, true, true, true, true, true, false, false, false, false, false, false, false, false, false, false, false, false, false] rfl rfl (any_of HT_.out (by kernel_rfl)) (fun _ _ _ h => h) (Or.inl ⟨by rfl, ?_⟩) ?_ ?_
   rotate_left
   ·intro w'
    go_simp
    with_reducible rfl
   rotate_left
   ·simp only [Act.put, List.setIfInBounds_toArray, List.set_cons_zero, List.set_cons_succ, i64_w, i32_w]
    rfl
   refine pure_ (i := 13) (N := some 42) (v := ?_) (a' := ?_) #[true, true, true, true, true, true, true, true, true, true, true, true, true, true, false, false, false, false, false, false, false, false, false, false, false, false] rfl rfl (any_of HT_.out (by kernel_rfl)) (fun _ _ _ h => h) (Or.inl ⟨by rfl, ?_⟩) ?_ ?_
   rotate_left
   ·intro w'
    go_simp
    with_reducible rfl
   rotate_left
   ·simp only [Act.put, List.setIfInBounds_toArray, List.set_cons_zero, List.set_cons_succ, i64_w, i32_w]
    rfl
   refine pure_ (i := 14) (N := some 43) (v := ?_) (a' := ?_) #[true, true, true, true, true, true, true, true, true, true, true, true, true, true, true, false, false, false, false, false, false, false, false, false, false, false] rfl rfl (any_of HT_.out (by kernel_rfl)) (fun _ _ _ h => h) (Or.inl ⟨by rfl, ?_⟩) ?_ ?_
   rotate_left
   ·intro w'
    go_simp
    with_reducible rfl
   rotate_left
   ·simp only [Act.put, List.setIfInBounds_toArray, List.set_cons_zero, List.set_cons_succ, i64_w, i32_w]
    rfl
   refine pure_ (i := 15) (N := some 44) (v := undef) (a' := ?_) #[true, true, true, true, true, true, true, true, true, true, true, true, true, true, true, true, false, false, false, false, false, false, false, false, false, false] rfl rfl (any_of HT_.out (by kernel_rfl)) (fun _ _ _ h => h) (Or.inr ⟨by rfl, rfl⟩) ?_ ?_
   rotate_left
   ·simp only [Act.put, List.setIfInBounds_toArray, List.set_cons_zero, List.set_cons_succ, i64_w, i32_w]
    rfl
   refine pure_ (i := 16) (N := some 45) (v := undef) (a' := ?_) #[true, true, true, true, true, true, true, true, true, true, true, true, true, true, true, true, true, false, false, false, false, false, false, false, false, false] rfl rfl (any_of HT_.out (by kernel_rfl)) (fun _ _ _ h => h) (Or.inr ⟨by rfl, rfl⟩) ?_ ?_
   rotate_left
   ·simp only [Act.put, List.setIfInBounds_toArray, List.set_cons_zero, List.set_cons_succ, i64_w, i32_w]
    rfl
   refine pure_ (i := 17) (N := some 46) (v := undef) (a' := ?_) #[true, true, true, true, true, true, true, true, true, true, true, true, true, true, true, true, true, true, false, false, false, false, false, false, false, false] rfl rfl (any_of HT_.out (by kernel_rfl)) (fun _ _ _ h => h) (Or.inr ⟨by rfl, rfl⟩) ?_ ?_
   rotate_left
   ·simp only [Act.put, List.setIfInBounds_toArray, List.set_cons_zero, List.set_cons_succ, i64_w, i32_w]
    rfl
   refine pure_ (i := 18) (N := some 47) (v := undef) (a' := ?_) #[true, true, true, true, true, true, true, true, true, true, true, true, true, true, true, true, true, true, true, false, false, false, false, false, false, false] rfl rfl (any_of HT_.out (by kernel_rfl)) (fun _ _ _ h => h) (Or.inr ⟨by rfl, rfl⟩) ?_ ?_
   rotate_left
   ·simp only [Act.put, List.setIfInBounds_toArray, List.set_cons_zero, List.set_cons_succ, i64_w, i32_w]
    rfl
   refine pure_ (i := 19) (N := some 48) (v := undef) (a' := ?_) #[true, true, true, true, true, true, true, true, true, true, true, true, true, true, true, true, true, true, true, true, false, false, false, false, false, false] rfl rfl (any_of HT_.out (by kernel_rfl)) (fun _ _ _ h => h) (Or.inr ⟨by rfl, rfl⟩) ?_ ?_
   rotate_left
   ·simp only [Act.put, List.setIfInBounds_toArray, List.set_cons_zero, List.set_cons_succ, i64_w, i32_w]
    rfl
   refine pure_ (i := 20) (N := some 49) (v := undef) (a' := ?_) #[true, true, true, true, true, true, true, true, true, true, true, true, true, true, true, true, true, true, true, true, true, false, false, false, false, false] rfl rfl (any_of HT_.out (by kernel_rfl)) (fun _ _ _ h => h) (Or.inr ⟨by rfl, rfl⟩) ?_ ?_
   rotate_left
   ·simp only [Act.put, List.setIfInBounds_toArray, List.set_cons_zero, List.set_cons_succ, i64_w, i32_w]
    rfl
   refine pure_ (i := 21) (N := some 50) (v := ?_) (a' := ?_) #[true, true, true, true, true, true, true, true, true, true, true, true, true, true, true, true, true, true, true, true, true, true, false, false, false, false] rfl rfl (any_of HT_.out (by kernel_rfl)) (fun _ _ _ h => h) (Or.inl ⟨by rfl, ?_⟩) ?_ ?_
   rotate_left
   ·intro w'
    go_simp
    with_reducible rfl
   rotate_left
   ·simp only [Act.put, List.setIfInBounds_toArray, List.set_cons_zero, List.set_cons_succ, i64_w, i32_w]
    rfl
   refine pure_ (i := 22) (N := some 51) (v := ?_) (a' := ?_) #[true, true, true, true, true, true, true, true, true, true, true, true, true, true, true, true, true, true, true, true, true, true, true, false, false, false] rfl rfl (any_of HT_.out (by kernel_rfl)) (fun _ _ _ h => h) (Or.inl ⟨by rfl, ?_⟩) ?_ ?_
   rotate_left
   ·intro w'
    go_simp
    with_reducible rfl
   rotate_left
   ·simp only [Act.put, List.setIfInBounds_toArray, List.set_cons_zero, List.set_cons_succ, i64_w, i32_w]
    rfl
   refine pure_ (i := 23) (N := some 52) (v := undef) (a' := ?_) #[true, true, true, true, true, true, true, true, true, true, true, true, true, true, true, true, true, true, true, true, true, true, true, true, false, false] rfl rfl (any_of HT_.out (by kernel_rfl)) (fun _ _ _ h => h) (Or.inr ⟨by rfl, rfl⟩) ?_ ?_
   rotate_left
   ·simp only [Act.put, List.setIfInBounds_toArray, List.set_cons_zero, List.set_cons_succ, i64_w, i32_w]
    rfl
   refine pure_ (i := 24) (N := some 53) (v := ?_) (a' := ?_) #[true, true, true, true, true, true, true, true, true, true, true, true, true, true, true, true, true, true, true, true, true, true, true, true, true, false] rfl rfl (any_of HT_.out (by kernel_rfl)) (fun _ _ _ h => h) (Or.inl ⟨by rfl, ?_⟩) ?_ ?_
   rotate_left
   ·intro w'
    go_simp
    with_reducible rfl
   rotate_left
   ·simp only [Act.put, List.setIfInBounds_toArray, List.set_cons_zero, List.set_cons_succ, i64_w, i32_w]
    rfl
   refine pure_ (i := 25) (N := some 8) (v := ?_) (a' := ?_) #[true, true, true, true, true, true, true, true, true, true, true, true, true, true, true, true, true, true, true, true, true, true, true, true, true, true] rfl rfl (any_of HT_.out (by kernel_rfl)) (fun _ _ _ h => h) (Or.inl ⟨by rfl, ?_⟩) ?_ ?_
   rotate_left
   ·intro w'
    go_simp
    with_reducible rfl
   rotate_left
   ·simp only [Act.put, List.setIfInBounds_toArray, List.set_cons_zero, List.set_cons_succ, i64_w, i32_w]
    rfl
   refine done_ (done_of HT_.out (by kernel_rfl)) ?_
   try go_wp2
   go_ret
   exact ⟨by first | rfl | (simp [errW_none, errW_some] <;> rfl) | (simp [*, errW_none, errW_some] <;> rfl), by repeat (first | (with_reducible first | exact HB.out | apply below_alloc | apply pw_below_drewN | apply below_drew1 | refine below_set ?_ GE258.out | refine below_set ?_ GE262.out | refine below_set ?_ GE269.out) | exact HB.out)⟩
 ·rw [if_neg c12] at H
  have c12b0 : (t274 == t275) = false := beq_eq_false_iff_ne.mpr c12
  have c12b1 : (t274 != t275) = true := bne_iff_ne.mpr c12
  obtain rfl := Option.some.inj H
  go_enter Try.func3, Try.ntmps3
  try go_wp2_with (first | ((with_reducible refine gate_callee (f := 12) rfl ?_); refine goesL_ (some 13) rfl rfl Try.func12 (by kernel_rfl) rfl #[.slice A0 l0.length c0] rfl aq ?_; (with_reducible refine (intervalmonref29_Any.calls k _ _ l0 t254 t255 _ ?side1 ?side2 A5.out).mono ?_); (case side1 => repeat (first | exact HR0.out | (with_reducible refine Kd.C_alloc ?_ _) | (with_reducible refine Kd.C_drewN ?_ _) | (with_reducible refine Kd.C_drew ?_))); (case side2 => exact HC0.out); rintro e w112 ⟨v256, rfl, ho0, hb⟩; refine ⟨_, rfl, ?_⟩; have n0_ := Aside0.mk (Kd.R_lower ho0 (below_size (hq HB))); have n1_ := Aside0.mk (below_step (hq HB) hb); clear HB; have HO257 := n0_; have HB := n1_; clear n0_ n1_; (try clear hb); (try clear hb2); (try clear hk); (try clear hi); (try clear ho0)) | ((with_reducible refine gate_dst (N := 9) rfl ?_); refine box_event ?hg (N := 9) ?hd (cs := #[.int .i64 0, .slice none 0 0]) (t := 25) ?hr ?_; (case hd => rfl); (case hg => rfl); (case hr => first | (go_simp; done) | (go_simp; rfl)); intro gb258 hg w113 hbox hb; have n0_ := Aside0.mk (Kd.R_below (rq HO257) hb); have n1_ := Aside0.mk (below_step (hq HB) hb); have n2_ := Aside0.mk (hbox); have n3_ := Aside0.mk ((by rw [hg]; exact (below_size (hq HB)) : w.heap.size ≤ gb258)); have n4_ := Aside0.mk ((by rw [hg]; exact (below_size (hq HB)) : w.heap.size ≤ gb258)); clear HO257; clear HB; have HO257 := n0_; have HB := n1_; have BK258 := n2_; have GW258 := n3_; have GE258 := n4_; clear n0_ n1_ n2_ n3_ n4_; clear hb hbox hg; have hcz114_0 : w113.cell? ⟨gb258, 0, none⟩ = some (.int .i64 0) := (blk_cell BK258.out 0).trans rfl; have hcz114_1 : w113.cell? ⟨gb258, 1, none⟩ = some (.slice none 0 0) := (blk_cell BK258.out 1).trans rfl; have hfz114_0 := blk_frozen BK258.out 0; have hfz114_1 := blk_frozen BK258.out 1; obtain ⟨Ao115, co115, eo115⟩ := Kd.R_slice HO257.out; subst eo115) | ((with_reducible refine gate_dst (N := 18) rfl ?_); refine Kd.R_lit k27 _ 27 ?hg (N := 18) ?hd (xs := ([(⟨a2, a3⟩ : S27)] : List (S27))) (inner := [.int .i64 a2, .int .i64 a3]) (ok := fun _ => True) (okp := fun _ => True) ?hr ?hp (fun _ hk => hk) trivial (Below.refl _ _) (Nat.le_refl _) (by simp) ?_; (case hd => rfl); (case hg => rfl); (case hr => first | (go_simp; done) | (go_simp; rfl)); (case hp => exact (Reps.c2 (show Kd.M k27 _ _ _ (⟨a2, a3⟩ : S27) [.int .i64 a2, .int .i64 a3] from (k27_mkM _ _ _ (⟨a2, a3⟩ : S27) )) (Reps.none _ _))); intro v260 w116 ho117 hb hg_ hnew_; clear hg_ hnew_; (first | rw [← Ny259.out] at ho117 | (simp only [Int.reduceToNat] at ho117; rw [← Ny259.out] at ho117)); have n0_ := Aside0.mk (Kd.R_elder' (by (with_reducible repeat (first | apply Kd.R_alloc | apply Kd.R_drewN | apply Kd.R_drew)); exact (Kd.R_mono (Kd.R_far (p := ⟨gb258, 1, none⟩) (Kd.R_far (p := ⟨gb258, 0, none⟩) (Kd.R_types HO257.out BK258.out (by decide)) (fun _ hk => hk.2) (.int .i64 t254)) (fun _ hk => hk.2) (.slice Ao115 t255.length co115)) (fun _ h_ => h_.1))) (Kd.R_base ho117) hb); have n1_ := Aside0.mk (Kd.R_lower (Kd.R_new' ho117 (Kd.R_lt (by (with_reducible repeat (first | apply Kd.R_alloc | apply Kd.R_drewN | apply Kd.R_drew)); exact (Kd.R_mono (Kd.R_far (p := ⟨gb258, 1, none⟩) (Kd.R_far (p := ⟨gb258, 0, none⟩) (Kd.R_types HO257.out BK258.out (by decide)) (fun _ hk => hk.2) (.int .i64 t254)) (fun _ hk => hk.2) (.slice Ao115 t255.length co115)) (fun _ h_ => h_.1))))) (below_size (hq HB))); have n2_ := Aside0.mk (blk_below (g := gb258) (o := .cells #[.int .i64 t254, .slice Ao115 t255.length co115] 25 (0, 0)) (by (with_reducible repeat (first | refine blk_drewN ?_ _ | refine blk_drew ?_ | refine blk_alloc ?_ _)); refine blk_put (cs := #[.int .i64 t254, .slice none 0 0]) ?_ 1 _ rfl; (with_reducible repeat (first | refine blk_drewN ?_ _ | refine blk_drew ?_ | refine blk_alloc ?_ _)); refine blk_put (cs := #[.int .i64 0, .slice none 0 0]) ?_ 0 _ rfl; (with_reducible repeat (first | refine blk_drewN ?_ _ | refine blk_drew ?_ | refine blk_alloc ?_ _)); exact BK258.out) hb); have n3_ := Aside0.mk (below_step (hq HB) hb); clear HO257; clear BK258; clear HB; have HO257 := n0_; have HO261 := n1_; have BK258 := n2_; have HB := n3_; clear n0_ n1_ n2_ n3_; clear hb ho117; obtain ⟨Ao118, co118, eo118⟩ := Kd.R_slice HO261.out; subst eo118) | ((with_reducible refine gate_dst (N := 10) rfl ?_); refine box_event ?hg (N := 10) ?hd (cs := #[.int .i64 0, .slice none 0 0]) (t := 25) ?hr ?_; (case hd => rfl); (case hg => rfl); (case hr => first | (go_simp; done) | (go_simp; rfl)); intro gb262 hg w119 hbox hb; have n0_ := Aside0.mk (Kd.R_below (rq HO257) hb); have n1_ := Aside0.mk (Kd.R_below (rq HO261) hb); have n2_ := Aside0.mk (blk_below (g := gb258) (o := .cells #[.int .i64 t254, .slice Ao115 t255.length co115] 25 (0, 0)) (bq BK258) hb); have n3_ := Aside0.mk (below_step (hq HB) hb); have n4_ := Aside0.mk (hbox); have n5_ := Aside0.mk ((by rw [hg]; exact (below_size (hq HB)) : w.heap.size ≤ gb262)); have n6_ := Aside0.mk ((by rw [hg]; exact (below_size (hq HB)) : w.heap.size ≤ gb262)); have n7_ := Aside0.mk ((by rw [hg]; exact Nat.ne_of_lt (blk_lt (g := gb258) (o := .cells #[.int .i64 t254, .slice Ao115 t255.length co115] 25 (0, 0)) (bq BK258)) : gb258 ≠ gb262)); have n8_ := Aside0.mk ((by rw [hg]; exact Nat.ne_of_gt (blk_lt (g := gb258) (o := .cells #[.int .i64 t254, .slice Ao115 t255.length co115] 25 (0, 0)) (bq BK258)) : gb262 ≠ gb258)); clear HO257; clear HO261; clear BK258; clear HB; have HO257 := n0_; have HO261 := n1_; have BK258 := n2_; have HB := n3_; have BK262 := n4_; have GW262 := n5_; have GE262 := n6_; have NB258_262 := n7_; have NB262_258 := n8_; clear n0_ n1_ n2_ n3_ n4_ n5_ n6_ n7_ n8_; clear hb hbox hg; have hnb120 := NB262_258.out; have hnc120 := NB258_262.out; have hcz121_0 : w119.cell? ⟨gb262, 0, none⟩ = some (.int .i64 0) := (blk_cell BK262.out 0).trans rfl; have hcz121_1 : w119.cell? ⟨gb262, 1, none⟩ = some (.slice none 0 0) := (blk_cell BK262.out 1).trans rfl; have hfz121_0 := blk_frozen BK262.out 0; have hfz121_1 := blk_frozen BK262.out 1) | ((with_reducible refine gate_callee (f := 13) rfl ?_); refine goesL_ (some 21) rfl rfl Try.func13 (by kernel_rfl) rfl #[.int .i64 a1, .int .i64 210] rfl aq ?_; (with_reducible refine (intervalmonref01_Around.calls a1 210 t263 _ A6.out).mono ?_); rintro e w' ⟨rfl, ⟨nd, rfl⟩⟩; refine ⟨_, rfl, ?_⟩) | ((with_reducible refine gate_callee (f := 13) rfl ?_); refine goesL_ (some 23) rfl rfl Try.func13 (by kernel_rfl) rfl #[.int .i64 a2, .int .i64 210] rfl aq ?_; (with_reducible refine (intervalmonref01_Around.calls a2 210 t264 _ A7.out).mono ?_); rintro e w' ⟨rfl, ⟨nd, rfl⟩⟩; refine ⟨_, rfl, ?_⟩) | ((with_reducible refine gate_callee (f := 13) rfl ?_); refine goesL_ (some 25) rfl rfl Try.func13 (by kernel_rfl) rfl #[.int .i64 a3, .int .i64 210] rfl aq ?_; (with_reducible refine (intervalmonref01_Around.calls a3 210 t265 _ A8.out).mono ?_); rintro e w' ⟨rfl, ⟨nd, rfl⟩⟩; refine ⟨_, rfl, ?_⟩) | ((with_reducible refine gate_dst (N := 27) rfl ?_); refine Kd.R_lit k27 _ 27 ?hg (N := 27) ?hd (xs := ([(⟨t264, t265⟩ : S27)] : List (S27))) (inner := [.int .i64 t264, .int .i64 t265]) (ok := fun _ => True) (okp := fun _ => True) ?hr ?hp (fun _ hk => hk) trivial (Below.refl _ _) (Nat.le_refl _) (by simp) ?_; (case hd => rfl); (case hg => rfl); (case hr => first | (go_simp; done) | (go_simp; rfl)); (case hp => exact (Reps.c2 (show Kd.M k27 _ _ _ (⟨t264, t265⟩ : S27) [.int .i64 t264, .int .i64 t265] from (k27_mkM _ _ _ (⟨t264, t265⟩ : S27) )) (Reps.none _ _))); intro v267 w122 ho123 hb hg_ hnew_; clear hg_ hnew_; (first | rw [← Ny266.out] at ho123 | (simp only [Int.reduceToNat] at ho123; rw [← Ny266.out] at ho123)); have n0_ := Aside0.mk (Kd.R_elder' (by (with_reducible repeat (first | apply Kd.R_alloc | apply Kd.R_drewN | apply Kd.R_drew)); exact (Kd.R_mono (Kd.R_far (p := ⟨gb262, 1, none⟩) (Kd.R_far (p := ⟨gb262, 0, none⟩) (Kd.R_types HO257.out BK262.out (by decide)) (fun _ hk => hk.2) (.int .i64 a1)) (fun _ hk => hk.2) (.slice Ao118 y259.length co118)) (fun _ h_ => h_.1))) (Kd.R_base ho123) hb); have n1_ := Aside0.mk (Kd.R_elder' (by (with_reducible repeat (first | apply Kd.R_alloc | apply Kd.R_drewN | apply Kd.R_drew)); exact (Kd.R_mono (Kd.R_far (p := ⟨gb262, 1, none⟩) (Kd.R_far (p := ⟨gb262, 0, none⟩) (Kd.R_types HO261.out BK262.out (by decide)) (fun _ hk => hk.2) (.int .i64 a1)) (fun _ hk => hk.2) (.slice Ao118 y259.length co118)) (fun _ h_ => h_.1))) (Kd.R_base ho123) hb); have n2_ := Aside0.mk (Kd.R_lower (Kd.R_new' (Kd.R_new' ho123 (Kd.R_lt (by (with_reducible repeat (first | apply Kd.R_alloc | apply Kd.R_drewN | apply Kd.R_drew)); exact (Kd.R_mono (Kd.R_far (p := ⟨gb262, 1, none⟩) (Kd.R_far (p := ⟨gb262, 0, none⟩) (Kd.R_types HO257.out BK262.out (by decide)) (fun _ hk => hk.2) (.int .i64 a1)) (fun _ hk => hk.2) (.slice Ao118 y259.length co118)) (fun _ h_ => h_.1))))) (Kd.R_lt (by (with_reducible repeat (first | apply Kd.R_alloc | apply Kd.R_drewN | apply Kd.R_drew)); exact (Kd.R_mono (Kd.R_far (p := ⟨gb262, 1, none⟩) (Kd.R_far (p := ⟨gb262, 0, none⟩) (Kd.R_types HO261.out BK262.out (by decide)) (fun _ hk => hk.2) (.int .i64 a1)) (fun _ hk => hk.2) (.slice Ao118 y259.length co118)) (fun _ h_ => h_.1))))) (below_size (hq HB))); have n3_ := Aside0.mk (blk_below (g := gb258) (o := .cells #[.int .i64 t254, .slice Ao115 t255.length co115] 25 (0, 0)) (by (with_reducible repeat (first | refine blk_drewN ?_ _ | refine blk_drew ?_ | refine blk_alloc ?_ _)); refine blk_far ?_ NB258_262.out _; (with_reducible repeat (first | refine blk_drewN ?_ _ | refine blk_drew ?_ | refine blk_alloc ?_ _)); refine blk_far ?_ NB258_262.out _; (with_reducible repeat (first | refine blk_drewN ?_ _ | refine blk_drew ?_ | refine blk_alloc ?_ _)); exact BK258.out) hb); have n4_ := Aside0.mk (blk_below (g := gb262) (o := .cells #[.int .i64 a1, .slice Ao118 y259.length co118] 25 (0, 0)) (by (with_reducible repeat (first | refine blk_drewN ?_ _ | refine blk_drew ?_ | refine blk_alloc ?_ _)); refine blk_put (cs := #[.int .i64 a1, .slice none 0 0]) ?_ 1 _ rfl; (with_reducible repeat (first | refine blk_drewN ?_ _ | refine blk_drew ?_ | refine blk_alloc ?_ _)); refine blk_put (cs := #[.int .i64 0, .slice none 0 0]) ?_ 0 _ rfl; (with_reducible repeat (first | refine blk_drewN ?_ _ | refine blk_drew ?_ | refine blk_alloc ?_ _)); exact BK262.out) hb); have n5_ := Aside0.mk (below_step (hq HB) hb); clear HO257; clear HO261; clear BK258; clear BK262; clear HB; have HO257 := n0_; have HO261 := n1_; have HO268 := n2_; have BK258 := n3_; have BK262 := n4_; have HB := n5_; clear n0_ n1_ n2_ n3_ n4_ n5_; clear hb ho123; obtain ⟨Ao124, co124, eo124⟩ := Kd.R_slice HO268.out; subst eo124) | ((with_reducible refine gate_dst (N := 11) rfl ?_); refine box_event ?hg (N := 11) ?hd (cs := #[.int .i64 0, .slice none 0 0]) (t := 25) ?hr ?_; (case hd => rfl); (case hg => rfl); (case hr => first | (go_simp; done) | (go_simp; rfl)); intro gb269 hg w125 hbox hb; have n0_ := Aside0.mk (Kd.R_below (rq HO257) hb); have n1_ := Aside0.mk (Kd.R_below (rq HO261) hb); have n2_ := Aside0.mk (Kd.R_below (rq HO268) hb); have n3_ := Aside0.mk (blk_below (g := gb258) (o := .cells #[.int .i64 t254, .slice Ao115 t255.length co115] 25 (0, 0)) (bq BK258) hb); have n4_ := Aside0.mk (blk_below (g := gb262) (o := .cells #[.int .i64 a1, .slice Ao118 y259.length co118] 25 (0, 0)) (bq BK262) hb); have n5_ := Aside0.mk (below_step (hq HB) hb); have n6_ := Aside0.mk (hbox); have n7_ := Aside0.mk ((by rw [hg]; exact (below_size (hq HB)) : w.heap.size ≤ gb269)); have n8_ := Aside0.mk ((by rw [hg]; exact (below_size (hq HB)) : w.heap.size ≤ gb269)); have n9_ := Aside0.mk ((by rw [hg]; exact Nat.ne_of_lt (blk_lt (g := gb258) (o := .cells #[.int .i64 t254, .slice Ao115 t255.length co115] 25 (0, 0)) (bq BK258)) : gb258 ≠ gb269)); have n10_ := Aside0.mk ((by rw [hg]; exact Nat.ne_of_gt (blk_lt (g := gb258) (o := .cells #[.int .i64 t254, .slice Ao115 t255.length co115] 25 (0, 0)) (bq BK258)) : gb269 ≠ gb258)); have n11_ := Aside0.mk ((by rw [hg]; exact Nat.ne_of_lt (blk_lt (g := gb262) (o := .cells #[.int .i64 a1, .slice Ao118 y259.length co118] 25 (0, 0)) (bq BK262)) : gb262 ≠ gb269)); have n12_ := Aside0.mk ((by rw [hg]; exact Nat.ne_of_gt (blk_lt (g := gb262) (o := .cells #[.int .i64 a1, .slice Ao118 y259.length co118] 25 (0, 0)) (bq BK262)) : gb269 ≠ gb262)); clear HO257; clear HO261; clear HO268; clear BK258; clear BK262; clear HB; have HO257 := n0_; have HO261 := n1_; have HO268 := n2_; have BK258 := n3_; have BK262 := n4_; have HB := n5_; have BK269 := n6_; have GW269 := n7_; have GE269 := n8_; have NB258_269 := n9_; have NB269_258 := n10_; have NB262_269 := n11_; have NB269_262 := n12_; clear n0_ n1_ n2_ n3_ n4_ n5_ n6_ n7_ n8_ n9_ n10_ n11_ n12_; clear hb hbox hg; have hnb126 := NB269_258.out; have hnc126 := NB258_269.out; have hnb127 := NB269_262.out; have hnc127 := NB262_269.out; have hcz128_0 : w125.cell? ⟨gb269, 0, none⟩ = some (.int .i64 0) := (blk_cell BK269.out 0).trans rfl; have hcz128_1 : w125.cell? ⟨gb269, 1, none⟩ = some (.slice none 0 0) := (blk_cell BK269.out 1).trans rfl; have hfz128_0 := blk_frozen BK269.out 0; have hfz128_1 := blk_frozen BK269.out 1))
  have n0_ : Aside0 (Kd.R k27 27 ((w125.setCell ⟨gb269, 0, none⟩ (.int .i64 t263)).setCell ⟨gb269, 1, none⟩ (.slice Ao124 y266.length co124)) w.heap.size (fun k_ => some k_ ≠ (.slice Ao118 y259.length co118 : Value).ownBlock ∧ some k_ ≠ (.slice Ao124 y266.length co124 : Value).ownBlock) (.slice Ao115 t255.length co115) t255) := ⟨by (with_reducible repeat (first | apply Kd.R_alloc | apply Kd.R_drewN | apply Kd.R_drew)); exact Kd.R_mono (Kd.R_far (p := ⟨gb269, 1, none⟩) (Kd.R_far (p := ⟨gb269, 0, none⟩) (Kd.R_types HO257.out BK269.out (by decide)) (fun _ hk => hk.2) (.int .i64 t263)) (fun _ hk => hk.2) (.slice Ao124 y266.length co124)) (fun _ hk => ⟨hk.1.1.2, hk.1.2⟩)⟩
  have n1_ : Aside0 (Kd.R k27 27 ((w125.setCell ⟨gb269, 0, none⟩ (.int .i64 t263)).setCell ⟨gb269, 1, none⟩ (.slice Ao124 y266.length co124)) w.heap.size (fun k_ => some k_ ≠ (.slice Ao115 t255.length co115 : Value).ownBlock ∧ some k_ ≠ (.slice Ao124 y266.length co124 : Value).ownBlock) (.slice Ao118 y259.length co118) y259) := ⟨by (with_reducible repeat (first | apply Kd.R_alloc | apply Kd.R_drewN | apply Kd.R_drew)); exact Kd.R_mono (Kd.R_far (p := ⟨gb269, 1, none⟩) (Kd.R_far (p := ⟨gb269, 0, none⟩) (Kd.R_types HO261.out BK269.out (by decide)) (fun _ hk => hk.2) (.int .i64 t263)) (fun _ hk => hk.2) (.slice Ao124 y266.length co124)) (fun _ hk => ⟨hk.1.1.2, hk.1.2⟩)⟩
  have n2_ : Aside0 (Kd.R k27 27 ((w125.setCell ⟨gb269, 0, none⟩ (.int .i64 t263)).setCell ⟨gb269, 1, none⟩ (.slice Ao124 y266.length co124)) w.heap.size (fun k_ => some k_ ≠ (.slice Ao115 t255.length co115 : Value).ownBlock ∧ some k_ ≠ (.slice Ao118 y259.length co118 : Value).ownBlock) (.slice Ao124 y266.length co124) y266) := ⟨by (with_reducible repeat (first | apply Kd.R_alloc | apply Kd.R_drewN | apply Kd.R_drew)); exact Kd.R_mono (Kd.R_far (p := ⟨gb269, 1, none⟩) (Kd.R_far (p := ⟨gb269, 0, none⟩) (Kd.R_types HO268.out BK269.out (by decide)) (fun _ hk => hk.2) (.int .i64 t263)) (fun _ hk => hk.2) (.slice Ao124 y266.length co124)) (fun _ hk => ⟨hk.1.1.2, hk.1.2⟩)⟩
  have n3_ : Aside0 (((w125.setCell ⟨gb269, 0, none⟩ (.int .i64 t263)).setCell ⟨gb269, 1, none⟩ (.slice Ao124 y266.length co124)).heap[gb258]? = some (.cells #[.int .i64 t254, .slice Ao115 t255.length co115] 25 (0, 0))) := ⟨by (with_reducible repeat (first | refine blk_drewN ?_ _ | refine blk_drew ?_ | refine blk_alloc ?_ _)); refine blk_far ?_ NB258_269.out _; (with_reducible repeat (first | refine blk_drewN ?_ _ | refine blk_drew ?_ | refine blk_alloc ?_ _)); refine blk_far ?_ NB258_269.out _; (with_reducible repeat (first | refine blk_drewN ?_ _ | refine blk_drew ?_ | refine blk_alloc ?_ _)); exact BK258.out⟩
  have n4_ : Aside0 (((w125.setCell ⟨gb269, 0, none⟩ (.int .i64 t263)).setCell ⟨gb269, 1, none⟩ (.slice Ao124 y266.length co124)).heap[gb262]? = some (.cells #[.int .i64 a1, .slice Ao118 y259.length co118] 25 (0, 0))) := ⟨by (with_reducible repeat (first | refine blk_drewN ?_ _ | refine blk_drew ?_ | refine blk_alloc ?_ _)); refine blk_far ?_ NB262_269.out _; (with_reducible repeat (first | refine blk_drewN ?_ _ | refine blk_drew ?_ | refine blk_alloc ?_ _)); refine blk_far ?_ NB262_269.out _; (with_reducible repeat (first | refine blk_drewN ?_ _ | refine blk_drew ?_ | refine blk_alloc ?_ _)); exact BK262.out⟩
  have n5_ : Aside0 (((w125.setCell ⟨gb269, 0, none⟩ (.int .i64 t263)).setCell ⟨gb269, 1, none⟩ (.slice Ao124 y266.length co124)).heap[gb269]? = some (.cells #[.int .i64 t263, .slice Ao124 y266.length co124] 25 (0, 0))) := ⟨by (with_reducible repeat (first | refine blk_drewN ?_ _ | refine blk_drew ?_ | refine blk_alloc ?_ _)); refine blk_put (cs := #[.int .i64 t263, .slice none 0 0]) ?_ 1 _ rfl; (with_reducible repeat (first | refine blk_drewN ?_ _ | refine blk_drew ?_ | refine blk_alloc ?_ _)); refine blk_put (cs := #[.int .i64 0, .slice none 0 0]) ?_ 0 _ rfl; (with_reducible repeat (first | refine blk_drewN ?_ _ | refine blk_drew ?_ | refine blk_alloc ?_ _)); exact BK269.out⟩
  have n6_ : Aside0 (Below w.heap.size w ((w125.setCell ⟨gb269, 0, none⟩ (.int .i64 t263)).setCell ⟨gb269, 1, none⟩ (.slice Ao124 y266.length co124))) := ⟨by repeat (first | (with_reducible first | exact HB.out | apply below_alloc | apply pw_below_drewN | apply below_drew1 | refine below_set ?_ GE258.out | refine below_set ?_ GE262.out | refine below_set ?_ GE269.out) | exact HB.out)⟩
  (try clear HO257)
  (try clear HO261)
  (try clear HO268)
  (try clear BK258)
  (try clear BK262)
  (try clear BK269)
  (try clear HB)
  generalize ((w125.setCell ⟨gb269, 0, none⟩ (.int .i64 t263)).setCell ⟨gb269, 1, none⟩ (.slice Ao124 y266.length co124)) = w129 at n0_ n1_ n2_ n3_ n4_ n5_ n6_ ⊢
  have HO257 := n0_
  have HO261 := n1_
  have HO268 := n2_
  have BK258 := n3_
  have BK262 := n4_
  have BK269 := n5_
  have HB := n6_
  clear n0_ n1_ n2_ n3_ n4_ n5_ n6_
  have n0_ := Aside0.mk (Kd.R_drew HO257.out)
  have n1_ := Aside0.mk (Kd.R_drew HO261.out)
  have n2_ := Aside0.mk (Kd.R_drew HO268.out)
  have n3_ := Aside0.mk (blk_drew BK258.out)
  have n4_ := Aside0.mk (blk_drew BK262.out)
  have n5_ := Aside0.mk (blk_drew BK269.out)
  have n6_ := Aside0.mk (below_drew1 HB.out)
  clear HO257
  clear HO261
  clear HO268
  clear BK258
  clear BK262
  clear BK269
  clear HB
  have HO257 := n0_
  have HO261 := n1_
  have HO268 := n2_
  have BK258 := n3_
  have BK262 := n4_
  have BK269 := n5_
  have HB := n6_
  clear n0_ n1_ n2_ n3_ n4_ n5_ n6_
  refine start_ (n := 26) (S := fun w' => w'.cell? ⟨gb258, 0, none⟩ = some (.int .i64 t254) ∧ w'.cell? ⟨gb258, 1, none⟩ = some (.slice Ao115 t255.length co115)) (ds := []) #[false, false, false, false, false, false, false, false, false, false, false, false, false, false, false, false, false, false, false, false, false, false, false, false, false, false] (by kernel_rfl) rfl rfl ⟨(blk_cell BK258.out 0).trans rfl, (blk_cell BK258.out 1).trans rfl⟩ (fun hHeld => ?_); refine with_tabW intervalmonlaw29_RouteValid.tab4 intervalmonlaw29_RouteValid.bits4 (fun HT_ HW_ => ?_)
  generalize w129.drew = w130 at HO257 HO261 HO268 BK258 BK262 BK269 HB hHeld ⊢
  refine take_ (i := 0) (N := some 29) (v := ?_) (a' := ?_) #[true, false, false, false, false, false, false, false, false, false, false, false, false, false, false, false, false, false, false, false, false, false, false, false, false, false] rfl rfl (take_ofW HT_.out HW_.out (by kernel_rfl)) (fun _ _ _ h => h) (Or.inl ⟨by rfl, ?_⟩) hHeld ?_ ?_
  rotate_left
  ·rintro w' ⟨s0, s1⟩
   go_simp
   with_reducible rfl
  rotate_left
  ·simp only [Act.put, List.setIfInBounds_toArray, List.set_cons_zero, List.set_cons_succ, i64_w, i32_w]
   rfl
  refine take_ (i := 3) (N := some 32) (v := ?_) (a' := ?_) #[true, false, false, true, false, false, false, false, false, false, false, false, false, false, false, false, false, false, false, false, false, false, false, false, false, false] rfl rfl (take_ofW HT_.out HW_.out (by kernel_rfl)) (fun _ _ _ h => h) (Or.inl ⟨by rfl, ?_⟩) hHeld ?_ ?_
  rotate_left
  ·rintro w' ⟨s0, s1⟩
   go_simp
   with_reducible rfl
  rotate_left
  ·simp only [Act.put, List.setIfInBounds_toArray, List.set_cons_zero, List.set_cons_succ, i64_w, i32_w]
   rfl
  refine one_ (i := 1) (N := some 30) #[true, true, false, true, false, false, false, false, false, false, false, false, false, false, false, false, false, false, false, false, false, false, false, false, false, false] rfl rfl (one_of HT_.out (by kernel_rfl)) (by decide) (fun K hK => ?_)
  refine goes_ Try.func15 (by kernel_rfl) rfl #[.agg #[.int .i64 t254, .slice Ao115 t255.length co115]] (by rfl) rfl rfl aq ?_
  with_reducible refine (intervalmonlaw29_graph.calls t254 (fun k_ => some k_ = (.slice Ao115 t255.length co115 : Value).ownBlock) _ _ t255 t270 t271 _ ?side1 A9.out).mono ?_
  (case side1 => exact Kd.R_V (Kd.R_tight rfl (Kd.R_types (Kd.R_types (Kd.R_types (HO257.out) BK258.out (by decide)) BK262.out (by decide)) BK269.out (by decide))))
  rintro e w131 ⟨v272, rfl, ho0, hb⟩
  refine ⟨_, rfl, ?_⟩
  have n0_ := Aside0.mk (Kd.R_below (rq HO257) hb)
  have n1_ := Aside0.mk (Kd.R_below (rq HO261) hb)
  have n2_ := Aside0.mk (Kd.R_below (rq HO268) hb)
  have n3_ := Aside0.mk (Kd.V_lower (Kd.V_mono (ok' := fun k_ => some k_ ≠ (.slice Ao118 y259.length co118 : Value).ownBlock ∧ some k_ ≠ (.slice Ao124 y266.length co124 : Value).ownBlock ∧ k_ ≠ gb258 ∧ k_ ≠ gb262 ∧ k_ ≠ gb269) ho0 (fun k_ hk_ => ⟨Or.elim hk_ (fun hs_ => ((Kd.R_types (Kd.R_types (Kd.R_types (HO257.out) BK258.out (by decide)) BK262.out (by decide)) BK269.out (by decide)).1 k_ hs_.symm).1.1.1.1) (fun hn_ => (Kd.fresh' (Kd.R_lt (rq HO261)) k_ hn_)), Or.elim hk_ (fun hs_ => ((Kd.R_types (Kd.R_types (Kd.R_types (HO257.out) BK258.out (by decide)) BK262.out (by decide)) BK269.out (by decide)).1 k_ hs_.symm).1.1.1.2) (fun hn_ => (Kd.fresh' (Kd.R_lt (rq HO268)) k_ hn_)), Or.elim hk_ (fun hs_ => ((Kd.R_types (Kd.R_types (Kd.R_types (HO257.out) BK258.out (by decide)) BK262.out (by decide)) BK269.out (by decide)).1 k_ hs_.symm).1.1.2) (fun hn_ => (Kd.freshB (g := gb258) (o := .cells #[.int .i64 t254, .slice Ao115 t255.length co115] 25 (0, 0)) (bq BK258) k_ hn_)), Or.elim hk_ (fun hs_ => ((Kd.R_types (Kd.R_types (Kd.R_types (HO257.out) BK258.out (by decide)) BK262.out (by decide)) BK269.out (by decide)).1 k_ hs_.symm).1.2) (fun hn_ => (Kd.freshB (g := gb262) (o := .cells #[.int .i64 a1, .slice Ao118 y259.length co118] 25 (0, 0)) (bq BK262) k_ hn_)), Or.elim hk_ (fun hs_ => ((Kd.R_types (Kd.R_types (Kd.R_types (HO257.out) BK258.out (by decide)) BK262.out (by decide)) BK269.out (by decide)).1 k_ hs_.symm).2) (fun hn_ => (Kd.freshB (g := gb269) (o := .cells #[.int .i64 t263, .slice Ao124 y266.length co124] 25 (0, 0)) (bq BK269) k_ hn_))⟩)) (below_size (hq HB)))
  have n4_ := Aside0.mk (blk_below (g := gb258) (o := .cells #[.int .i64 t254, .slice Ao115 t255.length co115] 25 (0, 0)) (bq BK258) hb)
  have n5_ := Aside0.mk (blk_below (g := gb262) (o := .cells #[.int .i64 a1, .slice Ao118 y259.length co118] 25 (0, 0)) (bq BK262) hb)
  have n6_ := Aside0.mk (blk_below (g := gb269) (o := .cells #[.int .i64 t263, .slice Ao124 y266.length co124] 25 (0, 0)) (bq BK269) hb)
  have n7_ := Aside0.mk (below_step (hq HB) hb)
  clear HO257
  clear HO261
  clear HO268
  clear BK258
  clear BK262
  clear BK269
  clear HB
  have HO257 := n0_
  have HO261 := n1_
  have HO268 := n2_
  have HO273 := n3_
  have BK258 := n4_
  have BK262 := n5_
  have BK269 := n6_
  have HB := n7_
  clear n0_ n1_ n2_ n3_ n4_ n5_ n6_ n7_
  (try clear hb)
  (try clear hb2)
  (try clear hk)
  (try clear hi)
  (try clear ho0)
  obtain ⟨Ao132, co132, eo132⟩ := Kd.V_slice HO273.out
  (first | subst eo132 | (injection eo132 with f1_ f2_ f3_; have f4_ := f1_.symm; have f5_ := f3_.symm; clear f1_ f2_ f3_; subst f4_; subst f5_))
  refine hK.out _ _ ⟨(blk_cell BK258.out 0).trans rfl, (blk_cell BK258.out 1).trans rfl⟩ (fun hHeld => ?_)
  clear hK K
  refine norm_ (a' := ?_) ?_ ?_
  rotate_left
  ·show Act.put _ (some 30) _ = _
   simp only [Act.put, List.setIfInBounds_toArray, List.set_cons_zero, List.set_cons_succ, i64_w, i32_w]
   rfl
  refine one_ (i := 2) (N := some 31) #[true, true, true, true, false, false, false, false, false, false, false, false, false, false, false, false, false, false, false, false, false, false, false, false, false, false] rfl rfl (one_of HT_.out (by kernel_rfl)) (by decide) (fun K hK => ?_)
  refine goes_ Try.func14 (by kernel_rfl) rfl #[.agg #[.int .i64 t270, .slice Ao132 t271.length co132]] (by rfl) rfl rfl aq ?_
  with_reducible refine (route_Valid.calls k t270 _ _ t271 t274 _ ?side1 ?side2 A10.out).mono ?_
  (case side1 => repeat (first | exact (Kd.V_reads' HO273.out).2.2 | (with_reducible refine Kd.C_alloc ?_ _) | (with_reducible refine Kd.C_drewN ?_ _) | (with_reducible refine Kd.C_drew ?_)))
  (case side2 => exact (Kd.V_reads' HO273.out).2.1)
  rintro e w133 ⟨rfl, hb⟩
  refine ⟨_, rfl, ?_⟩
  have n0_ := Aside0.mk (Kd.R_below (rq HO257) hb)
  have n1_ := Aside0.mk (Kd.R_below (rq HO261) hb)
  have n2_ := Aside0.mk (Kd.R_below (rq HO268) hb)
  have n3_ := Aside0.mk (Kd.V_below (vq HO273) hb)
  have n4_ := Aside0.mk (blk_below (g := gb258) (o := .cells #[.int .i64 t254, .slice Ao115 t255.length co115] 25 (0, 0)) (bq BK258) hb)
  have n5_ := Aside0.mk (blk_below (g := gb262) (o := .cells #[.int .i64 a1, .slice Ao118 y259.length co118] 25 (0, 0)) (bq BK262) hb)
  have n6_ := Aside0.mk (blk_below (g := gb269) (o := .cells #[.int .i64 t263, .slice Ao124 y266.length co124] 25 (0, 0)) (bq BK269) hb)
  have n7_ := Aside0.mk (below_step (hq HB) hb)
  clear HO257
  clear HO261
  clear HO268
  clear HO273
  clear BK258
  clear BK262
  clear BK269
  clear HB
  have HO257 := n0_
  have HO261 := n1_
  have HO268 := n2_
  have HO273 := n3_
  have BK258 := n4_
  have BK262 := n5_
  have BK269 := n6_
  have HB := n7_
  clear n0_ n1_ n2_ n3_ n4_ n5_ n6_ n7_
  (try clear hb)
  (try clear hb2)
  (try clear hk)
  (try clear hi)
  refine hK.out _ _ ⟨(blk_cell BK258.out 0).trans rfl, (blk_cell BK258.out 1).trans rfl⟩ (fun hHeld => ?_)
  clear hK K
  refine norm_ (a' := ?_) ?_ ?_
  rotate_left
  ·show Act.put _ (some 31) _ = _
   simp only [Act.put, List.setIfInBounds_toArray, List.set_cons_zero, List.set_cons_succ, i64_w, i32_w]
   rfl
  refine one_ (i := 4) (N := some 33) #[true, true, true, true, true, false, false, false, false, false, false, false, false, false, false, false, false, false, false, false, false, false, false, false, false, false] rfl rfl (one_of HT_.out (by kernel_rfl)) (by decide) (fun K hK => ?_)
  refine goes_ Try.func16 (by kernel_rfl) rfl #[.agg #[.int .i64 t254, .slice Ao115 t255.length co115]] (by rfl) rfl rfl aq ?_
  with_reducible refine (intervalmonref29_Valid.calls k t254 _ _ t255 t275 _ ?side1 ?side2 A11.out).mono ?_
  (case side1 => repeat (first | exact (Kd.R_reads' HO257.out).2.2 | (with_reducible refine Kd.C_alloc ?_ _) | (with_reducible refine Kd.C_drewN ?_ _) | (with_reducible refine Kd.C_drew ?_)))
  (case side2 => exact (Kd.R_reads' HO257.out).2.1)
  rintro e w134 ⟨rfl, hb⟩
  refine ⟨_, rfl, ?_⟩
  have n0_ := Aside0.mk (Kd.R_below (rq HO257) hb)
  have n1_ := Aside0.mk (Kd.R_below (rq HO261) hb)
  have n2_ := Aside0.mk (Kd.R_below (rq HO268) hb)
  have n3_ := Aside0.mk (Kd.V_below (vq HO273) hb)
  have n4_ := Aside0.mk (blk_below (g := gb258) (o := .cells #[.int .i64 t254, .slice Ao115 t255.length co115] 25 (0, 0)) (bq BK258) hb)
  have n5_ := Aside0.mk (blk_below (g := gb262) (o := .cells #[.int .i64 a1, .slice Ao118 y259.length co118] 25 (0, 0)) (bq BK262) hb)
  have n6_ := Aside0.mk (blk_below (g := gb269) (o := .cells #[.int .i64 t263, .slice Ao124 y266.length co124] 25 (0, 0)) (bq BK269) hb)
  have n7_ := Aside0.mk (below_step (hq HB) hb)
  clear HO257
  clear HO261
  clear HO268
  clear HO273
  clear BK258
  clear BK262
  clear BK269
  clear HB
  have HO257 := n0_
  have HO261 := n1_
  have HO268 := n2_
  have HO273 := n3_
  have BK258 := n4_
  have BK262 := n5_
  have BK269 := n6_
  have HB := n7_
  clear n0_ n1_ n2_ n3_ n4_ n5_ n6_ n7_
  (try clear hb)
  (try clear hb2)
  (try clear hk)
  (try clear hi)
  refine hK.out _ _ ⟨(blk_cell BK258.out 0).trans rfl, (blk_cell BK258.out 1).trans rfl⟩ (fun hHeld => ?_)
  clear hK K
  refine norm_ (a' := ?_) ?_ ?_
  rotate_left
  ·show Act.put _ (some 33) _ = _
   simp only [Act.put, List.setIfInBounds_toArray, List.set_cons_zero, List.set_cons_succ, i64_w, i32_w]
   rfl
  refine pure_ (i := 5) (N := some 34) (v := ?_) (a' := ?_) #[true, true, true, true, true, true, false, false, false, false, false, false, false, false, false, false, false, false, false, false, false, false, false, false, false, false] rfl rfl (any_of HT_.out (by kernel_rfl)) (fun _ _ _ h => h) (Or.inl ⟨by rfl, ?_⟩) ?_ ?_
  rotate_left
  ·intro w'
   go_simp
   with_reducible rfl
  rotate_left
  ·simp only [Act.put, List.setIfInBounds_toArray, List.set_cons_zero, List.set_cons_succ, i64_w, i32_w]
   rfl
  refine pure_ (i := 6) (N := some 35) (v := ?_) (a' := ?_) #[true, true, true, true, true, true, true, false, false, false, false, false, false, false, false, false, false, false, false, false, false, false, false, false, false, false] rfl rfl (any_of HT_.out (by kernel_rfl)) (fun _ _ _ h => h) (Or.inl ⟨by rfl, ?_⟩) ?_ ?_
  rotate_left
  ·intro w'
   go_simp
   with_reducible rfl
  rotate_left
  ·simp only [Act.put, List.setIfInBounds_toArray, List.set_cons_zero, List.set_cons_succ, i64_w, i32_w]
   rfl
  refine pure_ (i := 7) (N := some 36) (v := undef) (a' := ?_) #[true, true, true, true, true, true, true, true, false, false, false, false, false, false, false, false, false, false, false, false, false, false, false, false, false, false] rfl rfl (any_of HT_.out (by kernel_rfl)) (fun _ _ _ h => h) (Or.inr ⟨by rfl, rfl⟩) ?_ ?_
  rotate_left
  ·simp only [Act.put, List.setIfInBounds_toArray, List.set_cons_zero, List.set_cons_succ, i64_w, i32_w]
   rfl
  refine pure_ (i := 8) (N := some 37) (v := undef) (a' := ?_) #[true, true, true, true, true, true, true, true, true, false, false, false, false, false, false, false, false, false, false, false, false, false, false, false, false, false] rfl rfl (any_of HT_.out (by kernel_rfl)) (fun _ _ _ h => h) (Or.inr ⟨by rfl, rfl⟩) ?_ ?_
  rotate_left
  ·simp only [Act.put, List.setIfInBounds_toArray, List.set_cons_zero, List.set_cons_succ, i64_w, i32_w]
   rfl
  refine pure_ (i := 9) (N := some 38) (v := undef) (a' := ?_) #[true, true, true, true, true, true, true, true, true, true, false, false, false, false, false, false, false, false, false, false, false, false, false, false, false, false] rfl rfl (any_of HT_.out (by kernel_rfl)) (fun _ _ _ h => h) (Or.inr ⟨by rfl, rfl⟩) ?_ ?_
  rotate_left
  ·simp only [Act.put, List.setIfInBounds_toArray, List.set_cons_zero, List.set_cons_succ, i64_w, i32_w]
   rfl
  refine pure_ (i := 10) (N := some 39) (v := undef) (a' := ?_) #[true, true, true, true, true, true, true, true, true, true, true, false, false, false, false, false, false, false, false, false, false, false, false, false, false, false] rfl rfl (any_of HT_.out (by kernel_rfl)) (fun _ _ _ h => h) (Or.inr ⟨by rfl, rfl⟩) ?_ ?_
  rotate_left
  ·simp only [Act.put, List.setIfInBounds_toArray, List.set_cons_zero, List.set_cons_succ, i64_w, i32_w]
   rfl
  refine pure_ (i := 11) (N := some 40) (v := undef) (a' := ?_) #[true, true, true, true, true, true, true, true, true, true, true, true, false, false, false, false, false, false, false, false, false, false, false, false, false, false] rfl rfl (any_of HT_.out (by kernel_rfl)) (fun _ _ _ h => h) (Or.inr ⟨by rfl, rfl⟩) ?_ ?_
  rotate_left
  ·simp only [Act.put, List.setIfInBounds_toArray, List.set_cons_zero, List.set_cons_succ, i64_w, i32_w]
   rfl
  refine pure_ (i := 12) (N := some 41) (v := undef) (a' := ?_) #[true, true, true, true, true, true, true, true, true, true, true, true, true, false, false, false, false, false, false, false, false, false, false, false, false, false] rfl rfl (any_of HT_.out (by kernel_rfl)) (fun _ _ _ h => h) (Or.inr ⟨by rfl, rfl⟩) ?_ ?_
  rotate_left
  ·simp only [Act.put, List.setIfInBounds_toArray, List.set_cons_zero, List.set_cons_succ, i64_w, i32_w]
   rfl
  refine pure_ (i := 13) (N := some 42) (v := ?_) (a' := ?_) #[true, true, true, true, true, true, true, true, true, true, true, true, true, true, false, false, false, false, false, false, false, false, false, false, false, false] rfl rfl (any_of HT_.out (by kernel_rfl)) (fun _ _ _ h => h) (Or.inl ⟨by rfl, ?_⟩) ?_ ?_
  rotate_left
  ·intro w'
   go_simp
   with_reducible rfl
  rotate_left
  ·simp only [Act.put, List.setIfInBounds_toArray, List.set_cons_zero, List.set_cons_succ, i64_w, i32_w]
   rfl
  refine pure_ (i := 14) (N := some 43) (v := ?_) (a' := ?_) #[true, true, true, true, true, true, true, true, true, true, true, true, true, true, true, false, false, false, false, false, false, false, false, false, false, false] rfl rfl (any_of HT_.out (by kernel_rfl)) (fun _ _ _ h => h) (Or.inl ⟨by rfl, ?_⟩) ?_ ?_
  rotate_left
  ·intro w'
   go_simp
   with_reducible rfl
  rotate_left
  ·simp only [Act.put, List.setIfInBounds_toArray, List.set_cons_zero, List.set_cons_succ, i64_w, i32_w]
   rfl
  refine pure_ (i := 15) (N := some 44) (v := undef) (a' := ?_) #[true, true, true, true, true, true, true, true, true, true, true, true, true, true, true, true, false, false, false, false, false, false, false, false, false, false] rfl rfl (any_of HT_.out (by kernel_rfl)) (fun _ _ _ h => h) (Or.inr ⟨by rfl, rfl⟩) ?_ ?_
  rotate_left
  ·simp only [Act.put, List.setIfInBounds_toArray, List.set_cons_zero, List.set_cons_succ, i64_w, i32_w]
   rfl
  refine pure_ (i := 16) (N := some 45) (v := undef) (a' := ?_) #[true, true, true, true, true, true, true, true, true, true, true, true, true, true, true, true, true, false, false, false, false, false, false, false, false, false] rfl rfl (any_of HT_.out (by kernel_rfl)) (fun _ _ _ h => h) (Or.inr ⟨by rfl, rfl⟩) ?_ ?_
  rotate_left
  ·simp only [Act.put, List.setIfInBounds_toArray, List.set_cons_zero, List.set_cons_succ, i64_w, i32_w]
   rfl
  refine pure_ (i := 17) (N := some 46) (v := undef) (a' := ?_) #[true, true, true, true, true, true, true, true, true, true, true, true, true, true, true, true, true, true, false, false, false, false, false, false, false, false] rfl rfl (any_of HT_.out (by kernel_rfl)) (fun _ _ _ h => h) (Or.inr ⟨by rfl, rfl⟩) ?_ ?_
  rotate_left
  ·simp only [Act.put, List.setIfInBounds_toArray, List.set_cons_zero, List.set_cons_succ, i64_w, i32_w]
   rfl
  refine pure_ (i := 18) (N := some 47) (v := undef) (a' := ?_) #[true, true, true, true, true, true, true, true, true, true, true, true, true, true, true, true, true, true, true, false, false, false, false, false, false, false] rfl rfl (any_of HT_.out (by kernel_rfl)) (fun _ _ _ h => h) (Or.inr ⟨by rfl, rfl⟩) ?_ ?_
  rotate_left
  ·simp only [Act.put, List.setIfInBounds_toArray, List.set_cons_zero, List.set_cons_succ, i64_w, i32_w]
   rfl
  refine pure_ (i := 19) (N := some 48) (v := undef) (a' := ?_) #[true, true, true, true, true, true, true, true, true, true, true, true, true, true, true, true, true, true, true, true, false, false, false, false, false, false] rfl rfl (any_of HT_.out (by kernel_rfl)) (fun _ _ _ h => h) (Or.inr ⟨by rfl, rfl⟩) ?_ ?_
  rotate_left
  ·simp only [Act.put, List.setIfInBounds_toArray, List.set_cons_zero, List.set_cons_succ, i64_w, i32_w]
   rfl
  refine pure_ (i := 20) (N := some 49) (v := undef) (a' := ?_) #[true, true, true, true, true, true, true, true, true, true, true, true, true, true, true, true, true, true, true, true, true, false, false, false, false, false] rfl rfl (any_of HT_.out (by kernel_rfl)) (fun _ _ _ h => h) (Or.inr ⟨by rfl, rfl⟩) ?_ ?_
  rotate_left
  ·simp only [Act.put, List.setIfInBounds_toArray, List.set_cons_zero, List.set_cons_succ, i64_w, i32_w]
   rfl
  refine pure_ (i := 21) (N := some 50) (v := ?_) (a' := ?_) #[true, true, true, true, true, true, true, true, true, true, true, true, true, true, true, true, true, true, true, true, true, true, false, false, false, false] rfl rfl (any_of HT_.out (by kernel_rfl)) (fun _ _ _ h => h) (Or.inl ⟨by rfl, ?_⟩) ?_ ?_
  rotate_left
  ·intro w'
   go_simp
   with_reducible rfl
  rotate_left
  ·simp only [Act.put, List.setIfInBounds_toArray, List.set_cons_zero, List.set_cons_succ, i64_w, i32_w]
   rfl
  refine pure_ (i := 22) (N := some 51) (v := ?_) (a' := ?_) #[true, true, true, true, true, true, true, true, true, true, true, true, true, true, true, true, true, true, true, true, true, true, true, false, false, false] rfl rfl (any_of HT_.out (by kernel_rfl)) (fun _ _ _ h => h) (Or.inl ⟨by rfl, ?_⟩) ?_ ?_
  rotate_left
  ·intro w'
   go_simp
   with_reducible rfl
  rotate_left
  ·simp only [Act.put, List.setIfInBounds_toArray, List.set_cons_zero, List.set_cons_succ, i64_w, i32_w]
   rfl
  refine pure_ (i := 23) (N := some 52) (v := undef) (a' := ?_) #[true, true, true, true, true, true, true, true, true, true, true, true, true, true, true, true, true, true, true, true, true, true, true, true, false, false] rfl rfl (any_of HT_.out (by kernel_rfl)) (fun _ _ _ h => h) (Or.inr ⟨by rfl, rfl⟩) ?_ ?_
  rotate_left
  ·simp only [Act.put, List.setIfInBounds_toArray, List.set_cons_zero, List.set_cons_succ, i64_w, i32_w]
   rfl
  refine pure_ (i := 24) (N := some 53) (v := ?_) (a' := ?_) #[true, true, true, true, true, true, true, true, true, true, true, true, true, true, true, true, true, true, true, true, true, true, true, true, true, false] rfl rfl (any_of HT_.out (by kernel_rfl)) (fun _ _ _ h => h) (Or.inl ⟨by rfl, ?_⟩) ?_ ?_
  rotate_left
  ·intro w'
   go_simp
   with_reducible rfl
  rotate_left
  ·simp only [Act.put, List.setIfInBounds_toArray, List.set_cons_zero, List.set_cons_succ, i64_w, i32_w]
   rfl
  refine pure_ (i := 25) (N := some 8) (v := ?_) (a' := ?_) #[true, true, true, true, true, true, true, true, true, true, true, true, true, true, true, true, true, true, true, true, true, true, true, true, true, true] rfl rfl (any_of HT_.out (by kernel_rfl)) (fun _ _ _ h => h) (Or.inl ⟨by rfl, ?_⟩) ?_ ?_
  rotate_left
  ·intro w'
   go_simp
   with_reducible rfl
  rotate_left
  ·simp only [Act.put, List.setIfInBounds_toArray, List.set_cons_zero, List.set_cons_succ, i64_w, i32_w]
   rfl
  refine done_ (done_of HT_.out (by kernel_rfl)) ?_
  try go_wp2
  go_ret
  exact ⟨by first | rfl | (simp [errW_none, errW_some] <;> rfl) | (simp [*, errW_none, errW_some] <;> rfl), by repeat (first | (with_reducible first | exact HB.out | apply below_alloc | apply pw_below_drewN | apply below_drew1 | refine below_set ?_ GE258.out | refine below_set ?_ GE262.out | refine below_set ?_ GE269.out) | exact HB.out)⟩

/-- THE ONE PURE STATEMENT of intervalmonlaw29_RouteValid: yours. -/
def intervalmonlaw29_RouteValid.Pure : Prop := ∀ (l0 : List Int) (a1 : Int) (a2 : Int) (a3 : Int), l0.length ≤ maxLen → l0.length * 8 ≤ 140737488351232 → (∀ x ∈ l0, (Lit.int .i64 x).wf = true) → (Lit.int .i64 a1).wf = true → (Lit.int .i64 a2).wf = true → (Lit.int .i64 a3).wf = true → ∃ k, intervalmonlaw29_RouteValid.f k l0 a1 a2 a3 = some true
theorem intervalmonlaw29_RouteValid.walk (P : intervalmonlaw29_RouteValid.Pure) (a0 : Option Addr) (len0 cap0 : Nat) (z0 : List Int) (a1 : Int) (a2 : Int) (a3 : Int) (w : World) (w0 : (a0 = none ∧ len0 = 0 ∧ cap0 = 0 ∧ z0 = []) ∨ ∃ x, a0 = some x ∧ len0 ≤ cap0 ∧ cap0 ≤ maxLen ∧ z0.length = cap0 ∧ (∀ i, i < z0.length → w.cell? (x.add i) = some (.int .i64 (z0.getD i 0))) ∧ ∀ n ∈ z0, (Lit.int .i64 n).wf = true) (y0 : len0 * 8 ≤ 140737488351232) (w1 : (Lit.int .i64 a1).wf = true) (w2 : (Lit.int .i64 a2).wf = true) (w3 : (Lit.int .i64 a3).wf = true) :
  Calls Try.prog 3 #[.slice a0 len0 cap0, .int .i64 a1, .int .i64 a2, .int .i64 a3] w fun e w' => e = .returned (.bool true) ∧ Below w.heap.size w w' := by
 obtain ⟨l0, rfl, hr0, hm0, hw0, hc0⟩ := ReadsInt.ofRowC w0
 obtain ⟨k, h⟩ := P l0 a1 a2 a3 hm0 y0 hw0 w1 w2 w3
 refine (intervalmonlaw29_RouteValid.calls k _ _ l0 a1 a2 a3 true w (Kd.C_of_reads (d := (0 : Int)) (h1 := fun _ => rfl) hr0) hc0 h).mono ?_
 rintro e w' ⟨rfl, hd⟩
 exact ⟨rfl, hd⟩

end Go.Proofs.Ytcamljlhdejmmaa.P
