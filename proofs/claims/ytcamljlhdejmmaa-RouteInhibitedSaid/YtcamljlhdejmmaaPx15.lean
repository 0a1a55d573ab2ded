-- Written by this session's own copy of a printing program (wip/tools); Lean checks it.
import Derived.Test.YtcamljlhdejmmaaPx0
import Derived.Test.YtcamljlhdejmmaaPx2
import Derived.Test.YtcamljlhdejmmaaPx4
import Derived.Test.YtcamljlhdejmmaaPx6
import Derived.Test.YtcamljlhdejmmaaPx8
import Derived.Test.YtcamljlhdejmmaaPx11
import Derived.Test.YtcamljlhdejmmaaPx13
import Derived.Test.YtcamljlhdejmmaaPx14
namespace Go.Proofs.Ytcamljlhdejmmaa.P
open Go.RowKit Go.Proofs.YtcamljlhdejmmaaW.PrintWords Go.Proofs.YtcamljlhdejmmaaW.PrintLast Go.Proofs.YtcamljlhdejmmaaW.PrintMore
attribute [local go_sem] max2_int min2_int max_two min_two max_three min_three max_four min_four   -- for this text's walks alone
set_option linter.unusedVariables false
set_option linter.unusedSimpArgs false

/-! ### intervalmonlaw29_RouteInhibited: function 4 -/
def intervalmonlaw29_RouteInhibited.f (k : Nat) (l0 : List Int) (a1 : Int) (a2 : Int) : Option (Bool) := (intervalmonref29_Any.f k l0).bind fun bt311 => ((intervalmonref29_Firing.f k bt311.1 a1).bind fun t316 => ((intervalmonref01_Around.f a2 10).bind fun t319 => ((intervalmonref29_Firing.f k t319 a1).bind fun t320 => ((intervalmonlaw29_graph.f bt311.1 bt311.2).bind fun bt323 => ((route_Inhibited.f k bt323.1 bt323.2 t316).bind fun t327 => ((intervalmonref29_Inhibited.f k bt311.1 bt311.2 t316).bind fun t330 => ((intervalmonref29_SameBools.f k t327 t330).bind fun t333 => (if t333 = true then ((intervalmonlaw29_graph.f bt311.1 bt311.2).bind fun bt334 => ((route_Inhibited.f k bt334.1 bt334.2 t320).bind fun t338 => ((intervalmonref29_Inhibited.f k bt311.1 bt311.2 t320).bind fun t341 => ((intervalmonref29_SameBools.f k t338 t341).bind fun t344 => (if t344 = true then ((intervalmonlaw29_lives.f k).bind fun t345 => (some t345)) else (some false)))))) else (some false)))))))))
theorem intervalmonlaw29_RouteInhibited.mono : ∀ a0 a1 a2 k, LeO (intervalmonlaw29_RouteInhibited.f k a0 a1 a2) (intervalmonlaw29_RouteInhibited.f (k + 1) a0 a1 a2) := by
 intro a0 a1 a2 k
 unfold intervalmonlaw29_RouteInhibited.f
 repeat' first
   | (with_reducible exact intervalmonlaw29_lives.mono _)
   | (with_reducible exact intervalmonref29_Any.mono _ _)
   | (with_reducible exact intervalmonref29_Firing.mono _ _ _)
   | (with_reducible exact intervalmonref29_Inhibited.mono _ _ _ _)
   | (with_reducible exact intervalmonref29_SameBools.mono _ _ _)
   | (with_reducible exact route_Inhibited.mono _ _ _ _)
   | (with_reducible exact LeO.refl _)
   | (with_reducible exact LeO.none _)
   | (with_reducible refine LeO.ite ?_ ?_)
   | (with_reducible refine LeO.bind ?_ (fun _ => ?_))
   | exact intervalmonlaw29_lives.mono _
   | exact intervalmonref29_Any.mono _ _
   | exact intervalmonref29_Firing.mono _ _ _
   | exact intervalmonref29_Inhibited.mono _ _ _ _
   | exact intervalmonref29_SameBools.mono _ _ _
   | exact route_Inhibited.mono _ _ _ _
   | exact LeO.none _
   | refine LeO.ite ?_ ?_
   | refine LeO.bind ?_ (fun _ => ?_)
def intervalmonlaw29_RouteInhibited.T4 : Bool × List (List Nat × List Nat) := (true, [([], []), ([0], [0]), ([], []), ([1, 2, 1], [1, 2]), ([], []), ([], []), ([4, 5, 3], [4, 5]), ([3, 6, 6], [3, 6]), ([7, 7], [7]), ([8], [8]), ([9, 8, 8], [8, 9]), ([8], [8]), ([10, 11, 10, 8], [8, 10, 11]), ([8], [8]), ([8], [8]), ([13, 14, 12, 8], [8, 13, 14]), ([12, 15, 15, 8], [8, 12, 15]), ([8, 16], [8, 16]), ([17, 16], [17]), ([18, 18], [18]), ([18, 19], [18, 19]), ([20, 19, 0, 1, 2, 3, 4, 5, 6, 7, 8, 9, 10, 11, 12, 13, 14, 15, 16, 17, 18, 19, 20], [20])])
def intervalmonlaw29_RouteInhibited.B4 : List Nat := [0, 1, 0, 7, 0, 0, 63, 127, 255, 511, 1023, 511, 4095, 511, 511, 32767, 65535, 131071, 262143, 524287, 1048575, 2097151]
theorem intervalmonlaw29_RouteInhibited.tab4 : rtab .any (opsOf Try.f4 4) = intervalmonlaw29_RouteInhibited.T4 := by kernel_rfl
theorem intervalmonlaw29_RouteInhibited.bits4 : waitsOk intervalmonlaw29_RouteInhibited.T4.2 intervalmonlaw29_RouteInhibited.B4 = true := by kernel_rfl
set_option maxHeartbeats 8000000 in
set_option maxRecDepth 100000 in
theorem intervalmonlaw29_RouteInhibited.calls (k : Nat) (A0 : Option Addr) (c0 : Nat) (l0 : List Int) (a1 : Int) (a2 : Int) (r : Bool) (w : World) (hr0 : Kd.C (Kd.int .i64) w A0 l0.length l0) (hc0 : l0.length ≤ c0) (h : intervalmonlaw29_RouteInhibited.f k l0 a1 a2 = some r) :
  Calls Try.prog 4 #[.slice A0 l0.length c0, .int .i64 a1, .int .i64 a2] w fun e w' => e = .returned (.bool r) ∧ Below w.heap.size w w' := by
 have hu25 := Try.underlying25
 have HR0 := Aside0.mk hr0
 have HC0 := Aside0.mk hc0
 clear hr0 hc0
 have HB := Aside0.mk (Below.refl w.heap.size w)
 have H : ((intervalmonref29_Any.f k l0).bind fun bt311 => ((intervalmonref29_Firing.f k bt311.1 a1).bind fun t316 => ((intervalmonref01_Around.f a2 10).bind fun t319 => ((intervalmonref29_Firing.f k t319 a1).bind fun t320 => ((intervalmonlaw29_graph.f bt311.1 bt311.2).bind fun bt323 => ((route_Inhibited.f k bt323.1 bt323.2 t316).bind fun t327 => ((intervalmonref29_Inhibited.f k bt311.1 bt311.2 t316).bind fun t330 => ((intervalmonref29_SameBools.f k t327 t330).bind fun t333 => (if t333 = true then ((intervalmonlaw29_graph.f bt311.1 bt311.2).bind fun bt334 => ((route_Inhibited.f k bt334.1 bt334.2 t320).bind fun t338 => ((intervalmonref29_Inhibited.f k bt311.1 bt311.2 t320).bind fun t341 => ((intervalmonref29_SameBools.f k t338 t341).bind fun t344 => (if t344 = true then ((intervalmonlaw29_lives.f k).bind fun t345 => (some t345)) else (some false)))))) else (some false)))))))))) = some r := h
 clear h
 replace H := Option.bind_eq_some_iff.mp H
 obtain ⟨⟨t311, t312⟩, A40, H⟩ := H
 replace H : ((intervalmonref29_Firing.f k t311 a1).bind fun t316 => ((intervalmonref01_Around.f a2 10).bind fun t319 => ((intervalmonref29_Firing.f k t319 a1).bind fun t320 => ((intervalmonlaw29_graph.f t311 t312).bind fun bt323 => ((route_Inhibited.f k bt323.1 bt323.2 t316).bind fun t327 => ((intervalmonref29_Inhibited.f k t311 t312 t316).bind fun t330 => ((intervalmonref29_SameBools.f k t327 t330).bind fun t333 => (if t333 = true then ((intervalmonlaw29_graph.f t311 t312).bind fun bt334 => ((route_Inhibited.f k bt334.1 bt334.2 t320).bind fun t338 => ((intervalmonref29_Inhibited.f k t311 t312 t320).bind fun t341 => ((intervalmonref29_SameBools.f k t338 t341).bind fun t344 => (if t344 = true then ((intervalmonlaw29_lives.f k).bind fun t345 => (some t345)) else (some false)))))) else (some false))))))))) = some r := H
 have A4 := Aside0.mk A40
 clear A40
 replace H := Option.bind_eq_some_iff.mp H
 obtain ⟨t316, A50, H⟩ := H
 replace H : ((intervalmonref01_Around.f a2 10).bind fun t319 => ((intervalmonref29_Firing.f k t319 a1).bind fun t320 => ((intervalmonlaw29_graph.f t311 t312).bind fun bt323 => ((route_Inhibited.f k bt323.1 bt323.2 t316).bind fun t327 => ((intervalmonref29_Inhibited.f k t311 t312 t316).bind fun t330 => ((intervalmonref29_SameBools.f k t327 t330).bind fun t333 => (if t333 = true then ((intervalmonlaw29_graph.f t311 t312).bind fun bt334 => ((route_Inhibited.f k bt334.1 bt334.2 t320).bind fun t338 => ((intervalmonref29_Inhibited.f k t311 t312 t320).bind fun t341 => ((intervalmonref29_SameBools.f k t338 t341).bind fun t344 => (if t344 = true then ((intervalmonlaw29_lives.f k).bind fun t345 => (some t345)) else (some false)))))) else (some false)))))))) = some r := H
 have A5 := Aside0.mk A50
 clear A50
 replace H := Option.bind_eq_some_iff.mp H
 obtain ⟨t319, A60, H⟩ := H
 replace H : ((intervalmonref29_Firing.f k t319 a1).bind fun t320 => ((intervalmonlaw29_graph.f t311 t312).bind fun bt323 => ((route_Inhibited.f k bt323.1 bt323.2 t316).bind fun t327 => ((intervalmonref29_Inhibited.f k t311 t312 t316).bind fun t330 => ((intervalmonref29_SameBools.f k t327 t330).bind fun t333 => (if t333 = true then ((intervalmonlaw29_graph.f t311 t312).bind fun bt334 => ((route_Inhibited.f k bt334.1 bt334.2 t320).bind fun t338 => ((intervalmonref29_Inhibited.f k t311 t312 t320).bind fun t341 => ((intervalmonref29_SameBools.f k t338 t341).bind fun t344 => (if t344 = true then ((intervalmonlaw29_lives.f k).bind fun t345 => (some t345)) else (some false)))))) else (some false))))))) = some r := H
 have A6 := Aside0.mk A60
 clear A60
 replace H := Option.bind_eq_some_iff.mp H
 obtain ⟨t320, A70, H⟩ := H
 replace H : ((intervalmonlaw29_graph.f t311 t312).bind fun bt323 => ((route_Inhibited.f k bt323.1 bt323.2 t316).bind fun t327 => ((intervalmonref29_Inhibited.f k t311 t312 t316).bind fun t330 => ((intervalmonref29_SameBools.f k t327 t330).bind fun t333 => (if t333 = true then ((intervalmonlaw29_graph.f t311 t312).bind fun bt334 => ((route_Inhibited.f k bt334.1 bt334.2 t320).bind fun t338 => ((intervalmonref29_Inhibited.f k t311 t312 t320).bind fun t341 => ((intervalmonref29_SameBools.f k t338 t341).bind fun t344 => (if t344 = true then ((intervalmonlaw29_lives.f k).bind fun t345 => (some t345)) else (some false)))))) else (some false)))))) = some r := H
 have A7 := Aside0.mk A70
 clear A70
 replace H := Option.bind_eq_some_iff.mp H
 obtain ⟨⟨t323, t324⟩, A80, H⟩ := H
 replace H : ((route_Inhibited.f k t323 t324 t316).bind fun t327 => ((intervalmonref29_Inhibited.f k t311 t312 t316).bind fun t330 => ((intervalmonref29_SameBools.f k t327 t330).bind fun t333 => (if t333 = true then ((intervalmonlaw29_graph.f t311 t312).bind fun bt334 => ((route_Inhibited.f k bt334.1 bt334.2 t320).bind fun t338 => ((intervalmonref29_Inhibited.f k t311 t312 t320).bind fun t341 => ((intervalmonref29_SameBools.f k t338 t341).bind fun t344 => (if t344 = true then ((intervalmonlaw29_lives.f k).bind fun t345 => (some t345)) else (some false)))))) else (some false))))) = some r := H
 have A8 := Aside0.mk A80
 clear A80
 replace H := Option.bind_eq_some_iff.mp H
 obtain ⟨t327, A90, H⟩ := H
 replace H : ((intervalmonref29_Inhibited.f k t311 t312 t316).bind fun t330 => ((intervalmonref29_SameBools.f k t327 t330).bind fun t333 => (if t333 = true then ((intervalmonlaw29_graph.f t311 t312).bind fun bt334 => ((route_Inhibited.f k bt334.1 bt334.2 t320).bind fun t338 => ((intervalmonref29_Inhibited.f k t311 t312 t320).bind fun t341 => ((intervalmonref29_SameBools.f k t338 t341).bind fun t344 => (if t344 = true then ((intervalmonlaw29_lives.f k).bind fun t345 => (some t345)) else (some false)))))) else (some false)))) = some r := H
 have A9 := Aside0.mk A90
 clear A90
 replace H := Option.bind_eq_some_iff.mp H
 obtain ⟨t330, A100, H⟩ := H
 replace H : ((intervalmonref29_SameBools.f k t327 t330).bind fun t333 => (if t333 = true then ((intervalmonlaw29_graph.f t311 t312).bind fun bt334 => ((route_Inhibited.f k bt334.1 bt334.2 t320).bind fun t338 => ((intervalmonref29_Inhibited.f k t311 t312 t320).bind fun t341 => ((intervalmonref29_SameBools.f k t338 t341).bind fun t344 => (if t344 = true then ((intervalmonlaw29_lives.f k).bind fun t345 => (some t345)) else (some false)))))) else (some false))) = some r := H
 have A10 := Aside0.mk A100
 clear A100
 replace H := Option.bind_eq_some_iff.mp H
 obtain ⟨t333, A110, H⟩ := H
 replace H : (if t333 = true then ((intervalmonlaw29_graph.f t311 t312).bind fun bt334 => ((route_Inhibited.f k bt334.1 bt334.2 t320).bind fun t338 => ((intervalmonref29_Inhibited.f k t311 t312 t320).bind fun t341 => ((intervalmonref29_SameBools.f k t338 t341).bind fun t344 => (if t344 = true then ((intervalmonlaw29_lives.f k).bind fun t345 => (some t345)) else (some false)))))) else (some false)) = some r := H
 have A11 := Aside0.mk A110
 clear A110
 by_cases c12 : t333 = true
 ·subst c12
  have H1 : ((intervalmonlaw29_graph.f t311 t312).bind fun bt334 => ((route_Inhibited.f k bt334.1 bt334.2 t320).bind fun t338 => ((intervalmonref29_Inhibited.f k t311 t312 t320).bind fun t341 => ((intervalmonref29_SameBools.f k t338 t341).bind fun t344 => (if t344 = true then ((intervalmonlaw29_lives.f k).bind fun t345 => (some t345)) else (some false)))))) = some r := by rw [if_pos rfl] at H; exact H
  clear H
  have H := H1
  clear H1
  replace H := Option.bind_eq_some_iff.mp H
  obtain ⟨⟨t334, t335⟩, A130, H⟩ := H
  replace H : ((route_Inhibited.f k t334 t335 t320).bind fun t338 => ((intervalmonref29_Inhibited.f k t311 t312 t320).bind fun t341 => ((intervalmonref29_SameBools.f k t338 t341).bind fun t344 => (if t344 = true then ((intervalmonlaw29_lives.f k).bind fun t345 => (some t345)) else (some false))))) = some r := H
  have A13 := Aside0.mk A130
  clear A130
  replace H := Option.bind_eq_some_iff.mp H
  obtain ⟨t338, A140, H⟩ := H
  replace H : ((intervalmonref29_Inhibited.f k t311 t312 t320).bind fun t341 => ((intervalmonref29_SameBools.f k t338 t341).bind fun t344 => (if t344 = true then ((intervalmonlaw29_lives.f k).bind fun t345 => (some t345)) else (some false)))) = some r := H
  have A14 := Aside0.mk A140
  clear A140
  replace H := Option.bind_eq_some_iff.mp H
  obtain ⟨t341, A150, H⟩ := H
  replace H : ((intervalmonref29_SameBools.f k t338 t341).bind fun t344 => (if t344 = true then ((intervalmonlaw29_lives.f k).bind fun t345 => (some t345)) else (some false))) = some r := H
  have A15 := Aside0.mk A150
  clear A150
  replace H := Option.bind_eq_some_iff.mp H
  obtain ⟨t344, A160, H⟩ := H
  replace H : (if t344 = true then ((intervalmonlaw29_lives.f k).bind fun t345 => (some t345)) else (some false)) = some r := H
  have A16 := Aside0.mk A160
  clear A160
  by_cases c17 : t344 = true
  ·subst c17
   have H1 : ((intervalmonlaw29_lives.f k).bind fun t345 => (some t345)) = some r := by rw [if_pos rfl] at H; exact H
   clear H
   have H := H1
   clear H1
   replace H := Option.bind_eq_some_iff.mp H
   obtain ⟨t345, A180, H⟩ := H
   replace H : (some t345) = some r := H
   have A18 := Aside0.mk A180
   clear A180
   obtain rfl := Option.some.inj H
   go_enter Try.func4, Try.ntmps4
   try go_wp2_with (first | ((with_reducible refine gate_callee (f := 12) rfl ?_); refine goesL_ (some 11) rfl rfl Try.func12 (by kernel_rfl) rfl #[.slice A0 l0.length c0] rfl aq ?_; (with_reducible refine (intervalmonref29_Any.calls k _ _ l0 t311 t312 _ ?side1 ?side2 A4.out).mono ?_); (case side1 => repeat (first | exact HR0.out | (with_reducible refine Kd.C_alloc ?_ _) | (with_reducible refine Kd.C_drewN ?_ _) | (with_reducible refine Kd.C_drew ?_))); (case side2 => exact HC0.out); rintro e w19 ⟨v313, rfl, ho0, hb⟩; refine ⟨_, rfl, ?_⟩; have n0_ := Aside0.mk (Kd.R_lower ho0 (below_size (hq HB))); have n1_ := Aside0.mk (below_step (hq HB) hb); clear HB; have HO314 := n0_; have HB := n1_; clear n0_ n1_; (try clear hb); (try clear hb2); (try clear hk); (try clear hi); (try clear ho0)) | ((with_reducible refine gate_dst (N := 7) rfl ?_); refine box_event ?hg (N := 7) ?hd (cs := #[.int .i64 0, .slice none 0 0]) (t := 25) ?hr ?_; (case hd => rfl); (case hg => rfl); (case hr => first | (go_simp; done) | (go_simp; rfl)); intro gb315 hg w20 hbox hb; have n0_ := Aside0.mk (Kd.R_below (rq HO314) hb); have n1_ := Aside0.mk (below_step (hq HB) hb); have n2_ := Aside0.mk (hbox); have n3_ := Aside0.mk ((by rw [hg]; exact (below_size (hq HB)) : w.heap.size ≤ gb315)); have n4_ := Aside0.mk ((by rw [hg]; exact (below_size (hq HB)) : w.heap.size ≤ gb315)); clear HO314; clear HB; have HO314 := n0_; have HB := n1_; have BK315 := n2_; have GW315 := n3_; have GE315 := n4_; clear n0_ n1_ n2_ n3_ n4_; clear hb hbox hg; have hcz21_0 : w20.cell? ⟨gb315, 0, none⟩ = some (.int .i64 0) := (blk_cell BK315.out 0).trans rfl; have hcz21_1 : w20.cell? ⟨gb315, 1, none⟩ = some (.slice none 0 0) := (blk_cell BK315.out 1).trans rfl; have hfz21_0 := blk_frozen BK315.out 0; have hfz21_1 := blk_frozen BK315.out 1; obtain ⟨Ao22, co22, eo22⟩ := Kd.R_slice HO314.out; subst eo22) | ((with_reducible refine gate_callee (f := 18) rfl ?_); refine goesL_ (some 15) rfl rfl Try.func18 (by kernel_rfl) rfl #[.int .i64 t311, .int .i64 a1] rfl aq ?_; (with_reducible refine (intervalmonref29_Firing.calls k t311 a1 t316 _ A5.out).mono ?_); rintro e w23 ⟨v317, rfl, ho0, hb⟩; refine ⟨_, rfl, ?_⟩; have n0_ := Aside0.mk (Kd.R_below (by (with_reducible repeat (first | apply Kd.R_alloc | apply Kd.R_drewN | apply Kd.R_drew)); exact (Kd.R_mono (Kd.R_far (p := ⟨gb315, 1, none⟩) (Kd.R_far (p := ⟨gb315, 0, none⟩) (Kd.R_types HO314.out BK315.out (by decide)) (fun _ hk => hk.2) (.int .i64 t311)) (fun _ hk => hk.2) (.slice Ao22 t312.length co22)) (fun _ h_ => h_.1))) hb); have n1_ := Aside0.mk (Kd.R_lower ho0 (below_size (hq HB))); have n2_ := Aside0.mk (blk_below (g := gb315) (o := .cells #[.int .i64 t311, .slice Ao22 t312.length co22] 25 (0, 0)) (by (with_reducible repeat (first | refine blk_drewN ?_ _ | refine blk_drew ?_ | refine blk_alloc ?_ _)); refine blk_put (cs := #[.int .i64 t311, .slice none 0 0]) ?_ 1 _ rfl; (with_reducible repeat (first | refine blk_drewN ?_ _ | refine blk_drew ?_ | refine blk_alloc ?_ _)); refine blk_put (cs := #[.int .i64 0, .slice none 0 0]) ?_ 0 _ rfl; (with_reducible repeat (first | refine blk_drewN ?_ _ | refine blk_drew ?_ | refine blk_alloc ?_ _)); exact BK315.out) hb); have n3_ := Aside0.mk (below_step (hq HB) hb); clear HO314; clear BK315; clear HB; have HO314 := n0_; have HO318 := n1_; have BK315 := n2_; have HB := n3_; clear n0_ n1_ n2_ n3_; (try clear hb); (try clear hb2); (try clear hk); (try clear hi); (try clear ho0)) | ((with_reducible refine gate_callee (f := 13) rfl ?_); refine goesL_ (some 17) rfl rfl Try.func13 (by kernel_rfl) rfl #[.int .i64 a2, .int .i64 10] rfl aq ?_; (with_reducible refine (intervalmonref01_Around.calls a2 10 t319 _ A6.out).mono ?_); rintro e w' ⟨rfl, ⟨nd, rfl⟩⟩; refine ⟨_, rfl, ?_⟩) | ((with_reducible refine gate_callee (f := 18) rfl ?_); refine goesL_ (some 19) rfl rfl Try.func18 (by kernel_rfl) rfl #[.int .i64 t319, .int .i64 a1] rfl aq ?_; (with_reducible refine (intervalmonref29_Firing.calls k t319 a1 t320 _ A7.out).mono ?_); rintro e w24 ⟨v321, rfl, ho0, hb⟩; refine ⟨_, rfl, ?_⟩; have n0_ := Aside0.mk (Kd.R_below (rq HO314) hb); have n1_ := Aside0.mk (Kd.R_elder' (rq HO318) (Kd.R_base ho0) hb); have n2_ := Aside0.mk (Kd.R_lower (Kd.R_new' ho0 (Kd.R_lt (rq HO318))) (below_size (hq HB))); have n3_ := Aside0.mk (blk_below (g := gb315) (o := .cells #[.int .i64 t311, .slice Ao22 t312.length co22] 25 (0, 0)) (bq BK315) hb); have n4_ := Aside0.mk (below_step (hq HB) hb); clear HO314; clear HO318; clear BK315; clear HB; have HO314 := n0_; have HO318 := n1_; have HO322 := n2_; have BK315 := n3_; have HB := n4_; clear n0_ n1_ n2_ n3_ n4_; (try clear hb); (try clear hb2); (try clear hk); (try clear hi); (try clear ho0)))
   have n0_ := Aside0.mk (Kd.R_drew HO314.out)
   have n1_ := Aside0.mk (Kd.R_drew HO318.out)
   have n2_ := Aside0.mk (Kd.R_drew HO322.out)
   have n3_ := Aside0.mk (blk_drew BK315.out)
   have n4_ := Aside0.mk (below_drew1 HB.out)
   clear HO314
   clear HO318
   clear HO322
   clear BK315
   clear HB
   have HO314 := n0_
   have HO318 := n1_
   have HO322 := n2_
   have BK315 := n3_
   have HB := n4_
   clear n0_ n1_ n2_ n3_ n4_
   refine start_ (n := 22) (S := fun w' => w'.cell? ⟨gb315, 0, none⟩ = some (.int .i64 t311) ∧ w'.cell? ⟨gb315, 1, none⟩ = some (.slice Ao22 t312.length co22)) (ds := []) #[false, false, false, false, false, false, false, false, false, false, false, false, false, false, false, false, false, false, false, false, false, false] (by kernel_rfl) rfl rfl ⟨(blk_cell BK315.out 0).trans rfl, (blk_cell BK315.out 1).trans rfl⟩ (fun hHeld => ?_); refine with_tabW intervalmonlaw29_RouteInhibited.tab4 intervalmonlaw29_RouteInhibited.bits4 (fun HT_ HW_ => ?_)
   generalize w24.drew = w25 at HO314 HO318 HO322 BK315 HB hHeld ⊢
   refine pure_ (i := 2) (N := some 22) (v := ?_) (a' := ?_) #[false, false, true, false, false, false, false, false, false, false, false, false, false, false, false, false, false, false, false, false, false, false] rfl rfl (any_of HT_.out (by kernel_rfl)) (fun _ _ _ h => h) (Or.inl ⟨by rfl, ?_⟩) ?_ ?_
   rotate_left
   ·intro w'
    go_simp
    with_reducible rfl
   rotate_left
   ·simp only [Act.put, List.setIfInBounds_toArray, List.set_cons_zero, List.set_cons_succ, i64_w, i32_w]
    rfl
   refine pure_ (i := 5) (N := some 25) (v := ?_) (a' := ?_) #[false, false, true, false, false, true, false, false, false, false, false, false, false, false, false, false, false, false, false, false, false, false] rfl rfl (any_of HT_.out (by kernel_rfl)) (fun _ _ _ h => h) (Or.inl ⟨by rfl, ?_⟩) ?_ ?_
   rotate_left
   ·intro w'
    go_simp
    with_reducible rfl
   rotate_left
   ·simp only [Act.put, List.setIfInBounds_toArray, List.set_cons_zero, List.set_cons_succ, i64_w, i32_w]
    rfl
   refine take_ (i := 0) (N := some 20) (v := ?_) (a' := ?_) #[true, false, true, false, false, true, false, false, false, false, false, false, false, false, false, false, false, false, false, false, false, false] rfl rfl (take_ofW HT_.out HW_.out (by kernel_rfl)) (fun _ _ _ h => h) (Or.inl ⟨by rfl, ?_⟩) hHeld ?_ ?_
   rotate_left
   ·rintro w' ⟨s0, s1⟩
    go_simp
    with_reducible rfl
   rotate_left
   ·simp only [Act.put, List.setIfInBounds_toArray, List.set_cons_zero, List.set_cons_succ, i64_w, i32_w]
    rfl
   refine take_ (i := 4) (N := some 24) (v := ?_) (a' := ?_) #[true, false, true, false, true, true, false, false, false, false, false, false, false, false, false, false, false, false, false, false, false, false] rfl rfl (take_ofW HT_.out HW_.out (by kernel_rfl)) (fun _ _ _ h => h) (Or.inl ⟨by rfl, ?_⟩) hHeld ?_ ?_
   rotate_left
   ·rintro w' ⟨s0, s1⟩
    go_simp
    with_reducible rfl
   rotate_left
   ·simp only [Act.put, List.setIfInBounds_toArray, List.set_cons_zero, List.set_cons_succ, i64_w, i32_w]
    rfl
   refine one_ (i := 1) (N := some 21) #[true, true, true, false, true, true, false, false, false, false, false, false, false, false, false, false, false, false, false, false, false, false] rfl rfl (one_of HT_.out (by kernel_rfl)) (by decide) (fun K hK => ?_)
   refine goes_ Try.func15 (by kernel_rfl) rfl #[.agg #[.int .i64 t311, .slice Ao22 t312.length co22]] (by rfl) rfl rfl aq ?_
   with_reducible refine (intervalmonlaw29_graph.calls t311 (fun k_ => some k_ = (.slice Ao22 t312.length co22 : Value).ownBlock) _ _ t312 t323 t324 _ ?side1 A8.out).mono ?_
   (case side1 => exact Kd.R_V (Kd.R_tight rfl (Kd.R_types (Kd.R_apart' (Kd.R_apart' (HO314.out) (Kd.R_typed HO318.out) (by decide)) (Kd.R_typed HO322.out) (by decide)) BK315.out (by decide))))
   rintro e w26 ⟨v325, rfl, ho0, hb⟩
   refine ⟨_, rfl, ?_⟩
   have n0_ := Aside0.mk (Kd.R_below (rq HO314) hb)
   have n1_ := Aside0.mk (Kd.R_below (rq HO318) hb)
   have n2_ := Aside0.mk (Kd.R_below (rq HO322) hb)
   have n3_ := Aside0.mk (Kd.V_lower (Kd.V_mono (ok' := fun k_ => some k_ ≠ (v317 : Value).ownBlock ∧ some k_ ≠ (v321 : Value).ownBlock ∧ k_ ≠ gb315) ho0 (fun k_ hk_ => ⟨Or.elim hk_ (fun hs_ => ((Kd.R_types (Kd.R_apart' (Kd.R_apart' (HO314.out) (Kd.R_typed HO318.out) (by decide)) (Kd.R_typed HO322.out) (by decide)) BK315.out (by decide)).1 k_ hs_.symm).1.1.2) (fun hn_ => (Kd.fresh' (Kd.R_lt (rq HO318)) k_ hn_)), Or.elim hk_ (fun hs_ => ((Kd.R_types (Kd.R_apart' (Kd.R_apart' (HO314.out) (Kd.R_typed HO318.out) (by decide)) (Kd.R_typed HO322.out) (by decide)) BK315.out (by decide)).1 k_ hs_.symm).1.2) (fun hn_ => (Kd.fresh' (Kd.R_lt (rq HO322)) k_ hn_)), Or.elim hk_ (fun hs_ => ((Kd.R_types (Kd.R_apart' (Kd.R_apart' (HO314.out) (Kd.R_typed HO318.out) (by decide)) (Kd.R_typed HO322.out) (by decide)) BK315.out (by decide)).1 k_ hs_.symm).2) (fun hn_ => (Kd.freshB (g := gb315) (o := .cells #[.int .i64 t311, .slice Ao22 t312.length co22] 25 (0, 0)) (bq BK315) k_ hn_))⟩)) (below_size (hq HB)))
   have n4_ := Aside0.mk (blk_below (g := gb315) (o := .cells #[.int .i64 t311, .slice Ao22 t312.length co22] 25 (0, 0)) (bq BK315) hb)
   have n5_ := Aside0.mk (below_step (hq HB) hb)
   clear HO314
   clear HO318
   clear HO322
   clear BK315
   clear HB
   have HO314 := n0_
   have HO318 := n1_
   have HO322 := n2_
   have HO326 := n3_
   have BK315 := n4_
   have HB := n5_
   clear n0_ n1_ n2_ n3_ n4_ n5_
   (try clear hb)
   (try clear hb2)
   (try clear hk)
   (try clear hi)
   (try clear ho0)
   obtain ⟨Ao27, co27, eo27⟩ := Kd.V_slice HO326.out
   (first | subst eo27 | (injection eo27 with f1_ f2_ f3_; have f4_ := f1_.symm; have f5_ := f3_.symm; clear f1_ f2_ f3_; subst f4_; subst f5_))
   obtain ⟨Ao28, co28, eo28⟩ := Kd.R_slice HO318.out
   (first | subst eo28 | (injection eo28 with f1_ f2_ f3_; have f4_ := f1_.symm; have f5_ := f3_.symm; clear f1_ f2_ f3_; subst f4_; subst f5_))
   refine hK.out _ _ ⟨(blk_cell BK315.out 0).trans rfl, (blk_cell BK315.out 1).trans rfl⟩ (fun hHeld => ?_)
   clear hK K
   refine norm_ (a' := ?_) ?_ ?_
   rotate_left
   ·show Act.put _ (some 21) _ = _
    simp only [Act.put, List.setIfInBounds_toArray, List.set_cons_zero, List.set_cons_succ, i64_w, i32_w]
    rfl
   refine one_ (i := 3) (N := some 23) #[true, true, true, true, true, true, false, false, false, false, false, false, false, false, false, false, false, false, false, false, false, false] rfl rfl (one_of HT_.out (by kernel_rfl)) (by decide) (fun K hK => ?_)
   refine goes_ Try.func20 (by kernel_rfl) rfl #[.agg #[.int .i64 t323, .slice Ao27 t324.length co27], .slice Ao28 t316.length co28] (by rfl) rfl rfl aq ?_
   with_reducible refine (route_Inhibited.calls k t323 _ _ t324 _ _ t316 t327 _ ?side1 ?side2 ?side3 ?side4 A9.out).mono ?_
   (case side1 => repeat (first | exact (Kd.V_reads' HO326.out).2.2 | (with_reducible refine Kd.C_alloc ?_ _) | (with_reducible refine Kd.C_drewN ?_ _) | (with_reducible refine Kd.C_drew ?_)))
   (case side2 => exact (Kd.V_reads' HO326.out).2.1)
   (case side3 => repeat (first | exact (Kd.R_reads' HO318.out).2.2 | (with_reducible refine Kd.C_alloc ?_ _) | (with_reducible refine Kd.C_drewN ?_ _) | (with_reducible refine Kd.C_drew ?_)))
   (case side4 => exact (Kd.R_reads' HO318.out).2.1)
   rintro e w29 ⟨v328, rfl, ho0, hb⟩
   refine ⟨_, rfl, ?_⟩
   have n0_ := Aside0.mk (Kd.R_below (rq HO314) hb)
   have n1_ := Aside0.mk (Kd.R_elder' (rq HO318) (Kd.R_base ho0) hb)
   have n2_ := Aside0.mk (Kd.R_elder' (rq HO322) (Kd.R_base ho0) hb)
   have n3_ := Aside0.mk (Kd.V_elder' (vq HO326) (Kd.R_base ho0) hb)
   have n4_ := Aside0.mk (Kd.R_lower (Kd.R_new' (Kd.R_new' ho0 (Kd.R_lt (rq HO318))) (Kd.R_lt (rq HO322))) (below_size (hq HB)))
   have n5_ := Aside0.mk (blk_below (g := gb315) (o := .cells #[.int .i64 t311, .slice Ao22 t312.length co22] 25 (0, 0)) (bq BK315) hb)
   have n6_ := Aside0.mk (below_step (hq HB) hb)
   clear HO314
   clear HO318
   clear HO322
   clear HO326
   clear BK315
   clear HB
   have HO314 := n0_
   have HO318 := n1_
   have HO322 := n2_
   have HO326 := n3_
   have HO329 := n4_
   have BK315 := n5_
   have HB := n6_
   clear n0_ n1_ n2_ n3_ n4_ n5_ n6_
   (try clear hb)
   (try clear hb2)
   (try clear hk)
   (try clear hi)
   (try clear ho0)
   refine hK.out _ _ ⟨(blk_cell BK315.out 0).trans rfl, (blk_cell BK315.out 1).trans rfl⟩ (fun hHeld => ?_)
   clear hK K
   refine norm_ (a' := ?_) ?_ ?_
   rotate_left
   ·show Act.put _ (some 23) _ = _
    simp only [Act.put, List.setIfInBounds_toArray, List.set_cons_zero, List.set_cons_succ, i64_w, i32_w]
    rfl
   refine one_ (i := 6) (N := some 26) #[true, true, true, true, true, true, true, false, false, false, false, false, false, false, false, false, false, false, false, false, false, false] rfl rfl (one_of HT_.out (by kernel_rfl)) (by decide) (fun K hK => ?_)
   refine goes_ Try.func21 (by kernel_rfl) rfl #[.agg #[.int .i64 t311, .slice Ao22 t312.length co22], .slice Ao28 t316.length co28] (by rfl) rfl rfl aq ?_
   with_reducible refine (intervalmonref29_Inhibited.calls k t311 _ _ t312 _ _ t316 t330 _ ?side1 ?side2 ?side3 ?side4 A10.out).mono ?_
   (case side1 => repeat (first | exact (Kd.R_reads' HO314.out).2.2 | (with_reducible refine Kd.C_alloc ?_ _) | (with_reducible refine Kd.C_drewN ?_ _) | (with_reducible refine Kd.C_drew ?_)))
   (case side2 => exact (Kd.R_reads' HO314.out).2.1)
   (case side3 => repeat (first | exact (Kd.R_reads' HO318.out).2.2 | (with_reducible refine Kd.C_alloc ?_ _) | (with_reducible refine Kd.C_drewN ?_ _) | (with_reducible refine Kd.C_drew ?_)))
   (case side4 => exact (Kd.R_reads' HO318.out).2.1)
   rintro e w30 ⟨v331, rfl, ho0, hb⟩
   refine ⟨_, rfl, ?_⟩
   have n0_ := Aside0.mk (Kd.R_below (rq HO314) hb)
   have n1_ := Aside0.mk (Kd.R_elder' (rq HO318) (Kd.R_base ho0) hb)
   have n2_ := Aside0.mk (Kd.R_elder' (rq HO322) (Kd.R_base ho0) hb)
   have n3_ := Aside0.mk (Kd.V_elder' (vq HO326) (Kd.R_base ho0) hb)
   have n4_ := Aside0.mk (Kd.R_elder' (rq HO329) (Kd.R_base ho0) hb)
   have n5_ := Aside0.mk (Kd.R_lower (Kd.R_new' (Kd.R_new' (Kd.R_new' ho0 (Kd.R_lt (rq HO318))) (Kd.R_lt (rq HO322))) (Kd.R_lt (rq HO329))) (below_size (hq HB)))
   have n6_ := Aside0.mk (blk_below (g := gb315) (o := .cells #[.int .i64 t311, .slice Ao22 t312.length co22] 25 (0, 0)) (bq BK315) hb)
   have n7_ := Aside0.mk (below_step (hq HB) hb)
   clear HO314
   clear HO318
   clear HO322
   clear HO326
   clear HO329
   clear BK315
   clear HB
   have HO314 := n0_
   have HO318 := n1_
   have HO322 := n2_
   have HO326 := n3_
   have HO329 := n4_
   have HO332 := n5_
   have BK315 := n6_
   have HB := n7_
   clear n0_ n1_ n2_ n3_ n4_ n5_ n6_ n7_
   (try clear hb)
   (try clear hb2)
   (try clear hk)
   (try clear hi)
   (try clear ho0)
   obtain ⟨Ao31, co31, eo31⟩ := Kd.R_slice HO329.out
   (first | subst eo31 | (injection eo31 with f1_ f2_ f3_; have f4_ := f1_.symm; have f5_ := f3_.symm; clear f1_ f2_ f3_; subst f4_; subst f5_))
   obtain ⟨Ao32, co32, eo32⟩ := Kd.R_slice HO332.out
   (first | subst eo32 | (injection eo32 with f1_ f2_ f3_; have f4_ := f1_.symm; have f5_ := f3_.symm; clear f1_ f2_ f3_; subst f4_; subst f5_))
   refine hK.out _ _ ⟨(blk_cell BK315.out 0).trans rfl, (blk_cell BK315.out 1).trans rfl⟩ (fun hHeld => ?_)
   clear hK K
   refine norm_ (a' := ?_) ?_ ?_
   rotate_left
   ·show Act.put _ (some 26) _ = _
    simp only [Act.put, List.setIfInBounds_toArray, List.set_cons_zero, List.set_cons_succ, i64_w, i32_w]
    rfl
   refine one_ (i := 7) (N := some 27) #[true, true, true, true, true, true, true, true, false, false, false, false, false, false, false, false, false, false, false, false, false, false] rfl rfl (one_of HT_.out (by kernel_rfl)) (by decide) (fun K hK => ?_)
   refine goes_ Try.func19 (by kernel_rfl) rfl #[.slice Ao31 t327.length co31, .slice Ao32 t330.length co32] (by rfl) rfl rfl aq ?_
   with_reducible refine (intervalmonref29_SameBools.calls k _ _ t327 _ _ t330 true _ ?side1 ?side2 ?side3 ?side4 A11.out).mono ?_
   (case side1 => repeat (first | exact (Kd.R_reads' HO329.out).2.2 | (with_reducible refine Kd.C_alloc ?_ _) | (with_reducible refine Kd.C_drewN ?_ _) | (with_reducible refine Kd.C_drew ?_)))
   (case side2 => exact (Kd.R_reads' HO329.out).2.1)
   (case side3 => repeat (first | exact (Kd.R_reads' HO332.out).2.2 | (with_reducible refine Kd.C_alloc ?_ _) | (with_reducible refine Kd.C_drewN ?_ _) | (with_reducible refine Kd.C_drew ?_)))
   (case side4 => exact (Kd.R_reads' HO332.out).2.1)
   rintro e w' ⟨rfl, ⟨nd, rfl⟩⟩
   refine ⟨_, rfl, ?_⟩
   refine hK.out _ _ ⟨(blk_cell BK315.out 0).trans rfl, (blk_cell BK315.out 1).trans rfl⟩ (fun hHeld => ?_)
   clear hK K
   refine norm_ (a' := ?_) ?_ ?_
   rotate_left
   ·show Act.put _ (some 27) _ = _
    simp only [Act.put, List.setIfInBounds_toArray, List.set_cons_zero, List.set_cons_succ, i64_w, i32_w]
    rfl
   refine pure_ (i := 8) (N := some 28) (v := ?_) (a' := ?_) #[true, true, true, true, true, true, true, true, true, false, false, false, false, false, false, false, false, false, false, false, false, false] rfl rfl (any_of HT_.out (by kernel_rfl)) (fun _ _ _ h => h) (Or.inl ⟨by rfl, ?_⟩) ?_ ?_
   rotate_left
   ·intro w'
    go_simp
    with_reducible rfl
   rotate_left
   ·simp only [Act.put, List.setIfInBounds_toArray, List.set_cons_zero, List.set_cons_succ, i64_w, i32_w]
    rfl
   refine pure_ (i := 11) (N := some 31) (v := ?_) (a' := ?_) #[true, true, true, true, true, true, true, true, true, false, false, true, false, false, false, false, false, false, false, false, false, false] rfl rfl (any_of HT_.out (by kernel_rfl)) (fun _ _ _ h => h) (Or.inl ⟨by rfl, ?_⟩) ?_ ?_
   rotate_left
   ·intro w'
    go_simp
    with_reducible rfl
   rotate_left
   ·simp only [Act.put, List.setIfInBounds_toArray, List.set_cons_zero, List.set_cons_succ, i64_w, i32_w]
    rfl
   refine pure_ (i := 14) (N := some 34) (v := ?_) (a' := ?_) #[true, true, true, true, true, true, true, true, true, false, false, true, false, false, true, false, false, false, false, false, false, false] rfl rfl (any_of HT_.out (by kernel_rfl)) (fun _ _ _ h => h) (Or.inl ⟨by rfl, ?_⟩) ?_ ?_
   rotate_left
   ·intro w'
    go_simp
    with_reducible rfl
   rotate_left
   ·simp only [Act.put, List.setIfInBounds_toArray, List.set_cons_zero, List.set_cons_succ, i64_w, i32_w]
    rfl
   refine take_ (i := 9) (N := some 29) (v := ?_) (a' := ?_) #[true, true, true, true, true, true, true, true, true, true, false, true, false, false, true, false, false, false, false, false, false, false] rfl rfl (take_ofW HT_.out HW_.out (by kernel_rfl)) (fun _ _ _ h => h) (Or.inl ⟨by rfl, ?_⟩) hHeld ?_ ?_
   rotate_left
   ·rintro w' ⟨s0, s1⟩
    go_simp
    with_reducible rfl
   rotate_left
   ·simp only [Act.put, List.setIfInBounds_toArray, List.set_cons_zero, List.set_cons_succ, i64_w, i32_w]
    rfl
   refine take_ (i := 13) (N := some 33) (v := ?_) (a' := ?_) #[true, true, true, true, true, true, true, true, true, true, false, true, false, true, true, false, false, false, false, false, false, false] rfl rfl (take_ofW HT_.out HW_.out (by kernel_rfl)) (fun _ _ _ h => h) (Or.inl ⟨by rfl, ?_⟩) hHeld ?_ ?_
   rotate_left
   ·rintro w' ⟨s0, s1⟩
    go_simp
    with_reducible rfl
   rotate_left
   ·simp only [Act.put, List.setIfInBounds_toArray, List.set_cons_zero, List.set_cons_succ, i64_w, i32_w]
    rfl
   refine one_ (i := 10) (N := some 30) #[true, true, true, true, true, true, true, true, true, true, true, true, false, true, true, false, false, false, false, false, false, false] rfl rfl (one_of HT_.out (by kernel_rfl)) (by decide) (fun K hK => ?_)
   refine goes_ Try.func15 (by kernel_rfl) rfl #[.agg #[.int .i64 t311, .slice Ao22 t312.length co22]] (by rfl) rfl rfl aq ?_
   with_reducible refine (intervalmonlaw29_graph.calls t311 (fun k_ => some k_ = (.slice Ao22 t312.length co22 : Value).ownBlock) _ _ t312 t334 t335 _ ?side1 A13.out).mono ?_
   (case side1 => exact Kd.R_V (Kd.R_tight rfl (Kd.R_types (Kd.R_apart' (Kd.R_apart' (Kd.R_apart' (Kd.R_apart' (HO314.out) (Kd.R_typed HO318.out) (by decide)) (Kd.R_typed HO322.out) (by decide)) (Kd.R_typed HO329.out) (by decide)) (Kd.R_typed HO332.out) (by decide)) BK315.out (by decide))))
   rintro e w33 ⟨v336, rfl, ho0, hb⟩
   refine ⟨_, rfl, ?_⟩
   have n0_ := Aside0.mk (Kd.R_below (rq HO314) hb)
   have n1_ := Aside0.mk (Kd.R_below (rq HO318) hb)
   have n2_ := Aside0.mk (Kd.R_below (rq HO322) hb)
   have n3_ := Aside0.mk (Kd.V_below (vq HO326) hb)
   have n4_ := Aside0.mk (Kd.R_below (rq HO329) hb)
   have n5_ := Aside0.mk (Kd.R_below (rq HO332) hb)
   have n6_ := Aside0.mk (Kd.V_lower (Kd.V_mono (ok' := fun k_ => some k_ ≠ (.slice Ao28 t316.length co28 : Value).ownBlock ∧ some k_ ≠ (v321 : Value).ownBlock ∧ some k_ ≠ (.slice Ao31 t327.length co31 : Value).ownBlock ∧ some k_ ≠ (.slice Ao32 t330.length co32 : Value).ownBlock ∧ k_ ≠ gb315) ho0 (fun k_ hk_ => ⟨Or.elim hk_ (fun hs_ => ((Kd.R_types (Kd.R_apart' (Kd.R_apart' (Kd.R_apart' (Kd.R_apart' (HO314.out) (Kd.R_typed HO318.out) (by decide)) (Kd.R_typed HO322.out) (by decide)) (Kd.R_typed HO329.out) (by decide)) (Kd.R_typed HO332.out) (by decide)) BK315.out (by decide)).1 k_ hs_.symm).1.1.1.1.2) (fun hn_ => (Kd.fresh' (Kd.R_lt (rq HO318)) k_ hn_)), Or.elim hk_ (fun hs_ => ((Kd.R_types (Kd.R_apart' (Kd.R_apart' (Kd.R_apart' (Kd.R_apart' (HO314.out) (Kd.R_typed HO318.out) (by decide)) (Kd.R_typed HO322.out) (by decide)) (Kd.R_typed HO329.out) (by decide)) (Kd.R_typed HO332.out) (by decide)) BK315.out (by decide)).1 k_ hs_.symm).1.1.1.2) (fun hn_ => (Kd.fresh' (Kd.R_lt (rq HO322)) k_ hn_)), Or.elim hk_ (fun hs_ => ((Kd.R_types (Kd.R_apart' (Kd.R_apart' (Kd.R_apart' (Kd.R_apart' (HO314.out) (Kd.R_typed HO318.out) (by decide)) (Kd.R_typed HO322.out) (by decide)) (Kd.R_typed HO329.out) (by decide)) (Kd.R_typed HO332.out) (by decide)) BK315.out (by decide)).1 k_ hs_.symm).1.1.2) (fun hn_ => (Kd.fresh' (Kd.R_lt (rq HO329)) k_ hn_)), Or.elim hk_ (fun hs_ => ((Kd.R_types (Kd.R_apart' (Kd.R_apart' (Kd.R_apart' (Kd.R_apart' (HO314.out) (Kd.R_typed HO318.out) (by decide)) (Kd.R_typed HO322.out) (by decide)) (Kd.R_typed HO329.out) (by decide)) (Kd.R_typed HO332.out) (by decide)) BK315.out (by decide)).1 k_ hs_.symm).1.2) (fun hn_ => (Kd.fresh' (Kd.R_lt (rq HO332)) k_ hn_)), Or.elim hk_ (fun hs_ => ((Kd.R_types (Kd.R_apart' (Kd.R_apart' (Kd.R_apart' (Kd.R_apart' (HO314.out) (Kd.R_typed HO318.out) (by decide)) (Kd.R_typed HO322.out) (by decide)) (Kd.R_typed HO329.out) (by decide)) (Kd.R_typed HO332.out) (by decide)) BK315.out (by decide)).1 k_ hs_.symm).2) (fun hn_ => (Kd.freshB (g := gb315) (o := .cells #[.int .i64 t311, .slice Ao22 t312.length co22] 25 (0, 0)) (bq BK315) k_ hn_))⟩)) (below_size (hq HB)))
   have n7_ := Aside0.mk (blk_below (g := gb315) (o := .cells #[.int .i64 t311, .slice Ao22 t312.length co22] 25 (0, 0)) (bq BK315) hb)
   have n8_ := Aside0.mk (below_step (hq HB) hb)
   clear HO314
   clear HO318
   clear HO322
   clear HO326
   clear HO329
   clear HO332
   clear BK315
   clear HB
   have HO314 := n0_
   have HO318 := n1_
   have HO322 := n2_
   have HO326 := n3_
   have HO329 := n4_
   have HO332 := n5_
   have HO337 := n6_
   have BK315 := n7_
   have HB := n8_
   clear n0_ n1_ n2_ n3_ n4_ n5_ n6_ n7_ n8_
   (try clear hb)
   (try clear hb2)
   (try clear hk)
   (try clear hi)
   (try clear ho0)
   obtain ⟨Ao34, co34, eo34⟩ := Kd.V_slice HO337.out
   (first | subst eo34 | (injection eo34 with f1_ f2_ f3_; have f4_ := f1_.symm; have f5_ := f3_.symm; clear f1_ f2_ f3_; subst f4_; subst f5_))
   obtain ⟨Ao35, co35, eo35⟩ := Kd.R_slice HO322.out
   (first | subst eo35 | (injection eo35 with f1_ f2_ f3_; have f4_ := f1_.symm; have f5_ := f3_.symm; clear f1_ f2_ f3_; subst f4_; subst f5_))
   refine hK.out _ _ ⟨(blk_cell BK315.out 0).trans rfl, (blk_cell BK315.out 1).trans rfl⟩ (fun hHeld => ?_)
   clear hK K
   refine norm_ (a' := ?_) ?_ ?_
   rotate_left
   ·show Act.put _ (some 30) _ = _
    simp only [Act.put, List.setIfInBounds_toArray, List.set_cons_zero, List.set_cons_succ, i64_w, i32_w]
    rfl
   refine one_ (i := 12) (N := some 32) #[true, true, true, true, true, true, true, true, true, true, true, true, true, true, true, false, false, false, false, false, false, false] rfl rfl (one_of HT_.out (by kernel_rfl)) (by decide) (fun K hK => ?_)
   refine goes_ Try.func20 (by kernel_rfl) rfl #[.agg #[.int .i64 t334, .slice Ao34 t335.length co34], .slice Ao35 t320.length co35] (by rfl) rfl rfl aq ?_
   with_reducible refine (route_Inhibited.calls k t334 _ _ t335 _ _ t320 t338 _ ?side1 ?side2 ?side3 ?side4 A14.out).mono ?_
   (case side1 => repeat (first | exact (Kd.V_reads' HO337.out).2.2 | (with_reducible refine Kd.C_alloc ?_ _) | (with_reducible refine Kd.C_drewN ?_ _) | (with_reducible refine Kd.C_drew ?_)))
   (case side2 => exact (Kd.V_reads' HO337.out).2.1)
   (case side3 => repeat (first | exact (Kd.R_reads' HO322.out).2.2 | (with_reducible refine Kd.C_alloc ?_ _) | (with_reducible refine Kd.C_drewN ?_ _) | (with_reducible refine Kd.C_drew ?_)))
   (case side4 => exact (Kd.R_reads' HO322.out).2.1)
   rintro e w36 ⟨v339, rfl, ho0, hb⟩
   refine ⟨_, rfl, ?_⟩
   have n0_ := Aside0.mk (Kd.R_below (rq HO314) hb)
   have n1_ := Aside0.mk (Kd.R_elder' (rq HO318) (Kd.R_base ho0) hb)
   have n2_ := Aside0.mk (Kd.R_elder' (rq HO322) (Kd.R_base ho0) hb)
   have n3_ := Aside0.mk (Kd.V_elder' (vq HO326) (Kd.R_base ho0) hb)
   have n4_ := Aside0.mk (Kd.R_elder' (rq HO329) (Kd.R_base ho0) hb)
   have n5_ := Aside0.mk (Kd.R_elder' (rq HO332) (Kd.R_base ho0) hb)
   have n6_ := Aside0.mk (Kd.V_elder' (vq HO337) (Kd.R_base ho0) hb)
   have n7_ := Aside0.mk (Kd.R_lower (Kd.R_new' (Kd.R_new' (Kd.R_new' (Kd.R_new' ho0 (Kd.R_lt (rq HO318))) (Kd.R_lt (rq HO322))) (Kd.R_lt (rq HO329))) (Kd.R_lt (rq HO332))) (below_size (hq HB)))
   have n8_ := Aside0.mk (blk_below (g := gb315) (o := .cells #[.int .i64 t311, .slice Ao22 t312.length co22] 25 (0, 0)) (bq BK315) hb)
   have n9_ := Aside0.mk (below_step (hq HB) hb)
   clear HO314
   clear HO318
   clear HO322
   clear HO326
   clear HO329
   clear HO332
   clear HO337
   clear BK315
   clear HB
   have HO314 := n0_
   have HO318 := n1_
   have HO322 := n2_
   have HO326 := n3_
   have HO329 := n4_
   have HO332 := n5_
   have HO337 := n6_
   have HO340 := n7_
   have BK315 := n8_
   have HB := n9_
   clear n0_ n1_ n2_ n3_ n4_ n5_ n6_ n7_ n8_ n9_
   (try clear hb)
   (try clear hb2)
   (try clear hk)
   (try clear hi)
   (try clear ho0)
   refine hK.out _ _ ⟨(blk_cell BK315.out 0).trans rfl, (blk_cell BK315.out 1).trans rfl⟩ (fun hHeld => ?_)
   clear hK K
   refine norm_ (a' := ?_) ?_ ?_
   rotate_left
   ·show Act.put _ (some 32) _ = _
    simp only [Act.put, List.setIfInBounds_toArray, List.set_cons_zero, List.set_cons_succ, i64_w, i32_w]
    rfl
   refine one_ (i := 15) (N := some 35) #[true, true, true, true, true, true, true, true, true, true, true, true, true, true, true, true, false, false, false, false, false, false] rfl rfl (one_of HT_.out (by kernel_rfl)) (by decide) (fun K hK => ?_)
   refine goes_ Try.func21 (by kernel_rfl) rfl #[.agg #[.int .i64 t311, .slice Ao22 t312.length co22], .slice Ao35 t320.length co35] (by rfl) rfl rfl aq ?_
   with_reducible refine (intervalmonref29_Inhibited.calls k t311 _ _ t312 _ _ t320 t341 _ ?side1 ?side2 ?side3 ?side4 A15.out).mono ?_
   (case side1 => repeat (first | exact (Kd.R_reads' HO314.out).2.2 | (with_reducible refine Kd.C_alloc ?_ _) | (with_reducible refine Kd.C_drewN ?_ _) | (with_reducible refine Kd.C_drew ?_)))
   (case side2 => exact (Kd.R_reads' HO314.out).2.1)
   (case side3 => repeat (first | exact (Kd.R_reads' HO322.out).2.2 | (with_reducible refine Kd.C_alloc ?_ _) | (with_reducible refine Kd.C_drewN ?_ _) | (with_reducible refine Kd.C_drew ?_)))
   (case side4 => exact (Kd.R_reads' HO322.out).2.1)
   rintro e w37 ⟨v342, rfl, ho0, hb⟩
   refine ⟨_, rfl, ?_⟩
   have n0_ := Aside0.mk (Kd.R_below (rq HO314) hb)
   have n1_ := Aside0.mk (Kd.R_elder' (rq HO318) (Kd.R_base ho0) hb)
   have n2_ := Aside0.mk (Kd.R_elder' (rq HO322) (Kd.R_base ho0) hb)
   have n3_ := Aside0.mk (Kd.V_elder' (vq HO326) (Kd.R_base ho0) hb)
   have n4_ := Aside0.mk (Kd.R_elder' (rq HO329) (Kd.R_base ho0) hb)
   have n5_ := Aside0.mk (Kd.R_elder' (rq HO332) (Kd.R_base ho0) hb)
   have n6_ := Aside0.mk (Kd.V_elder' (vq HO337) (Kd.R_base ho0) hb)
   have n7_ := Aside0.mk (Kd.R_elder' (rq HO340) (Kd.R_base ho0) hb)
   have n8_ := Aside0.mk (Kd.R_lower (Kd.R_new' (Kd.R_new' (Kd.R_new' (Kd.R_new' (Kd.R_new' ho0 (Kd.R_lt (rq HO318))) (Kd.R_lt (rq HO322))) (Kd.R_lt (rq HO329))) (Kd.R_lt (rq HO332))) (Kd.R_lt (rq HO340))) (below_size (hq HB)))
   have n9_ := Aside0.mk (blk_below (g := gb315) (o := .cells #[.int .i64 t311, .slice Ao22 t312.length co22] 25 (0, 0)) (bq BK315) hb)
   have n10_ := Aside0.mk (below_step (hq HB) hb)
   clear HO314
   clear HO318
   clear HO322
   clear HO326
   clear HO329
   clear HO332
   clear HO337
   clear HO340
   clear BK315
   clear HB
   have HO314 := n0_
   have HO318 := n1_
   have HO322 := n2_
   have HO326 := n3_
   have HO329 := n4_
   have HO332 := n5_
   have HO337 := n6_
   have HO340 := n7_
   have HO343 := n8_
   have BK315 := n9_
   have HB := n10_
   clear n0_ n1_ n2_ n3_ n4_ n5_ n6_ n7_ n8_ n9_ n10_
   (try clear hb)
   (try clear hb2)
   (try clear hk)
   (try clear hi)
   (try clear ho0)
   obtain ⟨Ao38, co38, eo38⟩ := Kd.R_slice HO340.out
   (first | subst eo38 | (injection eo38 with f1_ f2_ f3_; have f4_ := f1_.symm; have f5_ := f3_.symm; clear f1_ f2_ f3_; subst f4_; subst f5_))
   obtain ⟨Ao39, co39, eo39⟩ := Kd.R_slice HO343.out
   (first | subst eo39 | (injection eo39 with f1_ f2_ f3_; have f4_ := f1_.symm; have f5_ := f3_.symm; clear f1_ f2_ f3_; subst f4_; subst f5_))
   refine hK.out _ _ ⟨(blk_cell BK315.out 0).trans rfl, (blk_cell BK315.out 1).trans rfl⟩ (fun hHeld => ?_)
   clear hK K
   refine norm_ (a' := ?_) ?_ ?_
   rotate_left
   ·show Act.put _ (some 35) _ = _
    simp only [Act.put, List.setIfInBounds_toArray, List.set_cons_zero, List.set_cons_succ, i64_w, i32_w]
    rfl
   refine one_ (i := 16) (N := some 36) #[true, true, true, true, true, true, true, true, true, true, true, true, true, true, true, true, true, false, false, false, false, false] rfl rfl (one_of HT_.out (by kernel_rfl)) (by decide) (fun K hK => ?_)
   refine goes_ Try.func19 (by kernel_rfl) rfl #[.slice Ao38 t338.length co38, .slice Ao39 t341.length co39] (by rfl) rfl rfl aq ?_
   with_reducible refine (intervalmonref29_SameBools.calls k _ _ t338 _ _ t341 true _ ?side1 ?side2 ?side3 ?side4 A16.out).mono ?_
   (case side1 => repeat (first | exact (Kd.R_reads' HO340.out).2.2 | (with_reducible refine Kd.C_alloc ?_ _) | (with_reducible refine Kd.C_drewN ?_ _) | (with_reducible refine Kd.C_drew ?_)))
   (case side2 => exact (Kd.R_reads' HO340.out).2.1)
   (case side3 => repeat (first | exact (Kd.R_reads' HO343.out).2.2 | (with_reducible refine Kd.C_alloc ?_ _) | (with_reducible refine Kd.C_drewN ?_ _) | (with_reducible refine Kd.C_drew ?_)))
   (case side4 => exact (Kd.R_reads' HO343.out).2.1)
   rintro e w' ⟨rfl, ⟨nd, rfl⟩⟩
   refine ⟨_, rfl, ?_⟩
   refine hK.out _ _ ⟨(blk_cell BK315.out 0).trans rfl, (blk_cell BK315.out 1).trans rfl⟩ (fun hHeld => ?_)
   clear hK K
   refine norm_ (a' := ?_) ?_ ?_
   rotate_left
   ·show Act.put _ (some 36) _ = _
    simp only [Act.put, List.setIfInBounds_toArray, List.set_cons_zero, List.set_cons_succ, i64_w, i32_w]
    rfl
   refine pure_ (i := 17) (N := some 37) (v := ?_) (a' := ?_) #[true, true, true, true, true, true, true, true, true, true, true, true, true, true, true, true, true, true, false, false, false, false] rfl rfl (any_of HT_.out (by kernel_rfl)) (fun _ _ _ h => h) (Or.inl ⟨by rfl, ?_⟩) ?_ ?_
   rotate_left
   ·intro w'
    go_simp
    with_reducible rfl
   rotate_left
   ·simp only [Act.put, List.setIfInBounds_toArray, List.set_cons_zero, List.set_cons_succ, i64_w, i32_w]
    rfl
   refine pure_ (i := 18) (N := some 38) (v := ?_) (a' := ?_) #[true, true, true, true, true, true, true, true, true, true, true, true, true, true, true, true, true, true, true, false, false, false] rfl rfl (any_of HT_.out (by kernel_rfl)) (fun _ _ _ h => h) (Or.inl ⟨by rfl, ?_⟩) ?_ ?_
   rotate_left
   ·intro w'
    go_simp
    with_reducible rfl
   rotate_left
   ·simp only [Act.put, List.setIfInBounds_toArray, List.set_cons_zero, List.set_cons_succ, i64_w, i32_w]
    rfl
   refine one_ (i := 19) (N := some 39) #[true, true, true, true, true, true, true, true, true, true, true, true, true, true, true, true, true, true, true, true, false, false] rfl rfl (one_of HT_.out (by kernel_rfl)) (by decide) (fun K hK => ?_)
   refine goes_ Try.func17 (by kernel_rfl) rfl #[] (by rfl) rfl rfl aq ?_
   with_reducible refine (intervalmonlaw29_lives.calls k  t345 _ A18.out).mono ?_
   rintro e w40 ⟨rfl, hb⟩
   refine ⟨_, rfl, ?_⟩
   have n0_ := Aside0.mk (Kd.R_below (rq HO314) hb)
   have n1_ := Aside0.mk (Kd.R_below (rq HO318) hb)
   have n2_ := Aside0.mk (Kd.R_below (rq HO322) hb)
   have n3_ := Aside0.mk (Kd.V_below (vq HO326) hb)
   have n4_ := Aside0.mk (Kd.R_below (rq HO329) hb)
   have n5_ := Aside0.mk (Kd.R_below (rq HO332) hb)
   have n6_ := Aside0.mk (Kd.V_below (vq HO337) hb)
   have n7_ := Aside0.mk (Kd.R_below (rq HO340) hb)
   have n8_ := Aside0.mk (Kd.R_below (rq HO343) hb)
   have n9_ := Aside0.mk (blk_below (g := gb315) (o := .cells #[.int .i64 t311, .slice Ao22 t312.length co22] 25 (0, 0)) (bq BK315) hb)
   have n10_ := Aside0.mk (below_step (hq HB) hb)
   clear HO314
   clear HO318
   clear HO322
   clear HO326
   clear HO329
   clear HO332
   clear HO337
   clear HO340
   clear HO343
   clear BK315
   clear HB
   have HO314 := n0_
   have HO318 := n1_
   have HO322 := n2_
   have HO326 := n3_
   have HO329 := n4_
   have HO332 := n5_
   have HO337 := n6_
   have HO340 := n7_
   have HO343 := n8_
   have BK315 := n9_
   have HB := n10_
   clear n0_ n1_ n2_ n3_ n4_ n5_ n6_ n7_ n8_ n9_ n10_
   (try clear hb)
   (try clear hb2)
   (try clear hk)
   (try clear hi)
   refine hK.out _ _ ⟨(blk_cell BK315.out 0).trans rfl, (blk_cell BK315.out 1).trans rfl⟩ (fun hHeld => ?_)
   clear hK K
   refine norm_ (a' := ?_) ?_ ?_
   rotate_left
   ·show Act.put _ (some 39) _ = _
    simp only [Act.put, List.setIfInBounds_toArray, List.set_cons_zero, List.set_cons_succ, i64_w, i32_w]
    rfl
   refine pure_ (i := 20) (N := some 40) (v := ?_) (a' := ?_) #[true, true, true, true, true, true, true, true, true, true, true, true, true, true, true, true, true, true, true, true, true, false] rfl rfl (any_of HT_.out (by kernel_rfl)) (fun _ _ _ h => h) (Or.inl ⟨by rfl, ?_⟩) ?_ ?_
   rotate_left
   ·intro w'
    go_simp
    with_reducible rfl
   rotate_left
   ·simp only [Act.put, List.setIfInBounds_toArray, List.set_cons_zero, List.set_cons_succ, i64_w, i32_w]
    rfl
   refine pure_ (i := 21) (N := some 6) (v := ?_) (a' := ?_) #[true, true, true, true, true, true, true, true, true, true, true, true, true, true, true, true, true, true, true, true, true, true] rfl rfl (any_of HT_.out (by kernel_rfl)) (fun _ _ _ h => h) (Or.inl ⟨by rfl, ?_⟩) ?_ ?_
   rotate_left
   ·intro w'
    go_simp
    with_reducible rfl
   rotate_left
   ·simp only [Act.put, List.setIfInBounds_toArray, List.set_cons_zero, List.set_cons_succ, i64_w, i32_w]
    rfl
   refine done_ (done_of HT_.out (by kernel_rfl)) ?_
   try go_wp2
   go_ret
   exact ⟨by first | rfl | (simp [errW_none, errW_some] <;> rfl) | (simp [*, errW_none, errW_some] <;> rfl), by repeat (first | (with_reducible first | exact HB.out | apply below_alloc | apply pw_below_drewN | apply below_drew1 | refine below_set ?_ GE315.out) | exact HB.out)⟩
  ·replace c17 := Bool.eq_false_iff.mpr c17
   subst c17
   have H1 : (some false) = some r := by rw [if_neg (show ¬ (false = true) by decide)] at H; exact H
   clear H
   have H := H1
   clear H1
   obtain rfl := Option.some.inj H
   go_enter Try.func4, Try.ntmps4
   try go_wp2_with (first | ((with_reducible refine gate_callee (f := 12) rfl ?_); refine goesL_ (some 11) rfl rfl Try.func12 (by kernel_rfl) rfl #[.slice A0 l0.length c0] rfl aq ?_; (with_reducible refine (intervalmonref29_Any.calls k _ _ l0 t311 t312 _ ?side1 ?side2 A4.out).mono ?_); (case side1 => repeat (first | exact HR0.out | (with_reducible refine Kd.C_alloc ?_ _) | (with_reducible refine Kd.C_drewN ?_ _) | (with_reducible refine Kd.C_drew ?_))); (case side2 => exact HC0.out); rintro e w41 ⟨v313, rfl, ho0, hb⟩; refine ⟨_, rfl, ?_⟩; have n0_ := Aside0.mk (Kd.R_lower ho0 (below_size (hq HB))); have n1_ := Aside0.mk (below_step (hq HB) hb); clear HB; have HO314 := n0_; have HB := n1_; clear n0_ n1_; (try clear hb); (try clear hb2); (try clear hk); (try clear hi); (try clear ho0)) | ((with_reducible refine gate_dst (N := 7) rfl ?_); refine box_event ?hg (N := 7) ?hd (cs := #[.int .i64 0, .slice none 0 0]) (t := 25) ?hr ?_; (case hd => rfl); (case hg => rfl); (case hr => first | (go_simp; done) | (go_simp; rfl)); intro gb315 hg w42 hbox hb; have n0_ := Aside0.mk (Kd.R_below (rq HO314) hb); have n1_ := Aside0.mk (below_step (hq HB) hb); have n2_ := Aside0.mk (hbox); have n3_ := Aside0.mk ((by rw [hg]; exact (below_size (hq HB)) : w.heap.size ≤ gb315)); have n4_ := Aside0.mk ((by rw [hg]; exact (below_size (hq HB)) : w.heap.size ≤ gb315)); clear HO314; clear HB; have HO314 := n0_; have HB := n1_; have BK315 := n2_; have GW315 := n3_; have GE315 := n4_; clear n0_ n1_ n2_ n3_ n4_; clear hb hbox hg; have hcz43_0 : w42.cell? ⟨gb315, 0, none⟩ = some (.int .i64 0) := (blk_cell BK315.out 0).trans rfl; have hcz43_1 : w42.cell? ⟨gb315, 1, none⟩ = some (.slice none 0 0) := (blk_cell BK315.out 1).trans rfl; have hfz43_0 := blk_frozen BK315.out 0; have hfz43_1 := blk_frozen BK315.out 1; obtain ⟨Ao44, co44, eo44⟩ := Kd.R_slice HO314.out; subst eo44) | ((with_reducible refine gate_callee (f := 18) rfl ?_); refine goesL_ (some 15) rfl rfl Try.func18 (by kernel_rfl) rfl #[.int .i64 t311, .int .i64 a1] rfl aq ?_; (with_reducible refine (intervalmonref29_Firing.calls k t311 a1 t316 _ A5.out).mono ?_); rintro e w45 ⟨v317, rfl, ho0, hb⟩; refine ⟨_, rfl, ?_⟩; have n0_ := Aside0.mk (Kd.R_below (by (with_reducible repeat (first | apply Kd.R_alloc | apply Kd.R_drewN | apply Kd.R_drew)); exact (Kd.R_mono (Kd.R_far (p := ⟨gb315, 1, none⟩) (Kd.R_far (p := ⟨gb315, 0, none⟩) (Kd.R_types HO314.out BK315.out (by decide)) (fun _ hk => hk.2) (.int .i64 t311)) (fun _ hk => hk.2) (.slice Ao44 t312.length co44)) (fun _ h_ => h_.1))) hb); have n1_ := Aside0.mk (Kd.R_lower ho0 (below_size (hq HB))); have n2_ := Aside0.mk (blk_below (g := gb315) (o := .cells #[.int .i64 t311, .slice Ao44 t312.length co44] 25 (0, 0)) (by (with_reducible repeat (first | refine blk_drewN ?_ _ | refine blk_drew ?_ | refine blk_alloc ?_ _)); refine blk_put (cs := #[.int .i64 t311, .slice none 0 0]) ?_ 1 _ rfl; (with_reducible repeat (first | refine blk_drewN ?_ _ | refine blk_drew ?_ | refine blk_alloc ?_ _)); refine blk_put (cs := #[.int .i64 0, .slice none 0 0]) ?_ 0 _ rfl; (with_reducible repeat (first | refine blk_drewN ?_ _ | refine blk_drew ?_ | refine blk_alloc ?_ _)); exact BK315.out) hb); have n3_ := Aside0.mk (below_step (hq HB) hb); clear HO314; clear BK315; clear HB; have HO314 := n0_; have HO318 := n1_; have BK315 := n2_; have HB := n3_; clear n0_ n1_ n2_ n3_; (try clear hb); (try clear hb2); (try clear hk); (try clear hi); (try clear ho0)) | ((with_reducible refine gate_callee (f := 13) rfl ?_); refine goesL_ (some 17) rfl rfl Try.func13 (by kernel_rfl) rfl #[.int .i64 a2, .int .i64 10] rfl aq ?_; (with_reducible refine (intervalmonref01_Around.calls a2 10 t319 _ A6.out).mono ?_); rintro e w' ⟨rfl, ⟨nd, rfl⟩⟩; refine ⟨_, rfl, ?_⟩) | ((with_reducible refine gate_callee (f := 18) rfl ?_); refine goesL_ (some 19) rfl rfl Try.func18 (by kernel_rfl) rfl #[.int .i64 t319, .int .i64 a1] rfl aq ?_; (with_reducible refine (intervalmonref29_Firing.calls k t319 a1 t320 _ A7.out).mono ?_); rintro e w46 ⟨v321, rfl, ho0, hb⟩; refine ⟨_, rfl, ?_⟩; have n0_ := Aside0.mk (Kd.R_below (rq HO314) hb); have n1_ := Aside0.mk (Kd.R_elder' (rq HO318) (Kd.R_base ho0) hb); have n2_ := Aside0.mk (Kd.R_lower (Kd.R_new' ho0 (Kd.R_lt (rq HO318))) (below_size (hq HB))); have n3_ := Aside0.mk (blk_below (g := gb315) (o := .cells #[.int .i64 t311, .slice Ao44 t312.length co44] 25 (0, 0)) (bq BK315) hb); have n4_ := Aside0.mk (below_step (hq HB) hb); clear HO314; clear HO318; clear BK315; clear HB; have HO314 := n0_; have HO318 := n1_; have HO322 := n2_; have BK315 := n3_; have HB := n4_; clear n0_ n1_ n2_ n3_ n4_; (try clear hb); (try clear hb2); (try clear hk); (try clear hi); (try clear ho0)))
   have n0_ := Aside0.mk (Kd.R_drew HO314.out)
   have n1_ := Aside0.mk (Kd.R_drew HO318.out)
   have n2_ := Aside0.mk (Kd.R_drew HO322.out)
   have n3_ := Aside0.mk (blk_drew BK315.out)
   have n4_ := Aside0.mk (below_drew1 HB.out)
   clear HO314
   clear HO318
   clear HO322
   clear BK315
   clear HB
   have HO314 := n0_
   have HO318 := n1_
   have HO322 := n2_
   have BK315 := n3_
   have HB := n4_
   clear n0_ n1_ n2_ n3_ n4_
   refine start_ (n := 22) (S := fun w' => w'.cell? ⟨gb315, 0, none⟩ = some (.int .i64 t311) ∧ w'.cell? ⟨gb315, 1, none⟩ = some (.slice Ao44 t312.length co44)) (ds := []) #[false, false, false, false, false, false, false, false, false, false, false, false, false, false, false, false, false, false, false, false, false, false] (by kernel_rfl) rfl rfl ⟨(blk_cell BK315.out 0).trans rfl, (blk_cell BK315.out 1).trans rfl⟩ (fun hHeld => ?_); refine with_tabW intervalmonlaw29_RouteInhibited.tab4 intervalmonlaw29_RouteInhibited.bits4 (fun HT_ HW_ => ?_)
   generalize w46.drew = w47 at HO314 HO318 HO322 BK315 HB hHeld ⊢
   refine pure_ (i := 2) (N := some 22) (v := ?_) (a' := ?_) #[false, false, true, false, false, false, false, false, false, false, false, false, false, false, false, false, false, false, false, false, false, false] rfl rfl (any_of HT_.out (by kernel_rfl)) (fun _ _ _ h => h) (Or.inl ⟨by rfl, ?_⟩) ?_ ?_
   rotate_left
   ·intro w'
    go_simp
    with_reducible rfl
   rotate_left
   ·simp only [Act.put, List.setIfInBounds_toArray, List.set_cons_zero, List.set_cons_succ, i64_w, i32_w]
    rfl
   refine pure_ (i := 5) (N := some 25) (v := ?_) (a' := ?_) #[false, false, true, false, false, true, false, false, false, false, false, false, false, false, false, false, false, false, false, false, false, false] rfl rfl (any_of HT_.out (by kernel_rfl)) (fun _ _ _ h => h) (Or.inl ⟨by rfl, ?_⟩) ?_ ?_
   rotate_left
   ·intro w'
    go_simp
    with_reducible rfl
   rotate_left
   ·simp only [Act.put, List.setIfInBounds_toArray, List.set_cons_zero, List.set_cons_succ, i64_w, i32_w]
    rfl
   refine take_ (i := 0) (N := some 20) (v := ?_) (a' := ?_) #[true, false, true, false, false, true, false, false, false, false, false, false, false, false, false, false, false, false, false, false, false, false] rfl rfl (take_ofW HT_.out HW_.out (by kernel_rfl)) (fun _ _ _ h => h) (Or.inl ⟨by rfl, ?_⟩) hHeld ?_ ?_
   rotate_left
   ·rintro w' ⟨s0, s1⟩
    go_simp
    with_reducible rfl
   rotate_left
   ·simp only [Act.put, List.setIfInBounds_toArray, List.set_cons_zero, List.set_cons_succ, i64_w, i32_w]
    rfl
   refine take_ (i := 4) (N := some 24) (v := ?_) (a' := ?_) #[true, false, true, false, true, true, false, false, false, false, false, false, false, false, false, false, false, false, false, false, false, false] rfl rfl (take_ofW HT_.out HW_.out (by kernel_rfl)) (fun _ _ _ h => h) (Or.inl ⟨by rfl, ?_⟩) hHeld ?_ ?_
   rotate_left
   ·rintro w' ⟨s0, s1⟩
    go_simp
    with_reducible rfl
   rotate_left
   ·simp only [Act.put, List.setIfInBounds_toArray, List.set_cons_zero, List.set_cons_succ, i64_w, i32_w]
    rfl
   refine one_ (i := 1) (N := some 21) #[true, true, true, false, true, true, false, false, false, false, false, false, false, false, false, false, false, false, false, false, false, false] rfl rfl (one_of HT_.out (by kernel_rfl)) (by decide) (fun K hK => ?_)
   refine goes_ Try.func15 (by kernel_rfl) rfl #[.agg #[.int .i64 t311, .slice Ao44 t312.length co44]] (by rfl) rfl rfl aq ?_
   with_reducible refine (intervalmonlaw29_graph.calls t311 (fun k_ => some k_ = (.slice Ao44 t312.length co44 : Value).ownBlock) _ _ t312 t323 t324 _ ?side1 A8.out).mono ?_
   (case side1 => exact Kd.R_V (Kd.R_tight rfl (Kd.R_types (Kd.R_apart' (Kd.R_apart' (HO314.out) (Kd.R_typed HO318.out) (by decide)) (Kd.R_typed HO322.out) (by decide)) BK315.out (by decide))))
   rintro e w48 ⟨v325, rfl, ho0, hb⟩
   refine ⟨_, rfl, ?_⟩
   have n0_ := Aside0.mk (Kd.R_below (rq HO314) hb)
   have n1_ := Aside0.mk (Kd.R_below (rq HO318) hb)
   have n2_ := Aside0.mk (Kd.R_below (rq HO322) hb)
   have n3_ := Aside0.mk (Kd.V_lower (Kd.V_mono (ok' := fun k_ => some k_ ≠ (v317 : Value).ownBlock ∧ some k_ ≠ (v321 : Value).ownBlock ∧ k_ ≠ gb315) ho0 (fun k_ hk_ => ⟨Or.elim hk_ (fun hs_ => ((Kd.R_types (Kd.R_apart' (Kd.R_apart' (HO314.out) (Kd.R_typed HO318.out) (by decide)) (Kd.R_typed HO322.out) (by decide)) BK315.out (by decide)).1 k_ hs_.symm).1.1.2) (fun hn_ => (Kd.fresh' (Kd.R_lt (rq HO318)) k_ hn_)), Or.elim hk_ (fun hs_ => ((Kd.R_types (Kd.R_apart' (Kd.R_apart' (HO314.out) (Kd.R_typed HO318.out) (by decide)) (Kd.R_typed HO322.out) (by decide)) BK315.out (by decide)).1 k_ hs_.symm).1.2) (fun hn_ => (Kd.fresh' (Kd.R_lt (rq HO322)) k_ hn_)), Or.elim hk_ (fun hs_ => ((Kd.R_types (Kd.R_apart' (Kd.R_apart' (HO314.out) (Kd.R_typed HO318.out) (by decide)) (Kd.R_typed HO322.out) (by decide)) BK315.out (by decide)).1 k_ hs_.symm).2) (fun hn_ => (Kd.freshB (g := gb315) (o := .cells #[.int .i64 t311, .slice Ao44 t312.length co44] 25 (0, 0)) (bq BK315) k_ hn_))⟩)) (below_size (hq HB)))
   have n4_ := Aside0.mk (blk_below (g := gb315) (o := .cells #[.int .i64 t311, .slice Ao44 t312.length co44] 25 (0, 0)) (bq BK315) hb)
   have n5_ := Aside0.mk (below_step (hq HB) hb)
   clear HO314
   clear HO318
   clear HO322
   clear BK315
   clear HB
   have HO314 := n0_
   have HO318 := n1_
   have HO322 := n2_
   have HO326 := n3_
   have BK315 := n4_
   have HB := n5_
   clear n0_ n1_ n2_ n3_ n4_ n5_
   (try clear hb)
   (try clear hb2)
   (try clear hk)
   (try clear hi)
   (try clear ho0)
   obtain ⟨Ao49, co49, eo49⟩ := Kd.V_slice HO326.out
   (first | subst eo49 | (injection eo49 with f1_ f2_ f3_; have f4_ := f1_.symm; have f5_ := f3_.symm; clear f1_ f2_ f3_; subst f4_; subst f5_))
   obtain ⟨Ao50, co50, eo50⟩ := Kd.R_slice HO318.out
   (first | subst eo50 | (injection eo50 with f1_ f2_ f3_; have f4_ := f1_.symm; have f5_ := f3_.symm; clear f1_ f2_ f3_; subst f4_; subst f5_))
   refine hK.out _ _ ⟨(blk_cell BK315.out 0).trans rfl, (blk_cell BK315.out 1).trans rfl⟩ (fun hHeld => ?_)
   clear hK K
   refine norm_ (a' := ?_) ?_ ?_
   rotate_left
   ·show Act.put _ (some 21) _ = _
    simp only [Act.put, List.setIfInBounds_toArray, List.set_cons_zero, List.set_cons_succ, i64_w, i32_w]
    rfl
   refine one_ (i := 3) (N := some 23) #[true, true, true, true, true, true, false, false, false, false, false, false, false, false, false, false, false, false, false, false, false, false] rfl rfl (one_of HT_.out (by kernel_rfl)) (by decide) (fun K hK => ?_)
   refine goes_ Try.func20 (by kernel_rfl) rfl #[.agg #[.int .i64 t323, .slice Ao49 t324.length co49], .slice Ao50 t316.length co50] (by rfl) rfl rfl aq ?_
   with_reducible refine (route_Inhibited.calls k t323 _ _ t324 _ _ t316 t327 _ ?side1 ?side2 ?side3 ?side4 A9.out).mono ?_
   (case side1 => repeat (first | exact (Kd.V_reads' HO326.out).2.2 | (with_reducible refine Kd.C_alloc ?_ _) | (with_reducible refine Kd.C_drewN ?_ _) | (with_reducible refine Kd.C_drew ?_)))
   (case side2 => exact (Kd.V_reads' HO326.out).2.1)
   (case side3 => repeat (first | exact (Kd.R_reads' HO318.out).2.2 | (with_reducible refine Kd.C_alloc ?_ _) | (with_reducible refine Kd.C_drewN ?_ _) | (with_reducible refine Kd.C_drew ?_)))
   (case side4 => exact (Kd.R_reads' HO318.out).2.1)
   rintro e w51 ⟨v328, rfl, ho0, hb⟩
   refine ⟨_, rfl, ?_⟩
   have n0_ := Aside0.mk (Kd.R_below (rq HO314) hb)
   have n1_ := Aside0.mk (Kd.R_elder' (rq HO318) (Kd.R_base ho0) hb)
   have n2_ := Aside0.mk (Kd.R_elder' (rq HO322) (Kd.R_base ho0) hb)
   have n3_ := Aside0.mk (Kd.V_elder' (vq HO326) (Kd.R_base ho0) hb)
   have n4_ := Aside0.mk (Kd.R_lower (Kd.R_new' (Kd.R_new' ho0 (Kd.R_lt (rq HO318))) (Kd.R_lt (rq HO322))) (below_size (hq HB)))
   have n5_ := Aside0.mk (blk_below (g := gb315) (o := .cells #[.int .i64 t311, .slice Ao44 t312.length co44] 25 (0, 0)) (bq BK315) hb)
   have n6_ := Aside0.mk (below_step (hq HB) hb)
   clear HO314
   clear HO318
   clear HO322
   clear HO326
   clear BK315
   clear HB
   have HO314 := n0_
   have HO318 := n1_
   have HO322 := n2_
   have HO326 := n3_
   have HO329 := n4_
   have BK315 := n5_
   have HB := n6_
   clear n0_ n1_ n2_ n3_ n4_ n5_ n6_
   (try clear hb)
   (try clear hb2)
   (try clear hk)
   (try clear hi)
   (try clear ho0)
   refine hK.out _ _ ⟨(blk_cell BK315.out 0).trans rfl, (blk_cell BK315.out 1).trans rfl⟩ (fun hHeld => ?_)
   clear hK K
   refine norm_ (a' := ?_) ?_ ?_
   rotate_left
   ·show Act.put _ (some 23) _ = _
    simp only [Act.put, List.setIfInBounds_toArray, List.set_cons_zero, List.set_cons_succ, i64_w, i32_w]
    rfl
   refine one_ (i := 6) (N := some 26) #[true, true, true, true, true, true, true, false, false, false, false, false, false, false, false, false, false, false, false, false, false, false] rfl rfl (one_of HT_.out (by kernel_rfl)) (by decide) (fun K hK => ?_)
   refine goes_ Try.func21 (by kernel_rfl) rfl #[.agg #[.int .i64 t311, .slice Ao44 t312.length co44], .slice Ao50 t316.length co50] (by rfl) rfl rfl aq ?_
   with_reducible refine (intervalmonref29_Inhibited.calls k t311 _ _ t312 _ _ t316 t330 _ ?side1 ?side2 ?side3 ?side4 A10.out).mono ?_
   (case side1 => repeat (first | exact (Kd.R_reads' HO314.out).2.2 | (with_reducible refine Kd.C_alloc ?_ _) | (with_reducible refine Kd.C_drewN ?_ _) | (with_reducible refine Kd.C_drew ?_)))
   (case side2 => exact (Kd.R_reads' HO314.out).2.1)
   (case side3 => repeat (first | exact (Kd.R_reads' HO318.out).2.2 | (with_reducible refine Kd.C_alloc ?_ _) | (with_reducible refine Kd.C_drewN ?_ _) | (with_reducible refine Kd.C_drew ?_)))
   (case side4 => exact (Kd.R_reads' HO318.out).2.1)
   rintro e w52 ⟨v331, rfl, ho0, hb⟩
   refine ⟨_, rfl, ?_⟩
   have n0_ := Aside0.mk (Kd.R_below (rq HO314) hb)
   have n1_ := Aside0.mk (Kd.R_elder' (rq HO318) (Kd.R_base ho0) hb)
   have n2_ := Aside0.mk (Kd.R_elder' (rq HO322) (Kd.R_base ho0) hb)
   have n3_ := Aside0.mk (Kd.V_elder' (vq HO326) (Kd.R_base ho0) hb)
   have n4_ := Aside0.mk (Kd.R_elder' (rq HO329) (Kd.R_base ho0) hb)
   have n5_ := Aside0.mk (Kd.R_lower (Kd.R_new' (Kd.R_new' (Kd.R_new' ho0 (Kd.R_lt (rq HO318))) (Kd.R_lt (rq HO322))) (Kd.R_lt (rq HO329))) (below_size (hq HB)))
   have n6_ := Aside0.mk (blk_below (g := gb315) (o := .cells #[.int .i64 t311, .slice Ao44 t312.length co44] 25 (0, 0)) (bq BK315) hb)
   have n7_ := Aside0.mk (below_step (hq HB) hb)
   clear HO314
   clear HO318
   clear HO322
   clear HO326
   clear HO329
   clear BK315
   clear HB
   have HO314 := n0_
   have HO318 := n1_
   have HO322 := n2_
   have HO326 := n3_
   have HO329 := n4_
   have HO332 := n5_
   have BK315 := n6_
   have HB := n7_
   clear n0_ n1_ n2_ n3_ n4_ n5_ n6_ n7_
   (try clear hb)
   (try clear hb2)
   (try clear hk)
   (try clear hi)
   (try clear ho0)
   obtain ⟨Ao53, co53, eo53⟩ := Kd.R_slice HO329.out
   (first | subst eo53 | (injection eo53 with f1_ f2_ f3_; have f4_ := f1_.symm; have f5_ := f3_.symm; clear f1_ f2_ f3_; subst f4_; subst f5_))
   obtain ⟨Ao54, co54, eo54⟩ := Kd.R_slice HO332.out
   (first | subst eo54 | (injection eo54 with f1_ f2_ f3_; have f4_ := f1_.symm; have f5_ := f3_.symm; clear f1_ f2_ f3_; subst f4_; subst f5_))
   refine hK.out _ _ ⟨(blk_cell BK315.out 0).trans rfl, (blk_cell BK315.out 1).trans rfl⟩ (fun hHeld => ?_)
   clear hK K
   refine norm_ (a' := ?_) ?_ ?_
   rotate_left
   ·show Act.put _ (some 26) _ = _
    simp only [Act.put, List.setIfInBounds_toArray, List.set_cons_zero, List.set_cons_succ, i64_w, i32_w]
    rfl
   refine one_ (i := 7) (N := some 27) #[true, true, true, true, true, true, true, true, false, false, false, false, false, false, false, false, false, false, false, false, false, false] rfl rfl (one_of HT_.out (by kernel_rfl)) (by decide) (fun K hK => ?_)
   refine goes_ Try.func19 (by kernel_rfl) rfl #[.slice Ao53 t327.length co53, .slice Ao54 t330.length co54] (by rfl) rfl rfl aq ?_
   with_reducible refine (intervalmonref29_SameBools.calls k _ _ t327 _ _ t330 true _ ?side1 ?side2 ?side3 ?side4 A11.out).mono ?_
   (case side1 => repeat (first | exact (Kd.R_reads' HO329.out).2.2 | (with_reducible refine Kd.C_alloc ?_ _) | (with_reducible refine Kd.C_drewN ?_ _) | (with_reducible refine Kd.C_drew ?_)))
   (case side2 => exact (Kd.R_reads' HO329.out).2.1)
   (case side3 => repeat (first | exact (Kd.R_reads' HO332.out).2.2 | (with_reducible refine Kd.C_alloc ?_ _) | (with_reducible refine Kd.C_drewN ?_ _) | (with_reducible refine Kd.C_drew ?_)))
   (case side4 => exact (Kd.R_reads' HO332.out).2.1)
   rintro e w' ⟨rfl, ⟨nd, rfl⟩⟩
   refine ⟨_, rfl, ?_⟩
   refine hK.out _ _ ⟨(blk_cell BK315.out 0).trans rfl, (blk_cell BK315.out 1).trans rfl⟩ (fun hHeld => ?_)
   clear hK K
   refine norm_ (a' := ?_) ?_ ?_
   rotate_left
   ·show Act.put _ (some 27) _ = _
    simp only [Act.put, List.setIfInBounds_toArray, List.set_cons_zero, List.set_cons_succ, i64_w, i32_w]
    rfl
   refine pure_ (i := 8) (N := some 28) (v := ?_) (a' := ?_) #[true, true, true, true, true, true, true, true, true, false, false, false, false, false, false, false, false, false, false, false, false, false] rfl rfl (any_of HT_.out (by kernel_rfl)) (fun _ _ _ h => h) (Or.inl ⟨by rfl, ?_⟩) ?_ ?_
   rotate_left
   ·intro w'
    go_simp
    with_reducible rfl
   rotate_left
   ·simp only [Act.put, List.setIfInBounds_toArray, List.set_cons_zero, List.set_cons_succ, i64_w, i32_w]
    rfl
   refine pure_ (i := 11) (N := some 31) (v := ?_) (a' := ?_) #[true, true, true, true, true, true, true, true, true, false, false, true, false, false, false, false, false, false, false, false, false, false] rfl rfl (any_of HT_.out (by kernel_rfl)) (fun _ _ _ h => h) (Or.inl ⟨by rfl, ?_⟩) ?_ ?_
   rotate_left
   ·intro w'
    go_simp
    with_reducible rfl
   rotate_left
   ·simp only [Act.put, List.setIfInBounds_toArray, List.set_cons_zero, List.set_cons_succ, i64_w, i32_w]
    rfl
   refine pure_ (i := 14) (N := some 34) (v := ?_) (a' := ?_) #[true, true, true, true, true, true, true, true, true, false, false, true, false, false, true, false, false, false, false, false, false, false] rfl rfl (any_of HT_.out (by kernel_rfl)) (fun _ _ _ h => h) (Or.inl ⟨by rfl, ?_⟩) ?_ ?_
   rotate_left
   ·intro w'
    go_simp
    with_reducible rfl
   rotate_left
   ·simp only [Act.put, List.setIfInBounds_toArray, List.set_cons_zero, List.set_cons_succ, i64_w, i32_w]
    rfl
   refine take_ (i := 9) (N := some 29) (v := ?_) (a' := ?_) #[true, true, true, true, true, true, true, true, true, true, false, true, false, false, true, false, false, false, false, false, false, false] rfl rfl (take_ofW HT_.out HW_.out (by kernel_rfl)) (fun _ _ _ h => h) (Or.inl ⟨by rfl, ?_⟩) hHeld ?_ ?_
   rotate_left
   ·rintro w' ⟨s0, s1⟩
    go_simp
    with_reducible rfl
   rotate_left
   ·simp only [Act.put, List.setIfInBounds_toArray, List.set_cons_zero, List.set_cons_succ, i64_w, i32_w]
    rfl
   refine take_ (i := 13) (N := some 33) (v := ?_) (a' := ?_) #[true, true, true, true, true, true, true, true, true, true, false, true, false, true, true, false, false, false, false, false, false, false] rfl rfl (take_ofW HT_.out HW_.out (by kernel_rfl)) (fun _ _ _ h => h) (Or.inl ⟨by rfl, ?_⟩) hHeld ?_ ?_
   rotate_left
   ·rintro w' ⟨s0, s1⟩
    go_simp
    with_reducible rfl
   rotate_left
   ·simp only [Act.put, List.setIfInBounds_toArray, List.set_cons_zero, List.set_cons_succ, i64_w, i32_w]
    rfl
   refine one_ (i := 10) (N := some 30) #[true, true, true, true, true, true, true, true, true, true, true, true, false, true, true, false, false, false, false, false, false, false] rfl rfl (one_of HT_.out (by kernel_rfl)) (by decide) (fun K hK => ?_)
   refine goes_ Try.func15 (by kernel_rfl) rfl #[.agg #[.int .i64 t311, .slice Ao44 t312.length co44]] (by rfl) rfl rfl aq ?_
   with_reducible refine (intervalmonlaw29_graph.calls t311 (fun k_ => some k_ = (.slice Ao44 t312.length co44 : Value).ownBlock) _ _ t312 t334 t335 _ ?side1 A13.out).mono ?_
   (case side1 => exact Kd.R_V (Kd.R_tight rfl (Kd.R_types (Kd.R_apart' (Kd.R_apart' (Kd.R_apart' (Kd.R_apart' (HO314.out) (Kd.R_typed HO318.out) (by decide)) (Kd.R_typed HO322.out) (by decide)) (Kd.R_typed HO329.out) (by decide)) (Kd.R_typed HO332.out) (by decide)) BK315.out (by decide))))
   rintro e w55 ⟨v336, rfl, ho0, hb⟩
   refine ⟨_, rfl, ?_⟩
   have n0_ := Aside0.mk (Kd.R_below (rq HO314) hb)
   have n1_ := Aside0.mk (Kd.R_below (rq HO318) hb)
   have n2_ := Aside0.mk (Kd.R_below (rq HO322) hb)
   have n3_ := Aside0.mk (Kd.V_below (vq HO326) hb)
   have n4_ := Aside0.mk (Kd.R_below (rq HO329) hb)
   have n5_ := Aside0.mk (Kd.R_below (rq HO332) hb)
   have n6_ := Aside0.mk (Kd.V_lower (Kd.V_mono (ok' := fun k_ => some k_ ≠ (.slice Ao50 t316.length co50 : Value).ownBlock ∧ some k_ ≠ (v321 : Value).ownBlock ∧ some k_ ≠ (.slice Ao53 t327.length co53 : Value).ownBlock ∧ some k_ ≠ (.slice Ao54 t330.length co54 : Value).ownBlock ∧ k_ ≠ gb315) ho0 (fun k_ hk_ => ⟨Or.elim hk_ (fun hs_ => ((Kd.R_types (Kd.R_apart' (Kd.R_apart' (Kd.R_apart' (Kd.R_apart' (HO314.out) (Kd.R_typed HO318.out) (by decide)) (Kd.R_typed HO322.out) (by decide)) (Kd.R_typed HO329.out) (by decide)) (Kd.R_typed HO332.out) (by decide)) BK315.out (by decide)).1 k_ hs_.symm).1.1.1.1.2) (fun hn_ => (Kd.fresh' (Kd.R_lt (rq HO318)) k_ hn_)), Or.elim hk_ (fun hs_ => ((Kd.R_types (Kd.R_apart' (Kd.R_apart' (Kd.R_apart' (Kd.R_apart' (HO314.out) (Kd.R_typed HO318.out) (by decide)) (Kd.R_typed HO322.out) (by decide)) (Kd.R_typed HO329.out) (by decide)) (Kd.R_typed HO332.out) (by decide)) BK315.out (by decide)).1 k_ hs_.symm).1.1.1.2) (fun hn_ => (Kd.fresh' (Kd.R_lt (rq HO322)) k_ hn_)), Or.elim hk_ (fun hs_ => ((Kd.R_types (Kd.R_apart' (Kd.R_apart' (Kd.R_apart' (Kd.R_apart' (HO314.out) (Kd.R_typed HO318.out) (by decide)) (Kd.R_typed HO322.out) (by decide)) (Kd.R_typed HO329.out) (by decide)) (Kd.R_typed HO332.out) (by decide)) BK315.out (by decide)).1 k_ hs_.symm).1.1.2) (fun hn_ => (Kd.fresh' (Kd.R_lt (rq HO329)) k_ hn_)), Or.elim hk_ (fun hs_ => ((Kd.R_types (Kd.R_apart' (Kd.R_apart' (Kd.R_apart' (Kd.R_apart' (HO314.out) (Kd.R_typed HO318.out) (by decide)) (Kd.R_typed HO322.out) (by decide)) (Kd.R_typed HO329.out) (by decide)) (Kd.R_typed HO332.out) (by decide)) BK315.out (by decide)).1 k_ hs_.symm).1.2) (fun hn_ => (Kd.fresh' (Kd.R_lt (rq HO332)) k_ hn_)), Or.elim hk_ (fun hs_ => ((Kd.R_types (Kd.R_apart' (Kd.R_apart' (Kd.R_apart' (Kd.R_apart' (HO314.out) (Kd.R_typed HO318.out) (by decide)) (Kd.R_typed HO322.out) (by decide)) (Kd.R_typed HO329.out) (by decide)) (Kd.R_typed HO332.out) (by decide)) BK315.out (by decide)).1 k_ hs_.symm).2) (fun hn_ => (Kd.freshB (g := gb315) (o := .cells #[.int .i64 t311, .slice Ao44 t312.length co44] 25 (0, 0)) (bq BK315) k_ hn_))⟩)) (below_size (hq HB)))
   have n7_ := Aside0.mk (blk_below (g := gb315) (o := .cells #[.int .i64 t311, .slice Ao44 t312.length co44] 25 (0, 0)) (bq BK315) hb)
   have n8_ := Aside0.mk (below_step (hq HB) hb)
   clear HO314
   clear HO318
   clear HO322
   clear HO326
   clear HO329
   clear HO332
   clear BK315
   clear HB
   have HO314 := n0_
   have HO318 := n1_
   have HO322 := n2_
   have HO326 := n3_
   have HO329 := n4_
   have HO332 := n5_
   have HO337 := n6_
   have BK315 := n7_
   have HB := n8_
   clear n0_ n1_ n2_ n3_ n4_ n5_ n6_ n7_ n8_
   (try clear hb)
   (try clear hb2)
   (try clear hk)
   (try clear hi)
   (try clear ho0)
   obtain ⟨Ao56, co56, eo56⟩ := Kd.V_slice HO337.out
   (first | subst eo56 | (injection eo56 with f1_ f2_ f3_; have f4_ := f1_.symm; have f5_ := f3_.symm; clear f1_ f2_ f3_; subst f4_; subst f5_))
   obtain ⟨Ao57, co57, eo57⟩ := Kd.R_slice HO322.out
   (first | subst eo57 | (injection eo57 with f1_ f2_ f3_; have f4_ := f1_.symm; have f5_ := f3_.symm; clear f1_ f2_ f3_; subst f4_; subst f5_))
   refine hK.out _ _ ⟨(blk_cell BK315.out 0).trans rfl, (blk_cell BK315.out 1).trans rfl⟩ (fun hHeld => ?_)
   clear hK K
   refine norm_ (a' := ?_) ?_ ?_
   rotate_left
   ·show Act.put _ (some 30) _ = _
    simp only [Act.put, List.setIfInBounds_toArray, List.set_cons_zero, List.set_cons_succ, i64_w, i32_w]
    rfl
   refine one_ (i := 12) (N := some 32) #[true, true, true, true, true, true, true, true, true, true, true, true, true, true, true, false, false, false, false, false, false, false] rfl rfl (one_of HT_.out (by kernel_rfl)) (by decide) (fun K hK => ?_)
   refine goes_ Try.func20 (by kernel_rfl) rfl #[.agg #[.int .i64 t334, .slice Ao56 t335.length co56], .slice Ao57 t320.length co57] (by rfl) rfl rfl aq ?_
   with_reducible refine (route_Inhibited.calls k t334 _ _ t335 _ _ t320 t338 _ ?side1 ?side2 ?side3 ?side4 A14.out).mono ?_
   (case side1 => repeat (first | exact (Kd.V_reads' HO337.out).2.2 | (with_reducible refine Kd.C_alloc ?_ _) | (with_reducible refine Kd.C_drewN ?_ _) | (with_reducible refine Kd.C_drew ?_)))
   (case side2 => exact (Kd.V_reads' HO337.out).2.1)
   (case side3 => repeat (first | exact (Kd.R_reads' HO322.out).2.2 | (with_reducible refine Kd.C_alloc ?_ _) | (with_reducible refine Kd.C_drewN ?_ _) | (with_reducible refine Kd.C_drew ?_)))
   (case side4 => exact (Kd.R_reads' HO322.out).2.1)
   rintro e w58 ⟨v339, rfl, ho0, hb⟩
   refine ⟨_, rfl, ?_⟩
   have n0_ := Aside0.mk (Kd.R_below (rq HO314) hb)
   have n1_ := Aside0.mk (Kd.R_elder' (rq HO318) (Kd.R_base ho0) hb)
   have n2_ := Aside0.mk (Kd.R_elder' (rq HO322) (Kd.R_base ho0) hb)
   have n3_ := Aside0.mk (Kd.V_elder' (vq HO326) (Kd.R_base ho0) hb)
   have n4_ := Aside0.mk (Kd.R_elder' (rq HO329) (Kd.R_base ho0) hb)
   have n5_ := Aside0.mk (Kd.R_elder' (rq HO332) (Kd.R_base ho0) hb)
   have n6_ := Aside0.mk (Kd.V_elder' (vq HO337) (Kd.R_base ho0) hb)
   have n7_ := Aside0.mk (Kd.R_lower (Kd.R_new' (Kd.R_new' (Kd.R_new' (Kd.R_new' ho0 (Kd.R_lt (rq HO318))) (Kd.R_lt (rq HO322))) (Kd.R_lt (rq HO329))) (Kd.R_lt (rq HO332))) (below_size (hq HB)))
   have n8_ := Aside0.mk (blk_below (g := gb315) (o := .cells #[.int .i64 t311, .slice Ao44 t312.length co44] 25 (0, 0)) (bq BK315) hb)
   have n9_ := Aside0.mk (below_step (hq HB) hb)
   clear HO314
   clear HO318
   clear HO322
   clear HO326
   clear HO329
   clear HO332
   clear HO337
   clear BK315
   clear HB
   have HO314 := n0_
   have HO318 := n1_
   have HO322 := n2_
   have HO326 := n3_
   have HO329 := n4_
   have HO332 := n5_
   have HO337 := n6_
   have HO340 := n7_
   have BK315 := n8_
   have HB := n9_
   clear n0_ n1_ n2_ n3_ n4_ n5_ n6_ n7_ n8_ n9_
   (try clear hb)
   (try clear hb2)
   (try clear hk)
   (try clear hi)
   (try clear ho0)
   refine hK.out _ _ ⟨(blk_cell BK315.out 0).trans rfl, (blk_cell BK315.out 1).trans rfl⟩ (fun hHeld => ?_)
   clear hK K
   refine norm_ (a' := ?_) ?_ ?_
   rotate_left
   ·show Act.put _ (some 32) _ = _
    simp only [Act.put, List.setIfInBounds_toArray, List.set_cons_zero, List.set_cons_succ, i64_w, i32_w]
    rfl
   refine one_ (i := 15) (N := some 35) #[true, true, true, true, true, true, true, true, true, true, true, true, true, true, true, true, false, false, false, false, false, false] rfl rfl (one_of HT_.out (by kernel_rfl)) (by decide) (fun K hK => ?_)
   refine goes_ Try.func21 (by kernel_rfl) rfl #[.agg #[.int .i64 t311, .slice Ao44 t312.length co44], .slice Ao57 t320.length co57] (by rfl) rfl rfl aq ?_
   with_reducible refine (intervalmonref29_Inhibited.calls k t311 _ _ t312 _ _ t320 t341 _ ?side1 ?side2 ?side3 ?side4 A15.out).mono ?_
   (case side1 => repeat (first | exact (Kd.R_reads' HO314.out).2.2 | (with_reducible refine Kd.C_alloc ?_ _) | (with_reducible refine Kd.C_drewN ?_ _) | (with_reducible refine Kd.C_drew ?_)))
   (case side2 => exact (Kd.R_reads' HO314.out).2.1)
   (case side3 => repeat (first | exact (Kd.R_reads' HO322.out).2.2 | (with_reducible refine Kd.C_alloc ?_ _) | (with_reducible refine Kd.C_drewN ?_ _) | (with_reducible refine Kd.C_drew ?_)))
   (case side4 => exact (Kd.R_reads' HO322.out).2.1)
   rintro e w59 ⟨v342, rfl, ho0, hb⟩
   refine ⟨_, rfl, ?_⟩
   have n0_ := Aside0.mk (Kd.R_below (rq HO314) hb)
   have n1_ := Aside0.mk (Kd.R_elder' (rq HO318) (Kd.R_base ho0) hb)
   have n2_ := Aside0.mk (Kd.R_elder' (rq HO322) (Kd.R_base ho0) hb)
   have n3_ := Aside0.mk (Kd.V_elder' (vq HO326) (Kd.R_base ho0) hb)
   have n4_ := Aside0.mk (Kd.R_elder' (rq HO329) (Kd.R_base ho0) hb)
   have n5_ := Aside0.mk (Kd.R_elder' (rq HO332) (Kd.R_base ho0) hb)
   have n6_ := Aside0.mk (Kd.V_elder' (vq HO337) (Kd.R_base ho0) hb)
   have n7_ := Aside0.mk (Kd.R_elder' (rq HO340) (Kd.R_base ho0) hb)
   have n8_ := Aside0.mk (Kd.R_lower (Kd.R_new' (Kd.R_new' (Kd.R_new' (Kd.R_new' (Kd.R_new' ho0 (Kd.R_lt (rq HO318))) (Kd.R_lt (rq HO322))) (Kd.R_lt (rq HO329))) (Kd.R_lt (rq HO332))) (Kd.R_lt (rq HO340))) (below_size (hq HB)))
   have n9_ := Aside0.mk (blk_below (g := gb315) (o := .cells #[.int .i64 t311, .slice Ao44 t312.length co44] 25 (0, 0)) (bq BK315) hb)
   have n10_ := Aside0.mk (below_step (hq HB) hb)
   clear HO314
   clear HO318
   clear HO322
   clear HO326
   clear HO329
   clear HO332
   clear HO337
   clear HO340
   clear BK315
   clear HB
   have HO314 := n0_
   have HO318 := n1_
   have HO322 := n2_
   have HO326 := n3_
   have HO329 := n4_
   have HO332 := n5_
   have HO337 := n6_
   have HO340 := n7_
   have HO343 := n8_
   have BK315 := n9_
   have HB := n10_
   clear n0_ n1_ n2_ n3_ n4_ n5_ n6_ n7_ n8_ n9_ n10_
   (try clear hb)
   (try clear hb2)
   (try clear hk)
   (try clear hi)
   (try clear ho0)
   obtain ⟨Ao60, co60, eo60⟩ := Kd.R_slice HO340.out
   (first | subst eo60 | (injection eo60 with f1_ f2_ f3_; have f4_ := f1_.symm; have f5_ := f3_.symm; clear f1_ f2_ f3_; subst f4_; subst f5_))
   obtain ⟨Ao61, co61, eo61⟩ := Kd.R_slice HO343.out
   (first | subst eo61 | (injection eo61 with f1_ f2_ f3_; have f4_ := f1_.symm; have f5_ := f3_.symm; clear f1_ f2_ f3_; subst f4_; subst f5_))
   refine hK.out _ _ ⟨(blk_cell BK315.out 0).trans rfl, (blk_cell BK315.out 1).trans rfl⟩ (fun hHeld => ?_)
   clear hK K
   refine norm_ (a' := ?_) ?_ ?_
   rotate_left
   ·show Act.put _ (some 35) _ = _
    simp only [Act.put, List.setIfInBounds_toArray, List.set_cons_zero, List.set_cons_succ, i64_w, i32_w]
    rfl
   refine one_ (i := 16) (N := some 36) #[true, true, true, true, true, true, true, true, true, true, true, true, true, true, true, true, true, false, false, false, false, false] rfl rfl (one_of HT_.out (by kernel_rfl)) (by decide) (fun K hK => ?_)
   refine goes_ Try.func19 (by kernel_rfl) rfl #[.slice Ao60 t338.length co60, .slice Ao61 t341.length co61] (by rfl) rfl rfl aq ?_
   with_reducible refine (intervalmonref29_SameBools.calls k _ _ t338 _ _ t341 false _ ?side1 ?side2 ?side3 ?side4 A16.out).mono ?_
   (case side1 => repeat (first | exact (Kd.R_reads' HO340.out).2.2 | (with_reducible refine Kd.C_alloc ?_ _) | (with_reducible refine Kd.C_drewN ?_ _) | (with_reducible refine Kd.C_drew ?_)))
   (case side2 => exact (Kd.R_reads' HO340.out).2.1)
   (case side3 => repeat (first | exact (Kd.R_reads' HO343.out).2.2 | (with_reducible refine Kd.C_alloc ?_ _) | (with_reducible refine Kd.C_drewN ?_ _) | (with_reducible refine Kd.C_drew ?_)))
   (case side4 => exact (Kd.R_reads' HO343.out).2.1)
   rintro e w' ⟨rfl, ⟨nd, rfl⟩⟩
   refine ⟨_, rfl, ?_⟩
   refine hK.out _ _ ⟨(blk_cell BK315.out 0).trans rfl, (blk_cell BK315.out 1).trans rfl⟩ (fun hHeld => ?_)
   clear hK K
   refine norm_ (a' := ?_) ?_ ?_
   rotate_left
   ·show Act.put _ (some 36) _ = _
    simp only [Act.put, List.setIfInBounds_toArray, List.set_cons_zero, List.set_cons_succ, i64_w, i32_w]
    rfl
   refine pure_ (i := 17) (N := some 37) (v := ?_) (a' := ?_) #[true, true, true, true, true, true, true, true, true, true, true, true, true, true, true, true, true, true, false, false, false, false] rfl rfl (any_of HT_.out (by kernel_rfl)) (fun _ _ _ h => h) (Or.inl ⟨by rfl, ?_⟩) ?_ ?_
   rotate_left
   ·intro w'
    go_simp
    with_reducible rfl
   rotate_left
   ·simp only [Act.put, List.setIfInBounds_toArray, List.set_cons_zero, List.set_cons_succ, i64_w, i32_w]
    rfl
   refine pure_ (i := 18) (N := some 38) (v := ?_) (a' := ?_) #[true, true, true, true, true, true, true, true, true, true, true, true, true, true, true, true, true, true, true, false, false, false] rfl rfl (any_of HT_.out (by kernel_rfl)) (fun _ _ _ h => h) (Or.inl ⟨by rfl, ?_⟩) ?_ ?_
   rotate_left
   ·intro w'
    go_simp
    with_reducible rfl
   rotate_left
   ·simp only [Act.put, List.setIfInBounds_toArray, List.set_cons_zero, List.set_cons_succ, i64_w, i32_w]
    rfl
   refine pure_ (i := 19) (N := some 39) (v := undef) (a' := ?_) #[true, true, true, true, true, true, true, true, true, true, true, true, true, true, true, true, true, true, true, true, false, false] rfl rfl (any_of HT_.out (by kernel_rfl)) (fun _ _ _ h => h) (Or.inr ⟨by rfl, rfl⟩) ?_ ?_
   rotate_left
   ·simp only [Act.put, List.setIfInBounds_toArray, List.set_cons_zero, List.set_cons_succ, i64_w, i32_w]
    rfl
   refine pure_ (i := 20) (N := some 40) (v := ?_) (a' := ?_) #[true, true, true, true, true, true, true, true, true, true, true, true, true, true, true, true, true, true, true, true, true, false] rfl rfl (any_of HT_.out (by kernel_rfl)) (fun _ _ _ h => h) (Or.inl ⟨by rfl, ?_⟩) ?_ ?_
   rotate_left
   ·intro w'
    go_simp
    with_reducible rfl
   rotate_left
   ·simp only [Act.put, List.setIfInBounds_toArray, List.set_cons_zero, List.set_cons_succ, i64_w, i32_w]
    rfl
   refine pure_ (i := 21) (N := some 6) (v := ?_) (a' := ?_) #[true, true, true, true, true, true, true, true, true, true, true, true, true, true, true, true, true, true, true, true, true, true] rfl rfl (any_of HT_.out (by kernel_rfl)) (fun _ _ _ h => h) (Or.inl ⟨by rfl, ?_⟩) ?_ ?_
   rotate_left
   ·intro w'
    go_simp
    with_reducible rfl
   rotate_left
   ·simp only [Act.put, List.setIfInBounds_toArray, List.set_cons_zero, List.set_cons_succ, i64_w, i32_w]
    rfl
   refine done_ (done_of HT_.out (by kernel_rfl)) ?_
   try go_wp2
   go_ret
   exact ⟨by first | rfl | (simp [errW_none, errW_some] <;> rfl) | (simp [*, errW_none, errW_some] <;> rfl), by repeat (first | (with_reducible first | exact HB.out | apply below_alloc | apply pw_below_drewN | apply below_drew1 | refine below_set ?_ GE315.out) | exact HB.out)⟩
 ·replace c12 := Bool.eq_false_iff.mpr c12
  subst c12
  have H1 : (some false) = some r := by rw [if_neg (show ¬ (false = true) by decide)] at H; exact H
  clear H
  have H := H1
  clear H1
  obtain rfl := Option.some.inj H
  go_enter Try.func4, Try.ntmps4
  try go_wp2_with (first | ((with_reducible refine gate_callee (f := 12) rfl ?_); refine goesL_ (some 11) rfl rfl Try.func12 (by kernel_rfl) rfl #[.slice A0 l0.length c0] rfl aq ?_; (with_reducible refine (intervalmonref29_Any.calls k _ _ l0 t311 t312 _ ?side1 ?side2 A4.out).mono ?_); (case side1 => repeat (first | exact HR0.out | (with_reducible refine Kd.C_alloc ?_ _) | (with_reducible refine Kd.C_drewN ?_ _) | (with_reducible refine Kd.C_drew ?_))); (case side2 => exact HC0.out); rintro e w62 ⟨v313, rfl, ho0, hb⟩; refine ⟨_, rfl, ?_⟩; have n0_ := Aside0.mk (Kd.R_lower ho0 (below_size (hq HB))); have n1_ := Aside0.mk (below_step (hq HB) hb); clear HB; have HO314 := n0_; have HB := n1_; clear n0_ n1_; (try clear hb); (try clear hb2); (try clear hk); (try clear hi); (try clear ho0)) | ((with_reducible refine gate_dst (N := 7) rfl ?_); refine box_event ?hg (N := 7) ?hd (cs := #[.int .i64 0, .slice none 0 0]) (t := 25) ?hr ?_; (case hd => rfl); (case hg => rfl); (case hr => first | (go_simp; done) | (go_simp; rfl)); intro gb315 hg w63 hbox hb; have n0_ := Aside0.mk (Kd.R_below (rq HO314) hb); have n1_ := Aside0.mk (below_step (hq HB) hb); have n2_ := Aside0.mk (hbox); have n3_ := Aside0.mk ((by rw [hg]; exact (below_size (hq HB)) : w.heap.size ≤ gb315)); have n4_ := Aside0.mk ((by rw [hg]; exact (below_size (hq HB)) : w.heap.size ≤ gb315)); clear HO314; clear HB; have HO314 := n0_; have HB := n1_; have BK315 := n2_; have GW315 := n3_; have GE315 := n4_; clear n0_ n1_ n2_ n3_ n4_; clear hb hbox hg; have hcz64_0 : w63.cell? ⟨gb315, 0, none⟩ = some (.int .i64 0) := (blk_cell BK315.out 0).trans rfl; have hcz64_1 : w63.cell? ⟨gb315, 1, none⟩ = some (.slice none 0 0) := (blk_cell BK315.out 1).trans rfl; have hfz64_0 := blk_frozen BK315.out 0; have hfz64_1 := blk_frozen BK315.out 1; obtain ⟨Ao65, co65, eo65⟩ := Kd.R_slice HO314.out; subst eo65) | ((with_reducible refine gate_callee (f := 18) rfl ?_); refine goesL_ (some 15) rfl rfl Try.func18 (by kernel_rfl) rfl #[.int .i64 t311, .int .i64 a1] rfl aq ?_; (with_reducible refine (intervalmonref29_Firing.calls k t311 a1 t316 _ A5.out).mono ?_); rintro e w66 ⟨v317, rfl, ho0, hb⟩; refine ⟨_, rfl, ?_⟩; have n0_ := Aside0.mk (Kd.R_below (by (with_reducible repeat (first | apply Kd.R_alloc | apply Kd.R_drewN | apply Kd.R_drew)); exact (Kd.R_mono (Kd.R_far (p := ⟨gb315, 1, none⟩) (Kd.R_far (p := ⟨gb315, 0, none⟩) (Kd.R_types HO314.out BK315.out (by decide)) (fun _ hk => hk.2) (.int .i64 t311)) (fun _ hk => hk.2) (.slice Ao65 t312.length co65)) (fun _ h_ => h_.1))) hb); have n1_ := Aside0.mk (Kd.R_lower ho0 (below_size (hq HB))); have n2_ := Aside0.mk (blk_below (g := gb315) (o := .cells #[.int .i64 t311, .slice Ao65 t312.length co65] 25 (0, 0)) (by (with_reducible repeat (first | refine blk_drewN ?_ _ | refine blk_drew ?_ | refine blk_alloc ?_ _)); refine blk_put (cs := #[.int .i64 t311, .slice none 0 0]) ?_ 1 _ rfl; (with_reducible repeat (first | refine blk_drewN ?_ _ | refine blk_drew ?_ | refine blk_alloc ?_ _)); refine blk_put (cs := #[.int .i64 0, .slice none 0 0]) ?_ 0 _ rfl; (with_reducible repeat (first | refine blk_drewN ?_ _ | refine blk_drew ?_ | refine blk_alloc ?_ _)); exact BK315.out) hb); have n3_ := Aside0.mk (below_step (hq HB) hb); clear HO314; clear BK315; clear HB; have HO314 := n0_; have HO318 := n1_; have BK315 := n2_; have HB := n3_; clear n0_ n1_ n2_ n3_; (try clear hb); (try clear hb2); (try clear hk); (try clear hi); (try clear ho0)) | ((with_reducible refine gate_callee (f := 13) rfl ?_); refine goesL_ (some 17) rfl rfl Try.func13 (by kernel_rfl) rfl #[.int .i64 a2, .int .i64 10] rfl aq ?_; (with_reducible refine (intervalmonref01_Around.calls a2 10 t319 _ A6.out).mono ?_); rintro e w' ⟨rfl, ⟨nd, rfl⟩⟩; refine ⟨_, rfl, ?_⟩) | ((with_reducible refine gate_callee (f := 18) rfl ?_); refine goesL_ (some 19) rfl rfl Try.func18 (by kernel_rfl) rfl #[.int .i64 t319, .int .i64 a1] rfl aq ?_; (with_reducible refine (intervalmonref29_Firing.calls k t319 a1 t320 _ A7.out).mono ?_); rintro e w67 ⟨v321, rfl, ho0, hb⟩; refine ⟨_, rfl, ?_⟩; have n0_ := Aside0.mk (Kd.R_below (rq HO314) hb); have n1_ := Aside0.mk (Kd.R_elder' (rq HO318) (Kd.R_base ho0) hb); have n2_ := Aside0.mk (Kd.R_lower (Kd.R_new' ho0 (Kd.R_lt (rq HO318))) (below_size (hq HB))); have n3_ := Aside0.mk (blk_below (g := gb315) (o := .cells #[.int .i64 t311, .slice Ao65 t312.length co65] 25 (0, 0)) (bq BK315) hb); have n4_ := Aside0.mk (below_step (hq HB) hb); clear HO314; clear HO318; clear BK315; clear HB; have HO314 := n0_; have HO318 := n1_; have HO322 := n2_; have BK315 := n3_; have HB := n4_; clear n0_ n1_ n2_ n3_ n4_; (try clear hb); (try clear hb2); (try clear hk); (try clear hi); (try clear ho0)))
  have n0_ := Aside0.mk (Kd.R_drew HO314.out)
  have n1_ := Aside0.mk (Kd.R_drew HO318.out)
  have n2_ := Aside0.mk (Kd.R_drew HO322.out)
  have n3_ := Aside0.mk (blk_drew BK315.out)
  have n4_ := Aside0.mk (below_drew1 HB.out)
  clear HO314
  clear HO318
  clear HO322
  clear BK315
  clear HB
  have HO314 := n0_
  have HO318 := n1_
  have HO322 := n2_
  have BK315 := n3_
  have HB := n4_
  clear n0_ n1_ n2_ n3_ n4_
  refine start_ (n := 22) (S := fun w' => w'.cell? ⟨gb315, 0, none⟩ = some (.int .i64 t311) ∧ w'.cell? ⟨gb315, 1, none⟩ = some (.slice Ao65 t312.length co65)) (ds := []) #[false, false, false, false, false, false, false, false, false, false, false, false, false, false, false, false, false, false, false, false, false, false] (by kernel_rfl) rfl rfl ⟨(blk_cell BK315.out 0).trans rfl, (blk_cell BK315.out 1).trans rfl⟩ (fun hHeld => ?_); refine with_tabW intervalmonlaw29_RouteInhibited.tab4 intervalmonlaw29_RouteInhibited.bits4 (fun HT_ HW_ => ?_)
  generalize w67.drew = w68 at HO314 HO318 HO322 BK315 HB hHeld ⊢
  refine pure_ (i := 2) (N := some 22) (v := ?_) (a' := ?_) #[false, false, true, false, false, false, false, false, false, false, false, false, false, false, false, false, false, false, false, false, false, false] rfl rfl (any_of HT_.out (by kernel_rfl)) (fun _ _ _ h => h) (Or.inl ⟨by rfl, ?_⟩) ?_ ?_
  rotate_left
  ·intro w'
   go_simp
   with_reducible rfl
  rotate_left
  ·simp only [Act.put, List.setIfInBounds_toArray, List.set_cons_zero, List.set_cons_succ, i64_w, i32_w]
   rfl
  refine pure_ (i := 5) (N := some 25) (v := ?_) (a' := ?_) #[false, false, true, false, false, true, false, false, false, false, false, false, false, false, false, false, false, false, false, false, false, false] rfl rfl (any_of HT_.out (by kernel_rfl)) (fun _ _ _ h => h) (Or.inl ⟨by rfl, ?_⟩) ?_ ?_
  rotate_left
  ·intro w'
   go_simp
   with_reducible rfl
  rotate_left
  ·simp only [Act.put, List.setIfInBounds_toArray, List.set_cons_zero, List.set_cons_succ, i64_w, i32_w]
   rfl
  refine take_ (i := 0) (N := some 20) (v := ?_) (a' := ?_) #[true, false, true, false, false, true, false, false, false, false, false, false, false, false, false, false, false, false, false, false, false, false] rfl rfl (take_ofW HT_.out HW_.out (by kernel_rfl)) (fun _ _ _ h => h) (Or.inl ⟨by rfl, ?_⟩) hHeld ?_ ?_
  rotate_left
  ·rintro w' ⟨s0, s1⟩
   go_simp
   with_reducible rfl
  rotate_left
  ·simp only [Act.put, List.setIfInBounds_toArray, List.set_cons_zero, List.set_cons_succ, i64_w, i32_w]
   rfl
  refine take_ (i := 4) (N := some 24) (v := ?_) (a' := ?_) #[true, false, true, false, true, true, false, false, false, false, false, false, false, false, false, false, false, false, false, false, false, false] rfl rfl (take_ofW HT_.out HW_.out (by kernel_rfl)) (fun _ _ _ h => h) (Or.inl ⟨by rfl, ?_⟩) hHeld ?_ ?_
  rotate_left
  ·rintro w' ⟨s0, s1⟩
   go_simp
   with_reducible rfl
  rotate_left
  ·simp only [Act.put, List.setIfInBounds_toArray, List.set_cons_zero, List.set_cons_succ, i64_w, i32_w]
   rfl
  refine one_ (i := 1) (N := some 21) #[true, true, true, false, true, true, false, false, false, false, false, false, false, false, false, false, false, false, false, false, false, false] rfl rfl (one_of HT_.out (by kernel_rfl)) (by decide) (fun K hK => ?_)
  refine goes_ Try.func15 (by kernel_rfl) rfl #[.agg #[.int .i64 t311, .slice Ao65 t312.length co65]] (by rfl) rfl rfl aq ?_
  with_reducible refine (intervalmonlaw29_graph.calls t311 (fun k_ => some k_ = (.slice Ao65 t312.length co65 : Value).ownBlock) _ _ t312 t323 t324 _ ?side1 A8.out).mono ?_
  (case side1 => exact Kd.R_V (Kd.R_tight rfl (Kd.R_types (Kd.R_apart' (Kd.R_apart' (HO314.out) (Kd.R_typed HO318.out) (by decide)) (Kd.R_typed HO322.out) (by decide)) BK315.out (by decide))))
  rintro e w69 ⟨v325, rfl, ho0, hb⟩
  refine ⟨_, rfl, ?_⟩
  have n0_ := Aside0.mk (Kd.R_below (rq HO314) hb)
  have n1_ := Aside0.mk (Kd.R_below (rq HO318) hb)
  have n2_ := Aside0.mk (Kd.R_below (rq HO322) hb)
  have n3_ := Aside0.mk (Kd.V_lower (Kd.V_mono (ok' := fun k_ => some k_ ≠ (v317 : Value).ownBlock ∧ some k_ ≠ (v321 : Value).ownBlock ∧ k_ ≠ gb315) ho0 (fun k_ hk_ => ⟨Or.elim hk_ (fun hs_ => ((Kd.R_types (Kd.R_apart' (Kd.R_apart' (HO314.out) (Kd.R_typed HO318.out) (by decide)) (Kd.R_typed HO322.out) (by decide)) BK315.out (by decide)).1 k_ hs_.symm).1.1.2) (fun hn_ => (Kd.fresh' (Kd.R_lt (rq HO318)) k_ hn_)), Or.elim hk_ (fun hs_ => ((Kd.R_types (Kd.R_apart' (Kd.R_apart' (HO314.out) (Kd.R_typed HO318.out) (by decide)) (Kd.R_typed HO322.out) (by decide)) BK315.out (by decide)).1 k_ hs_.symm).1.2) (fun hn_ => (Kd.fresh' (Kd.R_lt (rq HO322)) k_ hn_)), Or.elim hk_ (fun hs_ => ((Kd.R_types (Kd.R_apart' (Kd.R_apart' (HO314.out) (Kd.R_typed HO318.out) (by decide)) (Kd.R_typed HO322.out) (by decide)) BK315.out (by decide)).1 k_ hs_.symm).2) (fun hn_ => (Kd.freshB (g := gb315) (o := .cells #[.int .i64 t311, .slice Ao65 t312.length co65] 25 (0, 0)) (bq BK315) k_ hn_))⟩)) (below_size (hq HB)))
  have n4_ := Aside0.mk (blk_below (g := gb315) (o := .cells #[.int .i64 t311, .slice Ao65 t312.length co65] 25 (0, 0)) (bq BK315) hb)
  have n5_ := Aside0.mk (below_step (hq HB) hb)
  clear HO314
  clear HO318
  clear HO322
  clear BK315
  clear HB
  have HO314 := n0_
  have HO318 := n1_
  have HO322 := n2_
  have HO326 := n3_
  have BK315 := n4_
  have HB := n5_
  clear n0_ n1_ n2_ n3_ n4_ n5_
  (try clear hb)
  (try clear hb2)
  (try clear hk)
  (try clear hi)
  (try clear ho0)
  obtain ⟨Ao70, co70, eo70⟩ := Kd.V_slice HO326.out
  (first | subst eo70 | (injection eo70 with f1_ f2_ f3_; have f4_ := f1_.symm; have f5_ := f3_.symm; clear f1_ f2_ f3_; subst f4_; subst f5_))
  obtain ⟨Ao71, co71, eo71⟩ := Kd.R_slice HO318.out
  (first | subst eo71 | (injection eo71 with f1_ f2_ f3_; have f4_ := f1_.symm; have f5_ := f3_.symm; clear f1_ f2_ f3_; subst f4_; subst f5_))
  refine hK.out _ _ ⟨(blk_cell BK315.out 0).trans rfl, (blk_cell BK315.out 1).trans rfl⟩ (fun hHeld => ?_)
  clear hK K
  refine norm_ (a' := ?_) ?_ ?_
  rotate_left
  ·show Act.put _ (some 21) _ = _
   simp only [Act.put, List.setIfInBounds_toArray, List.set_cons_zero, List.set_cons_succ, i64_w, i32_w]
   rfl
  refine one_ (i := 3) (N := some 23) #[true, true, true, true, true, true, false, false, false, false, false, false, false, false, false, false, false, false, false, false, false, false] rfl rfl (one_of HT_.out (by kernel_rfl)) (by decide) (fun K hK => ?_)
  refine goes_ Try.func20 (by kernel_rfl) rfl #[.agg #[.int .i64 t323, .slice Ao70 t324.length co70], .slice Ao71 t316.length co71] (by rfl) rfl rfl aq ?_
  with_reducible refine (route_Inhibited.calls k t323 _ _ t324 _ _ t316 t327 _ ?side1 ?side2 ?side3 ?side4 A9.out).mono ?_
  (case side1 => repeat (first | exact (Kd.V_reads' HO326.out).2.2 | (with_reducible refine Kd.C_alloc ?_ _) | (with_reducible refine Kd.C_drewN ?_ _) | (with_reducible refine Kd.C_drew ?_)))
  (case side2 => exact (Kd.V_reads' HO326.out).2.1)
  (case side3 => repeat (first | exact (Kd.R_reads' HO318.out).2.2 | (with_reducible refine Kd.C_alloc ?_ _) | (with_reducible refine Kd.C_drewN ?_ _) | (with_reducible refine Kd.C_drew ?_)))
  (case side4 => exact (Kd.R_reads' HO318.out).2.1)
  rintro e w72 ⟨v328, rfl, ho0, hb⟩
  refine ⟨_, rfl, ?_⟩
  have n0_ := Aside0.mk (Kd.R_below (rq HO314) hb)
  have n1_ := Aside0.mk (Kd.R_elder' (rq HO318) (Kd.R_base ho0) hb)
  have n2_ := Aside0.mk (Kd.R_elder' (rq HO322) (Kd.R_base ho0) hb)
  have n3_ := Aside0.mk (Kd.V_elder' (vq HO326) (Kd.R_base ho0) hb)
  have n4_ := Aside0.mk (Kd.R_lower (Kd.R_new' (Kd.R_new' ho0 (Kd.R_lt (rq HO318))) (Kd.R_lt (rq HO322))) (below_size (hq HB)))
  have n5_ := Aside0.mk (blk_below (g := gb315) (o := .cells #[.int .i64 t311, .slice Ao65 t312.length co65] 25 (0, 0)) (bq BK315) hb)
  have n6_ := Aside0.mk (below_step (hq HB) hb)
  clear HO314
  clear HO318
  clear HO322
  clear HO326
  clear BK315
  clear HB
  have HO314 := n0_
  have HO318 := n1_
  have HO322 := n2_
  have HO326 := n3_
  have HO329 := n4_
  have BK315 := n5_
  have HB := n6_
  clear n0_ n1_ n2_ n3_ n4_ n5_ n6_
  (try clear hb)
  (try clear hb2)
  (try clear hk)
  (try clear hi)
  (try clear ho0)
  refine hK.out _ _ ⟨(blk_cell BK315.out 0).trans rfl, (blk_cell BK315.out 1).trans rfl⟩ (fun hHeld => ?_)
  clear hK K
  refine norm_ (a' := ?_) ?_ ?_
  rotate_left
  ·show Act.put _ (some 23) _ = _
   simp only [Act.put, List.setIfInBounds_toArray, List.set_cons_zero, List.set_cons_succ, i64_w, i32_w]
   rfl
  refine one_ (i := 6) (N := some 26) #[true, true, true, true, true, true, true, false, false, false, false, false, false, false, false, false, false, false, false, false, false, false] rfl rfl (one_of HT_.out (by kernel_rfl)) (by decide) (fun K hK => ?_)
  refine goes_ Try.func21 (by kernel_rfl) rfl #[.agg #[.int .i64 t311, .slice Ao65 t312.length co65], .slice Ao71 t316.length co71] (by rfl) rfl rfl aq ?_
  with_reducible refine (intervalmonref29_Inhibited.calls k t311 _ _ t312 _ _ t316 t330 _ ?side1 ?side2 ?side3 ?side4 A10.out).mono ?_
  (case side1 => repeat (first | exact (Kd.R_reads' HO314.out).2.2 | (with_reducible refine Kd.C_alloc ?_ _) | (with_reducible refine Kd.C_drewN ?_ _) | (with_reducible refine Kd.C_drew ?_)))
  (case side2 => exact (Kd.R_reads' HO314.out).2.1)
  (case side3 => repeat (first | exact (Kd.R_reads' HO318.out).2.2 | (with_reducible refine Kd.C_alloc ?_ _) | (with_reducible refine Kd.C_drewN ?_ _) | (with_reducible refine Kd.C_drew ?_)))
  (case side4 => exact (Kd.R_reads' HO318.out).2.1)
  rintro e w73 ⟨v331, rfl, ho0, hb⟩
  refine ⟨_, rfl, ?_⟩
  have n0_ := Aside0.mk (Kd.R_below (rq HO314) hb)
  have n1_ := Aside0.mk (Kd.R_elder' (rq HO318) (Kd.R_base ho0) hb)
  have n2_ := Aside0.mk (Kd.R_elder' (rq HO322) (Kd.R_base ho0) hb)
  have n3_ := Aside0.mk (Kd.V_elder' (vq HO326) (Kd.R_base ho0) hb)
  have n4_ := Aside0.mk (Kd.R_elder' (rq HO329) (Kd.R_base ho0) hb)
  have n5_ := Aside0.mk (Kd.R_lower (Kd.R_new' (Kd.R_new' (Kd.R_new' ho0 (Kd.R_lt (rq HO318))) (Kd.R_lt (rq HO322))) (Kd.R_lt (rq HO329))) (below_size (hq HB)))
  have n6_ := Aside0.mk (blk_below (g := gb315) (o := .cells #[.int .i64 t311, .slice Ao65 t312.length co65] 25 (0, 0)) (bq BK315) hb)
  have n7_ := Aside0.mk (below_step (hq HB) hb)
  clear HO314
  clear HO318
  clear HO322
  clear HO326
  clear HO329
  clear BK315
  clear HB
  have HO314 := n0_
  have HO318 := n1_
  have HO322 := n2_
  have HO326 := n3_
  have HO329 := n4_
  have HO332 := n5_
  have BK315 := n6_
  have HB := n7_
  clear n0_ n1_ n2_ n3_ n4_ n5_ n6_ n7_
  (try clear hb)
  (try clear hb2)
  (try clear hk)
  (try clear hi)
  (try clear ho0)
  obtain ⟨Ao74, co74, eo74⟩ := Kd.R_slice HO329.out
  (first | subst eo74 | (injection eo74 with f1_ f2_ f3_; have f4_ := f1_.symm; have f5_ := f3_.symm; clear f1_ f2_ f3_; subst f4_; subst f5_))
  obtain ⟨Ao75, co75, eo75⟩ := Kd.R_slice HO332.out
  (first | subst eo75 | (injection eo75 with f1_ f2_ f3_; have f4_ := f1_.symm; have f5_ := f3_.symm; clear f1_ f2_ f3_; subst f4_; subst f5_))
  refine hK.out _ _ ⟨(blk_cell BK315.out 0).trans rfl, (blk_cell BK315.out 1).trans rfl⟩ (fun hHeld => ?_)
  clear hK K
  refine norm_ (a' := ?_) ?_ ?_
  rotate_left
  ·show Act.put _ (some 26) _ = _
   simp only [Act.put, List.setIfInBounds_toArray, List.set_cons_zero, List.set_cons_succ, i64_w, i32_w]
   rfl
  refine one_ (i := 7) (N := some 27) #[true, true, true, true, true, true, true, true, false, false, false, false, false, false, false, false, false, false, false, false, false, false] rfl rfl (one_of HT_.out (by kernel_rfl)) (by decide) (fun K hK => ?_)
  refine goes_ Try.func19 (by kernel_rfl) rfl #[.slice Ao74 t327.length co74, .slice Ao75 t330.length co75] (by rfl) rfl rfl aq ?_
  with_reducible refine (intervalmonref29_SameBools.calls k _ _ t327 _ _ t330 false _ ?side1 ?side2 ?side3 ?side4 A11.out).mono ?_
  (case side1 => repeat (first | exact (Kd.R_reads' HO329.out).2.2 | (with_reducible refine Kd.C_alloc ?_ _) | (with_reducible refine Kd.C_drewN ?_ _) | (with_reducible refine Kd.C_drew ?_)))
  (case side2 => exact (Kd.R_reads' HO329.out).2.1)
  (case side3 => repeat (first | exact (Kd.R_reads' HO332.out).2.2 | (with_reducible refine Kd.C_alloc ?_ _) | (with_reducible refine Kd.C_drewN ?_ _) | (with_reducible refine Kd.C_drew ?_)))
  (case side4 => exact (Kd.R_reads' HO332.out).2.1)
  rintro e w' ⟨rfl, ⟨nd, rfl⟩⟩
  refine ⟨_, rfl, ?_⟩
  refine hK.out _ _ ⟨(blk_cell BK315.out 0).trans rfl, (blk_cell BK315.out 1).trans rfl⟩ (fun hHeld => ?_)
  clear hK K
  refine norm_ (a' := ?_) ?_ ?_
  rotate_left
  ·show Act.put _ (some 27) _ = _
   simp only [Act.put, List.setIfInBounds_toArray, List.set_cons_zero, List.set_cons_succ, i64_w, i32_w]
   rfl
  refine pure_ (i := 8) (N := some 28) (v := ?_) (a' := ?_) #[true, true, true, true, true, true, true, true, true, false, false, false, false, false, false, false, false, false, false, false, false, false] rfl rfl (any_of HT_.out (by kernel_rfl)) (fun _ _ _ h => h) (Or.inl ⟨by rfl, ?_⟩) ?_ ?_
  rotate_left
  ·intro w'
   go_simp
   with_reducible rfl
  rotate_left
  ·simp only [Act.put, List.setIfInBounds_toArray, List.set_cons_zero, List.set_cons_succ, i64_w, i32_w]
   rfl
  refine pure_ (i := 9) (N := some 29) (v := undef) (a' := ?_) #[true, true, true, true, true, true, true, true, true, true, false, false, false, false, false, false, false, false, false, false, false, false] rfl rfl (any_of HT_.out (by kernel_rfl)) (fun _ _ _ h => h) (Or.inr ⟨by rfl, rfl⟩) ?_ ?_
  rotate_left
  ·simp only [Act.put, List.setIfInBounds_toArray, List.set_cons_zero, List.set_cons_succ, i64_w, i32_w]
   rfl
  refine pure_ (i := 10) (N := some 30) (v := undef) (a' := ?_) #[true, true, true, true, true, true, true, true, true, true, true, false, false, false, false, false, false, false, false, false, false, false] rfl rfl (any_of HT_.out (by kernel_rfl)) (fun _ _ _ h => h) (Or.inr ⟨by rfl, rfl⟩) ?_ ?_
  rotate_left
  ·simp only [Act.put, List.setIfInBounds_toArray, List.set_cons_zero, List.set_cons_succ, i64_w, i32_w]
   rfl
  refine pure_ (i := 11) (N := some 31) (v := undef) (a' := ?_) #[true, true, true, true, true, true, true, true, true, true, true, true, false, false, false, false, false, false, false, false, false, false] rfl rfl (any_of HT_.out (by kernel_rfl)) (fun _ _ _ h => h) (Or.inr ⟨by rfl, rfl⟩) ?_ ?_
  rotate_left
  ·simp only [Act.put, List.setIfInBounds_toArray, List.set_cons_zero, List.set_cons_succ, i64_w, i32_w]
   rfl
  refine pure_ (i := 12) (N := some 32) (v := undef) (a' := ?_) #[true, true, true, true, true, true, true, true, true, true, true, true, true, false, false, false, false, false, false, false, false, false] rfl rfl (any_of HT_.out (by kernel_rfl)) (fun _ _ _ h => h) (Or.inr ⟨by rfl, rfl⟩) ?_ ?_
  rotate_left
  ·simp only [Act.put, List.setIfInBounds_toArray, List.set_cons_zero, List.set_cons_succ, i64_w, i32_w]
   rfl
  refine pure_ (i := 13) (N := some 33) (v := undef) (a' := ?_) #[true, true, true, true, true, true, true, true, true, true, true, true, true, true, false, false, false, false, false, false, false, false] rfl rfl (any_of HT_.out (by kernel_rfl)) (fun _ _ _ h => h) (Or.inr ⟨by rfl, rfl⟩) ?_ ?_
  rotate_left
  ·simp only [Act.put, List.setIfInBounds_toArray, List.set_cons_zero, List.set_cons_succ, i64_w, i32_w]
   rfl
  refine pure_ (i := 14) (N := some 34) (v := undef) (a' := ?_) #[true, true, true, true, true, true, true, true, true, true, true, true, true, true, true, false, false, false, false, false, false, false] rfl rfl (any_of HT_.out (by kernel_rfl)) (fun _ _ _ h => h) (Or.inr ⟨by rfl, rfl⟩) ?_ ?_
  rotate_left
  ·simp only [Act.put, List.setIfInBounds_toArray, List.set_cons_zero, List.set_cons_succ, i64_w, i32_w]
   rfl
  refine pure_ (i := 15) (N := some 35) (v := undef) (a' := ?_) #[true, true, true, true, true, true, true, true, true, true, true, true, true, true, true, true, false, false, false, false, false, false] rfl rfl (any_of HT_.out (by kernel_rfl)) (fun _ _ _ h => h) (Or.inr ⟨by rfl, rfl⟩) ?_ ?_
  rotate_left
  ·simp only [Act.put, List.setIfInBounds_toArray, List.set_cons_zero, List.set_cons_succ, i64_w, i32_w]
   rfl
  refine pure_ (i := 16) (N := some 36) (v := undef) (a' := ?_) #[true, true, true, true, true, true, true, true, true, true, true, true, true, true, true, true, true, false, false, false, false, false] rfl rfl (any_of HT_.out (by kernel_rfl)) (fun _ _ _ h => h) (Or.inr ⟨by rfl, rfl⟩) ?_ ?_
  rotate_left
  ·simp only [Act.put, List.setIfInBounds_toArray, List.set_cons_zero, List.set_cons_succ, i64_w, i32_w]
   rfl
  refine pure_ (i := 17) (N := some 37) (v := ?_) (a' := ?_) #[true, true, true, true, true, true, true, true, true, true, true, true, true, true, true, true, true, true, false, false, false, false] rfl rfl (any_of HT_.out (by kernel_rfl)) (fun _ _ _ h => h) (Or.inl ⟨by rfl, ?_⟩) ?_ ?_
  rotate_left
  ·intro w'
   go_simp
   with_reducible rfl
  rotate_left
  ·simp only [Act.put, List.setIfInBounds_toArray, List.set_cons_zero, List.set_cons_succ, i64_w, i32_w]
   rfl
  refine pure_ (i := 18) (N := some 38) (v := ?_) (a' := ?_) #[true, true, true, true, true, true, true, true, true, true, true, true, true, true, true, true, true, true, true, false, false, false] rfl rfl (any_of HT_.out (by kernel_rfl)) (fun _ _ _ h => h) (Or.inl ⟨by rfl, ?_⟩) ?_ ?_
  rotate_left
  ·intro w'
   go_simp
   with_reducible rfl
  rotate_left
  ·simp only [Act.put, List.setIfInBounds_toArray, List.set_cons_zero, List.set_cons_succ, i64_w, i32_w]
   rfl
  refine pure_ (i := 19) (N := some 39) (v := undef) (a' := ?_) #[true, true, true, true, true, true, true, true, true, true, true, true, true, true, true, true, true, true, true, true, false, false] rfl rfl (any_of HT_.out (by kernel_rfl)) (fun _ _ _ h => h) (Or.inr ⟨by rfl, rfl⟩) ?_ ?_
  rotate_left
  ·simp only [Act.put, List.setIfInBounds_toArray, List.set_cons_zero, List.set_cons_succ, i64_w, i32_w]
   rfl
  refine pure_ (i := 20) (N := some 40) (v := ?_) (a' := ?_) #[true, true, true, true, true, true, true, true, true, true, true, true, true, true, true, true, true, true, true, true, true, false] rfl rfl (any_of HT_.out (by kernel_rfl)) (fun _ _ _ h => h) (Or.inl ⟨by rfl, ?_⟩) ?_ ?_
  rotate_left
  ·intro w'
   go_simp
   with_reducible rfl
  rotate_left
  ·simp only [Act.put, List.setIfInBounds_toArray, List.set_cons_zero, List.set_cons_succ, i64_w, i32_w]
   rfl
  refine pure_ (i := 21) (N := some 6) (v := ?_) (a' := ?_) #[true, true, true, true, true, true, true, true, true, true, true, true, true, true, true, true, true, true, true, true, true, true] rfl rfl (any_of HT_.out (by kernel_rfl)) (fun _ _ _ h => h) (Or.inl ⟨by rfl, ?_⟩) ?_ ?_
  rotate_left
  ·intro w'
   go_simp
   with_reducible rfl
  rotate_left
  ·simp only [Act.put, List.setIfInBounds_toArray, List.set_cons_zero, List.set_cons_succ, i64_w, i32_w]
   rfl
  refine done_ (done_of HT_.out (by kernel_rfl)) ?_
  try go_wp2
  go_ret
  exact ⟨by first | rfl | (simp [errW_none, errW_some] <;> rfl) | (simp [*, errW_none, errW_some] <;> rfl), by repeat (first | (with_reducible first | exact HB.out | apply below_alloc | apply pw_below_drewN | apply below_drew1 | refine below_set ?_ GE315.out) | exact HB.out)⟩

/-- THE ONE PURE STATEMENT of intervalmonlaw29_RouteInhibited: yours. -/
def intervalmonlaw29_RouteInhibited.Pure : Prop := ∀ (l0 : List Int) (a1 : Int) (a2 : Int), l0.length ≤ maxLen → l0.length * 8 ≤ 140737488351232 → (∀ x ∈ l0, (Lit.int .i64 x).wf = true) → (Lit.int .i64 a1).wf = true → (Lit.int .i64 a2).wf = true → ∃ k, intervalmonlaw29_RouteInhibited.f k l0 a1 a2 = some true
theorem intervalmonlaw29_RouteInhibited.walk (P : intervalmonlaw29_RouteInhibited.Pure) (a0 : Option Addr) (len0 cap0 : Nat) (z0 : List Int) (a1 : Int) (a2 : Int) (w : World) (w0 : (a0 = none ∧ len0 = 0 ∧ cap0 = 0 ∧ z0 = []) ∨ ∃ x, a0 = some x ∧ len0 ≤ cap0 ∧ cap0 ≤ maxLen ∧ z0.length = cap0 ∧ (∀ i, i < z0.length → w.cell? (x.add i) = some (.int .i64 (z0.getD i 0))) ∧ ∀ n ∈ z0, (Lit.int .i64 n).wf = true) (y0 : len0 * 8 ≤ 140737488351232) (w1 : (Lit.int .i64 a1).wf = true) (w2 : (Lit.int .i64 a2).wf = true) :
  Calls Try.prog 4 #[.slice a0 len0 cap0, .int .i64 a1, .int .i64 a2] w fun e w' => e = .returned (.bool true) ∧ Below w.heap.size w w' := by
 obtain ⟨l0, rfl, hr0, hm0, hw0, hc0⟩ := ReadsInt.ofRowC w0
 obtain ⟨k, h⟩ := P l0 a1 a2 hm0 y0 hw0 w1 w2
 refine (intervalmonlaw29_RouteInhibited.calls k _ _ l0 a1 a2 true w (Kd.C_of_reads (d := (0 : Int)) (h1 := fun _ => rfl) hr0) hc0 h).mono ?_
 rintro e w' ⟨rfl, hd⟩
 exact ⟨rfl, hd⟩

end Go.Proofs.Ytcamljlhdejmmaa.P
