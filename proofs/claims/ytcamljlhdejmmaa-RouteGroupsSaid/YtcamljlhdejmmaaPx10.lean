-- Written by this session's own copy of a printing program (wip/tools); Lean checks it.
import Derived.Test.YtcamljlhdejmmaaPx0
import Derived.Test.YtcamljlhdejmmaaPx6
import Derived.Test.YtcamljlhdejmmaaPx7
import Derived.Test.YtcamljlhdejmmaaPx9
import Derived.Test.YtcamljlhdejmmaaHGrp
namespace Go.Proofs.Ytcamljlhdejmmaa.P
open Go.RowKit Go.Proofs.YtcamljlhdejmmaaW.PrintWords Go.Proofs.YtcamljlhdejmmaaW.PrintLast Go.Proofs.YtcamljlhdejmmaaW.PrintMore
attribute [local go_sem] max2_int min2_int max_two min_two max_three min_three max_four min_four   -- for this text's walks alone
set_option linter.unusedVariables false
set_option linter.unusedSimpArgs false

/-! ### intervalmonlaw29_RouteGroups: function 10 -/
def intervalmonlaw29_RouteGroups.f (k : Nat) (l0 : List Int) (l1 : List ByteArray) (a2 : Int) : Option (Bool) := (intervalmonref29_Alerts.f k l0).bind fun t320 => ((intervalmonlaw29_few.f k l1 a2).bind fun t323 => ((route_Groups.f t320 t323).bind fun t326 => ((intervalmonref29_Groups.f k t320 t323).bind fun t329 => ((intervalmonref29_SameGroups.f k t326 t329).bind fun t332 => (if t332 = true then ((route_Groups.f t320 ([] : List ByteArray)).bind fun t333 => ((intervalmonref29_Groups.f k t320 ([] : List ByteArray)).bind fun t336 => ((intervalmonref29_SameGroups.f k t333 t336).bind fun t339 => (if t339 = true then ((intervalmonlaw29_lives.f k).bind fun t340 => (some t340)) else (some false))))) else (some false))))))
theorem intervalmonlaw29_RouteGroups.mono : ∀ a0 a1 a2 k, LeO (intervalmonlaw29_RouteGroups.f k a0 a1 a2) (intervalmonlaw29_RouteGroups.f (k + 1) a0 a1 a2) := by
 intro a0 a1 a2 k
 unfold intervalmonlaw29_RouteGroups.f
 repeat' first
   | (with_reducible exact intervalmonlaw29_few.mono _ _ _)
   | (with_reducible exact intervalmonlaw29_lives.mono _)
   | (with_reducible exact intervalmonref29_Alerts.mono _ _)
   | (with_reducible exact intervalmonref29_Groups.mono _ _ _)
   | (with_reducible exact intervalmonref29_SameGroups.mono _ _ _)
   | (with_reducible exact LeO.refl _)
   | (with_reducible exact LeO.none _)
   | (with_reducible refine LeO.ite ?_ ?_)
   | (with_reducible refine LeO.bind ?_ (fun _ => ?_))
   | exact intervalmonlaw29_few.mono _ _ _
   | exact intervalmonlaw29_lives.mono _
   | exact intervalmonref29_Alerts.mono _ _
   | exact intervalmonref29_Groups.mono _ _ _
   | exact intervalmonref29_SameGroups.mono _ _ _
   | exact LeO.none _
   | refine LeO.ite ?_ ?_
   | refine LeO.bind ?_ (fun _ => ?_)
set_option maxHeartbeats 8000000 in
set_option maxRecDepth 100000 in
theorem intervalmonlaw29_RouteGroups.calls (k : Nat) (A0 : Option Addr) (c0 : Nat) (l0 : List Int) (A1 : Option Addr) (c1 : Nat) (l1 : List ByteArray) (a2 : Int) (r : Bool) (w : World) (hr0 : Kd.C (Kd.int .i64) w A0 l0.length l0) (hc0 : l0.length ≤ c0) (hr1 : Kd.C Kd.string w A1 l1.length l1) (hc1 : l1.length ≤ c1) (h : intervalmonlaw29_RouteGroups.f k l0 l1 a2 = some r) (hT : r = true := by first | rfl | assumption) :
  Calls Try.prog 10 #[.slice A0 l0.length c0, .slice A1 l1.length c1, .int .i64 a2] w fun e w' => e = .returned (.bool r) ∧ Below w.heap.size w w' := by
 have HT0 := Aside0.mk hT
 clear hT
 have HR0 := Aside0.mk hr0
 have HC0 := Aside0.mk hc0
 clear hr0 hc0
 have HR1 := Aside0.mk hr1
 have HC1 := Aside0.mk hc1
 clear hr1 hc1
 have HB := Aside0.mk (Below.refl w.heap.size w)
 have H : ((intervalmonref29_Alerts.f k l0).bind fun t320 => ((intervalmonlaw29_few.f k l1 a2).bind fun t323 => ((route_Groups.f t320 t323).bind fun t326 => ((intervalmonref29_Groups.f k t320 t323).bind fun t329 => ((intervalmonref29_SameGroups.f k t326 t329).bind fun t332 => (if t332 = true then ((route_Groups.f t320 ([] : List ByteArray)).bind fun t333 => ((intervalmonref29_Groups.f k t320 ([] : List ByteArray)).bind fun t336 => ((intervalmonref29_SameGroups.f k t333 t336).bind fun t339 => (if t339 = true then ((intervalmonlaw29_lives.f k).bind fun t340 => (some t340)) else (some false))))) else (some false))))))) = some r := h
 clear h
 replace H := Option.bind_eq_some_iff.mp H
 obtain ⟨t320, A40, H⟩ := H
 replace H : ((intervalmonlaw29_few.f k l1 a2).bind fun t323 => ((route_Groups.f t320 t323).bind fun t326 => ((intervalmonref29_Groups.f k t320 t323).bind fun t329 => ((intervalmonref29_SameGroups.f k t326 t329).bind fun t332 => (if t332 = true then ((route_Groups.f t320 ([] : List ByteArray)).bind fun t333 => ((intervalmonref29_Groups.f k t320 ([] : List ByteArray)).bind fun t336 => ((intervalmonref29_SameGroups.f k t333 t336).bind fun t339 => (if t339 = true then ((intervalmonlaw29_lives.f k).bind fun t340 => (some t340)) else (some false))))) else (some false)))))) = some r := H
 have A4 := Aside0.mk A40
 clear A40
 replace H := Option.bind_eq_some_iff.mp H
 obtain ⟨t323, A50, H⟩ := H
 replace H : ((route_Groups.f t320 t323).bind fun t326 => ((intervalmonref29_Groups.f k t320 t323).bind fun t329 => ((intervalmonref29_SameGroups.f k t326 t329).bind fun t332 => (if t332 = true then ((route_Groups.f t320 ([] : List ByteArray)).bind fun t333 => ((intervalmonref29_Groups.f k t320 ([] : List ByteArray)).bind fun t336 => ((intervalmonref29_SameGroups.f k t333 t336).bind fun t339 => (if t339 = true then ((intervalmonlaw29_lives.f k).bind fun t340 => (some t340)) else (some false))))) else (some false))))) = some r := H
 have A5 := Aside0.mk A50
 clear A50
 replace H := Option.bind_eq_some_iff.mp H
 obtain ⟨t326, A60, H⟩ := H
 replace H : ((intervalmonref29_Groups.f k t320 t323).bind fun t329 => ((intervalmonref29_SameGroups.f k t326 t329).bind fun t332 => (if t332 = true then ((route_Groups.f t320 ([] : List ByteArray)).bind fun t333 => ((intervalmonref29_Groups.f k t320 ([] : List ByteArray)).bind fun t336 => ((intervalmonref29_SameGroups.f k t333 t336).bind fun t339 => (if t339 = true then ((intervalmonlaw29_lives.f k).bind fun t340 => (some t340)) else (some false))))) else (some false)))) = some r := H
 have A6 := Aside0.mk A60
 clear A60
 replace H := Option.bind_eq_some_iff.mp H
 obtain ⟨t329, A70, H⟩ := H
 replace H : ((intervalmonref29_SameGroups.f k t326 t329).bind fun t332 => (if t332 = true then ((route_Groups.f t320 ([] : List ByteArray)).bind fun t333 => ((intervalmonref29_Groups.f k t320 ([] : List ByteArray)).bind fun t336 => ((intervalmonref29_SameGroups.f k t333 t336).bind fun t339 => (if t339 = true then ((intervalmonlaw29_lives.f k).bind fun t340 => (some t340)) else (some false))))) else (some false))) = some r := H
 have A7 := Aside0.mk A70
 clear A70
 replace H := Option.bind_eq_some_iff.mp H
 obtain ⟨t332, A80, H⟩ := H
 replace H : (if t332 = true then ((route_Groups.f t320 ([] : List ByteArray)).bind fun t333 => ((intervalmonref29_Groups.f k t320 ([] : List ByteArray)).bind fun t336 => ((intervalmonref29_SameGroups.f k t333 t336).bind fun t339 => (if t339 = true then ((intervalmonlaw29_lives.f k).bind fun t340 => (some t340)) else (some false))))) else (some false)) = some r := H
 have A8 := Aside0.mk A80
 clear A80
 by_cases c9 : t332 = true
 ·subst c9
  have H1 : ((route_Groups.f t320 ([] : List ByteArray)).bind fun t333 => ((intervalmonref29_Groups.f k t320 ([] : List ByteArray)).bind fun t336 => ((intervalmonref29_SameGroups.f k t333 t336).bind fun t339 => (if t339 = true then ((intervalmonlaw29_lives.f k).bind fun t340 => (some t340)) else (some false))))) = some r := by rw [if_pos rfl] at H; exact H
  clear H
  have H := H1
  clear H1
  replace H := Option.bind_eq_some_iff.mp H
  obtain ⟨t333, A100, H⟩ := H
  replace H : ((intervalmonref29_Groups.f k t320 ([] : List ByteArray)).bind fun t336 => ((intervalmonref29_SameGroups.f k t333 t336).bind fun t339 => (if t339 = true then ((intervalmonlaw29_lives.f k).bind fun t340 => (some t340)) else (some false)))) = some r := H
  have A10 := Aside0.mk A100
  clear A100
  replace H := Option.bind_eq_some_iff.mp H
  obtain ⟨t336, A110, H⟩ := H
  replace H : ((intervalmonref29_SameGroups.f k t333 t336).bind fun t339 => (if t339 = true then ((intervalmonlaw29_lives.f k).bind fun t340 => (some t340)) else (some false))) = some r := H
  have A11 := Aside0.mk A110
  clear A110
  replace H := Option.bind_eq_some_iff.mp H
  obtain ⟨t339, A120, H⟩ := H
  replace H : (if t339 = true then ((intervalmonlaw29_lives.f k).bind fun t340 => (some t340)) else (some false)) = some r := H
  have A12 := Aside0.mk A120
  clear A120
  by_cases c13 : t339 = true
  ·subst c13
   have H1 : ((intervalmonlaw29_lives.f k).bind fun t340 => (some t340)) = some r := by rw [if_pos rfl] at H; exact H
   clear H
   have H := H1
   clear H1
   replace H := Option.bind_eq_some_iff.mp H
   obtain ⟨t340, A140, H⟩ := H
   replace H : (some t340) = some r := H
   have A14 := Aside0.mk A140
   clear A140
   obtain rfl := Option.some.inj H
   go_enter Try.func10, Try.ntmps10
   go_wp2_with (first | ((with_reducible refine gate_callee (f := 31) rfl ?_); refine goesL_ (some 10) rfl rfl Try.func31 (by kernel_rfl) rfl #[.slice A0 l0.length c0] rfl aq ?_; (with_reducible refine (intervalmonref29_Alerts.calls k _ _ l0 t320 _ ?side1 ?side2 A4.out).mono ?_); (case side1 => repeat (first | exact HR0.out | (with_reducible refine Kd.C_alloc ?_ _) | (with_reducible refine Kd.C_drewN ?_ _) | (with_reducible refine Kd.C_drew ?_))); (case side2 => exact HC0.out); rintro e w15 ⟨v321, rfl, ho0, hb⟩; refine ⟨_, rfl, ?_⟩; have n0_ := Aside0.mk (Kd.N_lower (Kd.N_mono (ok' := fun k_ => True) (Kd.S_N (Kd.S_bound ho0)) (fun k_ hk_ => trivial)) (below_size (hq HB))); have n1_ := Aside0.mk (below_step (hq HB) hb); clear HB; have HO322 := n0_; have HB := n1_; clear n0_ n1_; (try clear hb); (try clear hb2); (try clear hk); (try clear hi); (try clear ho0)) | ((with_reducible refine gate_callee (f := 32) rfl ?_); refine goesL_ (some 13) rfl rfl Try.func32 (by kernel_rfl) rfl #[.slice A1 l1.length c1, .int .i64 a2] rfl aq ?_; (with_reducible refine (intervalmonlaw29_few.calls k _ _ l1 a2 t323 _ ?side1 ?side2 A5.out).mono ?_); (case side1 => repeat (first | exact (Kd.C_below HR1.out HB.out) | (with_reducible refine Kd.C_alloc ?_ _) | (with_reducible refine Kd.C_drewN ?_ _) | (with_reducible refine Kd.C_drew ?_))); (case side2 => exact HC1.out); rintro e w16 ⟨v324, rfl, ho0, hb⟩; refine ⟨_, rfl, ?_⟩; have n0_ := Aside0.mk (Kd.N_elder' (nq HO322) (Kd.R_base ho0) hb); have n1_ := Aside0.mk (Kd.R_lower ho0 (below_size (hq HB))); have n2_ := Aside0.mk (below_step (hq HB) hb); clear HO322; clear HB; have HO322 := n0_; have HO325 := n1_; have HB := n2_; clear n0_ n1_ n2_; (try clear hb); (try clear hb2); (try clear hk); (try clear hi); (try clear ho0); obtain ⟨Ao17, co17, eo17⟩ := Kd.N_slice HO322.out; subst eo17; obtain ⟨Ao18, co18, eo18⟩ := Kd.R_slice HO325.out; subst eo18) | ((with_reducible refine gate_callee (f := 34) rfl ?_); refine goesL_ (some 16) rfl rfl Try.func34 (by kernel_rfl) rfl #[.slice Ao17 t320.length co17, .slice Ao18 t323.length co18] rfl aq ?_; (with_reducible refine (route_Groups.calls _ _ t320 _ _ t323 t326 _ ?side1 ?side2 ?side3 ?side4 A6.out).mono ?_); (case side1 => repeat (first | (with_reducible exact (Kd.N_reads' HO322.out).2.2) | (with_reducible refine Kd.C_alloc ?_ _) | (with_reducible refine Kd.C_drewN ?_ _) | (with_reducible refine Kd.C_drew ?_) | exact (Kd.N_reads' HO322.out).2.2)); (case side2 => exact (Kd.N_reads' HO322.out).2.1); (case side3 => repeat (first | (with_reducible exact (Kd.R_reads' HO325.out).2.2) | (with_reducible refine Kd.C_alloc ?_ _) | (with_reducible refine Kd.C_drewN ?_ _) | (with_reducible refine Kd.C_drew ?_) | exact (Kd.R_reads' HO325.out).2.2)); (case side4 => exact (Kd.R_reads' HO325.out).2.1); rintro e w19 ⟨v327, rfl, ho0, hb⟩; refine ⟨_, rfl, ?_⟩; have n0_ := Aside0.mk (Kd.N_elder' (nq HO322) (Kd.N_base (Kd.S_N (Kd.S_bound ho0))) hb); have n1_ := Aside0.mk (Kd.R_below (rq HO325) hb); have n2_ := Aside0.mk (Kd.N_lower (Kd.N_mono (ok' := fun k_ => some k_ ≠ (.slice Ao17 t320.length co17 : Value).ownBlock ∧ some k_ ≠ (.slice Ao18 t323.length co18 : Value).ownBlock) (Kd.S_N (Kd.S_bound ho0)) (fun k_ hk_ => ⟨(Kd.fresh' (Kd.N_lt (nq HO322)) k_ hk_.2.1), (Kd.fresh' (Kd.R_lt (rq HO325)) k_ hk_.2.1)⟩)) (below_size (hq HB))); have n3_ := Aside0.mk (below_step (hq HB) hb); clear HO322; clear HO325; clear HB; have HO322 := n0_; have HO325 := n1_; have HO328 := n2_; have HB := n3_; clear n0_ n1_ n2_ n3_; (try clear hb); (try clear hb2); (try clear hk); (try clear hi); (try clear ho0)) | ((with_reducible refine gate_callee (f := 35) rfl ?_); refine goesL_ (some 19) rfl rfl Try.func35 (by kernel_rfl) rfl #[.slice Ao17 t320.length co17, .slice Ao18 t323.length co18] rfl aq ?_; (with_reducible refine (intervalmonref29_Groups.calls k _ _ t320 _ _ t323 t329 _ ?side1 ?side2 ?side3 ?side4 A7.out).mono ?_); (case side1 => repeat (first | (with_reducible exact (Kd.N_reads' HO322.out).2.2) | (with_reducible refine Kd.C_alloc ?_ _) | (with_reducible refine Kd.C_drewN ?_ _) | (with_reducible refine Kd.C_drew ?_) | exact (Kd.N_reads' HO322.out).2.2)); (case side2 => exact (Kd.N_reads' HO322.out).2.1); (case side3 => repeat (first | (with_reducible exact (Kd.R_reads' HO325.out).2.2) | (with_reducible refine Kd.C_alloc ?_ _) | (with_reducible refine Kd.C_drewN ?_ _) | (with_reducible refine Kd.C_drew ?_) | exact (Kd.R_reads' HO325.out).2.2)); (case side4 => exact (Kd.R_reads' HO325.out).2.1); rintro e w20 ⟨v330, rfl, ho0, hb⟩; refine ⟨_, rfl, ?_⟩; have n0_ := Aside0.mk (Kd.N_elder' (nq HO322) (Kd.N_base ho0) hb); have n1_ := Aside0.mk (Kd.R_below (rq HO325) hb); have n2_ := Aside0.mk (Kd.N_elder' (nq HO328) (Kd.N_base ho0) hb); have n3_ := Aside0.mk (Kd.N_lower (Kd.N_mono (ok' := fun k_ => some k_ ≠ (.slice Ao17 t320.length co17 : Value).ownBlock ∧ some k_ ≠ (.slice Ao18 t323.length co18 : Value).ownBlock ∧ some k_ ≠ (v327 : Value).ownBlock) ho0 (fun k_ hk_ => ⟨(Kd.fresh' (Kd.N_lt (nq HO322)) k_ hk_), (Kd.fresh' (Kd.R_lt (rq HO325)) k_ hk_), (Kd.fresh' (Kd.N_lt (nq HO328)) k_ hk_)⟩)) (below_size (hq HB))); have n4_ := Aside0.mk (below_step (hq HB) hb); clear HO322; clear HO325; clear HO328; clear HB; have HO322 := n0_; have HO325 := n1_; have HO328 := n2_; have HO331 := n3_; have HB := n4_; clear n0_ n1_ n2_ n3_ n4_; (try clear hb); (try clear hb2); (try clear hk); (try clear hi); (try clear ho0); obtain ⟨Ao21, co21, eo21⟩ := Kd.N_slice HO328.out; subst eo21; obtain ⟨Ao22, co22, eo22⟩ := Kd.N_slice HO331.out; subst eo22) | ((with_reducible refine gate_callee (f := 33) rfl ?_); refine goesL_ (some 20) rfl rfl Try.func33 (by kernel_rfl) rfl #[.slice Ao21 t326.length co21, .slice Ao22 t329.length co22] rfl aq ?_; (with_reducible refine (intervalmonref29_SameGroups.calls k _ _ t326 _ _ t329 true _ ?side1 ?side2 ?side3 ?side4 A8.out).mono ?_); (case side1 => repeat (first | (with_reducible exact (Kd.N_reads' HO328.out).2.2) | (with_reducible refine Kd.C_alloc ?_ _) | (with_reducible refine Kd.C_drewN ?_ _) | (with_reducible refine Kd.C_drew ?_) | exact (Kd.N_reads' HO328.out).2.2)); (case side2 => exact (Kd.N_reads' HO328.out).2.1); (case side3 => repeat (first | (with_reducible exact (Kd.N_reads' HO331.out).2.2) | (with_reducible refine Kd.C_alloc ?_ _) | (with_reducible refine Kd.C_drewN ?_ _) | (with_reducible refine Kd.C_drew ?_) | exact (Kd.N_reads' HO331.out).2.2)); (case side4 => exact (Kd.N_reads' HO331.out).2.1); rintro e w' ⟨rfl, ⟨nd, rfl⟩⟩; refine ⟨_, rfl, ?_⟩) | (go_at_call 34; (refine (route_Groups.calls _ _ t320 _ _ ([] : List ByteArray) t333 _ ?side1 ?side2 ?side3 ?side4 A10.out).mono ?_); (case side1 => repeat (first | (with_reducible exact (Kd.N_reads' HO322.out).2.2) | (with_reducible refine Kd.C_alloc ?_ _) | (with_reducible refine Kd.C_drewN ?_ _) | (with_reducible refine Kd.C_drew ?_) | exact (Kd.N_reads' HO322.out).2.2)); (case side2 => exact (Kd.N_reads' HO322.out).2.1); (case side3 => exact Kd.C_nil _ _); (case side4 => exact Nat.le_refl _); rintro e w23 ⟨v334, rfl, ho0, hb⟩; have n0_ := Aside0.mk (Kd.N_elder' (nq HO322) (Kd.N_base (Kd.S_N (Kd.S_bound ho0))) hb); have n1_ := Aside0.mk (Kd.R_below (rq HO325) hb); have n2_ := Aside0.mk (Kd.N_elder' (nq HO328) (Kd.N_base (Kd.S_N (Kd.S_bound ho0))) hb); have n3_ := Aside0.mk (Kd.N_elder' (nq HO331) (Kd.N_base (Kd.S_N (Kd.S_bound ho0))) hb); have n4_ := Aside0.mk (Kd.N_lower (Kd.N_mono (ok' := fun k_ => some k_ ≠ (.slice Ao17 t320.length co17 : Value).ownBlock ∧ some k_ ≠ (.slice Ao18 t323.length co18 : Value).ownBlock ∧ some k_ ≠ (.slice Ao21 t326.length co21 : Value).ownBlock ∧ some k_ ≠ (.slice Ao22 t329.length co22 : Value).ownBlock) (Kd.S_N (Kd.S_bound ho0)) (fun k_ hk_ => ⟨(Kd.fresh' (Kd.N_lt (nq HO322)) k_ hk_.2.1), (Kd.fresh' (Kd.R_lt (rq HO325)) k_ hk_.2.1), (Kd.fresh' (Kd.N_lt (nq HO328)) k_ hk_.2.1), (Kd.fresh' (Kd.N_lt (nq HO331)) k_ hk_.2.1)⟩)) (below_size (hq HB))); have n5_ := Aside0.mk (below_step (hq HB) hb); clear HO322; clear HO325; clear HO328; clear HO331; clear HB; have HO322 := n0_; have HO325 := n1_; have HO328 := n2_; have HO331 := n3_; have HO335 := n4_; have HB := n5_; clear n0_ n1_ n2_ n3_ n4_ n5_; (try clear hb); (try clear hb2); (try clear hk); (try clear hi); (try clear ho0)) | (go_at_call 35; (refine (intervalmonref29_Groups.calls k _ _ t320 _ _ ([] : List ByteArray) t336 _ ?side1 ?side2 ?side3 ?side4 A11.out).mono ?_); (case side1 => repeat (first | (with_reducible exact (Kd.N_reads' HO322.out).2.2) | (with_reducible refine Kd.C_alloc ?_ _) | (with_reducible refine Kd.C_drewN ?_ _) | (with_reducible refine Kd.C_drew ?_) | exact (Kd.N_reads' HO322.out).2.2)); (case side2 => exact (Kd.N_reads' HO322.out).2.1); (case side3 => exact Kd.C_nil _ _); (case side4 => exact Nat.le_refl _); rintro e w24 ⟨v337, rfl, ho0, hb⟩; have n0_ := Aside0.mk (Kd.N_elder' (nq HO322) (Kd.N_base ho0) hb); have n1_ := Aside0.mk (Kd.R_below (rq HO325) hb); have n2_ := Aside0.mk (Kd.N_elder' (nq HO328) (Kd.N_base ho0) hb); have n3_ := Aside0.mk (Kd.N_elder' (nq HO331) (Kd.N_base ho0) hb); have n4_ := Aside0.mk (Kd.N_elder' (nq HO335) (Kd.N_base ho0) hb); have n5_ := Aside0.mk (Kd.N_lower (Kd.N_mono (ok' := fun k_ => some k_ ≠ (.slice Ao17 t320.length co17 : Value).ownBlock ∧ some k_ ≠ (.slice Ao18 t323.length co18 : Value).ownBlock ∧ some k_ ≠ (.slice Ao21 t326.length co21 : Value).ownBlock ∧ some k_ ≠ (.slice Ao22 t329.length co22 : Value).ownBlock ∧ some k_ ≠ (v334 : Value).ownBlock) ho0 (fun k_ hk_ => ⟨(Kd.fresh' (Kd.N_lt (nq HO322)) k_ hk_), (Kd.fresh' (Kd.R_lt (rq HO325)) k_ hk_), (Kd.fresh' (Kd.N_lt (nq HO328)) k_ hk_), (Kd.fresh' (Kd.N_lt (nq HO331)) k_ hk_), (Kd.fresh' (Kd.N_lt (nq HO335)) k_ hk_)⟩)) (below_size (hq HB))); have n6_ := Aside0.mk (below_step (hq HB) hb); clear HO322; clear HO325; clear HO328; clear HO331; clear HO335; clear HB; have HO322 := n0_; have HO325 := n1_; have HO328 := n2_; have HO331 := n3_; have HO335 := n4_; have HO338 := n5_; have HB := n6_; clear n0_ n1_ n2_ n3_ n4_ n5_ n6_; (try clear hb); (try clear hb2); (try clear hk); (try clear hi); (try clear ho0); obtain ⟨Ao25, co25, eo25⟩ := Kd.N_slice HO335.out; subst eo25; obtain ⟨Ao26, co26, eo26⟩ := Kd.N_slice HO338.out; subst eo26) | (go_at_call 33; (with_reducible refine (intervalmonref29_SameGroups.calls k _ _ t333 _ _ t336 true _ ?side1 ?side2 ?side3 ?side4 A12.out).mono ?_); (case side1 => repeat (first | (with_reducible exact (Kd.N_reads' HO335.out).2.2) | (with_reducible refine Kd.C_alloc ?_ _) | (with_reducible refine Kd.C_drewN ?_ _) | (with_reducible refine Kd.C_drew ?_) | exact (Kd.N_reads' HO335.out).2.2)); (case side2 => exact (Kd.N_reads' HO335.out).2.1); (case side3 => repeat (first | (with_reducible exact (Kd.N_reads' HO338.out).2.2) | (with_reducible refine Kd.C_alloc ?_ _) | (with_reducible refine Kd.C_drewN ?_ _) | (with_reducible refine Kd.C_drew ?_) | exact (Kd.N_reads' HO338.out).2.2)); (case side4 => exact (Kd.N_reads' HO338.out).2.1); rintro e w' ⟨rfl, ⟨nd, rfl⟩⟩) | (go_at_call 17; (with_reducible refine (intervalmonlaw29_lives.calls k  t340 _ A14.out).mono ?_); rintro e w27 ⟨rfl, hb⟩; have n0_ := Aside0.mk (Kd.N_below (nq HO322) hb); have n1_ := Aside0.mk (Kd.R_below (rq HO325) hb); have n2_ := Aside0.mk (Kd.N_below (nq HO328) hb); have n3_ := Aside0.mk (Kd.N_below (nq HO331) hb); have n4_ := Aside0.mk (Kd.N_below (nq HO335) hb); have n5_ := Aside0.mk (Kd.N_below (nq HO338) hb); have n6_ := Aside0.mk (below_step (hq HB) hb); clear HO322; clear HO325; clear HO328; clear HO331; clear HO335; clear HO338; clear HB; have HO322 := n0_; have HO325 := n1_; have HO328 := n2_; have HO331 := n3_; have HO335 := n4_; have HO338 := n5_; have HB := n6_; clear n0_ n1_ n2_ n3_ n4_ n5_ n6_; (try clear hb); (try clear hb2); (try clear hk); (try clear hi)))
   go_ret
   exact ⟨by first | rfl | (simp [errW_none, errW_some] <;> rfl) | (simp [*, errW_none, errW_some] <;> rfl), by repeat (first | (with_reducible first | exact HB.out | apply below_alloc | apply pw_below_drewN | apply below_drew1) | exact HB.out)⟩
  ·replace c13 := Bool.eq_false_iff.mpr c13
   subst c13
   have H1 : (some false) = some r := by rw [if_neg (show ¬ (false = true) by decide)] at H; exact H
   clear H
   have H := H1
   clear H1
   exact absurd ((Option.some.inj H).trans HT0.out) (by decide)
 ·replace c9 := Bool.eq_false_iff.mpr c9
  subst c9
  have H1 : (some false) = some r := by rw [if_neg (show ¬ (false = true) by decide)] at H; exact H
  clear H
  have H := H1
  clear H1
  exact absurd ((Option.some.inj H).trans HT0.out) (by decide)

/-! ### intervalmonlaw29_owners: function 36 -/
mutual
def intervalmonlaw29_owners.l0 : Nat → List (S73) → List (List Int) → List Int → Int → Int → Option (List Int)
 | 0, _, _, _, _, _ => none
 | k + 1, x0, x1, x5, x6, x7 => if x7 < (x1.length : Int) then (if 0 ≤ x7 then (if ((rd_L4 x1 x7).length : Int) = 0 then (some ([] : List Int)) else (intervalmonlaw29_owners.l1 k x0 x1 x5 x6 x7 0)) else (none)) else (if x6 = (x0.length : Int) then (some x5) else (some ([] : List Int)))
def intervalmonlaw29_owners.l1 : Nat → List (S73) → List (List Int) → List Int → Int → Int → Int → Option (List Int)
 | 0, _, _, _, _, _, _ => none
 | k + 1, x0, x1, x5, x6, x7, x8 => if 0 ≤ x7 then (if x7 < (x1.length : Int) then (if x8 < ((rd_L4 x1 x7).length : Int) then (if 0 ≤ x8 then (if (rd (rd_L4 x1 x7) x8) < 0 then (some ([] : List Int)) else (if (rd (rd_L4 x1 x7) x8) ≥ (x0.length : Int) then (some ([] : List Int)) else (if x8 > 0 then (if 0 ≤ (wrap64 (x8 - 1)) then (if (wrap64 (x8 - 1)) < ((rd_L4 x1 x7).length : Int) then (if (rd (rd_L4 x1 x7) (wrap64 (x8 - 1))) ≥ (rd (rd_L4 x1 x7) x8) then (some ([] : List Int)) else (if 0 ≤ (rd (rd_L4 x1 x7) x8) then (if (rd (rd_L4 x1 x7) x8) < (x5.length : Int) then (if (rd x5 (rd (rd_L4 x1 x7) x8)) = 0 then (intervalmonlaw29_owners.l1 k x0 x1 (x5.set ((rd (rd_L4 x1 x7) x8) : Int).toNat (wrap64 (x7 + 1))) (wrap64 (x6 + 1)) x7 (wrap64 (x8 + 1))) else (some ([] : List Int))) else (none)) else (none))) else (none)) else (none)) else (if 0 ≤ (rd (rd_L4 x1 x7) x8) then (if (rd (rd_L4 x1 x7) x8) < (x5.length : Int) then (if (rd x5 (rd (rd_L4 x1 x7) x8)) = 0 then (intervalmonlaw29_owners.l1 k x0 x1 (x5.set ((rd (rd_L4 x1 x7) x8) : Int).toNat (wrap64 (x7 + 1))) (wrap64 (x6 + 1)) x7 (wrap64 (x8 + 1))) else (some ([] : List Int))) else (none)) else (none))))) else (none)) else (intervalmonlaw29_owners.l0 k x0 x1 x5 x6 (wrap64 (x7 + 1)))) else (none)) else (none)
end
def intervalmonlaw29_owners.f (k : Nat) (l0 : List (S73)) (l1 : List (List Int)) : Option (List Int) := if 0 ≤ (l0.length : Int) then (if ((l0.length : Int) : Int).toNat ≤ 35184372088832 then (intervalmonlaw29_owners.l0 k l0 l1 (List.replicate ((l0.length : Int) : Int).toNat 0) 0 0) else (none)) else (none)
theorem intervalmonlaw29_owners.mono_l : ∀ k, (∀ y0 y1 y2 y3 y4, LeO (intervalmonlaw29_owners.l0 k y0 y1 y2 y3 y4) (intervalmonlaw29_owners.l0 (k + 1) y0 y1 y2 y3 y4)) ∧ (∀ y0 y1 y2 y3 y4 y5, LeO (intervalmonlaw29_owners.l1 k y0 y1 y2 y3 y4 y5) (intervalmonlaw29_owners.l1 (k + 1) y0 y1 y2 y3 y4 y5))
 | 0 => ⟨fun _ _ _ _ _ r h => by simp [intervalmonlaw29_owners.l0] at h, fun _ _ _ _ _ _ r h => by simp [intervalmonlaw29_owners.l1] at h⟩
 | k + 1 => by
  obtain ⟨ih0, ih1⟩ := intervalmonlaw29_owners.mono_l k
  refine ⟨?_, ?_⟩
  ·intro y0 y1 y2 y3 y4
   unfold intervalmonlaw29_owners.l0
   repeat' first
   | (with_reducible exact ih0 _ _ _ _ _)
   | (with_reducible exact ih1 _ _ _ _ _ _)
   | (with_reducible exact LeO.refl _)
   | (with_reducible exact LeO.none _)
   | (with_reducible refine LeO.ite ?_ ?_)
   | (with_reducible refine LeO.bind ?_ (fun _ => ?_))
   | exact ih0 _ _ _ _ _
   | exact ih1 _ _ _ _ _ _
   | exact LeO.none _
   | refine LeO.ite ?_ ?_
   | refine LeO.bind ?_ (fun _ => ?_)
  ·intro y0 y1 y2 y3 y4 y5
   unfold intervalmonlaw29_owners.l1
   repeat' first
   | (with_reducible exact ih0 _ _ _ _ _)
   | (with_reducible exact ih1 _ _ _ _ _ _)
   | (with_reducible exact LeO.refl _)
   | (with_reducible exact LeO.none _)
   | (with_reducible refine LeO.ite ?_ ?_)
   | (with_reducible refine LeO.bind ?_ (fun _ => ?_))
   | exact ih0 _ _ _ _ _
   | exact ih1 _ _ _ _ _ _
   | exact LeO.none _
   | refine LeO.ite ?_ ?_
   | refine LeO.bind ?_ (fun _ => ?_)
theorem intervalmonlaw29_owners.mono : ∀ a0 a1 k, LeO (intervalmonlaw29_owners.f k a0 a1) (intervalmonlaw29_owners.f (k + 1) a0 a1) := by
 intro a0 a1 k
 obtain ⟨ih0, ih1⟩ := intervalmonlaw29_owners.mono_l k
 unfold intervalmonlaw29_owners.f
 repeat' first
   | (with_reducible exact ih0 _ _ _ _ _)
   | (with_reducible exact ih1 _ _ _ _ _ _)
   | (with_reducible exact LeO.refl _)
   | (with_reducible exact LeO.none _)
   | (with_reducible refine LeO.ite ?_ ?_)
   | (with_reducible refine LeO.bind ?_ (fun _ => ?_))
   | exact ih0 _ _ _ _ _
   | exact ih1 _ _ _ _ _ _
   | exact LeO.none _
   | refine LeO.ite ?_ ?_
   | refine LeO.bind ?_ (fun _ => ?_)
set_option maxHeartbeats 8000000 in
set_option maxRecDepth 100000 in
theorem intervalmonlaw29_owners.calls (k : Nat) (A0 : Option Addr) (c0 : Nat) (l0 : List (S73)) (A1 : Option Addr) (c1 : Nat) (l1 : List (List Int)) (r : List Int) (w : World) (hr0 : Kd.C k73 w A0 l0.length l0) (hc0 : l0.length ≤ c0) (hr1 : Kd.C (Kd.slice 3 (Kd.int .i64)) w A1 l1.length l1) (hc1 : l1.length ≤ c1) (h : intervalmonlaw29_owners.f k l0 l1 = some r) :
  Calls Try.prog 36 #[.slice A0 l0.length c0, .slice A1 l1.length c1] w fun e w' => ∃ v0_ : Value, e = .returned (v0_) ∧ Kd.R (Kd.int .i64) 3 w' w.heap.size (fun _ => True) v0_ r ∧ Below w.heap.size w w' := by
 have HR0 := Aside0.mk hr0
 have HC0 := Aside0.mk hc0
 clear hr0 hc0
 have HR1 := Aside0.mk hr1
 have HC1 := Aside0.mk hc1
 clear hr1 hc1
 have HB := Aside0.mk (Below.refl w.heap.size w)
 have H : (if 0 ≤ (l0.length : Int) then (if ((l0.length : Int) : Int).toNat ≤ 35184372088832 then (intervalmonlaw29_owners.l0 k l0 l1 (List.replicate ((l0.length : Int) : Int).toNat 0) 0 0) else (none)) else (none)) = some r := h
 clear h
 by_cases c3 : 0 ≤ (l0.length : Int)
 ·rw [if_pos c3] at H
  have c3b0 := eq_true c3
  have c3b1 : decide (0 ≤ (l0.length : Int)) = true := decide_eq_true c3
  clear c3
  by_cases c4 : ((l0.length : Int) : Int).toNat ≤ 35184372088832
  ·rw [if_pos c4] at H
   have c4b0 := eq_true c4
   have c4b1 : decide (((l0.length : Int) : Int).toNat ≤ 35184372088832) = true := decide_eq_true c4
   clear c4
   obtain ⟨y341, hy341⟩ : ∃ y_ : List Int, y_ = (List.replicate ((l0.length : Int) : Int).toNat 0) := ⟨_, rfl⟩
   replace H : (intervalmonlaw29_owners.l0 k l0 l1 y341 0 0) = some r := by first | (rw [hy341]; with_reducible exact H) | (have H2_ := (Option.bind_some _ _).symm.trans H; rw [hy341]; with_reducible exact H2_) | (have H2_ := (Option.bind_some _ _).symm.trans H; with_reducible exact H2_) | with_reducible exact H | (rw [hy341]; exact H) | exact H
   have Ny341 := Aside0.mk hy341
   clear hy341
   have H' := Aside0.mk H
   clear H
   go_enter Try.func36, Try.ntmps36
   go_wp2_with (first | ((with_reducible refine gate_dst (N := 12) rfl ?_); (try (refine gate_guard (by rfl) ?_; dsimp only)); refine Kd.R_make (Kd.int .i64) _ 3 rfl (N := 12) rfl 22 _ _ rfl (l0.length : Int) rfl rfl Try.underlying22 (.int .i64 0) 8 info3 rfl (by decide) (by omega) 0 (ok := fun _ => True) (okp := fun _ => True) rfl (fun _ hk => hk) trivial (of_decide_eq_true (by first | (with_reducible assumption) | assumption)) (Nat.le_trans (Nat.mul_le_mul_right _ (of_decide_eq_true (by first | (with_reducible assumption) | assumption) : (l0.length : Int).toNat ≤ 35184372088832)) (by omega)) (Below.refl _ _) (Nat.le_refl _) ?_; intro v342 w5 ho6 hb hg_ hnew_; clear hg_ hnew_; (first | rw [← Ny341.out] at ho6 | (simp only [Int.reduceToNat] at ho6; rw [← Ny341.out] at ho6)); have n0_ := Aside0.mk (Kd.R_lower ho6 (below_size (hq HB))); have n1_ := Aside0.mk (below_step (hq HB) hb); clear HB; have HO343 := n0_; have HB := n1_; clear n0_ n1_; clear hb ho6))
   go_loopg [6, 7] k (fun kq v6 v7 w' => ∃ (x5_1 : List Int) (x6_1 : Int) (x7_1 : Int), v6 = .int .i64 x6_1 ∧ v7 = .int .i64 x7_1 ∧ Aside0 (intervalmonlaw29_owners.l0 kq l0 l1 x5_1 x6_1 x7_1 = some r) ∧ Aside0 (kq ≤ k) ∧ Aside0 (Kd.R (Kd.int .i64) 3 w' w.heap.size (fun _ => True) v342 x5_1) ∧ Aside0 (Below w.heap.size w w'))
   case atStart => exact ⟨(y341), (0), (0), (by first | rfl | (simp; done) | (simp [*]; done)), (by first | rfl | (simp; done) | (simp [*]; done)), H', ⟨Nat.le_refl _⟩, ⟨by (with_reducible repeat (first | apply Kd.R_alloc | apply Kd.R_drewN | apply Kd.R_drew)); exact HO343.out⟩, ⟨by repeat (first | (with_reducible first | exact HB.out | apply below_alloc | apply pw_below_drewN | apply below_drew1) | exact HB.out)⟩⟩
   case round =>
    clear H'
    try clear c1
    try clear p2
    try clear c3
    try clear c3b0
    try clear c3b1
    try clear c4
    try clear c4b0
    try clear c4b1
    obtain ⟨x5_1, x6_1, x7_1, rfl, rfl, HA, HK1, HO_5, HB⟩ := hrel
    cases gk with
    | zero => exact absurd HA.out (by simp [intervalmonlaw29_owners.l0])
    | succ k1 =>
     have H := HA.out
     clear HA
     simp only [intervalmonlaw29_owners.l0] at H
     by_cases c7 : x7_1 < (l1.length : Int)
     ·rw [if_pos c7] at H
      have c7b0 : decide (x7_1 < (l1.length : Int)) = true := decide_eq_true c7
      clear c7
      by_cases c8 : 0 ≤ x7_1
      ·rw [if_pos c8] at H
       have c8b0 : decide (0 ≤ x7_1) = true := decide_eq_true c8
       clear c8
       by_cases c9 : ((rd_L4 l1 x7_1).length : Int) = 0
       ·rw [if_pos c9] at H
        have c9b0 : (((rd_L4 l1 x7_1).length : Int) == 0) = true := beq_iff_eq.mpr c9
        have c9b1 : (((rd_L4 l1 x7_1).length : Int) != 0) = false := bne_eq_false_iff_eq.mpr c9
        clear c9
        obtain rfl := Option.some.inj H
        have p344 : 0 ≤ (x7_1 : Int) := of_decide_eq_true (by first | (with_reducible assumption) | assumption)
        have q344 : x7_1 < (l1.length : Int) := of_decide_eq_true (by first | (with_reducible assumption) | assumption)
        obtain ⟨ad344, A344_0, c344_0, e344, hx344_0, hl344_0, hi344_0⟩ := at_L4 HR1.out x7_1 p344 q344
        cases e344
        (try replace hx344_0 := (HB.out.cell (World.block_lt_of_cell? w _ hx344_0)).trans hx344_0)
        have HR344_0 := Aside0.mk hi344_0
        have HC344_0 := Aside0.mk hl344_0
        clear hi344_0 hl344_0
        replace p344 := eq_true p344
        replace q344 := eq_true q344
        go_wp2
        go_ret
        exact ⟨_, by first | rfl | (simp [errW_none, errW_some] <;> rfl) | (simp [*, errW_none, errW_some] <;> rfl), by first | exact Kd.R_nil _ _ _ _ _ | exact Kd.N_nil _ _ _ _ _ | exact Kd.V_nil _ _ _ _ _ | exact Kd.Q_nil _ _ _ _ _ | exact Kd.S_nil _ _ _ _ _, by repeat (first | (with_reducible first | exact HB.out | apply below_alloc | apply pw_below_drewN | apply below_drew1) | exact HB.out)⟩
       ·rw [if_neg c9] at H
        have c9b0 : (((rd_L4 l1 x7_1).length : Int) == 0) = false := beq_eq_false_iff_ne.mpr c9
        have c9b1 : (((rd_L4 l1 x7_1).length : Int) != 0) = true := bne_iff_ne.mpr c9
        have c9b2 : ¬ ((rd_L4 l1 x7_1) = []) := fun h_ => c9 (by rw [h_]; rfl)
        have H' := Aside0.mk H
        clear H
        have p344 : 0 ≤ (x7_1 : Int) := of_decide_eq_true (by first | (with_reducible assumption) | assumption)
        have q344 : x7_1 < (l1.length : Int) := of_decide_eq_true (by first | (with_reducible assumption) | assumption)
        obtain ⟨ad344, A344_0, c344_0, e344, hx344_0, hl344_0, hi344_0⟩ := at_L4 HR1.out x7_1 p344 q344
        cases e344
        (try replace hx344_0 := (HB.out.cell (World.block_lt_of_cell? w _ hx344_0)).trans hx344_0)
        have HR344_0 := Aside0.mk hi344_0
        have HC344_0 := Aside0.mk hl344_0
        clear hi344_0 hl344_0
        replace p344 := eq_true p344
        replace q344 := eq_true q344
        go_wp2
        go_loopg [6, 8] k1 (fun kq v6 v8 w' => ∃ (x5_2 : List Int) (x6_2 : Int) (x8_2 : Int), v6 = .int .i64 x6_2 ∧ v8 = .int .i64 x8_2 ∧ Aside0 (intervalmonlaw29_owners.l1 kq l0 l1 x5_2 x6_2 x7_1 x8_2 = some r) ∧ Aside0 (kq ≤ k1) ∧ Aside0 (Kd.R (Kd.int .i64) 3 w' w.heap.size (fun _ => True) v342 x5_2) ∧ Aside0 (Below w.heap.size w w'))
        case atStart => exact ⟨(x5_1), (x6_1), (0), (by first | rfl | (simp; done) | (simp [*]; done)), (by first | rfl | (simp; done) | (simp [*]; done)), H', ⟨Nat.le_refl _⟩, ⟨by (with_reducible repeat (first | apply Kd.R_alloc | apply Kd.R_drewN | apply Kd.R_drew)); exact HO_5.out⟩, ⟨by repeat (first | (with_reducible first | exact HB.out | apply below_alloc | apply pw_below_drewN | apply below_drew1) | exact HB.out)⟩⟩
        case round =>
         clear H'
         try clear c1
         try clear p2
         try clear c3
         try clear c3b0
         try clear c3b1
         try clear p3
         try clear q3
         try clear hx3
         try clear c4
         try clear c4b0
         try clear c4b1
         try clear c7
         try clear c7b0
         try clear c8
         try clear c8b0
         try clear c9
         try clear c9b0
         try clear c9b1
         try clear c9b2
         try clear hx344_0
         try clear p2
         try clear p344
         try clear q344
         obtain ⟨x5_2, x6_2, x8_2, rfl, rfl, HA, HK2, HO_5, HB⟩ := hrel
         cases gk with
         | zero => exact absurd HA.out (by simp [intervalmonlaw29_owners.l1])
         | succ k2 =>
          have H := HA.out
          clear HA
          simp only [intervalmonlaw29_owners.l1] at H
          by_cases c10 : 0 ≤ x7_1
          ·rw [if_pos c10] at H
           have c10b0 : decide (0 ≤ x7_1) = true := decide_eq_true c10
           clear c10
           by_cases c11 : x7_1 < (l1.length : Int)
           ·rw [if_pos c11] at H
            have c11b0 : decide (x7_1 < (l1.length : Int)) = true := decide_eq_true c11
            clear c11
            by_cases c12 : x8_2 < ((rd_L4 l1 x7_1).length : Int)
            ·rw [if_pos c12] at H
             have c12b0 : decide (x8_2 < ((rd_L4 l1 x7_1).length : Int)) = true := decide_eq_true c12
             clear c12
             by_cases c13 : 0 ≤ x8_2
             ·rw [if_pos c13] at H
              have c13b0 : decide (0 ≤ x8_2) = true := decide_eq_true c13
              clear c13
              by_cases c14 : (rd (rd_L4 l1 x7_1) x8_2) < 0
              ·rw [if_pos c14] at H
               have c14b0 : decide ((rd (rd_L4 l1 x7_1) x8_2) < 0) = true := decide_eq_true c14
               clear c14
               obtain rfl := Option.some.inj H
               have p345 : 0 ≤ (x7_1 : Int) := of_decide_eq_true (by first | (with_reducible assumption) | assumption)
               have q345 : x7_1 < (l1.length : Int) := of_decide_eq_true (by first | (with_reducible assumption) | assumption)
               obtain ⟨ad345, A345_0, c345_0, e345, hx345_0, hl345_0, hi345_0⟩ := at_L4 HR1.out x7_1 p345 q345
               obtain rfl : ad344 = ad345 := (by injection e345)
               (try replace hx345_0 := (HB.out.cell (World.block_lt_of_cell? w _ hx345_0)).trans hx345_0)
               have HR345_0 := Aside0.mk hi345_0
               have HC345_0 := Aside0.mk hl345_0
               clear hi345_0 hl345_0
               replace p345 := eq_true p345
               replace q345 := eq_true q345
               have p346 : 0 ≤ (x7_1 : Int) := of_decide_eq_true (by first | (with_reducible assumption) | assumption)
               have q346 : x7_1 < (l1.length : Int) := of_decide_eq_true (by first | (with_reducible assumption) | assumption)
               obtain ⟨ad346, A346_0, c346_0, e346, hx346_0, hl346_0, hi346_0⟩ := at_L4 HR1.out x7_1 p346 q346
               obtain rfl : ad344 = ad346 := (by injection e346)
               (try replace hx346_0 := (HB.out.cell (World.block_lt_of_cell? w _ hx346_0)).trans hx346_0)
               have HR346_0 := Aside0.mk hi346_0
               have HC346_0 := Aside0.mk hl346_0
               clear hi346_0 hl346_0
               replace p346 := eq_true p346
               replace q346 := eq_true q346
               have ea_ := Option.some.inj (hx345_0.symm.trans hx346_0)
               injection ea_ with ea_ en_ ec_
               subst ea_
               subst ec_
               clear en_
               have p347 : 0 ≤ (x8_2 : Int) := of_decide_eq_true (by first | (with_reducible assumption) | assumption)
               have q347 : x8_2 < ((rd_L4 l1 x7_1).length : Int) := of_decide_eq_true (by first | (with_reducible assumption) | assumption)
               obtain ⟨ad347, e347, hx347_0⟩ := Kd.at_int HR346_0.out x8_2 p347 q347
               cases e347
               (try replace hx347_0 := (HB.out.cell (World.block_lt_of_cell? w _ hx347_0)).trans hx347_0)
               replace p347 := eq_true p347
               replace q347 := eq_true q347
               go_wp2
               go_ret
               exact ⟨_, by first | rfl | (simp [errW_none, errW_some] <;> rfl) | (simp [*, errW_none, errW_some] <;> rfl), by first | exact Kd.R_nil _ _ _ _ _ | exact Kd.N_nil _ _ _ _ _ | exact Kd.V_nil _ _ _ _ _ | exact Kd.Q_nil _ _ _ _ _ | exact Kd.S_nil _ _ _ _ _, by repeat (first | (with_reducible first | exact HB.out | apply below_alloc | apply pw_below_drewN | apply below_drew1) | exact HB.out)⟩
              ·rw [if_neg c14] at H
               have c14b0 : decide ((rd (rd_L4 l1 x7_1) x8_2) < 0) = false := decide_eq_false c14
               clear c14
               by_cases c15 : (rd (rd_L4 l1 x7_1) x8_2) ≥ (l0.length : Int)
               ·rw [if_pos c15] at H
                have c15b0 : decide ((l0.length : Int) ≤ (rd (rd_L4 l1 x7_1) x8_2)) = true := decide_eq_true c15
                clear c15
                obtain rfl := Option.some.inj H
                have p345 : 0 ≤ (x7_1 : Int) := of_decide_eq_true (by first | (with_reducible assumption) | assumption)
                have q345 : x7_1 < (l1.length : Int) := of_decide_eq_true (by first | (with_reducible assumption) | assumption)
                obtain ⟨ad345, A345_0, c345_0, e345, hx345_0, hl345_0, hi345_0⟩ := at_L4 HR1.out x7_1 p345 q345
                obtain rfl : ad344 = ad345 := (by injection e345)
                (try replace hx345_0 := (HB.out.cell (World.block_lt_of_cell? w _ hx345_0)).trans hx345_0)
                have HR345_0 := Aside0.mk hi345_0
                have HC345_0 := Aside0.mk hl345_0
                clear hi345_0 hl345_0
                replace p345 := eq_true p345
                replace q345 := eq_true q345
                have p346 : 0 ≤ (x7_1 : Int) := of_decide_eq_true (by first | (with_reducible assumption) | assumption)
                have q346 : x7_1 < (l1.length : Int) := of_decide_eq_true (by first | (with_reducible assumption) | assumption)
                obtain ⟨ad346, A346_0, c346_0, e346, hx346_0, hl346_0, hi346_0⟩ := at_L4 HR1.out x7_1 p346 q346
                obtain rfl : ad344 = ad346 := (by injection e346)
                (try replace hx346_0 := (HB.out.cell (World.block_lt_of_cell? w _ hx346_0)).trans hx346_0)
                have HR346_0 := Aside0.mk hi346_0
                have HC346_0 := Aside0.mk hl346_0
                clear hi346_0 hl346_0
                replace p346 := eq_true p346
                replace q346 := eq_true q346
                have ea_ := Option.some.inj (hx345_0.symm.trans hx346_0)
                injection ea_ with ea_ en_ ec_
                subst ea_
                subst ec_
                clear en_
                have p347 : 0 ≤ (x8_2 : Int) := of_decide_eq_true (by first | (with_reducible assumption) | assumption)
                have q347 : x8_2 < ((rd_L4 l1 x7_1).length : Int) := of_decide_eq_true (by first | (with_reducible assumption) | assumption)
                obtain ⟨ad347, e347, hx347_0⟩ := Kd.at_int HR346_0.out x8_2 p347 q347
                cases e347
                (try replace hx347_0 := (HB.out.cell (World.block_lt_of_cell? w _ hx347_0)).trans hx347_0)
                replace p347 := eq_true p347
                replace q347 := eq_true q347
                go_wp2
                go_ret
                exact ⟨_, by first | rfl | (simp [errW_none, errW_some] <;> rfl) | (simp [*, errW_none, errW_some] <;> rfl), by first | exact Kd.R_nil _ _ _ _ _ | exact Kd.N_nil _ _ _ _ _ | exact Kd.V_nil _ _ _ _ _ | exact Kd.Q_nil _ _ _ _ _ | exact Kd.S_nil _ _ _ _ _, by repeat (first | (with_reducible first | exact HB.out | apply below_alloc | apply pw_below_drewN | apply below_drew1) | exact HB.out)⟩
               ·rw [if_neg c15] at H
                have c15b0 : decide ((l0.length : Int) ≤ (rd (rd_L4 l1 x7_1) x8_2)) = false := decide_eq_false c15
                clear c15
                by_cases c16 : x8_2 > 0
                ·rw [if_pos c16] at H
                 have c16b0 : decide (0 < x8_2) = true := decide_eq_true c16
                 clear c16
                 obtain ⟨ji17, hji17⟩ : ∃ j_ : Int, (wrap64 (x8_2 - 1)) = j_ := ⟨_, rfl⟩
                 replace H : (if 0 ≤ (ji17) then (if (ji17) < ((rd_L4 l1 x7_1).length : Int) then (if (rd (rd_L4 l1 x7_1) (ji17)) ≥ (rd (rd_L4 l1 x7_1) x8_2) then (some ([] : List Int)) else (if 0 ≤ (rd (rd_L4 l1 x7_1) x8_2) then (if (rd (rd_L4 l1 x7_1) x8_2) < (x5_2.length : Int) then (if (rd x5_2 (rd (rd_L4 l1 x7_1) x8_2)) = 0 then (intervalmonlaw29_owners.l1 k2 l0 l1 (x5_2.set ((rd (rd_L4 l1 x7_1) x8_2) : Int).toNat (wrap64 (x7_1 + 1))) (wrap64 (x6_2 + 1)) x7_1 (wrap64 (x8_2 + 1))) else (some ([] : List Int))) else (none)) else (none))) else (none)) else (none)) = some r := by first | (rw [hji17] at H; exact H) | (simp only [hji17] at H ⊢; exact H)
                 have hji17w : (IntKind.i64.wrap (x8_2 - 1)) = ji17 := (i64_w _).trans hji17
                 by_cases c18 : 0 ≤ (ji17)
                 ·rw [if_pos c18] at H
                  have c18b0 : decide (0 ≤ (ji17)) = true := decide_eq_true c18
                  clear c18
                  by_cases c19 : (ji17) < ((rd_L4 l1 x7_1).length : Int)
                  ·rw [if_pos c19] at H
                   have c19b0 : decide ((ji17) < ((rd_L4 l1 x7_1).length : Int)) = true := decide_eq_true c19
                   clear c19
                   by_cases c20 : (rd (rd_L4 l1 x7_1) (ji17)) ≥ (rd (rd_L4 l1 x7_1) x8_2)
                   ·rw [if_pos c20] at H
                    have c20b0 : decide ((rd (rd_L4 l1 x7_1) x8_2) ≤ (rd (rd_L4 l1 x7_1) (ji17))) = true := decide_eq_true c20
                    clear c20
                    obtain rfl := Option.some.inj H
                    have p345 : 0 ≤ (x7_1 : Int) := of_decide_eq_true (by first | (with_reducible assumption) | assumption)
                    have q345 : x7_1 < (l1.length : Int) := of_decide_eq_true (by first | (with_reducible assumption) | assumption)
                    obtain ⟨ad345, A345_0, c345_0, e345, hx345_0, hl345_0, hi345_0⟩ := at_L4 HR1.out x7_1 p345 q345
                    obtain rfl : ad344 = ad345 := (by injection e345)
                    (try replace hx345_0 := (HB.out.cell (World.block_lt_of_cell? w _ hx345_0)).trans hx345_0)
                    have HR345_0 := Aside0.mk hi345_0
                    have HC345_0 := Aside0.mk hl345_0
                    clear hi345_0 hl345_0
                    replace p345 := eq_true p345
                    replace q345 := eq_true q345
                    have p346 : 0 ≤ (x7_1 : Int) := of_decide_eq_true (by first | (with_reducible assumption) | assumption)
                    have q346 : x7_1 < (l1.length : Int) := of_decide_eq_true (by first | (with_reducible assumption) | assumption)
                    obtain ⟨ad346, A346_0, c346_0, e346, hx346_0, hl346_0, hi346_0⟩ := at_L4 HR1.out x7_1 p346 q346
                    obtain rfl : ad344 = ad346 := (by injection e346)
                    (try replace hx346_0 := (HB.out.cell (World.block_lt_of_cell? w _ hx346_0)).trans hx346_0)
                    have HR346_0 := Aside0.mk hi346_0
                    have HC346_0 := Aside0.mk hl346_0
                    clear hi346_0 hl346_0
                    replace p346 := eq_true p346
                    replace q346 := eq_true q346
                    have ea_ := Option.some.inj (hx345_0.symm.trans hx346_0)
                    injection ea_ with ea_ en_ ec_
                    subst ea_
                    subst ec_
                    clear en_
                    have p347 : 0 ≤ (x8_2 : Int) := of_decide_eq_true (by first | (with_reducible assumption) | assumption)
                    have q347 : x8_2 < ((rd_L4 l1 x7_1).length : Int) := of_decide_eq_true (by first | (with_reducible assumption) | assumption)
                    obtain ⟨ad347, e347, hx347_0⟩ := Kd.at_int HR346_0.out x8_2 p347 q347
                    cases e347
                    (try replace hx347_0 := (HB.out.cell (World.block_lt_of_cell? w _ hx347_0)).trans hx347_0)
                    replace p347 := eq_true p347
                    replace q347 := eq_true q347
                    have p348 : 0 ≤ (x7_1 : Int) := of_decide_eq_true (by first | (with_reducible assumption) | assumption)
                    have q348 : x7_1 < (l1.length : Int) := of_decide_eq_true (by first | (with_reducible assumption) | assumption)
                    obtain ⟨ad348, A348_0, c348_0, e348, hx348_0, hl348_0, hi348_0⟩ := at_L4 HR1.out x7_1 p348 q348
                    obtain rfl : ad344 = ad348 := (by injection e348)
                    (try replace hx348_0 := (HB.out.cell (World.block_lt_of_cell? w _ hx348_0)).trans hx348_0)
                    have HR348_0 := Aside0.mk hi348_0
                    have HC348_0 := Aside0.mk hl348_0
                    clear hi348_0 hl348_0
                    replace p348 := eq_true p348
                    replace q348 := eq_true q348
                    have ea_ := Option.some.inj (hx345_0.symm.trans hx348_0)
                    injection ea_ with ea_ en_ ec_
                    subst ea_
                    subst ec_
                    clear en_
                    have p349 : 0 ≤ ((ji17) : Int) := of_decide_eq_true (by first | (with_reducible assumption) | assumption)
                    have q349 : (ji17) < ((rd_L4 l1 x7_1).length : Int) := of_decide_eq_true (by first | (with_reducible assumption) | assumption)
                    obtain ⟨ad349, e349, hx349_0⟩ := Kd.at_int HR348_0.out (ji17) p349 q349
                    cases e349
                    (try replace hx349_0 := (HB.out.cell (World.block_lt_of_cell? w _ hx349_0)).trans hx349_0)
                    replace p349 := eq_true p349
                    replace q349 := eq_true q349
                    go_wp2
                    go_ret
                    exact ⟨_, by first | rfl | (simp [errW_none, errW_some] <;> rfl) | (simp only [← hji17]; first | rfl | (simp [errW_none, errW_some] <;> rfl)) | (simp [*, errW_none, errW_some] <;> rfl), by first | exact Kd.R_nil _ _ _ _ _ | exact Kd.N_nil _ _ _ _ _ | exact Kd.V_nil _ _ _ _ _ | exact Kd.Q_nil _ _ _ _ _ | exact Kd.S_nil _ _ _ _ _, by repeat (first | (with_reducible first | exact HB.out | apply below_alloc | apply pw_below_drewN | apply below_drew1) | exact HB.out)⟩
                   ·rw [if_neg c20] at H
                    have c20b0 : decide ((rd (rd_L4 l1 x7_1) x8_2) ≤ (rd (rd_L4 l1 x7_1) (ji17))) = false := decide_eq_false c20
                    clear c20
                    by_cases c21 : 0 ≤ (rd (rd_L4 l1 x7_1) x8_2)
                    ·rw [if_pos c21] at H
                     have c21b0 : decide (0 ≤ (rd (rd_L4 l1 x7_1) x8_2)) = true := decide_eq_true c21
                     clear c21
                     by_cases c22 : (rd (rd_L4 l1 x7_1) x8_2) < (x5_2.length : Int)
                     ·rw [if_pos c22] at H
                      have c22b0 : decide ((rd (rd_L4 l1 x7_1) x8_2) < (x5_2.length : Int)) = true := decide_eq_true c22
                      clear c22
                      by_cases c23 : (rd x5_2 (rd (rd_L4 l1 x7_1) x8_2)) = 0
                      ·rw [if_pos c23] at H
                       have c23b0 : ((rd x5_2 (rd (rd_L4 l1 x7_1) x8_2)) == 0) = true := beq_iff_eq.mpr c23
                       have c23b1 : ((rd x5_2 (rd (rd_L4 l1 x7_1) x8_2)) != 0) = false := bne_eq_false_iff_eq.mpr c23
                       clear c23
                       obtain ⟨y351, hy351⟩ : ∃ y_ : List Int, y_ = (x5_2.set ((rd (rd_L4 l1 x7_1) x8_2) : Int).toNat (wrap64 (x7_1 + 1))) := ⟨_, rfl⟩
                       replace H : (intervalmonlaw29_owners.l1 k2 l0 l1 y351 (wrap64 (x6_2 + 1)) x7_1 (wrap64 (x8_2 + 1))) = some r := by first | (rw [hy351]; with_reducible exact H) | (have H2_ := (Option.bind_some _ _).symm.trans H; rw [hy351]; with_reducible exact H2_) | (have H2_ := (Option.bind_some _ _).symm.trans H; with_reducible exact H2_) | with_reducible exact H | (rw [hy351]; exact H) | exact H
                       have Ny351 := Aside0.mk hy351
                       clear hy351
                       have H' := Aside0.mk H
                       clear H
                       have p345 : 0 ≤ (x7_1 : Int) := of_decide_eq_true (by first | (with_reducible assumption) | assumption)
                       have q345 : x7_1 < (l1.length : Int) := of_decide_eq_true (by first | (with_reducible assumption) | assumption)
                       obtain ⟨ad345, A345_0, c345_0, e345, hx345_0, hl345_0, hi345_0⟩ := at_L4 HR1.out x7_1 p345 q345
                       obtain rfl : ad344 = ad345 := (by injection e345)
                       (try replace hx345_0 := (HB.out.cell (World.block_lt_of_cell? w _ hx345_0)).trans hx345_0)
                       have HR345_0 := Aside0.mk hi345_0
                       have HC345_0 := Aside0.mk hl345_0
                       clear hi345_0 hl345_0
                       replace p345 := eq_true p345
                       replace q345 := eq_true q345
                       have p346 : 0 ≤ (x7_1 : Int) := of_decide_eq_true (by first | (with_reducible assumption) | assumption)
                       have q346 : x7_1 < (l1.length : Int) := of_decide_eq_true (by first | (with_reducible assumption) | assumption)
                       obtain ⟨ad346, A346_0, c346_0, e346, hx346_0, hl346_0, hi346_0⟩ := at_L4 HR1.out x7_1 p346 q346
                       obtain rfl : ad344 = ad346 := (by injection e346)
                       (try replace hx346_0 := (HB.out.cell (World.block_lt_of_cell? w _ hx346_0)).trans hx346_0)
                       have HR346_0 := Aside0.mk hi346_0
                       have HC346_0 := Aside0.mk hl346_0
                       clear hi346_0 hl346_0
                       replace p346 := eq_true p346
                       replace q346 := eq_true q346
                       have ea_ := Option.some.inj (hx345_0.symm.trans hx346_0)
                       injection ea_ with ea_ en_ ec_
                       subst ea_
                       subst ec_
                       clear en_
                       have p347 : 0 ≤ (x8_2 : Int) := of_decide_eq_true (by first | (with_reducible assumption) | assumption)
                       have q347 : x8_2 < ((rd_L4 l1 x7_1).length : Int) := of_decide_eq_true (by first | (with_reducible assumption) | assumption)
                       obtain ⟨ad347, e347, hx347_0⟩ := Kd.at_int HR346_0.out x8_2 p347 q347
                       cases e347
                       (try replace hx347_0 := (HB.out.cell (World.block_lt_of_cell? w _ hx347_0)).trans hx347_0)
                       replace p347 := eq_true p347
                       replace q347 := eq_true q347
                       have p348 : 0 ≤ (x7_1 : Int) := of_decide_eq_true (by first | (with_reducible assumption) | assumption)
                       have q348 : x7_1 < (l1.length : Int) := of_decide_eq_true (by first | (with_reducible assumption) | assumption)
                       obtain ⟨ad348, A348_0, c348_0, e348, hx348_0, hl348_0, hi348_0⟩ := at_L4 HR1.out x7_1 p348 q348
                       obtain rfl : ad344 = ad348 := (by injection e348)
                       (try replace hx348_0 := (HB.out.cell (World.block_lt_of_cell? w _ hx348_0)).trans hx348_0)
                       have HR348_0 := Aside0.mk hi348_0
                       have HC348_0 := Aside0.mk hl348_0
                       clear hi348_0 hl348_0
                       replace p348 := eq_true p348
                       replace q348 := eq_true q348
                       have ea_ := Option.some.inj (hx345_0.symm.trans hx348_0)
                       injection ea_ with ea_ en_ ec_
                       subst ea_
                       subst ec_
                       clear en_
                       have p349 : 0 ≤ ((ji17) : Int) := of_decide_eq_true (by first | (with_reducible assumption) | assumption)
                       have q349 : (ji17) < ((rd_L4 l1 x7_1).length : Int) := of_decide_eq_true (by first | (with_reducible assumption) | assumption)
                       obtain ⟨ad349, e349, hx349_0⟩ := Kd.at_int HR348_0.out (ji17) p349 q349
                       cases e349
                       (try replace hx349_0 := (HB.out.cell (World.block_lt_of_cell? w _ hx349_0)).trans hx349_0)
                       replace p349 := eq_true p349
                       replace q349 := eq_true q349
                       obtain ⟨Ao25, co25, eo25⟩ := Kd.R_slice HO_5.out
                       subst eo25
                       have p350 : 0 ≤ ((rd (rd_L4 l1 x7_1) x8_2) : Int) := of_decide_eq_true (by first | (with_reducible assumption) | assumption)
                       have q350 : (rd (rd_L4 l1 x7_1) x8_2) < (x5_2.length : Int) := of_decide_eq_true (by first | (with_reducible assumption) | assumption)
                       try (obtain ⟨Az350_, cz350_, ez350_⟩ := Kd.R_slice HO_5.out; subst ez350_)
                       obtain ⟨ad350, e350, hx350_0⟩ := Kd.at_int (Kd.R_reads' HO_5.out).2.2 (rd (rd_L4 l1 x7_1) x8_2) p350 q350
                       cases e350
                       replace p350 := eq_true p350
                       replace q350 := eq_true q350
                       have p24 : 0 ≤ ((rd (rd_L4 l1 x7_1) x8_2) : Int) := of_decide_eq_true (by first | (with_reducible assumption) | assumption)
                       have q24 : ((rd (rd_L4 l1 x7_1) x8_2) : Int) < ((x5_2.length : Int) : Int) := of_decide_eq_true (by first | (with_reducible assumption) | assumption)
                       obtain ⟨go24, co24, eo24, gb24, gl24, cl24, HG24⟩ := Kd.R_form HO_5.out (by omega)
                       (first | cases eo24 | (injection eo24 with ea_ en_ ec_; (first | subst ea_ | (injection ea_ with ea_; subst ea_)); subst ec_; clear en_))
                       have GB24 := Aside0.mk gb24
                       have GG24 := Aside0.mk HG24
                       clear gb24 gl24 HG24
                       (first | simp only [add_plain] at hx350_0 | skip)
                       obtain ⟨hx24_0, hf24_0⟩ := Kd.R_celln 0 HO_5.out ((rd (rd_L4 l1 x7_1) x8_2) : Int) p24 q24
                       replace p24 := eq_true p24
                       replace q24 := eq_true q24
                       have HP26 := Kd.R_putg HO_5.out ((rd (rd_L4 l1 x7_1) x8_2) : Int) (wrap64 (x7_1 + 1))
                       go_wp2_with (first | ((with_reducible refine gate_store (t := 3) (p := 76) rfl ?_); refine store_event (t := 3) (p := 76) (v := ?vo_w27) (w1 := (wr.setCell ⟨go24, ((rd (rd_L4 l1 x7_1) x8_2) : Int).toNat, none⟩ (.int .i64 (wrap64 (x7_1 + 1))))) ?hg ?ho ?hn ?hr ?_; (case ho => rfl); (case hg => rfl); (case hn => rfl); (case hr => first | (go_simp; done) | (go_simp; rfl)); intro w27 hw; have hg : wr.grownBy w27 (some go24) := (by rw [hw]; exact HP26.2); have hp_ : Kd.R (Kd.int .i64) 3 w27 w.heap.size (fun _ => True) (.slice (some ⟨go24, 0, none⟩) x5_2.length co25) y351 := (by rw [hw, Ny351.out]; exact HP26.1); clear HP26; have n0_ := Aside0.mk (hp_); have n1_ := Aside0.mk ((by rw [hw]; exact below_set (HB.out) GB24.out : Below w.heap.size w w27)); clear HO_5; clear HB; have HO_5 := n0_; have HB := n1_; clear n0_ n1_; clear hg hw hp_))
                       go_roundg k2
                       case measure => have := HK1.out; have := HK2.out; omega
                       case rel => exact ⟨(y351), (wrap64 (x6_2 + 1)), (wrap64 (x8_2 + 1)), (by first | rfl | (simp; done) | (simp [*]; done)), (by first | rfl | (simp; done) | (simp [*]; done)), H', ⟨by have := HK1.out; have := HK2.out; omega⟩, ⟨by (with_reducible repeat (first | apply Kd.R_alloc | apply Kd.R_drewN | apply Kd.R_drew)); exact HO_5.out⟩, ⟨by repeat (first | (with_reducible first | exact HB.out | apply below_alloc | apply pw_below_drewN | apply below_drew1) | exact HB.out)⟩⟩
                      ·rw [if_neg c23] at H
                       have c23b0 : ((rd x5_2 (rd (rd_L4 l1 x7_1) x8_2)) == 0) = false := beq_eq_false_iff_ne.mpr c23
                       have c23b1 : ((rd x5_2 (rd (rd_L4 l1 x7_1) x8_2)) != 0) = true := bne_iff_ne.mpr c23
                       obtain rfl := Option.some.inj H
                       have p345 : 0 ≤ (x7_1 : Int) := of_decide_eq_true (by first | (with_reducible assumption) | assumption)
                       have q345 : x7_1 < (l1.length : Int) := of_decide_eq_true (by first | (with_reducible assumption) | assumption)
                       obtain ⟨ad345, A345_0, c345_0, e345, hx345_0, hl345_0, hi345_0⟩ := at_L4 HR1.out x7_1 p345 q345
                       obtain rfl : ad344 = ad345 := (by injection e345)
                       (try replace hx345_0 := (HB.out.cell (World.block_lt_of_cell? w _ hx345_0)).trans hx345_0)
                       have HR345_0 := Aside0.mk hi345_0
                       have HC345_0 := Aside0.mk hl345_0
                       clear hi345_0 hl345_0
                       replace p345 := eq_true p345
                       replace q345 := eq_true q345
                       have p346 : 0 ≤ (x7_1 : Int) := of_decide_eq_true (by first | (with_reducible assumption) | assumption)
                       have q346 : x7_1 < (l1.length : Int) := of_decide_eq_true (by first | (with_reducible assumption) | assumption)
                       obtain ⟨ad346, A346_0, c346_0, e346, hx346_0, hl346_0, hi346_0⟩ := at_L4 HR1.out x7_1 p346 q346
                       obtain rfl : ad344 = ad346 := (by injection e346)
                       (try replace hx346_0 := (HB.out.cell (World.block_lt_of_cell? w _ hx346_0)).trans hx346_0)
                       have HR346_0 := Aside0.mk hi346_0
                       have HC346_0 := Aside0.mk hl346_0
                       clear hi346_0 hl346_0
                       replace p346 := eq_true p346
                       replace q346 := eq_true q346
                       have ea_ := Option.some.inj (hx345_0.symm.trans hx346_0)
                       injection ea_ with ea_ en_ ec_
                       subst ea_
                       subst ec_
                       clear en_
                       have p347 : 0 ≤ (x8_2 : Int) := of_decide_eq_true (by first | (with_reducible assumption) | assumption)
                       have q347 : x8_2 < ((rd_L4 l1 x7_1).length : Int) := of_decide_eq_true (by first | (with_reducible assumption) | assumption)
                       obtain ⟨ad347, e347, hx347_0⟩ := Kd.at_int HR346_0.out x8_2 p347 q347
                       cases e347
                       (try replace hx347_0 := (HB.out.cell (World.block_lt_of_cell? w _ hx347_0)).trans hx347_0)
                       replace p347 := eq_true p347
                       replace q347 := eq_true q347
                       have p348 : 0 ≤ (x7_1 : Int) := of_decide_eq_true (by first | (with_reducible assumption) | assumption)
                       have q348 : x7_1 < (l1.length : Int) := of_decide_eq_true (by first | (with_reducible assumption) | assumption)
                       obtain ⟨ad348, A348_0, c348_0, e348, hx348_0, hl348_0, hi348_0⟩ := at_L4 HR1.out x7_1 p348 q348
                       obtain rfl : ad344 = ad348 := (by injection e348)
                       (try replace hx348_0 := (HB.out.cell (World.block_lt_of_cell? w _ hx348_0)).trans hx348_0)
                       have HR348_0 := Aside0.mk hi348_0
                       have HC348_0 := Aside0.mk hl348_0
                       clear hi348_0 hl348_0
                       replace p348 := eq_true p348
                       replace q348 := eq_true q348
                       have ea_ := Option.some.inj (hx345_0.symm.trans hx348_0)
                       injection ea_ with ea_ en_ ec_
                       subst ea_
                       subst ec_
                       clear en_
                       have p349 : 0 ≤ ((ji17) : Int) := of_decide_eq_true (by first | (with_reducible assumption) | assumption)
                       have q349 : (ji17) < ((rd_L4 l1 x7_1).length : Int) := of_decide_eq_true (by first | (with_reducible assumption) | assumption)
                       obtain ⟨ad349, e349, hx349_0⟩ := Kd.at_int HR348_0.out (ji17) p349 q349
                       cases e349
                       (try replace hx349_0 := (HB.out.cell (World.block_lt_of_cell? w _ hx349_0)).trans hx349_0)
                       replace p349 := eq_true p349
                       replace q349 := eq_true q349
                       obtain ⟨Ao28, co28, eo28⟩ := Kd.R_slice HO_5.out
                       subst eo28
                       have p350 : 0 ≤ ((rd (rd_L4 l1 x7_1) x8_2) : Int) := of_decide_eq_true (by first | (with_reducible assumption) | assumption)
                       have q350 : (rd (rd_L4 l1 x7_1) x8_2) < (x5_2.length : Int) := of_decide_eq_true (by first | (with_reducible assumption) | assumption)
                       try (obtain ⟨Az350_, cz350_, ez350_⟩ := Kd.R_slice HO_5.out; subst ez350_)
                       obtain ⟨ad350, e350, hx350_0⟩ := Kd.at_int (Kd.R_reads' HO_5.out).2.2 (rd (rd_L4 l1 x7_1) x8_2) p350 q350
                       cases e350
                       replace p350 := eq_true p350
                       replace q350 := eq_true q350
                       go_wp2
                       go_ret
                       exact ⟨_, by first | rfl | (simp [errW_none, errW_some] <;> rfl) | (simp only [← hji17]; first | rfl | (simp [errW_none, errW_some] <;> rfl)) | (simp [*, errW_none, errW_some] <;> rfl), by first | exact Kd.R_nil _ _ _ _ _ | exact Kd.N_nil _ _ _ _ _ | exact Kd.V_nil _ _ _ _ _ | exact Kd.Q_nil _ _ _ _ _ | exact Kd.S_nil _ _ _ _ _, by repeat (first | (with_reducible first | exact HB.out | apply below_alloc | apply pw_below_drewN | apply below_drew1) | exact HB.out)⟩
                     ·rw [if_neg c22] at H
                      exact absurd H (by simp)
                    ·rw [if_neg c21] at H
                     exact absurd H (by simp)
                  ·rw [if_neg c19] at H
                   exact absurd H (by simp)
                 ·rw [if_neg c18] at H
                  exact absurd H (by simp)
                ·rw [if_neg c16] at H
                 have c16b0 : decide (0 < x8_2) = false := decide_eq_false c16
                 clear c16
                 by_cases c29 : 0 ≤ (rd (rd_L4 l1 x7_1) x8_2)
                 ·rw [if_pos c29] at H
                  have c29b0 : decide (0 ≤ (rd (rd_L4 l1 x7_1) x8_2)) = true := decide_eq_true c29
                  clear c29
                  by_cases c30 : (rd (rd_L4 l1 x7_1) x8_2) < (x5_2.length : Int)
                  ·rw [if_pos c30] at H
                   have c30b0 : decide ((rd (rd_L4 l1 x7_1) x8_2) < (x5_2.length : Int)) = true := decide_eq_true c30
                   clear c30
                   by_cases c31 : (rd x5_2 (rd (rd_L4 l1 x7_1) x8_2)) = 0
                   ·rw [if_pos c31] at H
                    have c31b0 : ((rd x5_2 (rd (rd_L4 l1 x7_1) x8_2)) == 0) = true := beq_iff_eq.mpr c31
                    have c31b1 : ((rd x5_2 (rd (rd_L4 l1 x7_1) x8_2)) != 0) = false := bne_eq_false_iff_eq.mpr c31
                    clear c31
                    obtain ⟨y353, hy353⟩ : ∃ y_ : List Int, y_ = (x5_2.set ((rd (rd_L4 l1 x7_1) x8_2) : Int).toNat (wrap64 (x7_1 + 1))) := ⟨_, rfl⟩
                    replace H : (intervalmonlaw29_owners.l1 k2 l0 l1 y353 (wrap64 (x6_2 + 1)) x7_1 (wrap64 (x8_2 + 1))) = some r := by first | (rw [hy353]; with_reducible exact H) | (have H2_ := (Option.bind_some _ _).symm.trans H; rw [hy353]; with_reducible exact H2_) | (have H2_ := (Option.bind_some _ _).symm.trans H; with_reducible exact H2_) | with_reducible exact H | (rw [hy353]; exact H) | exact H
                    have Ny353 := Aside0.mk hy353
                    clear hy353
                    have H' := Aside0.mk H
                    clear H
                    have p345 : 0 ≤ (x7_1 : Int) := of_decide_eq_true (by first | (with_reducible assumption) | assumption)
                    have q345 : x7_1 < (l1.length : Int) := of_decide_eq_true (by first | (with_reducible assumption) | assumption)
                    obtain ⟨ad345, A345_0, c345_0, e345, hx345_0, hl345_0, hi345_0⟩ := at_L4 HR1.out x7_1 p345 q345
                    obtain rfl : ad344 = ad345 := (by injection e345)
                    (try replace hx345_0 := (HB.out.cell (World.block_lt_of_cell? w _ hx345_0)).trans hx345_0)
                    have HR345_0 := Aside0.mk hi345_0
                    have HC345_0 := Aside0.mk hl345_0
                    clear hi345_0 hl345_0
                    replace p345 := eq_true p345
                    replace q345 := eq_true q345
                    have p346 : 0 ≤ (x7_1 : Int) := of_decide_eq_true (by first | (with_reducible assumption) | assumption)
                    have q346 : x7_1 < (l1.length : Int) := of_decide_eq_true (by first | (with_reducible assumption) | assumption)
                    obtain ⟨ad346, A346_0, c346_0, e346, hx346_0, hl346_0, hi346_0⟩ := at_L4 HR1.out x7_1 p346 q346
                    obtain rfl : ad344 = ad346 := (by injection e346)
                    (try replace hx346_0 := (HB.out.cell (World.block_lt_of_cell? w _ hx346_0)).trans hx346_0)
                    have HR346_0 := Aside0.mk hi346_0
                    have HC346_0 := Aside0.mk hl346_0
                    clear hi346_0 hl346_0
                    replace p346 := eq_true p346
                    replace q346 := eq_true q346
                    have ea_ := Option.some.inj (hx345_0.symm.trans hx346_0)
                    injection ea_ with ea_ en_ ec_
                    subst ea_
                    subst ec_
                    clear en_
                    have p347 : 0 ≤ (x8_2 : Int) := of_decide_eq_true (by first | (with_reducible assumption) | assumption)
                    have q347 : x8_2 < ((rd_L4 l1 x7_1).length : Int) := of_decide_eq_true (by first | (with_reducible assumption) | assumption)
                    obtain ⟨ad347, e347, hx347_0⟩ := Kd.at_int HR346_0.out x8_2 p347 q347
                    cases e347
                    (try replace hx347_0 := (HB.out.cell (World.block_lt_of_cell? w _ hx347_0)).trans hx347_0)
                    replace p347 := eq_true p347
                    replace q347 := eq_true q347
                    obtain ⟨Ao33, co33, eo33⟩ := Kd.R_slice HO_5.out
                    subst eo33
                    have p352 : 0 ≤ ((rd (rd_L4 l1 x7_1) x8_2) : Int) := of_decide_eq_true (by first | (with_reducible assumption) | assumption)
                    have q352 : (rd (rd_L4 l1 x7_1) x8_2) < (x5_2.length : Int) := of_decide_eq_true (by first | (with_reducible assumption) | assumption)
                    try (obtain ⟨Az352_, cz352_, ez352_⟩ := Kd.R_slice HO_5.out; subst ez352_)
                    obtain ⟨ad352, e352, hx352_0⟩ := Kd.at_int (Kd.R_reads' HO_5.out).2.2 (rd (rd_L4 l1 x7_1) x8_2) p352 q352
                    cases e352
                    replace p352 := eq_true p352
                    replace q352 := eq_true q352
                    have p32 : 0 ≤ ((rd (rd_L4 l1 x7_1) x8_2) : Int) := of_decide_eq_true (by first | (with_reducible assumption) | assumption)
                    have q32 : ((rd (rd_L4 l1 x7_1) x8_2) : Int) < ((x5_2.length : Int) : Int) := of_decide_eq_true (by first | (with_reducible assumption) | assumption)
                    obtain ⟨go32, co32, eo32, gb32, gl32, cl32, HG32⟩ := Kd.R_form HO_5.out (by omega)
                    (first | cases eo32 | (injection eo32 with ea_ en_ ec_; (first | subst ea_ | (injection ea_ with ea_; subst ea_)); subst ec_; clear en_))
                    have GB32 := Aside0.mk gb32
                    have GG32 := Aside0.mk HG32
                    clear gb32 gl32 HG32
                    (first | simp only [add_plain] at hx352_0 | skip)
                    obtain ⟨hx32_0, hf32_0⟩ := Kd.R_celln 0 HO_5.out ((rd (rd_L4 l1 x7_1) x8_2) : Int) p32 q32
                    replace p32 := eq_true p32
                    replace q32 := eq_true q32
                    have HP34 := Kd.R_putg HO_5.out ((rd (rd_L4 l1 x7_1) x8_2) : Int) (wrap64 (x7_1 + 1))
                    go_wp2_with (first | ((with_reducible refine gate_store (t := 3) (p := 76) rfl ?_); refine store_event (t := 3) (p := 76) (v := ?vo_w35) (w1 := (wr.setCell ⟨go32, ((rd (rd_L4 l1 x7_1) x8_2) : Int).toNat, none⟩ (.int .i64 (wrap64 (x7_1 + 1))))) ?hg ?ho ?hn ?hr ?_; (case ho => rfl); (case hg => rfl); (case hn => rfl); (case hr => first | (go_simp; done) | (go_simp; rfl)); intro w35 hw; have hg : wr.grownBy w35 (some go32) := (by rw [hw]; exact HP34.2); have hp_ : Kd.R (Kd.int .i64) 3 w35 w.heap.size (fun _ => True) (.slice (some ⟨go32, 0, none⟩) x5_2.length co33) y353 := (by rw [hw, Ny353.out]; exact HP34.1); clear HP34; have n0_ := Aside0.mk (hp_); have n1_ := Aside0.mk ((by rw [hw]; exact below_set (HB.out) GB32.out : Below w.heap.size w w35)); clear HO_5; clear HB; have HO_5 := n0_; have HB := n1_; clear n0_ n1_; clear hg hw hp_))
                    go_roundg k2
                    case measure => have := HK1.out; have := HK2.out; omega
                    case rel => exact ⟨(y353), (wrap64 (x6_2 + 1)), (wrap64 (x8_2 + 1)), (by first | rfl | (simp; done) | (simp [*]; done)), (by first | rfl | (simp; done) | (simp [*]; done)), H', ⟨by have := HK1.out; have := HK2.out; omega⟩, ⟨by (with_reducible repeat (first | apply Kd.R_alloc | apply Kd.R_drewN | apply Kd.R_drew)); exact HO_5.out⟩, ⟨by repeat (first | (with_reducible first | exact HB.out | apply below_alloc | apply pw_below_drewN | apply below_drew1) | exact HB.out)⟩⟩
                   ·rw [if_neg c31] at H
                    have c31b0 : ((rd x5_2 (rd (rd_L4 l1 x7_1) x8_2)) == 0) = false := beq_eq_false_iff_ne.mpr c31
                    have c31b1 : ((rd x5_2 (rd (rd_L4 l1 x7_1) x8_2)) != 0) = true := bne_iff_ne.mpr c31
                    obtain rfl := Option.some.inj H
                    have p345 : 0 ≤ (x7_1 : Int) := of_decide_eq_true (by first | (with_reducible assumption) | assumption)
                    have q345 : x7_1 < (l1.length : Int) := of_decide_eq_true (by first | (with_reducible assumption) | assumption)
                    obtain ⟨ad345, A345_0, c345_0, e345, hx345_0, hl345_0, hi345_0⟩ := at_L4 HR1.out x7_1 p345 q345
                    obtain rfl : ad344 = ad345 := (by injection e345)
                    (try replace hx345_0 := (HB.out.cell (World.block_lt_of_cell? w _ hx345_0)).trans hx345_0)
                    have HR345_0 := Aside0.mk hi345_0
                    have HC345_0 := Aside0.mk hl345_0
                    clear hi345_0 hl345_0
                    replace p345 := eq_true p345
                    replace q345 := eq_true q345
                    have p346 : 0 ≤ (x7_1 : Int) := of_decide_eq_true (by first | (with_reducible assumption) | assumption)
                    have q346 : x7_1 < (l1.length : Int) := of_decide_eq_true (by first | (with_reducible assumption) | assumption)
                    obtain ⟨ad346, A346_0, c346_0, e346, hx346_0, hl346_0, hi346_0⟩ := at_L4 HR1.out x7_1 p346 q346
                    obtain rfl : ad344 = ad346 := (by injection e346)
                    (try replace hx346_0 := (HB.out.cell (World.block_lt_of_cell? w _ hx346_0)).trans hx346_0)
                    have HR346_0 := Aside0.mk hi346_0
                    have HC346_0 := Aside0.mk hl346_0
                    clear hi346_0 hl346_0
                    replace p346 := eq_true p346
                    replace q346 := eq_true q346
                    have ea_ := Option.some.inj (hx345_0.symm.trans hx346_0)
                    injection ea_ with ea_ en_ ec_
                    subst ea_
                    subst ec_
                    clear en_
                    have p347 : 0 ≤ (x8_2 : Int) := of_decide_eq_true (by first | (with_reducible assumption) | assumption)
                    have q347 : x8_2 < ((rd_L4 l1 x7_1).length : Int) := of_decide_eq_true (by first | (with_reducible assumption) | assumption)
                    obtain ⟨ad347, e347, hx347_0⟩ := Kd.at_int HR346_0.out x8_2 p347 q347
                    cases e347
                    (try replace hx347_0 := (HB.out.cell (World.block_lt_of_cell? w _ hx347_0)).trans hx347_0)
                    replace p347 := eq_true p347
                    replace q347 := eq_true q347
                    obtain ⟨Ao36, co36, eo36⟩ := Kd.R_slice HO_5.out
                    subst eo36
                    have p352 : 0 ≤ ((rd (rd_L4 l1 x7_1) x8_2) : Int) := of_decide_eq_true (by first | (with_reducible assumption) | assumption)
                    have q352 : (rd (rd_L4 l1 x7_1) x8_2) < (x5_2.length : Int) := of_decide_eq_true (by first | (with_reducible assumption) | assumption)
                    try (obtain ⟨Az352_, cz352_, ez352_⟩ := Kd.R_slice HO_5.out; subst ez352_)
                    obtain ⟨ad352, e352, hx352_0⟩ := Kd.at_int (Kd.R_reads' HO_5.out).2.2 (rd (rd_L4 l1 x7_1) x8_2) p352 q352
                    cases e352
                    replace p352 := eq_true p352
                    replace q352 := eq_true q352
                    go_wp2
                    go_ret
                    exact ⟨_, by first | rfl | (simp [errW_none, errW_some] <;> rfl) | (simp [*, errW_none, errW_some] <;> rfl), by first | exact Kd.R_nil _ _ _ _ _ | exact Kd.N_nil _ _ _ _ _ | exact Kd.V_nil _ _ _ _ _ | exact Kd.Q_nil _ _ _ _ _ | exact Kd.S_nil _ _ _ _ _, by repeat (first | (with_reducible first | exact HB.out | apply below_alloc | apply pw_below_drewN | apply below_drew1) | exact HB.out)⟩
                  ·rw [if_neg c30] at H
                   exact absurd H (by simp)
                 ·rw [if_neg c29] at H
                  exact absurd H (by simp)
             ·rw [if_neg c13] at H
              exact absurd H (by simp)
            ·rw [if_neg c12] at H
             have c12b0 : decide (x8_2 < ((rd_L4 l1 x7_1).length : Int)) = false := decide_eq_false c12
             clear c12
             have H' := Aside0.mk H
             clear H
             have p345 : 0 ≤ (x7_1 : Int) := of_decide_eq_true (by first | (with_reducible assumption) | assumption)
             have q345 : x7_1 < (l1.length : Int) := of_decide_eq_true (by first | (with_reducible assumption) | assumption)
             obtain ⟨ad345, A345_0, c345_0, e345, hx345_0, hl345_0, hi345_0⟩ := at_L4 HR1.out x7_1 p345 q345
             obtain rfl : ad344 = ad345 := (by injection e345)
             (try replace hx345_0 := (HB.out.cell (World.block_lt_of_cell? w _ hx345_0)).trans hx345_0)
             have HR345_0 := Aside0.mk hi345_0
             have HC345_0 := Aside0.mk hl345_0
             clear hi345_0 hl345_0
             replace p345 := eq_true p345
             replace q345 := eq_true q345
             go_wp2
             go_roundg k2
             case measure => have := HK1.out; have := HK2.out; omega
             case rel => exact ⟨(x5_2), (x6_2), (wrap64 (x7_1 + 1)), (by first | rfl | (simp; done) | (simp [*]; done)), (by first | rfl | (simp; done) | (simp [*]; done)), H', ⟨by have := HK1.out; have := HK2.out; omega⟩, ⟨by (with_reducible repeat (first | apply Kd.R_alloc | apply Kd.R_drewN | apply Kd.R_drew)); exact HO_5.out⟩, ⟨by repeat (first | (with_reducible first | exact HB.out | apply below_alloc | apply pw_below_drewN | apply below_drew1) | exact HB.out)⟩⟩
           ·rw [if_neg c11] at H
            exact absurd H (by simp)
          ·rw [if_neg c10] at H
           exact absurd H (by simp)
      ·rw [if_neg c8] at H
       exact absurd H (by simp)
     ·rw [if_neg c7] at H
      have c7b0 : decide (x7_1 < (l1.length : Int)) = false := decide_eq_false c7
      clear c7
      by_cases c37 : x6_1 = (l0.length : Int)
      ·rw [if_pos c37] at H
       have c37b0 : (x6_1 == (l0.length : Int)) = true := beq_iff_eq.mpr c37
       have c37b1 : (x6_1 != (l0.length : Int)) = false := bne_eq_false_iff_eq.mpr c37
       clear c37
       obtain rfl := Option.some.inj H
       go_wp2
       go_ret
       exact ⟨_, by first | rfl | (simp [errW_none, errW_some] <;> rfl) | (simp [*, errW_none, errW_some] <;> rfl), by (with_reducible repeat (first | apply Kd.R_alloc | apply Kd.R_drewN | apply Kd.R_drew)); exact HO_5.out, by repeat (first | (with_reducible first | exact HB.out | apply below_alloc | apply pw_below_drewN | apply below_drew1) | exact HB.out)⟩
      ·rw [if_neg c37] at H
       have c37b0 : (x6_1 == (l0.length : Int)) = false := beq_eq_false_iff_ne.mpr c37
       have c37b1 : (x6_1 != (l0.length : Int)) = true := bne_iff_ne.mpr c37
       obtain rfl := Option.some.inj H
       go_wp2
       go_ret
       exact ⟨_, by first | rfl | (simp [errW_none, errW_some] <;> rfl) | (simp [*, errW_none, errW_some] <;> rfl), by first | exact Kd.R_nil _ _ _ _ _ | exact Kd.N_nil _ _ _ _ _ | exact Kd.V_nil _ _ _ _ _ | exact Kd.Q_nil _ _ _ _ _ | exact Kd.S_nil _ _ _ _ _, by repeat (first | (with_reducible first | exact HB.out | apply below_alloc | apply pw_below_drewN | apply below_drew1) | exact HB.out)⟩
  ·rw [if_neg c4] at H
   exact absurd H (by simp)
 ·rw [if_neg c3] at H
  exact absurd H (by simp)

end Go.Proofs.Ytcamljlhdejmmaa.P
