-- Written by this session's own copy of a printing program (wip/tools); Lean checks it.
import Derived.Test.YtcamljlhdejmmaaPx0
import Derived.Test.YtcamljlhdejmmaaPx3
import Derived.Test.YtcamljlhdejmmaaPx5
namespace Go.Proofs.Ytcamljlhdejmmaa.P
open Go.RowKit Go.Proofs.YtcamljlhdejmmaaW.PrintWords Go.Proofs.YtcamljlhdejmmaaW.PrintLast Go.Proofs.YtcamljlhdejmmaaW.PrintMore
attribute [local go_sem] max2_int min2_int max_two min_two max_three min_three max_four min_four   -- for this text's walks alone
set_option linter.unusedVariables false
set_option linter.unusedSimpArgs false

/-! ### intervalmonlaw29_lives: function 17 -/
def intervalmonlaw29_lives.f (k : Nat)  : Option (Bool) := (route_Inhibited.f k 3 (([(⟨0, 1⟩ : S27), (⟨1, 2⟩ : S27)] : List (S27))) (([true, false, true] : List Bool))).bind fun t185 => ((some (([(⟨(⟨#[97, 110, 110]⟩ : ByteArray), 0, 10⟩ : S60), (⟨(⟨#[98, 111, 98]⟩ : ByteArray), 4, 6⟩ : S60)] : List (S60)) : List (S60))).bind fun y188 => ((route_OnDuty.f k 10 y188 15 2).bind fun bt191 => ((route_OnDuty.f k 10 y188 8 1).bind fun bt193 => (if (t185.length : Int) = 3 then (if 0 < (t185.length : Int) then (if rdOf false t185 0 = true then (some false) else (if 1 < (t185.length : Int) then (if rdOf false t185 1 = true then (some false) else (if 2 < (t185.length : Int) then (if rdOf false t185 2 = true then (if bt191.2 = 0 then (if bt193.2 = 0 then (if bt191.1.toList = ([98, 111, 98] : List UInt8) then (some (bt193.1.toList == ([97, 110, 110] : List UInt8))) else (some false)) else (some false)) else (some false)) else (some false)) else (none))) else (none))) else (none)) else (some false)))))
theorem intervalmonlaw29_lives.mono : ∀ k, LeO (intervalmonlaw29_lives.f k ) (intervalmonlaw29_lives.f (k + 1) ) := by
 intro  k
 unfold intervalmonlaw29_lives.f
 repeat' first
   | (with_reducible exact route_Inhibited.mono _ _ _ _)
   | (with_reducible exact route_OnDuty.mono _ _ _ _ _)
   | (with_reducible exact LeO.refl _)
   | (with_reducible exact LeO.none _)
   | (with_reducible refine LeO.ite ?_ ?_)
   | (with_reducible refine LeO.bind ?_ (fun _ => ?_))
   | exact route_Inhibited.mono _ _ _ _
   | exact route_OnDuty.mono _ _ _ _ _
   | exact LeO.none _
   | refine LeO.ite ?_ ?_
   | refine LeO.bind ?_ (fun _ => ?_)
set_option maxHeartbeats 8000000 in
set_option maxRecDepth 100000 in
theorem intervalmonlaw29_lives.calls (k : Nat)  (r : Bool) (w : World) (h : intervalmonlaw29_lives.f k  = some r) :
  Calls Try.prog 17 #[] w fun e w' => e = .returned (.bool r) ∧ Below w.heap.size w w' := by
 have hu27 := Try.underlying27
 have hu31 := Try.underlying31
 have hu60 := Try.underlying60
 have HB := Aside0.mk (Below.refl w.heap.size w)
 have H : ((route_Inhibited.f k 3 (([(⟨0, 1⟩ : S27), (⟨1, 2⟩ : S27)] : List (S27))) (([true, false, true] : List Bool))).bind fun t185 => ((some (([(⟨(⟨#[97, 110, 110]⟩ : ByteArray), 0, 10⟩ : S60), (⟨(⟨#[98, 111, 98]⟩ : ByteArray), 4, 6⟩ : S60)] : List (S60)) : List (S60))).bind fun y188 => ((route_OnDuty.f k 10 y188 15 2).bind fun bt191 => ((route_OnDuty.f k 10 y188 8 1).bind fun bt193 => (if (t185.length : Int) = 3 then (if 0 < (t185.length : Int) then (if rdOf false t185 0 = true then (some false) else (if 1 < (t185.length : Int) then (if rdOf false t185 1 = true then (some false) else (if 2 < (t185.length : Int) then (if rdOf false t185 2 = true then (if bt191.2 = 0 then (if bt193.2 = 0 then (if bt191.1.toList = ([98, 111, 98] : List UInt8) then (some (bt193.1.toList == ([97, 110, 110] : List UInt8))) else (some false)) else (some false)) else (some false)) else (some false)) else (none))) else (none))) else (none)) else (some false)))))) = some r := h
 clear h
 obtain ⟨y179, hy179⟩ : ∃ y_ : List (S27), y_ = (([(⟨0, 1⟩ : S27), (⟨1, 2⟩ : S27)] : List (S27))) := ⟨_, rfl⟩
 replace H : ((route_Inhibited.f k 3 y179 (([true, false, true] : List Bool))).bind fun t185 => ((some (([(⟨(⟨#[97, 110, 110]⟩ : ByteArray), 0, 10⟩ : S60), (⟨(⟨#[98, 111, 98]⟩ : ByteArray), 4, 6⟩ : S60)] : List (S60)) : List (S60))).bind fun y188 => ((route_OnDuty.f k 10 y188 15 2).bind fun bt191 => ((route_OnDuty.f k 10 y188 8 1).bind fun bt193 => (if (t185.length : Int) = 3 then (if 0 < (t185.length : Int) then (if rdOf false t185 0 = true then (some false) else (if 1 < (t185.length : Int) then (if rdOf false t185 1 = true then (some false) else (if 2 < (t185.length : Int) then (if rdOf false t185 2 = true then (if bt191.2 = 0 then (if bt193.2 = 0 then (if bt191.1.toList = ([98, 111, 98] : List UInt8) then (some (bt193.1.toList == ([97, 110, 110] : List UInt8))) else (some false)) else (some false)) else (some false)) else (some false)) else (none))) else (none))) else (none)) else (some false)))))) = some r := by first | (rw [hy179]; with_reducible exact H) | (have H2_ := (Option.bind_some _ _).symm.trans H; rw [hy179]; with_reducible exact H2_) | (have H2_ := (Option.bind_some _ _).symm.trans H; with_reducible exact H2_) | with_reducible exact H | (rw [hy179]; exact H) | exact H
 have Ny179 := Aside0.mk hy179
 clear hy179
 obtain ⟨y182, hy182⟩ : ∃ y_ : List Bool, y_ = (([true, false, true] : List Bool)) := ⟨_, rfl⟩
 replace H : ((route_Inhibited.f k 3 y179 y182).bind fun t185 => ((some (([(⟨(⟨#[97, 110, 110]⟩ : ByteArray), 0, 10⟩ : S60), (⟨(⟨#[98, 111, 98]⟩ : ByteArray), 4, 6⟩ : S60)] : List (S60)) : List (S60))).bind fun y188 => ((route_OnDuty.f k 10 y188 15 2).bind fun bt191 => ((route_OnDuty.f k 10 y188 8 1).bind fun bt193 => (if (t185.length : Int) = 3 then (if 0 < (t185.length : Int) then (if rdOf false t185 0 = true then (some false) else (if 1 < (t185.length : Int) then (if rdOf false t185 1 = true then (some false) else (if 2 < (t185.length : Int) then (if rdOf false t185 2 = true then (if bt191.2 = 0 then (if bt193.2 = 0 then (if bt191.1.toList = ([98, 111, 98] : List UInt8) then (some (bt193.1.toList == ([97, 110, 110] : List UInt8))) else (some false)) else (some false)) else (some false)) else (some false)) else (none))) else (none))) else (none)) else (some false)))))) = some r := by first | (rw [hy182]; with_reducible exact H) | (have H2_ := (Option.bind_some _ _).symm.trans H; rw [hy182]; with_reducible exact H2_) | (have H2_ := (Option.bind_some _ _).symm.trans H; with_reducible exact H2_) | with_reducible exact H | (rw [hy182]; exact H) | exact H
 have Ny182 := Aside0.mk hy182
 clear hy182
 replace H := Option.bind_eq_some_iff.mp H
 obtain ⟨t185, A10, H⟩ := H
 replace H : ((some (([(⟨(⟨#[97, 110, 110]⟩ : ByteArray), 0, 10⟩ : S60), (⟨(⟨#[98, 111, 98]⟩ : ByteArray), 4, 6⟩ : S60)] : List (S60)) : List (S60))).bind fun y188 => ((route_OnDuty.f k 10 y188 15 2).bind fun bt191 => ((route_OnDuty.f k 10 y188 8 1).bind fun bt193 => (if (t185.length : Int) = 3 then (if 0 < (t185.length : Int) then (if rdOf false t185 0 = true then (some false) else (if 1 < (t185.length : Int) then (if rdOf false t185 1 = true then (some false) else (if 2 < (t185.length : Int) then (if rdOf false t185 2 = true then (if bt191.2 = 0 then (if bt193.2 = 0 then (if bt191.1.toList = ([98, 111, 98] : List UInt8) then (some (bt193.1.toList == ([97, 110, 110] : List UInt8))) else (some false)) else (some false)) else (some false)) else (some false)) else (none))) else (none))) else (none)) else (some false))))) = some r := H
 have A1 := Aside0.mk A10
 clear A10
 obtain ⟨y188, hy188⟩ : ∃ y_ : List (S60), y_ = (([(⟨(⟨#[97, 110, 110]⟩ : ByteArray), 0, 10⟩ : S60), (⟨(⟨#[98, 111, 98]⟩ : ByteArray), 4, 6⟩ : S60)] : List (S60))) := ⟨_, rfl⟩
 replace H : ((route_OnDuty.f k 10 y188 15 2).bind fun bt191 => ((route_OnDuty.f k 10 y188 8 1).bind fun bt193 => (if (t185.length : Int) = 3 then (if 0 < (t185.length : Int) then (if rdOf false t185 0 = true then (some false) else (if 1 < (t185.length : Int) then (if rdOf false t185 1 = true then (some false) else (if 2 < (t185.length : Int) then (if rdOf false t185 2 = true then (if bt191.2 = 0 then (if bt193.2 = 0 then (if bt191.1.toList = ([98, 111, 98] : List UInt8) then (some (bt193.1.toList == ([97, 110, 110] : List UInt8))) else (some false)) else (some false)) else (some false)) else (some false)) else (none))) else (none))) else (none)) else (some false)))) = some r := by first | (rw [hy188]; with_reducible exact H) | (have H2_ := (Option.bind_some _ _).symm.trans H; rw [hy188]; with_reducible exact H2_) | (have H2_ := (Option.bind_some _ _).symm.trans H; with_reducible exact H2_) | with_reducible exact H | (rw [hy188]; exact H) | exact H
 have Ny188 := Aside0.mk hy188
 clear hy188
 replace H := Option.bind_eq_some_iff.mp H
 obtain ⟨⟨t191, t192⟩, A20, H⟩ := H
 replace H : ((route_OnDuty.f k 10 y188 8 1).bind fun bt193 => (if (t185.length : Int) = 3 then (if 0 < (t185.length : Int) then (if rdOf false t185 0 = true then (some false) else (if 1 < (t185.length : Int) then (if rdOf false t185 1 = true then (some false) else (if 2 < (t185.length : Int) then (if rdOf false t185 2 = true then (if t192 = 0 then (if bt193.2 = 0 then (if t191.toList = ([98, 111, 98] : List UInt8) then (some (bt193.1.toList == ([97, 110, 110] : List UInt8))) else (some false)) else (some false)) else (some false)) else (some false)) else (none))) else (none))) else (none)) else (some false))) = some r := H
 have A2 := Aside0.mk A20
 clear A20
 replace H := Option.bind_eq_some_iff.mp H
 obtain ⟨⟨t193, t194⟩, A30, H⟩ := H
 replace H : (if (t185.length : Int) = 3 then (if 0 < (t185.length : Int) then (if rdOf false t185 0 = true then (some false) else (if 1 < (t185.length : Int) then (if rdOf false t185 1 = true then (some false) else (if 2 < (t185.length : Int) then (if rdOf false t185 2 = true then (if t192 = 0 then (if t194 = 0 then (if t191.toList = ([98, 111, 98] : List UInt8) then (some (t193.toList == ([97, 110, 110] : List UInt8))) else (some false)) else (some false)) else (some false)) else (some false)) else (none))) else (none))) else (none)) else (some false)) = some r := H
 have A3 := Aside0.mk A30
 clear A30
 by_cases c4 : (t185.length : Int) = 3
 ·rw [if_pos c4] at H
  have c4b0 : ((t185.length : Int) == 3) = true := beq_iff_eq.mpr c4
  have c4b1 : ((t185.length : Int) != 3) = false := bne_eq_false_iff_eq.mpr c4
  clear c4
  by_cases c5 : 0 < (t185.length : Int)
  ·rw [if_pos c5] at H
   have c5b0 : decide (0 < (t185.length : Int)) = true := decide_eq_true c5
   have c5b1 : decide (0 < t185.length) = true := decide_eq_true (by omega)
   clear c5
   obtain ⟨bq6, hbq6⟩ : ∃ b_ : Bool, b_ = (rdOf false t185 0) := ⟨_, rfl⟩
   replace H : (if bq6 = true then (some false) else (if 1 < (t185.length : Int) then (if rdOf false t185 1 = true then (some false) else (if 2 < (t185.length : Int) then (if rdOf false t185 2 = true then (if t192 = 0 then (if t194 = 0 then (if t191.toList = ([98, 111, 98] : List UInt8) then (some (t193.toList == ([97, 110, 110] : List UInt8))) else (some false)) else (some false)) else (some false)) else (some false)) else (none))) else (none))) = some r := by rw [← hbq6] at H; exact H
   have Nbq6 := Aside0.mk hbq6
   clear hbq6
   by_cases c7 : bq6 = true
   ·subst c7
    have H1 : (some false) = some r := by rw [if_pos rfl] at H; exact H
    clear H
    have H := H1
    clear H1
    obtain rfl := Option.some.inj H
    go_enter Try.func17, Try.ntmps17
    go_wp2_with (first | ((with_reducible refine gate_dst (N := 9) rfl ?_); refine Kd.R_lit k27 _ 27 ?hg (N := 9) ?hd (xs := ([(⟨0, 1⟩ : S27), (⟨1, 2⟩ : S27)] : List (S27))) (inner := [.int .i64 0, .int .i64 1, .int .i64 1, .int .i64 2]) (ok := fun _ => True) (okp := fun _ => True) ?hr ?hp (fun _ hk => hk) trivial (Below.refl _ _) (Nat.le_refl _) (by simp) ?_; (case hd => rfl); (case hg => rfl); (case hr => first | (go_simp; done) | (go_simp; rfl)); (case hp => exact (Reps.c2 (show Kd.M k27 _ _ _ (⟨0, 1⟩ : S27) [.int .i64 0, .int .i64 1] from (k27_mkM _ _ _ (⟨0, 1⟩ : S27) )) (Reps.c2 (show Kd.M k27 _ _ _ (⟨1, 2⟩ : S27) [.int .i64 1, .int .i64 2] from (k27_mkM _ _ _ (⟨1, 2⟩ : S27) )) (Reps.none _ _)))); intro v180 w8 ho9 hb hg_ hnew_; clear hg_ hnew_; (first | rw [← Ny179.out] at ho9 | (simp only [Int.reduceToNat] at ho9; rw [← Ny179.out] at ho9)); have n0_ := Aside0.mk (Kd.R_lower ho9 (below_size (hq HB))); have n1_ := Aside0.mk (below_step (hq HB) hb); clear HB; have HO181 := n0_; have HB := n1_; clear n0_ n1_; clear hb ho9; obtain ⟨Ao10, co10, eo10⟩ := Kd.R_slice HO181.out; subst eo10) | ((with_reducible refine gate_dst (N := 11) rfl ?_); refine Kd.R_lit Kd.bool _ 4 ?hg (N := 11) ?hd (xs := ([true, false, true] : List Bool)) (inner := [.bool true, .bool false, .bool true]) (ok := fun _ => True) (okp := fun _ => True) ?hr ?hp (fun _ hk => hk) trivial (Below.refl _ _) (Nat.le_refl _) (by simp) ?_; (case hd => rfl); (case hg => rfl); (case hr => first | (go_simp; done) | (go_simp; rfl)); (case hp => exact (Reps.one (show Kd.M Kd.bool _ _ _ true [.bool true] from rfl) (Reps.one (show Kd.M Kd.bool _ _ _ false [.bool false] from rfl) (Reps.one (show Kd.M Kd.bool _ _ _ true [.bool true] from rfl) (Reps.none _ _))))); intro v183 w11 ho12 hb hg_ hnew_; clear hg_ hnew_; (first | rw [← Ny182.out] at ho12 | (simp only [Int.reduceToNat] at ho12; rw [← Ny182.out] at ho12)); have n0_ := Aside0.mk (Kd.R_below (rq HO181) hb); have n1_ := Aside0.mk (Kd.R_lower ho12 (below_size (hq HB))); have n2_ := Aside0.mk (below_step (hq HB) hb); clear HO181; clear HB; have HO181 := n0_; have HO184 := n1_; have HB := n2_; clear n0_ n1_ n2_; clear hb ho12; obtain ⟨Ao13, co13, eo13⟩ := Kd.R_slice HO184.out; subst eo13) | ((with_reducible refine gate_callee (f := 20) rfl ?_); refine goesL_ (some 12) rfl rfl Try.func20 (by kernel_rfl) rfl #[.agg #[.int .i64 3, .slice Ao10 y179.length co10], .slice Ao13 y182.length co13] rfl aq ?_; (with_reducible refine (route_Inhibited.calls k 3 _ _ y179 _ _ y182 t185 _ ?side1 ?side2 ?side3 ?side4 A1.out).mono ?_); (case side1 => repeat (first | exact (Kd.R_reads' HO181.out).2.2 | (with_reducible refine Kd.C_alloc ?_ _) | (with_reducible refine Kd.C_drewN ?_ _) | (with_reducible refine Kd.C_drew ?_))); (case side2 => exact (Kd.R_reads' HO181.out).2.1); (case side3 => repeat (first | exact (Kd.R_reads' HO184.out).2.2 | (with_reducible refine Kd.C_alloc ?_ _) | (with_reducible refine Kd.C_drewN ?_ _) | (with_reducible refine Kd.C_drew ?_))); (case side4 => exact (Kd.R_reads' HO184.out).2.1); rintro e w14 ⟨v186, rfl, ho0, hb⟩; refine ⟨_, rfl, ?_⟩; have n0_ := Aside0.mk (Kd.R_below (rq HO181) hb); have n1_ := Aside0.mk (Kd.R_elder' (rq HO184) (Kd.R_base ho0) hb); have n2_ := Aside0.mk (Kd.R_lower (Kd.R_new' ho0 (Kd.R_lt (rq HO184))) (below_size (hq HB))); have n3_ := Aside0.mk (below_step (hq HB) hb); clear HO181; clear HO184; clear HB; have HO181 := n0_; have HO184 := n1_; have HO187 := n2_; have HB := n3_; clear n0_ n1_ n2_ n3_; (try clear hb); (try clear hb2); (try clear hk); (try clear hi); (try clear ho0)) | ((with_reducible refine gate_dst (N := 15) rfl ?_); refine Kd.R_lit k60 _ 60 ?hg (N := 15) ?hd (xs := ([(⟨(⟨#[97, 110, 110]⟩ : ByteArray), 0, 10⟩ : S60), (⟨(⟨#[98, 111, 98]⟩ : ByteArray), 4, 6⟩ : S60)] : List (S60))) (inner := [.string (⟨#[97, 110, 110]⟩ : ByteArray), .int .i64 0, .int .i64 10, .string (⟨#[98, 111, 98]⟩ : ByteArray), .int .i64 4, .int .i64 6]) (ok := fun _ => True) (okp := fun _ => True) ?hr ?hp (fun _ hk => hk) trivial (Below.refl _ _) (Nat.le_refl _) (by simp) ?_; (case hd => rfl); (case hg => rfl); (case hr => first | (go_simp; done) | (go_simp; rfl)); (case hp => exact (Reps.c3 (show Kd.M k60 _ _ _ (⟨(⟨#[97, 110, 110]⟩ : ByteArray), 0, 10⟩ : S60) [.string (⟨#[97, 110, 110]⟩ : ByteArray), .int .i64 0, .int .i64 10] from (k60_mkM _ _ _ (⟨(⟨#[97, 110, 110]⟩ : ByteArray), 0, 10⟩ : S60) )) (Reps.c3 (show Kd.M k60 _ _ _ (⟨(⟨#[98, 111, 98]⟩ : ByteArray), 4, 6⟩ : S60) [.string (⟨#[98, 111, 98]⟩ : ByteArray), .int .i64 4, .int .i64 6] from (k60_mkM _ _ _ (⟨(⟨#[98, 111, 98]⟩ : ByteArray), 4, 6⟩ : S60) )) (Reps.none _ _)))); intro v189 w15 ho16 hb hg_ hnew_; clear hg_ hnew_; (first | rw [← Ny188.out] at ho16 | (simp only [Int.reduceToNat] at ho16; rw [← Ny188.out] at ho16)); have n0_ := Aside0.mk (Kd.R_below (rq HO181) hb); have n1_ := Aside0.mk (Kd.R_below (rq HO184) hb); have n2_ := Aside0.mk (Kd.R_below (rq HO187) hb); have n3_ := Aside0.mk (Kd.R_lower ho16 (below_size (hq HB))); have n4_ := Aside0.mk (below_step (hq HB) hb); clear HO181; clear HO184; clear HO187; clear HB; have HO181 := n0_; have HO184 := n1_; have HO187 := n2_; have HO190 := n3_; have HB := n4_; clear n0_ n1_ n2_ n3_ n4_; clear hb ho16; obtain ⟨Ao17, co17, eo17⟩ := Kd.R_slice HO190.out; subst eo17) | ((with_reducible refine gate_callee (f := 30) rfl ?_); refine goesL_ (some 18) rfl rfl Try.func30 (by kernel_rfl) rfl #[.int .i64 10, .slice Ao17 y188.length co17, .int .i64 15, .int .i64 2] rfl aq ?_; (with_reducible refine (route_OnDuty.calls k 10 _ _ y188 15 2 t191 t192 _ ?side1 ?side2 A2.out).mono ?_); (case side1 => repeat (first | exact (Kd.R_reads' HO190.out).2.2 | (with_reducible refine Kd.C_alloc ?_ _) | (with_reducible refine Kd.C_drewN ?_ _) | (with_reducible refine Kd.C_drew ?_))); (case side2 => exact (Kd.R_reads' HO190.out).2.1); rintro e w18 ⟨rfl, hb⟩; refine ⟨_, rfl, ?_⟩; have n0_ := Aside0.mk (Kd.R_below (rq HO181) hb); have n1_ := Aside0.mk (Kd.R_below (rq HO184) hb); have n2_ := Aside0.mk (Kd.R_below (rq HO187) hb); have n3_ := Aside0.mk (Kd.R_below (rq HO190) hb); have n4_ := Aside0.mk (below_step (hq HB) hb); clear HO181; clear HO184; clear HO187; clear HO190; clear HB; have HO181 := n0_; have HO184 := n1_; have HO187 := n2_; have HO190 := n3_; have HB := n4_; clear n0_ n1_ n2_ n3_ n4_; (try clear hb); (try clear hb2); (try clear hk); (try clear hi)) | ((with_reducible refine gate_callee (f := 30) rfl ?_); refine goesL_ (some 23) rfl rfl Try.func30 (by kernel_rfl) rfl #[.int .i64 10, .slice Ao17 y188.length co17, .int .i64 8, .int .i64 1] rfl aq ?_; (with_reducible refine (route_OnDuty.calls k 10 _ _ y188 8 1 t193 t194 _ ?side1 ?side2 A3.out).mono ?_); (case side1 => repeat (first | exact (Kd.R_reads' HO190.out).2.2 | (with_reducible refine Kd.C_alloc ?_ _) | (with_reducible refine Kd.C_drewN ?_ _) | (with_reducible refine Kd.C_drew ?_))); (case side2 => exact (Kd.R_reads' HO190.out).2.1); rintro e w19 ⟨rfl, hb⟩; refine ⟨_, rfl, ?_⟩; have n0_ := Aside0.mk (Kd.R_below (rq HO181) hb); have n1_ := Aside0.mk (Kd.R_below (rq HO184) hb); have n2_ := Aside0.mk (Kd.R_below (rq HO187) hb); have n3_ := Aside0.mk (Kd.R_below (rq HO190) hb); have n4_ := Aside0.mk (below_step (hq HB) hb); clear HO181; clear HO184; clear HO187; clear HO190; clear HB; have HO181 := n0_; have HO184 := n1_; have HO187 := n2_; have HO190 := n3_; have HB := n4_; clear n0_ n1_ n2_ n3_ n4_; (try clear hb); (try clear hb2); (try clear hk); (try clear hi); obtain ⟨Ao20, co20, eo20⟩ := Kd.R_slice HO187.out; subst eo20; have p195 : 0 ≤ (0 : Int) := (by omega); have q195 : 0 < (t185.length : Int) := of_decide_eq_true (by first | (with_reducible assumption) | assumption); obtain ⟨ad195, e195, hx195_0⟩ := Kd.at_bool (Kd.R_reads' HO187.out).2.2 0 p195 q195; (try rw [← Nbq6.out] at hx195_0); cases e195; have qi195 : (0 < t185.length) = True := eq_true (by omega); (try rw [show ((0 : Int)).toNat = 0 from rfl] at hx195_0); (try rw [Addr.add_zero'] at hx195_0); replace p195 := eq_true p195; replace q195 := eq_true q195))
    go_ret
    exact ⟨by first | rfl | (simp [errW_none, errW_some] <;> rfl) | (simp [*, errW_none, errW_some] <;> rfl), by repeat (first | (with_reducible first | exact HB.out | apply below_alloc | apply pw_below_drewN | apply below_drew1) | exact HB.out)⟩
   ·replace c7 := Bool.eq_false_iff.mpr c7
    subst c7
    have H1 : (if 1 < (t185.length : Int) then (if rdOf false t185 1 = true then (some false) else (if 2 < (t185.length : Int) then (if rdOf false t185 2 = true then (if t192 = 0 then (if t194 = 0 then (if t191.toList = ([98, 111, 98] : List UInt8) then (some (t193.toList == ([97, 110, 110] : List UInt8))) else (some false)) else (some false)) else (some false)) else (some false)) else (none))) else (none)) = some r := by rw [if_neg (show ¬ (false = true) by decide)] at H; exact H
    clear H
    have H := H1
    clear H1
    by_cases c21 : 1 < (t185.length : Int)
    ·rw [if_pos c21] at H
     have c21b0 : decide (1 < (t185.length : Int)) = true := decide_eq_true c21
     have c21b1 : decide (1 < t185.length) = true := decide_eq_true (by omega)
     clear c21
     obtain ⟨bq22, hbq22⟩ : ∃ b_ : Bool, b_ = (rdOf false t185 1) := ⟨_, rfl⟩
     replace H : (if bq22 = true then (some false) else (if 2 < (t185.length : Int) then (if rdOf false t185 2 = true then (if t192 = 0 then (if t194 = 0 then (if t191.toList = ([98, 111, 98] : List UInt8) then (some (t193.toList == ([97, 110, 110] : List UInt8))) else (some false)) else (some false)) else (some false)) else (some false)) else (none))) = some r := by rw [← hbq22] at H; exact H
     have Nbq22 := Aside0.mk hbq22
     clear hbq22
     by_cases c23 : bq22 = true
     ·subst c23
      have H1 : (some false) = some r := by rw [if_pos rfl] at H; exact H
      clear H
      have H := H1
      clear H1
      obtain rfl := Option.some.inj H
      go_enter Try.func17, Try.ntmps17
      go_wp2_with (first | ((with_reducible refine gate_dst (N := 9) rfl ?_); refine Kd.R_lit k27 _ 27 ?hg (N := 9) ?hd (xs := ([(⟨0, 1⟩ : S27), (⟨1, 2⟩ : S27)] : List (S27))) (inner := [.int .i64 0, .int .i64 1, .int .i64 1, .int .i64 2]) (ok := fun _ => True) (okp := fun _ => True) ?hr ?hp (fun _ hk => hk) trivial (Below.refl _ _) (Nat.le_refl _) (by simp) ?_; (case hd => rfl); (case hg => rfl); (case hr => first | (go_simp; done) | (go_simp; rfl)); (case hp => exact (Reps.c2 (show Kd.M k27 _ _ _ (⟨0, 1⟩ : S27) [.int .i64 0, .int .i64 1] from (k27_mkM _ _ _ (⟨0, 1⟩ : S27) )) (Reps.c2 (show Kd.M k27 _ _ _ (⟨1, 2⟩ : S27) [.int .i64 1, .int .i64 2] from (k27_mkM _ _ _ (⟨1, 2⟩ : S27) )) (Reps.none _ _)))); intro v180 w24 ho25 hb hg_ hnew_; clear hg_ hnew_; (first | rw [← Ny179.out] at ho25 | (simp only [Int.reduceToNat] at ho25; rw [← Ny179.out] at ho25)); have n0_ := Aside0.mk (Kd.R_lower ho25 (below_size (hq HB))); have n1_ := Aside0.mk (below_step (hq HB) hb); clear HB; have HO181 := n0_; have HB := n1_; clear n0_ n1_; clear hb ho25; obtain ⟨Ao26, co26, eo26⟩ := Kd.R_slice HO181.out; subst eo26) | ((with_reducible refine gate_dst (N := 11) rfl ?_); refine Kd.R_lit Kd.bool _ 4 ?hg (N := 11) ?hd (xs := ([true, false, true] : List Bool)) (inner := [.bool true, .bool false, .bool true]) (ok := fun _ => True) (okp := fun _ => True) ?hr ?hp (fun _ hk => hk) trivial (Below.refl _ _) (Nat.le_refl _) (by simp) ?_; (case hd => rfl); (case hg => rfl); (case hr => first | (go_simp; done) | (go_simp; rfl)); (case hp => exact (Reps.one (show Kd.M Kd.bool _ _ _ true [.bool true] from rfl) (Reps.one (show Kd.M Kd.bool _ _ _ false [.bool false] from rfl) (Reps.one (show Kd.M Kd.bool _ _ _ true [.bool true] from rfl) (Reps.none _ _))))); intro v183 w27 ho28 hb hg_ hnew_; clear hg_ hnew_; (first | rw [← Ny182.out] at ho28 | (simp only [Int.reduceToNat] at ho28; rw [← Ny182.out] at ho28)); have n0_ := Aside0.mk (Kd.R_below (rq HO181) hb); have n1_ := Aside0.mk (Kd.R_lower ho28 (below_size (hq HB))); have n2_ := Aside0.mk (below_step (hq HB) hb); clear HO181; clear HB; have HO181 := n0_; have HO184 := n1_; have HB := n2_; clear n0_ n1_ n2_; clear hb ho28; obtain ⟨Ao29, co29, eo29⟩ := Kd.R_slice HO184.out; subst eo29) | ((with_reducible refine gate_callee (f := 20) rfl ?_); refine goesL_ (some 12) rfl rfl Try.func20 (by kernel_rfl) rfl #[.agg #[.int .i64 3, .slice Ao26 y179.length co26], .slice Ao29 y182.length co29] rfl aq ?_; (with_reducible refine (route_Inhibited.calls k 3 _ _ y179 _ _ y182 t185 _ ?side1 ?side2 ?side3 ?side4 A1.out).mono ?_); (case side1 => repeat (first | exact (Kd.R_reads' HO181.out).2.2 | (with_reducible refine Kd.C_alloc ?_ _) | (with_reducible refine Kd.C_drewN ?_ _) | (with_reducible refine Kd.C_drew ?_))); (case side2 => exact (Kd.R_reads' HO181.out).2.1); (case side3 => repeat (first | exact (Kd.R_reads' HO184.out).2.2 | (with_reducible refine Kd.C_alloc ?_ _) | (with_reducible refine Kd.C_drewN ?_ _) | (with_reducible refine Kd.C_drew ?_))); (case side4 => exact (Kd.R_reads' HO184.out).2.1); rintro e w30 ⟨v186, rfl, ho0, hb⟩; refine ⟨_, rfl, ?_⟩; have n0_ := Aside0.mk (Kd.R_below (rq HO181) hb); have n1_ := Aside0.mk (Kd.R_elder' (rq HO184) (Kd.R_base ho0) hb); have n2_ := Aside0.mk (Kd.R_lower (Kd.R_new' ho0 (Kd.R_lt (rq HO184))) (below_size (hq HB))); have n3_ := Aside0.mk (below_step (hq HB) hb); clear HO181; clear HO184; clear HB; have HO181 := n0_; have HO184 := n1_; have HO187 := n2_; have HB := n3_; clear n0_ n1_ n2_ n3_; (try clear hb); (try clear hb2); (try clear hk); (try clear hi); (try clear ho0)) | ((with_reducible refine gate_dst (N := 15) rfl ?_); refine Kd.R_lit k60 _ 60 ?hg (N := 15) ?hd (xs := ([(⟨(⟨#[97, 110, 110]⟩ : ByteArray), 0, 10⟩ : S60), (⟨(⟨#[98, 111, 98]⟩ : ByteArray), 4, 6⟩ : S60)] : List (S60))) (inner := [.string (⟨#[97, 110, 110]⟩ : ByteArray), .int .i64 0, .int .i64 10, .string (⟨#[98, 111, 98]⟩ : ByteArray), .int .i64 4, .int .i64 6]) (ok := fun _ => True) (okp := fun _ => True) ?hr ?hp (fun _ hk => hk) trivial (Below.refl _ _) (Nat.le_refl _) (by simp) ?_; (case hd => rfl); (case hg => rfl); (case hr => first | (go_simp; done) | (go_simp; rfl)); (case hp => exact (Reps.c3 (show Kd.M k60 _ _ _ (⟨(⟨#[97, 110, 110]⟩ : ByteArray), 0, 10⟩ : S60) [.string (⟨#[97, 110, 110]⟩ : ByteArray), .int .i64 0, .int .i64 10] from (k60_mkM _ _ _ (⟨(⟨#[97, 110, 110]⟩ : ByteArray), 0, 10⟩ : S60) )) (Reps.c3 (show Kd.M k60 _ _ _ (⟨(⟨#[98, 111, 98]⟩ : ByteArray), 4, 6⟩ : S60) [.string (⟨#[98, 111, 98]⟩ : ByteArray), .int .i64 4, .int .i64 6] from (k60_mkM _ _ _ (⟨(⟨#[98, 111, 98]⟩ : ByteArray), 4, 6⟩ : S60) )) (Reps.none _ _)))); intro v189 w31 ho32 hb hg_ hnew_; clear hg_ hnew_; (first | rw [← Ny188.out] at ho32 | (simp only [Int.reduceToNat] at ho32; rw [← Ny188.out] at ho32)); have n0_ := Aside0.mk (Kd.R_below (rq HO181) hb); have n1_ := Aside0.mk (Kd.R_below (rq HO184) hb); have n2_ := Aside0.mk (Kd.R_below (rq HO187) hb); have n3_ := Aside0.mk (Kd.R_lower ho32 (below_size (hq HB))); have n4_ := Aside0.mk (below_step (hq HB) hb); clear HO181; clear HO184; clear HO187; clear HB; have HO181 := n0_; have HO184 := n1_; have HO187 := n2_; have HO190 := n3_; have HB := n4_; clear n0_ n1_ n2_ n3_ n4_; clear hb ho32; obtain ⟨Ao33, co33, eo33⟩ := Kd.R_slice HO190.out; subst eo33) | ((with_reducible refine gate_callee (f := 30) rfl ?_); refine goesL_ (some 18) rfl rfl Try.func30 (by kernel_rfl) rfl #[.int .i64 10, .slice Ao33 y188.length co33, .int .i64 15, .int .i64 2] rfl aq ?_; (with_reducible refine (route_OnDuty.calls k 10 _ _ y188 15 2 t191 t192 _ ?side1 ?side2 A2.out).mono ?_); (case side1 => repeat (first | exact (Kd.R_reads' HO190.out).2.2 | (with_reducible refine Kd.C_alloc ?_ _) | (with_reducible refine Kd.C_drewN ?_ _) | (with_reducible refine Kd.C_drew ?_))); (case side2 => exact (Kd.R_reads' HO190.out).2.1); rintro e w34 ⟨rfl, hb⟩; refine ⟨_, rfl, ?_⟩; have n0_ := Aside0.mk (Kd.R_below (rq HO181) hb); have n1_ := Aside0.mk (Kd.R_below (rq HO184) hb); have n2_ := Aside0.mk (Kd.R_below (rq HO187) hb); have n3_ := Aside0.mk (Kd.R_below (rq HO190) hb); have n4_ := Aside0.mk (below_step (hq HB) hb); clear HO181; clear HO184; clear HO187; clear HO190; clear HB; have HO181 := n0_; have HO184 := n1_; have HO187 := n2_; have HO190 := n3_; have HB := n4_; clear n0_ n1_ n2_ n3_ n4_; (try clear hb); (try clear hb2); (try clear hk); (try clear hi)) | ((with_reducible refine gate_callee (f := 30) rfl ?_); refine goesL_ (some 23) rfl rfl Try.func30 (by kernel_rfl) rfl #[.int .i64 10, .slice Ao33 y188.length co33, .int .i64 8, .int .i64 1] rfl aq ?_; (with_reducible refine (route_OnDuty.calls k 10 _ _ y188 8 1 t193 t194 _ ?side1 ?side2 A3.out).mono ?_); (case side1 => repeat (first | exact (Kd.R_reads' HO190.out).2.2 | (with_reducible refine Kd.C_alloc ?_ _) | (with_reducible refine Kd.C_drewN ?_ _) | (with_reducible refine Kd.C_drew ?_))); (case side2 => exact (Kd.R_reads' HO190.out).2.1); rintro e w35 ⟨rfl, hb⟩; refine ⟨_, rfl, ?_⟩; have n0_ := Aside0.mk (Kd.R_below (rq HO181) hb); have n1_ := Aside0.mk (Kd.R_below (rq HO184) hb); have n2_ := Aside0.mk (Kd.R_below (rq HO187) hb); have n3_ := Aside0.mk (Kd.R_below (rq HO190) hb); have n4_ := Aside0.mk (below_step (hq HB) hb); clear HO181; clear HO184; clear HO187; clear HO190; clear HB; have HO181 := n0_; have HO184 := n1_; have HO187 := n2_; have HO190 := n3_; have HB := n4_; clear n0_ n1_ n2_ n3_ n4_; (try clear hb); (try clear hb2); (try clear hk); (try clear hi); obtain ⟨Ao36, co36, eo36⟩ := Kd.R_slice HO187.out; subst eo36; have p195 : 0 ≤ (0 : Int) := (by omega); have q195 : 0 < (t185.length : Int) := of_decide_eq_true (by first | (with_reducible assumption) | assumption); obtain ⟨ad195, e195, hx195_0⟩ := Kd.at_bool (Kd.R_reads' HO187.out).2.2 0 p195 q195; (try rw [← Nbq6.out] at hx195_0); (try rw [← Nbq22.out] at hx195_0); cases e195; have qi195 : (0 < t185.length) = True := eq_true (by omega); (try rw [show ((0 : Int)).toNat = 0 from rfl] at hx195_0); (try rw [Addr.add_zero'] at hx195_0); replace p195 := eq_true p195; replace q195 := eq_true q195; have p196 : 0 ≤ (1 : Int) := (by omega); have q196 : 1 < (t185.length : Int) := of_decide_eq_true (by first | (with_reducible assumption) | assumption); obtain ⟨ad196, e196, hx196_0⟩ := Kd.at_bool (Kd.R_reads' HO187.out).2.2 1 p196 q196; (try rw [← Nbq6.out] at hx196_0); (try rw [← Nbq22.out] at hx196_0); obtain rfl : ad195 = ad196 := (by injection e196); (try simp only [show (1 : Int).toNat = 1 from rfl, Nat.reduceMul, Nat.reduceEqDiff, Go.Addr.add, ↓reduceIte] at hx196_0); have qi196 : (1 < t185.length) = True := eq_true (by omega); (try rw [show ((1 : Int)).toNat = 1 from rfl] at hx196_0); replace p196 := eq_true p196; replace q196 := eq_true q196))
      go_ret
      exact ⟨by first | rfl | (simp [errW_none, errW_some] <;> rfl) | (simp [*, errW_none, errW_some] <;> rfl), by repeat (first | (with_reducible first | exact HB.out | apply below_alloc | apply pw_below_drewN | apply below_drew1) | exact HB.out)⟩
     ·replace c23 := Bool.eq_false_iff.mpr c23
      subst c23
      have H1 : (if 2 < (t185.length : Int) then (if rdOf false t185 2 = true then (if t192 = 0 then (if t194 = 0 then (if t191.toList = ([98, 111, 98] : List UInt8) then (some (t193.toList == ([97, 110, 110] : List UInt8))) else (some false)) else (some false)) else (some false)) else (some false)) else (none)) = some r := by rw [if_neg (show ¬ (false = true) by decide)] at H; exact H
      clear H
      have H := H1
      clear H1
      by_cases c37 : 2 < (t185.length : Int)
      ·rw [if_pos c37] at H
       have c37b0 : decide (2 < (t185.length : Int)) = true := decide_eq_true c37
       have c37b1 : decide (2 < t185.length) = true := decide_eq_true (by omega)
       clear c37
       obtain ⟨bq38, hbq38⟩ : ∃ b_ : Bool, b_ = (rdOf false t185 2) := ⟨_, rfl⟩
       replace H : (if bq38 = true then (if t192 = 0 then (if t194 = 0 then (if t191.toList = ([98, 111, 98] : List UInt8) then (some (t193.toList == ([97, 110, 110] : List UInt8))) else (some false)) else (some false)) else (some false)) else (some false)) = some r := by rw [← hbq38] at H; exact H
       have Nbq38 := Aside0.mk hbq38
       clear hbq38
       by_cases c39 : bq38 = true
       ·subst c39
        have H1 : (if t192 = 0 then (if t194 = 0 then (if t191.toList = ([98, 111, 98] : List UInt8) then (some (t193.toList == ([97, 110, 110] : List UInt8))) else (some false)) else (some false)) else (some false)) = some r := by rw [if_pos rfl] at H; exact H
        clear H
        have H := H1
        clear H1
        by_cases c40 : t192 = 0
        ·rw [if_pos c40] at H
         have c40b0 : (t192 == 0) = true := beq_iff_eq.mpr c40
         have c40b1 : (t192 != 0) = false := bne_eq_false_iff_eq.mpr c40
         clear c40
         by_cases c41 : t194 = 0
         ·rw [if_pos c41] at H
          have c41b0 : (t194 == 0) = true := beq_iff_eq.mpr c41
          have c41b1 : (t194 != 0) = false := bne_eq_false_iff_eq.mpr c41
          clear c41
          by_cases c42 : t191.toList = ([98, 111, 98] : List UInt8)
          ·rw [if_pos c42] at H
           have c42b0 : (t191.toList == ([98, 111, 98] : List UInt8)) = true := beq_iff_eq.mpr c42
           have c42b1 : (t191.toList != ([98, 111, 98] : List UInt8)) = false := bne_eq_false_iff_eq.mpr c42
           clear c42
           obtain rfl := Option.some.inj H
           go_enter Try.func17, Try.ntmps17
           go_wp2_with (first | ((with_reducible refine gate_dst (N := 9) rfl ?_); refine Kd.R_lit k27 _ 27 ?hg (N := 9) ?hd (xs := ([(⟨0, 1⟩ : S27), (⟨1, 2⟩ : S27)] : List (S27))) (inner := [.int .i64 0, .int .i64 1, .int .i64 1, .int .i64 2]) (ok := fun _ => True) (okp := fun _ => True) ?hr ?hp (fun _ hk => hk) trivial (Below.refl _ _) (Nat.le_refl _) (by simp) ?_; (case hd => rfl); (case hg => rfl); (case hr => first | (go_simp; done) | (go_simp; rfl)); (case hp => exact (Reps.c2 (show Kd.M k27 _ _ _ (⟨0, 1⟩ : S27) [.int .i64 0, .int .i64 1] from (k27_mkM _ _ _ (⟨0, 1⟩ : S27) )) (Reps.c2 (show Kd.M k27 _ _ _ (⟨1, 2⟩ : S27) [.int .i64 1, .int .i64 2] from (k27_mkM _ _ _ (⟨1, 2⟩ : S27) )) (Reps.none _ _)))); intro v180 w43 ho44 hb hg_ hnew_; clear hg_ hnew_; (first | rw [← Ny179.out] at ho44 | (simp only [Int.reduceToNat] at ho44; rw [← Ny179.out] at ho44)); have n0_ := Aside0.mk (Kd.R_lower ho44 (below_size (hq HB))); have n1_ := Aside0.mk (below_step (hq HB) hb); clear HB; have HO181 := n0_; have HB := n1_; clear n0_ n1_; clear hb ho44; obtain ⟨Ao45, co45, eo45⟩ := Kd.R_slice HO181.out; subst eo45) | ((with_reducible refine gate_dst (N := 11) rfl ?_); refine Kd.R_lit Kd.bool _ 4 ?hg (N := 11) ?hd (xs := ([true, false, true] : List Bool)) (inner := [.bool true, .bool false, .bool true]) (ok := fun _ => True) (okp := fun _ => True) ?hr ?hp (fun _ hk => hk) trivial (Below.refl _ _) (Nat.le_refl _) (by simp) ?_; (case hd => rfl); (case hg => rfl); (case hr => first | (go_simp; done) | (go_simp; rfl)); (case hp => exact (Reps.one (show Kd.M Kd.bool _ _ _ true [.bool true] from rfl) (Reps.one (show Kd.M Kd.bool _ _ _ false [.bool false] from rfl) (Reps.one (show Kd.M Kd.bool _ _ _ true [.bool true] from rfl) (Reps.none _ _))))); intro v183 w46 ho47 hb hg_ hnew_; clear hg_ hnew_; (first | rw [← Ny182.out] at ho47 | (simp only [Int.reduceToNat] at ho47; rw [← Ny182.out] at ho47)); have n0_ := Aside0.mk (Kd.R_below (rq HO181) hb); have n1_ := Aside0.mk (Kd.R_lower ho47 (below_size (hq HB))); have n2_ := Aside0.mk (below_step (hq HB) hb); clear HO181; clear HB; have HO181 := n0_; have HO184 := n1_; have HB := n2_; clear n0_ n1_ n2_; clear hb ho47; obtain ⟨Ao48, co48, eo48⟩ := Kd.R_slice HO184.out; subst eo48) | ((with_reducible refine gate_callee (f := 20) rfl ?_); refine goesL_ (some 12) rfl rfl Try.func20 (by kernel_rfl) rfl #[.agg #[.int .i64 3, .slice Ao45 y179.length co45], .slice Ao48 y182.length co48] rfl aq ?_; (with_reducible refine (route_Inhibited.calls k 3 _ _ y179 _ _ y182 t185 _ ?side1 ?side2 ?side3 ?side4 A1.out).mono ?_); (case side1 => repeat (first | exact (Kd.R_reads' HO181.out).2.2 | (with_reducible refine Kd.C_alloc ?_ _) | (with_reducible refine Kd.C_drewN ?_ _) | (with_reducible refine Kd.C_drew ?_))); (case side2 => exact (Kd.R_reads' HO181.out).2.1); (case side3 => repeat (first | exact (Kd.R_reads' HO184.out).2.2 | (with_reducible refine Kd.C_alloc ?_ _) | (with_reducible refine Kd.C_drewN ?_ _) | (with_reducible refine Kd.C_drew ?_))); (case side4 => exact (Kd.R_reads' HO184.out).2.1); rintro e w49 ⟨v186, rfl, ho0, hb⟩; refine ⟨_, rfl, ?_⟩; have n0_ := Aside0.mk (Kd.R_below (rq HO181) hb); have n1_ := Aside0.mk (Kd.R_elder' (rq HO184) (Kd.R_base ho0) hb); have n2_ := Aside0.mk (Kd.R_lower (Kd.R_new' ho0 (Kd.R_lt (rq HO184))) (below_size (hq HB))); have n3_ := Aside0.mk (below_step (hq HB) hb); clear HO181; clear HO184; clear HB; have HO181 := n0_; have HO184 := n1_; have HO187 := n2_; have HB := n3_; clear n0_ n1_ n2_ n3_; (try clear hb); (try clear hb2); (try clear hk); (try clear hi); (try clear ho0)) | ((with_reducible refine gate_dst (N := 15) rfl ?_); refine Kd.R_lit k60 _ 60 ?hg (N := 15) ?hd (xs := ([(⟨(⟨#[97, 110, 110]⟩ : ByteArray), 0, 10⟩ : S60), (⟨(⟨#[98, 111, 98]⟩ : ByteArray), 4, 6⟩ : S60)] : List (S60))) (inner := [.string (⟨#[97, 110, 110]⟩ : ByteArray), .int .i64 0, .int .i64 10, .string (⟨#[98, 111, 98]⟩ : ByteArray), .int .i64 4, .int .i64 6]) (ok := fun _ => True) (okp := fun _ => True) ?hr ?hp (fun _ hk => hk) trivial (Below.refl _ _) (Nat.le_refl _) (by simp) ?_; (case hd => rfl); (case hg => rfl); (case hr => first | (go_simp; done) | (go_simp; rfl)); (case hp => exact (Reps.c3 (show Kd.M k60 _ _ _ (⟨(⟨#[97, 110, 110]⟩ : ByteArray), 0, 10⟩ : S60) [.string (⟨#[97, 110, 110]⟩ : ByteArray), .int .i64 0, .int .i64 10] from (k60_mkM _ _ _ (⟨(⟨#[97, 110, 110]⟩ : ByteArray), 0, 10⟩ : S60) )) (Reps.c3 (show Kd.M k60 _ _ _ (⟨(⟨#[98, 111, 98]⟩ : ByteArray), 4, 6⟩ : S60) [.string (⟨#[98, 111, 98]⟩ : ByteArray), .int .i64 4, .int .i64 6] from (k60_mkM _ _ _ (⟨(⟨#[98, 111, 98]⟩ : ByteArray), 4, 6⟩ : S60) )) (Reps.none _ _)))); intro v189 w50 ho51 hb hg_ hnew_; clear hg_ hnew_; (first | rw [← Ny188.out] at ho51 | (simp only [Int.reduceToNat] at ho51; rw [← Ny188.out] at ho51)); have n0_ := Aside0.mk (Kd.R_below (rq HO181) hb); have n1_ := Aside0.mk (Kd.R_below (rq HO184) hb); have n2_ := Aside0.mk (Kd.R_below (rq HO187) hb); have n3_ := Aside0.mk (Kd.R_lower ho51 (below_size (hq HB))); have n4_ := Aside0.mk (below_step (hq HB) hb); clear HO181; clear HO184; clear HO187; clear HB; have HO181 := n0_; have HO184 := n1_; have HO187 := n2_; have HO190 := n3_; have HB := n4_; clear n0_ n1_ n2_ n3_ n4_; clear hb ho51; obtain ⟨Ao52, co52, eo52⟩ := Kd.R_slice HO190.out; subst eo52) | ((with_reducible refine gate_callee (f := 30) rfl ?_); refine goesL_ (some 18) rfl rfl Try.func30 (by kernel_rfl) rfl #[.int .i64 10, .slice Ao52 y188.length co52, .int .i64 15, .int .i64 2] rfl aq ?_; (with_reducible refine (route_OnDuty.calls k 10 _ _ y188 15 2 t191 t192 _ ?side1 ?side2 A2.out).mono ?_); (case side1 => repeat (first | exact (Kd.R_reads' HO190.out).2.2 | (with_reducible refine Kd.C_alloc ?_ _) | (with_reducible refine Kd.C_drewN ?_ _) | (with_reducible refine Kd.C_drew ?_))); (case side2 => exact (Kd.R_reads' HO190.out).2.1); rintro e w53 ⟨rfl, hb⟩; refine ⟨_, rfl, ?_⟩; have n0_ := Aside0.mk (Kd.R_below (rq HO181) hb); have n1_ := Aside0.mk (Kd.R_below (rq HO184) hb); have n2_ := Aside0.mk (Kd.R_below (rq HO187) hb); have n3_ := Aside0.mk (Kd.R_below (rq HO190) hb); have n4_ := Aside0.mk (below_step (hq HB) hb); clear HO181; clear HO184; clear HO187; clear HO190; clear HB; have HO181 := n0_; have HO184 := n1_; have HO187 := n2_; have HO190 := n3_; have HB := n4_; clear n0_ n1_ n2_ n3_ n4_; (try clear hb); (try clear hb2); (try clear hk); (try clear hi)) | ((with_reducible refine gate_callee (f := 30) rfl ?_); refine goesL_ (some 23) rfl rfl Try.func30 (by kernel_rfl) rfl #[.int .i64 10, .slice Ao52 y188.length co52, .int .i64 8, .int .i64 1] rfl aq ?_; (with_reducible refine (route_OnDuty.calls k 10 _ _ y188 8 1 t193 t194 _ ?side1 ?side2 A3.out).mono ?_); (case side1 => repeat (first | exact (Kd.R_reads' HO190.out).2.2 | (with_reducible refine Kd.C_alloc ?_ _) | (with_reducible refine Kd.C_drewN ?_ _) | (with_reducible refine Kd.C_drew ?_))); (case side2 => exact (Kd.R_reads' HO190.out).2.1); rintro e w54 ⟨rfl, hb⟩; refine ⟨_, rfl, ?_⟩; have n0_ := Aside0.mk (Kd.R_below (rq HO181) hb); have n1_ := Aside0.mk (Kd.R_below (rq HO184) hb); have n2_ := Aside0.mk (Kd.R_below (rq HO187) hb); have n3_ := Aside0.mk (Kd.R_below (rq HO190) hb); have n4_ := Aside0.mk (below_step (hq HB) hb); clear HO181; clear HO184; clear HO187; clear HO190; clear HB; have HO181 := n0_; have HO184 := n1_; have HO187 := n2_; have HO190 := n3_; have HB := n4_; clear n0_ n1_ n2_ n3_ n4_; (try clear hb); (try clear hb2); (try clear hk); (try clear hi); obtain ⟨Ao55, co55, eo55⟩ := Kd.R_slice HO187.out; subst eo55; have p195 : 0 ≤ (0 : Int) := (by omega); have q195 : 0 < (t185.length : Int) := of_decide_eq_true (by first | (with_reducible assumption) | assumption); obtain ⟨ad195, e195, hx195_0⟩ := Kd.at_bool (Kd.R_reads' HO187.out).2.2 0 p195 q195; (try rw [← Nbq6.out] at hx195_0); (try rw [← Nbq22.out] at hx195_0); (try rw [← Nbq38.out] at hx195_0); cases e195; have qi195 : (0 < t185.length) = True := eq_true (by omega); (try rw [show ((0 : Int)).toNat = 0 from rfl] at hx195_0); (try rw [Addr.add_zero'] at hx195_0); replace p195 := eq_true p195; replace q195 := eq_true q195; have p196 : 0 ≤ (1 : Int) := (by omega); have q196 : 1 < (t185.length : Int) := of_decide_eq_true (by first | (with_reducible assumption) | assumption); obtain ⟨ad196, e196, hx196_0⟩ := Kd.at_bool (Kd.R_reads' HO187.out).2.2 1 p196 q196; (try rw [← Nbq6.out] at hx196_0); (try rw [← Nbq22.out] at hx196_0); (try rw [← Nbq38.out] at hx196_0); obtain rfl : ad195 = ad196 := (by injection e196); (try simp only [show (1 : Int).toNat = 1 from rfl, Nat.reduceMul, Nat.reduceEqDiff, Go.Addr.add, ↓reduceIte] at hx196_0); have qi196 : (1 < t185.length) = True := eq_true (by omega); (try rw [show ((1 : Int)).toNat = 1 from rfl] at hx196_0); replace p196 := eq_true p196; replace q196 := eq_true q196; have p197 : 0 ≤ (2 : Int) := (by omega); have q197 : 2 < (t185.length : Int) := of_decide_eq_true (by first | (with_reducible assumption) | assumption); obtain ⟨ad197, e197, hx197_0⟩ := Kd.at_bool (Kd.R_reads' HO187.out).2.2 2 p197 q197; (try rw [← Nbq6.out] at hx197_0); (try rw [← Nbq22.out] at hx197_0); (try rw [← Nbq38.out] at hx197_0); obtain rfl : ad195 = ad197 := (by injection e197); (try simp only [show (2 : Int).toNat = 2 from rfl, Nat.reduceMul, Nat.reduceEqDiff, Go.Addr.add, ↓reduceIte] at hx197_0); have qi197 : (2 < t185.length) = True := eq_true (by omega); (try rw [show ((2 : Int)).toNat = 2 from rfl] at hx197_0); replace p197 := eq_true p197; replace q197 := eq_true q197))
           go_ret
           exact ⟨by first | rfl | (simp [errW_none, errW_some] <;> rfl) | (simp [*, errW_none, errW_some] <;> rfl), by repeat (first | (with_reducible first | exact HB.out | apply below_alloc | apply pw_below_drewN | apply below_drew1) | exact HB.out)⟩
          ·rw [if_neg c42] at H
           have c42b0 : (t191.toList == ([98, 111, 98] : List UInt8)) = false := beq_eq_false_iff_ne.mpr c42
           have c42b1 : (t191.toList != ([98, 111, 98] : List UInt8)) = true := bne_iff_ne.mpr c42
           obtain rfl := Option.some.inj H
           go_enter Try.func17, Try.ntmps17
           go_wp2_with (first | ((with_reducible refine gate_dst (N := 9) rfl ?_); refine Kd.R_lit k27 _ 27 ?hg (N := 9) ?hd (xs := ([(⟨0, 1⟩ : S27), (⟨1, 2⟩ : S27)] : List (S27))) (inner := [.int .i64 0, .int .i64 1, .int .i64 1, .int .i64 2]) (ok := fun _ => True) (okp := fun _ => True) ?hr ?hp (fun _ hk => hk) trivial (Below.refl _ _) (Nat.le_refl _) (by simp) ?_; (case hd => rfl); (case hg => rfl); (case hr => first | (go_simp; done) | (go_simp; rfl)); (case hp => exact (Reps.c2 (show Kd.M k27 _ _ _ (⟨0, 1⟩ : S27) [.int .i64 0, .int .i64 1] from (k27_mkM _ _ _ (⟨0, 1⟩ : S27) )) (Reps.c2 (show Kd.M k27 _ _ _ (⟨1, 2⟩ : S27) [.int .i64 1, .int .i64 2] from (k27_mkM _ _ _ (⟨1, 2⟩ : S27) )) (Reps.none _ _)))); intro v180 w56 ho57 hb hg_ hnew_; clear hg_ hnew_; (first | rw [← Ny179.out] at ho57 | (simp only [Int.reduceToNat] at ho57; rw [← Ny179.out] at ho57)); have n0_ := Aside0.mk (Kd.R_lower ho57 (below_size (hq HB))); have n1_ := Aside0.mk (below_step (hq HB) hb); clear HB; have HO181 := n0_; have HB := n1_; clear n0_ n1_; clear hb ho57; obtain ⟨Ao58, co58, eo58⟩ := Kd.R_slice HO181.out; subst eo58) | ((with_reducible refine gate_dst (N := 11) rfl ?_); refine Kd.R_lit Kd.bool _ 4 ?hg (N := 11) ?hd (xs := ([true, false, true] : List Bool)) (inner := [.bool true, .bool false, .bool true]) (ok := fun _ => True) (okp := fun _ => True) ?hr ?hp (fun _ hk => hk) trivial (Below.refl _ _) (Nat.le_refl _) (by simp) ?_; (case hd => rfl); (case hg => rfl); (case hr => first | (go_simp; done) | (go_simp; rfl)); (case hp => exact (Reps.one (show Kd.M Kd.bool _ _ _ true [.bool true] from rfl) (Reps.one (show Kd.M Kd.bool _ _ _ false [.bool false] from rfl) (Reps.one (show Kd.M Kd.bool _ _ _ true [.bool true] from rfl) (Reps.none _ _))))); intro v183 w59 ho60 hb hg_ hnew_; clear hg_ hnew_; (first | rw [← Ny182.out] at ho60 | (simp only [Int.reduceToNat] at ho60; rw [← Ny182.out] at ho60)); have n0_ := Aside0.mk (Kd.R_below (rq HO181) hb); have n1_ := Aside0.mk (Kd.R_lower ho60 (below_size (hq HB))); have n2_ := Aside0.mk (below_step (hq HB) hb); clear HO181; clear HB; have HO181 := n0_; have HO184 := n1_; have HB := n2_; clear n0_ n1_ n2_; clear hb ho60; obtain ⟨Ao61, co61, eo61⟩ := Kd.R_slice HO184.out; subst eo61) | ((with_reducible refine gate_callee (f := 20) rfl ?_); refine goesL_ (some 12) rfl rfl Try.func20 (by kernel_rfl) rfl #[.agg #[.int .i64 3, .slice Ao58 y179.length co58], .slice Ao61 y182.length co61] rfl aq ?_; (with_reducible refine (route_Inhibited.calls k 3 _ _ y179 _ _ y182 t185 _ ?side1 ?side2 ?side3 ?side4 A1.out).mono ?_); (case side1 => repeat (first | exact (Kd.R_reads' HO181.out).2.2 | (with_reducible refine Kd.C_alloc ?_ _) | (with_reducible refine Kd.C_drewN ?_ _) | (with_reducible refine Kd.C_drew ?_))); (case side2 => exact (Kd.R_reads' HO181.out).2.1); (case side3 => repeat (first | exact (Kd.R_reads' HO184.out).2.2 | (with_reducible refine Kd.C_alloc ?_ _) | (with_reducible refine Kd.C_drewN ?_ _) | (with_reducible refine Kd.C_drew ?_))); (case side4 => exact (Kd.R_reads' HO184.out).2.1); rintro e w62 ⟨v186, rfl, ho0, hb⟩; refine ⟨_, rfl, ?_⟩; have n0_ := Aside0.mk (Kd.R_below (rq HO181) hb); have n1_ := Aside0.mk (Kd.R_elder' (rq HO184) (Kd.R_base ho0) hb); have n2_ := Aside0.mk (Kd.R_lower (Kd.R_new' ho0 (Kd.R_lt (rq HO184))) (below_size (hq HB))); have n3_ := Aside0.mk (below_step (hq HB) hb); clear HO181; clear HO184; clear HB; have HO181 := n0_; have HO184 := n1_; have HO187 := n2_; have HB := n3_; clear n0_ n1_ n2_ n3_; (try clear hb); (try clear hb2); (try clear hk); (try clear hi); (try clear ho0)) | ((with_reducible refine gate_dst (N := 15) rfl ?_); refine Kd.R_lit k60 _ 60 ?hg (N := 15) ?hd (xs := ([(⟨(⟨#[97, 110, 110]⟩ : ByteArray), 0, 10⟩ : S60), (⟨(⟨#[98, 111, 98]⟩ : ByteArray), 4, 6⟩ : S60)] : List (S60))) (inner := [.string (⟨#[97, 110, 110]⟩ : ByteArray), .int .i64 0, .int .i64 10, .string (⟨#[98, 111, 98]⟩ : ByteArray), .int .i64 4, .int .i64 6]) (ok := fun _ => True) (okp := fun _ => True) ?hr ?hp (fun _ hk => hk) trivial (Below.refl _ _) (Nat.le_refl _) (by simp) ?_; (case hd => rfl); (case hg => rfl); (case hr => first | (go_simp; done) | (go_simp; rfl)); (case hp => exact (Reps.c3 (show Kd.M k60 _ _ _ (⟨(⟨#[97, 110, 110]⟩ : ByteArray), 0, 10⟩ : S60) [.string (⟨#[97, 110, 110]⟩ : ByteArray), .int .i64 0, .int .i64 10] from (k60_mkM _ _ _ (⟨(⟨#[97, 110, 110]⟩ : ByteArray), 0, 10⟩ : S60) )) (Reps.c3 (show Kd.M k60 _ _ _ (⟨(⟨#[98, 111, 98]⟩ : ByteArray), 4, 6⟩ : S60) [.string (⟨#[98, 111, 98]⟩ : ByteArray), .int .i64 4, .int .i64 6] from (k60_mkM _ _ _ (⟨(⟨#[98, 111, 98]⟩ : ByteArray), 4, 6⟩ : S60) )) (Reps.none _ _)))); intro v189 w63 ho64 hb hg_ hnew_; clear hg_ hnew_; (first | rw [← Ny188.out] at ho64 | (simp only [Int.reduceToNat] at ho64; rw [← Ny188.out] at ho64)); have n0_ := Aside0.mk (Kd.R_below (rq HO181) hb); have n1_ := Aside0.mk (Kd.R_below (rq HO184) hb); have n2_ := Aside0.mk (Kd.R_below (rq HO187) hb); have n3_ := Aside0.mk (Kd.R_lower ho64 (below_size (hq HB))); have n4_ := Aside0.mk (below_step (hq HB) hb); clear HO181; clear HO184; clear HO187; clear HB; have HO181 := n0_; have HO184 := n1_; have HO187 := n2_; have HO190 := n3_; have HB := n4_; clear n0_ n1_ n2_ n3_ n4_; clear hb ho64; obtain ⟨Ao65, co65, eo65⟩ := Kd.R_slice HO190.out; subst eo65) | ((with_reducible refine gate_callee (f := 30) rfl ?_); refine goesL_ (some 18) rfl rfl Try.func30 (by kernel_rfl) rfl #[.int .i64 10, .slice Ao65 y188.length co65, .int .i64 15, .int .i64 2] rfl aq ?_; (with_reducible refine (route_OnDuty.calls k 10 _ _ y188 15 2 t191 t192 _ ?side1 ?side2 A2.out).mono ?_); (case side1 => repeat (first | exact (Kd.R_reads' HO190.out).2.2 | (with_reducible refine Kd.C_alloc ?_ _) | (with_reducible refine Kd.C_drewN ?_ _) | (with_reducible refine Kd.C_drew ?_))); (case side2 => exact (Kd.R_reads' HO190.out).2.1); rintro e w66 ⟨rfl, hb⟩; refine ⟨_, rfl, ?_⟩; have n0_ := Aside0.mk (Kd.R_below (rq HO181) hb); have n1_ := Aside0.mk (Kd.R_below (rq HO184) hb); have n2_ := Aside0.mk (Kd.R_below (rq HO187) hb); have n3_ := Aside0.mk (Kd.R_below (rq HO190) hb); have n4_ := Aside0.mk (below_step (hq HB) hb); clear HO181; clear HO184; clear HO187; clear HO190; clear HB; have HO181 := n0_; have HO184 := n1_; have HO187 := n2_; have HO190 := n3_; have HB := n4_; clear n0_ n1_ n2_ n3_ n4_; (try clear hb); (try clear hb2); (try clear hk); (try clear hi)) | ((with_reducible refine gate_callee (f := 30) rfl ?_); refine goesL_ (some 23) rfl rfl Try.func30 (by kernel_rfl) rfl #[.int .i64 10, .slice Ao65 y188.length co65, .int .i64 8, .int .i64 1] rfl aq ?_; (with_reducible refine (route_OnDuty.calls k 10 _ _ y188 8 1 t193 t194 _ ?side1 ?side2 A3.out).mono ?_); (case side1 => repeat (first | exact (Kd.R_reads' HO190.out).2.2 | (with_reducible refine Kd.C_alloc ?_ _) | (with_reducible refine Kd.C_drewN ?_ _) | (with_reducible refine Kd.C_drew ?_))); (case side2 => exact (Kd.R_reads' HO190.out).2.1); rintro e w67 ⟨rfl, hb⟩; refine ⟨_, rfl, ?_⟩; have n0_ := Aside0.mk (Kd.R_below (rq HO181) hb); have n1_ := Aside0.mk (Kd.R_below (rq HO184) hb); have n2_ := Aside0.mk (Kd.R_below (rq HO187) hb); have n3_ := Aside0.mk (Kd.R_below (rq HO190) hb); have n4_ := Aside0.mk (below_step (hq HB) hb); clear HO181; clear HO184; clear HO187; clear HO190; clear HB; have HO181 := n0_; have HO184 := n1_; have HO187 := n2_; have HO190 := n3_; have HB := n4_; clear n0_ n1_ n2_ n3_ n4_; (try clear hb); (try clear hb2); (try clear hk); (try clear hi); obtain ⟨Ao68, co68, eo68⟩ := Kd.R_slice HO187.out; subst eo68; have p195 : 0 ≤ (0 : Int) := (by omega); have q195 : 0 < (t185.length : Int) := of_decide_eq_true (by first | (with_reducible assumption) | assumption); obtain ⟨ad195, e195, hx195_0⟩ := Kd.at_bool (Kd.R_reads' HO187.out).2.2 0 p195 q195; (try rw [← Nbq6.out] at hx195_0); (try rw [← Nbq22.out] at hx195_0); (try rw [← Nbq38.out] at hx195_0); cases e195; have qi195 : (0 < t185.length) = True := eq_true (by omega); (try rw [show ((0 : Int)).toNat = 0 from rfl] at hx195_0); (try rw [Addr.add_zero'] at hx195_0); replace p195 := eq_true p195; replace q195 := eq_true q195; have p196 : 0 ≤ (1 : Int) := (by omega); have q196 : 1 < (t185.length : Int) := of_decide_eq_true (by first | (with_reducible assumption) | assumption); obtain ⟨ad196, e196, hx196_0⟩ := Kd.at_bool (Kd.R_reads' HO187.out).2.2 1 p196 q196; (try rw [← Nbq6.out] at hx196_0); (try rw [← Nbq22.out] at hx196_0); (try rw [← Nbq38.out] at hx196_0); obtain rfl : ad195 = ad196 := (by injection e196); (try simp only [show (1 : Int).toNat = 1 from rfl, Nat.reduceMul, Nat.reduceEqDiff, Go.Addr.add, ↓reduceIte] at hx196_0); have qi196 : (1 < t185.length) = True := eq_true (by omega); (try rw [show ((1 : Int)).toNat = 1 from rfl] at hx196_0); replace p196 := eq_true p196; replace q196 := eq_true q196; have p197 : 0 ≤ (2 : Int) := (by omega); have q197 : 2 < (t185.length : Int) := of_decide_eq_true (by first | (with_reducible assumption) | assumption); obtain ⟨ad197, e197, hx197_0⟩ := Kd.at_bool (Kd.R_reads' HO187.out).2.2 2 p197 q197; (try rw [← Nbq6.out] at hx197_0); (try rw [← Nbq22.out] at hx197_0); (try rw [← Nbq38.out] at hx197_0); obtain rfl : ad195 = ad197 := (by injection e197); (try simp only [show (2 : Int).toNat = 2 from rfl, Nat.reduceMul, Nat.reduceEqDiff, Go.Addr.add, ↓reduceIte] at hx197_0); have qi197 : (2 < t185.length) = True := eq_true (by omega); (try rw [show ((2 : Int)).toNat = 2 from rfl] at hx197_0); replace p197 := eq_true p197; replace q197 := eq_true q197))
           go_ret
           exact ⟨by first | rfl | (simp [errW_none, errW_some] <;> rfl) | (simp [*, errW_none, errW_some] <;> rfl), by repeat (first | (with_reducible first | exact HB.out | apply below_alloc | apply pw_below_drewN | apply below_drew1) | exact HB.out)⟩
         ·rw [if_neg c41] at H
          have c41b0 : (t194 == 0) = false := beq_eq_false_iff_ne.mpr c41
          have c41b1 : (t194 != 0) = true := bne_iff_ne.mpr c41
          obtain rfl := Option.some.inj H
          go_enter Try.func17, Try.ntmps17
          go_wp2_with (first | ((with_reducible refine gate_dst (N := 9) rfl ?_); refine Kd.R_lit k27 _ 27 ?hg (N := 9) ?hd (xs := ([(⟨0, 1⟩ : S27), (⟨1, 2⟩ : S27)] : List (S27))) (inner := [.int .i64 0, .int .i64 1, .int .i64 1, .int .i64 2]) (ok := fun _ => True) (okp := fun _ => True) ?hr ?hp (fun _ hk => hk) trivial (Below.refl _ _) (Nat.le_refl _) (by simp) ?_; (case hd => rfl); (case hg => rfl); (case hr => first | (go_simp; done) | (go_simp; rfl)); (case hp => exact (Reps.c2 (show Kd.M k27 _ _ _ (⟨0, 1⟩ : S27) [.int .i64 0, .int .i64 1] from (k27_mkM _ _ _ (⟨0, 1⟩ : S27) )) (Reps.c2 (show Kd.M k27 _ _ _ (⟨1, 2⟩ : S27) [.int .i64 1, .int .i64 2] from (k27_mkM _ _ _ (⟨1, 2⟩ : S27) )) (Reps.none _ _)))); intro v180 w69 ho70 hb hg_ hnew_; clear hg_ hnew_; (first | rw [← Ny179.out] at ho70 | (simp only [Int.reduceToNat] at ho70; rw [← Ny179.out] at ho70)); have n0_ := Aside0.mk (Kd.R_lower ho70 (below_size (hq HB))); have n1_ := Aside0.mk (below_step (hq HB) hb); clear HB; have HO181 := n0_; have HB := n1_; clear n0_ n1_; clear hb ho70; obtain ⟨Ao71, co71, eo71⟩ := Kd.R_slice HO181.out; subst eo71) | ((with_reducible refine gate_dst (N := 11) rfl ?_); refine Kd.R_lit Kd.bool _ 4 ?hg (N := 11) ?hd (xs := ([true, false, true] : List Bool)) (inner := [.bool true, .bool false, .bool true]) (ok := fun _ => True) (okp := fun _ => True) ?hr ?hp (fun _ hk => hk) trivial (Below.refl _ _) (Nat.le_refl _) (by simp) ?_; (case hd => rfl); (case hg => rfl); (case hr => first | (go_simp; done) | (go_simp; rfl)); (case hp => exact (Reps.one (show Kd.M Kd.bool _ _ _ true [.bool true] from rfl) (Reps.one (show Kd.M Kd.bool _ _ _ false [.bool false] from rfl) (Reps.one (show Kd.M Kd.bool _ _ _ true [.bool true] from rfl) (Reps.none _ _))))); intro v183 w72 ho73 hb hg_ hnew_; clear hg_ hnew_; (first | rw [← Ny182.out] at ho73 | (simp only [Int.reduceToNat] at ho73; rw [← Ny182.out] at ho73)); have n0_ := Aside0.mk (Kd.R_below (rq HO181) hb); have n1_ := Aside0.mk (Kd.R_lower ho73 (below_size (hq HB))); have n2_ := Aside0.mk (below_step (hq HB) hb); clear HO181; clear HB; have HO181 := n0_; have HO184 := n1_; have HB := n2_; clear n0_ n1_ n2_; clear hb ho73; obtain ⟨Ao74, co74, eo74⟩ := Kd.R_slice HO184.out; subst eo74) | ((with_reducible refine gate_callee (f := 20) rfl ?_); refine goesL_ (some 12) rfl rfl Try.func20 (by kernel_rfl) rfl #[.agg #[.int .i64 3, .slice Ao71 y179.length co71], .slice Ao74 y182.length co74] rfl aq ?_; (with_reducible refine (route_Inhibited.calls k 3 _ _ y179 _ _ y182 t185 _ ?side1 ?side2 ?side3 ?side4 A1.out).mono ?_); (case side1 => repeat (first | exact (Kd.R_reads' HO181.out).2.2 | (with_reducible refine Kd.C_alloc ?_ _) | (with_reducible refine Kd.C_drewN ?_ _) | (with_reducible refine Kd.C_drew ?_))); (case side2 => exact (Kd.R_reads' HO181.out).2.1); (case side3 => repeat (first | exact (Kd.R_reads' HO184.out).2.2 | (with_reducible refine Kd.C_alloc ?_ _) | (with_reducible refine Kd.C_drewN ?_ _) | (with_reducible refine Kd.C_drew ?_))); (case side4 => exact (Kd.R_reads' HO184.out).2.1); rintro e w75 ⟨v186, rfl, ho0, hb⟩; refine ⟨_, rfl, ?_⟩; have n0_ := Aside0.mk (Kd.R_below (rq HO181) hb); have n1_ := Aside0.mk (Kd.R_elder' (rq HO184) (Kd.R_base ho0) hb); have n2_ := Aside0.mk (Kd.R_lower (Kd.R_new' ho0 (Kd.R_lt (rq HO184))) (below_size (hq HB))); have n3_ := Aside0.mk (below_step (hq HB) hb); clear HO181; clear HO184; clear HB; have HO181 := n0_; have HO184 := n1_; have HO187 := n2_; have HB := n3_; clear n0_ n1_ n2_ n3_; (try clear hb); (try clear hb2); (try clear hk); (try clear hi); (try clear ho0)) | ((with_reducible refine gate_dst (N := 15) rfl ?_); refine Kd.R_lit k60 _ 60 ?hg (N := 15) ?hd (xs := ([(⟨(⟨#[97, 110, 110]⟩ : ByteArray), 0, 10⟩ : S60), (⟨(⟨#[98, 111, 98]⟩ : ByteArray), 4, 6⟩ : S60)] : List (S60))) (inner := [.string (⟨#[97, 110, 110]⟩ : ByteArray), .int .i64 0, .int .i64 10, .string (⟨#[98, 111, 98]⟩ : ByteArray), .int .i64 4, .int .i64 6]) (ok := fun _ => True) (okp := fun _ => True) ?hr ?hp (fun _ hk => hk) trivial (Below.refl _ _) (Nat.le_refl _) (by simp) ?_; (case hd => rfl); (case hg => rfl); (case hr => first | (go_simp; done) | (go_simp; rfl)); (case hp => exact (Reps.c3 (show Kd.M k60 _ _ _ (⟨(⟨#[97, 110, 110]⟩ : ByteArray), 0, 10⟩ : S60) [.string (⟨#[97, 110, 110]⟩ : ByteArray), .int .i64 0, .int .i64 10] from (k60_mkM _ _ _ (⟨(⟨#[97, 110, 110]⟩ : ByteArray), 0, 10⟩ : S60) )) (Reps.c3 (show Kd.M k60 _ _ _ (⟨(⟨#[98, 111, 98]⟩ : ByteArray), 4, 6⟩ : S60) [.string (⟨#[98, 111, 98]⟩ : ByteArray), .int .i64 4, .int .i64 6] from (k60_mkM _ _ _ (⟨(⟨#[98, 111, 98]⟩ : ByteArray), 4, 6⟩ : S60) )) (Reps.none _ _)))); intro v189 w76 ho77 hb hg_ hnew_; clear hg_ hnew_; (first | rw [← Ny188.out] at ho77 | (simp only [Int.reduceToNat] at ho77; rw [← Ny188.out] at ho77)); have n0_ := Aside0.mk (Kd.R_below (rq HO181) hb); have n1_ := Aside0.mk (Kd.R_below (rq HO184) hb); have n2_ := Aside0.mk (Kd.R_below (rq HO187) hb); have n3_ := Aside0.mk (Kd.R_lower ho77 (below_size (hq HB))); have n4_ := Aside0.mk (below_step (hq HB) hb); clear HO181; clear HO184; clear HO187; clear HB; have HO181 := n0_; have HO184 := n1_; have HO187 := n2_; have HO190 := n3_; have HB := n4_; clear n0_ n1_ n2_ n3_ n4_; clear hb ho77; obtain ⟨Ao78, co78, eo78⟩ := Kd.R_slice HO190.out; subst eo78) | ((with_reducible refine gate_callee (f := 30) rfl ?_); refine goesL_ (some 18) rfl rfl Try.func30 (by kernel_rfl) rfl #[.int .i64 10, .slice Ao78 y188.length co78, .int .i64 15, .int .i64 2] rfl aq ?_; (with_reducible refine (route_OnDuty.calls k 10 _ _ y188 15 2 t191 t192 _ ?side1 ?side2 A2.out).mono ?_); (case side1 => repeat (first | exact (Kd.R_reads' HO190.out).2.2 | (with_reducible refine Kd.C_alloc ?_ _) | (with_reducible refine Kd.C_drewN ?_ _) | (with_reducible refine Kd.C_drew ?_))); (case side2 => exact (Kd.R_reads' HO190.out).2.1); rintro e w79 ⟨rfl, hb⟩; refine ⟨_, rfl, ?_⟩; have n0_ := Aside0.mk (Kd.R_below (rq HO181) hb); have n1_ := Aside0.mk (Kd.R_below (rq HO184) hb); have n2_ := Aside0.mk (Kd.R_below (rq HO187) hb); have n3_ := Aside0.mk (Kd.R_below (rq HO190) hb); have n4_ := Aside0.mk (below_step (hq HB) hb); clear HO181; clear HO184; clear HO187; clear HO190; clear HB; have HO181 := n0_; have HO184 := n1_; have HO187 := n2_; have HO190 := n3_; have HB := n4_; clear n0_ n1_ n2_ n3_ n4_; (try clear hb); (try clear hb2); (try clear hk); (try clear hi)) | ((with_reducible refine gate_callee (f := 30) rfl ?_); refine goesL_ (some 23) rfl rfl Try.func30 (by kernel_rfl) rfl #[.int .i64 10, .slice Ao78 y188.length co78, .int .i64 8, .int .i64 1] rfl aq ?_; (with_reducible refine (route_OnDuty.calls k 10 _ _ y188 8 1 t193 t194 _ ?side1 ?side2 A3.out).mono ?_); (case side1 => repeat (first | exact (Kd.R_reads' HO190.out).2.2 | (with_reducible refine Kd.C_alloc ?_ _) | (with_reducible refine Kd.C_drewN ?_ _) | (with_reducible refine Kd.C_drew ?_))); (case side2 => exact (Kd.R_reads' HO190.out).2.1); rintro e w80 ⟨rfl, hb⟩; refine ⟨_, rfl, ?_⟩; have n0_ := Aside0.mk (Kd.R_below (rq HO181) hb); have n1_ := Aside0.mk (Kd.R_below (rq HO184) hb); have n2_ := Aside0.mk (Kd.R_below (rq HO187) hb); have n3_ := Aside0.mk (Kd.R_below (rq HO190) hb); have n4_ := Aside0.mk (below_step (hq HB) hb); clear HO181; clear HO184; clear HO187; clear HO190; clear HB; have HO181 := n0_; have HO184 := n1_; have HO187 := n2_; have HO190 := n3_; have HB := n4_; clear n0_ n1_ n2_ n3_ n4_; (try clear hb); (try clear hb2); (try clear hk); (try clear hi); obtain ⟨Ao81, co81, eo81⟩ := Kd.R_slice HO187.out; subst eo81; have p195 : 0 ≤ (0 : Int) := (by omega); have q195 : 0 < (t185.length : Int) := of_decide_eq_true (by first | (with_reducible assumption) | assumption); obtain ⟨ad195, e195, hx195_0⟩ := Kd.at_bool (Kd.R_reads' HO187.out).2.2 0 p195 q195; (try rw [← Nbq6.out] at hx195_0); (try rw [← Nbq22.out] at hx195_0); (try rw [← Nbq38.out] at hx195_0); cases e195; have qi195 : (0 < t185.length) = True := eq_true (by omega); (try rw [show ((0 : Int)).toNat = 0 from rfl] at hx195_0); (try rw [Addr.add_zero'] at hx195_0); replace p195 := eq_true p195; replace q195 := eq_true q195; have p196 : 0 ≤ (1 : Int) := (by omega); have q196 : 1 < (t185.length : Int) := of_decide_eq_true (by first | (with_reducible assumption) | assumption); obtain ⟨ad196, e196, hx196_0⟩ := Kd.at_bool (Kd.R_reads' HO187.out).2.2 1 p196 q196; (try rw [← Nbq6.out] at hx196_0); (try rw [← Nbq22.out] at hx196_0); (try rw [← Nbq38.out] at hx196_0); obtain rfl : ad195 = ad196 := (by injection e196); (try simp only [show (1 : Int).toNat = 1 from rfl, Nat.reduceMul, Nat.reduceEqDiff, Go.Addr.add, ↓reduceIte] at hx196_0); have qi196 : (1 < t185.length) = True := eq_true (by omega); (try rw [show ((1 : Int)).toNat = 1 from rfl] at hx196_0); replace p196 := eq_true p196; replace q196 := eq_true q196; have p197 : 0 ≤ (2 : Int) := (by omega); have q197 : 2 < (t185.length : Int) := of_decide_eq_true (by first | (with_reducible assumption) | assumption); obtain ⟨ad197, e197, hx197_0⟩ := Kd.at_bool (Kd.R_reads' HO187.out).2.2 2 p197 q197; (try rw [← Nbq6.out] at hx197_0); (try rw [← Nbq22.out] at hx197_0); (try rw [← Nbq38.out] at hx197_0); obtain rfl : ad195 = ad197 := (by injection e197); (try simp only [show (2 : Int).toNat = 2 from rfl, Nat.reduceMul, Nat.reduceEqDiff, Go.Addr.add, ↓reduceIte] at hx197_0); have qi197 : (2 < t185.length) = True := eq_true (by omega); (try rw [show ((2 : Int)).toNat = 2 from rfl] at hx197_0); replace p197 := eq_true p197; replace q197 := eq_true q197))
          go_ret
          exact ⟨by first | rfl | (simp [errW_none, errW_some] <;> rfl) | (simp [*, errW_none, errW_some] <;> rfl), by repeat (first | (with_reducible first | exact HB.out | apply below_alloc | apply pw_below_drewN | apply below_drew1) | exact HB.out)⟩
        ·rw [if_neg c40] at H
         have c40b0 : (t192 == 0) = false := beq_eq_false_iff_ne.mpr c40
         have c40b1 : (t192 != 0) = true := bne_iff_ne.mpr c40
         obtain rfl := Option.some.inj H
         go_enter Try.func17, Try.ntmps17
         go_wp2_with (first | ((with_reducible refine gate_dst (N := 9) rfl ?_); refine Kd.R_lit k27 _ 27 ?hg (N := 9) ?hd (xs := ([(⟨0, 1⟩ : S27), (⟨1, 2⟩ : S27)] : List (S27))) (inner := [.int .i64 0, .int .i64 1, .int .i64 1, .int .i64 2]) (ok := fun _ => True) (okp := fun _ => True) ?hr ?hp (fun _ hk => hk) trivial (Below.refl _ _) (Nat.le_refl _) (by simp) ?_; (case hd => rfl); (case hg => rfl); (case hr => first | (go_simp; done) | (go_simp; rfl)); (case hp => exact (Reps.c2 (show Kd.M k27 _ _ _ (⟨0, 1⟩ : S27) [.int .i64 0, .int .i64 1] from (k27_mkM _ _ _ (⟨0, 1⟩ : S27) )) (Reps.c2 (show Kd.M k27 _ _ _ (⟨1, 2⟩ : S27) [.int .i64 1, .int .i64 2] from (k27_mkM _ _ _ (⟨1, 2⟩ : S27) )) (Reps.none _ _)))); intro v180 w82 ho83 hb hg_ hnew_; clear hg_ hnew_; (first | rw [← Ny179.out] at ho83 | (simp only [Int.reduceToNat] at ho83; rw [← Ny179.out] at ho83)); have n0_ := Aside0.mk (Kd.R_lower ho83 (below_size (hq HB))); have n1_ := Aside0.mk (below_step (hq HB) hb); clear HB; have HO181 := n0_; have HB := n1_; clear n0_ n1_; clear hb ho83; obtain ⟨Ao84, co84, eo84⟩ := Kd.R_slice HO181.out; subst eo84) | ((with_reducible refine gate_dst (N := 11) rfl ?_); refine Kd.R_lit Kd.bool _ 4 ?hg (N := 11) ?hd (xs := ([true, false, true] : List Bool)) (inner := [.bool true, .bool false, .bool true]) (ok := fun _ => True) (okp := fun _ => True) ?hr ?hp (fun _ hk => hk) trivial (Below.refl _ _) (Nat.le_refl _) (by simp) ?_; (case hd => rfl); (case hg => rfl); (case hr => first | (go_simp; done) | (go_simp; rfl)); (case hp => exact (Reps.one (show Kd.M Kd.bool _ _ _ true [.bool true] from rfl) (Reps.one (show Kd.M Kd.bool _ _ _ false [.bool false] from rfl) (Reps.one (show Kd.M Kd.bool _ _ _ true [.bool true] from rfl) (Reps.none _ _))))); intro v183 w85 ho86 hb hg_ hnew_; clear hg_ hnew_; (first | rw [← Ny182.out] at ho86 | (simp only [Int.reduceToNat] at ho86; rw [← Ny182.out] at ho86)); have n0_ := Aside0.mk (Kd.R_below (rq HO181) hb); have n1_ := Aside0.mk (Kd.R_lower ho86 (below_size (hq HB))); have n2_ := Aside0.mk (below_step (hq HB) hb); clear HO181; clear HB; have HO181 := n0_; have HO184 := n1_; have HB := n2_; clear n0_ n1_ n2_; clear hb ho86; obtain ⟨Ao87, co87, eo87⟩ := Kd.R_slice HO184.out; subst eo87) | ((with_reducible refine gate_callee (f := 20) rfl ?_); refine goesL_ (some 12) rfl rfl Try.func20 (by kernel_rfl) rfl #[.agg #[.int .i64 3, .slice Ao84 y179.length co84], .slice Ao87 y182.length co87] rfl aq ?_; (with_reducible refine (route_Inhibited.calls k 3 _ _ y179 _ _ y182 t185 _ ?side1 ?side2 ?side3 ?side4 A1.out).mono ?_); (case side1 => repeat (first | exact (Kd.R_reads' HO181.out).2.2 | (with_reducible refine Kd.C_alloc ?_ _) | (with_reducible refine Kd.C_drewN ?_ _) | (with_reducible refine Kd.C_drew ?_))); (case side2 => exact (Kd.R_reads' HO181.out).2.1); (case side3 => repeat (first | exact (Kd.R_reads' HO184.out).2.2 | (with_reducible refine Kd.C_alloc ?_ _) | (with_reducible refine Kd.C_drewN ?_ _) | (with_reducible refine Kd.C_drew ?_))); (case side4 => exact (Kd.R_reads' HO184.out).2.1); rintro e w88 ⟨v186, rfl, ho0, hb⟩; refine ⟨_, rfl, ?_⟩; have n0_ := Aside0.mk (Kd.R_below (rq HO181) hb); have n1_ := Aside0.mk (Kd.R_elder' (rq HO184) (Kd.R_base ho0) hb); have n2_ := Aside0.mk (Kd.R_lower (Kd.R_new' ho0 (Kd.R_lt (rq HO184))) (below_size (hq HB))); have n3_ := Aside0.mk (below_step (hq HB) hb); clear HO181; clear HO184; clear HB; have HO181 := n0_; have HO184 := n1_; have HO187 := n2_; have HB := n3_; clear n0_ n1_ n2_ n3_; (try clear hb); (try clear hb2); (try clear hk); (try clear hi); (try clear ho0)) | ((with_reducible refine gate_dst (N := 15) rfl ?_); refine Kd.R_lit k60 _ 60 ?hg (N := 15) ?hd (xs := ([(⟨(⟨#[97, 110, 110]⟩ : ByteArray), 0, 10⟩ : S60), (⟨(⟨#[98, 111, 98]⟩ : ByteArray), 4, 6⟩ : S60)] : List (S60))) (inner := [.string (⟨#[97, 110, 110]⟩ : ByteArray), .int .i64 0, .int .i64 10, .string (⟨#[98, 111, 98]⟩ : ByteArray), .int .i64 4, .int .i64 6]) (ok := fun _ => True) (okp := fun _ => True) ?hr ?hp (fun _ hk => hk) trivial (Below.refl _ _) (Nat.le_refl _) (by simp) ?_; (case hd => rfl); (case hg => rfl); (case hr => first | (go_simp; done) | (go_simp; rfl)); (case hp => exact (Reps.c3 (show Kd.M k60 _ _ _ (⟨(⟨#[97, 110, 110]⟩ : ByteArray), 0, 10⟩ : S60) [.string (⟨#[97, 110, 110]⟩ : ByteArray), .int .i64 0, .int .i64 10] from (k60_mkM _ _ _ (⟨(⟨#[97, 110, 110]⟩ : ByteArray), 0, 10⟩ : S60) )) (Reps.c3 (show Kd.M k60 _ _ _ (⟨(⟨#[98, 111, 98]⟩ : ByteArray), 4, 6⟩ : S60) [.string (⟨#[98, 111, 98]⟩ : ByteArray), .int .i64 4, .int .i64 6] from (k60_mkM _ _ _ (⟨(⟨#[98, 111, 98]⟩ : ByteArray), 4, 6⟩ : S60) )) (Reps.none _ _)))); intro v189 w89 ho90 hb hg_ hnew_; clear hg_ hnew_; (first | rw [← Ny188.out] at ho90 | (simp only [Int.reduceToNat] at ho90; rw [← Ny188.out] at ho90)); have n0_ := Aside0.mk (Kd.R_below (rq HO181) hb); have n1_ := Aside0.mk (Kd.R_below (rq HO184) hb); have n2_ := Aside0.mk (Kd.R_below (rq HO187) hb); have n3_ := Aside0.mk (Kd.R_lower ho90 (below_size (hq HB))); have n4_ := Aside0.mk (below_step (hq HB) hb); clear HO181; clear HO184; clear HO187; clear HB; have HO181 := n0_; have HO184 := n1_; have HO187 := n2_; have HO190 := n3_; have HB := n4_; clear n0_ n1_ n2_ n3_ n4_; clear hb ho90; obtain ⟨Ao91, co91, eo91⟩ := Kd.R_slice HO190.out; subst eo91) | ((with_reducible refine gate_callee (f := 30) rfl ?_); refine goesL_ (some 18) rfl rfl Try.func30 (by kernel_rfl) rfl #[.int .i64 10, .slice Ao91 y188.length co91, .int .i64 15, .int .i64 2] rfl aq ?_; (with_reducible refine (route_OnDuty.calls k 10 _ _ y188 15 2 t191 t192 _ ?side1 ?side2 A2.out).mono ?_); (case side1 => repeat (first | exact (Kd.R_reads' HO190.out).2.2 | (with_reducible refine Kd.C_alloc ?_ _) | (with_reducible refine Kd.C_drewN ?_ _) | (with_reducible refine Kd.C_drew ?_))); (case side2 => exact (Kd.R_reads' HO190.out).2.1); rintro e w92 ⟨rfl, hb⟩; refine ⟨_, rfl, ?_⟩; have n0_ := Aside0.mk (Kd.R_below (rq HO181) hb); have n1_ := Aside0.mk (Kd.R_below (rq HO184) hb); have n2_ := Aside0.mk (Kd.R_below (rq HO187) hb); have n3_ := Aside0.mk (Kd.R_below (rq HO190) hb); have n4_ := Aside0.mk (below_step (hq HB) hb); clear HO181; clear HO184; clear HO187; clear HO190; clear HB; have HO181 := n0_; have HO184 := n1_; have HO187 := n2_; have HO190 := n3_; have HB := n4_; clear n0_ n1_ n2_ n3_ n4_; (try clear hb); (try clear hb2); (try clear hk); (try clear hi)) | ((with_reducible refine gate_callee (f := 30) rfl ?_); refine goesL_ (some 23) rfl rfl Try.func30 (by kernel_rfl) rfl #[.int .i64 10, .slice Ao91 y188.length co91, .int .i64 8, .int .i64 1] rfl aq ?_; (with_reducible refine (route_OnDuty.calls k 10 _ _ y188 8 1 t193 t194 _ ?side1 ?side2 A3.out).mono ?_); (case side1 => repeat (first | exact (Kd.R_reads' HO190.out).2.2 | (with_reducible refine Kd.C_alloc ?_ _) | (with_reducible refine Kd.C_drewN ?_ _) | (with_reducible refine Kd.C_drew ?_))); (case side2 => exact (Kd.R_reads' HO190.out).2.1); rintro e w93 ⟨rfl, hb⟩; refine ⟨_, rfl, ?_⟩; have n0_ := Aside0.mk (Kd.R_below (rq HO181) hb); have n1_ := Aside0.mk (Kd.R_below (rq HO184) hb); have n2_ := Aside0.mk (Kd.R_below (rq HO187) hb); have n3_ := Aside0.mk (Kd.R_below (rq HO190) hb); have n4_ := Aside0.mk (below_step (hq HB) hb); clear HO181; clear HO184; clear HO187; clear HO190; clear HB; have HO181 := n0_; have HO184 := n1_; have HO187 := n2_; have HO190 := n3_; have HB := n4_; clear n0_ n1_ n2_ n3_ n4_; (try clear hb); (try clear hb2); (try clear hk); (try clear hi); obtain ⟨Ao94, co94, eo94⟩ := Kd.R_slice HO187.out; subst eo94; have p195 : 0 ≤ (0 : Int) := (by omega); have q195 : 0 < (t185.length : Int) := of_decide_eq_true (by first | (with_reducible assumption) | assumption); obtain ⟨ad195, e195, hx195_0⟩ := Kd.at_bool (Kd.R_reads' HO187.out).2.2 0 p195 q195; (try rw [← Nbq6.out] at hx195_0); (try rw [← Nbq22.out] at hx195_0); (try rw [← Nbq38.out] at hx195_0); cases e195; have qi195 : (0 < t185.length) = True := eq_true (by omega); (try rw [show ((0 : Int)).toNat = 0 from rfl] at hx195_0); (try rw [Addr.add_zero'] at hx195_0); replace p195 := eq_true p195; replace q195 := eq_true q195; have p196 : 0 ≤ (1 : Int) := (by omega); have q196 : 1 < (t185.length : Int) := of_decide_eq_true (by first | (with_reducible assumption) | assumption); obtain ⟨ad196, e196, hx196_0⟩ := Kd.at_bool (Kd.R_reads' HO187.out).2.2 1 p196 q196; (try rw [← Nbq6.out] at hx196_0); (try rw [← Nbq22.out] at hx196_0); (try rw [← Nbq38.out] at hx196_0); obtain rfl : ad195 = ad196 := (by injection e196); (try simp only [show (1 : Int).toNat = 1 from rfl, Nat.reduceMul, Nat.reduceEqDiff, Go.Addr.add, ↓reduceIte] at hx196_0); have qi196 : (1 < t185.length) = True := eq_true (by omega); (try rw [show ((1 : Int)).toNat = 1 from rfl] at hx196_0); replace p196 := eq_true p196; replace q196 := eq_true q196; have p197 : 0 ≤ (2 : Int) := (by omega); have q197 : 2 < (t185.length : Int) := of_decide_eq_true (by first | (with_reducible assumption) | assumption); obtain ⟨ad197, e197, hx197_0⟩ := Kd.at_bool (Kd.R_reads' HO187.out).2.2 2 p197 q197; (try rw [← Nbq6.out] at hx197_0); (try rw [← Nbq22.out] at hx197_0); (try rw [← Nbq38.out] at hx197_0); obtain rfl : ad195 = ad197 := (by injection e197); (try simp only [show (2 : Int).toNat = 2 from rfl, Nat.reduceMul, Nat.reduceEqDiff, Go.Addr.add, ↓reduceIte] at hx197_0); have qi197 : (2 < t185.length) = True := eq_true (by omega); (try rw [show ((2 : Int)).toNat = 2 from rfl] at hx197_0); replace p197 := eq_true p197; replace q197 := eq_true q197))
         go_ret
         exact ⟨by first | rfl | (simp [errW_none, errW_some] <;> rfl) | (simp [*, errW_none, errW_some] <;> rfl), by repeat (first | (with_reducible first | exact HB.out | apply below_alloc | apply pw_below_drewN | apply below_drew1) | exact HB.out)⟩
       ·replace c39 := Bool.eq_false_iff.mpr c39
        subst c39
        have H1 : (some false) = some r := by rw [if_neg (show ¬ (false = true) by decide)] at H; exact H
        clear H
        have H := H1
        clear H1
        obtain rfl := Option.some.inj H
        go_enter Try.func17, Try.ntmps17
        go_wp2_with (first | ((with_reducible refine gate_dst (N := 9) rfl ?_); refine Kd.R_lit k27 _ 27 ?hg (N := 9) ?hd (xs := ([(⟨0, 1⟩ : S27), (⟨1, 2⟩ : S27)] : List (S27))) (inner := [.int .i64 0, .int .i64 1, .int .i64 1, .int .i64 2]) (ok := fun _ => True) (okp := fun _ => True) ?hr ?hp (fun _ hk => hk) trivial (Below.refl _ _) (Nat.le_refl _) (by simp) ?_; (case hd => rfl); (case hg => rfl); (case hr => first | (go_simp; done) | (go_simp; rfl)); (case hp => exact (Reps.c2 (show Kd.M k27 _ _ _ (⟨0, 1⟩ : S27) [.int .i64 0, .int .i64 1] from (k27_mkM _ _ _ (⟨0, 1⟩ : S27) )) (Reps.c2 (show Kd.M k27 _ _ _ (⟨1, 2⟩ : S27) [.int .i64 1, .int .i64 2] from (k27_mkM _ _ _ (⟨1, 2⟩ : S27) )) (Reps.none _ _)))); intro v180 w95 ho96 hb hg_ hnew_; clear hg_ hnew_; (first | rw [← Ny179.out] at ho96 | (simp only [Int.reduceToNat] at ho96; rw [← Ny179.out] at ho96)); have n0_ := Aside0.mk (Kd.R_lower ho96 (below_size (hq HB))); have n1_ := Aside0.mk (below_step (hq HB) hb); clear HB; have HO181 := n0_; have HB := n1_; clear n0_ n1_; clear hb ho96; obtain ⟨Ao97, co97, eo97⟩ := Kd.R_slice HO181.out; subst eo97) | ((with_reducible refine gate_dst (N := 11) rfl ?_); refine Kd.R_lit Kd.bool _ 4 ?hg (N := 11) ?hd (xs := ([true, false, true] : List Bool)) (inner := [.bool true, .bool false, .bool true]) (ok := fun _ => True) (okp := fun _ => True) ?hr ?hp (fun _ hk => hk) trivial (Below.refl _ _) (Nat.le_refl _) (by simp) ?_; (case hd => rfl); (case hg => rfl); (case hr => first | (go_simp; done) | (go_simp; rfl)); (case hp => exact (Reps.one (show Kd.M Kd.bool _ _ _ true [.bool true] from rfl) (Reps.one (show Kd.M Kd.bool _ _ _ false [.bool false] from rfl) (Reps.one (show Kd.M Kd.bool _ _ _ true [.bool true] from rfl) (Reps.none _ _))))); intro v183 w98 ho99 hb hg_ hnew_; clear hg_ hnew_; (first | rw [← Ny182.out] at ho99 | (simp only [Int.reduceToNat] at ho99; rw [← Ny182.out] at ho99)); have n0_ := Aside0.mk (Kd.R_below (rq HO181) hb); have n1_ := Aside0.mk (Kd.R_lower ho99 (below_size (hq HB))); have n2_ := Aside0.mk (below_step (hq HB) hb); clear HO181; clear HB; have HO181 := n0_; have HO184 := n1_; have HB := n2_; clear n0_ n1_ n2_; clear hb ho99; obtain ⟨Ao100, co100, eo100⟩ := Kd.R_slice HO184.out; subst eo100) | ((with_reducible refine gate_callee (f := 20) rfl ?_); refine goesL_ (some 12) rfl rfl Try.func20 (by kernel_rfl) rfl #[.agg #[.int .i64 3, .slice Ao97 y179.length co97], .slice Ao100 y182.length co100] rfl aq ?_; (with_reducible refine (route_Inhibited.calls k 3 _ _ y179 _ _ y182 t185 _ ?side1 ?side2 ?side3 ?side4 A1.out).mono ?_); (case side1 => repeat (first | exact (Kd.R_reads' HO181.out).2.2 | (with_reducible refine Kd.C_alloc ?_ _) | (with_reducible refine Kd.C_drewN ?_ _) | (with_reducible refine Kd.C_drew ?_))); (case side2 => exact (Kd.R_reads' HO181.out).2.1); (case side3 => repeat (first | exact (Kd.R_reads' HO184.out).2.2 | (with_reducible refine Kd.C_alloc ?_ _) | (with_reducible refine Kd.C_drewN ?_ _) | (with_reducible refine Kd.C_drew ?_))); (case side4 => exact (Kd.R_reads' HO184.out).2.1); rintro e w101 ⟨v186, rfl, ho0, hb⟩; refine ⟨_, rfl, ?_⟩; have n0_ := Aside0.mk (Kd.R_below (rq HO181) hb); have n1_ := Aside0.mk (Kd.R_elder' (rq HO184) (Kd.R_base ho0) hb); have n2_ := Aside0.mk (Kd.R_lower (Kd.R_new' ho0 (Kd.R_lt (rq HO184))) (below_size (hq HB))); have n3_ := Aside0.mk (below_step (hq HB) hb); clear HO181; clear HO184; clear HB; have HO181 := n0_; have HO184 := n1_; have HO187 := n2_; have HB := n3_; clear n0_ n1_ n2_ n3_; (try clear hb); (try clear hb2); (try clear hk); (try clear hi); (try clear ho0)) | ((with_reducible refine gate_dst (N := 15) rfl ?_); refine Kd.R_lit k60 _ 60 ?hg (N := 15) ?hd (xs := ([(⟨(⟨#[97, 110, 110]⟩ : ByteArray), 0, 10⟩ : S60), (⟨(⟨#[98, 111, 98]⟩ : ByteArray), 4, 6⟩ : S60)] : List (S60))) (inner := [.string (⟨#[97, 110, 110]⟩ : ByteArray), .int .i64 0, .int .i64 10, .string (⟨#[98, 111, 98]⟩ : ByteArray), .int .i64 4, .int .i64 6]) (ok := fun _ => True) (okp := fun _ => True) ?hr ?hp (fun _ hk => hk) trivial (Below.refl _ _) (Nat.le_refl _) (by simp) ?_; (case hd => rfl); (case hg => rfl); (case hr => first | (go_simp; done) | (go_simp; rfl)); (case hp => exact (Reps.c3 (show Kd.M k60 _ _ _ (⟨(⟨#[97, 110, 110]⟩ : ByteArray), 0, 10⟩ : S60) [.string (⟨#[97, 110, 110]⟩ : ByteArray), .int .i64 0, .int .i64 10] from (k60_mkM _ _ _ (⟨(⟨#[97, 110, 110]⟩ : ByteArray), 0, 10⟩ : S60) )) (Reps.c3 (show Kd.M k60 _ _ _ (⟨(⟨#[98, 111, 98]⟩ : ByteArray), 4, 6⟩ : S60) [.string (⟨#[98, 111, 98]⟩ : ByteArray), .int .i64 4, .int .i64 6] from (k60_mkM _ _ _ (⟨(⟨#[98, 111, 98]⟩ : ByteArray), 4, 6⟩ : S60) )) (Reps.none _ _)))); intro v189 w102 ho103 hb hg_ hnew_; clear hg_ hnew_; (first | rw [← Ny188.out] at ho103 | (simp only [Int.reduceToNat] at ho103; rw [← Ny188.out] at ho103)); have n0_ := Aside0.mk (Kd.R_below (rq HO181) hb); have n1_ := Aside0.mk (Kd.R_below (rq HO184) hb); have n2_ := Aside0.mk (Kd.R_below (rq HO187) hb); have n3_ := Aside0.mk (Kd.R_lower ho103 (below_size (hq HB))); have n4_ := Aside0.mk (below_step (hq HB) hb); clear HO181; clear HO184; clear HO187; clear HB; have HO181 := n0_; have HO184 := n1_; have HO187 := n2_; have HO190 := n3_; have HB := n4_; clear n0_ n1_ n2_ n3_ n4_; clear hb ho103; obtain ⟨Ao104, co104, eo104⟩ := Kd.R_slice HO190.out; subst eo104) | ((with_reducible refine gate_callee (f := 30) rfl ?_); refine goesL_ (some 18) rfl rfl Try.func30 (by kernel_rfl) rfl #[.int .i64 10, .slice Ao104 y188.length co104, .int .i64 15, .int .i64 2] rfl aq ?_; (with_reducible refine (route_OnDuty.calls k 10 _ _ y188 15 2 t191 t192 _ ?side1 ?side2 A2.out).mono ?_); (case side1 => repeat (first | exact (Kd.R_reads' HO190.out).2.2 | (with_reducible refine Kd.C_alloc ?_ _) | (with_reducible refine Kd.C_drewN ?_ _) | (with_reducible refine Kd.C_drew ?_))); (case side2 => exact (Kd.R_reads' HO190.out).2.1); rintro e w105 ⟨rfl, hb⟩; refine ⟨_, rfl, ?_⟩; have n0_ := Aside0.mk (Kd.R_below (rq HO181) hb); have n1_ := Aside0.mk (Kd.R_below (rq HO184) hb); have n2_ := Aside0.mk (Kd.R_below (rq HO187) hb); have n3_ := Aside0.mk (Kd.R_below (rq HO190) hb); have n4_ := Aside0.mk (below_step (hq HB) hb); clear HO181; clear HO184; clear HO187; clear HO190; clear HB; have HO181 := n0_; have HO184 := n1_; have HO187 := n2_; have HO190 := n3_; have HB := n4_; clear n0_ n1_ n2_ n3_ n4_; (try clear hb); (try clear hb2); (try clear hk); (try clear hi)) | ((with_reducible refine gate_callee (f := 30) rfl ?_); refine goesL_ (some 23) rfl rfl Try.func30 (by kernel_rfl) rfl #[.int .i64 10, .slice Ao104 y188.length co104, .int .i64 8, .int .i64 1] rfl aq ?_; (with_reducible refine (route_OnDuty.calls k 10 _ _ y188 8 1 t193 t194 _ ?side1 ?side2 A3.out).mono ?_); (case side1 => repeat (first | exact (Kd.R_reads' HO190.out).2.2 | (with_reducible refine Kd.C_alloc ?_ _) | (with_reducible refine Kd.C_drewN ?_ _) | (with_reducible refine Kd.C_drew ?_))); (case side2 => exact (Kd.R_reads' HO190.out).2.1); rintro e w106 ⟨rfl, hb⟩; refine ⟨_, rfl, ?_⟩; have n0_ := Aside0.mk (Kd.R_below (rq HO181) hb); have n1_ := Aside0.mk (Kd.R_below (rq HO184) hb); have n2_ := Aside0.mk (Kd.R_below (rq HO187) hb); have n3_ := Aside0.mk (Kd.R_below (rq HO190) hb); have n4_ := Aside0.mk (below_step (hq HB) hb); clear HO181; clear HO184; clear HO187; clear HO190; clear HB; have HO181 := n0_; have HO184 := n1_; have HO187 := n2_; have HO190 := n3_; have HB := n4_; clear n0_ n1_ n2_ n3_ n4_; (try clear hb); (try clear hb2); (try clear hk); (try clear hi); obtain ⟨Ao107, co107, eo107⟩ := Kd.R_slice HO187.out; subst eo107; have p195 : 0 ≤ (0 : Int) := (by omega); have q195 : 0 < (t185.length : Int) := of_decide_eq_true (by first | (with_reducible assumption) | assumption); obtain ⟨ad195, e195, hx195_0⟩ := Kd.at_bool (Kd.R_reads' HO187.out).2.2 0 p195 q195; (try rw [← Nbq6.out] at hx195_0); (try rw [← Nbq22.out] at hx195_0); (try rw [← Nbq38.out] at hx195_0); cases e195; have qi195 : (0 < t185.length) = True := eq_true (by omega); (try rw [show ((0 : Int)).toNat = 0 from rfl] at hx195_0); (try rw [Addr.add_zero'] at hx195_0); replace p195 := eq_true p195; replace q195 := eq_true q195; have p196 : 0 ≤ (1 : Int) := (by omega); have q196 : 1 < (t185.length : Int) := of_decide_eq_true (by first | (with_reducible assumption) | assumption); obtain ⟨ad196, e196, hx196_0⟩ := Kd.at_bool (Kd.R_reads' HO187.out).2.2 1 p196 q196; (try rw [← Nbq6.out] at hx196_0); (try rw [← Nbq22.out] at hx196_0); (try rw [← Nbq38.out] at hx196_0); obtain rfl : ad195 = ad196 := (by injection e196); (try simp only [show (1 : Int).toNat = 1 from rfl, Nat.reduceMul, Nat.reduceEqDiff, Go.Addr.add, ↓reduceIte] at hx196_0); have qi196 : (1 < t185.length) = True := eq_true (by omega); (try rw [show ((1 : Int)).toNat = 1 from rfl] at hx196_0); replace p196 := eq_true p196; replace q196 := eq_true q196; have p197 : 0 ≤ (2 : Int) := (by omega); have q197 : 2 < (t185.length : Int) := of_decide_eq_true (by first | (with_reducible assumption) | assumption); obtain ⟨ad197, e197, hx197_0⟩ := Kd.at_bool (Kd.R_reads' HO187.out).2.2 2 p197 q197; (try rw [← Nbq6.out] at hx197_0); (try rw [← Nbq22.out] at hx197_0); (try rw [← Nbq38.out] at hx197_0); obtain rfl : ad195 = ad197 := (by injection e197); (try simp only [show (2 : Int).toNat = 2 from rfl, Nat.reduceMul, Nat.reduceEqDiff, Go.Addr.add, ↓reduceIte] at hx197_0); have qi197 : (2 < t185.length) = True := eq_true (by omega); (try rw [show ((2 : Int)).toNat = 2 from rfl] at hx197_0); replace p197 := eq_true p197; replace q197 := eq_true q197))
        go_ret
        exact ⟨by first | rfl | (simp [errW_none, errW_some] <;> rfl) | (simp [*, errW_none, errW_some] <;> rfl), by repeat (first | (with_reducible first | exact HB.out | apply below_alloc | apply pw_below_drewN | apply below_drew1) | exact HB.out)⟩
      ·rw [if_neg c37] at H
       exact absurd H (by simp)
    ·rw [if_neg c21] at H
     exact absurd H (by simp)
  ·rw [if_neg c5] at H
   exact absurd H (by simp)
 ·rw [if_neg c4] at H
  have c4b0 : ((t185.length : Int) == 3) = false := beq_eq_false_iff_ne.mpr c4
  have c4b1 : ((t185.length : Int) != 3) = true := bne_iff_ne.mpr c4
  obtain rfl := Option.some.inj H
  go_enter Try.func17, Try.ntmps17
  go_wp2_with (first | ((with_reducible refine gate_dst (N := 9) rfl ?_); refine Kd.R_lit k27 _ 27 ?hg (N := 9) ?hd (xs := ([(⟨0, 1⟩ : S27), (⟨1, 2⟩ : S27)] : List (S27))) (inner := [.int .i64 0, .int .i64 1, .int .i64 1, .int .i64 2]) (ok := fun _ => True) (okp := fun _ => True) ?hr ?hp (fun _ hk => hk) trivial (Below.refl _ _) (Nat.le_refl _) (by simp) ?_; (case hd => rfl); (case hg => rfl); (case hr => first | (go_simp; done) | (go_simp; rfl)); (case hp => exact (Reps.c2 (show Kd.M k27 _ _ _ (⟨0, 1⟩ : S27) [.int .i64 0, .int .i64 1] from (k27_mkM _ _ _ (⟨0, 1⟩ : S27) )) (Reps.c2 (show Kd.M k27 _ _ _ (⟨1, 2⟩ : S27) [.int .i64 1, .int .i64 2] from (k27_mkM _ _ _ (⟨1, 2⟩ : S27) )) (Reps.none _ _)))); intro v180 w108 ho109 hb hg_ hnew_; clear hg_ hnew_; (first | rw [← Ny179.out] at ho109 | (simp only [Int.reduceToNat] at ho109; rw [← Ny179.out] at ho109)); have n0_ := Aside0.mk (Kd.R_lower ho109 (below_size (hq HB))); have n1_ := Aside0.mk (below_step (hq HB) hb); clear HB; have HO181 := n0_; have HB := n1_; clear n0_ n1_; clear hb ho109; obtain ⟨Ao110, co110, eo110⟩ := Kd.R_slice HO181.out; subst eo110) | ((with_reducible refine gate_dst (N := 11) rfl ?_); refine Kd.R_lit Kd.bool _ 4 ?hg (N := 11) ?hd (xs := ([true, false, true] : List Bool)) (inner := [.bool true, .bool false, .bool true]) (ok := fun _ => True) (okp := fun _ => True) ?hr ?hp (fun _ hk => hk) trivial (Below.refl _ _) (Nat.le_refl _) (by simp) ?_; (case hd => rfl); (case hg => rfl); (case hr => first | (go_simp; done) | (go_simp; rfl)); (case hp => exact (Reps.one (show Kd.M Kd.bool _ _ _ true [.bool true] from rfl) (Reps.one (show Kd.M Kd.bool _ _ _ false [.bool false] from rfl) (Reps.one (show Kd.M Kd.bool _ _ _ true [.bool true] from rfl) (Reps.none _ _))))); intro v183 w111 ho112 hb hg_ hnew_; clear hg_ hnew_; (first | rw [← Ny182.out] at ho112 | (simp only [Int.reduceToNat] at ho112; rw [← Ny182.out] at ho112)); have n0_ := Aside0.mk (Kd.R_below (rq HO181) hb); have n1_ := Aside0.mk (Kd.R_lower ho112 (below_size (hq HB))); have n2_ := Aside0.mk (below_step (hq HB) hb); clear HO181; clear HB; have HO181 := n0_; have HO184 := n1_; have HB := n2_; clear n0_ n1_ n2_; clear hb ho112; obtain ⟨Ao113, co113, eo113⟩ := Kd.R_slice HO184.out; subst eo113) | ((with_reducible refine gate_callee (f := 20) rfl ?_); refine goesL_ (some 12) rfl rfl Try.func20 (by kernel_rfl) rfl #[.agg #[.int .i64 3, .slice Ao110 y179.length co110], .slice Ao113 y182.length co113] rfl aq ?_; (with_reducible refine (route_Inhibited.calls k 3 _ _ y179 _ _ y182 t185 _ ?side1 ?side2 ?side3 ?side4 A1.out).mono ?_); (case side1 => repeat (first | exact (Kd.R_reads' HO181.out).2.2 | (with_reducible refine Kd.C_alloc ?_ _) | (with_reducible refine Kd.C_drewN ?_ _) | (with_reducible refine Kd.C_drew ?_))); (case side2 => exact (Kd.R_reads' HO181.out).2.1); (case side3 => repeat (first | exact (Kd.R_reads' HO184.out).2.2 | (with_reducible refine Kd.C_alloc ?_ _) | (with_reducible refine Kd.C_drewN ?_ _) | (with_reducible refine Kd.C_drew ?_))); (case side4 => exact (Kd.R_reads' HO184.out).2.1); rintro e w114 ⟨v186, rfl, ho0, hb⟩; refine ⟨_, rfl, ?_⟩; have n0_ := Aside0.mk (Kd.R_below (rq HO181) hb); have n1_ := Aside0.mk (Kd.R_elder' (rq HO184) (Kd.R_base ho0) hb); have n2_ := Aside0.mk (Kd.R_lower (Kd.R_new' ho0 (Kd.R_lt (rq HO184))) (below_size (hq HB))); have n3_ := Aside0.mk (below_step (hq HB) hb); clear HO181; clear HO184; clear HB; have HO181 := n0_; have HO184 := n1_; have HO187 := n2_; have HB := n3_; clear n0_ n1_ n2_ n3_; (try clear hb); (try clear hb2); (try clear hk); (try clear hi); (try clear ho0)) | ((with_reducible refine gate_dst (N := 15) rfl ?_); refine Kd.R_lit k60 _ 60 ?hg (N := 15) ?hd (xs := ([(⟨(⟨#[97, 110, 110]⟩ : ByteArray), 0, 10⟩ : S60), (⟨(⟨#[98, 111, 98]⟩ : ByteArray), 4, 6⟩ : S60)] : List (S60))) (inner := [.string (⟨#[97, 110, 110]⟩ : ByteArray), .int .i64 0, .int .i64 10, .string (⟨#[98, 111, 98]⟩ : ByteArray), .int .i64 4, .int .i64 6]) (ok := fun _ => True) (okp := fun _ => True) ?hr ?hp (fun _ hk => hk) trivial (Below.refl _ _) (Nat.le_refl _) (by simp) ?_; (case hd => rfl); (case hg => rfl); (case hr => first | (go_simp; done) | (go_simp; rfl)); (case hp => exact (Reps.c3 (show Kd.M k60 _ _ _ (⟨(⟨#[97, 110, 110]⟩ : ByteArray), 0, 10⟩ : S60) [.string (⟨#[97, 110, 110]⟩ : ByteArray), .int .i64 0, .int .i64 10] from (k60_mkM _ _ _ (⟨(⟨#[97, 110, 110]⟩ : ByteArray), 0, 10⟩ : S60) )) (Reps.c3 (show Kd.M k60 _ _ _ (⟨(⟨#[98, 111, 98]⟩ : ByteArray), 4, 6⟩ : S60) [.string (⟨#[98, 111, 98]⟩ : ByteArray), .int .i64 4, .int .i64 6] from (k60_mkM _ _ _ (⟨(⟨#[98, 111, 98]⟩ : ByteArray), 4, 6⟩ : S60) )) (Reps.none _ _)))); intro v189 w115 ho116 hb hg_ hnew_; clear hg_ hnew_; (first | rw [← Ny188.out] at ho116 | (simp only [Int.reduceToNat] at ho116; rw [← Ny188.out] at ho116)); have n0_ := Aside0.mk (Kd.R_below (rq HO181) hb); have n1_ := Aside0.mk (Kd.R_below (rq HO184) hb); have n2_ := Aside0.mk (Kd.R_below (rq HO187) hb); have n3_ := Aside0.mk (Kd.R_lower ho116 (below_size (hq HB))); have n4_ := Aside0.mk (below_step (hq HB) hb); clear HO181; clear HO184; clear HO187; clear HB; have HO181 := n0_; have HO184 := n1_; have HO187 := n2_; have HO190 := n3_; have HB := n4_; clear n0_ n1_ n2_ n3_ n4_; clear hb ho116; obtain ⟨Ao117, co117, eo117⟩ := Kd.R_slice HO190.out; subst eo117) | ((with_reducible refine gate_callee (f := 30) rfl ?_); refine goesL_ (some 18) rfl rfl Try.func30 (by kernel_rfl) rfl #[.int .i64 10, .slice Ao117 y188.length co117, .int .i64 15, .int .i64 2] rfl aq ?_; (with_reducible refine (route_OnDuty.calls k 10 _ _ y188 15 2 t191 t192 _ ?side1 ?side2 A2.out).mono ?_); (case side1 => repeat (first | exact (Kd.R_reads' HO190.out).2.2 | (with_reducible refine Kd.C_alloc ?_ _) | (with_reducible refine Kd.C_drewN ?_ _) | (with_reducible refine Kd.C_drew ?_))); (case side2 => exact (Kd.R_reads' HO190.out).2.1); rintro e w118 ⟨rfl, hb⟩; refine ⟨_, rfl, ?_⟩; have n0_ := Aside0.mk (Kd.R_below (rq HO181) hb); have n1_ := Aside0.mk (Kd.R_below (rq HO184) hb); have n2_ := Aside0.mk (Kd.R_below (rq HO187) hb); have n3_ := Aside0.mk (Kd.R_below (rq HO190) hb); have n4_ := Aside0.mk (below_step (hq HB) hb); clear HO181; clear HO184; clear HO187; clear HO190; clear HB; have HO181 := n0_; have HO184 := n1_; have HO187 := n2_; have HO190 := n3_; have HB := n4_; clear n0_ n1_ n2_ n3_ n4_; (try clear hb); (try clear hb2); (try clear hk); (try clear hi)) | ((with_reducible refine gate_callee (f := 30) rfl ?_); refine goesL_ (some 23) rfl rfl Try.func30 (by kernel_rfl) rfl #[.int .i64 10, .slice Ao117 y188.length co117, .int .i64 8, .int .i64 1] rfl aq ?_; (with_reducible refine (route_OnDuty.calls k 10 _ _ y188 8 1 t193 t194 _ ?side1 ?side2 A3.out).mono ?_); (case side1 => repeat (first | exact (Kd.R_reads' HO190.out).2.2 | (with_reducible refine Kd.C_alloc ?_ _) | (with_reducible refine Kd.C_drewN ?_ _) | (with_reducible refine Kd.C_drew ?_))); (case side2 => exact (Kd.R_reads' HO190.out).2.1); rintro e w119 ⟨rfl, hb⟩; refine ⟨_, rfl, ?_⟩; have n0_ := Aside0.mk (Kd.R_below (rq HO181) hb); have n1_ := Aside0.mk (Kd.R_below (rq HO184) hb); have n2_ := Aside0.mk (Kd.R_below (rq HO187) hb); have n3_ := Aside0.mk (Kd.R_below (rq HO190) hb); have n4_ := Aside0.mk (below_step (hq HB) hb); clear HO181; clear HO184; clear HO187; clear HO190; clear HB; have HO181 := n0_; have HO184 := n1_; have HO187 := n2_; have HO190 := n3_; have HB := n4_; clear n0_ n1_ n2_ n3_ n4_; (try clear hb); (try clear hb2); (try clear hk); (try clear hi); obtain ⟨Ao120, co120, eo120⟩ := Kd.R_slice HO187.out; subst eo120))
  go_ret
  exact ⟨by first | rfl | (simp [errW_none, errW_some] <;> rfl) | (simp [*, errW_none, errW_some] <;> rfl), by repeat (first | (with_reducible first | exact HB.out | apply below_alloc | apply pw_below_drewN | apply below_drew1) | exact HB.out)⟩

/-! ### intervalmonref01_Around: function 13 -/
def intervalmonref01_Around.f (a0 : Int) (a1 : Int) : Option (Int) := if a0 < 0 then (if a1 = 0 then (none) else (some (Int.tmod (wrap64 (-(wrap64 (a0 + 1)))) a1))) else (if a1 = 0 then (none) else (some (Int.tmod a0 a1)))
set_option maxHeartbeats 8000000 in
set_option maxRecDepth 100000 in
theorem intervalmonref01_Around.calls (a0 : Int) (a1 : Int) (r : Int) (w : World) (h : intervalmonref01_Around.f a0 a1 = some r) :
  Calls Try.prog 13 #[.int .i64 a0, .int .i64 a1] w fun e w' => e = .returned (.int .i64 r) ∧ Drawn0 w w' := by
 have H : (if a0 < 0 then (if a1 = 0 then (none) else (some (Int.tmod (wrap64 (-(wrap64 (a0 + 1)))) a1))) else (if a1 = 0 then (none) else (some (Int.tmod a0 a1)))) = some r := h
 clear h
 by_cases c3 : a0 < 0
 ·rw [if_pos c3] at H
  have c3b0 : decide (a0 < 0) = true := decide_eq_true c3
  clear c3
  by_cases c4 : a1 = 0
  ·rw [if_pos c4] at H
   exact absurd H (by simp)
  ·rw [if_neg c4] at H
   have c4b0 : (a1 == 0) = false := beq_eq_false_iff_ne.mpr c4
   have c4b1 : (a1 != 0) = true := bne_iff_ne.mpr c4
   obtain rfl := Option.some.inj H
   go_enter Try.func13, Try.ntmps13
   go_wp2
   go_ret
   exact ⟨by first | rfl | (simp; done) | (simp [*]; done), by repeat (first | exact Drawn0.refl _ | apply Drawn0.step)⟩
 ·rw [if_neg c3] at H
  have c3b0 : decide (a0 < 0) = false := decide_eq_false c3
  clear c3
  by_cases c5 : a1 = 0
  ·rw [if_pos c5] at H
   exact absurd H (by simp)
  ·rw [if_neg c5] at H
   have c5b0 : (a1 == 0) = false := beq_eq_false_iff_ne.mpr c5
   have c5b1 : (a1 != 0) = true := bne_iff_ne.mpr c5
   obtain rfl := Option.some.inj H
   go_enter Try.func13, Try.ntmps13
   go_wp2
   go_ret
   exact ⟨by first | rfl | (simp; done) | (simp [*]; done), by repeat (first | exact Drawn0.refl _ | apply Drawn0.step)⟩

/-! ### intervalmonref01_Pick: function 39 -/
def intervalmonref01_Pick.f (l0 : List Int) (a1 : Int) (a2 : Int) : Option (Int) := if a1 < 0 then (some 0) else (if a1 ≥ (l0.length : Int) then (some 0) else (if 0 ≤ a1 then (if a1 < (l0.length : Int) then ((intervalmonref01_Around.f (rd l0 a1) a2).bind fun t199 => (some t199)) else (none)) else (none)))
set_option maxHeartbeats 8000000 in
set_option maxRecDepth 100000 in
theorem intervalmonref01_Pick.calls (A0 : Option Addr) (c0 : Nat) (l0 : List Int) (a1 : Int) (a2 : Int) (r : Int) (w : World) (hr0 : Kd.C (Kd.int .i64) w A0 l0.length l0) (hc0 : l0.length ≤ c0) (h : intervalmonref01_Pick.f l0 a1 a2 = some r) :
  Calls Try.prog 39 #[.slice A0 l0.length c0, .int .i64 a1, .int .i64 a2] w fun e w' => e = .returned (.int .i64 r) ∧ Drawn0 w w' := by
 have HR0 := Aside0.mk hr0
 have HC0 := Aside0.mk hc0
 clear hr0 hc0
 have H : (if a1 < 0 then (some 0) else (if a1 ≥ (l0.length : Int) then (some 0) else (if 0 ≤ a1 then (if a1 < (l0.length : Int) then ((intervalmonref01_Around.f (rd l0 a1) a2).bind fun t199 => (some t199)) else (none)) else (none)))) = some r := h
 clear h
 by_cases c4 : a1 < 0
 ·rw [if_pos c4] at H
  have c4b0 : decide (a1 < 0) = true := decide_eq_true c4
  clear c4
  obtain rfl := Option.some.inj H
  go_enter Try.func39, Try.ntmps39
  go_wp2
  go_ret
  exact ⟨by first | rfl | (simp; done) | (simp [*]; done), by repeat (first | exact Drawn0.refl _ | apply Drawn0.step)⟩
 ·rw [if_neg c4] at H
  have c4b0 : decide (a1 < 0) = false := decide_eq_false c4
  clear c4
  by_cases c5 : a1 ≥ (l0.length : Int)
  ·rw [if_pos c5] at H
   have c5b0 : decide ((l0.length : Int) ≤ a1) = true := decide_eq_true c5
   clear c5
   obtain rfl := Option.some.inj H
   go_enter Try.func39, Try.ntmps39
   go_wp2
   go_ret
   exact ⟨by first | rfl | (simp; done) | (simp [*]; done), by repeat (first | exact Drawn0.refl _ | apply Drawn0.step)⟩
  ·rw [if_neg c5] at H
   have c5b0 : decide ((l0.length : Int) ≤ a1) = false := decide_eq_false c5
   clear c5
   by_cases c6 : 0 ≤ a1
   ·rw [if_pos c6] at H
    have c6b0 : decide (0 ≤ a1) = true := decide_eq_true c6
    clear c6
    by_cases c7 : a1 < (l0.length : Int)
    ·rw [if_pos c7] at H
     have c7b0 : decide (a1 < (l0.length : Int)) = true := decide_eq_true c7
     clear c7
     replace H := Option.bind_eq_some_iff.mp H
     obtain ⟨t199, A80, H⟩ := H
     replace H : (some t199) = some r := H
     have A8 := Aside0.mk A80
     clear A80
     obtain rfl := Option.some.inj H
     have p198 : 0 ≤ (a1 : Int) := of_decide_eq_true (by first | (with_reducible assumption) | assumption)
     have q198 : a1 < (l0.length : Int) := of_decide_eq_true (by first | (with_reducible assumption) | assumption)
     obtain ⟨ad198, e198, hx198_0⟩ := Kd.at_int HR0.out a1 p198 q198
     cases e198
     replace p198 := eq_true p198
     replace q198 := eq_true q198
     go_enter Try.func39, Try.ntmps39
     go_wp2_with (first | ((with_reducible refine gate_callee (f := 13) rfl ?_); refine goesL_ (some 20) rfl rfl Try.func13 (by kernel_rfl) rfl #[.int .i64 (rd l0 a1), .int .i64 a2] rfl aq ?_; (with_reducible refine (intervalmonref01_Around.calls (rd l0 a1) a2 t199 _ A8.out).mono ?_); rintro e w' ⟨rfl, ⟨nd, rfl⟩⟩; refine ⟨_, rfl, ?_⟩))
     go_ret
     exact ⟨by first | rfl | (simp; done) | (simp [*]; done), by repeat (first | exact Drawn0.refl _ | apply Drawn0.step)⟩
    ·rw [if_neg c7] at H
     exact absurd H (by simp)
   ·rw [if_neg c6] at H
    exact absurd H (by simp)

/-! ### intervalmonref05_Names: function 48 -/
def intervalmonref05_Names.f  : Option (List ByteArray) := some (([(⟨#[97]⟩ : ByteArray), (⟨#[97, 98]⟩ : ByteArray), (⟨#[98]⟩ : ByteArray), (⟨#[106, 111, 98]⟩ : ByteArray), (⟨#[120, 95, 49]⟩ : ByteArray), (⟨#[122, 111, 110, 101]⟩ : ByteArray)] : List ByteArray))
set_option maxHeartbeats 8000000 in
set_option maxRecDepth 100000 in
theorem intervalmonref05_Names.calls  (r : List ByteArray) (w : World) (h : intervalmonref05_Names.f  = some r) :
  Calls Try.prog 48 #[] w fun e w' => ∃ v0_ : Value, e = .returned (v0_) ∧ Kd.R Kd.string 9 w' w.heap.size (fun _ => True) v0_ r ∧ Below w.heap.size w w' := by
 have HB := Aside0.mk (Below.refl w.heap.size w)
 have H : (some (([(⟨#[97]⟩ : ByteArray), (⟨#[97, 98]⟩ : ByteArray), (⟨#[98]⟩ : ByteArray), (⟨#[106, 111, 98]⟩ : ByteArray), (⟨#[120, 95, 49]⟩ : ByteArray), (⟨#[122, 111, 110, 101]⟩ : ByteArray)] : List ByteArray))) = some r := h
 clear h
 obtain ⟨y200, hy200⟩ : ∃ y_ : List ByteArray, y_ = (([(⟨#[97]⟩ : ByteArray), (⟨#[97, 98]⟩ : ByteArray), (⟨#[98]⟩ : ByteArray), (⟨#[106, 111, 98]⟩ : ByteArray), (⟨#[120, 95, 49]⟩ : ByteArray), (⟨#[122, 111, 110, 101]⟩ : ByteArray)] : List ByteArray)) := ⟨_, rfl⟩
 replace H : (some y200) = some r := by first | (rw [hy200]; with_reducible exact H) | (have H2_ := (Option.bind_some _ _).symm.trans H; rw [hy200]; with_reducible exact H2_) | (have H2_ := (Option.bind_some _ _).symm.trans H; with_reducible exact H2_) | with_reducible exact H | (rw [hy200]; exact H) | exact H
 have Ny200 := Aside0.mk hy200
 clear hy200
 obtain rfl := Option.some.inj H
 go_enter Try.func48, Try.ntmps48
 go_wp2_with (first | ((with_reducible refine gate_dst (N := 1) rfl ?_); refine Kd.R_lit Kd.string _ 9 ?hg (N := 1) ?hd (xs := ([(⟨#[97]⟩ : ByteArray), (⟨#[97, 98]⟩ : ByteArray), (⟨#[98]⟩ : ByteArray), (⟨#[106, 111, 98]⟩ : ByteArray), (⟨#[120, 95, 49]⟩ : ByteArray), (⟨#[122, 111, 110, 101]⟩ : ByteArray)] : List ByteArray)) (inner := [.string (⟨#[97]⟩ : ByteArray), .string (⟨#[97, 98]⟩ : ByteArray), .string (⟨#[98]⟩ : ByteArray), .string (⟨#[106, 111, 98]⟩ : ByteArray), .string (⟨#[120, 95, 49]⟩ : ByteArray), .string (⟨#[122, 111, 110, 101]⟩ : ByteArray)]) (ok := fun _ => True) (okp := fun _ => True) ?hr ?hp (fun _ hk => hk) trivial (Below.refl _ _) (Nat.le_refl _) (by simp) ?_; (case hd => rfl); (case hg => rfl); (case hr => first | (go_simp; done) | (go_simp; rfl)); (case hp => exact (Reps.one (show Kd.M Kd.string _ _ _ (⟨#[97]⟩ : ByteArray) [.string (⟨#[97]⟩ : ByteArray)] from rfl) (Reps.one (show Kd.M Kd.string _ _ _ (⟨#[97, 98]⟩ : ByteArray) [.string (⟨#[97, 98]⟩ : ByteArray)] from rfl) (Reps.one (show Kd.M Kd.string _ _ _ (⟨#[98]⟩ : ByteArray) [.string (⟨#[98]⟩ : ByteArray)] from rfl) (Reps.one (show Kd.M Kd.string _ _ _ (⟨#[106, 111, 98]⟩ : ByteArray) [.string (⟨#[106, 111, 98]⟩ : ByteArray)] from rfl) (Reps.one (show Kd.M Kd.string _ _ _ (⟨#[120, 95, 49]⟩ : ByteArray) [.string (⟨#[120, 95, 49]⟩ : ByteArray)] from rfl) (Reps.one (show Kd.M Kd.string _ _ _ (⟨#[122, 111, 110, 101]⟩ : ByteArray) [.string (⟨#[122, 111, 110, 101]⟩ : ByteArray)] from rfl) (Reps.none _ _)))))))); intro v201 w1 ho2 hb hg_ hnew_; clear hg_ hnew_; (first | rw [← Ny200.out] at ho2 | (simp only [Int.reduceToNat] at ho2; rw [← Ny200.out] at ho2)); have n0_ := Aside0.mk (Kd.R_lower ho2 (below_size (hq HB))); have n1_ := Aside0.mk (below_step (hq HB) hb); clear HB; have HO202 := n0_; have HB := n1_; clear n0_ n1_; clear hb ho2))
 go_ret
 exact ⟨_, by first | rfl | (simp [errW_none, errW_some] <;> rfl) | (simp [*, errW_none, errW_some] <;> rfl), by (with_reducible repeat (first | apply Kd.R_alloc | apply Kd.R_drewN | apply Kd.R_drew)); exact HO202.out, by repeat (first | (with_reducible first | exact HB.out | apply below_alloc | apply pw_below_drewN | apply below_drew1) | exact HB.out)⟩

/-! ### intervalmonref05_values: function 63 -/
def intervalmonref05_values.f  : Option (List ByteArray) := some (([(⟨#[97]⟩ : ByteArray), (⟨#[97, 98]⟩ : ByteArray), (⟨#[98]⟩ : ByteArray), (⟨#[120, 49]⟩ : ByteArray), (⟨#[126, 33]⟩ : ByteArray), (⟨#[48]⟩ : ByteArray)] : List ByteArray))
set_option maxHeartbeats 8000000 in
set_option maxRecDepth 100000 in
theorem intervalmonref05_values.calls  (r : List ByteArray) (w : World) (h : intervalmonref05_values.f  = some r) :
  Calls Try.prog 63 #[] w fun e w' => ∃ v0_ : Value, e = .returned (v0_) ∧ Kd.R Kd.string 9 w' w.heap.size (fun _ => True) v0_ r ∧ Below w.heap.size w w' := by
 have HB := Aside0.mk (Below.refl w.heap.size w)
 have H : (some (([(⟨#[97]⟩ : ByteArray), (⟨#[97, 98]⟩ : ByteArray), (⟨#[98]⟩ : ByteArray), (⟨#[120, 49]⟩ : ByteArray), (⟨#[126, 33]⟩ : ByteArray), (⟨#[48]⟩ : ByteArray)] : List ByteArray))) = some r := h
 clear h
 obtain ⟨y203, hy203⟩ : ∃ y_ : List ByteArray, y_ = (([(⟨#[97]⟩ : ByteArray), (⟨#[97, 98]⟩ : ByteArray), (⟨#[98]⟩ : ByteArray), (⟨#[120, 49]⟩ : ByteArray), (⟨#[126, 33]⟩ : ByteArray), (⟨#[48]⟩ : ByteArray)] : List ByteArray)) := ⟨_, rfl⟩
 replace H : (some y203) = some r := by first | (rw [hy203]; with_reducible exact H) | (have H2_ := (Option.bind_some _ _).symm.trans H; rw [hy203]; with_reducible exact H2_) | (have H2_ := (Option.bind_some _ _).symm.trans H; with_reducible exact H2_) | with_reducible exact H | (rw [hy203]; exact H) | exact H
 have Ny203 := Aside0.mk hy203
 clear hy203
 obtain rfl := Option.some.inj H
 go_enter Try.func63, Try.ntmps63
 go_wp2_with (first | ((with_reducible refine gate_dst (N := 1) rfl ?_); refine Kd.R_lit Kd.string _ 9 ?hg (N := 1) ?hd (xs := ([(⟨#[97]⟩ : ByteArray), (⟨#[97, 98]⟩ : ByteArray), (⟨#[98]⟩ : ByteArray), (⟨#[120, 49]⟩ : ByteArray), (⟨#[126, 33]⟩ : ByteArray), (⟨#[48]⟩ : ByteArray)] : List ByteArray)) (inner := [.string (⟨#[97]⟩ : ByteArray), .string (⟨#[97, 98]⟩ : ByteArray), .string (⟨#[98]⟩ : ByteArray), .string (⟨#[120, 49]⟩ : ByteArray), .string (⟨#[126, 33]⟩ : ByteArray), .string (⟨#[48]⟩ : ByteArray)]) (ok := fun _ => True) (okp := fun _ => True) ?hr ?hp (fun _ hk => hk) trivial (Below.refl _ _) (Nat.le_refl _) (by simp) ?_; (case hd => rfl); (case hg => rfl); (case hr => first | (go_simp; done) | (go_simp; rfl)); (case hp => exact (Reps.one (show Kd.M Kd.string _ _ _ (⟨#[97]⟩ : ByteArray) [.string (⟨#[97]⟩ : ByteArray)] from rfl) (Reps.one (show Kd.M Kd.string _ _ _ (⟨#[97, 98]⟩ : ByteArray) [.string (⟨#[97, 98]⟩ : ByteArray)] from rfl) (Reps.one (show Kd.M Kd.string _ _ _ (⟨#[98]⟩ : ByteArray) [.string (⟨#[98]⟩ : ByteArray)] from rfl) (Reps.one (show Kd.M Kd.string _ _ _ (⟨#[120, 49]⟩ : ByteArray) [.string (⟨#[120, 49]⟩ : ByteArray)] from rfl) (Reps.one (show Kd.M Kd.string _ _ _ (⟨#[126, 33]⟩ : ByteArray) [.string (⟨#[126, 33]⟩ : ByteArray)] from rfl) (Reps.one (show Kd.M Kd.string _ _ _ (⟨#[48]⟩ : ByteArray) [.string (⟨#[48]⟩ : ByteArray)] from rfl) (Reps.none _ _)))))))); intro v204 w1 ho2 hb hg_ hnew_; clear hg_ hnew_; (first | rw [← Ny203.out] at ho2 | (simp only [Int.reduceToNat] at ho2; rw [← Ny203.out] at ho2)); have n0_ := Aside0.mk (Kd.R_lower ho2 (below_size (hq HB))); have n1_ := Aside0.mk (below_step (hq HB) hb); clear HB; have HO205 := n0_; have HB := n1_; clear n0_ n1_; clear hb ho2))
 go_ret
 exact ⟨_, by first | rfl | (simp [errW_none, errW_some] <;> rfl) | (simp [*, errW_none, errW_some] <;> rfl), by (with_reducible repeat (first | apply Kd.R_alloc | apply Kd.R_drewN | apply Kd.R_drew)); exact HO205.out, by repeat (first | (with_reducible first | exact HB.out | apply below_alloc | apply pw_below_drewN | apply below_drew1) | exact HB.out)⟩

/-! ### intervalmonref05_Set: function 47 -/
def intervalmonref05_Set.l0 : Nat → List Int → List ByteArray → List ByteArray → Int → List (S91) → Int → Option ((List (S91)))
 | 0, _, _, _, _, _, _ => none
 | k + 1, x0, x3, x4, x5, x6, x7 => if x7 < (x3.length : Int) then (if (Int.tmod x5 2) = 1 then (if 0 ≤ x7 then ((intervalmonref01_Pick.f x0 (wrap64 (x7 + 1)) 6).bind fun t214 => (if 0 ≤ t214 then (if t214 < (x4.length : Int) then (if x6.length < 4398046511104 then (intervalmonref05_Set.l0 k x0 x3 x4 (wrap64 (Int.tdiv x5 2)) (x6 ++ [(⟨rdOf ByteArray.empty x3 x7, rdOf ByteArray.empty x4 t214⟩ : S91)]) (wrap64 (x7 + 1))) else (none)) else (none)) else (none))) else (none)) else (intervalmonref05_Set.l0 k x0 x3 x4 (wrap64 (Int.tdiv x5 2)) x6 (wrap64 (x7 + 1)))) else (some x6)
def intervalmonref05_Set.f (k : Nat) (l0 : List Int) : Option ((List (S91))) := (intervalmonref05_Names.f).bind fun t206 => ((intervalmonref05_values.f).bind fun t209 => ((intervalmonref01_Pick.f l0 0 64).bind fun t212 => (intervalmonref05_Set.l0 k l0 t206 t209 t212 ([] : List (S91)) 0)))
theorem intervalmonref05_Set.mono_l : ∀ k, (∀ y0 y1 y2 y3 y4 y5, LeO (intervalmonref05_Set.l0 k y0 y1 y2 y3 y4 y5) (intervalmonref05_Set.l0 (k + 1) y0 y1 y2 y3 y4 y5))
 | 0 => fun _ _ _ _ _ _ r h => by simp [intervalmonref05_Set.l0] at h
 | k + 1 => by
  have ih0 := intervalmonref05_Set.mono_l k
  ·intro y0 y1 y2 y3 y4 y5
   unfold intervalmonref05_Set.l0
   repeat' first
   | (with_reducible exact ih0 _ _ _ _ _ _)
   | (with_reducible exact LeO.refl _)
   | (with_reducible exact LeO.none _)
   | (with_reducible refine LeO.ite ?_ ?_)
   | (with_reducible refine LeO.bind ?_ (fun _ => ?_))
   | exact ih0 _ _ _ _ _ _
   | exact LeO.none _
   | refine LeO.ite ?_ ?_
   | refine LeO.bind ?_ (fun _ => ?_)
theorem intervalmonref05_Set.mono : ∀ a0 k, LeO (intervalmonref05_Set.f k a0) (intervalmonref05_Set.f (k + 1) a0) := by
 intro a0 k
 have ih0 := intervalmonref05_Set.mono_l k
 unfold intervalmonref05_Set.f
 repeat' first
   | (with_reducible exact ih0 _ _ _ _ _ _)
   | (with_reducible exact LeO.refl _)
   | (with_reducible exact LeO.none _)
   | (with_reducible refine LeO.ite ?_ ?_)
   | (with_reducible refine LeO.bind ?_ (fun _ => ?_))
   | exact ih0 _ _ _ _ _ _
   | exact LeO.none _
   | refine LeO.ite ?_ ?_
   | refine LeO.bind ?_ (fun _ => ?_)
def intervalmonref05_Set.T9 : Bool × List (List Nat × List Nat) := (true, [([], []), ([], []), ([], []), ([1, 2], [1, 2]), ([3], [3]), ([], []), ([], []), ([], []), ([7], [7]), ([6, 8], [6, 8]), ([5, 9], [5, 9]), ([10], [10]), ([4, 11], [4, 11]), ([12], [12]), ([0, 13, 9], [0, 13]), ([14, 14, 0, 1, 2, 3, 4, 5, 6, 7, 8, 9, 10, 11, 12, 13, 14], [0, 14])])
def intervalmonref05_Set.B9 : List Nat := [0, 0, 0, 6, 14, 0, 0, 0, 128, 448, 992, 2016, 4094, 8190, 16383, 32767]
theorem intervalmonref05_Set.tab9 : rtab .any (opsOf Try.f47 9) = intervalmonref05_Set.T9 := by kernel_rfl
theorem intervalmonref05_Set.bits9 : waitsOk intervalmonref05_Set.T9.2 intervalmonref05_Set.B9 = true := by kernel_rfl
set_option maxHeartbeats 8000000 in
set_option maxRecDepth 100000 in
theorem intervalmonref05_Set.calls (k : Nat) (A0 : Option Addr) (c0 : Nat) (l0 : List Int) (r : List (S91)) (w : World) (hr0 : Kd.C (Kd.int .i64) w A0 l0.length l0) (hc0 : l0.length ≤ c0) (h : intervalmonref05_Set.f k l0 = some r) :
  Calls Try.prog 47 #[.slice A0 l0.length c0] w fun e w' => ∃ v0_ : Value, e = .returned (v0_) ∧ Kd.R k91 91 w' w.heap.size (fun _ => True) v0_ r ∧ Below w.heap.size w w' := by
 have hu91 := Try.underlying91
 have HR0 := Aside0.mk hr0
 have HC0 := Aside0.mk hc0
 clear hr0 hc0
 have HB := Aside0.mk (Below.refl w.heap.size w)
 have H : ((intervalmonref05_Names.f).bind fun t206 => ((intervalmonref05_values.f).bind fun t209 => ((intervalmonref01_Pick.f l0 0 64).bind fun t212 => (intervalmonref05_Set.l0 k l0 t206 t209 t212 ([] : List (S91)) 0)))) = some r := h
 clear h
 replace H := Option.bind_eq_some_iff.mp H
 obtain ⟨t206, A20, H⟩ := H
 replace H : ((intervalmonref05_values.f).bind fun t209 => ((intervalmonref01_Pick.f l0 0 64).bind fun t212 => (intervalmonref05_Set.l0 k l0 t206 t209 t212 ([] : List (S91)) 0))) = some r := H
 have A2 := Aside0.mk A20
 clear A20
 replace H := Option.bind_eq_some_iff.mp H
 obtain ⟨t209, A30, H⟩ := H
 replace H : ((intervalmonref01_Pick.f l0 0 64).bind fun t212 => (intervalmonref05_Set.l0 k l0 t206 t209 t212 ([] : List (S91)) 0)) = some r := H
 have A3 := Aside0.mk A30
 clear A30
 replace H := Option.bind_eq_some_iff.mp H
 obtain ⟨t212, A40, H⟩ := H
 replace H : (intervalmonref05_Set.l0 k l0 t206 t209 t212 ([] : List (S91)) 0) = some r := H
 have A4 := Aside0.mk A40
 clear A40
 have H' := Aside0.mk H
 clear H
 go_enter Try.func47, Try.ntmps47
 go_wp2_with (first | ((with_reducible refine gate_callee (f := 48) rfl ?_); refine goesL_ (some 8) rfl rfl Try.func48 (by kernel_rfl) rfl #[] rfl aq ?_; (with_reducible refine (intervalmonref05_Names.calls  t206 _ A2.out).mono ?_); rintro e w5 ⟨v207, rfl, ho0, hb⟩; refine ⟨_, rfl, ?_⟩; have n0_ := Aside0.mk (Kd.R_lower ho0 (below_size (hq HB))); have n1_ := Aside0.mk (below_step (hq HB) hb); clear HB; have HO208 := n0_; have HB := n1_; clear n0_ n1_; (try clear hb); (try clear hb2); (try clear hk); (try clear hi); (try clear ho0)) | ((with_reducible refine gate_callee (f := 63) rfl ?_); refine goesL_ (some 9) rfl rfl Try.func63 (by kernel_rfl) rfl #[] rfl aq ?_; (with_reducible refine (intervalmonref05_values.calls  t209 _ A3.out).mono ?_); rintro e w6 ⟨v210, rfl, ho0, hb⟩; refine ⟨_, rfl, ?_⟩; have n0_ := Aside0.mk (Kd.R_elder' (rq HO208) (Kd.R_base ho0) hb); have n1_ := Aside0.mk (Kd.R_lower (Kd.R_new' ho0 (Kd.R_lt (rq HO208))) (below_size (hq HB))); have n2_ := Aside0.mk (below_step (hq HB) hb); clear HO208; clear HB; have HO208 := n0_; have HO211 := n1_; have HB := n2_; clear n0_ n1_ n2_; (try clear hb); (try clear hb2); (try clear hk); (try clear hi); (try clear ho0)) | ((with_reducible refine gate_callee (f := 39) rfl ?_); refine goesL_ (some 11) rfl rfl Try.func39 (by kernel_rfl) rfl #[.slice A0 l0.length c0, .int .i64 0, .int .i64 64] rfl aq ?_; (with_reducible refine (intervalmonref01_Pick.calls _ _ l0 0 64 t212 _ ?side1 ?side2 A4.out).mono ?_); (case side1 => repeat (first | exact (Kd.C_below HR0.out HB.out) | (with_reducible refine Kd.C_alloc ?_ _) | (with_reducible refine Kd.C_drewN ?_ _) | (with_reducible refine Kd.C_drew ?_))); (case side2 => exact HC0.out); rintro e w' ⟨rfl, ⟨nd, rfl⟩⟩; refine ⟨_, rfl, ?_⟩))
 go_loopg [5, 6, 7] k (fun kq v5 v6 v7 w' => ∃ (x5_1 : Int) (x6_1 : List (S91)) (x7_1 : Int), v5 = .int .i64 x5_1 ∧ v7 = .int .i64 x7_1 ∧ Aside0 (intervalmonref05_Set.l0 kq l0 t206 t209 x5_1 x6_1 x7_1 = some r) ∧ Aside0 (kq ≤ k) ∧ Aside0 (Kd.R Kd.string 9 w' w.heap.size (fun k_ => some k_ ≠ (v210 : Value).ownBlock) v207 t206) ∧ Aside0 (Kd.R Kd.string 9 w' w.heap.size (fun k_ => some k_ ≠ (v207 : Value).ownBlock) v210 t209) ∧ Aside0 (Kd.R k91 91 w' w.heap.size (fun _ => True) v6 x6_1) ∧ Aside0 (Below w.heap.size w w'))
 case atStart => exact ⟨(t212), (([] : List (S91))), (0), (by first | rfl | (simp; done) | (simp [*]; done)), (by first | rfl | (simp; done) | (simp [*]; done)), H', ⟨Nat.le_refl _⟩, ⟨by (with_reducible repeat (first | apply Kd.R_alloc | apply Kd.R_drewN | apply Kd.R_drew)); exact Kd.R_mono HO208.out (fun _ hk => hk.2)⟩, ⟨by (with_reducible repeat (first | apply Kd.R_alloc | apply Kd.R_drewN | apply Kd.R_drew)); exact Kd.R_mono HO211.out (fun _ hk => hk.2)⟩, ⟨by first | exact Kd.R_nil _ _ _ _ _ | exact Kd.N_nil _ _ _ _ _ | exact Kd.V_nil _ _ _ _ _ | exact Kd.Q_nil _ _ _ _ _ | exact Kd.S_nil _ _ _ _ _⟩, ⟨by repeat (first | (with_reducible first | exact HB.out | apply below_alloc | apply pw_below_drewN | apply below_drew1) | exact HB.out)⟩⟩
 case round =>
  clear H'
  try clear p2
  try clear c3
  try clear c4
  try clear c6
  obtain ⟨x5_1, x6_1, x7_1, rfl, rfl, HA, HK1, HO_3, HO_4, HO_6, HB⟩ := hrel
  cases gk with
  | zero => exact absurd HA.out (by simp [intervalmonref05_Set.l0])
  | succ k1 =>
   have H := HA.out
   clear HA
   simp only [intervalmonref05_Set.l0] at H
   by_cases c7 : x7_1 < (t206.length : Int)
   ·rw [if_pos c7] at H
    have c7b0 : decide (x7_1 < (t206.length : Int)) = true := decide_eq_true c7
    clear c7
    by_cases c8 : (Int.tmod x5_1 2) = 1
    ·rw [if_pos c8] at H
     have c8b0 : ((Int.tmod x5_1 2) == 1) = true := beq_iff_eq.mpr c8
     have c8b1 : ((Int.tmod x5_1 2) != 1) = false := bne_eq_false_iff_eq.mpr c8
     clear c8
     by_cases c9 : 0 ≤ x7_1
     ·rw [if_pos c9] at H
      have c9b0 : decide (0 ≤ x7_1) = true := decide_eq_true c9
      clear c9
      replace H := Option.bind_eq_some_iff.mp H
      obtain ⟨t214, A100, H⟩ := H
      replace H : (if 0 ≤ t214 then (if t214 < (t209.length : Int) then (if x6_1.length < 4398046511104 then (intervalmonref05_Set.l0 k1 l0 t206 t209 (wrap64 (Int.tdiv x5_1 2)) (x6_1 ++ [(⟨rdOf ByteArray.empty t206 x7_1, rdOf ByteArray.empty t209 t214⟩ : S91)]) (wrap64 (x7_1 + 1))) else (none)) else (none)) else (none)) = some r := H
      have A10 := Aside0.mk A100
      clear A100
      by_cases c11 : 0 ≤ t214
      ·rw [if_pos c11] at H
       have c11b0 : decide (0 ≤ t214) = true := decide_eq_true c11
       clear c11
       by_cases c12 : t214 < (t209.length : Int)
       ·rw [if_pos c12] at H
        have c12b0 : decide (t214 < (t209.length : Int)) = true := decide_eq_true c12
        clear c12
        by_cases c13 : x6_1.length < 4398046511104
        ·rw [if_pos c13] at H
         have LMc13 := Aside0.mk c13
         clear c13
         obtain ⟨y216, hy216⟩ : ∃ y_ : List (S91), y_ = (x6_1 ++ [(⟨rdOf ByteArray.empty t206 x7_1, rdOf ByteArray.empty t209 t214⟩ : S91)]) := ⟨_, rfl⟩
         replace H : (intervalmonref05_Set.l0 k1 l0 t206 t209 (wrap64 (Int.tdiv x5_1 2)) y216 (wrap64 (x7_1 + 1))) = some r := by first | (rw [hy216]; with_reducible exact H) | (have H2_ := (Option.bind_some _ _).symm.trans H; rw [hy216]; with_reducible exact H2_) | (have H2_ := (Option.bind_some _ _).symm.trans H; with_reducible exact H2_) | with_reducible exact H | (rw [hy216]; exact H) | exact H
         have Ny216 := Aside0.mk hy216
         clear hy216
         have H' := Aside0.mk H
         clear H
         obtain ⟨Ao14, co14, eo14⟩ := Kd.R_slice HO_3.out
         subst eo14
         try go_wp2
         have n0_ := Aside0.mk (Kd.R_drew HO_3.out)
         have n1_ := Aside0.mk (Kd.R_drew HO_4.out)
         have n2_ := Aside0.mk (Kd.R_drew HO_6.out)
         have n3_ := Aside0.mk (below_drew1 HB.out)
         clear HO_3
         clear HO_4
         clear HO_6
         clear HB
         have HO_3 := n0_
         have HO_4 := n1_
         have HO_6 := n2_
         have HB := n3_
         clear n0_ n1_ n2_ n3_
         have p213 : 0 ≤ (x7_1 : Int) := of_decide_eq_true (by first | (with_reducible assumption) | assumption)
         have q213 : x7_1 < (t206.length : Int) := of_decide_eq_true (by first | (with_reducible assumption) | assumption)
         try (obtain ⟨Az213_, cz213_, ez213_⟩ := Kd.R_slice HO_3.out; subst ez213_)
         obtain ⟨ad213, e213, hx213_0⟩ := Kd.at_string (Kd.R_reads' HO_3.out).2.2 x7_1 p213 q213
         cases e213
         replace p213 := eq_true p213
         replace q213 := eq_true q213
         have p215 : 0 ≤ (t214 : Int) := of_decide_eq_true (by first | (with_reducible assumption) | assumption)
         have q215 : t214 < (t209.length : Int) := of_decide_eq_true (by first | (with_reducible assumption) | assumption)
         try (obtain ⟨Az215_, cz215_, ez215_⟩ := Kd.R_slice HO_4.out; subst ez215_)
         obtain ⟨ad215, e215, hx215_0⟩ := Kd.at_string (Kd.R_reads' HO_4.out).2.2 t214 p215 q215
         cases e215
         replace p215 := eq_true p215
         replace q215 := eq_true q215
         refine start_ (n := 16) (S := fun w' => w'.cell? (ad213.add (x7_1).toNat) = some (.string (rdOf ByteArray.empty t206 x7_1)) ∧ w'.cell? (ad215.add (t214).toNat) = some (.string (rdOf ByteArray.empty t209 t214))) (ds := [13, 14]) #[false, false, false, false, false, false, false, false, false, false, false, false, false, false, false, false] (by kernel_rfl) rfl rfl ⟨hx213_0, hx215_0⟩ (fun hHeld => ?_); refine with_tabW intervalmonref05_Set.tab9 intervalmonref05_Set.bits9 (fun HT_ HW_ => ?_)
         generalize wr.drew = w15 at HO_3 HO_4 HO_6 HB hx213_0 hx215_0 hHeld ⊢
         refine pure_ (i := 0) (N := some 21) (v := ?_) (a' := ?_) #[true, false, false, false, false, false, false, false, false, false, false, false, false, false, false, false] rfl rfl (any_of HT_.out (by kernel_rfl)) (fun _ _ _ h => h) (Or.inl ⟨by rfl, ?_⟩) ?_ ?_
         rotate_left
         ·intro w'
          go_simp
          with_reducible rfl
         rotate_left
         ·simp only [Act.put, List.setIfInBounds_toArray, List.set_cons_zero, List.set_cons_succ, i64_w, i32_w]
          rfl
         refine pure_ (i := 1) (N := some 22) (v := ?_) (a' := ?_) #[true, true, false, false, false, false, false, false, false, false, false, false, false, false, false, false] rfl rfl (any_of HT_.out (by kernel_rfl)) (fun _ _ _ h => h) (Or.inl ⟨by rfl, ?_⟩) ?_ ?_
         rotate_left
         ·intro w'
          go_simp
          with_reducible rfl
         rotate_left
         ·simp only [Act.put, List.setIfInBounds_toArray, List.set_cons_zero, List.set_cons_succ, i64_w, i32_w]
          rfl
         refine pure_ (i := 2) (N := some 23) (v := ?_) (a' := ?_) #[true, true, true, false, false, false, false, false, false, false, false, false, false, false, false, false] rfl rfl (any_of HT_.out (by kernel_rfl)) (fun _ _ _ h => h) (Or.inl ⟨by rfl, ?_⟩) ?_ ?_
         rotate_left
         ·intro w'
          go_simp
          with_reducible rfl
         rotate_left
         ·simp only [Act.put, List.setIfInBounds_toArray, List.set_cons_zero, List.set_cons_succ, i64_w, i32_w]
          rfl
         refine pure_ (i := 3) (N := some 24) (v := ?_) (a' := ?_) #[true, true, true, true, false, false, false, false, false, false, false, false, false, false, false, false] rfl rfl (any_of HT_.out (by kernel_rfl)) (fun _ _ _ h => h) (Or.inl ⟨by rfl, ?_⟩) ?_ ?_
         rotate_left
         ·intro w'
          go_simp
          with_reducible rfl
         rotate_left
         ·simp only [Act.put, List.setIfInBounds_toArray, List.set_cons_zero, List.set_cons_succ, i64_w, i32_w]
          rfl
         refine pure_ (i := 5) (N := some 26) (v := ?_) (a' := ?_) #[true, true, true, true, false, true, false, false, false, false, false, false, false, false, false, false] rfl rfl (any_of HT_.out (by kernel_rfl)) (fun _ _ _ h => h) (Or.inl ⟨by rfl, ?_⟩) ?_ ?_
         rotate_left
         ·intro w'
          go_simp
          with_reducible rfl
         rotate_left
         ·simp only [Act.put, List.setIfInBounds_toArray, List.set_cons_zero, List.set_cons_succ, i64_w, i32_w]
          rfl
         refine pure_ (i := 6) (N := some 27) (v := ?_) (a' := ?_) #[true, true, true, true, false, true, true, false, false, false, false, false, false, false, false, false] rfl rfl (any_of HT_.out (by kernel_rfl)) (fun _ _ _ h => h) (Or.inl ⟨by rfl, ?_⟩) ?_ ?_
         rotate_left
         ·intro w'
          go_simp
          with_reducible rfl
         rotate_left
         ·simp only [Act.put, List.setIfInBounds_toArray, List.set_cons_zero, List.set_cons_succ, i64_w, i32_w]
          rfl
         refine pure_ (i := 7) (N := some 28) (v := ?_) (a' := ?_) #[true, true, true, true, false, true, true, true, false, false, false, false, false, false, false, false] rfl rfl (any_of HT_.out (by kernel_rfl)) (fun _ _ _ h => h) (Or.inl ⟨by rfl, ?_⟩) ?_ ?_
         rotate_left
         ·intro w'
          go_simp
          with_reducible rfl
         rotate_left
         ·simp only [Act.put, List.setIfInBounds_toArray, List.set_cons_zero, List.set_cons_succ, i64_w, i32_w]
          rfl
         refine pure_ (i := 8) (N := some 29) (v := ?_) (a' := ?_) #[true, true, true, true, false, true, true, true, true, false, false, false, false, false, false, false] rfl rfl (any_of HT_.out (by kernel_rfl)) (fun _ _ _ h => h) (Or.inl ⟨by rfl, ?_⟩) ?_ ?_
         rotate_left
         ·intro w'
          go_simp
          with_reducible rfl
         rotate_left
         ·simp only [Act.put, List.setIfInBounds_toArray, List.set_cons_zero, List.set_cons_succ, i64_w, i32_w]
          rfl
         refine take_ (i := 4) (N := some 25) (v := ?_) (a' := ?_) #[true, true, true, true, true, true, true, true, true, false, false, false, false, false, false, false] rfl rfl (take_ofW HT_.out HW_.out (by kernel_rfl)) (fun _ _ _ h => h) (Or.inl ⟨by rfl, ?_⟩) hHeld ?_ ?_
         rotate_left
         ·rintro w' ⟨s0, s1⟩
          go_simp
          with_reducible rfl
         rotate_left
         ·simp only [Act.put, List.setIfInBounds_toArray, List.set_cons_zero, List.set_cons_succ, i64_w, i32_w]
          rfl
         refine one_ (i := 9) (N := some 30) #[true, true, true, true, true, true, true, true, true, true, false, false, false, false, false, false] rfl rfl (one_of HT_.out (by kernel_rfl)) (by decide) (fun K hK => ?_)
         refine goes_ Try.func39 (by kernel_rfl) rfl #[.slice A0 l0.length c0, .int .i64 (wrap64 (x7_1 + 1)), .int .i64 6] (by rfl) rfl rfl aq ?_
         with_reducible refine (intervalmonref01_Pick.calls _ _ l0 (wrap64 (x7_1 + 1)) 6 t214 _ ?side1 ?side2 A10.out).mono ?_
         (case side1 => repeat (first | exact (Kd.C_below HR0.out HB.out) | (with_reducible refine Kd.C_alloc ?_ _) | (with_reducible refine Kd.C_drewN ?_ _) | (with_reducible refine Kd.C_drew ?_)))
         (case side2 => exact HC0.out)
         rintro e w' ⟨rfl, ⟨nd, rfl⟩⟩
         refine ⟨_, rfl, ?_⟩
         obtain ⟨Ao16, co16, eo16⟩ := Kd.R_slice HO_4.out
         (first | subst eo16 | (injection eo16 with f1_ f2_ f3_; have f4_ := f1_.symm; have f5_ := f3_.symm; clear f1_ f2_ f3_; subst f4_; subst f5_))
         refine hK.out _ _ ⟨hHeld.1, hHeld.2⟩ (fun hHeld => ?_)
         clear hK K
         refine norm_ (a' := ?_) ?_ ?_
         rotate_left
         ·show Act.put _ (some 30) _ = _
          simp only [Act.put, List.setIfInBounds_toArray, List.set_cons_zero, List.set_cons_succ, i64_w, i32_w]
          rfl
         refine pure_ (i := 10) (N := some 31) (v := ?_) (a' := ?_) #[true, true, true, true, true, true, true, true, true, true, true, false, false, false, false, false] rfl rfl (any_of HT_.out (by kernel_rfl)) (fun _ _ _ h => h) (Or.inl ⟨by rfl, ?_⟩) ?_ ?_
         rotate_left
         ·intro w'
          go_simp
          with_reducible rfl
         rotate_left
         ·simp only [Act.put, List.setIfInBounds_toArray, List.set_cons_zero, List.set_cons_succ, i64_w, i32_w]
          rfl
         refine take_ (i := 11) (N := some 32) (v := ?_) (a' := ?_) #[true, true, true, true, true, true, true, true, true, true, true, true, false, false, false, false] rfl rfl (take_ofW HT_.out HW_.out (by kernel_rfl)) (fun _ _ _ h => h) (Or.inl ⟨by rfl, ?_⟩) hHeld ?_ ?_
         rotate_left
         ·rintro w' ⟨s0, s1⟩
          go_simp
          with_reducible rfl
         rotate_left
         ·simp only [Act.put, List.setIfInBounds_toArray, List.set_cons_zero, List.set_cons_succ, i64_w, i32_w]
          rfl
         refine pure_ (i := 12) (N := some 33) (v := ?_) (a' := ?_) #[true, true, true, true, true, true, true, true, true, true, true, true, true, false, false, false] rfl rfl (any_of HT_.out (by kernel_rfl)) (fun _ _ _ h => h) (Or.inl ⟨by rfl, ?_⟩) ?_ ?_
         rotate_left
         ·intro w'
          go_simp
          with_reducible rfl
         rotate_left
         ·simp only [Act.put, List.setIfInBounds_toArray, List.set_cons_zero, List.set_cons_succ, i64_w, i32_w]
          rfl
         refine last_ (i := 13) (N := some 34) #[true, true, true, true, true, true, true, true, true, true, true, true, true, true, false, false] rfl rfl (one_of HT_.out (by kernel_rfl)) (by decide) (fun K hK => ?_)
         refine value_ (w1 := ?_) (v := ?_) (by rfl) rfl ?_ ?_
         rotate_left 2
         ·go_simp
          constructor
          ·rfl
          ·rfl
         refine hK.out _ _ ?_
         clear hK K
         refine norm_ (a' := ?_) ?_ ?_
         rotate_left
         ·show Act.put _ (some 34) _ = _
          simp only [Act.put, List.setIfInBounds_toArray, List.set_cons_zero, List.set_cons_succ, i64_w, i32_w]
          rfl
         refine last_ (i := 14) (N := some 35) #[true, true, true, true, true, true, true, true, true, true, true, true, true, true, true, false] rfl rfl (one_of HT_.out (by kernel_rfl)) (by decide) (fun K hK => ?_)
         refine Kd.R_append_step k91 (w0 := w) w.heap.size (by rfl) (.tmp 21) (.tmp 34) 70 91 (.agg #[(.string ⟨#[]⟩), (.string ⟨#[]⟩)]) 32 rfl Try.underlying70 info91 rfl (by decide) (by omega) u6 x6_1 (⟨rdOf ByteArray.empty t206 x7_1, rdOf ByteArray.empty t209 t214⟩ : S91) [.string (rdOf ByteArray.empty t206 x7_1), .string (rdOf ByteArray.empty t209 t214)] (fun _ => True) (fun _ => False) rfl rfl ?aP (fun _ hk => hk.elim) ?aF ?aO ?aB ?aS ?aL ?_
         (case aP => exact k91_mkM _ _ _ (⟨rdOf ByteArray.empty t206 x7_1, rdOf ByteArray.empty t209 t214⟩ : S91))
         (case aB => exact (hq HB))
         (case aF => exact (fun _ _ => trivial))
         (case aO => exact (rq HO_6))
         (case aS => exact (below_size (hq HB)))
         (case aL => have := LMc13.out; omega)
         intro v217 w17 ho hb hg hat
         rw [← Ny216.out] at ho
         have n0_ := Aside0.mk (Kd.R_over' (rq HO_3) (Kd.R_typed (rq HO_6)) (by decide) hg)
         have n1_ := Aside0.mk (Kd.R_over' (rq HO_4) (Kd.R_typed (rq HO_6)) (by decide) hg)
         have n2_ := Aside0.mk (hb)
         have n3_ := Aside0.mk (ho)
         clear HO_3
         clear HO_4
         clear HB
         clear HO_6
         have HO_3 := n0_
         have HO_4 := n1_
         have HB := n2_
         have HO218 := n3_
         clear n0_ n1_ n2_ n3_
         clear ho hb hg hat
         refine hK.out _ _ ?_
         clear hK K
         refine norm_ (a' := ?_) ?_ ?_
         rotate_left
         ·show Act.put _ (some 35) _ = _
          simp only [Act.put, List.setIfInBounds_toArray, List.set_cons_zero, List.set_cons_succ, i64_w, i32_w]
          rfl
         refine pure_ (i := 15) (N := some 6) (v := ?_) (a' := ?_) #[true, true, true, true, true, true, true, true, true, true, true, true, true, true, true, true] rfl rfl (any_of HT_.out (by kernel_rfl)) (fun _ _ _ h => h) (Or.inl ⟨by rfl, ?_⟩) ?_ ?_
         rotate_left
         ·intro w'
          go_simp
          with_reducible rfl
         rotate_left
         ·simp only [Act.put, List.setIfInBounds_toArray, List.set_cons_zero, List.set_cons_succ, i64_w, i32_w]
          rfl
         refine done_ (done_of HT_.out (by kernel_rfl)) ?_
         try go_wp2
         go_roundg k1
         case measure => have := HK1.out; omega
         case rel => exact ⟨(wrap64 (Int.tdiv x5_1 2)), (y216), (wrap64 (x7_1 + 1)), (by first | rfl | (simp; done) | (simp [*]; done)), (by first | rfl | (simp; done) | (simp [*]; done)), H', ⟨by have := HK1.out; omega⟩, ⟨by (with_reducible repeat (first | apply Kd.R_alloc | apply Kd.R_drewN | apply Kd.R_drew)); exact HO_3.out⟩, ⟨by (with_reducible repeat (first | apply Kd.R_alloc | apply Kd.R_drewN | apply Kd.R_drew)); exact HO_4.out⟩, ⟨by (with_reducible repeat (first | apply Kd.R_alloc | apply Kd.R_drewN | apply Kd.R_drew)); exact HO218.out⟩, ⟨by repeat (first | (with_reducible first | exact HB.out | apply below_alloc | apply pw_below_drewN | apply below_drew1) | exact HB.out)⟩⟩
        ·rw [if_neg c13] at H
         exact absurd H (by simp)
       ·rw [if_neg c12] at H
        exact absurd H (by simp)
      ·rw [if_neg c11] at H
       exact absurd H (by simp)
     ·rw [if_neg c9] at H
      exact absurd H (by simp)
    ·rw [if_neg c8] at H
     have c8b0 : ((Int.tmod x5_1 2) == 1) = false := beq_eq_false_iff_ne.mpr c8
     have c8b1 : ((Int.tmod x5_1 2) != 1) = true := bne_iff_ne.mpr c8
     have H' := Aside0.mk H
     clear H
     obtain ⟨Ao18, co18, eo18⟩ := Kd.R_slice HO_3.out
     subst eo18
     go_wp2
     go_roundg k1
     case measure => have := HK1.out; omega
     case rel => exact ⟨(wrap64 (Int.tdiv x5_1 2)), (x6_1), (wrap64 (x7_1 + 1)), (by first | rfl | (simp; done) | (simp [*]; done)), (by first | rfl | (simp; done) | (simp [*]; done)), H', ⟨by have := HK1.out; omega⟩, ⟨by (with_reducible repeat (first | apply Kd.R_alloc | apply Kd.R_drewN | apply Kd.R_drew)); exact HO_3.out⟩, ⟨by (with_reducible repeat (first | apply Kd.R_alloc | apply Kd.R_drewN | apply Kd.R_drew)); exact HO_4.out⟩, ⟨by (with_reducible repeat (first | apply Kd.R_alloc | apply Kd.R_drewN | apply Kd.R_drew)); exact HO_6.out⟩, ⟨by repeat (first | (with_reducible first | exact HB.out | apply below_alloc | apply pw_below_drewN | apply below_drew1) | exact HB.out)⟩⟩
   ·rw [if_neg c7] at H
    have c7b0 : decide (x7_1 < (t206.length : Int)) = false := decide_eq_false c7
    clear c7
    obtain rfl := Option.some.inj H
    obtain ⟨Ao19, co19, eo19⟩ := Kd.R_slice HO_3.out
    subst eo19
    go_wp2
    go_ret
    exact ⟨_, by first | rfl | (simp [errW_none, errW_some] <;> rfl) | (simp [*, errW_none, errW_some] <;> rfl), by (with_reducible repeat (first | apply Kd.R_alloc | apply Kd.R_drewN | apply Kd.R_drew)); exact HO_6.out, by repeat (first | (with_reducible first | exact HB.out | apply below_alloc | apply pw_below_drewN | apply below_drew1) | exact HB.out)⟩

/-! ### intervalmonref29_Alerts: function 31 -/
def intervalmonref29_Alerts.l0 : Nat → List Int → List (S73) → Int → Option ((List (S73)))
 | 0, _, _, _ => none
 | k + 1, x0, x3, x4 => (intervalmonref01_Pick.f x0 0 9).bind fun t219 => (if x4 < t219 then ((intervalmonref01_Pick.f x0 (wrap64 (x4 + 1)) 100000).bind fun t220 => ((intervalmonref05_Set.f k (([t220, Int.tmod (wrap64 (Int.tdiv t220 64)) 2, Int.tmod (wrap64 (Int.tdiv t220 128)) 2, Int.tmod (wrap64 (Int.tdiv t220 256)) 2, Int.tmod (wrap64 (Int.tdiv t220 512)) 2, Int.tmod (wrap64 (Int.tdiv t220 1024)) 2, Int.tmod (wrap64 (Int.tdiv t220 2048)) 2] : List Int))).bind fun t224 => (if x3.length < 1954687338268 then (intervalmonref29_Alerts.l0 k x0 (x3 ++ [(⟨(⟨#[114]⟩ : ByteArray), 1, t224, 0, 0, 0⟩ : S73)]) (wrap64 (x4 + 1))) else (none)))) else (some x3))
def intervalmonref29_Alerts.f (k : Nat) (l0 : List Int) : Option ((List (S73))) := intervalmonref29_Alerts.l0 k l0 ([] : List (S73)) 0
theorem intervalmonref29_Alerts.mono_l : ∀ k, (∀ y0 y1 y2, LeO (intervalmonref29_Alerts.l0 k y0 y1 y2) (intervalmonref29_Alerts.l0 (k + 1) y0 y1 y2))
 | 0 => fun _ _ _ r h => by simp [intervalmonref29_Alerts.l0] at h
 | k + 1 => by
  have ih0 := intervalmonref29_Alerts.mono_l k
  ·intro y0 y1 y2
   unfold intervalmonref29_Alerts.l0
   repeat' first
   | (with_reducible exact ih0 _ _ _)
   | (with_reducible exact intervalmonref05_Set.mono _ _)
   | (with_reducible exact LeO.refl _)
   | (with_reducible exact LeO.none _)
   | (with_reducible refine LeO.ite ?_ ?_)
   | (with_reducible refine LeO.bind ?_ (fun _ => ?_))
   | exact ih0 _ _ _
   | exact intervalmonref05_Set.mono _ _
   | exact LeO.none _
   | refine LeO.ite ?_ ?_
   | refine LeO.bind ?_ (fun _ => ?_)
theorem intervalmonref29_Alerts.mono : ∀ a0 k, LeO (intervalmonref29_Alerts.f k a0) (intervalmonref29_Alerts.f (k + 1) a0) := by
 intro a0 k
 have ih0 := intervalmonref29_Alerts.mono_l k
 unfold intervalmonref29_Alerts.f
 repeat' first
   | (with_reducible exact ih0 _ _ _)
   | (with_reducible exact intervalmonref05_Set.mono _ _)
   | (with_reducible exact LeO.refl _)
   | (with_reducible exact LeO.none _)
   | (with_reducible refine LeO.ite ?_ ?_)
   | (with_reducible refine LeO.bind ?_ (fun _ => ?_))
   | exact ih0 _ _ _
   | exact intervalmonref05_Set.mono _ _
   | exact LeO.none _
   | refine LeO.ite ?_ ?_
   | refine LeO.bind ?_ (fun _ => ?_)
set_option maxHeartbeats 8000000 in
set_option maxRecDepth 100000 in
theorem intervalmonref29_Alerts.calls (k : Nat) (A0 : Option Addr) (c0 : Nat) (l0 : List Int) (r : List (S73)) (w : World) (hr0 : Kd.C (Kd.int .i64) w A0 l0.length l0) (hc0 : l0.length ≤ c0) (h : intervalmonref29_Alerts.f k l0 = some r) :
  Calls Try.prog 31 #[.slice A0 l0.length c0] w fun e w' => ∃ v0_ : Value, e = .returned (v0_) ∧ Kd.S k73 73 w' w.heap.size (fun _ => True) v0_ r ∧ Below w.heap.size w w' := by
 have hu73 := Try.underlying73
 have HR0 := Aside0.mk hr0
 have HC0 := Aside0.mk hc0
 clear hr0 hc0
 have HB := Aside0.mk (Below.refl w.heap.size w)
 have H : (intervalmonref29_Alerts.l0 k l0 ([] : List (S73)) 0) = some r := h
 clear h
 have H' := Aside0.mk H
 clear H
 go_enter Try.func31, Try.ntmps31
 go_wp2
 go_loopg [3, 4] k (fun kq v3 v4 w' => ∃ (x3_1 : List (S73)) (x4_1 : Int), v4 = .int .i64 x4_1 ∧ Aside0 (intervalmonref29_Alerts.l0 kq l0 x3_1 x4_1 = some r) ∧ Aside0 (kq ≤ k) ∧ Aside0 (Kd.S k73 73 w' w.heap.size (fun _ => True) v3 x3_1) ∧ Aside0 (Below w.heap.size w w'))
 case atStart => exact ⟨(([] : List (S73))), (0), (by first | rfl | (simp; done) | (simp [*]; done)), H', ⟨Nat.le_refl _⟩, ⟨by first | exact Kd.S_nil _ _ _ _ _ | exact Kd.N_nil _ _ _ _ _ | exact Kd.V_nil _ _ _ _ _ | exact Kd.Q_nil _ _ _ _ _ | exact Kd.R_nil _ _ _ _ _⟩, ⟨by repeat (first | (with_reducible first | exact HB.out | apply below_alloc | apply pw_below_drewN | apply below_drew1) | exact HB.out)⟩⟩
 case round =>
  clear H'
  obtain ⟨x3_1, x4_1, rfl, HA, HK1, HO_3, HB⟩ := hrel
  cases gk with
  | zero => exact absurd HA.out (by simp [intervalmonref29_Alerts.l0])
  | succ k1 =>
   have H := HA.out
   clear HA
   simp only [intervalmonref29_Alerts.l0] at H
   replace H := Option.bind_eq_some_iff.mp H
   obtain ⟨t219, A20, H⟩ := H
   replace H : (if x4_1 < t219 then ((intervalmonref01_Pick.f l0 (wrap64 (x4_1 + 1)) 100000).bind fun t220 => ((intervalmonref05_Set.f k1 (([t220, Int.tmod (wrap64 (Int.tdiv t220 64)) 2, Int.tmod (wrap64 (Int.tdiv t220 128)) 2, Int.tmod (wrap64 (Int.tdiv t220 256)) 2, Int.tmod (wrap64 (Int.tdiv t220 512)) 2, Int.tmod (wrap64 (Int.tdiv t220 1024)) 2, Int.tmod (wrap64 (Int.tdiv t220 2048)) 2] : List Int))).bind fun t224 => (if x3_1.length < 1954687338268 then (intervalmonref29_Alerts.l0 k1 l0 (x3_1 ++ [(⟨(⟨#[114]⟩ : ByteArray), 1, t224, 0, 0, 0⟩ : S73)]) (wrap64 (x4_1 + 1))) else (none)))) else (some x3_1)) = some r := H
   have A2 := Aside0.mk A20
   clear A20
   by_cases c3 : x4_1 < t219
   ·rw [if_pos c3] at H
    have c3b0 : decide (x4_1 < t219) = true := decide_eq_true c3
    clear c3
    replace H := Option.bind_eq_some_iff.mp H
    obtain ⟨t220, A40, H⟩ := H
    replace H : ((intervalmonref05_Set.f k1 (([t220, Int.tmod (wrap64 (Int.tdiv t220 64)) 2, Int.tmod (wrap64 (Int.tdiv t220 128)) 2, Int.tmod (wrap64 (Int.tdiv t220 256)) 2, Int.tmod (wrap64 (Int.tdiv t220 512)) 2, Int.tmod (wrap64 (Int.tdiv t220 1024)) 2, Int.tmod (wrap64 (Int.tdiv t220 2048)) 2] : List Int))).bind fun t224 => (if x3_1.length < 1954687338268 then (intervalmonref29_Alerts.l0 k1 l0 (x3_1 ++ [(⟨(⟨#[114]⟩ : ByteArray), 1, t224, 0, 0, 0⟩ : S73)]) (wrap64 (x4_1 + 1))) else (none))) = some r := H
    have A4 := Aside0.mk A40
    clear A40
    obtain ⟨y221, hy221⟩ : ∃ y_ : List Int, y_ = (([t220, Int.tmod (wrap64 (Int.tdiv t220 64)) 2, Int.tmod (wrap64 (Int.tdiv t220 128)) 2, Int.tmod (wrap64 (Int.tdiv t220 256)) 2, Int.tmod (wrap64 (Int.tdiv t220 512)) 2, Int.tmod (wrap64 (Int.tdiv t220 1024)) 2, Int.tmod (wrap64 (Int.tdiv t220 2048)) 2] : List Int)) := ⟨_, rfl⟩
    replace H : ((intervalmonref05_Set.f k1 y221).bind fun t224 => (if x3_1.length < 1954687338268 then (intervalmonref29_Alerts.l0 k1 l0 (x3_1 ++ [(⟨(⟨#[114]⟩ : ByteArray), 1, t224, 0, 0, 0⟩ : S73)]) (wrap64 (x4_1 + 1))) else (none))) = some r := by first | (rw [hy221]; with_reducible exact H) | (have H2_ := (Option.bind_some _ _).symm.trans H; rw [hy221]; with_reducible exact H2_) | (have H2_ := (Option.bind_some _ _).symm.trans H; with_reducible exact H2_) | with_reducible exact H | (rw [hy221]; exact H) | exact H
    have Ny221 := Aside0.mk hy221
    clear hy221
    replace H := Option.bind_eq_some_iff.mp H
    obtain ⟨t224, A50, H⟩ := H
    replace H : (if x3_1.length < 1954687338268 then (intervalmonref29_Alerts.l0 k1 l0 (x3_1 ++ [(⟨(⟨#[114]⟩ : ByteArray), 1, t224, 0, 0, 0⟩ : S73)]) (wrap64 (x4_1 + 1))) else (none)) = some r := H
    have A5 := Aside0.mk A50
    clear A50
    by_cases c6 : x3_1.length < 1954687338268
    ·rw [if_pos c6] at H
     have LMc6 := Aside0.mk c6
     clear c6
     obtain ⟨y227, hy227⟩ : ∃ y_ : List (S73), y_ = (x3_1 ++ [(⟨(⟨#[114]⟩ : ByteArray), 1, t224, 0, 0, 0⟩ : S73)]) := ⟨_, rfl⟩
     replace H : (intervalmonref29_Alerts.l0 k1 l0 y227 (wrap64 (x4_1 + 1))) = some r := by first | (rw [hy227]; with_reducible exact H) | (have H2_ := (Option.bind_some _ _).symm.trans H; rw [hy227]; with_reducible exact H2_) | (have H2_ := (Option.bind_some _ _).symm.trans H; with_reducible exact H2_) | with_reducible exact H | (rw [hy227]; exact H) | exact H
     have Ny227 := Aside0.mk hy227
     clear hy227
     have H' := Aside0.mk H
     clear H
     go_wp2_with (first | ((with_reducible refine gate_callee (f := 39) rfl ?_); refine goesL_ (some 9) rfl rfl Try.func39 (by kernel_rfl) rfl #[.slice A0 l0.length c0, .int .i64 0, .int .i64 9] rfl aq ?_; (with_reducible refine (intervalmonref01_Pick.calls _ _ l0 0 9 t219 _ ?side1 ?side2 A2.out).mono ?_); (case side1 => repeat (first | exact (Kd.C_below HR0.out HB.out) | (with_reducible refine Kd.C_alloc ?_ _) | (with_reducible refine Kd.C_drewN ?_ _) | (with_reducible refine Kd.C_drew ?_))); (case side2 => exact HC0.out); rintro e w' ⟨rfl, ⟨nd, rfl⟩⟩; refine ⟨_, rfl, ?_⟩) | ((with_reducible refine gate_callee (f := 39) rfl ?_); refine goesL_ (some 16) rfl rfl Try.func39 (by kernel_rfl) rfl #[.slice A0 l0.length c0, .int .i64 (wrap64 (x4_1 + 1)), .int .i64 100000] rfl aq ?_; (with_reducible refine (intervalmonref01_Pick.calls _ _ l0 (wrap64 (x4_1 + 1)) 100000 t220 _ ?side1 ?side2 A4.out).mono ?_); (case side1 => repeat (first | exact (Kd.C_below HR0.out (hq HB)) | (with_reducible refine Kd.C_alloc ?_ _) | (with_reducible refine Kd.C_drewN ?_ _) | (with_reducible refine Kd.C_drew ?_))); (case side2 => exact HC0.out); rintro e w' ⟨rfl, ⟨nd, rfl⟩⟩; refine ⟨_, rfl, ?_⟩) | ((with_reducible refine gate_dst (N := 36) rfl ?_); refine Kd.R_lit (Kd.int .i64) _ 3 ?hg (N := 36) ?hd (xs := ([t220, Int.tmod (wrap64 (Int.tdiv t220 64)) 2, Int.tmod (wrap64 (Int.tdiv t220 128)) 2, Int.tmod (wrap64 (Int.tdiv t220 256)) 2, Int.tmod (wrap64 (Int.tdiv t220 512)) 2, Int.tmod (wrap64 (Int.tdiv t220 1024)) 2, Int.tmod (wrap64 (Int.tdiv t220 2048)) 2] : List Int)) (inner := [.int .i64 t220, .int .i64 (Int.tmod (wrap64 (Int.tdiv t220 64)) 2), .int .i64 (Int.tmod (wrap64 (Int.tdiv t220 128)) 2), .int .i64 (Int.tmod (wrap64 (Int.tdiv t220 256)) 2), .int .i64 (Int.tmod (wrap64 (Int.tdiv t220 512)) 2), .int .i64 (Int.tmod (wrap64 (Int.tdiv t220 1024)) 2), .int .i64 (Int.tmod (wrap64 (Int.tdiv t220 2048)) 2)]) (ok := fun _ => True) (okp := fun _ => True) ?hr ?hp (fun _ hk => hk) trivial (Below.refl _ _) (Nat.le_refl _) (by simp) ?_; (case hd => rfl); (case hg => rfl); (case hr => first | (go_simp; done) | (go_simp; rfl)); (case hp => exact (Reps.one (show Kd.M (Kd.int .i64) _ _ _ t220 [.int .i64 t220] from rfl) (Reps.one (show Kd.M (Kd.int .i64) _ _ _ (Int.tmod (wrap64 (Int.tdiv t220 64)) 2) [.int .i64 (Int.tmod (wrap64 (Int.tdiv t220 64)) 2)] from rfl) (Reps.one (show Kd.M (Kd.int .i64) _ _ _ (Int.tmod (wrap64 (Int.tdiv t220 128)) 2) [.int .i64 (Int.tmod (wrap64 (Int.tdiv t220 128)) 2)] from rfl) (Reps.one (show Kd.M (Kd.int .i64) _ _ _ (Int.tmod (wrap64 (Int.tdiv t220 256)) 2) [.int .i64 (Int.tmod (wrap64 (Int.tdiv t220 256)) 2)] from rfl) (Reps.one (show Kd.M (Kd.int .i64) _ _ _ (Int.tmod (wrap64 (Int.tdiv t220 512)) 2) [.int .i64 (Int.tmod (wrap64 (Int.tdiv t220 512)) 2)] from rfl) (Reps.one (show Kd.M (Kd.int .i64) _ _ _ (Int.tmod (wrap64 (Int.tdiv t220 1024)) 2) [.int .i64 (Int.tmod (wrap64 (Int.tdiv t220 1024)) 2)] from rfl) (Reps.one (show Kd.M (Kd.int .i64) _ _ _ (Int.tmod (wrap64 (Int.tdiv t220 2048)) 2) [.int .i64 (Int.tmod (wrap64 (Int.tdiv t220 2048)) 2)] from rfl) (Reps.none _ _))))))))); intro v222 w7 ho8 hb hg_ hnew_; clear hg_ hnew_; (first | rw [← Ny221.out] at ho8 | (simp only [Int.reduceToNat] at ho8; rw [← Ny221.out] at ho8)); have n0_ := Aside0.mk (Kd.S_below (sq HO_3) hb); have n1_ := Aside0.mk (Kd.R_lower ho8 (below_size (hq HB))); have n2_ := Aside0.mk (below_step (hq HB) hb); clear HO_3; clear HB; have HO_3 := n0_; have HO223 := n1_; have HB := n2_; clear n0_ n1_ n2_; clear hb ho8; obtain ⟨Ao9, co9, eo9⟩ := Kd.R_slice HO223.out; subst eo9) | ((with_reducible refine gate_callee (f := 47) rfl ?_); refine goesL_ (some 37) rfl rfl Try.func47 (by kernel_rfl) rfl #[.slice Ao9 y221.length co9] rfl aq ?_; (with_reducible refine (intervalmonref05_Set.calls k1 _ _ y221 t224 _ ?side1 ?side2 A5.out).mono ?_); (case side1 => repeat (first | exact (Kd.R_reads' HO223.out).2.2 | (with_reducible refine Kd.C_alloc ?_ _) | (with_reducible refine Kd.C_drewN ?_ _) | (with_reducible refine Kd.C_drew ?_))); (case side2 => exact (Kd.R_reads' HO223.out).2.1); rintro e w10 ⟨v225, rfl, ho0, hb⟩; refine ⟨_, rfl, ?_⟩; have n0_ := Aside0.mk (Kd.S_elder' (sq HO_3) (Kd.R_base ho0) hb); have n1_ := Aside0.mk (Kd.R_below (rq HO223) hb); have n2_ := Aside0.mk (Kd.R_lower ho0 (below_size (hq HB))); have n3_ := Aside0.mk (below_step (hq HB) hb); clear HO_3; clear HO223; clear HB; have HO_3 := n0_; have HO223 := n1_; have HO226 := n2_; have HB := n3_; clear n0_ n1_ n2_ n3_; (try clear hb); (try clear hb2); (try clear hk); (try clear hi); (try clear ho0); obtain ⟨Ao11, co11, eo11⟩ := Kd.R_slice HO226.out; subst eo11) | ((with_reducible refine gate_builtin (b := .append) (xs := #[.tmp 38, .tmp 41]) rfl ?_); at_builtin; refine Kd.S_append k73 (w0 := w) w.heap.size rfl (.tmp 38) (.tmp 41) 61 73 (.agg #[(.string ⟨#[]⟩), (.int .i64 0), (.slice none 0 0), (.int .i64 0), (.int .i64 0), (.int .i64 0)]) 72 rfl Try.underlying61 info73 rfl (by decide) (by omega) u3 x3_1 (⟨(⟨#[114]⟩ : ByteArray), 1, t224, 0, 0, 0⟩ : S73) [.string (⟨#[114]⟩ : ByteArray), .int .i64 1, .slice Ao11 t224.length co11, .int .i64 0, .int .i64 0, .int .i64 0] (fun _ => True) (fun k_ => some k_ = (.slice Ao11 t224.length co11 : Value).ownBlock) rfl rfl ?aP (fun k_ hk_ => ((Kd.R_mono (ok' := fun k_ => ((fun _ => True)) k_ ∧ some k_ ≠ (u3 : Value).ownBlock) (Kd.R_apart' (HO226.out) (Kd.S_typed HO_3.out) (by decide)) (fun k_ hk => ⟨trivial, hk.2⟩))).1 k_ hk_.symm) ?aF ?aO ?aB ?aS ?aL ?_; (case aP => exact k73_mkM _ _ _ (⟨(⟨#[114]⟩ : ByteArray), 1, t224, 0, 0, 0⟩ : S73) (Kd.R_mono (Kd.R_tight rfl (Kd.R_mono (ok' := fun k_ => ((fun _ => True)) k_ ∧ some k_ ≠ (u3 : Value).ownBlock) (Kd.R_apart' (HO226.out) (Kd.S_typed HO_3.out) (by decide)) (fun k_ hk => ⟨trivial, hk.2⟩))) (fun _ h_ => h_))); (case aB => exact (hq HB)); (case aF => exact (fun _ _ => trivial)); (case aO => exact (by (with_reducible repeat (first | apply Kd.S_alloc | apply Kd.S_drewN | apply Kd.S_drew)); exact Kd.S_mono HO_3.out (fun k_ hk => ⟨trivial, fun e_ => hk.2 e_⟩))); (case aS => exact (below_size (hq HB))); (case aL => have := LMc6.out; omega); intro v228 w12 ho hb hg hat; rw [← Ny227.out] at ho; have n0_ := Aside0.mk (Kd.R_over' (rq HO223) (Kd.S_typed (sq HO_3)) (by decide) hg); have n1_ := Aside0.mk (hb); have n2_ := Aside0.mk (ho); clear HO223; clear HB; clear HO_3; clear HO226; have HO223 := n0_; have HB := n1_; have HO229 := n2_; clear n0_ n1_ n2_; clear ho hb hg hat))
     go_roundg k1
     case measure => have := HK1.out; omega
     case rel => exact ⟨(y227), (wrap64 (x4_1 + 1)), (by first | rfl | (simp; done) | (simp [*]; done)), H', ⟨by have := HK1.out; omega⟩, ⟨by (with_reducible repeat (first | apply Kd.S_alloc | apply Kd.S_drewN | apply Kd.S_drew)); exact HO229.out⟩, ⟨by repeat (first | (with_reducible first | exact HB.out | apply below_alloc | apply pw_below_drewN | apply below_drew1) | exact HB.out)⟩⟩
    ·rw [if_neg c6] at H
     exact absurd H (by simp)
   ·rw [if_neg c3] at H
    have c3b0 : decide (x4_1 < t219) = false := decide_eq_false c3
    clear c3
    obtain rfl := Option.some.inj H
    go_wp2_with (first | ((with_reducible refine gate_callee (f := 39) rfl ?_); refine goesL_ (some 9) rfl rfl Try.func39 (by kernel_rfl) rfl #[.slice A0 l0.length c0, .int .i64 0, .int .i64 9] rfl aq ?_; (with_reducible refine (intervalmonref01_Pick.calls _ _ l0 0 9 t219 _ ?side1 ?side2 A2.out).mono ?_); (case side1 => repeat (first | exact (Kd.C_below HR0.out HB.out) | (with_reducible refine Kd.C_alloc ?_ _) | (with_reducible refine Kd.C_drewN ?_ _) | (with_reducible refine Kd.C_drew ?_))); (case side2 => exact HC0.out); rintro e w' ⟨rfl, ⟨nd, rfl⟩⟩; refine ⟨_, rfl, ?_⟩))
    go_ret
    exact ⟨_, by first | rfl | (simp [errW_none, errW_some] <;> rfl) | (simp [*, errW_none, errW_some] <;> rfl), by (with_reducible repeat (first | apply Kd.S_alloc | apply Kd.S_drewN | apply Kd.S_drew)); exact HO_3.out, by repeat (first | (with_reducible first | exact HB.out | apply below_alloc | apply pw_below_drewN | apply below_drew1) | exact HB.out)⟩

end Go.Proofs.Ytcamljlhdejmmaa.P
