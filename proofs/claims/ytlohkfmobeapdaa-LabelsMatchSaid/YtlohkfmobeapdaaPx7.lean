-- Written by this session's own copy of a printing program (wip/tools); Lean checks it.
import Derived.Test.YtlohkfmobeapdaaPx0
import Derived.Test.YtlohkfmobeapdaaPx1
import Derived.Test.YtlohkfmobeapdaaPx2
namespace Go.Proofs.Ytlohkfmobeapdaa.P
open Go.RowKit Go.Proofs.YtlohkfmobeapdaaW.PrintWords Go.Proofs.YtlohkfmobeapdaaW.PrintLast Go.Proofs.YtlohkfmobeapdaaW.PrintMore
attribute [local go_sem] max2_int min2_int max_two min_two max_three min_three max_four min_four   -- for this text's walks alone
set_option linter.unusedVariables false
set_option linter.unusedSimpArgs false

attribute [local go_sem high] eqA33
/-! ### intervalmonref05_New: function 25 -/
mutual
def intervalmonref05_New.l0 : Nat → List (S33) → List (S33) → Int → Option ((List (S33)) × Int)
 | 0, _, _, _ => none
 | k + 1, x0, x4, x5 => if x5 < (x0.length : Int) then (if 0 ≤ x5 then ((intervalmonref05_Name.f k ((rd_T33 x0 x5).f0)).bind fun t220 => (if t220 = true then (if ((rd_T33 x0 x5).f1).toList = ([] : List UInt8) then (intervalmonref05_New.j1 k x0 x4 x5 true) else ((intervalmonref05_Value.f k ((rd_T33 x0 x5).f1)).bind fun t223 => (intervalmonref05_New.j1 k x0 x4 x5 (!t223)))) else (some (([] : List (S33)), 8)))) else (none)) else (some (x4, 0))
def intervalmonref05_New.j1 : Nat → List (S33) → List (S33) → Int → Bool → Option ((List (S33)) × Int)
 | 0, _, _, _, _ => none
 | k + 1, x0, x4, x5, x38 => if x38 = true then (some (([] : List (S33)), 1)) else (intervalmonref05_New.l1 k x0 x4 x5 ([] : List (S33)) 0)
def intervalmonref05_New.l1 : Nat → List (S33) → List (S33) → Int → List (S33) → Int → Option ((List (S33)) × Int)
 | 0, _, _, _, _, _ => none
 | k + 1, x0, x4, x5, x6, x7 => if x7 < (x4.length : Int) then (if 0 ≤ x7 then (if 0 ≤ x5 then (if x5 < (x0.length : Int) then (if (Op.bytesLess (((rd_T33 x4 x7).f0).toList) (((rd_T33 x0 x5).f0).toList)) = true then (if x6.length < 4398046511104 then (intervalmonref05_New.l1 k x0 x4 x5 (x6 ++ [(⟨(rd_T33 x4 x7).f0, (rd_T33 x4 x7).f1⟩ : S33)]) (wrap64 (x7 + 1))) else (none)) else (if ((rd_T33 x4 x7).f0).toList = ((rd_T33 x0 x5).f0).toList then (some (([] : List (S33)), 10)) else (if x6.length < 4398046511104 then ((some (x6 ++ [(⟨(rd_T33 x0 x5).f0, (rd_T33 x0 x5).f1⟩ : S33)] : List (S33))).bind fun y233 => (if x7 ≤ (x4.length : Int) then ((some (x4.drop (x7 : Int).toNat : List (S33))).bind fun y236 => (if y233.length + y236.length < 4398046511104 then (intervalmonref05_New.l0 k x0 (y233 ++ y236) (wrap64 (x5 + 1))) else (none))) else (none))) else (none)))) else (none)) else (none)) else (none)) else (if 0 ≤ x5 then (if x5 < (x0.length : Int) then (if x6.length < 4398046511104 then ((some (x6 ++ [(⟨(rd_T33 x0 x5).f0, (rd_T33 x0 x5).f1⟩ : S33)] : List (S33))).bind fun y244 => (if 0 ≤ x7 then (if x7 ≤ (x4.length : Int) then ((some (x4.drop (x7 : Int).toNat : List (S33))).bind fun y247 => (if y244.length + y247.length < 4398046511104 then (intervalmonref05_New.l0 k x0 (y244 ++ y247) (wrap64 (x5 + 1))) else (none))) else (none)) else (none))) else (none)) else (none)) else (none))
end
def intervalmonref05_New.f (k : Nat) (l0 : List (S33)) : Option ((List (S33)) × Int) := if (l0.length : Int) > 8 then (some (([] : List (S33)), 4)) else (intervalmonref05_New.l0 k l0 ([] : List (S33)) 0)
theorem intervalmonref05_New.mono_l : ∀ k, (∀ y0 y1 y2, LeO (intervalmonref05_New.l0 k y0 y1 y2) (intervalmonref05_New.l0 (k + 1) y0 y1 y2)) ∧ (∀ y0 y1 y2 y3, LeO (intervalmonref05_New.j1 k y0 y1 y2 y3) (intervalmonref05_New.j1 (k + 1) y0 y1 y2 y3)) ∧ (∀ y0 y1 y2 y3 y4, LeO (intervalmonref05_New.l1 k y0 y1 y2 y3 y4) (intervalmonref05_New.l1 (k + 1) y0 y1 y2 y3 y4))
 | 0 => ⟨fun _ _ _ r h => by simp [intervalmonref05_New.l0] at h, fun _ _ _ _ r h => by simp [intervalmonref05_New.j1] at h, fun _ _ _ _ _ r h => by simp [intervalmonref05_New.l1] at h⟩
 | k + 1 => by
  obtain ⟨ih0, ih1, ih2⟩ := intervalmonref05_New.mono_l k
  refine ⟨?_, ?_, ?_⟩
  ·intro y0 y1 y2
   unfold intervalmonref05_New.l0
   repeat' first
   | (with_reducible exact ih0 _ _ _)
   | (with_reducible exact ih1 _ _ _ _)
   | (with_reducible exact ih2 _ _ _ _ _)
   | (with_reducible exact intervalmonref05_Name.mono _ _)
   | (with_reducible exact intervalmonref05_Value.mono _ _)
   | (with_reducible exact LeO.refl _)
   | (with_reducible exact LeO.none _)
   | (with_reducible refine LeO.ite ?_ ?_)
   | (with_reducible refine LeO.bind ?_ (fun _ => ?_))
   | exact ih0 _ _ _
   | exact ih1 _ _ _ _
   | exact ih2 _ _ _ _ _
   | exact intervalmonref05_Name.mono _ _
   | exact intervalmonref05_Value.mono _ _
   | exact LeO.none _
   | refine LeO.ite ?_ ?_
   | refine LeO.bind ?_ (fun _ => ?_)
  ·intro y0 y1 y2 y3
   unfold intervalmonref05_New.j1
   repeat' first
   | (with_reducible exact ih0 _ _ _)
   | (with_reducible exact ih1 _ _ _ _)
   | (with_reducible exact ih2 _ _ _ _ _)
   | (with_reducible exact intervalmonref05_Name.mono _ _)
   | (with_reducible exact intervalmonref05_Value.mono _ _)
   | (with_reducible exact LeO.refl _)
   | (with_reducible exact LeO.none _)
   | (with_reducible refine LeO.ite ?_ ?_)
   | (with_reducible refine LeO.bind ?_ (fun _ => ?_))
   | exact ih0 _ _ _
   | exact ih1 _ _ _ _
   | exact ih2 _ _ _ _ _
   | exact intervalmonref05_Name.mono _ _
   | exact intervalmonref05_Value.mono _ _
   | exact LeO.none _
   | refine LeO.ite ?_ ?_
   | refine LeO.bind ?_ (fun _ => ?_)
  ·intro y0 y1 y2 y3 y4
   unfold intervalmonref05_New.l1
   repeat' first
   | (with_reducible exact ih0 _ _ _)
   | (with_reducible exact ih1 _ _ _ _)
   | (with_reducible exact ih2 _ _ _ _ _)
   | (with_reducible exact intervalmonref05_Name.mono _ _)
   | (with_reducible exact intervalmonref05_Value.mono _ _)
   | (with_reducible exact LeO.refl _)
   | (with_reducible exact LeO.none _)
   | (with_reducible refine LeO.ite ?_ ?_)
   | (with_reducible refine LeO.bind ?_ (fun _ => ?_))
   | exact ih0 _ _ _
   | exact ih1 _ _ _ _
   | exact ih2 _ _ _ _ _
   | exact intervalmonref05_Name.mono _ _
   | exact intervalmonref05_Value.mono _ _
   | exact LeO.none _
   | refine LeO.ite ?_ ?_
   | refine LeO.bind ?_ (fun _ => ?_)
theorem intervalmonref05_New.mono : ∀ a0 k, LeO (intervalmonref05_New.f k a0) (intervalmonref05_New.f (k + 1) a0) := by
 intro a0 k
 obtain ⟨ih0, ih1, ih2⟩ := intervalmonref05_New.mono_l k
 unfold intervalmonref05_New.f
 repeat' first
   | (with_reducible exact ih0 _ _ _)
   | (with_reducible exact ih1 _ _ _ _)
   | (with_reducible exact ih2 _ _ _ _ _)
   | (with_reducible exact intervalmonref05_Name.mono _ _)
   | (with_reducible exact intervalmonref05_Value.mono _ _)
   | (with_reducible exact LeO.refl _)
   | (with_reducible exact LeO.none _)
   | (with_reducible refine LeO.ite ?_ ?_)
   | (with_reducible refine LeO.bind ?_ (fun _ => ?_))
   | exact ih0 _ _ _
   | exact ih1 _ _ _ _
   | exact ih2 _ _ _ _ _
   | exact intervalmonref05_Name.mono _ _
   | exact intervalmonref05_Value.mono _ _
   | exact LeO.none _
   | refine LeO.ite ?_ ?_
   | refine LeO.bind ?_ (fun _ => ?_)
set_option maxHeartbeats 8000000 in
set_option maxRecDepth 100000 in
theorem intervalmonref05_New.calls (k : Nat) (A0 : Option Addr) (c0 : Nat) (l0 : List (S33)) (r1 : List (S33)) (r2 : Int) (w : World) (hr0 : Kd.C k33 w A0 l0.length l0) (hc0 : l0.length ≤ c0) (h : intervalmonref05_New.f k l0 = some (r1, r2)) :
  Calls Try.prog 25 #[.slice A0 l0.length c0] w fun e w' => ∃ v0_ : Value, e = .returned (.tuple #[v0_, .int .i64 r2]) ∧ Kd.R k33 33 w' w.heap.size (fun _ => True) v0_ r1 ∧ Below w.heap.size w w' := by
 have hu33 := Try.underlying33
 have HR0 := Aside0.mk hr0
 have HC0 := Aside0.mk hc0
 clear hr0 hc0
 have HB := Aside0.mk (Below.refl w.heap.size w)
 have H : (if (l0.length : Int) > 8 then (some (([] : List (S33)), 4)) else (intervalmonref05_New.l0 k l0 ([] : List (S33)) 0)) = some (r1, r2) := h
 clear h
 by_cases c2 : (l0.length : Int) > 8
 ·rw [if_pos c2] at H
  have c2b0 : decide (8 < (l0.length : Int)) = true := decide_eq_true c2
  have c2b1 : decide (8 < l0.length) = true := decide_eq_true (by omega)
  clear c2
  simp only [Option.some.injEq, Prod.mk.injEq] at H
  obtain ⟨rfl, rfl⟩ := H
  go_enter Try.func25, Try.ntmps25
  go_wp2
  repeat (go_quiet (fail); try go_wp2)
  go_ret2
  exact ⟨_, by first | rfl | (simp [errW_none, errW_some] <;> rfl) | (simp [*, errW_none, errW_some] <;> rfl), by first | exact Kd.R_nil _ _ _ _ _ | exact Kd.N_nil _ _ _ _ _ | exact Kd.V_nil _ _ _ _ _ | exact Kd.Q_nil _ _ _ _ _ | exact Kd.S_nil _ _ _ _ _, by repeat (first | (with_reducible first | exact HB.out | apply below_alloc | apply pw_below_drewN | apply below_drew1) | exact HB.out)⟩
 ·rw [if_neg c2] at H
  have c2b0 : decide (8 < (l0.length : Int)) = false := decide_eq_false c2
  have c2b1 : decide (8 < l0.length) = false := decide_eq_false (by omega)
  clear c2
  have H' := Aside0.mk H
  clear H
  go_enter Try.func25, Try.ntmps25
  go_wp2
  repeat (go_quiet (fail); try go_wp2)
  go_loopg [4, 5] k (fun kq v4 v5 w' => ∃ (x4_1 : List (S33)) (x5_1 : Int), v5 = .int .i64 x5_1 ∧ Aside0 (intervalmonref05_New.l0 kq l0 x4_1 x5_1 = some (r1, r2)) ∧ Aside0 (kq ≤ k) ∧ Aside0 (Kd.R k33 33 w' w.heap.size (fun _ => True) v4 x4_1) ∧ Aside0 (Below w.heap.size w w'))
  case atStart => exact ⟨(([] : List (S33))), (0), (by first | rfl | (simp; done) | (simp [*]; done)), H', ⟨Nat.le_refl _⟩, ⟨by first | exact Kd.R_nil _ _ _ _ _ | exact Kd.N_nil _ _ _ _ _ | exact Kd.V_nil _ _ _ _ _ | exact Kd.Q_nil _ _ _ _ _ | exact Kd.S_nil _ _ _ _ _⟩, ⟨by repeat (first | (with_reducible first | exact HB.out | apply below_alloc | apply pw_below_drewN | apply below_drew1) | exact HB.out)⟩⟩
  case round =>
   clear H'
   try clear c2
   try clear c2b0
   try clear c2b1
   try clear p2
   obtain ⟨x4_1, x5_1, rfl, HA, HK1, HO_4, HB⟩ := hrel
   cases gk with
   | zero => exact absurd HA.out (by simp [intervalmonref05_New.l0])
   | succ k1 =>
    have H := HA.out
    clear HA
    simp only [intervalmonref05_New.l0] at H
    by_cases c3 : x5_1 < (l0.length : Int)
    ·rw [if_pos c3] at H
     have c3b0 : decide (x5_1 < (l0.length : Int)) = true := decide_eq_true c3
     clear c3
     by_cases c4 : 0 ≤ x5_1
     ·rw [if_pos c4] at H
      have c4b0 : decide (0 ≤ x5_1) = true := decide_eq_true c4
      clear c4
      replace H := Option.bind_eq_some_iff.mp H
      obtain ⟨t220, A50, H⟩ := H
      replace H : (if t220 = true then (if ((rd_T33 l0 x5_1).f1).toList = ([] : List UInt8) then (intervalmonref05_New.j1 k1 l0 x4_1 x5_1 true) else ((intervalmonref05_Value.f k1 ((rd_T33 l0 x5_1).f1)).bind fun t223 => (intervalmonref05_New.j1 k1 l0 x4_1 x5_1 (!t223)))) else (some (([] : List (S33)), 8))) = some (r1, r2) := H
      have A5 := Aside0.mk A50
      clear A50
      by_cases c6 : t220 = true
      ·subst c6
       have H1 : (if ((rd_T33 l0 x5_1).f1).toList = ([] : List UInt8) then (intervalmonref05_New.j1 k1 l0 x4_1 x5_1 true) else ((intervalmonref05_Value.f k1 ((rd_T33 l0 x5_1).f1)).bind fun t223 => (intervalmonref05_New.j1 k1 l0 x4_1 x5_1 (!t223)))) = some (r1, r2) := by rw [if_pos rfl] at H; exact H
       clear H
       have H := H1
       clear H1
       have HC7 := Aside0.mk H
       clear H
       have p219 : 0 ≤ (x5_1 : Int) := of_decide_eq_true (by first | (with_reducible assumption) | assumption)
       have q219 : x5_1 < (l0.length : Int) := of_decide_eq_true (by first | (with_reducible assumption) | assumption)
       obtain ⟨ad219, e219, hx219_0, hx219_1⟩ := at_T33 HR0.out x5_1 p219 q219
       cases e219
       (try replace hx219_0 := (HB.out.cell (World.block_lt_of_cell? w _ hx219_0)).trans hx219_0)
       (try replace hx219_1 := (HB.out.cell (World.block_lt_of_cell? w _ hx219_1)).trans hx219_1)
       replace p219 := eq_true p219
       replace q219 := eq_true q219
       go_upto_region 9 with (first | (go_at_call 13; (with_reducible refine (intervalmonref05_Name.calls k1 ((rd_T33 l0 x5_1).f0) true _ A5.out).mono ?_); rintro e w' ⟨rfl, ⟨nd, rfl⟩⟩; (try first | exact ⟨rfl, _, World.drewN_drewN _ _ _⟩ | exact ⟨rfl, _, Eq.trans (World.drewN_drewN _ _ _) (congrArg (World.drewN _) (Nat.add_assoc _ _ _))⟩)))
       repeat (go_quiet (first | (go_at_call 13; (with_reducible refine (intervalmonref05_Name.calls k1 ((rd_T33 l0 x5_1).f0) true _ A5.out).mono ?_); rintro e w' ⟨rfl, ⟨nd, rfl⟩⟩; (try first | exact ⟨rfl, _, World.drewN_drewN _ _ _⟩ | exact ⟨rfl, _, Eq.trans (World.drewN_drewN _ _ _) (congrArg (World.drewN _) (Nat.add_assoc _ _ _))⟩))); go_upto_region 9 with (first | (go_at_call 13; (with_reducible refine (intervalmonref05_Name.calls k1 ((rd_T33 l0 x5_1).f0) true _ A5.out).mono ?_); rintro e w' ⟨rfl, ⟨nd, rfl⟩⟩; (try first | exact ⟨rfl, _, World.drewN_drewN _ _ _⟩ | exact ⟨rfl, _, Eq.trans (World.drewN_drewN _ _ _) (congrArg (World.drewN _) (Nat.add_assoc _ _ _))⟩))))
       (try simp only [Act.put, List.setIfInBounds_toArray, List.set_cons_zero, List.set_cons_succ])
       go_cut [38] (fun v38 wc => ∃ (kq : Nat) (x38_6 : Bool), v38 = .bool x38_6 ∧ Aside0 (intervalmonref05_New.j1 kq l0 x4_1 x5_1 x38_6 = some (r1, r2)) ∧ Aside0 (kq ≤ k1) ∧ Aside0 (Kd.R k33 33 wc w.heap.size (fun _ => True) u4 x4_1) ∧ Aside0 (Below w.heap.size w wc))
       case first =>
        have H := HC7.out
        clear HC7
        by_cases c8 : ((rd_T33 l0 x5_1).f1).toList = ([] : List UInt8)
        ·rw [if_pos c8] at H
         have c8b0 : (((rd_T33 l0 x5_1).f1).toList == ([] : List UInt8)) = true := beq_iff_eq.mpr c8
         have c8b1 : (((rd_T33 l0 x5_1).f1).toList != ([] : List UInt8)) = false := bne_eq_false_iff_eq.mpr c8
         clear c8
         (first | rw [c8b0] | (simp only [i64_w, i32_w]; rw [c8b0]) | skip)
         have H' := Aside0.mk H
         clear H
         have p221 : 0 ≤ (x5_1 : Int) := of_decide_eq_true (by first | (with_reducible assumption) | assumption)
         have q221 : x5_1 < (l0.length : Int) := of_decide_eq_true (by first | (with_reducible assumption) | assumption)
         obtain ⟨ad221, e221, hx221_0, hx221_1⟩ := at_T33 HR0.out x5_1 p221 q221
         obtain rfl : ad219 = ad221 := (by injection e221)
         (try replace hx221_0 := (HB.out.cell (World.block_lt_of_cell? w _ hx221_0)).trans hx221_0)
         (try replace hx221_1 := (HB.out.cell (World.block_lt_of_cell? w _ hx221_1)).trans hx221_1)
         replace p221 := eq_true p221
         replace q221 := eq_true q221
         go_wp2
         repeat (go_quiet (fail); try go_wp2)
         go_meet
         case rel => exact ⟨_, (true), (by first | rfl | (simp; done) | (simp [*]; done)), H', ⟨by have := HK1.out; first | omega | exact Nat.le_refl _⟩, ⟨by (with_reducible repeat (first | apply Kd.R_alloc | apply Kd.R_drewN | apply Kd.R_drew)); exact HO_4.out⟩, ⟨by repeat (first | (with_reducible first | exact HB.out | apply below_alloc | apply pw_below_drewN | apply below_drew1) | exact HB.out)⟩⟩
        ·rw [if_neg c8] at H
         have c8b0 : (((rd_T33 l0 x5_1).f1).toList == ([] : List UInt8)) = false := beq_eq_false_iff_ne.mpr c8
         have c8b1 : (((rd_T33 l0 x5_1).f1).toList != ([] : List UInt8)) = true := bne_iff_ne.mpr c8
         (first | rw [c8b0] | (simp only [i64_w, i32_w]; rw [c8b0]) | skip)
         replace H := Option.bind_eq_some_iff.mp H
         obtain ⟨t223, A90, H⟩ := H
         replace H : (intervalmonref05_New.j1 k1 l0 x4_1 x5_1 (!t223)) = some (r1, r2) := H
         have A9 := Aside0.mk A90
         clear A90
         have H' := Aside0.mk H
         clear H
         have p221 : 0 ≤ (x5_1 : Int) := of_decide_eq_true (by first | (with_reducible assumption) | assumption)
         have q221 : x5_1 < (l0.length : Int) := of_decide_eq_true (by first | (with_reducible assumption) | assumption)
         obtain ⟨ad221, e221, hx221_0, hx221_1⟩ := at_T33 HR0.out x5_1 p221 q221
         obtain rfl : ad219 = ad221 := (by injection e221)
         (try replace hx221_0 := (HB.out.cell (World.block_lt_of_cell? w _ hx221_0)).trans hx221_0)
         (try replace hx221_1 := (HB.out.cell (World.block_lt_of_cell? w _ hx221_1)).trans hx221_1)
         replace p221 := eq_true p221
         replace q221 := eq_true q221
         have p222 : 0 ≤ (x5_1 : Int) := of_decide_eq_true (by first | (with_reducible assumption) | assumption)
         have q222 : x5_1 < (l0.length : Int) := of_decide_eq_true (by first | (with_reducible assumption) | assumption)
         obtain ⟨ad222, e222, hx222_0, hx222_1⟩ := at_T33 HR0.out x5_1 p222 q222
         obtain rfl : ad219 = ad222 := (by injection e222)
         (try replace hx222_0 := (HB.out.cell (World.block_lt_of_cell? w _ hx222_0)).trans hx222_0)
         (try replace hx222_1 := (HB.out.cell (World.block_lt_of_cell? w _ hx222_1)).trans hx222_1)
         replace p222 := eq_true p222
         replace q222 := eq_true q222
         go_wp2_with (first | (go_at_call 15; (with_reducible refine (intervalmonref05_Value.calls k1 ((rd_T33 l0 x5_1).f1) t223 _ A9.out).mono ?_); rintro e w' ⟨rfl, ⟨nd, rfl⟩⟩; (try first | exact ⟨rfl, _, World.drewN_drewN _ _ _⟩ | exact ⟨rfl, _, Eq.trans (World.drewN_drewN _ _ _) (congrArg (World.drewN _) (Nat.add_assoc _ _ _))⟩)))
         repeat (go_quiet (first | (go_at_call 15; (with_reducible refine (intervalmonref05_Value.calls k1 ((rd_T33 l0 x5_1).f1) t223 _ A9.out).mono ?_); rintro e w' ⟨rfl, ⟨nd, rfl⟩⟩; (try first | exact ⟨rfl, _, World.drewN_drewN _ _ _⟩ | exact ⟨rfl, _, Eq.trans (World.drewN_drewN _ _ _) (congrArg (World.drewN _) (Nat.add_assoc _ _ _))⟩))); try go_wp2_with (first | (go_at_call 15; (with_reducible refine (intervalmonref05_Value.calls k1 ((rd_T33 l0 x5_1).f1) t223 _ A9.out).mono ?_); rintro e w' ⟨rfl, ⟨nd, rfl⟩⟩; (try first | exact ⟨rfl, _, World.drewN_drewN _ _ _⟩ | exact ⟨rfl, _, Eq.trans (World.drewN_drewN _ _ _) (congrArg (World.drewN _) (Nat.add_assoc _ _ _))⟩))))
         go_meet
         case rel => exact ⟨_, (!t223), (by first | rfl | (simp; done) | (simp [*]; done)), H', ⟨by have := HK1.out; first | omega | exact Nat.le_refl _⟩, ⟨by (with_reducible repeat (first | apply Kd.R_alloc | apply Kd.R_drewN | apply Kd.R_drew)); exact HO_4.out⟩, ⟨by repeat (first | (with_reducible first | exact HB.out | apply below_alloc | apply pw_below_drewN | apply below_drew1) | exact HB.out)⟩⟩
       case rest =>
        clear HC7
        try clear c2
        try clear c2b0
        try clear c2b1
        try clear p2
        try clear q2
        try clear hx2
        try clear c3
        try clear c3b0
        try clear c4
        try clear c4b0
        try clear c6
        try clear c8
        try clear c8b0
        try clear c8b1
        try clear hx219_0
        try clear hx219_1
        try clear hx221_0
        try clear hx221_1
        try clear hx222_0
        try clear hx222_1
        try clear p2
        try clear p219
        try clear p221
        try clear p222
        try clear q219
        try clear q221
        try clear q222
        obtain ⟨kq, x38_6, rfl, HA, HJ6, HO_4, HB⟩ := hcut
        cases kq with
        | zero => exact absurd HA.out (by simp [intervalmonref05_New.j1])
        | succ kj6 =>
         have H := HA.out
         clear HA
         simp only [intervalmonref05_New.j1] at H
         by_cases c10 : x38_6 = true
         ·subst c10
          have H1 : (some (([] : List (S33)), 1)) = some (r1, r2) := by rw [if_pos rfl] at H; exact H
          clear H
          have H := H1
          clear H1
          simp only [Option.some.injEq, Prod.mk.injEq] at H
          obtain ⟨rfl, rfl⟩ := H
          go_wp2
          repeat (go_quiet (fail); try go_wp2)
          go_ret2
          exact ⟨_, by first | rfl | (simp [errW_none, errW_some] <;> rfl) | (simp [*, errW_none, errW_some] <;> rfl), by first | exact Kd.R_nil _ _ _ _ _ | exact Kd.N_nil _ _ _ _ _ | exact Kd.V_nil _ _ _ _ _ | exact Kd.Q_nil _ _ _ _ _ | exact Kd.S_nil _ _ _ _ _, by repeat (first | (with_reducible first | exact HB.out | apply below_alloc | apply pw_below_drewN | apply below_drew1) | exact HB.out)⟩
         ·replace c10 := Bool.eq_false_iff.mpr c10
          subst c10
          have H1 : (intervalmonref05_New.l1 kj6 l0 x4_1 x5_1 ([] : List (S33)) 0) = some (r1, r2) := by rw [if_neg (show ¬ (false = true) by decide)] at H; exact H
          clear H
          have H := H1
          clear H1
          have H' := Aside0.mk H
          clear H
          go_wp2
          repeat (go_quiet (fail); try go_wp2)
          go_loopg [6, 7] kj6 (fun kq v6 v7 w' => ∃ (x6_3 : List (S33)) (x7_3 : Int), v7 = .int .i64 x7_3 ∧ Aside0 (intervalmonref05_New.l1 kq l0 x4_1 x5_1 x6_3 x7_3 = some (r1, r2)) ∧ Aside0 (kq ≤ kj6) ∧ Aside0 (Kd.R k33 33 w' w.heap.size (fun k_ => some k_ ≠ (v6 : Value).ownBlock) u4 x4_1) ∧ Aside0 (Kd.R k33 33 w' w.heap.size (fun k_ => some k_ ≠ (u4 : Value).ownBlock) v6 x6_3) ∧ Aside0 (Below w.heap.size w w'))
          case atStart => exact ⟨(([] : List (S33))), (0), (by first | rfl | (simp; done) | (simp [*]; done)), H', ⟨Nat.le_refl _⟩, ⟨by (with_reducible repeat (first | apply Kd.R_alloc | apply Kd.R_drewN | apply Kd.R_drew)); exact Kd.R_mono HO_4.out (fun _ hk => (by simp [Value.ownBlock]))⟩, ⟨by first | exact Kd.R_nil _ _ _ _ _ | exact Kd.N_nil _ _ _ _ _ | exact Kd.V_nil _ _ _ _ _ | exact Kd.Q_nil _ _ _ _ _ | exact Kd.S_nil _ _ _ _ _⟩, ⟨by repeat (first | (with_reducible first | exact HB.out | apply below_alloc | apply pw_below_drewN | apply below_drew1) | exact HB.out)⟩⟩
          case round =>
           clear H'
           try clear c1
           try clear c2
           try clear c2b0
           try clear c2b1
           try clear p2
           try clear q2
           try clear hx2
           try clear c3
           try clear c3b0
           try clear c4
           try clear c4b0
           try clear c6
           try clear c8
           try clear c8b0
           try clear c8b1
           try clear c10
           try clear hx219_0
           try clear hx219_1
           try clear hx221_0
           try clear hx221_1
           try clear hx222_0
           try clear hx222_1
           try clear p2
           try clear p219
           try clear p221
           try clear p222
           try clear q2
           try clear q219
           try clear q221
           try clear q222
           obtain ⟨x6_3, x7_3, rfl, HA, HK3, HO_4, HO_6, HB⟩ := hrel
           cases gk with
           | zero => exact absurd HA.out (by simp [intervalmonref05_New.l1])
           | succ k3 =>
            have H := HA.out
            clear HA
            simp only [intervalmonref05_New.l1] at H
            by_cases c11 : x7_3 < (x4_1.length : Int)
            ·rw [if_pos c11] at H
             have c11b0 : decide (x7_3 < (x4_1.length : Int)) = true := decide_eq_true c11
             clear c11
             by_cases c12 : 0 ≤ x7_3
             ·rw [if_pos c12] at H
              have c12b0 : decide (0 ≤ x7_3) = true := decide_eq_true c12
              clear c12
              by_cases c13 : 0 ≤ x5_1
              ·rw [if_pos c13] at H
               have c13b0 : decide (0 ≤ x5_1) = true := decide_eq_true c13
               clear c13
               by_cases c14 : x5_1 < (l0.length : Int)
               ·rw [if_pos c14] at H
                have c14b0 : decide (x5_1 < (l0.length : Int)) = true := decide_eq_true c14
                clear c14
                by_cases c15 : (Op.bytesLess (((rd_T33 x4_1 x7_3).f0).toList) (((rd_T33 l0 x5_1).f0).toList)) = true
                ·rw [if_pos c15] at H
                 have c15b0 : (Op.bytesLess (((rd_T33 x4_1 x7_3).f0).toList) (((rd_T33 l0 x5_1).f0).toList)) = true := c15
                 clear c15
                 by_cases c16 : x6_3.length < 4398046511104
                 ·rw [if_pos c16] at H
                  have LMc16 := Aside0.mk c16
                  clear c16
                  obtain ⟨y227, hy227⟩ : ∃ y_ : List (S33), y_ = (x6_3 ++ [(⟨(rd_T33 x4_1 x7_3).f0, (rd_T33 x4_1 x7_3).f1⟩ : S33)]) := ⟨_, rfl⟩
                  replace H : (intervalmonref05_New.l1 k3 l0 x4_1 x5_1 y227 (wrap64 (x7_3 + 1))) = some (r1, r2) := by first | (rw [hy227]; with_reducible exact H) | (have H2_ := (Option.bind_some _ _).symm.trans H; rw [hy227]; with_reducible exact H2_) | (have H2_ := (Option.bind_some _ _).symm.trans H; with_reducible exact H2_) | with_reducible exact H | (rw [hy227]; exact H) | exact H
                  have Ny227 := Aside0.mk hy227
                  clear hy227
                  have H' := Aside0.mk H
                  clear H
                  obtain ⟨Ao17, co17, eo17⟩ := Kd.R_slice HO_4.out
                  subst eo17
                  have p224 : 0 ≤ (x7_3 : Int) := of_decide_eq_true (by first | (with_reducible assumption) | assumption)
                  have q224 : x7_3 < (x4_1.length : Int) := of_decide_eq_true (by first | (with_reducible assumption) | assumption)
                  try (obtain ⟨Az224_, cz224_, ez224_⟩ := Kd.R_slice HO_4.out; subst ez224_)
                  obtain ⟨ad224, e224, hx224_0, hx224_1⟩ := at_T33 (Kd.R_reads' HO_4.out).2.2 x7_3 p224 q224
                  cases e224
                  replace p224 := eq_true p224
                  replace q224 := eq_true q224
                  have p225 : 0 ≤ (x5_1 : Int) := of_decide_eq_true (by first | (with_reducible assumption) | assumption)
                  have q225 : x5_1 < (l0.length : Int) := of_decide_eq_true (by first | (with_reducible assumption) | assumption)
                  obtain ⟨ad225, e225, hx225_0, hx225_1⟩ := at_T33 HR0.out x5_1 p225 q225
                  obtain rfl : ad219 = ad225 := (by injection e225)
                  (try replace hx225_0 := (HB.out.cell (World.block_lt_of_cell? w _ hx225_0)).trans hx225_0)
                  (try replace hx225_1 := (HB.out.cell (World.block_lt_of_cell? w _ hx225_1)).trans hx225_1)
                  replace p225 := eq_true p225
                  replace q225 := eq_true q225
                  have p226 : 0 ≤ (x7_3 : Int) := of_decide_eq_true (by first | (with_reducible assumption) | assumption)
                  have q226 : x7_3 < (x4_1.length : Int) := of_decide_eq_true (by first | (with_reducible assumption) | assumption)
                  try (obtain ⟨Az226_, cz226_, ez226_⟩ := Kd.R_slice HO_4.out; subst ez226_)
                  obtain ⟨ad226, e226, hx226_0, hx226_1⟩ := at_T33 (Kd.R_reads' HO_4.out).2.2 x7_3 p226 q226
                  obtain rfl : ad224 = ad226 := (by injection e226)
                  replace p226 := eq_true p226
                  replace q226 := eq_true q226
                  go_wp2_with (first | ((with_reducible refine gate_builtin (b := .append) (xs := #[.tmp 56, .tmp 61]) rfl ?_); at_builtin; refine Kd.R_append k33 (w0 := w) w.heap.size rfl (.tmp 56) (.tmp 61) 30 33 (.agg #[(.string ⟨#[]⟩), (.string ⟨#[]⟩)]) 32 rfl Try.underlying30 info33 rfl (by decide) (by omega) u6 x6_3 (⟨(rd_T33 x4_1 x7_3).f0, (rd_T33 x4_1 x7_3).f1⟩ : S33) [.string ((rd_T33 x4_1 x7_3).f0), .string ((rd_T33 x4_1 x7_3).f1)] (fun k_ => some k_ ≠ (.slice (some ad224) x4_1.length co17 : Value).ownBlock) (fun _ => False) rfl rfl ?aP (fun _ hk => hk.elim) ?aF ?aO ?aB ?aS ?aL ?_; (case aP => exact k33_mkM _ _ _ (⟨(rd_T33 x4_1 x7_3).f0, (rd_T33 x4_1 x7_3).f1⟩ : S33)); (case aB => exact (hq HB)); (case aF => exact (fun k_ hk => Kd.fresh' (Kd.R_lt (rq HO_4)) k_ hk)); (case aO => exact (rq HO_6)); (case aS => exact (below_size (hq HB))); (case aL => have := LMc16.out; omega); intro v228 w18 ho hb hg hat; rw [← Ny227.out] at ho; have n0_ := Aside0.mk (Kd.R_after (ok := (fun _ => True)) (by (with_reducible repeat (first | apply Kd.R_alloc | apply Kd.R_drewN | apply Kd.R_drew)); exact Kd.R_mono HO_4.out (fun _ hk => ⟨trivial, hk⟩)) hg hat); have n1_ := Aside0.mk (hb); have n2_ := Aside0.mk (ho); clear HO_4; clear HB; clear HO_6; have HO_4 := n0_; have HB := n1_; have HO229 := n2_; clear n0_ n1_ n2_; clear ho hb hg hat))
                  repeat (go_quiet (first | ((with_reducible refine gate_builtin (b := .append) (xs := #[.tmp 56, .tmp 61]) rfl ?_); at_builtin; refine Kd.R_append k33 (w0 := w) w.heap.size rfl (.tmp 56) (.tmp 61) 30 33 (.agg #[(.string ⟨#[]⟩), (.string ⟨#[]⟩)]) 32 rfl Try.underlying30 info33 rfl (by decide) (by omega) u6 x6_3 (⟨(rd_T33 x4_1 x7_3).f0, (rd_T33 x4_1 x7_3).f1⟩ : S33) [.string ((rd_T33 x4_1 x7_3).f0), .string ((rd_T33 x4_1 x7_3).f1)] (fun k_ => some k_ ≠ (.slice (some ad224) x4_1.length co17 : Value).ownBlock) (fun _ => False) rfl rfl ?aP (fun _ hk => hk.elim) ?aF ?aO ?aB ?aS ?aL ?_; (case aP => exact k33_mkM _ _ _ (⟨(rd_T33 x4_1 x7_3).f0, (rd_T33 x4_1 x7_3).f1⟩ : S33)); (case aB => exact (hq HB)); (case aF => exact (fun k_ hk => Kd.fresh' (Kd.R_lt (rq HO_4)) k_ hk)); (case aO => exact (rq HO_6)); (case aS => exact (below_size (hq HB))); (case aL => have := LMc16.out; omega); intro v228 w18 ho hb hg hat; rw [← Ny227.out] at ho; have n0_ := Aside0.mk (Kd.R_after (ok := (fun _ => True)) (by (with_reducible repeat (first | apply Kd.R_alloc | apply Kd.R_drewN | apply Kd.R_drew)); exact Kd.R_mono HO_4.out (fun _ hk => ⟨trivial, hk⟩)) hg hat); have n1_ := Aside0.mk (hb); have n2_ := Aside0.mk (ho); clear HO_4; clear HB; clear HO_6; have HO_4 := n0_; have HB := n1_; have HO229 := n2_; clear n0_ n1_ n2_; clear ho hb hg hat)); try go_wp2_with (first | ((with_reducible refine gate_builtin (b := .append) (xs := #[.tmp 56, .tmp 61]) rfl ?_); at_builtin; refine Kd.R_append k33 (w0 := w) w.heap.size rfl (.tmp 56) (.tmp 61) 30 33 (.agg #[(.string ⟨#[]⟩), (.string ⟨#[]⟩)]) 32 rfl Try.underlying30 info33 rfl (by decide) (by omega) u6 x6_3 (⟨(rd_T33 x4_1 x7_3).f0, (rd_T33 x4_1 x7_3).f1⟩ : S33) [.string ((rd_T33 x4_1 x7_3).f0), .string ((rd_T33 x4_1 x7_3).f1)] (fun k_ => some k_ ≠ (.slice (some ad224) x4_1.length co17 : Value).ownBlock) (fun _ => False) rfl rfl ?aP (fun _ hk => hk.elim) ?aF ?aO ?aB ?aS ?aL ?_; (case aP => exact k33_mkM _ _ _ (⟨(rd_T33 x4_1 x7_3).f0, (rd_T33 x4_1 x7_3).f1⟩ : S33)); (case aB => exact (hq HB)); (case aF => exact (fun k_ hk => Kd.fresh' (Kd.R_lt (rq HO_4)) k_ hk)); (case aO => exact (rq HO_6)); (case aS => exact (below_size (hq HB))); (case aL => have := LMc16.out; omega); intro v228 w18 ho hb hg hat; rw [← Ny227.out] at ho; have n0_ := Aside0.mk (Kd.R_after (ok := (fun _ => True)) (by (with_reducible repeat (first | apply Kd.R_alloc | apply Kd.R_drewN | apply Kd.R_drew)); exact Kd.R_mono HO_4.out (fun _ hk => ⟨trivial, hk⟩)) hg hat); have n1_ := Aside0.mk (hb); have n2_ := Aside0.mk (ho); clear HO_4; clear HB; clear HO_6; have HO_4 := n0_; have HB := n1_; have HO229 := n2_; clear n0_ n1_ n2_; clear ho hb hg hat)))
                  go_roundg k3
                  case measure => have := HK1.out; have := HJ6.out; have := HK3.out; omega
                  case rel => exact ⟨(y227), (wrap64 (x7_3 + 1)), (by first | rfl | (simp; done) | (simp [*]; done)), H', ⟨by have := HK1.out; have := HJ6.out; have := HK3.out; omega⟩, ⟨by (with_reducible repeat (first | apply Kd.R_alloc | apply Kd.R_drewN | apply Kd.R_drew)); exact Kd.R_mono HO_4.out (fun _ hk => hk.2)⟩, ⟨by (with_reducible repeat (first | apply Kd.R_alloc | apply Kd.R_drewN | apply Kd.R_drew)); exact HO229.out⟩, ⟨by repeat (first | (with_reducible first | exact HB.out | apply below_alloc | apply pw_below_drewN | apply below_drew1) | exact HB.out)⟩⟩
                 ·rw [if_neg c16] at H
                  exact absurd H (by simp)
                ·rw [if_neg c15] at H
                 have c15b0 : (Op.bytesLess (((rd_T33 x4_1 x7_3).f0).toList) (((rd_T33 l0 x5_1).f0).toList)) = false := by simpa using c15
                 clear c15
                 by_cases c19 : ((rd_T33 x4_1 x7_3).f0).toList = ((rd_T33 l0 x5_1).f0).toList
                 ·rw [if_pos c19] at H
                  have c19b0 : (((rd_T33 x4_1 x7_3).f0).toList == ((rd_T33 l0 x5_1).f0).toList) = true := beq_iff_eq.mpr c19
                  have c19b1 : (((rd_T33 x4_1 x7_3).f0).toList != ((rd_T33 l0 x5_1).f0).toList) = false := bne_eq_false_iff_eq.mpr c19
                  clear c19
                  simp only [Option.some.injEq, Prod.mk.injEq] at H
                  obtain ⟨rfl, rfl⟩ := H
                  obtain ⟨Ao20, co20, eo20⟩ := Kd.R_slice HO_4.out
                  subst eo20
                  have p224 : 0 ≤ (x7_3 : Int) := of_decide_eq_true (by first | (with_reducible assumption) | assumption)
                  have q224 : x7_3 < (x4_1.length : Int) := of_decide_eq_true (by first | (with_reducible assumption) | assumption)
                  try (obtain ⟨Az224_, cz224_, ez224_⟩ := Kd.R_slice HO_4.out; subst ez224_)
                  obtain ⟨ad224, e224, hx224_0, hx224_1⟩ := at_T33 (Kd.R_reads' HO_4.out).2.2 x7_3 p224 q224
                  cases e224
                  replace p224 := eq_true p224
                  replace q224 := eq_true q224
                  have p225 : 0 ≤ (x5_1 : Int) := of_decide_eq_true (by first | (with_reducible assumption) | assumption)
                  have q225 : x5_1 < (l0.length : Int) := of_decide_eq_true (by first | (with_reducible assumption) | assumption)
                  obtain ⟨ad225, e225, hx225_0, hx225_1⟩ := at_T33 HR0.out x5_1 p225 q225
                  obtain rfl : ad219 = ad225 := (by injection e225)
                  (try replace hx225_0 := (HB.out.cell (World.block_lt_of_cell? w _ hx225_0)).trans hx225_0)
                  (try replace hx225_1 := (HB.out.cell (World.block_lt_of_cell? w _ hx225_1)).trans hx225_1)
                  replace p225 := eq_true p225
                  replace q225 := eq_true q225
                  have p230 : 0 ≤ (x7_3 : Int) := of_decide_eq_true (by first | (with_reducible assumption) | assumption)
                  have q230 : x7_3 < (x4_1.length : Int) := of_decide_eq_true (by first | (with_reducible assumption) | assumption)
                  try (obtain ⟨Az230_, cz230_, ez230_⟩ := Kd.R_slice HO_4.out; subst ez230_)
                  obtain ⟨ad230, e230, hx230_0, hx230_1⟩ := at_T33 (Kd.R_reads' HO_4.out).2.2 x7_3 p230 q230
                  obtain rfl : ad224 = ad230 := (by injection e230)
                  replace p230 := eq_true p230
                  replace q230 := eq_true q230
                  have p231 : 0 ≤ (x5_1 : Int) := of_decide_eq_true (by first | (with_reducible assumption) | assumption)
                  have q231 : x5_1 < (l0.length : Int) := of_decide_eq_true (by first | (with_reducible assumption) | assumption)
                  obtain ⟨ad231, e231, hx231_0, hx231_1⟩ := at_T33 HR0.out x5_1 p231 q231
                  obtain rfl : ad219 = ad231 := (by injection e231)
                  (try replace hx231_0 := (HB.out.cell (World.block_lt_of_cell? w _ hx231_0)).trans hx231_0)
                  (try replace hx231_1 := (HB.out.cell (World.block_lt_of_cell? w _ hx231_1)).trans hx231_1)
                  replace p231 := eq_true p231
                  replace q231 := eq_true q231
                  go_wp2
                  repeat (go_quiet (fail); try go_wp2)
                  go_ret2
                  exact ⟨_, by first | rfl | (simp [errW_none, errW_some] <;> rfl) | (simp [*, errW_none, errW_some] <;> rfl), by first | exact Kd.R_nil _ _ _ _ _ | exact Kd.N_nil _ _ _ _ _ | exact Kd.V_nil _ _ _ _ _ | exact Kd.Q_nil _ _ _ _ _ | exact Kd.S_nil _ _ _ _ _, by repeat (first | (with_reducible first | exact HB.out | apply below_alloc | apply pw_below_drewN | apply below_drew1) | exact HB.out)⟩
                 ·rw [if_neg c19] at H
                  have c19b0 : (((rd_T33 x4_1 x7_3).f0).toList == ((rd_T33 l0 x5_1).f0).toList) = false := beq_eq_false_iff_ne.mpr c19
                  have c19b1 : (((rd_T33 x4_1 x7_3).f0).toList != ((rd_T33 l0 x5_1).f0).toList) = true := bne_iff_ne.mpr c19
                  by_cases c21 : x6_3.length < 4398046511104
                  ·rw [if_pos c21] at H
                   have LMc21 := Aside0.mk c21
                   clear c21
                   obtain ⟨y233, hy233⟩ : ∃ y_ : List (S33), y_ = (x6_3 ++ [(⟨(rd_T33 l0 x5_1).f0, (rd_T33 l0 x5_1).f1⟩ : S33)]) := ⟨_, rfl⟩
                   replace H : (if x7_3 ≤ (x4_1.length : Int) then ((some (x4_1.drop (x7_3 : Int).toNat : List (S33))).bind fun y236 => (if y233.length + y236.length < 4398046511104 then (intervalmonref05_New.l0 k3 l0 (y233 ++ y236) (wrap64 (x5_1 + 1))) else (none))) else (none)) = some (r1, r2) := by first | (rw [hy233]; with_reducible exact H) | (have H2_ := (Option.bind_some _ _).symm.trans H; rw [hy233]; with_reducible exact H2_) | (have H2_ := (Option.bind_some _ _).symm.trans H; with_reducible exact H2_) | with_reducible exact H | (rw [hy233]; exact H) | exact H
                   have Ny233 := Aside0.mk hy233
                   clear hy233
                   have c22b0 := eq_true (of_decide_eq_true (by first | (with_reducible assumption) | assumption) : 0 ≤ x7_3)
                   by_cases c23 : x7_3 ≤ (x4_1.length : Int)
                   ·rw [if_pos c23] at H
                    have c23b0 := eq_true c23
                    have c23b1 : decide (x7_3 ≤ (x4_1.length : Int)) = true := decide_eq_true c23
                    clear c23
                    obtain ⟨y236, hy236⟩ : ∃ y_ : List (S33), y_ = (x4_1.drop (x7_3 : Int).toNat) := ⟨_, rfl⟩
                    replace H : (if y233.length + y236.length < 4398046511104 then (intervalmonref05_New.l0 k3 l0 (y233 ++ y236) (wrap64 (x5_1 + 1))) else (none)) = some (r1, r2) := by first | (rw [hy236]; with_reducible exact H) | (have H2_ := (Option.bind_some _ _).symm.trans H; rw [hy236]; with_reducible exact H2_) | (have H2_ := (Option.bind_some _ _).symm.trans H; with_reducible exact H2_) | with_reducible exact H | (rw [hy236]; exact H) | exact H
                    have Ny236 := Aside0.mk hy236
                    clear hy236
                    by_cases c24 : y233.length + y236.length < 4398046511104
                    ·rw [if_pos c24] at H
                     have LMc24 := Aside0.mk c24
                     clear c24
                     obtain ⟨y240, hy240⟩ : ∃ y_ : List (S33), y_ = (y233 ++ y236) := ⟨_, rfl⟩
                     replace H : (intervalmonref05_New.l0 k3 l0 y240 (wrap64 (x5_1 + 1))) = some (r1, r2) := by first | (rw [hy240]; with_reducible exact H) | (have H2_ := (Option.bind_some _ _).symm.trans H; rw [hy240]; with_reducible exact H2_) | (have H2_ := (Option.bind_some _ _).symm.trans H; with_reducible exact H2_) | with_reducible exact H | (rw [hy240]; exact H) | exact H
                     have Ny240 := Aside0.mk hy240
                     clear hy240
                     have H' := Aside0.mk H
                     clear H
                     obtain ⟨Ao25, co25, eo25⟩ := Kd.R_slice HO_4.out
                     subst eo25
                     have p224 : 0 ≤ (x7_3 : Int) := of_decide_eq_true (by first | (with_reducible assumption) | assumption)
                     have q224 : x7_3 < (x4_1.length : Int) := of_decide_eq_true (by first | (with_reducible assumption) | assumption)
                     try (obtain ⟨Az224_, cz224_, ez224_⟩ := Kd.R_slice HO_4.out; subst ez224_)
                     obtain ⟨ad224, e224, hx224_0, hx224_1⟩ := at_T33 (Kd.R_reads' HO_4.out).2.2 x7_3 p224 q224
                     cases e224
                     replace p224 := eq_true p224
                     replace q224 := eq_true q224
                     have p225 : 0 ≤ (x5_1 : Int) := of_decide_eq_true (by first | (with_reducible assumption) | assumption)
                     have q225 : x5_1 < (l0.length : Int) := of_decide_eq_true (by first | (with_reducible assumption) | assumption)
                     obtain ⟨ad225, e225, hx225_0, hx225_1⟩ := at_T33 HR0.out x5_1 p225 q225
                     obtain rfl : ad219 = ad225 := (by injection e225)
                     (try replace hx225_0 := (HB.out.cell (World.block_lt_of_cell? w _ hx225_0)).trans hx225_0)
                     (try replace hx225_1 := (HB.out.cell (World.block_lt_of_cell? w _ hx225_1)).trans hx225_1)
                     replace p225 := eq_true p225
                     replace q225 := eq_true q225
                     have p230 : 0 ≤ (x7_3 : Int) := of_decide_eq_true (by first | (with_reducible assumption) | assumption)
                     have q230 : x7_3 < (x4_1.length : Int) := of_decide_eq_true (by first | (with_reducible assumption) | assumption)
                     try (obtain ⟨Az230_, cz230_, ez230_⟩ := Kd.R_slice HO_4.out; subst ez230_)
                     obtain ⟨ad230, e230, hx230_0, hx230_1⟩ := at_T33 (Kd.R_reads' HO_4.out).2.2 x7_3 p230 q230
                     obtain rfl : ad224 = ad230 := (by injection e230)
                     replace p230 := eq_true p230
                     replace q230 := eq_true q230
                     have p231 : 0 ≤ (x5_1 : Int) := of_decide_eq_true (by first | (with_reducible assumption) | assumption)
                     have q231 : x5_1 < (l0.length : Int) := of_decide_eq_true (by first | (with_reducible assumption) | assumption)
                     obtain ⟨ad231, e231, hx231_0, hx231_1⟩ := at_T33 HR0.out x5_1 p231 q231
                     obtain rfl : ad219 = ad231 := (by injection e231)
                     (try replace hx231_0 := (HB.out.cell (World.block_lt_of_cell? w _ hx231_0)).trans hx231_0)
                     (try replace hx231_1 := (HB.out.cell (World.block_lt_of_cell? w _ hx231_1)).trans hx231_1)
                     replace p231 := eq_true p231
                     replace q231 := eq_true q231
                     have p232 : 0 ≤ (x5_1 : Int) := of_decide_eq_true (by first | (with_reducible assumption) | assumption)
                     have q232 : x5_1 < (l0.length : Int) := of_decide_eq_true (by first | (with_reducible assumption) | assumption)
                     obtain ⟨ad232, e232, hx232_0, hx232_1⟩ := at_T33 HR0.out x5_1 p232 q232
                     obtain rfl : ad219 = ad232 := (by injection e232)
                     (try replace hx232_0 := (HB.out.cell (World.block_lt_of_cell? w _ hx232_0)).trans hx232_0)
                     (try replace hx232_1 := (HB.out.cell (World.block_lt_of_cell? w _ hx232_1)).trans hx232_1)
                     replace p232 := eq_true p232
                     replace q232 := eq_true q232
                     go_wp2_with (first | ((with_reducible refine gate_builtin (b := .append) (xs := #[.tmp 82, .tmp 87]) rfl ?_); at_builtin; refine Kd.R_append k33 (w0 := w) w.heap.size rfl (.tmp 82) (.tmp 87) 30 33 (.agg #[(.string ⟨#[]⟩), (.string ⟨#[]⟩)]) 32 rfl Try.underlying30 info33 rfl (by decide) (by omega) u6 x6_3 (⟨(rd_T33 l0 x5_1).f0, (rd_T33 l0 x5_1).f1⟩ : S33) [.string ((rd_T33 l0 x5_1).f0), .string ((rd_T33 l0 x5_1).f1)] (fun k_ => some k_ ≠ (.slice (some ad224) x4_1.length co25 : Value).ownBlock) (fun _ => False) rfl rfl ?aP (fun _ hk => hk.elim) ?aF ?aO ?aB ?aS ?aL ?_; (case aP => exact k33_mkM _ _ _ (⟨(rd_T33 l0 x5_1).f0, (rd_T33 l0 x5_1).f1⟩ : S33)); (case aB => exact (hq HB)); (case aF => exact (fun k_ hk => Kd.fresh' (Kd.R_lt (rq HO_4)) k_ hk)); (case aO => exact (rq HO_6)); (case aS => exact (below_size (hq HB))); (case aL => have := LMc21.out; omega); intro v234 w26 ho hb hg hat; rw [← Ny233.out] at ho; have n0_ := Aside0.mk (Kd.R_after (ok := (fun _ => True)) (by (with_reducible repeat (first | apply Kd.R_alloc | apply Kd.R_drewN | apply Kd.R_drew)); exact Kd.R_mono HO_4.out (fun _ hk => ⟨trivial, hk⟩)) hg hat); have n1_ := Aside0.mk (hb); have n2_ := Aside0.mk (ho); clear HO_4; clear HB; clear HO_6; have HO_4 := n0_; have HB := n1_; have HO235 := n2_; clear n0_ n1_ n2_; clear ho hb hg hat; have q27 : (x7_3 : Int) ≤ ((x4_1.length : Int) : Int) := of_decide_eq_true (by first | (with_reducible assumption) | assumption); obtain ⟨i027, hi027, _, hsz27, _⟩ := info_parts info33; have hroom27 : x4_1.length ≤ co25 := (Kd.R_reads' HO_4.out).2.1; have hC27 : Kd.C k33 _ (some ad224) x4_1.length x4_1 := (Kd.R_reads' HO_4.out).2.2; have q027 : (0 : Int) ≤ (x7_3 : Int) := of_decide_eq_true (by first | (with_reducible assumption) | assumption); have hcut27 := cut_from (P := Try.prog) 30 33 .i64 Try.underlying30 hi027 2 hsz27 (some ad224) x4_1.length co25 x7_3 q027 q27; have hr27 := Kd.C_drop (m := (x7_3 : Int).toNat) (c := co25) hC27 (by omega) hroom27; obtain ⟨A27, hA27⟩ : ∃ A1, A1 = (if co25 = (x7_3 : Int).toNat then (some ad224) else ((some ad224) : Option Addr).map (·.add ((x7_3 : Int).toNat * 2))) := ⟨_, rfl⟩; obtain ⟨c27, hc27⟩ : ∃ c1, c1 = co25 - (x7_3 : Int).toNat := ⟨_, rfl⟩; have hy27 : y236.length = x4_1.length - (x7_3 : Int).toNat := (by rw [Ny236.out, List.length_drop] <;> omega); rw [show (x4_1).drop (x7_3 : Int).toNat = y236 from Ny236.out.symm] at hr27; replace hr27 : Kd.C k33 _ A27 y236.length y236 := (by rw [hA27]; exact hr27); rw [← hy27, ← hA27, ← hc27] at hcut27; have HR239 := Aside0.mk hr27; have HC239 := Aside0.mk (show y236.length ≤ c27 from by rw [hy27, hc27]; exact Nat.sub_le_sub_right hroom27 _); clear hr27 hC27 hroom27 hi027 hsz27 hc27; have KY27 := Aside0.mk hy27; have KA27 := Aside0.mk hA27; clear hy27 hA27; have KL27 := Aside0.mk (show (x7_3 : Int).toNat ≤ x4_1.length from by omega); replace q27 := eq_true q27) | ((with_reducible refine gate_builtin (b := .append) (xs := #[.tmp 89, .tmp 92]) rfl ?_); at_builtin; refine Kd.R_append_rows k33 (w0 := w) w.heap.size rfl (.tmp 89) (.tmp 92) 30 33 (.agg #[(.string ⟨#[]⟩), (.string ⟨#[]⟩)]) 32 rfl Try.underlying30 info33 rfl (by decide) (by omega) v234 y233 y236 _ _ _ (fun k_ => some k_ ≠ (.slice (some ad224) x4_1.length co25 : Value).ownBlock) (fun _ => False) rfl rfl ?aO ?aR (fun _ _ h => h) (fun _ h => h.elim) ?aF ?aB ?aS ?aL ?_; (case aR => repeat (first | exact (by repeat (first | (with_reducible exact HR239.out) | (with_reducible refine Kd.C_alloc ?_ _) | (with_reducible refine Kd.C_drewN ?_ _) | (with_reducible refine Kd.C_drew ?_) | exact HR239.out)) | (with_reducible refine Kd.C_alloc ?_ _) | (with_reducible refine Kd.C_drewN ?_ _) | (with_reducible refine Kd.C_drew ?_))); (case aB => exact (hq HB)); (case aF => exact (fun k_ hk => Kd.fresh' (Kd.R_lt (rq HO_4)) k_ hk)); (case aO => exact (rq HO235)); (case aS => exact (below_size (hq HB))); (case aL => have := LMc24.out; omega); intro v241 w28 ho hb hg hat; rw [← Ny240.out] at ho; have n0_ := Aside0.mk (Kd.R_after (ok := (fun _ => True)) (rq HO_4) hg hat); have n1_ := Aside0.mk (hb); have n2_ := Aside0.mk ((show Kd.C k33 w28 A27 y236.length y236 from by rw [Ny236.out, KA27.out]; exact Kd.C_drop (m := (x7_3 : Int).toNat) (c := co25) ((Kd.R_reads' (Kd.R_after (ok := (fun _ => True)) (rq HO_4) hg hat)).2.2) KL27.out ((Kd.R_reads' (Kd.R_after (ok := (fun _ => True)) (rq HO_4) hg hat)).2.1))); have n3_ := Aside0.mk (ho); clear HO_4; clear HB; clear HR239; clear HO235; have HO_4 := n0_; have HB := n1_; have HR239 := n2_; have HO242 := n3_; clear n0_ n1_ n2_ n3_; clear ho hb hg hat))
                     repeat (go_quiet (first | ((with_reducible refine gate_builtin (b := .append) (xs := #[.tmp 82, .tmp 87]) rfl ?_); at_builtin; refine Kd.R_append k33 (w0 := w) w.heap.size rfl (.tmp 82) (.tmp 87) 30 33 (.agg #[(.string ⟨#[]⟩), (.string ⟨#[]⟩)]) 32 rfl Try.underlying30 info33 rfl (by decide) (by omega) u6 x6_3 (⟨(rd_T33 l0 x5_1).f0, (rd_T33 l0 x5_1).f1⟩ : S33) [.string ((rd_T33 l0 x5_1).f0), .string ((rd_T33 l0 x5_1).f1)] (fun k_ => some k_ ≠ (.slice (some ad224) x4_1.length co25 : Value).ownBlock) (fun _ => False) rfl rfl ?aP (fun _ hk => hk.elim) ?aF ?aO ?aB ?aS ?aL ?_; (case aP => exact k33_mkM _ _ _ (⟨(rd_T33 l0 x5_1).f0, (rd_T33 l0 x5_1).f1⟩ : S33)); (case aB => exact (hq HB)); (case aF => exact (fun k_ hk => Kd.fresh' (Kd.R_lt (rq HO_4)) k_ hk)); (case aO => exact (rq HO_6)); (case aS => exact (below_size (hq HB))); (case aL => have := LMc21.out; omega); intro v234 w26 ho hb hg hat; rw [← Ny233.out] at ho; have n0_ := Aside0.mk (Kd.R_after (ok := (fun _ => True)) (by (with_reducible repeat (first | apply Kd.R_alloc | apply Kd.R_drewN | apply Kd.R_drew)); exact Kd.R_mono HO_4.out (fun _ hk => ⟨trivial, hk⟩)) hg hat); have n1_ := Aside0.mk (hb); have n2_ := Aside0.mk (ho); clear HO_4; clear HB; clear HO_6; have HO_4 := n0_; have HB := n1_; have HO235 := n2_; clear n0_ n1_ n2_; clear ho hb hg hat; have q27 : (x7_3 : Int) ≤ ((x4_1.length : Int) : Int) := of_decide_eq_true (by first | (with_reducible assumption) | assumption); obtain ⟨i027, hi027, _, hsz27, _⟩ := info_parts info33; have hroom27 : x4_1.length ≤ co25 := (Kd.R_reads' HO_4.out).2.1; have hC27 : Kd.C k33 _ (some ad224) x4_1.length x4_1 := (Kd.R_reads' HO_4.out).2.2; have q027 : (0 : Int) ≤ (x7_3 : Int) := of_decide_eq_true (by first | (with_reducible assumption) | assumption); have hcut27 := cut_from (P := Try.prog) 30 33 .i64 Try.underlying30 hi027 2 hsz27 (some ad224) x4_1.length co25 x7_3 q027 q27; have hr27 := Kd.C_drop (m := (x7_3 : Int).toNat) (c := co25) hC27 (by omega) hroom27; obtain ⟨A27, hA27⟩ : ∃ A1, A1 = (if co25 = (x7_3 : Int).toNat then (some ad224) else ((some ad224) : Option Addr).map (·.add ((x7_3 : Int).toNat * 2))) := ⟨_, rfl⟩; obtain ⟨c27, hc27⟩ : ∃ c1, c1 = co25 - (x7_3 : Int).toNat := ⟨_, rfl⟩; have hy27 : y236.length = x4_1.length - (x7_3 : Int).toNat := (by rw [Ny236.out, List.length_drop] <;> omega); rw [show (x4_1).drop (x7_3 : Int).toNat = y236 from Ny236.out.symm] at hr27; replace hr27 : Kd.C k33 _ A27 y236.length y236 := (by rw [hA27]; exact hr27); rw [← hy27, ← hA27, ← hc27] at hcut27; have HR239 := Aside0.mk hr27; have HC239 := Aside0.mk (show y236.length ≤ c27 from by rw [hy27, hc27]; exact Nat.sub_le_sub_right hroom27 _); clear hr27 hC27 hroom27 hi027 hsz27 hc27; have KY27 := Aside0.mk hy27; have KA27 := Aside0.mk hA27; clear hy27 hA27; have KL27 := Aside0.mk (show (x7_3 : Int).toNat ≤ x4_1.length from by omega); replace q27 := eq_true q27) | ((with_reducible refine gate_builtin (b := .append) (xs := #[.tmp 89, .tmp 92]) rfl ?_); at_builtin; refine Kd.R_append_rows k33 (w0 := w) w.heap.size rfl (.tmp 89) (.tmp 92) 30 33 (.agg #[(.string ⟨#[]⟩), (.string ⟨#[]⟩)]) 32 rfl Try.underlying30 info33 rfl (by decide) (by omega) v234 y233 y236 _ _ _ (fun k_ => some k_ ≠ (.slice (some ad224) x4_1.length co25 : Value).ownBlock) (fun _ => False) rfl rfl ?aO ?aR (fun _ _ h => h) (fun _ h => h.elim) ?aF ?aB ?aS ?aL ?_; (case aR => repeat (first | exact (by repeat (first | (with_reducible exact HR239.out) | (with_reducible refine Kd.C_alloc ?_ _) | (with_reducible refine Kd.C_drewN ?_ _) | (with_reducible refine Kd.C_drew ?_) | exact HR239.out)) | (with_reducible refine Kd.C_alloc ?_ _) | (with_reducible refine Kd.C_drewN ?_ _) | (with_reducible refine Kd.C_drew ?_))); (case aB => exact (hq HB)); (case aF => exact (fun k_ hk => Kd.fresh' (Kd.R_lt (rq HO_4)) k_ hk)); (case aO => exact (rq HO235)); (case aS => exact (below_size (hq HB))); (case aL => have := LMc24.out; omega); intro v241 w28 ho hb hg hat; rw [← Ny240.out] at ho; have n0_ := Aside0.mk (Kd.R_after (ok := (fun _ => True)) (rq HO_4) hg hat); have n1_ := Aside0.mk (hb); have n2_ := Aside0.mk ((show Kd.C k33 w28 A27 y236.length y236 from by rw [Ny236.out, KA27.out]; exact Kd.C_drop (m := (x7_3 : Int).toNat) (c := co25) ((Kd.R_reads' (Kd.R_after (ok := (fun _ => True)) (rq HO_4) hg hat)).2.2) KL27.out ((Kd.R_reads' (Kd.R_after (ok := (fun _ => True)) (rq HO_4) hg hat)).2.1))); have n3_ := Aside0.mk (ho); clear HO_4; clear HB; clear HR239; clear HO235; have HO_4 := n0_; have HB := n1_; have HR239 := n2_; have HO242 := n3_; clear n0_ n1_ n2_ n3_; clear ho hb hg hat)); try go_wp2_with (first | ((with_reducible refine gate_builtin (b := .append) (xs := #[.tmp 82, .tmp 87]) rfl ?_); at_builtin; refine Kd.R_append k33 (w0 := w) w.heap.size rfl (.tmp 82) (.tmp 87) 30 33 (.agg #[(.string ⟨#[]⟩), (.string ⟨#[]⟩)]) 32 rfl Try.underlying30 info33 rfl (by decide) (by omega) u6 x6_3 (⟨(rd_T33 l0 x5_1).f0, (rd_T33 l0 x5_1).f1⟩ : S33) [.string ((rd_T33 l0 x5_1).f0), .string ((rd_T33 l0 x5_1).f1)] (fun k_ => some k_ ≠ (.slice (some ad224) x4_1.length co25 : Value).ownBlock) (fun _ => False) rfl rfl ?aP (fun _ hk => hk.elim) ?aF ?aO ?aB ?aS ?aL ?_; (case aP => exact k33_mkM _ _ _ (⟨(rd_T33 l0 x5_1).f0, (rd_T33 l0 x5_1).f1⟩ : S33)); (case aB => exact (hq HB)); (case aF => exact (fun k_ hk => Kd.fresh' (Kd.R_lt (rq HO_4)) k_ hk)); (case aO => exact (rq HO_6)); (case aS => exact (below_size (hq HB))); (case aL => have := LMc21.out; omega); intro v234 w26 ho hb hg hat; rw [← Ny233.out] at ho; have n0_ := Aside0.mk (Kd.R_after (ok := (fun _ => True)) (by (with_reducible repeat (first | apply Kd.R_alloc | apply Kd.R_drewN | apply Kd.R_drew)); exact Kd.R_mono HO_4.out (fun _ hk => ⟨trivial, hk⟩)) hg hat); have n1_ := Aside0.mk (hb); have n2_ := Aside0.mk (ho); clear HO_4; clear HB; clear HO_6; have HO_4 := n0_; have HB := n1_; have HO235 := n2_; clear n0_ n1_ n2_; clear ho hb hg hat; have q27 : (x7_3 : Int) ≤ ((x4_1.length : Int) : Int) := of_decide_eq_true (by first | (with_reducible assumption) | assumption); obtain ⟨i027, hi027, _, hsz27, _⟩ := info_parts info33; have hroom27 : x4_1.length ≤ co25 := (Kd.R_reads' HO_4.out).2.1; have hC27 : Kd.C k33 _ (some ad224) x4_1.length x4_1 := (Kd.R_reads' HO_4.out).2.2; have q027 : (0 : Int) ≤ (x7_3 : Int) := of_decide_eq_true (by first | (with_reducible assumption) | assumption); have hcut27 := cut_from (P := Try.prog) 30 33 .i64 Try.underlying30 hi027 2 hsz27 (some ad224) x4_1.length co25 x7_3 q027 q27; have hr27 := Kd.C_drop (m := (x7_3 : Int).toNat) (c := co25) hC27 (by omega) hroom27; obtain ⟨A27, hA27⟩ : ∃ A1, A1 = (if co25 = (x7_3 : Int).toNat then (some ad224) else ((some ad224) : Option Addr).map (·.add ((x7_3 : Int).toNat * 2))) := ⟨_, rfl⟩; obtain ⟨c27, hc27⟩ : ∃ c1, c1 = co25 - (x7_3 : Int).toNat := ⟨_, rfl⟩; have hy27 : y236.length = x4_1.length - (x7_3 : Int).toNat := (by rw [Ny236.out, List.length_drop] <;> omega); rw [show (x4_1).drop (x7_3 : Int).toNat = y236 from Ny236.out.symm] at hr27; replace hr27 : Kd.C k33 _ A27 y236.length y236 := (by rw [hA27]; exact hr27); rw [← hy27, ← hA27, ← hc27] at hcut27; have HR239 := Aside0.mk hr27; have HC239 := Aside0.mk (show y236.length ≤ c27 from by rw [hy27, hc27]; exact Nat.sub_le_sub_right hroom27 _); clear hr27 hC27 hroom27 hi027 hsz27 hc27; have KY27 := Aside0.mk hy27; have KA27 := Aside0.mk hA27; clear hy27 hA27; have KL27 := Aside0.mk (show (x7_3 : Int).toNat ≤ x4_1.length from by omega); replace q27 := eq_true q27) | ((with_reducible refine gate_builtin (b := .append) (xs := #[.tmp 89, .tmp 92]) rfl ?_); at_builtin; refine Kd.R_append_rows k33 (w0 := w) w.heap.size rfl (.tmp 89) (.tmp 92) 30 33 (.agg #[(.string ⟨#[]⟩), (.string ⟨#[]⟩)]) 32 rfl Try.underlying30 info33 rfl (by decide) (by omega) v234 y233 y236 _ _ _ (fun k_ => some k_ ≠ (.slice (some ad224) x4_1.length co25 : Value).ownBlock) (fun _ => False) rfl rfl ?aO ?aR (fun _ _ h => h) (fun _ h => h.elim) ?aF ?aB ?aS ?aL ?_; (case aR => repeat (first | exact (by repeat (first | (with_reducible exact HR239.out) | (with_reducible refine Kd.C_alloc ?_ _) | (with_reducible refine Kd.C_drewN ?_ _) | (with_reducible refine Kd.C_drew ?_) | exact HR239.out)) | (with_reducible refine Kd.C_alloc ?_ _) | (with_reducible refine Kd.C_drewN ?_ _) | (with_reducible refine Kd.C_drew ?_))); (case aB => exact (hq HB)); (case aF => exact (fun k_ hk => Kd.fresh' (Kd.R_lt (rq HO_4)) k_ hk)); (case aO => exact (rq HO235)); (case aS => exact (below_size (hq HB))); (case aL => have := LMc24.out; omega); intro v241 w28 ho hb hg hat; rw [← Ny240.out] at ho; have n0_ := Aside0.mk (Kd.R_after (ok := (fun _ => True)) (rq HO_4) hg hat); have n1_ := Aside0.mk (hb); have n2_ := Aside0.mk ((show Kd.C k33 w28 A27 y236.length y236 from by rw [Ny236.out, KA27.out]; exact Kd.C_drop (m := (x7_3 : Int).toNat) (c := co25) ((Kd.R_reads' (Kd.R_after (ok := (fun _ => True)) (rq HO_4) hg hat)).2.2) KL27.out ((Kd.R_reads' (Kd.R_after (ok := (fun _ => True)) (rq HO_4) hg hat)).2.1))); have n3_ := Aside0.mk (ho); clear HO_4; clear HB; clear HR239; clear HO235; have HO_4 := n0_; have HB := n1_; have HR239 := n2_; have HO242 := n3_; clear n0_ n1_ n2_ n3_; clear ho hb hg hat)))
                     go_roundg k3
                     case measure => have := HK1.out; have := HJ6.out; have := HK3.out; omega
                     case rel => exact ⟨(y240), (wrap64 (x5_1 + 1)), (by first | rfl | (simp; done) | (simp [*]; done)), H', ⟨by have := HK1.out; have := HJ6.out; have := HK3.out; omega⟩, ⟨by (with_reducible repeat (first | apply Kd.R_alloc | apply Kd.R_drewN | apply Kd.R_drew)); exact Kd.R_mono HO242.out (fun _ hk => trivial)⟩, ⟨by repeat (first | (with_reducible first | exact HB.out | apply below_alloc | apply pw_below_drewN | apply below_drew1) | exact HB.out)⟩⟩
                    ·rw [if_neg c24] at H
                     exact absurd H (by simp)
                   ·rw [if_neg c23] at H
                    exact absurd H (by simp)
                  ·rw [if_neg c21] at H
                   exact absurd H (by simp)
               ·rw [if_neg c14] at H
                exact absurd H (by simp)
              ·rw [if_neg c13] at H
               exact absurd H (by simp)
             ·rw [if_neg c12] at H
              exact absurd H (by simp)
            ·rw [if_neg c11] at H
             have c11b0 : decide (x7_3 < (x4_1.length : Int)) = false := decide_eq_false c11
             clear c11
             by_cases c29 : 0 ≤ x5_1
             ·rw [if_pos c29] at H
              have c29b0 : decide (0 ≤ x5_1) = true := decide_eq_true c29
              clear c29
              by_cases c30 : x5_1 < (l0.length : Int)
              ·rw [if_pos c30] at H
               have c30b0 : decide (x5_1 < (l0.length : Int)) = true := decide_eq_true c30
               clear c30
               by_cases c31 : x6_3.length < 4398046511104
               ·rw [if_pos c31] at H
                have LMc31 := Aside0.mk c31
                clear c31
                obtain ⟨y244, hy244⟩ : ∃ y_ : List (S33), y_ = (x6_3 ++ [(⟨(rd_T33 l0 x5_1).f0, (rd_T33 l0 x5_1).f1⟩ : S33)]) := ⟨_, rfl⟩
                replace H : (if 0 ≤ x7_3 then (if x7_3 ≤ (x4_1.length : Int) then ((some (x4_1.drop (x7_3 : Int).toNat : List (S33))).bind fun y247 => (if y244.length + y247.length < 4398046511104 then (intervalmonref05_New.l0 k3 l0 (y244 ++ y247) (wrap64 (x5_1 + 1))) else (none))) else (none)) else (none)) = some (r1, r2) := by first | (rw [hy244]; with_reducible exact H) | (have H2_ := (Option.bind_some _ _).symm.trans H; rw [hy244]; with_reducible exact H2_) | (have H2_ := (Option.bind_some _ _).symm.trans H; with_reducible exact H2_) | with_reducible exact H | (rw [hy244]; exact H) | exact H
                have Ny244 := Aside0.mk hy244
                clear hy244
                by_cases c32 : 0 ≤ x7_3
                ·rw [if_pos c32] at H
                 have c32b0 := eq_true c32
                 have c32b1 : decide (0 ≤ x7_3) = true := decide_eq_true c32
                 clear c32
                 by_cases c33 : x7_3 ≤ (x4_1.length : Int)
                 ·rw [if_pos c33] at H
                  have c33b0 := eq_true c33
                  have c33b1 : decide (x7_3 ≤ (x4_1.length : Int)) = true := decide_eq_true c33
                  clear c33
                  obtain ⟨y247, hy247⟩ : ∃ y_ : List (S33), y_ = (x4_1.drop (x7_3 : Int).toNat) := ⟨_, rfl⟩
                  replace H : (if y244.length + y247.length < 4398046511104 then (intervalmonref05_New.l0 k3 l0 (y244 ++ y247) (wrap64 (x5_1 + 1))) else (none)) = some (r1, r2) := by first | (rw [hy247]; with_reducible exact H) | (have H2_ := (Option.bind_some _ _).symm.trans H; rw [hy247]; with_reducible exact H2_) | (have H2_ := (Option.bind_some _ _).symm.trans H; with_reducible exact H2_) | with_reducible exact H | (rw [hy247]; exact H) | exact H
                  have Ny247 := Aside0.mk hy247
                  clear hy247
                  by_cases c34 : y244.length + y247.length < 4398046511104
                  ·rw [if_pos c34] at H
                   have LMc34 := Aside0.mk c34
                   clear c34
                   obtain ⟨y251, hy251⟩ : ∃ y_ : List (S33), y_ = (y244 ++ y247) := ⟨_, rfl⟩
                   replace H : (intervalmonref05_New.l0 k3 l0 y251 (wrap64 (x5_1 + 1))) = some (r1, r2) := by first | (rw [hy251]; with_reducible exact H) | (have H2_ := (Option.bind_some _ _).symm.trans H; rw [hy251]; with_reducible exact H2_) | (have H2_ := (Option.bind_some _ _).symm.trans H; with_reducible exact H2_) | with_reducible exact H | (rw [hy251]; exact H) | exact H
                   have Ny251 := Aside0.mk hy251
                   clear hy251
                   have H' := Aside0.mk H
                   clear H
                   obtain ⟨Ao35, co35, eo35⟩ := Kd.R_slice HO_4.out
                   subst eo35
                   have p243 : 0 ≤ (x5_1 : Int) := of_decide_eq_true (by first | (with_reducible assumption) | assumption)
                   have q243 : x5_1 < (l0.length : Int) := of_decide_eq_true (by first | (with_reducible assumption) | assumption)
                   obtain ⟨ad243, e243, hx243_0, hx243_1⟩ := at_T33 HR0.out x5_1 p243 q243
                   obtain rfl : ad219 = ad243 := (by injection e243)
                   (try replace hx243_0 := (HB.out.cell (World.block_lt_of_cell? w _ hx243_0)).trans hx243_0)
                   (try replace hx243_1 := (HB.out.cell (World.block_lt_of_cell? w _ hx243_1)).trans hx243_1)
                   replace p243 := eq_true p243
                   replace q243 := eq_true q243
                   go_wp2_with (first | ((with_reducible refine gate_builtin (b := .append) (xs := #[.tmp 82, .tmp 87]) rfl ?_); at_builtin; refine Kd.R_append k33 (w0 := w) w.heap.size rfl (.tmp 82) (.tmp 87) 30 33 (.agg #[(.string ⟨#[]⟩), (.string ⟨#[]⟩)]) 32 rfl Try.underlying30 info33 rfl (by decide) (by omega) u6 x6_3 (⟨(rd_T33 l0 x5_1).f0, (rd_T33 l0 x5_1).f1⟩ : S33) [.string ((rd_T33 l0 x5_1).f0), .string ((rd_T33 l0 x5_1).f1)] (fun k_ => some k_ ≠ (.slice Ao35 x4_1.length co35 : Value).ownBlock) (fun _ => False) rfl rfl ?aP (fun _ hk => hk.elim) ?aF ?aO ?aB ?aS ?aL ?_; (case aP => exact k33_mkM _ _ _ (⟨(rd_T33 l0 x5_1).f0, (rd_T33 l0 x5_1).f1⟩ : S33)); (case aB => exact (hq HB)); (case aF => exact (fun k_ hk => Kd.fresh' (Kd.R_lt (rq HO_4)) k_ hk)); (case aO => exact (rq HO_6)); (case aS => exact (below_size (hq HB))); (case aL => have := LMc31.out; omega); intro v245 w36 ho hb hg hat; rw [← Ny244.out] at ho; have n0_ := Aside0.mk (Kd.R_after (ok := (fun _ => True)) (by (with_reducible repeat (first | apply Kd.R_alloc | apply Kd.R_drewN | apply Kd.R_drew)); exact Kd.R_mono HO_4.out (fun _ hk => ⟨trivial, hk⟩)) hg hat); have n1_ := Aside0.mk (hb); have n2_ := Aside0.mk (ho); clear HO_4; clear HB; clear HO_6; have HO_4 := n0_; have HB := n1_; have HO246 := n2_; clear n0_ n1_ n2_; clear ho hb hg hat; have q37 : (x7_3 : Int) ≤ ((x4_1.length : Int) : Int) := of_decide_eq_true (by first | (with_reducible assumption) | assumption); obtain ⟨i037, hi037, _, hsz37, _⟩ := info_parts info33; have hroom37 : x4_1.length ≤ co35 := (Kd.R_reads' HO_4.out).2.1; have hC37 : Kd.C k33 _ Ao35 x4_1.length x4_1 := (Kd.R_reads' HO_4.out).2.2; have q037 : (0 : Int) ≤ (x7_3 : Int) := of_decide_eq_true (by first | (with_reducible assumption) | assumption); have hcut37 := cut_from (P := Try.prog) 30 33 .i64 Try.underlying30 hi037 2 hsz37 Ao35 x4_1.length co35 x7_3 q037 q37; have hr37 := Kd.C_drop (m := (x7_3 : Int).toNat) (c := co35) hC37 (by omega) hroom37; obtain ⟨A37, hA37⟩ : ∃ A1, A1 = (if co35 = (x7_3 : Int).toNat then Ao35 else (Ao35 : Option Addr).map (·.add ((x7_3 : Int).toNat * 2))) := ⟨_, rfl⟩; obtain ⟨c37, hc37⟩ : ∃ c1, c1 = co35 - (x7_3 : Int).toNat := ⟨_, rfl⟩; have hy37 : y247.length = x4_1.length - (x7_3 : Int).toNat := (by rw [Ny247.out, List.length_drop] <;> omega); rw [show (x4_1).drop (x7_3 : Int).toNat = y247 from Ny247.out.symm] at hr37; replace hr37 : Kd.C k33 _ A37 y247.length y247 := (by rw [hA37]; exact hr37); rw [← hy37, ← hA37, ← hc37] at hcut37; have HR250 := Aside0.mk hr37; have HC250 := Aside0.mk (show y247.length ≤ c37 from by rw [hy37, hc37]; exact Nat.sub_le_sub_right hroom37 _); clear hr37 hC37 hroom37 hi037 hsz37 hc37; have KY37 := Aside0.mk hy37; have KA37 := Aside0.mk hA37; clear hy37 hA37; have KL37 := Aside0.mk (show (x7_3 : Int).toNat ≤ x4_1.length from by omega); replace q37 := eq_true q37) | ((with_reducible refine gate_builtin (b := .append) (xs := #[.tmp 89, .tmp 92]) rfl ?_); at_builtin; refine Kd.R_append_rows k33 (w0 := w) w.heap.size rfl (.tmp 89) (.tmp 92) 30 33 (.agg #[(.string ⟨#[]⟩), (.string ⟨#[]⟩)]) 32 rfl Try.underlying30 info33 rfl (by decide) (by omega) v245 y244 y247 _ _ _ (fun k_ => some k_ ≠ (.slice Ao35 x4_1.length co35 : Value).ownBlock) (fun _ => False) rfl rfl ?aO ?aR (fun _ _ h => h) (fun _ h => h.elim) ?aF ?aB ?aS ?aL ?_; (case aR => repeat (first | exact (by repeat (first | (with_reducible exact HR250.out) | (with_reducible refine Kd.C_alloc ?_ _) | (with_reducible refine Kd.C_drewN ?_ _) | (with_reducible refine Kd.C_drew ?_) | exact HR250.out)) | (with_reducible refine Kd.C_alloc ?_ _) | (with_reducible refine Kd.C_drewN ?_ _) | (with_reducible refine Kd.C_drew ?_))); (case aB => exact (hq HB)); (case aF => exact (fun k_ hk => Kd.fresh' (Kd.R_lt (rq HO_4)) k_ hk)); (case aO => exact (rq HO246)); (case aS => exact (below_size (hq HB))); (case aL => have := LMc34.out; omega); intro v252 w38 ho hb hg hat; rw [← Ny251.out] at ho; have n0_ := Aside0.mk (Kd.R_after (ok := (fun _ => True)) (rq HO_4) hg hat); have n1_ := Aside0.mk (hb); have n2_ := Aside0.mk ((show Kd.C k33 w38 A37 y247.length y247 from by rw [Ny247.out, KA37.out]; exact Kd.C_drop (m := (x7_3 : Int).toNat) (c := co35) ((Kd.R_reads' (Kd.R_after (ok := (fun _ => True)) (rq HO_4) hg hat)).2.2) KL37.out ((Kd.R_reads' (Kd.R_after (ok := (fun _ => True)) (rq HO_4) hg hat)).2.1))); have n3_ := Aside0.mk (ho); clear HO_4; clear HB; clear HR250; clear HO246; have HO_4 := n0_; have HB := n1_; have HR250 := n2_; have HO253 := n3_; clear n0_ n1_ n2_ n3_; clear ho hb hg hat))
                   repeat (go_quiet (first | ((with_reducible refine gate_builtin (b := .append) (xs := #[.tmp 82, .tmp 87]) rfl ?_); at_builtin; refine Kd.R_append k33 (w0 := w) w.heap.size rfl (.tmp 82) (.tmp 87) 30 33 (.agg #[(.string ⟨#[]⟩), (.string ⟨#[]⟩)]) 32 rfl Try.underlying30 info33 rfl (by decide) (by omega) u6 x6_3 (⟨(rd_T33 l0 x5_1).f0, (rd_T33 l0 x5_1).f1⟩ : S33) [.string ((rd_T33 l0 x5_1).f0), .string ((rd_T33 l0 x5_1).f1)] (fun k_ => some k_ ≠ (.slice Ao35 x4_1.length co35 : Value).ownBlock) (fun _ => False) rfl rfl ?aP (fun _ hk => hk.elim) ?aF ?aO ?aB ?aS ?aL ?_; (case aP => exact k33_mkM _ _ _ (⟨(rd_T33 l0 x5_1).f0, (rd_T33 l0 x5_1).f1⟩ : S33)); (case aB => exact (hq HB)); (case aF => exact (fun k_ hk => Kd.fresh' (Kd.R_lt (rq HO_4)) k_ hk)); (case aO => exact (rq HO_6)); (case aS => exact (below_size (hq HB))); (case aL => have := LMc31.out; omega); intro v245 w36 ho hb hg hat; rw [← Ny244.out] at ho; have n0_ := Aside0.mk (Kd.R_after (ok := (fun _ => True)) (by (with_reducible repeat (first | apply Kd.R_alloc | apply Kd.R_drewN | apply Kd.R_drew)); exact Kd.R_mono HO_4.out (fun _ hk => ⟨trivial, hk⟩)) hg hat); have n1_ := Aside0.mk (hb); have n2_ := Aside0.mk (ho); clear HO_4; clear HB; clear HO_6; have HO_4 := n0_; have HB := n1_; have HO246 := n2_; clear n0_ n1_ n2_; clear ho hb hg hat; have q37 : (x7_3 : Int) ≤ ((x4_1.length : Int) : Int) := of_decide_eq_true (by first | (with_reducible assumption) | assumption); obtain ⟨i037, hi037, _, hsz37, _⟩ := info_parts info33; have hroom37 : x4_1.length ≤ co35 := (Kd.R_reads' HO_4.out).2.1; have hC37 : Kd.C k33 _ Ao35 x4_1.length x4_1 := (Kd.R_reads' HO_4.out).2.2; have q037 : (0 : Int) ≤ (x7_3 : Int) := of_decide_eq_true (by first | (with_reducible assumption) | assumption); have hcut37 := cut_from (P := Try.prog) 30 33 .i64 Try.underlying30 hi037 2 hsz37 Ao35 x4_1.length co35 x7_3 q037 q37; have hr37 := Kd.C_drop (m := (x7_3 : Int).toNat) (c := co35) hC37 (by omega) hroom37; obtain ⟨A37, hA37⟩ : ∃ A1, A1 = (if co35 = (x7_3 : Int).toNat then Ao35 else (Ao35 : Option Addr).map (·.add ((x7_3 : Int).toNat * 2))) := ⟨_, rfl⟩; obtain ⟨c37, hc37⟩ : ∃ c1, c1 = co35 - (x7_3 : Int).toNat := ⟨_, rfl⟩; have hy37 : y247.length = x4_1.length - (x7_3 : Int).toNat := (by rw [Ny247.out, List.length_drop] <;> omega); rw [show (x4_1).drop (x7_3 : Int).toNat = y247 from Ny247.out.symm] at hr37; replace hr37 : Kd.C k33 _ A37 y247.length y247 := (by rw [hA37]; exact hr37); rw [← hy37, ← hA37, ← hc37] at hcut37; have HR250 := Aside0.mk hr37; have HC250 := Aside0.mk (show y247.length ≤ c37 from by rw [hy37, hc37]; exact Nat.sub_le_sub_right hroom37 _); clear hr37 hC37 hroom37 hi037 hsz37 hc37; have KY37 := Aside0.mk hy37; have KA37 := Aside0.mk hA37; clear hy37 hA37; have KL37 := Aside0.mk (show (x7_3 : Int).toNat ≤ x4_1.length from by omega); replace q37 := eq_true q37) | ((with_reducible refine gate_builtin (b := .append) (xs := #[.tmp 89, .tmp 92]) rfl ?_); at_builtin; refine Kd.R_append_rows k33 (w0 := w) w.heap.size rfl (.tmp 89) (.tmp 92) 30 33 (.agg #[(.string ⟨#[]⟩), (.string ⟨#[]⟩)]) 32 rfl Try.underlying30 info33 rfl (by decide) (by omega) v245 y244 y247 _ _ _ (fun k_ => some k_ ≠ (.slice Ao35 x4_1.length co35 : Value).ownBlock) (fun _ => False) rfl rfl ?aO ?aR (fun _ _ h => h) (fun _ h => h.elim) ?aF ?aB ?aS ?aL ?_; (case aR => repeat (first | exact (by repeat (first | (with_reducible exact HR250.out) | (with_reducible refine Kd.C_alloc ?_ _) | (with_reducible refine Kd.C_drewN ?_ _) | (with_reducible refine Kd.C_drew ?_) | exact HR250.out)) | (with_reducible refine Kd.C_alloc ?_ _) | (with_reducible refine Kd.C_drewN ?_ _) | (with_reducible refine Kd.C_drew ?_))); (case aB => exact (hq HB)); (case aF => exact (fun k_ hk => Kd.fresh' (Kd.R_lt (rq HO_4)) k_ hk)); (case aO => exact (rq HO246)); (case aS => exact (below_size (hq HB))); (case aL => have := LMc34.out; omega); intro v252 w38 ho hb hg hat; rw [← Ny251.out] at ho; have n0_ := Aside0.mk (Kd.R_after (ok := (fun _ => True)) (rq HO_4) hg hat); have n1_ := Aside0.mk (hb); have n2_ := Aside0.mk ((show Kd.C k33 w38 A37 y247.length y247 from by rw [Ny247.out, KA37.out]; exact Kd.C_drop (m := (x7_3 : Int).toNat) (c := co35) ((Kd.R_reads' (Kd.R_after (ok := (fun _ => True)) (rq HO_4) hg hat)).2.2) KL37.out ((Kd.R_reads' (Kd.R_after (ok := (fun _ => True)) (rq HO_4) hg hat)).2.1))); have n3_ := Aside0.mk (ho); clear HO_4; clear HB; clear HR250; clear HO246; have HO_4 := n0_; have HB := n1_; have HR250 := n2_; have HO253 := n3_; clear n0_ n1_ n2_ n3_; clear ho hb hg hat)); try go_wp2_with (first | ((with_reducible refine gate_builtin (b := .append) (xs := #[.tmp 82, .tmp 87]) rfl ?_); at_builtin; refine Kd.R_append k33 (w0 := w) w.heap.size rfl (.tmp 82) (.tmp 87) 30 33 (.agg #[(.string ⟨#[]⟩), (.string ⟨#[]⟩)]) 32 rfl Try.underlying30 info33 rfl (by decide) (by omega) u6 x6_3 (⟨(rd_T33 l0 x5_1).f0, (rd_T33 l0 x5_1).f1⟩ : S33) [.string ((rd_T33 l0 x5_1).f0), .string ((rd_T33 l0 x5_1).f1)] (fun k_ => some k_ ≠ (.slice Ao35 x4_1.length co35 : Value).ownBlock) (fun _ => False) rfl rfl ?aP (fun _ hk => hk.elim) ?aF ?aO ?aB ?aS ?aL ?_; (case aP => exact k33_mkM _ _ _ (⟨(rd_T33 l0 x5_1).f0, (rd_T33 l0 x5_1).f1⟩ : S33)); (case aB => exact (hq HB)); (case aF => exact (fun k_ hk => Kd.fresh' (Kd.R_lt (rq HO_4)) k_ hk)); (case aO => exact (rq HO_6)); (case aS => exact (below_size (hq HB))); (case aL => have := LMc31.out; omega); intro v245 w36 ho hb hg hat; rw [← Ny244.out] at ho; have n0_ := Aside0.mk (Kd.R_after (ok := (fun _ => True)) (by (with_reducible repeat (first | apply Kd.R_alloc | apply Kd.R_drewN | apply Kd.R_drew)); exact Kd.R_mono HO_4.out (fun _ hk => ⟨trivial, hk⟩)) hg hat); have n1_ := Aside0.mk (hb); have n2_ := Aside0.mk (ho); clear HO_4; clear HB; clear HO_6; have HO_4 := n0_; have HB := n1_; have HO246 := n2_; clear n0_ n1_ n2_; clear ho hb hg hat; have q37 : (x7_3 : Int) ≤ ((x4_1.length : Int) : Int) := of_decide_eq_true (by first | (with_reducible assumption) | assumption); obtain ⟨i037, hi037, _, hsz37, _⟩ := info_parts info33; have hroom37 : x4_1.length ≤ co35 := (Kd.R_reads' HO_4.out).2.1; have hC37 : Kd.C k33 _ Ao35 x4_1.length x4_1 := (Kd.R_reads' HO_4.out).2.2; have q037 : (0 : Int) ≤ (x7_3 : Int) := of_decide_eq_true (by first | (with_reducible assumption) | assumption); have hcut37 := cut_from (P := Try.prog) 30 33 .i64 Try.underlying30 hi037 2 hsz37 Ao35 x4_1.length co35 x7_3 q037 q37; have hr37 := Kd.C_drop (m := (x7_3 : Int).toNat) (c := co35) hC37 (by omega) hroom37; obtain ⟨A37, hA37⟩ : ∃ A1, A1 = (if co35 = (x7_3 : Int).toNat then Ao35 else (Ao35 : Option Addr).map (·.add ((x7_3 : Int).toNat * 2))) := ⟨_, rfl⟩; obtain ⟨c37, hc37⟩ : ∃ c1, c1 = co35 - (x7_3 : Int).toNat := ⟨_, rfl⟩; have hy37 : y247.length = x4_1.length - (x7_3 : Int).toNat := (by rw [Ny247.out, List.length_drop] <;> omega); rw [show (x4_1).drop (x7_3 : Int).toNat = y247 from Ny247.out.symm] at hr37; replace hr37 : Kd.C k33 _ A37 y247.length y247 := (by rw [hA37]; exact hr37); rw [← hy37, ← hA37, ← hc37] at hcut37; have HR250 := Aside0.mk hr37; have HC250 := Aside0.mk (show y247.length ≤ c37 from by rw [hy37, hc37]; exact Nat.sub_le_sub_right hroom37 _); clear hr37 hC37 hroom37 hi037 hsz37 hc37; have KY37 := Aside0.mk hy37; have KA37 := Aside0.mk hA37; clear hy37 hA37; have KL37 := Aside0.mk (show (x7_3 : Int).toNat ≤ x4_1.length from by omega); replace q37 := eq_true q37) | ((with_reducible refine gate_builtin (b := .append) (xs := #[.tmp 89, .tmp 92]) rfl ?_); at_builtin; refine Kd.R_append_rows k33 (w0 := w) w.heap.size rfl (.tmp 89) (.tmp 92) 30 33 (.agg #[(.string ⟨#[]⟩), (.string ⟨#[]⟩)]) 32 rfl Try.underlying30 info33 rfl (by decide) (by omega) v245 y244 y247 _ _ _ (fun k_ => some k_ ≠ (.slice Ao35 x4_1.length co35 : Value).ownBlock) (fun _ => False) rfl rfl ?aO ?aR (fun _ _ h => h) (fun _ h => h.elim) ?aF ?aB ?aS ?aL ?_; (case aR => repeat (first | exact (by repeat (first | (with_reducible exact HR250.out) | (with_reducible refine Kd.C_alloc ?_ _) | (with_reducible refine Kd.C_drewN ?_ _) | (with_reducible refine Kd.C_drew ?_) | exact HR250.out)) | (with_reducible refine Kd.C_alloc ?_ _) | (with_reducible refine Kd.C_drewN ?_ _) | (with_reducible refine Kd.C_drew ?_))); (case aB => exact (hq HB)); (case aF => exact (fun k_ hk => Kd.fresh' (Kd.R_lt (rq HO_4)) k_ hk)); (case aO => exact (rq HO246)); (case aS => exact (below_size (hq HB))); (case aL => have := LMc34.out; omega); intro v252 w38 ho hb hg hat; rw [← Ny251.out] at ho; have n0_ := Aside0.mk (Kd.R_after (ok := (fun _ => True)) (rq HO_4) hg hat); have n1_ := Aside0.mk (hb); have n2_ := Aside0.mk ((show Kd.C k33 w38 A37 y247.length y247 from by rw [Ny247.out, KA37.out]; exact Kd.C_drop (m := (x7_3 : Int).toNat) (c := co35) ((Kd.R_reads' (Kd.R_after (ok := (fun _ => True)) (rq HO_4) hg hat)).2.2) KL37.out ((Kd.R_reads' (Kd.R_after (ok := (fun _ => True)) (rq HO_4) hg hat)).2.1))); have n3_ := Aside0.mk (ho); clear HO_4; clear HB; clear HR250; clear HO246; have HO_4 := n0_; have HB := n1_; have HR250 := n2_; have HO253 := n3_; clear n0_ n1_ n2_ n3_; clear ho hb hg hat)))
                   go_roundg k3
                   case measure => have := HK1.out; have := HJ6.out; have := HK3.out; omega
                   case rel => exact ⟨(y251), (wrap64 (x5_1 + 1)), (by first | rfl | (simp; done) | (simp [*]; done)), H', ⟨by have := HK1.out; have := HJ6.out; have := HK3.out; omega⟩, ⟨by (with_reducible repeat (first | apply Kd.R_alloc | apply Kd.R_drewN | apply Kd.R_drew)); exact Kd.R_mono HO253.out (fun _ hk => trivial)⟩, ⟨by repeat (first | (with_reducible first | exact HB.out | apply below_alloc | apply pw_below_drewN | apply below_drew1) | exact HB.out)⟩⟩
                  ·rw [if_neg c34] at H
                   exact absurd H (by simp)
                 ·rw [if_neg c33] at H
                  exact absurd H (by simp)
                ·rw [if_neg c32] at H
                 exact absurd H (by simp)
               ·rw [if_neg c31] at H
                exact absurd H (by simp)
              ·rw [if_neg c30] at H
               exact absurd H (by simp)
             ·rw [if_neg c29] at H
              exact absurd H (by simp)
      ·replace c6 := Bool.eq_false_iff.mpr c6
       subst c6
       have H1 : (some (([] : List (S33)), 8)) = some (r1, r2) := by rw [if_neg (show ¬ (false = true) by decide)] at H; exact H
       clear H
       have H := H1
       clear H1
       simp only [Option.some.injEq, Prod.mk.injEq] at H
       obtain ⟨rfl, rfl⟩ := H
       have p219 : 0 ≤ (x5_1 : Int) := of_decide_eq_true (by first | (with_reducible assumption) | assumption)
       have q219 : x5_1 < (l0.length : Int) := of_decide_eq_true (by first | (with_reducible assumption) | assumption)
       obtain ⟨ad219, e219, hx219_0, hx219_1⟩ := at_T33 HR0.out x5_1 p219 q219
       cases e219
       (try replace hx219_0 := (HB.out.cell (World.block_lt_of_cell? w _ hx219_0)).trans hx219_0)
       (try replace hx219_1 := (HB.out.cell (World.block_lt_of_cell? w _ hx219_1)).trans hx219_1)
       replace p219 := eq_true p219
       replace q219 := eq_true q219
       go_wp2_with (first | (go_at_call 13; (with_reducible refine (intervalmonref05_Name.calls k1 ((rd_T33 l0 x5_1).f0) false _ A5.out).mono ?_); rintro e w' ⟨rfl, ⟨nd, rfl⟩⟩; (try first | exact ⟨rfl, _, World.drewN_drewN _ _ _⟩ | exact ⟨rfl, _, Eq.trans (World.drewN_drewN _ _ _) (congrArg (World.drewN _) (Nat.add_assoc _ _ _))⟩)))
       repeat (go_quiet (first | (go_at_call 13; (with_reducible refine (intervalmonref05_Name.calls k1 ((rd_T33 l0 x5_1).f0) false _ A5.out).mono ?_); rintro e w' ⟨rfl, ⟨nd, rfl⟩⟩; (try first | exact ⟨rfl, _, World.drewN_drewN _ _ _⟩ | exact ⟨rfl, _, Eq.trans (World.drewN_drewN _ _ _) (congrArg (World.drewN _) (Nat.add_assoc _ _ _))⟩))); try go_wp2_with (first | (go_at_call 13; (with_reducible refine (intervalmonref05_Name.calls k1 ((rd_T33 l0 x5_1).f0) false _ A5.out).mono ?_); rintro e w' ⟨rfl, ⟨nd, rfl⟩⟩; (try first | exact ⟨rfl, _, World.drewN_drewN _ _ _⟩ | exact ⟨rfl, _, Eq.trans (World.drewN_drewN _ _ _) (congrArg (World.drewN _) (Nat.add_assoc _ _ _))⟩))))
       go_ret2
       exact ⟨_, by first | rfl | (simp [errW_none, errW_some] <;> rfl) | (simp [*, errW_none, errW_some] <;> rfl), by first | exact Kd.R_nil _ _ _ _ _ | exact Kd.N_nil _ _ _ _ _ | exact Kd.V_nil _ _ _ _ _ | exact Kd.Q_nil _ _ _ _ _ | exact Kd.S_nil _ _ _ _ _, by repeat (first | (with_reducible first | exact HB.out | apply below_alloc | apply pw_below_drewN | apply below_drew1) | exact HB.out)⟩
     ·rw [if_neg c4] at H
      exact absurd H (by simp)
    ·rw [if_neg c3] at H
     have c3b0 : decide (x5_1 < (l0.length : Int)) = false := decide_eq_false c3
     clear c3
     simp only [Option.some.injEq, Prod.mk.injEq] at H
     obtain ⟨rfl, rfl⟩ := H
     go_wp2
     repeat (go_quiet (fail); try go_wp2)
     go_ret2
     exact ⟨_, by first | rfl | (simp [errW_none, errW_some] <;> rfl) | (simp [*, errW_none, errW_some] <;> rfl), by (with_reducible repeat (first | apply Kd.R_alloc | apply Kd.R_drewN | apply Kd.R_drew)); exact HO_4.out, by repeat (first | (with_reducible first | exact HB.out | apply below_alloc | apply pw_below_drewN | apply below_drew1) | exact HB.out)⟩

/-! ### intervalmonref05_Same: function 26 -/
def intervalmonref05_Same.l0 : Nat → List (S33) → List (S33) → Int → Option (Bool)
 | 0, _, _, _ => none
 | k + 1, x0, x1, x5 => if x5 < (x0.length : Int) then (if 0 ≤ x5 then (if x5 < (x1.length : Int) then (if (!((((rd_T33 x0 x5).f0).toList) == (((rd_T33 x1 x5).f0).toList)) || (!((((rd_T33 x0 x5).f1).toList) == (((rd_T33 x1 x5).f1).toList)))) = true then (some false) else (intervalmonref05_Same.l0 k x0 x1 (wrap64 (x5 + 1)))) else (none)) else (none)) else (some true)
def intervalmonref05_Same.f (k : Nat) (l0 : List (S33)) (l1 : List (S33)) : Option (Bool) := if (l0.length : Int) = (l1.length : Int) then (intervalmonref05_Same.l0 k l0 l1 0) else (some false)
theorem intervalmonref05_Same.mono_l : ∀ k, (∀ y0 y1 y2, LeO (intervalmonref05_Same.l0 k y0 y1 y2) (intervalmonref05_Same.l0 (k + 1) y0 y1 y2))
 | 0 => fun _ _ _ r h => by simp [intervalmonref05_Same.l0] at h
 | k + 1 => by
  have ih0 := intervalmonref05_Same.mono_l k
  ·intro y0 y1 y2
   unfold intervalmonref05_Same.l0
   repeat' first
   | (with_reducible exact ih0 _ _ _)
   | (with_reducible exact LeO.refl _)
   | (with_reducible exact LeO.none _)
   | (with_reducible refine LeO.ite ?_ ?_)
   | (with_reducible refine LeO.bind ?_ (fun _ => ?_))
   | exact ih0 _ _ _
   | exact LeO.none _
   | refine LeO.ite ?_ ?_
   | refine LeO.bind ?_ (fun _ => ?_)
theorem intervalmonref05_Same.mono : ∀ a0 a1 k, LeO (intervalmonref05_Same.f k a0 a1) (intervalmonref05_Same.f (k + 1) a0 a1) := by
 intro a0 a1 k
 have ih0 := intervalmonref05_Same.mono_l k
 unfold intervalmonref05_Same.f
 repeat' first
   | (with_reducible exact ih0 _ _ _)
   | (with_reducible exact LeO.refl _)
   | (with_reducible exact LeO.none _)
   | (with_reducible refine LeO.ite ?_ ?_)
   | (with_reducible refine LeO.bind ?_ (fun _ => ?_))
   | exact ih0 _ _ _
   | exact LeO.none _
   | refine LeO.ite ?_ ?_
   | refine LeO.bind ?_ (fun _ => ?_)
set_option maxHeartbeats 8000000 in
set_option maxRecDepth 100000 in
theorem intervalmonref05_Same.calls (k : Nat) (A0 : Option Addr) (c0 : Nat) (l0 : List (S33)) (A1 : Option Addr) (c1 : Nat) (l1 : List (S33)) (r : Bool) (w : World) (hr0 : Kd.C k33 w A0 l0.length l0) (hc0 : l0.length ≤ c0) (hr1 : Kd.C k33 w A1 l1.length l1) (hc1 : l1.length ≤ c1) (h : intervalmonref05_Same.f k l0 l1 = some r) :
  Calls Try.prog 26 #[.slice A0 l0.length c0, .slice A1 l1.length c1] w fun e w' => e = .returned (.bool r) ∧ Drawn0 w w' := by
 have hu33 := Try.underlying33
 have HR0 := Aside0.mk hr0
 have HC0 := Aside0.mk hc0
 clear hr0 hc0
 have HR1 := Aside0.mk hr1
 have HC1 := Aside0.mk hc1
 clear hr1 hc1
 have H : (if (l0.length : Int) = (l1.length : Int) then (intervalmonref05_Same.l0 k l0 l1 0) else (some false)) = some r := h
 clear h
 by_cases c3 : (l0.length : Int) = (l1.length : Int)
 ·rw [if_pos c3] at H
  have c3b0 : ((l0.length : Int) == (l1.length : Int)) = true := beq_iff_eq.mpr c3
  have c3b1 : ((l0.length : Int) != (l1.length : Int)) = false := bne_eq_false_iff_eq.mpr c3
  have c3b2 : (l0.length == l1.length) = true := by first | simpa using c3 | (simp at c3 ⊢; omega)
  clear c3
  have H' := Aside0.mk H
  clear H
  go_enter Try.func26, Try.ntmps26
  go_wp2
  repeat (go_quiet (fail); try go_wp2)
  go_loopg [5] k (fun kq v5 w' => ∃ (x5_1 : Int), v5 = .int .i64 x5_1 ∧ Aside0 (intervalmonref05_Same.l0 kq l0 l1 x5_1 = some r) ∧ Aside0 (kq ≤ k) ∧ Drawn0 w w')
  case atStart => exact ⟨(0), (by first | rfl | (simp; done) | (simp [*]; done)), H', ⟨Nat.le_refl _⟩, by repeat (first | exact Drawn0.refl _ | apply Drawn0.step)⟩
  case round =>
   clear H'
   try clear c1
   try clear c2
   try clear p2
   try clear c3
   try clear c3b0
   try clear c3b1
   try clear c3b2
   obtain ⟨x5_1, rfl, HA, HK1, ⟨m1, rfl⟩⟩ := hrel
   cases gk with
   | zero => exact absurd HA.out (by simp [intervalmonref05_Same.l0])
   | succ k1 =>
    have H := HA.out
    clear HA
    simp only [intervalmonref05_Same.l0] at H
    by_cases c4 : x5_1 < (l0.length : Int)
    ·rw [if_pos c4] at H
     have c4b0 : decide (x5_1 < (l0.length : Int)) = true := decide_eq_true c4
     clear c4
     by_cases c5 : 0 ≤ x5_1
     ·rw [if_pos c5] at H
      have c5b0 : decide (0 ≤ x5_1) = true := decide_eq_true c5
      clear c5
      by_cases c6 : x5_1 < (l1.length : Int)
      ·rw [if_pos c6] at H
       have c6b0 : decide (x5_1 < (l1.length : Int)) = true := decide_eq_true c6
       clear c6
       by_cases c7 : (!((((rd_T33 l0 x5_1).f0).toList) == (((rd_T33 l1 x5_1).f0).toList)) || (!((((rd_T33 l0 x5_1).f1).toList) == (((rd_T33 l1 x5_1).f1).toList)))) = true
       ·rw [if_pos c7] at H
        have c7b0 : (!((((rd_T33 l0 x5_1).f0).toList) == (((rd_T33 l1 x5_1).f0).toList)) || (!((((rd_T33 l0 x5_1).f1).toList) == (((rd_T33 l1 x5_1).f1).toList)))) = true := c7
        clear c7
        obtain rfl := Option.some.inj H
        have p254 : 0 ≤ (x5_1 : Int) := of_decide_eq_true (by first | (with_reducible assumption) | assumption)
        have q254 : x5_1 < (l0.length : Int) := of_decide_eq_true (by first | (with_reducible assumption) | assumption)
        obtain ⟨ad254, e254, hx254_0, hx254_1⟩ := at_T33 HR0.out x5_1 p254 q254
        cases e254
        replace p254 := eq_true p254
        replace q254 := eq_true q254
        have p255 : 0 ≤ (x5_1 : Int) := of_decide_eq_true (by first | (with_reducible assumption) | assumption)
        have q255 : x5_1 < (l1.length : Int) := of_decide_eq_true (by first | (with_reducible assumption) | assumption)
        obtain ⟨ad255, e255, hx255_0, hx255_1⟩ := at_T33 HR1.out x5_1 p255 q255
        cases e255
        replace p255 := eq_true p255
        replace q255 := eq_true q255
        go_wp2
        repeat (go_quiet (fail); try go_wp2)
        go_ret
        exact ⟨by first | rfl | (simp; done) | (simp [*]; done), by repeat (first | exact Drawn0.refl _ | apply Drawn0.step)⟩
       ·rw [if_neg c7] at H
        have c7b0 : (!((((rd_T33 l0 x5_1).f0).toList) == (((rd_T33 l1 x5_1).f0).toList)) || (!((((rd_T33 l0 x5_1).f1).toList) == (((rd_T33 l1 x5_1).f1).toList)))) = false := by simpa using c7
        clear c7
        have H' := Aside0.mk H
        clear H
        have p254 : 0 ≤ (x5_1 : Int) := of_decide_eq_true (by first | (with_reducible assumption) | assumption)
        have q254 : x5_1 < (l0.length : Int) := of_decide_eq_true (by first | (with_reducible assumption) | assumption)
        obtain ⟨ad254, e254, hx254_0, hx254_1⟩ := at_T33 HR0.out x5_1 p254 q254
        cases e254
        replace p254 := eq_true p254
        replace q254 := eq_true q254
        have p255 : 0 ≤ (x5_1 : Int) := of_decide_eq_true (by first | (with_reducible assumption) | assumption)
        have q255 : x5_1 < (l1.length : Int) := of_decide_eq_true (by first | (with_reducible assumption) | assumption)
        obtain ⟨ad255, e255, hx255_0, hx255_1⟩ := at_T33 HR1.out x5_1 p255 q255
        cases e255
        replace p255 := eq_true p255
        replace q255 := eq_true q255
        go_wp2
        repeat (go_quiet (fail); try go_wp2)
        go_roundg k1
        case measure => have := HK1.out; omega
        case rel => exact ⟨(wrap64 (x5_1 + 1)), (by first | rfl | (simp; done) | (simp [*]; done)), H', ⟨by have := HK1.out; omega⟩, by repeat (first | exact Drawn0.refl _ | apply Drawn0.step)⟩
      ·rw [if_neg c6] at H
       exact absurd H (by simp)
     ·rw [if_neg c5] at H
      exact absurd H (by simp)
    ·rw [if_neg c4] at H
     have c4b0 : decide (x5_1 < (l0.length : Int)) = false := decide_eq_false c4
     clear c4
     obtain rfl := Option.some.inj H
     go_wp2
     repeat (go_quiet (fail); try go_wp2)
     go_ret
     exact ⟨by first | rfl | (simp; done) | (simp [*]; done), by repeat (first | exact Drawn0.refl _ | apply Drawn0.step)⟩
 ·rw [if_neg c3] at H
  have c3b0 : ((l0.length : Int) == (l1.length : Int)) = false := beq_eq_false_iff_ne.mpr c3
  have c3b1 : ((l0.length : Int) != (l1.length : Int)) = true := bne_iff_ne.mpr c3
  have c3b2 : (l0.length == l1.length) = false := by first | simpa using c3 | (simp at c3 ⊢; omega)
  obtain rfl := Option.some.inj H
  go_enter Try.func26, Try.ntmps26
  go_wp2
  repeat (go_quiet (fail); try go_wp2)
  go_ret
  exact ⟨by first | rfl | (simp; done) | (simp [*]; done), by repeat (first | exact Drawn0.refl _ | apply Drawn0.step)⟩

end Go.Proofs.Ytlohkfmobeapdaa.P
