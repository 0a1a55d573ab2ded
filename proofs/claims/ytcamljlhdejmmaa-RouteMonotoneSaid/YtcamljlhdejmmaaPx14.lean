-- Written by this session's own copy of a printing program (wip/tools); Lean checks it.
import Derived.Test.YtcamljlhdejmmaaPx0
import Derived.Test.YtcamljlhdejmmaaPx6
import Derived.Test.YtcamljlhdejmmaaPx7
namespace Go.Proofs.Ytcamljlhdejmmaa.P
open Go.RowKit Go.Proofs.YtcamljlhdejmmaaW.PrintWords Go.Proofs.YtcamljlhdejmmaaW.PrintLast Go.Proofs.YtcamljlhdejmmaaW.PrintMore
attribute [local go_sem] max2_int min2_int max_two min_two max_three min_three max_four min_four   -- for this text's walks alone
set_option linter.unusedVariables false
set_option linter.unusedSimpArgs false

/-! ### intervalmonref29_Inhibited: function 21 -/
mutual
def intervalmonref29_Inhibited.j0 : Nat → List Bool → Bool → Int → List (S27) → Option (List Bool)
 | 0, _, _, _, _ => none
 | k + 1, x1, x18, x297000, x297001 => if x18 = true then (some ([] : List Bool)) else (if 0 ≤ x297000 then (if (x297000 : Int).toNat ≤ 281474976710656 then (intervalmonref29_Inhibited.l0 k x1 (List.replicate (x297000 : Int).toNat false) 0 x297000 x297001) else (none)) else (none))
def intervalmonref29_Inhibited.l0 : Nat → List Bool → List Bool → Int → Int → List (S27) → Option (List Bool)
 | 0, _, _, _, _, _ => none
 | k + 1, x1, x5, x6, x297000, x297001 => if x6 < x297000 then (if 0 ≤ x6 then (if x6 < (x1.length : Int) then (if rdOf false x1 x6 = true then ((intervalmonref29_Reached.f k x297000 x297001 x6).bind fun t302 => (intervalmonref29_Inhibited.l1 k x1 x5 x6 t302 0 x297000 x297001)) else (intervalmonref29_Inhibited.l0 k x1 x5 (wrap64 (x6 + 1)) x297000 x297001)) else (none)) else (none)) else (some x5)
def intervalmonref29_Inhibited.l1 : Nat → List Bool → List Bool → Int → List Bool → Int → Int → List (S27) → Option (List Bool)
 | 0, _, _, _, _, _, _, _ => none
 | k + 1, x1, x5, x6, x7, x8, x297000, x297001 => if x8 < x297000 then (if 0 ≤ x8 then (if x8 < (x5.length : Int) then (if rdOf false x5 x8 = true then (intervalmonref29_Inhibited.l1 k x1 (x5.set (x8 : Int).toNat true) x6 x7 (wrap64 (x8 + 1)) x297000 x297001) else (if x8 < (x7.length : Int) then (if rdOf false x7 x8 = true then (if x8 < (x1.length : Int) then (intervalmonref29_Inhibited.l1 k x1 (x5.set (x8 : Int).toNat (rdOf false x1 x8)) x6 x7 (wrap64 (x8 + 1)) x297000 x297001) else (none)) else (intervalmonref29_Inhibited.l1 k x1 (x5.set (x8 : Int).toNat false) x6 x7 (wrap64 (x8 + 1)) x297000 x297001)) else (none))) else (none)) else (none)) else (intervalmonref29_Inhibited.l0 k x1 x5 (wrap64 (x6 + 1)) x297000 x297001)
end
def intervalmonref29_Inhibited.f (k : Nat) (a0_0 : Int) (l0_1 : List (S27)) (l1 : List Bool) : Option (List Bool) := (intervalmonref29_Valid.f k a0_0 l0_1).bind fun t297 => (if t297 = 0 then (intervalmonref29_Inhibited.j0 k l1 ((l1.length : Int) != a0_0) a0_0 l0_1) else (intervalmonref29_Inhibited.j0 k l1 true a0_0 l0_1))
theorem intervalmonref29_Inhibited.mono_l : ∀ k, (∀ y0 y1 y2 y3, LeO (intervalmonref29_Inhibited.j0 k y0 y1 y2 y3) (intervalmonref29_Inhibited.j0 (k + 1) y0 y1 y2 y3)) ∧ (∀ y0 y1 y2 y3 y4, LeO (intervalmonref29_Inhibited.l0 k y0 y1 y2 y3 y4) (intervalmonref29_Inhibited.l0 (k + 1) y0 y1 y2 y3 y4)) ∧ (∀ y0 y1 y2 y3 y4 y5 y6, LeO (intervalmonref29_Inhibited.l1 k y0 y1 y2 y3 y4 y5 y6) (intervalmonref29_Inhibited.l1 (k + 1) y0 y1 y2 y3 y4 y5 y6))
 | 0 => ⟨fun _ _ _ _ r h => by simp [intervalmonref29_Inhibited.j0] at h, fun _ _ _ _ _ r h => by simp [intervalmonref29_Inhibited.l0] at h, fun _ _ _ _ _ _ _ r h => by simp [intervalmonref29_Inhibited.l1] at h⟩
 | k + 1 => by
  obtain ⟨ih0, ih1, ih2⟩ := intervalmonref29_Inhibited.mono_l k
  refine ⟨?_, ?_, ?_⟩
  ·intro y0 y1 y2 y3
   unfold intervalmonref29_Inhibited.j0
   repeat' first
   | (with_reducible exact ih0 _ _ _ _)
   | (with_reducible exact ih1 _ _ _ _ _)
   | (with_reducible exact ih2 _ _ _ _ _ _ _)
   | (with_reducible exact intervalmonref29_Reached.mono _ _ _ _)
   | (with_reducible exact intervalmonref29_Valid.mono _ _ _)
   | (with_reducible exact LeO.refl _)
   | (with_reducible exact LeO.none _)
   | (with_reducible refine LeO.ite ?_ ?_)
   | (with_reducible refine LeO.bind ?_ (fun _ => ?_))
   | exact ih0 _ _ _ _
   | exact ih1 _ _ _ _ _
   | exact ih2 _ _ _ _ _ _ _
   | exact intervalmonref29_Reached.mono _ _ _ _
   | exact intervalmonref29_Valid.mono _ _ _
   | exact LeO.none _
   | refine LeO.ite ?_ ?_
   | refine LeO.bind ?_ (fun _ => ?_)
  ·intro y0 y1 y2 y3 y4
   unfold intervalmonref29_Inhibited.l0
   repeat' first
   | (with_reducible exact ih0 _ _ _ _)
   | (with_reducible exact ih1 _ _ _ _ _)
   | (with_reducible exact ih2 _ _ _ _ _ _ _)
   | (with_reducible exact intervalmonref29_Reached.mono _ _ _ _)
   | (with_reducible exact intervalmonref29_Valid.mono _ _ _)
   | (with_reducible exact LeO.refl _)
   | (with_reducible exact LeO.none _)
   | (with_reducible refine LeO.ite ?_ ?_)
   | (with_reducible refine LeO.bind ?_ (fun _ => ?_))
   | exact ih0 _ _ _ _
   | exact ih1 _ _ _ _ _
   | exact ih2 _ _ _ _ _ _ _
   | exact intervalmonref29_Reached.mono _ _ _ _
   | exact intervalmonref29_Valid.mono _ _ _
   | exact LeO.none _
   | refine LeO.ite ?_ ?_
   | refine LeO.bind ?_ (fun _ => ?_)
  ·intro y0 y1 y2 y3 y4 y5 y6
   unfold intervalmonref29_Inhibited.l1
   repeat' first
   | (with_reducible exact ih0 _ _ _ _)
   | (with_reducible exact ih1 _ _ _ _ _)
   | (with_reducible exact ih2 _ _ _ _ _ _ _)
   | (with_reducible exact intervalmonref29_Reached.mono _ _ _ _)
   | (with_reducible exact intervalmonref29_Valid.mono _ _ _)
   | (with_reducible exact LeO.refl _)
   | (with_reducible exact LeO.none _)
   | (with_reducible refine LeO.ite ?_ ?_)
   | (with_reducible refine LeO.bind ?_ (fun _ => ?_))
   | exact ih0 _ _ _ _
   | exact ih1 _ _ _ _ _
   | exact ih2 _ _ _ _ _ _ _
   | exact intervalmonref29_Reached.mono _ _ _ _
   | exact intervalmonref29_Valid.mono _ _ _
   | exact LeO.none _
   | refine LeO.ite ?_ ?_
   | refine LeO.bind ?_ (fun _ => ?_)
theorem intervalmonref29_Inhibited.mono : ∀ a0 a1 a2 k, LeO (intervalmonref29_Inhibited.f k a0 a1 a2) (intervalmonref29_Inhibited.f (k + 1) a0 a1 a2) := by
 intro a0 a1 a2 k
 obtain ⟨ih0, ih1, ih2⟩ := intervalmonref29_Inhibited.mono_l k
 unfold intervalmonref29_Inhibited.f
 repeat' first
   | (with_reducible exact ih0 _ _ _ _)
   | (with_reducible exact ih1 _ _ _ _ _)
   | (with_reducible exact ih2 _ _ _ _ _ _ _)
   | (with_reducible exact intervalmonref29_Reached.mono _ _ _ _)
   | (with_reducible exact intervalmonref29_Valid.mono _ _ _)
   | (with_reducible exact LeO.refl _)
   | (with_reducible exact LeO.none _)
   | (with_reducible refine LeO.ite ?_ ?_)
   | (with_reducible refine LeO.bind ?_ (fun _ => ?_))
   | exact ih0 _ _ _ _
   | exact ih1 _ _ _ _ _
   | exact ih2 _ _ _ _ _ _ _
   | exact intervalmonref29_Reached.mono _ _ _ _
   | exact intervalmonref29_Valid.mono _ _ _
   | exact LeO.none _
   | refine LeO.ite ?_ ?_
   | refine LeO.bind ?_ (fun _ => ?_)
set_option maxHeartbeats 8000000 in
set_option maxRecDepth 100000 in
theorem intervalmonref29_Inhibited.calls (k : Nat) (a0_0 : Int) (A0_1 : Option Addr) (c0_1 : Nat) (l0_1 : List (S27)) (A1 : Option Addr) (c1 : Nat) (l1 : List Bool) (r : List Bool) (w : World) (hr0_1 : Kd.C k27 w A0_1 l0_1.length l0_1) (hc0_1 : l0_1.length ≤ c0_1) (hr1 : Kd.C Kd.bool w A1 l1.length l1) (hc1 : l1.length ≤ c1) (h : intervalmonref29_Inhibited.f k a0_0 l0_1 l1 = some r) :
  Calls Try.prog 21 #[.agg #[.int .i64 a0_0, .slice A0_1 l0_1.length c0_1], .slice A1 l1.length c1] w fun e w' => ∃ v0_ : Value, e = .returned (v0_) ∧ Kd.R Kd.bool 4 w' w.heap.size (fun _ => True) v0_ r ∧ Below w.heap.size w w' := by
 have hu25 := Try.underlying25
 have HR0_1 := Aside0.mk hr0_1
 have HC0_1 := Aside0.mk hc0_1
 clear hr0_1 hc0_1
 have HR1 := Aside0.mk hr1
 have HC1 := Aside0.mk hc1
 clear hr1 hc1
 have HB := Aside0.mk (Below.refl w.heap.size w)
 have H : ((intervalmonref29_Valid.f k a0_0 l0_1).bind fun t297 => (if t297 = 0 then (intervalmonref29_Inhibited.j0 k l1 ((l1.length : Int) != a0_0) a0_0 l0_1) else (intervalmonref29_Inhibited.j0 k l1 true a0_0 l0_1))) = some r := h
 clear h
 have HC3 := Aside0.mk H
 clear H
 go_enter Try.func21, Try.ntmps21
 go_upto_region 1 with (first | ((with_reducible refine gate_dst (N := 2) rfl ?_); (try (refine gate_guard (by rfl) ?_; dsimp only)); refine box_event ?hg (N := 2) ?hd (cs := #[.int .i64 a0_0, .slice A0_1 l0_1.length c0_1]) (t := 25) ?hr ?_; (case hd => rfl); (case hg => rfl); (case hr => first | (go_simp; done) | (go_simp; rfl)); intro gb296 hg w4 hbox hb; have n0_ := Aside0.mk (below_step (hq HB) hb); have n1_ := Aside0.mk (hbox); have n2_ := Aside0.mk ((by rw [hg]; exact (below_size (hq HB)) : w.heap.size ≤ gb296)); have n3_ := Aside0.mk ((by rw [hg]; exact (below_size (hq HB)) : w.heap.size ≤ gb296)); clear HB; have HB := n0_; have BK296 := n1_; have GW296 := n2_; have GE296 := n3_; clear n0_ n1_ n2_ n3_; clear hb hbox hg))
 (try simp only [Act.put, List.setIfInBounds_toArray, List.set_cons_zero, List.set_cons_succ])
 go_cut [18] (fun v18 wc => ∃ (kq : Nat) (x18_2 : Bool), v18 = .bool x18_2 ∧ Aside0 (intervalmonref29_Inhibited.j0 kq l1 x18_2 a0_0 l0_1 = some r) ∧ Aside0 (kq ≤ k) ∧ Aside0 (wc.heap[gb296]? = some (.cells #[.int .i64 a0_0, (.slice A0_1 l0_1.length c0_1)] 25 (0, 0))) ∧ Aside0 (Below w.heap.size w wc))
 case first =>
  have H := HC3.out
  clear HC3
  replace H := Option.bind_eq_some_iff.mp H
  obtain ⟨t297, A50, H⟩ := H
  replace H : (if t297 = 0 then (intervalmonref29_Inhibited.j0 k l1 ((l1.length : Int) != a0_0) a0_0 l0_1) else (intervalmonref29_Inhibited.j0 k l1 true a0_0 l0_1)) = some r := H
  have A5 := Aside0.mk A50
  clear A50
  by_cases c6 : t297 = 0
  ·rw [if_pos c6] at H
   have c6b0 : (t297 == 0) = true := beq_iff_eq.mpr c6
   have c6b1 : (t297 != 0) = false := bne_eq_false_iff_eq.mpr c6
   clear c6
   (first | rw [c6b0] | (simp only [i64_w, i32_w]; rw [c6b0]) | skip)
   have H' := Aside0.mk H
   clear H
   have hcz7_0 : w4.cell? ⟨gb296, 0, none⟩ = some (.int .i64 a0_0) := (blk_cell BK296.out 0).trans rfl
   have hcz7_1 : w4.cell? ⟨gb296, 1, none⟩ = some (.slice A0_1 l0_1.length c0_1) := (blk_cell BK296.out 1).trans rfl
   have hfz7_0 := blk_frozen BK296.out 0
   have hfz7_1 := blk_frozen BK296.out 1
   go_wp2_with (first | ((with_reducible refine gate_callee (f := 16) rfl ?_); refine goesL_ (some 10) rfl rfl Try.func16 (by kernel_rfl) rfl #[.agg #[.int .i64 a0_0, .slice A0_1 l0_1.length c0_1]] rfl aq ?_; (with_reducible refine (intervalmonref29_Valid.calls k a0_0 _ _ l0_1 t297 _ ?side1 ?side2 A5.out).mono ?_); (case side1 => repeat (first | exact (Kd.C_below HR0_1.out HB.out) | (with_reducible refine Kd.C_alloc ?_ _) | (with_reducible refine Kd.C_drewN ?_ _) | (with_reducible refine Kd.C_drew ?_))); (case side2 => exact HC0_1.out); rintro e w8 ⟨rfl, hb⟩; refine ⟨_, rfl, ?_⟩; have n0_ := Aside0.mk (blk_below (g := gb296) (o := .cells #[.int .i64 a0_0, .slice A0_1 l0_1.length c0_1] 25 (0, 0)) (bq BK296) hb); have n1_ := Aside0.mk (below_step (hq HB) hb); clear BK296; clear HB; have BK296 := n0_; have HB := n1_; clear n0_ n1_; (try clear hb); (try clear hb2); (try clear hk); (try clear hi); have hcz9_0 : w8.cell? ⟨gb296, 0, none⟩ = some (.int .i64 a0_0) := (blk_cell BK296.out 0).trans rfl; have hcz9_1 : w8.cell? ⟨gb296, 1, none⟩ = some (.slice A0_1 l0_1.length c0_1) := (blk_cell BK296.out 1).trans rfl; have hfz9_0 := blk_frozen BK296.out 0; have hfz9_1 := blk_frozen BK296.out 1))
   go_meet
   case rel => exact ⟨_, (((l1.length : Int) != a0_0)), (by first | rfl | (simp; done) | (simp [*]; done)), H', ⟨by first | omega | exact Nat.le_refl _⟩, ⟨by (with_reducible repeat (first | refine blk_drewN ?_ _ | refine blk_drew ?_ | refine blk_alloc ?_ _)); exact BK296.out⟩, ⟨by repeat (first | (with_reducible first | exact HB.out | apply below_alloc | apply pw_below_drewN | apply below_drew1 | refine below_set ?_ GE296.out) | exact HB.out)⟩⟩
  ·rw [if_neg c6] at H
   have c6b0 : (t297 == 0) = false := beq_eq_false_iff_ne.mpr c6
   have c6b1 : (t297 != 0) = true := bne_iff_ne.mpr c6
   (first | rw [c6b0] | (simp only [i64_w, i32_w]; rw [c6b0]) | skip)
   have H' := Aside0.mk H
   clear H
   have hcz10_0 : w4.cell? ⟨gb296, 0, none⟩ = some (.int .i64 a0_0) := (blk_cell BK296.out 0).trans rfl
   have hcz10_1 : w4.cell? ⟨gb296, 1, none⟩ = some (.slice A0_1 l0_1.length c0_1) := (blk_cell BK296.out 1).trans rfl
   have hfz10_0 := blk_frozen BK296.out 0
   have hfz10_1 := blk_frozen BK296.out 1
   go_wp2_with (first | ((with_reducible refine gate_callee (f := 16) rfl ?_); refine goesL_ (some 10) rfl rfl Try.func16 (by kernel_rfl) rfl #[.agg #[.int .i64 a0_0, .slice A0_1 l0_1.length c0_1]] rfl aq ?_; (with_reducible refine (intervalmonref29_Valid.calls k a0_0 _ _ l0_1 t297 _ ?side1 ?side2 A5.out).mono ?_); (case side1 => repeat (first | exact (Kd.C_below HR0_1.out HB.out) | (with_reducible refine Kd.C_alloc ?_ _) | (with_reducible refine Kd.C_drewN ?_ _) | (with_reducible refine Kd.C_drew ?_))); (case side2 => exact HC0_1.out); rintro e w11 ⟨rfl, hb⟩; refine ⟨_, rfl, ?_⟩; have n0_ := Aside0.mk (blk_below (g := gb296) (o := .cells #[.int .i64 a0_0, .slice A0_1 l0_1.length c0_1] 25 (0, 0)) (bq BK296) hb); have n1_ := Aside0.mk (below_step (hq HB) hb); clear BK296; clear HB; have BK296 := n0_; have HB := n1_; clear n0_ n1_; (try clear hb); (try clear hb2); (try clear hk); (try clear hi)))
   go_meet
   case rel => exact ⟨_, (true), (by first | rfl | (simp; done) | (simp [*]; done)), H', ⟨by first | omega | exact Nat.le_refl _⟩, ⟨by (with_reducible repeat (first | refine blk_drewN ?_ _ | refine blk_drew ?_ | refine blk_alloc ?_ _)); exact BK296.out⟩, ⟨by repeat (first | (with_reducible first | exact HB.out | apply below_alloc | apply pw_below_drewN | apply below_drew1 | refine below_set ?_ GE296.out) | exact HB.out)⟩⟩
 case rest =>
  clear HC3
  try clear c1
  try clear c2
  try clear p2
  try clear c6
  try clear c6b0
  try clear c6b1
  try clear hcz10_0
  try clear hcz10_1
  try clear hcz7_0
  try clear hcz7_1
  try clear hcz9_0
  try clear hcz9_1
  try clear hfz10_0
  try clear hfz10_1
  try clear hfz7_0
  try clear hfz7_1
  try clear hfz9_0
  try clear hfz9_1
  obtain ⟨kq, x18_2, rfl, HA, HJ2, BK296, HB⟩ := hcut
  cases kq with
  | zero => exact absurd HA.out (by simp [intervalmonref29_Inhibited.j0])
  | succ kj2 =>
   have H := HA.out
   clear HA
   simp only [intervalmonref29_Inhibited.j0] at H
   by_cases c12 : x18_2 = true
   ·subst c12
    have H1 : (some ([] : List Bool)) = some r := by rw [if_pos rfl] at H; exact H
    clear H
    have H := H1
    clear H1
    obtain rfl := Option.some.inj H
    go_wp2
    go_ret
    exact ⟨_, by first | rfl | (simp [errW_none, errW_some] <;> rfl) | (simp [*, errW_none, errW_some] <;> rfl), by first | exact Kd.R_nil _ _ _ _ _ | exact Kd.N_nil _ _ _ _ _ | exact Kd.V_nil _ _ _ _ _ | exact Kd.Q_nil _ _ _ _ _ | exact Kd.S_nil _ _ _ _ _, by repeat (first | (with_reducible first | exact HB.out | apply below_alloc | apply pw_below_drewN | apply below_drew1 | refine below_set ?_ GE296.out) | exact HB.out)⟩
   ·replace c12 := Bool.eq_false_iff.mpr c12
    subst c12
    have H1 : (if 0 ≤ a0_0 then (if (a0_0 : Int).toNat ≤ 281474976710656 then (intervalmonref29_Inhibited.l0 kj2 l1 (List.replicate (a0_0 : Int).toNat false) 0 a0_0 l0_1) else (none)) else (none)) = some r := by rw [if_neg (show ¬ (false = true) by decide)] at H; exact H
    clear H
    have H := H1
    clear H1
    by_cases c13 : 0 ≤ a0_0
    ·rw [if_pos c13] at H
     have c13b0 := eq_true c13
     have c13b1 : decide (0 ≤ a0_0) = true := decide_eq_true c13
     clear c13
     by_cases c14 : (a0_0 : Int).toNat ≤ 281474976710656
     ·rw [if_pos c14] at H
      have c14b0 := eq_true c14
      have c14b1 : decide ((a0_0 : Int).toNat ≤ 281474976710656) = true := decide_eq_true c14
      clear c14
      obtain ⟨y298, hy298⟩ : ∃ y_ : List Bool, y_ = (List.replicate (a0_0 : Int).toNat false) := ⟨_, rfl⟩
      replace H : (intervalmonref29_Inhibited.l0 kj2 l1 y298 0 a0_0 l0_1) = some r := by first | (rw [hy298]; with_reducible exact H) | (have H2_ := (Option.bind_some _ _).symm.trans H; rw [hy298]; with_reducible exact H2_) | (have H2_ := (Option.bind_some _ _).symm.trans H; with_reducible exact H2_) | with_reducible exact H | (rw [hy298]; exact H) | exact H
      have Ny298 := Aside0.mk hy298
      clear hy298
      have H' := Aside0.mk H
      clear H
      have hcz15_0 : wc.cell? ⟨gb296, 0, none⟩ = some (.int .i64 a0_0) := (blk_cell BK296.out 0).trans rfl
      have hcz15_1 : wc.cell? ⟨gb296, 1, none⟩ = some (.slice A0_1 l0_1.length c0_1) := (blk_cell BK296.out 1).trans rfl
      have hfz15_0 := blk_frozen BK296.out 0
      have hfz15_1 := blk_frozen BK296.out 1
      go_wp2_with (first | ((with_reducible refine gate_dst (N := 21) rfl ?_); (try (refine gate_guard (by rfl) ?_; dsimp only)); refine Kd.R_make Kd.bool _ 4 rfl (N := 21) rfl 36 _ _ rfl a0_0 rfl rfl Try.underlying36 (.bool false) 1 info4 rfl (by decide) (by omega) false (ok := fun _ => True) (okp := fun _ => True) rfl (fun _ hk => hk) trivial (of_decide_eq_true (by first | (with_reducible assumption) | assumption)) (Nat.le_trans (Nat.mul_le_mul_right _ (of_decide_eq_true (by first | (with_reducible assumption) | assumption) : a0_0.toNat ≤ 281474976710656)) (by omega)) (Below.refl _ _) (Nat.le_refl _) ?_; intro v299 w16 ho17 hb hg_ hnew_; clear hg_ hnew_; (first | rw [← Ny298.out] at ho17 | (simp only [Int.reduceToNat] at ho17; rw [← Ny298.out] at ho17)); have n0_ := Aside0.mk (Kd.R_lower ho17 (below_size (hq HB))); have n1_ := Aside0.mk (blk_below (g := gb296) (o := .cells #[.int .i64 a0_0, .slice A0_1 l0_1.length c0_1] 25 (0, 0)) (bq BK296) hb); have n2_ := Aside0.mk (below_step (hq HB) hb); clear BK296; clear HB; have HO300 := n0_; have BK296 := n1_; have HB := n2_; clear n0_ n1_ n2_; clear hb ho17))
      go_loopg [6] kj2 (fun kq v6 w' => ∃ (x5_2 : List Bool) (x6_2 : Int), v6 = .int .i64 x6_2 ∧ Aside0 (intervalmonref29_Inhibited.l0 kq l1 x5_2 x6_2 a0_0 l0_1 = some r) ∧ Aside0 (kq ≤ kj2) ∧ Aside0 (Kd.R Kd.bool 4 w' w.heap.size (fun _ => True) v299 x5_2) ∧ Aside0 (w'.heap[gb296]? = some (.cells #[.int .i64 a0_0, (.slice A0_1 l0_1.length c0_1)] 25 (0, 0))) ∧ Aside0 (Below w.heap.size w w'))
      case atStart => exact ⟨(y298), (0), (by first | rfl | (simp; done) | (simp [*]; done)), H', ⟨Nat.le_refl _⟩, ⟨by (with_reducible repeat (first | apply Kd.R_alloc | apply Kd.R_drewN | apply Kd.R_drew)); exact HO300.out⟩, ⟨by (with_reducible repeat (first | refine blk_drewN ?_ _ | refine blk_drew ?_ | refine blk_alloc ?_ _)); exact BK296.out⟩, ⟨by repeat (first | (with_reducible first | exact HB.out | apply below_alloc | apply pw_below_drewN | apply below_drew1 | refine below_set ?_ GE296.out) | exact HB.out)⟩⟩
      case round =>
       clear H'
       try clear c1
       try clear c2
       try clear p2
       try clear c6
       try clear c6b0
       try clear c6b1
       try clear c12
       try clear c13
       try clear c13b0
       try clear c13b1
       try clear c14
       try clear c14b0
       try clear c14b1
       try clear c16
       try clear hcz10_0
       try clear hcz10_1
       try clear hcz15_0
       try clear hcz15_1
       try clear hcz7_0
       try clear hcz7_1
       try clear hcz9_0
       try clear hcz9_1
       try clear hfz10_0
       try clear hfz10_1
       try clear hfz15_0
       try clear hfz15_1
       try clear hfz7_0
       try clear hfz7_1
       try clear hfz9_0
       try clear hfz9_1
       try clear p2
       obtain ⟨x5_2, x6_2, rfl, HA, HK2, HO_5, BK296, HB⟩ := hrel
       cases gk with
       | zero => exact absurd HA.out (by simp [intervalmonref29_Inhibited.l0])
       | succ k2 =>
        have H := HA.out
        clear HA
        simp only [intervalmonref29_Inhibited.l0] at H
        by_cases c18 : x6_2 < a0_0
        ·rw [if_pos c18] at H
         have c18b0 : decide (x6_2 < a0_0) = true := decide_eq_true c18
         clear c18
         by_cases c19 : 0 ≤ x6_2
         ·rw [if_pos c19] at H
          have c19b0 : decide (0 ≤ x6_2) = true := decide_eq_true c19
          clear c19
          by_cases c20 : x6_2 < (l1.length : Int)
          ·rw [if_pos c20] at H
           have c20b0 : decide (x6_2 < (l1.length : Int)) = true := decide_eq_true c20
           clear c20
           obtain ⟨bq21, hbq21⟩ : ∃ b_ : Bool, b_ = (rdOf false l1 x6_2) := ⟨_, rfl⟩
           replace H : (if bq21 = true then ((intervalmonref29_Reached.f k2 a0_0 l0_1 x6_2).bind fun t302 => (intervalmonref29_Inhibited.l1 k2 l1 x5_2 x6_2 t302 0 a0_0 l0_1)) else (intervalmonref29_Inhibited.l0 k2 l1 x5_2 (wrap64 (x6_2 + 1)) a0_0 l0_1)) = some r := by rw [← hbq21] at H; exact H
           have Nbq21 := Aside0.mk hbq21
           clear hbq21
           by_cases c22 : bq21 = true
           ·subst c22
            have H1 : ((intervalmonref29_Reached.f k2 a0_0 l0_1 x6_2).bind fun t302 => (intervalmonref29_Inhibited.l1 k2 l1 x5_2 x6_2 t302 0 a0_0 l0_1)) = some r := by rw [if_pos rfl] at H; exact H
            clear H
            have H := H1
            clear H1
            replace H := Option.bind_eq_some_iff.mp H
            obtain ⟨t302, A230, H⟩ := H
            replace H : (intervalmonref29_Inhibited.l1 k2 l1 x5_2 x6_2 t302 0 a0_0 l0_1) = some r := H
            have A23 := Aside0.mk A230
            clear A230
            have H' := Aside0.mk H
            clear H
            have hcz24_0 : wr.cell? ⟨gb296, 0, none⟩ = some (.int .i64 a0_0) := (blk_cell BK296.out 0).trans rfl
            have hcz24_1 : wr.cell? ⟨gb296, 1, none⟩ = some (.slice A0_1 l0_1.length c0_1) := (blk_cell BK296.out 1).trans rfl
            have hfz24_0 := blk_frozen BK296.out 0
            have hfz24_1 := blk_frozen BK296.out 1
            have p301 : 0 ≤ (x6_2 : Int) := of_decide_eq_true (by first | (with_reducible assumption) | assumption)
            have q301 : x6_2 < (l1.length : Int) := of_decide_eq_true (by first | (with_reducible assumption) | assumption)
            obtain ⟨ad301, e301, hx301_0⟩ := Kd.at_bool HR1.out x6_2 p301 q301
            (try rw [← Nbq21.out] at hx301_0)
            cases e301
            (try replace hx301_0 := (HB.out.cell (World.block_lt_of_cell? w _ hx301_0)).trans hx301_0)
            replace p301 := eq_true p301
            replace q301 := eq_true q301
            go_wp2_with (first | ((with_reducible refine gate_callee (f := 23) rfl ?_); refine goesL_ (some 35) rfl rfl Try.func23 (by kernel_rfl) rfl #[.agg #[.int .i64 a0_0, .slice A0_1 l0_1.length c0_1], .int .i64 x6_2] rfl aq ?_; (with_reducible refine (intervalmonref29_Reached.calls k2 a0_0 _ _ l0_1 x6_2 t302 _ ?side1 ?side2 A23.out).mono ?_); (case side1 => repeat (first | exact (Kd.C_below HR0_1.out HB.out) | (with_reducible refine Kd.C_alloc ?_ _) | (with_reducible refine Kd.C_drewN ?_ _) | (with_reducible refine Kd.C_drew ?_))); (case side2 => exact HC0_1.out); rintro e w25 ⟨v303, rfl, ho0, hb⟩; refine ⟨_, rfl, ?_⟩; have n0_ := Aside0.mk (Kd.R_elder' (rq HO_5) (Kd.R_base ho0) hb); have n1_ := Aside0.mk (Kd.R_lower (Kd.R_new' ho0 (Kd.R_lt (rq HO_5))) (below_size (hq HB))); have n2_ := Aside0.mk (blk_below (g := gb296) (o := .cells #[.int .i64 a0_0, .slice A0_1 l0_1.length c0_1] 25 (0, 0)) (bq BK296) hb); have n3_ := Aside0.mk (below_step (hq HB) hb); clear HO_5; clear BK296; clear HB; have HO_5 := n0_; have HO304 := n1_; have BK296 := n2_; have HB := n3_; clear n0_ n1_ n2_ n3_; (try clear hb); (try clear hb2); (try clear hk); (try clear hi); (try clear ho0)))
            go_loopg [8] k2 (fun kq v8 w' => ∃ (x5_3 : List Bool) (x8_3 : Int), v8 = .int .i64 x8_3 ∧ Aside0 (intervalmonref29_Inhibited.l1 kq l1 x5_3 x6_2 t302 x8_3 a0_0 l0_1 = some r) ∧ Aside0 (kq ≤ k2) ∧ Aside0 (Kd.R Kd.bool 4 w' w.heap.size (fun k_ => some k_ ≠ (v303 : Value).ownBlock) v299 x5_3) ∧ Aside0 (Kd.R Kd.bool 4 w' w.heap.size (fun k_ => some k_ ≠ (v299 : Value).ownBlock) v303 t302) ∧ Aside0 (w'.heap[gb296]? = some (.cells #[.int .i64 a0_0, (.slice A0_1 l0_1.length c0_1)] 25 (0, 0))) ∧ Aside0 (Below w.heap.size w w'))
            case atStart => exact ⟨(x5_2), (0), (by first | rfl | (simp; done) | (simp [*]; done)), H', ⟨Nat.le_refl _⟩, ⟨by (with_reducible repeat (first | apply Kd.R_alloc | apply Kd.R_drewN | apply Kd.R_drew)); exact Kd.R_mono HO_5.out (fun _ hk => hk.2)⟩, ⟨by (with_reducible repeat (first | apply Kd.R_alloc | apply Kd.R_drewN | apply Kd.R_drew)); exact Kd.R_mono HO304.out (fun _ hk => hk.2)⟩, ⟨by (with_reducible repeat (first | refine blk_drewN ?_ _ | refine blk_drew ?_ | refine blk_alloc ?_ _)); exact BK296.out⟩, ⟨by repeat (first | (with_reducible first | exact HB.out | apply below_alloc | apply pw_below_drewN | apply below_drew1 | refine below_set ?_ GE296.out) | exact HB.out)⟩⟩
            case round =>
             clear H'
             try clear c1
             try clear c2
             try clear p2
             try clear q2
             try clear p3
             try clear q3
             try clear hx3
             try clear c6
             try clear c6b0
             try clear c6b1
             try clear p6
             try clear c12
             try clear c13
             try clear c13b0
             try clear c13b1
             try clear c14
             try clear c14b0
             try clear c14b1
             try clear c16
             try clear c18
             try clear c18b0
             try clear c19
             try clear c19b0
             try clear c20
             try clear c20b0
             try clear c21
             try clear q21
             try clear c22
             try clear c23
             try clear hcz10_0
             try clear hcz10_1
             try clear hcz15_0
             try clear hcz15_1
             try clear hcz24_0
             try clear hcz24_1
             try clear hcz7_0
             try clear hcz7_1
             try clear hcz9_0
             try clear hcz9_1
             try clear hfz10_0
             try clear hfz10_1
             try clear hfz15_0
             try clear hfz15_1
             try clear hfz24_0
             try clear hfz24_1
             try clear hfz7_0
             try clear hfz7_1
             try clear hfz9_0
             try clear hfz9_1
             try clear hx301_0
             try clear p2
             try clear p301
             try clear q301
             obtain ⟨x5_3, x8_3, rfl, HA, HK3, HO_5, HO_7, BK296, HB⟩ := hrel
             cases gk with
             | zero => exact absurd HA.out (by simp [intervalmonref29_Inhibited.l1])
             | succ k3 =>
              have H := HA.out
              clear HA
              simp only [intervalmonref29_Inhibited.l1] at H
              by_cases c26 : x8_3 < a0_0
              ·rw [if_pos c26] at H
               have c26b0 : decide (x8_3 < a0_0) = true := decide_eq_true c26
               clear c26
               by_cases c27 : 0 ≤ x8_3
               ·rw [if_pos c27] at H
                have c27b0 : decide (0 ≤ x8_3) = true := decide_eq_true c27
                clear c27
                by_cases c28 : x8_3 < (x5_3.length : Int)
                ·rw [if_pos c28] at H
                 have c28b0 : decide (x8_3 < (x5_3.length : Int)) = true := decide_eq_true c28
                 clear c28
                 obtain ⟨bq29, hbq29⟩ : ∃ b_ : Bool, b_ = (rdOf false x5_3 x8_3) := ⟨_, rfl⟩
                 replace H : (if bq29 = true then (intervalmonref29_Inhibited.l1 k3 l1 (x5_3.set (x8_3 : Int).toNat true) x6_2 t302 (wrap64 (x8_3 + 1)) a0_0 l0_1) else (if x8_3 < (t302.length : Int) then (if rdOf false t302 x8_3 = true then (if x8_3 < (l1.length : Int) then (intervalmonref29_Inhibited.l1 k3 l1 (x5_3.set (x8_3 : Int).toNat (rdOf false l1 x8_3)) x6_2 t302 (wrap64 (x8_3 + 1)) a0_0 l0_1) else (none)) else (intervalmonref29_Inhibited.l1 k3 l1 (x5_3.set (x8_3 : Int).toNat false) x6_2 t302 (wrap64 (x8_3 + 1)) a0_0 l0_1)) else (none))) = some r := by rw [← hbq29] at H; exact H
                 have Nbq29 := Aside0.mk hbq29
                 clear hbq29
                 by_cases c30 : bq29 = true
                 ·subst c30
                  have H1 : (intervalmonref29_Inhibited.l1 k3 l1 (x5_3.set (x8_3 : Int).toNat true) x6_2 t302 (wrap64 (x8_3 + 1)) a0_0 l0_1) = some r := by rw [if_pos rfl] at H; exact H
                  clear H
                  have H := H1
                  clear H1
                  obtain ⟨y306, hy306⟩ : ∃ y_ : List Bool, y_ = (x5_3.set (x8_3 : Int).toNat true) := ⟨_, rfl⟩
                  replace H : (intervalmonref29_Inhibited.l1 k3 l1 y306 x6_2 t302 (wrap64 (x8_3 + 1)) a0_0 l0_1) = some r := by first | (rw [hy306]; with_reducible exact H) | (have H2_ := (Option.bind_some _ _).symm.trans H; rw [hy306]; with_reducible exact H2_) | (have H2_ := (Option.bind_some _ _).symm.trans H; with_reducible exact H2_) | with_reducible exact H | (rw [hy306]; exact H) | exact H
                  have Ny306 := Aside0.mk hy306
                  clear hy306
                  have H' := Aside0.mk H
                  clear H
                  have hcz32_0 : wr.cell? ⟨gb296, 0, none⟩ = some (.int .i64 a0_0) := (blk_cell BK296.out 0).trans rfl
                  have hcz32_1 : wr.cell? ⟨gb296, 1, none⟩ = some (.slice A0_1 l0_1.length c0_1) := (blk_cell BK296.out 1).trans rfl
                  have hfz32_0 := blk_frozen BK296.out 0
                  have hfz32_1 := blk_frozen BK296.out 1
                  obtain ⟨Ao33, co33, eo33⟩ := Kd.R_slice HO_5.out
                  subst eo33
                  have p305 : 0 ≤ (x8_3 : Int) := of_decide_eq_true (by first | (with_reducible assumption) | assumption)
                  have q305 : x8_3 < (x5_3.length : Int) := of_decide_eq_true (by first | (with_reducible assumption) | assumption)
                  obtain ⟨ad305, e305, hx305_0⟩ := Kd.at_bool (Kd.R_reads' HO_5.out).2.2 x8_3 p305 q305
                  (try rw [← Nbq21.out] at hx305_0)
                  (try rw [← Nbq29.out] at hx305_0)
                  cases e305
                  replace p305 := eq_true p305
                  replace q305 := eq_true q305
                  have p31 : 0 ≤ (x8_3 : Int) := of_decide_eq_true (by first | (with_reducible assumption) | assumption)
                  have q31 : (x8_3 : Int) < ((x5_3.length : Int) : Int) := of_decide_eq_true (by first | (with_reducible assumption) | assumption)
                  obtain ⟨go31, co31, eo31, gb31, gl31, cl31, HG31⟩ := Kd.R_form HO_5.out (by omega)
                  (first | cases eo31 | (injection eo31 with ea_ en_ ec_; (first | subst ea_ | (injection ea_ with ea_; subst ea_)); subst ec_; clear en_))
                  have GB31 := Aside0.mk gb31
                  have GG31 := Aside0.mk HG31
                  clear gb31 gl31 HG31
                  (first | simp only [add_plain] at hx305_0 | skip)
                  obtain ⟨hx31_0, hf31_0⟩ := Kd.R_celln false HO_5.out (x8_3 : Int) p31 q31
                  replace p31 := eq_true p31
                  replace q31 := eq_true q31
                  have HP34 := Kd.R_putg HO_5.out (x8_3 : Int) true
                  go_wp2_with (first | ((with_reducible refine gate_store (t := 4) (p := 60) rfl ?_); refine store_event (t := 4) (p := 60) (v := ?vo_w35) (w1 := (wr.setCell ⟨go31, (x8_3 : Int).toNat, none⟩ (.bool true))) ?hg ?ho ?hn ?hr ?_; (case ho => rfl); (case hg => rfl); (case hn => rfl); (case hr => first | (go_simp; done) | (go_simp; rfl)); intro w35 hw; have hg : wr.grownBy w35 (some go31) := (by rw [hw]; exact HP34.2); have hp_ : Kd.R Kd.bool 4 w35 w.heap.size (fun k_ => some k_ ≠ (v303 : Value).ownBlock) (.slice (some ⟨go31, 0, none⟩) x5_3.length co33) y306 := (by rw [hw, Ny306.out]; exact HP34.1); clear HP34; have n0_ := Aside0.mk (hp_); have n1_ := Aside0.mk (Kd.R_after (v := (.slice (some ⟨go31, 0, none⟩) x5_3.length co33)) (v1 := (.slice (some ⟨go31, 0, none⟩) x5_3.length co33)) (ok := (fun _ => True)) (by (with_reducible repeat (first | apply Kd.R_alloc | apply Kd.R_drewN | apply Kd.R_drew)); exact Kd.R_mono HO_7.out (fun _ hk => ⟨trivial, hk⟩)) hg (.inl rfl)); have n2_ := Aside0.mk (blk_grown (g := gb296) (o := .cells #[.int .i64 a0_0, .slice A0_1 l0_1.length c0_1] 25 (0, 0)) (bq BK296) hg (Kd.R_ne HO_5.out BK296.out (by decide))); have n3_ := Aside0.mk ((by rw [hw]; exact below_set (HB.out) GB31.out : Below w.heap.size w w35)); clear HO_5; clear HO_7; clear BK296; clear HB; have HO_5 := n0_; have HO_7 := n1_; have BK296 := n2_; have HB := n3_; clear n0_ n1_ n2_ n3_; clear hg hw hp_))
                  go_roundg k3
                  case measure => have := HJ2.out; have := HK2.out; have := HK3.out; omega
                  case rel => exact ⟨(y306), (wrap64 (x8_3 + 1)), (by first | rfl | (simp; done) | (simp [*]; done)), H', ⟨by have := HJ2.out; have := HK2.out; have := HK3.out; omega⟩, ⟨by (with_reducible repeat (first | apply Kd.R_alloc | apply Kd.R_drewN | apply Kd.R_drew)); exact HO_5.out⟩, ⟨by (with_reducible repeat (first | apply Kd.R_alloc | apply Kd.R_drewN | apply Kd.R_drew)); exact Kd.R_mono HO_7.out (fun _ hk => hk.2)⟩, ⟨by (with_reducible repeat (first | refine blk_drewN ?_ _ | refine blk_drew ?_ | refine blk_alloc ?_ _)); exact BK296.out⟩, ⟨by repeat (first | (with_reducible first | exact HB.out | apply below_alloc | apply pw_below_drewN | apply below_drew1 | refine below_set ?_ GE296.out) | exact HB.out)⟩⟩
                 ·replace c30 := Bool.eq_false_iff.mpr c30
                  subst c30
                  have H1 : (if x8_3 < (t302.length : Int) then (if rdOf false t302 x8_3 = true then (if x8_3 < (l1.length : Int) then (intervalmonref29_Inhibited.l1 k3 l1 (x5_3.set (x8_3 : Int).toNat (rdOf false l1 x8_3)) x6_2 t302 (wrap64 (x8_3 + 1)) a0_0 l0_1) else (none)) else (intervalmonref29_Inhibited.l1 k3 l1 (x5_3.set (x8_3 : Int).toNat false) x6_2 t302 (wrap64 (x8_3 + 1)) a0_0 l0_1)) else (none)) = some r := by rw [if_neg (show ¬ (false = true) by decide)] at H; exact H
                  clear H
                  have H := H1
                  clear H1
                  by_cases c36 : x8_3 < (t302.length : Int)
                  ·rw [if_pos c36] at H
                   have c36b0 : decide (x8_3 < (t302.length : Int)) = true := decide_eq_true c36
                   clear c36
                   obtain ⟨bq37, hbq37⟩ : ∃ b_ : Bool, b_ = (rdOf false t302 x8_3) := ⟨_, rfl⟩
                   replace H : (if bq37 = true then (if x8_3 < (l1.length : Int) then (intervalmonref29_Inhibited.l1 k3 l1 (x5_3.set (x8_3 : Int).toNat (rdOf false l1 x8_3)) x6_2 t302 (wrap64 (x8_3 + 1)) a0_0 l0_1) else (none)) else (intervalmonref29_Inhibited.l1 k3 l1 (x5_3.set (x8_3 : Int).toNat false) x6_2 t302 (wrap64 (x8_3 + 1)) a0_0 l0_1)) = some r := by rw [← hbq37] at H; exact H
                   have Nbq37 := Aside0.mk hbq37
                   clear hbq37
                   by_cases c38 : bq37 = true
                   ·subst c38
                    have H1 : (if x8_3 < (l1.length : Int) then (intervalmonref29_Inhibited.l1 k3 l1 (x5_3.set (x8_3 : Int).toNat (rdOf false l1 x8_3)) x6_2 t302 (wrap64 (x8_3 + 1)) a0_0 l0_1) else (none)) = some r := by rw [if_pos rfl] at H; exact H
                    clear H
                    have H := H1
                    clear H1
                    by_cases c39 : x8_3 < (l1.length : Int)
                    ·rw [if_pos c39] at H
                     have c39b0 : decide (x8_3 < (l1.length : Int)) = true := decide_eq_true c39
                     clear c39
                     obtain ⟨y309, hy309⟩ : ∃ y_ : List Bool, y_ = (x5_3.set (x8_3 : Int).toNat (rdOf false l1 x8_3)) := ⟨_, rfl⟩
                     replace H : (intervalmonref29_Inhibited.l1 k3 l1 y309 x6_2 t302 (wrap64 (x8_3 + 1)) a0_0 l0_1) = some r := by first | (rw [hy309]; with_reducible exact H) | (have H2_ := (Option.bind_some _ _).symm.trans H; rw [hy309]; with_reducible exact H2_) | (have H2_ := (Option.bind_some _ _).symm.trans H; with_reducible exact H2_) | with_reducible exact H | (rw [hy309]; exact H) | exact H
                     have Ny309 := Aside0.mk hy309
                     clear hy309
                     have H' := Aside0.mk H
                     clear H
                     have hcz41_0 : wr.cell? ⟨gb296, 0, none⟩ = some (.int .i64 a0_0) := (blk_cell BK296.out 0).trans rfl
                     have hcz41_1 : wr.cell? ⟨gb296, 1, none⟩ = some (.slice A0_1 l0_1.length c0_1) := (blk_cell BK296.out 1).trans rfl
                     have hfz41_0 := blk_frozen BK296.out 0
                     have hfz41_1 := blk_frozen BK296.out 1
                     obtain ⟨Ao42, co42, eo42⟩ := Kd.R_slice HO_5.out
                     subst eo42
                     have p305 : 0 ≤ (x8_3 : Int) := of_decide_eq_true (by first | (with_reducible assumption) | assumption)
                     have q305 : x8_3 < (x5_3.length : Int) := of_decide_eq_true (by first | (with_reducible assumption) | assumption)
                     obtain ⟨ad305, e305, hx305_0⟩ := Kd.at_bool (Kd.R_reads' HO_5.out).2.2 x8_3 p305 q305
                     (try rw [← Nbq21.out] at hx305_0)
                     (try rw [← Nbq29.out] at hx305_0)
                     (try rw [← Nbq37.out] at hx305_0)
                     cases e305
                     replace p305 := eq_true p305
                     replace q305 := eq_true q305
                     obtain ⟨Ao43, co43, eo43⟩ := Kd.R_slice HO_7.out
                     subst eo43
                     have p307 : 0 ≤ (x8_3 : Int) := of_decide_eq_true (by first | (with_reducible assumption) | assumption)
                     have q307 : x8_3 < (t302.length : Int) := of_decide_eq_true (by first | (with_reducible assumption) | assumption)
                     obtain ⟨ad307, e307, hx307_0⟩ := Kd.at_bool (Kd.R_reads' HO_7.out).2.2 x8_3 p307 q307
                     (try rw [← Nbq21.out] at hx307_0)
                     (try rw [← Nbq29.out] at hx307_0)
                     (try rw [← Nbq37.out] at hx307_0)
                     cases e307
                     replace p307 := eq_true p307
                     replace q307 := eq_true q307
                     have p308 : 0 ≤ (x8_3 : Int) := of_decide_eq_true (by first | (with_reducible assumption) | assumption)
                     have q308 : x8_3 < (l1.length : Int) := of_decide_eq_true (by first | (with_reducible assumption) | assumption)
                     obtain ⟨ad308, e308, hx308_0⟩ := Kd.at_bool HR1.out x8_3 p308 q308
                     (try rw [← Nbq21.out] at hx308_0)
                     (try rw [← Nbq29.out] at hx308_0)
                     (try rw [← Nbq37.out] at hx308_0)
                     obtain rfl : ad301 = ad308 := (by injection e308)
                     (try replace hx308_0 := (HB.out.cell (World.block_lt_of_cell? w _ hx308_0)).trans hx308_0)
                     replace p308 := eq_true p308
                     replace q308 := eq_true q308
                     have p40 : 0 ≤ (x8_3 : Int) := of_decide_eq_true (by first | (with_reducible assumption) | assumption)
                     have q40 : (x8_3 : Int) < ((x5_3.length : Int) : Int) := of_decide_eq_true (by first | (with_reducible assumption) | assumption)
                     obtain ⟨go40, co40, eo40, gb40, gl40, cl40, HG40⟩ := Kd.R_form HO_5.out (by omega)
                     (first | cases eo40 | (injection eo40 with ea_ en_ ec_; (first | subst ea_ | (injection ea_ with ea_; subst ea_)); subst ec_; clear en_))
                     have GB40 := Aside0.mk gb40
                     have GG40 := Aside0.mk HG40
                     clear gb40 gl40 HG40
                     (first | simp only [add_plain] at hx305_0 | skip)
                     obtain ⟨hx40_0, hf40_0⟩ := Kd.R_celln false HO_5.out (x8_3 : Int) p40 q40
                     replace p40 := eq_true p40
                     replace q40 := eq_true q40
                     have HP44 := Kd.R_putg HO_5.out (x8_3 : Int) (rdOf false l1 x8_3)
                     go_wp2_with (first | ((with_reducible refine gate_store (t := 4) (p := 60) rfl ?_); refine store_event (t := 4) (p := 60) (v := ?vo_w45) (w1 := (wr.setCell ⟨go40, (x8_3 : Int).toNat, none⟩ (.bool (rdOf false l1 x8_3)))) ?hg ?ho ?hn ?hr ?_; (case ho => rfl); (case hg => rfl); (case hn => rfl); (case hr => first | (go_simp; done) | (go_simp; rfl)); intro w45 hw; have hg : wr.grownBy w45 (some go40) := (by rw [hw]; exact HP44.2); have hp_ : Kd.R Kd.bool 4 w45 w.heap.size (fun k_ => some k_ ≠ (.slice (some ad307) t302.length co43 : Value).ownBlock) (.slice (some ⟨go40, 0, none⟩) x5_3.length co42) y309 := (by rw [hw, Ny309.out]; exact HP44.1); clear HP44; have n0_ := Aside0.mk (hp_); have n1_ := Aside0.mk (Kd.R_after (v := (.slice (some ⟨go40, 0, none⟩) x5_3.length co42)) (v1 := (.slice (some ⟨go40, 0, none⟩) x5_3.length co42)) (ok := (fun _ => True)) (by (with_reducible repeat (first | apply Kd.R_alloc | apply Kd.R_drewN | apply Kd.R_drew)); exact Kd.R_mono HO_7.out (fun _ hk => ⟨trivial, hk⟩)) hg (.inl rfl)); have n2_ := Aside0.mk (blk_grown (g := gb296) (o := .cells #[.int .i64 a0_0, .slice A0_1 l0_1.length c0_1] 25 (0, 0)) (bq BK296) hg (Kd.R_ne HO_5.out BK296.out (by decide))); have n3_ := Aside0.mk ((by rw [hw]; exact below_set (HB.out) GB40.out : Below w.heap.size w w45)); clear HO_5; clear HO_7; clear BK296; clear HB; have HO_5 := n0_; have HO_7 := n1_; have BK296 := n2_; have HB := n3_; clear n0_ n1_ n2_ n3_; clear hg hw hp_))
                     go_roundg k3
                     case measure => have := HJ2.out; have := HK2.out; have := HK3.out; omega
                     case rel => exact ⟨(y309), (wrap64 (x8_3 + 1)), (by first | rfl | (simp; done) | (simp [*]; done)), H', ⟨by have := HJ2.out; have := HK2.out; have := HK3.out; omega⟩, ⟨by (with_reducible repeat (first | apply Kd.R_alloc | apply Kd.R_drewN | apply Kd.R_drew)); exact HO_5.out⟩, ⟨by (with_reducible repeat (first | apply Kd.R_alloc | apply Kd.R_drewN | apply Kd.R_drew)); exact Kd.R_mono HO_7.out (fun _ hk => hk.2)⟩, ⟨by (with_reducible repeat (first | refine blk_drewN ?_ _ | refine blk_drew ?_ | refine blk_alloc ?_ _)); exact BK296.out⟩, ⟨by repeat (first | (with_reducible first | exact HB.out | apply below_alloc | apply pw_below_drewN | apply below_drew1 | refine below_set ?_ GE296.out) | exact HB.out)⟩⟩
                    ·rw [if_neg c39] at H
                     exact absurd H (by simp)
                   ·replace c38 := Bool.eq_false_iff.mpr c38
                    subst c38
                    have H1 : (intervalmonref29_Inhibited.l1 k3 l1 (x5_3.set (x8_3 : Int).toNat false) x6_2 t302 (wrap64 (x8_3 + 1)) a0_0 l0_1) = some r := by rw [if_neg (show ¬ (false = true) by decide)] at H; exact H
                    clear H
                    have H := H1
                    clear H1
                    obtain ⟨y310, hy310⟩ : ∃ y_ : List Bool, y_ = (x5_3.set (x8_3 : Int).toNat false) := ⟨_, rfl⟩
                    replace H : (intervalmonref29_Inhibited.l1 k3 l1 y310 x6_2 t302 (wrap64 (x8_3 + 1)) a0_0 l0_1) = some r := by first | (rw [hy310]; with_reducible exact H) | (have H2_ := (Option.bind_some _ _).symm.trans H; rw [hy310]; with_reducible exact H2_) | (have H2_ := (Option.bind_some _ _).symm.trans H; with_reducible exact H2_) | with_reducible exact H | (rw [hy310]; exact H) | exact H
                    have Ny310 := Aside0.mk hy310
                    clear hy310
                    have H' := Aside0.mk H
                    clear H
                    have hcz47_0 : wr.cell? ⟨gb296, 0, none⟩ = some (.int .i64 a0_0) := (blk_cell BK296.out 0).trans rfl
                    have hcz47_1 : wr.cell? ⟨gb296, 1, none⟩ = some (.slice A0_1 l0_1.length c0_1) := (blk_cell BK296.out 1).trans rfl
                    have hfz47_0 := blk_frozen BK296.out 0
                    have hfz47_1 := blk_frozen BK296.out 1
                    obtain ⟨Ao48, co48, eo48⟩ := Kd.R_slice HO_5.out
                    subst eo48
                    have p305 : 0 ≤ (x8_3 : Int) := of_decide_eq_true (by first | (with_reducible assumption) | assumption)
                    have q305 : x8_3 < (x5_3.length : Int) := of_decide_eq_true (by first | (with_reducible assumption) | assumption)
                    obtain ⟨ad305, e305, hx305_0⟩ := Kd.at_bool (Kd.R_reads' HO_5.out).2.2 x8_3 p305 q305
                    (try rw [← Nbq21.out] at hx305_0)
                    (try rw [← Nbq29.out] at hx305_0)
                    (try rw [← Nbq37.out] at hx305_0)
                    cases e305
                    replace p305 := eq_true p305
                    replace q305 := eq_true q305
                    obtain ⟨Ao49, co49, eo49⟩ := Kd.R_slice HO_7.out
                    subst eo49
                    have p307 : 0 ≤ (x8_3 : Int) := of_decide_eq_true (by first | (with_reducible assumption) | assumption)
                    have q307 : x8_3 < (t302.length : Int) := of_decide_eq_true (by first | (with_reducible assumption) | assumption)
                    obtain ⟨ad307, e307, hx307_0⟩ := Kd.at_bool (Kd.R_reads' HO_7.out).2.2 x8_3 p307 q307
                    (try rw [← Nbq21.out] at hx307_0)
                    (try rw [← Nbq29.out] at hx307_0)
                    (try rw [← Nbq37.out] at hx307_0)
                    cases e307
                    replace p307 := eq_true p307
                    replace q307 := eq_true q307
                    have p46 : 0 ≤ (x8_3 : Int) := of_decide_eq_true (by first | (with_reducible assumption) | assumption)
                    have q46 : (x8_3 : Int) < ((x5_3.length : Int) : Int) := of_decide_eq_true (by first | (with_reducible assumption) | assumption)
                    obtain ⟨go46, co46, eo46, gb46, gl46, cl46, HG46⟩ := Kd.R_form HO_5.out (by omega)
                    (first | cases eo46 | (injection eo46 with ea_ en_ ec_; (first | subst ea_ | (injection ea_ with ea_; subst ea_)); subst ec_; clear en_))
                    have GB46 := Aside0.mk gb46
                    have GG46 := Aside0.mk HG46
                    clear gb46 gl46 HG46
                    (first | simp only [add_plain] at hx305_0 | skip)
                    obtain ⟨hx46_0, hf46_0⟩ := Kd.R_celln false HO_5.out (x8_3 : Int) p46 q46
                    replace p46 := eq_true p46
                    replace q46 := eq_true q46
                    have HP50 := Kd.R_putg HO_5.out (x8_3 : Int) false
                    go_wp2_with (first | ((with_reducible refine gate_store (t := 4) (p := 60) rfl ?_); refine store_event (t := 4) (p := 60) (v := ?vo_w51) (w1 := (wr.setCell ⟨go46, (x8_3 : Int).toNat, none⟩ (.bool false))) ?hg ?ho ?hn ?hr ?_; (case ho => rfl); (case hg => rfl); (case hn => rfl); (case hr => first | (go_simp; done) | (go_simp; rfl)); intro w51 hw; have hg : wr.grownBy w51 (some go46) := (by rw [hw]; exact HP50.2); have hp_ : Kd.R Kd.bool 4 w51 w.heap.size (fun k_ => some k_ ≠ (.slice (some ad307) t302.length co49 : Value).ownBlock) (.slice (some ⟨go46, 0, none⟩) x5_3.length co48) y310 := (by rw [hw, Ny310.out]; exact HP50.1); clear HP50; have n0_ := Aside0.mk (hp_); have n1_ := Aside0.mk (Kd.R_after (v := (.slice (some ⟨go46, 0, none⟩) x5_3.length co48)) (v1 := (.slice (some ⟨go46, 0, none⟩) x5_3.length co48)) (ok := (fun _ => True)) (by (with_reducible repeat (first | apply Kd.R_alloc | apply Kd.R_drewN | apply Kd.R_drew)); exact Kd.R_mono HO_7.out (fun _ hk => ⟨trivial, hk⟩)) hg (.inl rfl)); have n2_ := Aside0.mk (blk_grown (g := gb296) (o := .cells #[.int .i64 a0_0, .slice A0_1 l0_1.length c0_1] 25 (0, 0)) (bq BK296) hg (Kd.R_ne HO_5.out BK296.out (by decide))); have n3_ := Aside0.mk ((by rw [hw]; exact below_set (HB.out) GB46.out : Below w.heap.size w w51)); clear HO_5; clear HO_7; clear BK296; clear HB; have HO_5 := n0_; have HO_7 := n1_; have BK296 := n2_; have HB := n3_; clear n0_ n1_ n2_ n3_; clear hg hw hp_))
                    go_roundg k3
                    case measure => have := HJ2.out; have := HK2.out; have := HK3.out; omega
                    case rel => exact ⟨(y310), (wrap64 (x8_3 + 1)), (by first | rfl | (simp; done) | (simp [*]; done)), H', ⟨by have := HJ2.out; have := HK2.out; have := HK3.out; omega⟩, ⟨by (with_reducible repeat (first | apply Kd.R_alloc | apply Kd.R_drewN | apply Kd.R_drew)); exact HO_5.out⟩, ⟨by (with_reducible repeat (first | apply Kd.R_alloc | apply Kd.R_drewN | apply Kd.R_drew)); exact Kd.R_mono HO_7.out (fun _ hk => hk.2)⟩, ⟨by (with_reducible repeat (first | refine blk_drewN ?_ _ | refine blk_drew ?_ | refine blk_alloc ?_ _)); exact BK296.out⟩, ⟨by repeat (first | (with_reducible first | exact HB.out | apply below_alloc | apply pw_below_drewN | apply below_drew1 | refine below_set ?_ GE296.out) | exact HB.out)⟩⟩
                  ·rw [if_neg c36] at H
                   exact absurd H (by simp)
                ·rw [if_neg c28] at H
                 exact absurd H (by simp)
               ·rw [if_neg c27] at H
                exact absurd H (by simp)
              ·rw [if_neg c26] at H
               have c26b0 : decide (x8_3 < a0_0) = false := decide_eq_false c26
               clear c26
               have H' := Aside0.mk H
               clear H
               have hcz52_0 : wr.cell? ⟨gb296, 0, none⟩ = some (.int .i64 a0_0) := (blk_cell BK296.out 0).trans rfl
               have hcz52_1 : wr.cell? ⟨gb296, 1, none⟩ = some (.slice A0_1 l0_1.length c0_1) := (blk_cell BK296.out 1).trans rfl
               have hfz52_0 := blk_frozen BK296.out 0
               have hfz52_1 := blk_frozen BK296.out 1
               go_wp2
               go_roundg k3
               case measure => have := HJ2.out; have := HK2.out; have := HK3.out; omega
               case rel => exact ⟨(x5_3), (wrap64 (x6_2 + 1)), (by first | rfl | (simp; done) | (simp [*]; done)), H', ⟨by have := HJ2.out; have := HK2.out; have := HK3.out; omega⟩, ⟨by (with_reducible repeat (first | apply Kd.R_alloc | apply Kd.R_drewN | apply Kd.R_drew)); exact Kd.R_mono HO_5.out (fun _ hk => trivial)⟩, ⟨by (with_reducible repeat (first | refine blk_drewN ?_ _ | refine blk_drew ?_ | refine blk_alloc ?_ _)); exact BK296.out⟩, ⟨by repeat (first | (with_reducible first | exact HB.out | apply below_alloc | apply pw_below_drewN | apply below_drew1 | refine below_set ?_ GE296.out) | exact HB.out)⟩⟩
           ·replace c22 := Bool.eq_false_iff.mpr c22
            subst c22
            have H1 : (intervalmonref29_Inhibited.l0 k2 l1 x5_2 (wrap64 (x6_2 + 1)) a0_0 l0_1) = some r := by rw [if_neg (show ¬ (false = true) by decide)] at H; exact H
            clear H
            have H := H1
            clear H1
            have H' := Aside0.mk H
            clear H
            have hcz53_0 : wr.cell? ⟨gb296, 0, none⟩ = some (.int .i64 a0_0) := (blk_cell BK296.out 0).trans rfl
            have hcz53_1 : wr.cell? ⟨gb296, 1, none⟩ = some (.slice A0_1 l0_1.length c0_1) := (blk_cell BK296.out 1).trans rfl
            have hfz53_0 := blk_frozen BK296.out 0
            have hfz53_1 := blk_frozen BK296.out 1
            have p301 : 0 ≤ (x6_2 : Int) := of_decide_eq_true (by first | (with_reducible assumption) | assumption)
            have q301 : x6_2 < (l1.length : Int) := of_decide_eq_true (by first | (with_reducible assumption) | assumption)
            obtain ⟨ad301, e301, hx301_0⟩ := Kd.at_bool HR1.out x6_2 p301 q301
            (try rw [← Nbq21.out] at hx301_0)
            cases e301
            (try replace hx301_0 := (HB.out.cell (World.block_lt_of_cell? w _ hx301_0)).trans hx301_0)
            replace p301 := eq_true p301
            replace q301 := eq_true q301
            go_wp2
            go_roundg k2
            case measure => have := HJ2.out; have := HK2.out; omega
            case rel => exact ⟨(x5_2), (wrap64 (x6_2 + 1)), (by first | rfl | (simp; done) | (simp [*]; done)), H', ⟨by have := HJ2.out; have := HK2.out; omega⟩, ⟨by (with_reducible repeat (first | apply Kd.R_alloc | apply Kd.R_drewN | apply Kd.R_drew)); exact HO_5.out⟩, ⟨by (with_reducible repeat (first | refine blk_drewN ?_ _ | refine blk_drew ?_ | refine blk_alloc ?_ _)); exact BK296.out⟩, ⟨by repeat (first | (with_reducible first | exact HB.out | apply below_alloc | apply pw_below_drewN | apply below_drew1 | refine below_set ?_ GE296.out) | exact HB.out)⟩⟩
          ·rw [if_neg c20] at H
           exact absurd H (by simp)
         ·rw [if_neg c19] at H
          exact absurd H (by simp)
        ·rw [if_neg c18] at H
         have c18b0 : decide (x6_2 < a0_0) = false := decide_eq_false c18
         clear c18
         obtain rfl := Option.some.inj H
         have hcz54_0 : wr.cell? ⟨gb296, 0, none⟩ = some (.int .i64 a0_0) := (blk_cell BK296.out 0).trans rfl
         have hcz54_1 : wr.cell? ⟨gb296, 1, none⟩ = some (.slice A0_1 l0_1.length c0_1) := (blk_cell BK296.out 1).trans rfl
         have hfz54_0 := blk_frozen BK296.out 0
         have hfz54_1 := blk_frozen BK296.out 1
         go_wp2
         go_ret
         exact ⟨_, by first | rfl | (simp [errW_none, errW_some] <;> rfl) | (simp [*, errW_none, errW_some] <;> rfl), by (with_reducible repeat (first | apply Kd.R_alloc | apply Kd.R_drewN | apply Kd.R_drew)); exact HO_5.out, by repeat (first | (with_reducible first | exact HB.out | apply below_alloc | apply pw_below_drewN | apply below_drew1 | refine below_set ?_ GE296.out) | exact HB.out)⟩
     ·rw [if_neg c14] at H
      exact absurd H (by simp)
    ·rw [if_neg c13] at H
     exact absurd H (by simp)

end Go.Proofs.Ytcamljlhdejmmaa.P
