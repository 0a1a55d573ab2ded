-- Written by this session's own copy of a printing program (wip/tools); Lean checks it.
import Derived.Test.YtcamljlhdejmmaaPx0
namespace Go.Proofs.Ytcamljlhdejmmaa.P
open Go.RowKit Go.Proofs.YtcamljlhdejmmaaW.PrintWords Go.Proofs.YtcamljlhdejmmaaW.PrintLast Go.Proofs.YtcamljlhdejmmaaW.PrintMore
attribute [local go_sem] max2_int min2_int max_two min_two max_three min_three max_four min_four   -- for this text's walks alone
set_option linter.unusedVariables false
set_option linter.unusedSimpArgs false

/-! ### route_sorted: function 40 -/
mutual
def route_sorted.l0 : Nat → List Int → List (List Int) → List (S27) → Int → Int → Int → List (S27) → Option (List Int)
 | 0, _, _, _, _, _, _, _ => none
 | k + 1, x3, x4, x19, x20, x21, x102000, x102001 => if x21 < x20 then (if 0 ≤ x21 then (if x21 < (x19.length : Int) then (if 0 ≤ ((rd_T27 x19 x21).f1) then (if ((rd_T27 x19 x21).f1) < (x3.length : Int) then (if 0 ≤ ((rd_T27 x19 x21).f0) then (if ((rd_T27 x19 x21).f0) < (x4.length : Int) then (if (rd_L4 x4 ((rd_T27 x19 x21).f0)).length < 17592186044416 then (route_sorted.l0 k (x3.set (((rd_T27 x19 x21).f1) : Int).toNat (wrap64 ((rd x3 ((rd_T27 x19 x21).f1)) + 1))) (x4.set (((rd_T27 x19 x21).f0) : Int).toNat ((rd_L4 x4 ((rd_T27 x19 x21).f0)) ++ [(rd_T27 x19 x21).f1])) x19 x20 (wrap64 (x21 + 1)) x102000 x102001) else (none)) else (none)) else (none)) else (none)) else (none)) else (none)) else (none)) else (route_sorted.l1 k x3 x4 ([] : List Int) x102000 0)
def route_sorted.l1 : Nat → List Int → List (List Int) → List Int → Int → Int → Option (List Int)
 | 0, _, _, _, _, _ => none
 | k + 1, x3, x4, x7, x47, x48 => if x48 < x47 then (if 0 ≤ x48 then (if x48 < (x3.length : Int) then (if (rd x3 x48) = 0 then (if x7.length < 17592186044416 then (route_sorted.l1 k x3 x4 (x7 ++ [x48]) x47 (wrap64 (x48 + 1))) else (none)) else (route_sorted.l1 k x3 x4 x7 x47 (wrap64 (x48 + 1)))) else (none)) else (none)) else (route_sorted.l2 k x3 x4 x7 0)
def route_sorted.l2 : Nat → List Int → List (List Int) → List Int → Int → Option (List Int)
 | 0, _, _, _, _ => none
 | k + 1, x3, x4, x7, x9 => if x9 < (x7.length : Int) then (if 0 ≤ x9 then (if 0 ≤ (rd x7 x9) then (if (rd x7 x9) < (x4.length : Int) then (route_sorted.l3 k x3 x4 x7 x9 (rd_L4 x4 (rd x7 x9)) ((rd_L4 x4 (rd x7 x9)).length : Int) 0) else (none)) else (none)) else (none)) else (some x7)
def route_sorted.l3 : Nat → List Int → List (List Int) → List Int → Int → List Int → Int → Int → Option (List Int)
 | 0, _, _, _, _, _, _, _ => none
 | k + 1, x3, x4, x7, x9, x73, x74, x75 => if x75 < x74 then (if 0 ≤ x75 then (if x75 < (x73.length : Int) then (if 0 ≤ (rd x73 x75) then (if (rd x73 x75) < (x3.length : Int) then ((some (x3.set ((rd x73 x75) : Int).toNat (wrap64 ((rd x3 (rd x73 x75)) - 1)) : List Int)).bind fun y125 => (if (rd y125 (rd x73 x75)) = 0 then (if x7.length < 17592186044416 then (route_sorted.l3 k y125 x4 (x7 ++ [rd x73 x75]) x9 x73 x74 (wrap64 (x75 + 1))) else (none)) else (route_sorted.l3 k y125 x4 x7 x9 x73 x74 (wrap64 (x75 + 1))))) else (none)) else (none)) else (none)) else (none)) else (route_sorted.l2 k x3 x4 x7 (wrap64 (x9 + 1)))
end
def route_sorted.f (k : Nat) (a0_0 : Int) (l0_1 : List (S27)) : Option (List Int) := if 0 ≤ a0_0 then (if (a0_0 : Int).toNat ≤ 35184372088832 then (if (a0_0 : Int).toNat ≤ 11728124029610 then (route_sorted.l0 k (List.replicate (a0_0 : Int).toNat 0) (List.replicate (a0_0 : Int).toNat []) l0_1 (l0_1.length : Int) 0 a0_0 l0_1) else (none)) else (none)) else (none)
theorem route_sorted.mono_l : ∀ k, (∀ y0 y1 y2 y3 y4 y5 y6, LeO (route_sorted.l0 k y0 y1 y2 y3 y4 y5 y6) (route_sorted.l0 (k + 1) y0 y1 y2 y3 y4 y5 y6)) ∧ (∀ y0 y1 y2 y3 y4, LeO (route_sorted.l1 k y0 y1 y2 y3 y4) (route_sorted.l1 (k + 1) y0 y1 y2 y3 y4)) ∧ (∀ y0 y1 y2 y3, LeO (route_sorted.l2 k y0 y1 y2 y3) (route_sorted.l2 (k + 1) y0 y1 y2 y3)) ∧ (∀ y0 y1 y2 y3 y4 y5 y6, LeO (route_sorted.l3 k y0 y1 y2 y3 y4 y5 y6) (route_sorted.l3 (k + 1) y0 y1 y2 y3 y4 y5 y6))
 | 0 => ⟨fun _ _ _ _ _ _ _ r h => by simp [route_sorted.l0] at h, fun _ _ _ _ _ r h => by simp [route_sorted.l1] at h, fun _ _ _ _ r h => by simp [route_sorted.l2] at h, fun _ _ _ _ _ _ _ r h => by simp [route_sorted.l3] at h⟩
 | k + 1 => by
  obtain ⟨ih0, ih1, ih2, ih3⟩ := route_sorted.mono_l k
  refine ⟨?_, ?_, ?_, ?_⟩
  ·intro y0 y1 y2 y3 y4 y5 y6
   unfold route_sorted.l0
   repeat' first
   | (with_reducible exact ih0 _ _ _ _ _ _ _)
   | (with_reducible exact ih1 _ _ _ _ _)
   | (with_reducible exact ih2 _ _ _ _)
   | (with_reducible exact ih3 _ _ _ _ _ _ _)
   | (with_reducible exact LeO.refl _)
   | (with_reducible exact LeO.none _)
   | (with_reducible refine LeO.ite ?_ ?_)
   | (with_reducible refine LeO.bind ?_ (fun _ => ?_))
   | exact ih0 _ _ _ _ _ _ _
   | exact ih1 _ _ _ _ _
   | exact ih2 _ _ _ _
   | exact ih3 _ _ _ _ _ _ _
   | exact LeO.none _
   | refine LeO.ite ?_ ?_
   | refine LeO.bind ?_ (fun _ => ?_)
  ·intro y0 y1 y2 y3 y4
   unfold route_sorted.l1
   repeat' first
   | (with_reducible exact ih0 _ _ _ _ _ _ _)
   | (with_reducible exact ih1 _ _ _ _ _)
   | (with_reducible exact ih2 _ _ _ _)
   | (with_reducible exact ih3 _ _ _ _ _ _ _)
   | (with_reducible exact LeO.refl _)
   | (with_reducible exact LeO.none _)
   | (with_reducible refine LeO.ite ?_ ?_)
   | (with_reducible refine LeO.bind ?_ (fun _ => ?_))
   | exact ih0 _ _ _ _ _ _ _
   | exact ih1 _ _ _ _ _
   | exact ih2 _ _ _ _
   | exact ih3 _ _ _ _ _ _ _
   | exact LeO.none _
   | refine LeO.ite ?_ ?_
   | refine LeO.bind ?_ (fun _ => ?_)
  ·intro y0 y1 y2 y3
   unfold route_sorted.l2
   repeat' first
   | (with_reducible exact ih0 _ _ _ _ _ _ _)
   | (with_reducible exact ih1 _ _ _ _ _)
   | (with_reducible exact ih2 _ _ _ _)
   | (with_reducible exact ih3 _ _ _ _ _ _ _)
   | (with_reducible exact LeO.refl _)
   | (with_reducible exact LeO.none _)
   | (with_reducible refine LeO.ite ?_ ?_)
   | (with_reducible refine LeO.bind ?_ (fun _ => ?_))
   | exact ih0 _ _ _ _ _ _ _
   | exact ih1 _ _ _ _ _
   | exact ih2 _ _ _ _
   | exact ih3 _ _ _ _ _ _ _
   | exact LeO.none _
   | refine LeO.ite ?_ ?_
   | refine LeO.bind ?_ (fun _ => ?_)
  ·intro y0 y1 y2 y3 y4 y5 y6
   unfold route_sorted.l3
   repeat' first
   | (with_reducible exact ih0 _ _ _ _ _ _ _)
   | (with_reducible exact ih1 _ _ _ _ _)
   | (with_reducible exact ih2 _ _ _ _)
   | (with_reducible exact ih3 _ _ _ _ _ _ _)
   | (with_reducible exact LeO.refl _)
   | (with_reducible exact LeO.none _)
   | (with_reducible refine LeO.ite ?_ ?_)
   | (with_reducible refine LeO.bind ?_ (fun _ => ?_))
   | exact ih0 _ _ _ _ _ _ _
   | exact ih1 _ _ _ _ _
   | exact ih2 _ _ _ _
   | exact ih3 _ _ _ _ _ _ _
   | exact LeO.none _
   | refine LeO.ite ?_ ?_
   | refine LeO.bind ?_ (fun _ => ?_)
theorem route_sorted.mono : ∀ a0 a1 k, LeO (route_sorted.f k a0 a1) (route_sorted.f (k + 1) a0 a1) := by
 intro a0 a1 k
 obtain ⟨ih0, ih1, ih2, ih3⟩ := route_sorted.mono_l k
 unfold route_sorted.f
 repeat' first
   | (with_reducible exact ih0 _ _ _ _ _ _ _)
   | (with_reducible exact ih1 _ _ _ _ _)
   | (with_reducible exact ih2 _ _ _ _)
   | (with_reducible exact ih3 _ _ _ _ _ _ _)
   | (with_reducible exact LeO.refl _)
   | (with_reducible exact LeO.none _)
   | (with_reducible refine LeO.ite ?_ ?_)
   | (with_reducible refine LeO.bind ?_ (fun _ => ?_))
   | exact ih0 _ _ _ _ _ _ _
   | exact ih1 _ _ _ _ _
   | exact ih2 _ _ _ _
   | exact ih3 _ _ _ _ _ _ _
   | exact LeO.none _
   | refine LeO.ite ?_ ?_
   | refine LeO.bind ?_ (fun _ => ?_)
def route_sorted.T7 : Bool × List (List Nat × List Nat) := (true, [([], []), ([], []), ([1], [1]), ([], []), ([], []), ([4], [4]), ([3, 5], [3, 5]), ([6], [6]), ([], []), ([8], [8]), ([9], [9]), ([7, 10], [7, 10]), ([0, 2, 0, 1, 2, 3, 4, 5, 6, 7, 8, 9, 10, 11], [0, 2]), ([12, 11, 11, 0, 1, 2, 3, 4, 5, 6, 7, 8, 9, 10, 11], [11, 12])])
def route_sorted.B7 : List Nat := [0, 0, 2, 0, 0, 16, 56, 120, 0, 256, 768, 2040, 4095, 8191]
theorem route_sorted.tab7 : rtab .any (opsOf Try.f40 7) = route_sorted.T7 := by kernel_rfl
theorem route_sorted.bits7 : waitsOk route_sorted.T7.2 route_sorted.B7 = true := by kernel_rfl
set_option maxHeartbeats 8000000 in
set_option maxRecDepth 100000 in
theorem route_sorted.calls (k : Nat) (a0_0 : Int) (A0_1 : Option Addr) (c0_1 : Nat) (l0_1 : List (S27)) (r : List Int) (w : World) (hr0_1 : Kd.C k27 w A0_1 l0_1.length l0_1) (hc0_1 : l0_1.length ≤ c0_1) (h : route_sorted.f k a0_0 l0_1 = some r) :
  Calls Try.prog 40 #[.agg #[.int .i64 a0_0, .slice A0_1 l0_1.length c0_1]] w fun e w' => ∃ v0_ : Value, e = .returned (v0_) ∧ Kd.R (Kd.int .i64) 3 w' w.heap.size (fun _ => True) v0_ r ∧ Below w.heap.size w w' := by
 have hu31 := Try.underlying31
 have hu27 := Try.underlying27
 have HR0_1 := Aside0.mk hr0_1
 have HC0_1 := Aside0.mk hc0_1
 clear hr0_1 hc0_1
 have HB := Aside0.mk (Below.refl w.heap.size w)
 have H : (if 0 ≤ a0_0 then (if (a0_0 : Int).toNat ≤ 35184372088832 then (if (a0_0 : Int).toNat ≤ 11728124029610 then (route_sorted.l0 k (List.replicate (a0_0 : Int).toNat 0) (List.replicate (a0_0 : Int).toNat []) l0_1 (l0_1.length : Int) 0 a0_0 l0_1) else (none)) else (none)) else (none)) = some r := h
 clear h
 by_cases c2 : 0 ≤ a0_0
 ·rw [if_pos c2] at H
  have c2b0 := eq_true c2
  have c2b1 : decide (0 ≤ a0_0) = true := decide_eq_true c2
  clear c2
  by_cases c3 : (a0_0 : Int).toNat ≤ 35184372088832
  ·rw [if_pos c3] at H
   have c3b0 := eq_true c3
   have c3b1 : decide ((a0_0 : Int).toNat ≤ 35184372088832) = true := decide_eq_true c3
   clear c3
   obtain ⟨y102, hy102⟩ : ∃ y_ : List Int, y_ = (List.replicate (a0_0 : Int).toNat 0) := ⟨_, rfl⟩
   replace H : (if (a0_0 : Int).toNat ≤ 11728124029610 then (route_sorted.l0 k y102 (List.replicate (a0_0 : Int).toNat []) l0_1 (l0_1.length : Int) 0 a0_0 l0_1) else (none)) = some r := by first | (rw [hy102]; with_reducible exact H) | (have H2_ := (Option.bind_some _ _).symm.trans H; rw [hy102]; with_reducible exact H2_) | (have H2_ := (Option.bind_some _ _).symm.trans H; with_reducible exact H2_) | with_reducible exact H | (rw [hy102]; exact H) | exact H
   have Ny102 := Aside0.mk hy102
   clear hy102
   by_cases c4 : (a0_0 : Int).toNat ≤ 11728124029610
   ·rw [if_pos c4] at H
    have c4b0 := eq_true c4
    have c4b1 : decide ((a0_0 : Int).toNat ≤ 11728124029610) = true := decide_eq_true c4
    clear c4
    obtain ⟨y105, hy105⟩ : ∃ y_ : List (List Int), y_ = (List.replicate (a0_0 : Int).toNat []) := ⟨_, rfl⟩
    replace H : (route_sorted.l0 k y102 y105 l0_1 (l0_1.length : Int) 0 a0_0 l0_1) = some r := by first | (rw [hy105]; with_reducible exact H) | (have H2_ := (Option.bind_some _ _).symm.trans H; rw [hy105]; with_reducible exact H2_) | (have H2_ := (Option.bind_some _ _).symm.trans H; with_reducible exact H2_) | with_reducible exact H | (rw [hy105]; exact H) | exact H
    have Ny105 := Aside0.mk hy105
    clear hy105
    have H' := Aside0.mk H
    clear H
    go_enter Try.func40, Try.ntmps40
    go_wp2_with (first | ((with_reducible refine gate_dst (N := 1) rfl ?_); refine box_event ?hg (N := 1) ?hd (cs := #[.int .i64 a0_0, .slice A0_1 l0_1.length c0_1]) (t := 31) ?hr ?_; (case hd => rfl); (case hg => rfl); (case hr => first | (go_simp; done) | (go_simp; rfl)); intro gb101 hg w5 hbox hb; have n0_ := Aside0.mk (below_step (hq HB) hb); have n1_ := Aside0.mk (hbox); have n2_ := Aside0.mk ((by rw [hg]; exact (below_size (hq HB)) : w.heap.size ≤ gb101)); have n3_ := Aside0.mk ((by rw [hg]; exact (below_size (hq HB)) : w.heap.size ≤ gb101)); clear HB; have HB := n0_; have BK101 := n1_; have GW101 := n2_; have GE101 := n3_; clear n0_ n1_ n2_ n3_; clear hb hbox hg; have hcz6_0 : w5.cell? ⟨gb101, 0, none⟩ = some (.int .i64 a0_0) := (blk_cell BK101.out 0).trans rfl; have hcz6_1 : w5.cell? ⟨gb101, 1, none⟩ = some (.slice A0_1 l0_1.length c0_1) := (blk_cell BK101.out 1).trans rfl; have hfz6_0 := blk_frozen BK101.out 0; have hfz6_1 := blk_frozen BK101.out 1) | ((with_reducible refine gate_dst (N := 14) rfl ?_); refine Kd.R_make (Kd.int .i64) _ 3 rfl (N := 14) rfl 22 _ _ rfl a0_0 rfl rfl Try.underlying22 (.int .i64 0) 8 info3 rfl (by decide) (by omega) 0 (ok := fun _ => True) (okp := fun _ => True) rfl (fun _ hk => hk) trivial (of_decide_eq_true (by first | (with_reducible assumption) | assumption)) (Nat.le_trans (Nat.mul_le_mul_right _ (of_decide_eq_true (by first | (with_reducible assumption) | assumption) : a0_0.toNat ≤ 35184372088832)) (by omega)) (Below.refl _ _) (Nat.le_refl _) ?_; intro v103 w7 ho8 hb hg_ hnew_; clear hg_ hnew_; (first | rw [← Ny102.out] at ho8 | (simp only [Int.reduceToNat] at ho8; rw [← Ny102.out] at ho8)); have n0_ := Aside0.mk (Kd.R_lower ho8 (below_size (hq HB))); have n1_ := Aside0.mk (blk_below (g := gb101) (o := .cells #[.int .i64 a0_0, .slice A0_1 l0_1.length c0_1] 31 (0, 0)) (bq BK101) hb); have n2_ := Aside0.mk (below_step (hq HB) hb); clear BK101; clear HB; have HO104 := n0_; have BK101 := n1_; have HB := n2_; clear n0_ n1_ n2_; clear hb ho8; have hcz9_0 : w7.cell? ⟨gb101, 0, none⟩ = some (.int .i64 a0_0) := (blk_cell BK101.out 0).trans rfl; have hcz9_1 : w7.cell? ⟨gb101, 1, none⟩ = some (.slice A0_1 l0_1.length c0_1) := (blk_cell BK101.out 1).trans rfl; have hfz9_0 := blk_frozen BK101.out 0; have hfz9_1 := blk_frozen BK101.out 1) | ((with_reducible refine gate_dst (N := 17) rfl ?_); refine Kd.S_make (Kd.slice 3 (Kd.int .i64)) _ 22 rfl (N := 17) rfl 65 _ _ rfl a0_0 rfl rfl Try.underlying65 (.slice none 0 0) 24 info22 rfl (by decide) (by omega) [] (ok := fun _ => True) (okp := fun _ => True) ⟨_, rfl, Kd.R_nil _ _ _ _ _⟩ (fun _ hk => hk) trivial (of_decide_eq_true (by first | (with_reducible assumption) | assumption)) (Nat.le_trans (Nat.mul_le_mul_right _ (of_decide_eq_true (by first | (with_reducible assumption) | assumption) : a0_0.toNat ≤ 11728124029610)) (by omega)) (Below.refl _ _) (Nat.le_refl _) ?_; intro v106 w10 ho11 hb hg_ hnew_; clear hg_ hnew_; (first | rw [← Ny105.out] at ho11 | (simp only [Int.reduceToNat] at ho11; rw [← Ny105.out] at ho11)); have n0_ := Aside0.mk (Kd.R_below (rq HO104) hb); have n1_ := Aside0.mk (Kd.S_lower (Kd.S_new' ho11 (Kd.R_lt (rq HO104))) (below_size (hq HB))); have n2_ := Aside0.mk (blk_below (g := gb101) (o := .cells #[.int .i64 a0_0, .slice A0_1 l0_1.length c0_1] 31 (0, 0)) (bq BK101) hb); have n3_ := Aside0.mk (below_step (hq HB) hb); clear HO104; clear BK101; clear HB; have HO104 := n0_; have HO107 := n1_; have BK101 := n2_; have HB := n3_; clear n0_ n1_ n2_ n3_; clear hb ho11; have hcz12_0 : w10.cell? ⟨gb101, 0, none⟩ = some (.int .i64 a0_0) := (blk_cell BK101.out 0).trans rfl; have hcz12_1 : w10.cell? ⟨gb101, 1, none⟩ = some (.slice A0_1 l0_1.length c0_1) := (blk_cell BK101.out 1).trans rfl; have hfz12_0 := blk_frozen BK101.out 0; have hfz12_1 := blk_frozen BK101.out 1))
    go_loopg [21] k (fun kq v21 w' => ∃ (x3_1 : List Int) (x4_1 : List (List Int)) (x21_1 : Int), v21 = .int .i64 x21_1 ∧ Aside0 (route_sorted.l0 kq x3_1 x4_1 l0_1 (l0_1.length : Int) x21_1 a0_0 l0_1 = some r) ∧ Aside0 (kq ≤ k) ∧ Aside0 (Kd.R (Kd.int .i64) 3 w' w.heap.size (fun _ => True) v103 x3_1) ∧ Aside0 (Kd.S (Kd.slice 3 (Kd.int .i64)) 22 w' w.heap.size (fun k_ => some k_ ≠ (v103 : Value).ownBlock) v106 x4_1) ∧ Aside0 (w'.heap[gb101]? = some (.cells #[.int .i64 a0_0, (.slice A0_1 l0_1.length c0_1)] 31 (0, 0))) ∧ Aside0 (Below w.heap.size w w'))
    case atStart => exact ⟨(y102), (y105), (0), (by first | rfl | (simp; done) | (simp [*]; done)), H', ⟨Nat.le_refl _⟩, ⟨by (with_reducible repeat (first | apply Kd.R_alloc | apply Kd.R_drewN | apply Kd.R_drew)); exact HO104.out⟩, ⟨by (with_reducible repeat (first | apply Kd.S_alloc | apply Kd.S_drewN | apply Kd.S_drew)); exact Kd.S_mono HO107.out (fun _ hk => hk.2)⟩, ⟨by (with_reducible repeat (first | refine blk_drewN ?_ _ | refine blk_drew ?_ | refine blk_alloc ?_ _)); exact BK101.out⟩, ⟨by repeat (first | (with_reducible first | exact HB.out | apply below_alloc | apply pw_below_drewN | apply below_drew1 | refine below_set ?_ GE101.out) | exact HB.out)⟩⟩
    case round =>
     clear H'
     try clear c2
     try clear c2b0
     try clear c2b1
     try clear p2
     try clear c3
     try clear c3b0
     try clear c3b1
     try clear c4
     try clear c4b0
     try clear c4b1
     try clear hcz12_0
     try clear hcz12_1
     try clear hcz6_0
     try clear hcz6_1
     try clear hcz9_0
     try clear hcz9_1
     try clear hfz12_0
     try clear hfz12_1
     try clear hfz6_0
     try clear hfz6_1
     try clear hfz9_0
     try clear hfz9_1
     obtain ⟨x3_1, x4_1, x21_1, rfl, HA, HK1, HO_3, HO_4, BK101, HB⟩ := hrel
     cases gk with
     | zero => exact absurd HA.out (by simp [route_sorted.l0])
     | succ k1 =>
      have H := HA.out
      clear HA
      simp only [route_sorted.l0] at H
      by_cases c13 : x21_1 < (l0_1.length : Int)
      ·rw [if_pos c13] at H
       have c13b0 : decide (x21_1 < (l0_1.length : Int)) = true := decide_eq_true c13
       clear c13
       by_cases c14 : 0 ≤ x21_1
       ·rw [if_pos c14] at H
        have c14b0 : decide (0 ≤ x21_1) = true := decide_eq_true c14
        clear c14
        by_cases c15 : x21_1 < (l0_1.length : Int)
        ·rw [if_pos c15] at H
         have c15b0 : decide (x21_1 < (l0_1.length : Int)) = true := decide_eq_true c15
         clear c15
         by_cases c16 : 0 ≤ ((rd_T27 l0_1 x21_1).f1)
         ·rw [if_pos c16] at H
          have c16b0 : decide (0 ≤ ((rd_T27 l0_1 x21_1).f1)) = true := decide_eq_true c16
          clear c16
          by_cases c17 : ((rd_T27 l0_1 x21_1).f1) < (x3_1.length : Int)
          ·rw [if_pos c17] at H
           have c17b0 : decide (((rd_T27 l0_1 x21_1).f1) < (x3_1.length : Int)) = true := decide_eq_true c17
           clear c17
           obtain ⟨y111, hy111⟩ : ∃ y_ : List Int, y_ = (x3_1.set (((rd_T27 l0_1 x21_1).f1) : Int).toNat (wrap64 ((rd x3_1 ((rd_T27 l0_1 x21_1).f1)) + 1))) := ⟨_, rfl⟩
           replace H : (if 0 ≤ ((rd_T27 l0_1 x21_1).f0) then (if ((rd_T27 l0_1 x21_1).f0) < (x4_1.length : Int) then (if (rd_L4 x4_1 ((rd_T27 l0_1 x21_1).f0)).length < 17592186044416 then (route_sorted.l0 k1 y111 (x4_1.set (((rd_T27 l0_1 x21_1).f0) : Int).toNat ((rd_L4 x4_1 ((rd_T27 l0_1 x21_1).f0)) ++ [(rd_T27 l0_1 x21_1).f1])) l0_1 (l0_1.length : Int) (wrap64 (x21_1 + 1)) a0_0 l0_1) else (none)) else (none)) else (none)) = some r := by first | (rw [hy111]; with_reducible exact H) | (have H2_ := (Option.bind_some _ _).symm.trans H; rw [hy111]; with_reducible exact H2_) | (have H2_ := (Option.bind_some _ _).symm.trans H; with_reducible exact H2_) | with_reducible exact H | (rw [hy111]; exact H) | exact H
           have Ny111 := Aside0.mk hy111
           clear hy111
           by_cases c19 : 0 ≤ ((rd_T27 l0_1 x21_1).f0)
           ·rw [if_pos c19] at H
            have c19b0 : decide (0 ≤ ((rd_T27 l0_1 x21_1).f0)) = true := decide_eq_true c19
            clear c19
            by_cases c20 : ((rd_T27 l0_1 x21_1).f0) < (x4_1.length : Int)
            ·rw [if_pos c20] at H
             have c20b0 : decide (((rd_T27 l0_1 x21_1).f0) < (x4_1.length : Int)) = true := decide_eq_true c20
             clear c20
             by_cases c21 : (rd_L4 x4_1 ((rd_T27 l0_1 x21_1).f0)).length < 17592186044416
             ·rw [if_pos c21] at H
              have LMc21 := Aside0.mk c21
              clear c21
              obtain ⟨y113, hy113⟩ : ∃ y_ : List Int, y_ = ((rd_L4 x4_1 ((rd_T27 l0_1 x21_1).f0)) ++ [(rd_T27 l0_1 x21_1).f1]) := ⟨_, rfl⟩
              replace H : (route_sorted.l0 k1 y111 (x4_1.set (((rd_T27 l0_1 x21_1).f0) : Int).toNat y113) l0_1 (l0_1.length : Int) (wrap64 (x21_1 + 1)) a0_0 l0_1) = some r := by first | (rw [hy113]; with_reducible exact H) | (have H2_ := (Option.bind_some _ _).symm.trans H; rw [hy113]; with_reducible exact H2_) | (have H2_ := (Option.bind_some _ _).symm.trans H; with_reducible exact H2_) | with_reducible exact H | (rw [hy113]; exact H) | exact H
              have Ny113 := Aside0.mk hy113
              clear hy113
              obtain ⟨y116, hy116⟩ : ∃ y_ : List (List Int), y_ = (x4_1.set (((rd_T27 l0_1 x21_1).f0) : Int).toNat y113) := ⟨_, rfl⟩
              replace H : (route_sorted.l0 k1 y111 y116 l0_1 (l0_1.length : Int) (wrap64 (x21_1 + 1)) a0_0 l0_1) = some r := by first | (rw [hy116]; with_reducible exact H) | (have H2_ := (Option.bind_some _ _).symm.trans H; rw [hy116]; with_reducible exact H2_) | (have H2_ := (Option.bind_some _ _).symm.trans H; with_reducible exact H2_) | with_reducible exact H | (rw [hy116]; exact H) | exact H
              have Ny116 := Aside0.mk hy116
              clear hy116
              have H' := Aside0.mk H
              clear H
              have p108 : 0 ≤ (x21_1 : Int) := of_decide_eq_true (by first | (with_reducible assumption) | assumption)
              have q108 : x21_1 < (l0_1.length : Int) := of_decide_eq_true (by first | (with_reducible assumption) | assumption)
              obtain ⟨ad108, e108, hx108_0, hx108_1⟩ := at_T27 HR0_1.out x21_1 p108 q108
              cases e108
              (try replace hx108_0 := (HB.out.cell (World.block_lt_of_cell? w _ hx108_0)).trans hx108_0)
              (try replace hx108_1 := (HB.out.cell (World.block_lt_of_cell? w _ hx108_1)).trans hx108_1)
              replace p108 := eq_true p108
              replace q108 := eq_true q108
              try go_wp2_with (first | ((with_reducible refine gate_dst (N := 6) rfl ?_); refine box_event ?hg (N := 6) ?hd (cs := #[.int .i64 0, .int .i64 0]) (t := 27) ?hr ?_; (case hd => rfl); (case hg => rfl); (case hr => first | (go_simp; done) | (go_simp; rfl)); intro gb109 hg w23 hbox hb; have n0_ := Aside0.mk (Kd.R_below (rq HO_3) hb); have n1_ := Aside0.mk (Kd.S_below (sq HO_4) hb); have n2_ := Aside0.mk (blk_below (g := gb101) (o := .cells #[.int .i64 a0_0, .slice (some ad108) l0_1.length c0_1] 31 (0, 0)) (bq BK101) hb); have n3_ := Aside0.mk (below_step (hq HB) hb); have n4_ := Aside0.mk (hbox); have n5_ := Aside0.mk ((by rw [hg]; exact (below_size (hq HB)) : w.heap.size ≤ gb109)); have n6_ := Aside0.mk ((by rw [hg]; exact (below_size (hq HB)) : w.heap.size ≤ gb109)); have n7_ := Aside0.mk ((by rw [hg]; exact Nat.ne_of_lt (blk_lt (g := gb101) (o := .cells #[.int .i64 a0_0, .slice (some ad108) l0_1.length c0_1] 31 (0, 0)) (bq BK101)) : gb101 ≠ gb109)); have n8_ := Aside0.mk ((by rw [hg]; exact Nat.ne_of_gt (blk_lt (g := gb101) (o := .cells #[.int .i64 a0_0, .slice (some ad108) l0_1.length c0_1] 31 (0, 0)) (bq BK101)) : gb109 ≠ gb101)); clear HO_3; clear HO_4; clear BK101; clear HB; have HO_3 := n0_; have HO_4 := n1_; have BK101 := n2_; have HB := n3_; have BK109 := n4_; have GW109 := n5_; have GE109 := n6_; have NB101_109 := n7_; have NB109_101 := n8_; clear n0_ n1_ n2_ n3_ n4_ n5_ n6_ n7_ n8_; clear hb hbox hg; have hnb24 := NB109_101.out; have hnc24 := NB101_109.out; have hcz25_0 : w23.cell? ⟨gb109, 0, none⟩ = some (.int .i64 0) := (blk_cell BK109.out 0).trans rfl; have hcz25_1 : w23.cell? ⟨gb109, 1, none⟩ = some (.int .i64 0) := (blk_cell BK109.out 1).trans rfl; have hfz25_0 := blk_frozen BK109.out 0; have hfz25_1 := blk_frozen BK109.out 1) | ((with_reducible refine gate_store (t := 27) (p := 6) rfl ?_); refine store_event (t := 27) (p := 6) (v := ?vo_w26) (w1 := ((w23.setCell ⟨gb109, 0, none⟩ (.int .i64 ((rd_T27 l0_1 x21_1).f0))).setCell ⟨gb109, 1, none⟩ (.int .i64 ((rd_T27 l0_1 x21_1).f1)))) ?hg ?ho ?hn ?hr ?_; (case ho => rfl); (case hg => rfl); (case hn => rfl); (case hr => first | (go_simp; done) | (go_simp; rfl)); intro w26 hw; have n0_ : Aside0 (Kd.R (Kd.int .i64) 3 w26 w.heap.size (fun _ => True) v103 x3_1) := ⟨(by rw [hw]; exact (by (with_reducible repeat (first | apply Kd.R_alloc | apply Kd.R_drewN | apply Kd.R_drew)); exact Kd.R_mono (Kd.R_far (p := ⟨gb109, 1, none⟩) (Kd.R_far (p := ⟨gb109, 0, none⟩) (Kd.R_types HO_3.out BK109.out (by decide)) (fun _ hk => hk.2) (.int .i64 ((rd_T27 l0_1 x21_1).f0))) (fun _ hk => hk.2) (.int .i64 ((rd_T27 l0_1 x21_1).f1))) (fun _ hk => trivial)))⟩; have n1_ : Aside0 (Kd.S (Kd.slice 3 (Kd.int .i64)) 22 w26 w.heap.size (fun k_ => some k_ ≠ (v103 : Value).ownBlock) v106 x4_1) := ⟨(by rw [hw]; exact (by (with_reducible repeat (first | apply Kd.S_alloc | apply Kd.S_drewN | apply Kd.S_drew)); exact Kd.S_mono (Kd.S_far (p := ⟨gb109, 1, none⟩) (Kd.S_far (p := ⟨gb109, 0, none⟩) (Kd.S_types HO_4.out BK109.out (by decide)) (fun _ hk => hk.2) (.int .i64 ((rd_T27 l0_1 x21_1).f0))) (fun _ hk => hk.2) (.int .i64 ((rd_T27 l0_1 x21_1).f1))) (fun _ hk => hk.1)))⟩; have n2_ : Aside0 (w26.heap[gb101]? = some (.cells #[.int .i64 a0_0, .slice (some ad108) l0_1.length c0_1] 31 (0, 0))) := ⟨(by rw [hw]; exact (by (with_reducible repeat (first | refine blk_drewN ?_ _ | refine blk_drew ?_ | refine blk_alloc ?_ _)); refine blk_far ?_ NB101_109.out _; (with_reducible repeat (first | refine blk_drewN ?_ _ | refine blk_drew ?_ | refine blk_alloc ?_ _)); refine blk_far ?_ NB101_109.out _; (with_reducible repeat (first | refine blk_drewN ?_ _ | refine blk_drew ?_ | refine blk_alloc ?_ _)); exact BK101.out))⟩; have n3_ : Aside0 (w26.heap[gb109]? = some (.cells #[.int .i64 ((rd_T27 l0_1 x21_1).f0), .int .i64 ((rd_T27 l0_1 x21_1).f1)] 27 (0, 0))) := ⟨(by rw [hw]; exact (by (with_reducible repeat (first | refine blk_drewN ?_ _ | refine blk_drew ?_ | refine blk_alloc ?_ _)); refine blk_put (cs := #[.int .i64 ((rd_T27 l0_1 x21_1).f0), .int .i64 0]) ?_ 1 _ rfl; (with_reducible repeat (first | refine blk_drewN ?_ _ | refine blk_drew ?_ | refine blk_alloc ?_ _)); refine blk_put (cs := #[.int .i64 0, .int .i64 0]) ?_ 0 _ rfl; (with_reducible repeat (first | refine blk_drewN ?_ _ | refine blk_drew ?_ | refine blk_alloc ?_ _)); exact BK109.out))⟩; have n4_ : Aside0 (Below w.heap.size w w26) := ⟨(by rw [hw]; exact (hq HB))⟩; clear hw; clear HO_3; clear HO_4; clear BK101; clear BK109; clear HB; have HO_3 := n0_; have HO_4 := n1_; have BK101 := n2_; have BK109 := n3_; have HB := n4_; clear n0_ n1_ n2_ n3_ n4_; have hcz27_0 : w26.cell? ⟨gb109, 0, none⟩ = some (.int .i64 ((rd_T27 l0_1 x21_1).f0)) := (blk_cell BK109.out 0).trans rfl; have hcz27_1 : w26.cell? ⟨gb109, 1, none⟩ = some (.int .i64 ((rd_T27 l0_1 x21_1).f1)) := (blk_cell BK109.out 1).trans rfl; have hfz27_0 := blk_frozen BK109.out 0; have hfz27_1 := blk_frozen BK109.out 1; obtain ⟨Ao28, co28, eo28⟩ := Kd.R_slice HO_3.out; subst eo28; have p110 : 0 ≤ (((rd_T27 l0_1 x21_1).f1) : Int) := of_decide_eq_true (by first | (with_reducible assumption) | assumption); have q110 : ((rd_T27 l0_1 x21_1).f1) < (x3_1.length : Int) := of_decide_eq_true (by first | (with_reducible assumption) | assumption); obtain ⟨ad110, e110, hx110_0⟩ := Kd.at_int (Kd.R_reads' HO_3.out).2.2 ((rd_T27 l0_1 x21_1).f1) p110 q110; cases e110; replace p110 := eq_true p110; replace q110 := eq_true q110; have p18 : 0 ≤ (((rd_T27 l0_1 x21_1).f1) : Int) := of_decide_eq_true (by first | (with_reducible assumption) | assumption); have q18 : (((rd_T27 l0_1 x21_1).f1) : Int) < ((x3_1.length : Int) : Int) := of_decide_eq_true (by first | (with_reducible assumption) | assumption); obtain ⟨go18, co18, eo18, gb18, gl18, cl18, HG18⟩ := Kd.R_form HO_3.out (by omega); (first | cases eo18 | (injection eo18 with ea_ en_ ec_; (first | subst ea_ | (injection ea_ with ea_; subst ea_)); subst ec_; clear en_)); have GB18 := Aside0.mk gb18; have GG18 := Aside0.mk HG18; clear gb18 gl18 HG18; (first | simp only [add_plain] at hx110_0 | skip); obtain ⟨hx18_0, hf18_0⟩ := Kd.R_celln 0 HO_3.out (((rd_T27 l0_1 x21_1).f1) : Int) p18 q18; replace p18 := eq_true p18; replace q18 := eq_true q18; obtain ⟨hy29_, hz29_⟩ := Kd.R_celln 0 HO_3.out (((rd_T27 l0_1 x21_1).f1) : Int) (of_decide_eq_true (by first | (with_reducible assumption) | assumption)) (of_decide_eq_true (by first | (with_reducible assumption) | assumption)); have HP29 := Kd.R_putg HO_3.out (((rd_T27 l0_1 x21_1).f1) : Int) (wrap64 ((rd x3_1 ((rd_T27 l0_1 x21_1).f1)) + 1))) | ((with_reducible refine gate_store (t := 3) (p := 31) rfl ?_); refine store_event (t := 3) (p := 31) (v := ?vo_w30) (w1 := (w26.setCell ⟨go18, (((rd_T27 l0_1 x21_1).f1) : Int).toNat, none⟩ (.int .i64 (wrap64 ((rd x3_1 ((rd_T27 l0_1 x21_1).f1)) + 1))))) ?hg ?ho ?hn ?hr ?_; (case ho => rfl); (case hg => rfl); (case hn => rfl); (case hr => first | (go_simp; done) | (go_simp; rfl)); intro w30 hw; have hg : w26.grownBy w30 (some go18) := (by rw [hw]; exact HP29.2); have hp_ : Kd.R (Kd.int .i64) 3 w30 w.heap.size (fun _ => True) (.slice (some ⟨go18, 0, none⟩) x3_1.length co28) y111 := (by rw [hw, Ny111.out]; exact HP29.1); clear HP29; have n0_ := Aside0.mk (hp_); have n1_ := Aside0.mk (Kd.S_after (v := (.slice (some ⟨go18, 0, none⟩) x3_1.length co28)) (v1 := (.slice (some ⟨go18, 0, none⟩) x3_1.length co28)) (ok := (fun _ => True)) (by (with_reducible repeat (first | apply Kd.S_alloc | apply Kd.S_drewN | apply Kd.S_drew)); exact Kd.S_mono HO_4.out (fun _ hk => ⟨trivial, hk⟩)) hg (.inl rfl)); have n2_ := Aside0.mk (blk_grown (g := gb101) (o := .cells #[.int .i64 a0_0, .slice (some ad108) l0_1.length c0_1] 31 (0, 0)) (bq BK101) hg (Kd.R_ne HO_3.out BK101.out (by decide))); have n3_ := Aside0.mk (blk_grown (g := gb109) (o := .cells #[.int .i64 ((rd_T27 l0_1 x21_1).f0), .int .i64 ((rd_T27 l0_1 x21_1).f1)] 27 (0, 0)) (bq BK109) hg (Kd.R_ne HO_3.out BK109.out (by decide))); have n4_ := Aside0.mk ((by rw [hw]; exact below_set (HB.out) GB18.out : Below w.heap.size w w30)); clear HO_3; clear HO_4; clear BK101; clear BK109; clear HB; have HO_3 := n0_; have HO_4 := n1_; have BK101 := n2_; have BK109 := n3_; have HB := n4_; clear n0_ n1_ n2_ n3_ n4_; clear hg hw hp_))
              have n0_ := Aside0.mk (Kd.R_drew HO_3.out)
              have n1_ := Aside0.mk (Kd.S_drew HO_4.out)
              have n2_ := Aside0.mk (blk_drew BK101.out)
              have n3_ := Aside0.mk (blk_drew BK109.out)
              have n4_ := Aside0.mk (below_drew1 HB.out)
              clear HO_3
              clear HO_4
              clear BK101
              clear BK109
              clear HB
              have HO_3 := n0_
              have HO_4 := n1_
              have BK101 := n2_
              have BK109 := n3_
              have HB := n4_
              clear n0_ n1_ n2_ n3_ n4_
              obtain ⟨Ao32, co32, eo32⟩ := Kd.S_slice HO_4.out
              (first | subst eo32 | (injection eo32 with f1_ f2_ f3_; have f4_ := f1_.symm; have f5_ := f3_.symm; clear f1_ f2_ f3_; subst f4_; subst f5_))
              have p112 : 0 ≤ (((rd_T27 l0_1 x21_1).f0) : Int) := of_decide_eq_true (by first | (with_reducible assumption) | assumption)
              have q112 : ((rd_T27 l0_1 x21_1).f0) < (x4_1.length : Int) := of_decide_eq_true (by first | (with_reducible assumption) | assumption)
              try (obtain ⟨Az112_, cz112_, ez112_⟩ := Kd.S_slice HO_4.out; subst ez112_)
              obtain ⟨ad112, A112_0, c112_0, e112, hx112_0, hl112_0, hi112_0⟩ := at_L4 (Kd.S_reads' HO_4.out).2.2 ((rd_T27 l0_1 x21_1).f0) p112 q112
              cases e112
              obtain ⟨ce112, hce112, hMe112, hcc112⟩ := Kd.S_get HO_4.out [] ((rd_T27 l0_1 x21_1).f0) p112 (by first | exact q112 | exact of_decide_eq_true (by first | (with_reducible assumption) | assumption) | (have e_ := (Kd.S_reads' HO_4.out).1; omega))
              obtain ⟨ve112_0, rfl, ge112_0⟩ := hMe112
              have hv112_0 := hcc112 0 _ rfl
              rw [Nat.add_zero, show ((Kd.slice 3 (Kd.int .i64))).sz = 1 from rfl, Nat.mul_one] at hv112_0
              replace hv112_0 := Option.some.inj (hv112_0.symm.trans hx112_0)
              rw [hv112_0] at ge112_0
              have HL112_0 := Aside0.mk (show Kd.R (Kd.int .i64) 3 _ _ _ _ (rd_L4 x4_1 ((rd_T27 l0_1 x21_1).f0)) from ge112_0)
              clear hv112_0 ge112_0
              have HX112_0 := Aside0.mk hx112_0
              clear hcc112 hce112
              have HR112_0 := Aside0.mk hi112_0
              have HC112_0 := Aside0.mk hl112_0
              clear hi112_0 hl112_0
              replace p112 := eq_true p112
              replace q112 := eq_true q112
              have n_ := Aside0.mk (Kd.S_mono (ok' := (fun k_ => some k_ ≠ (.slice (some ⟨go18, 0, none⟩) x3_1.length co28 : Value).ownBlock)) HO_4.out (fun k_ hk => hk.2))
              clear HO_4
              have HO_4 := n_
              clear n_
              obtain ⟨go33, co33, eo33, gb33, gl33, cl33, HG33⟩ := Kd.S_form HO_4.out (by have h_ : (((rd_T27 l0_1 x21_1).f0) : Int) < ((x4_1.length : Int) : Int) := of_decide_eq_true (by first | (with_reducible assumption) | assumption); have h2_ : 0 ≤ (((rd_T27 l0_1 x21_1).f0) : Int) := (of_decide_eq_true (by first | (with_reducible assumption) | assumption)); omega)
              (first | cases eo33 | (injection eo33 with ea_ en_ ec_; (first | subst ea_ | (injection ea_ with ea_; subst ea_)); subst ec_; clear en_))
              have GB33 := Aside0.mk gb33
              have GG33 := Aside0.mk HG33
              clear gb33 gl33 HG33
              (first | simp only [add_plain] at hx112_0 | skip)
              obtain ⟨oki33, ce33, hcl33, hM33, hcc33, _, _, hH33⟩ := Kd.S_elem HO_4.out [] (((rd_T27 l0_1 x21_1).f0) : Int) (of_decide_eq_true (by first | (with_reducible assumption) | assumption)) (by have h_ : (((rd_T27 l0_1 x21_1).f0) : Int) < ((x4_1.length : Int) : Int) := of_decide_eq_true (by first | (with_reducible assumption) | assumption); first | exact h_ | (have e_ := (Kd.S_reads' HO_4.out).1; omega) | simpa using h_)
              obtain ⟨ve33_0, rfl, ge33_0⟩ := hM33
              have hv33 := hcc33 0 _ rfl
              have hX33 := HX112_0.out
              (try simp only [add_plain] at hX33)
              (try simp only [Nat.add_zero] at hv33)
              (try rw [show ((Kd.slice 3 (Kd.int .i64))).sz = 1 from rfl, Nat.mul_one] at hv33)
              replace hv33 := Option.some.inj (hv33.symm.trans hX33)
              subst hv33
              clear hX33 hcc33 hcl33
              have UU33 := Aside0.mk (show Kd.R (Kd.int .i64) 3 _ w.heap.size oki33 (.slice A112_0 (rd_L4 x4_1 ((rd_T27 l0_1 x21_1).f0)).length c112_0) (rd_L4 x4_1 ((rd_T27 l0_1 x21_1).f0)) from ge33_0)
              have HH33 := Aside0.mk hH33
              have HN33 := Aside0.mk (Kd.S_reads' HO_4.out).1
              clear hH33 ge33_0
              refine start_ (n := 14) (S := fun w' => w'.cell? ⟨gb109, 0, none⟩ = some (.int .i64 ((rd_T27 l0_1 x21_1).f0)) ∧ w'.cell? ⟨gb109, 1, none⟩ = some (.int .i64 ((rd_T27 l0_1 x21_1).f1)) ∧ w'.cell? ⟨go33, (((rd_T27 l0_1 x21_1).f0)).toNat, none⟩ = some (.slice A112_0 (rd_L4 x4_1 ((rd_T27 l0_1 x21_1).f0)).length c112_0)) (ds := [13]) #[false, false, false, false, false, false, false, false, false, false, false, false, false, false] (by kernel_rfl) rfl rfl ⟨(blk_cell BK109.out 0).trans rfl, (blk_cell BK109.out 1).trans rfl, hx112_0⟩ (fun hHeld => ?_); refine with_tabW route_sorted.tab7 route_sorted.bits7 (fun HT_ HW_ => ?_)
              generalize w30.drew = w31 at HO_3 HO_4 BK101 BK109 HB GG33 HH33 HL112_0 HR112_0 HX112_0 UU33 hx112_0 hHeld ⊢
              refine pure_ (i := 0) (N := some 32) (v := ?_) (a' := ?_) #[true, false, false, false, false, false, false, false, false, false, false, false, false, false] rfl rfl (any_of HT_.out (by kernel_rfl)) (fun _ _ _ h => h) (Or.inl ⟨by rfl, ?_⟩) ?_ ?_
              rotate_left
              ·intro w'
               go_simp
               with_reducible rfl
              rotate_left
              ·simp only [Act.put, List.setIfInBounds_toArray, List.set_cons_zero, List.set_cons_succ, i64_w, i32_w]
               rfl
              refine pure_ (i := 1) (N := some 33) (v := ?_) (a' := ?_) #[true, true, false, false, false, false, false, false, false, false, false, false, false, false] rfl rfl (any_of HT_.out (by kernel_rfl)) (fun _ _ _ h => h) (Or.inl ⟨by rfl, ?_⟩) ?_ ?_
              rotate_left
              ·intro w'
               go_simp
               with_reducible rfl
              rotate_left
              ·simp only [Act.put, List.setIfInBounds_toArray, List.set_cons_zero, List.set_cons_succ, i64_w, i32_w]
               rfl
              refine pure_ (i := 3) (N := some 35) (v := ?_) (a' := ?_) #[true, true, false, true, false, false, false, false, false, false, false, false, false, false] rfl rfl (any_of HT_.out (by kernel_rfl)) (fun _ _ _ h => h) (Or.inl ⟨by rfl, ?_⟩) ?_ ?_
              rotate_left
              ·intro w'
               go_simp
               with_reducible rfl
              rotate_left
              ·simp only [Act.put, List.setIfInBounds_toArray, List.set_cons_zero, List.set_cons_succ, i64_w, i32_w]
               rfl
              refine pure_ (i := 4) (N := some 36) (v := ?_) (a' := ?_) #[true, true, false, true, true, false, false, false, false, false, false, false, false, false] rfl rfl (any_of HT_.out (by kernel_rfl)) (fun _ _ _ h => h) (Or.inl ⟨by rfl, ?_⟩) ?_ ?_
              rotate_left
              ·intro w'
               go_simp
               with_reducible rfl
              rotate_left
              ·simp only [Act.put, List.setIfInBounds_toArray, List.set_cons_zero, List.set_cons_succ, i64_w, i32_w]
               rfl
              refine pure_ (i := 8) (N := some 40) (v := ?_) (a' := ?_) #[true, true, false, true, true, false, false, false, true, false, false, false, false, false] rfl rfl (any_of HT_.out (by kernel_rfl)) (fun _ _ _ h => h) (Or.inl ⟨by rfl, ?_⟩) ?_ ?_
              rotate_left
              ·intro w'
               go_simp
               with_reducible rfl
              rotate_left
              ·simp only [Act.put, List.setIfInBounds_toArray, List.set_cons_zero, List.set_cons_succ, i64_w, i32_w]
               rfl
              refine take_ (i := 2) (N := some 34) (v := ?_) (a' := ?_) #[true, true, true, true, true, false, false, false, true, false, false, false, false, false] rfl rfl (take_ofW HT_.out HW_.out (by kernel_rfl)) (fun _ _ _ h => h) (Or.inl ⟨by rfl, ?_⟩) hHeld ?_ ?_
              rotate_left
              ·rintro w' ⟨s0, s1, s2⟩
               go_simp
               with_reducible rfl
              rotate_left
              ·simp only [Act.put, List.setIfInBounds_toArray, List.set_cons_zero, List.set_cons_succ, i64_w, i32_w]
               rfl
              refine take_ (i := 5) (N := some 37) (v := ?_) (a' := ?_) #[true, true, true, true, true, true, false, false, true, false, false, false, false, false] rfl rfl (take_ofW HT_.out HW_.out (by kernel_rfl)) (fun _ _ _ h => h) (Or.inl ⟨by rfl, ?_⟩) hHeld ?_ ?_
              rotate_left
              ·rintro w' ⟨s0, s1, s2⟩
               go_simp
               with_reducible rfl
              rotate_left
              ·simp only [Act.put, List.setIfInBounds_toArray, List.set_cons_zero, List.set_cons_succ, i64_w, i32_w]
               rfl
              refine pure_ (i := 6) (N := some 38) (v := ?_) (a' := ?_) #[true, true, true, true, true, true, true, false, true, false, false, false, false, false] rfl rfl (any_of HT_.out (by kernel_rfl)) (fun _ _ _ h => h) (Or.inl ⟨by rfl, ?_⟩) ?_ ?_
              rotate_left
              ·intro w'
               go_simp
               with_reducible rfl
              rotate_left
              ·simp only [Act.put, List.setIfInBounds_toArray, List.set_cons_zero, List.set_cons_succ, i64_w, i32_w]
               rfl
              refine take_ (i := 7) (N := some 39) (v := ?_) (a' := ?_) #[true, true, true, true, true, true, true, true, true, false, false, false, false, false] rfl rfl (take_ofW HT_.out HW_.out (by kernel_rfl)) (fun _ _ _ h => h) (Or.inl ⟨by rfl, ?_⟩) hHeld ?_ ?_
              rotate_left
              ·rintro w' ⟨s0, s1, s2⟩
               go_simp
               with_reducible rfl
              rotate_left
              ·simp only [Act.put, List.setIfInBounds_toArray, List.set_cons_zero, List.set_cons_succ, i64_w, i32_w]
               rfl
              refine take_ (i := 9) (N := some 41) (v := ?_) (a' := ?_) #[true, true, true, true, true, true, true, true, true, true, false, false, false, false] rfl rfl (take_ofW HT_.out HW_.out (by kernel_rfl)) (fun _ _ _ h => h) (Or.inl ⟨by rfl, ?_⟩) hHeld ?_ ?_
              rotate_left
              ·rintro w' ⟨s0, s1, s2⟩
               go_simp
               with_reducible rfl
              rotate_left
              ·simp only [Act.put, List.setIfInBounds_toArray, List.set_cons_zero, List.set_cons_succ, i64_w, i32_w]
               rfl
              refine one_ (i := 10) (N := some 42) #[true, true, true, true, true, true, true, true, true, true, true, false, false, false] rfl rfl (one_of HT_.out (by kernel_rfl)) (by decide) (fun K hK => ?_)
              refine value_ (w1 := ?_) (v := ?_) (by rfl) rfl ?_ ?_
              rotate_left 2
              ·go_simp
               constructor
               ·rfl
               ·rfl
              refine hK.out _ _ ⟨(blk_cell (blk_alloc BK109.out _) 0).trans rfl, (blk_cell (blk_alloc BK109.out _) 1).trans rfl, (World.cell?_alloc_lt _ _ _ (World.block_lt_of_cell? _ _ (hHeld.2.2))).trans (hHeld.2.2)⟩ (fun hHeld => ?_)
              clear hK K
              refine norm_ (a' := ?_) ?_ ?_
              rotate_left
              ·show Act.put _ (some 42) _ = _
               simp only [Act.put, List.setIfInBounds_toArray, List.set_cons_zero, List.set_cons_succ, i64_w, i32_w]
               rfl
              refine one_ (i := 11) (N := some 43) #[true, true, true, true, true, true, true, true, true, true, true, true, false, false] rfl rfl (one_of HT_.out (by kernel_rfl)) (by decide) (fun K hK => ?_)
              refine Kd.R_append_step (Kd.int .i64) (w0 := w) w.heap.size (by rfl) (.tmp 39) (.tmp 42) 22 3 (.int .i64 0) 8 rfl Try.underlying22 info3 rfl (by decide) (by omega) (.slice A112_0 (rd_L4 x4_1 ((rd_T27 l0_1 x21_1).f0)).length c112_0) (rd_L4 x4_1 ((rd_T27 l0_1 x21_1).f0)) ((rd_T27 l0_1 x21_1).f1) [.int .i64 ((rd_T27 l0_1 x21_1).f1)] (fun k_ => oki33 k_ ∨ ((fun k_ => some k_ ≠ (.slice (some ⟨go18, 0, none⟩) x3_1.length co28 : Value).ownBlock)) k_ ∧ w31.heap.size ≤ k_) (fun _ => False) rfl rfl ?aP (fun _ hk => hk.elim) ?aF ?aO ?aB ?aS ?aL ?_
              (case aP => exact rfl)
              (case aB => exact (hq HB))
              (case aF => exact (fun k_ hk => .inr ⟨Kd.fresh' (Kd.R_lt (rq HO_3)) k_ hk, hk⟩))
              (case aO => exact (by (with_reducible repeat (first | apply Kd.R_alloc | apply Kd.R_drewN | apply Kd.R_drew)); exact Kd.R_mono UU33.out (fun _ hk => .inl hk)))
              (case aS => exact (below_size (hq HB)))
              (case aL => have := LMc21.out; omega)
              intro v114 w34 ho hb hg hat
              (first | have HS2_ := cell_grown hg (hHeld.2.2) (by first | (rw [add_block]; exact (fun e_ => ((HL112_0.out.1 _ e_.symm).2) rfl)) | (show some (Addr.add _ _).block ≠ _; rw [add_block]; exact (fun e_ => ((HL112_0.out.1 _ e_.symm).2) rfl)) | exact (fun e_ => ((HL112_0.out.1 _ e_.symm).2) rfl)) | have HS2_ := cell_grown hg (cell_unalloc (hHeld.2.2) (by first | (rw [add_block]; exact Kd.S_lt HO_4.out _ rfl) | (show (Addr.add _ _).block < _; rw [add_block]; exact Kd.S_lt HO_4.out _ rfl) | exact Kd.S_lt HO_4.out _ rfl)) (by first | (rw [add_block]; exact (fun e_ => ((HL112_0.out.1 _ e_.symm).2) rfl)) | (show some (Addr.add _ _).block ≠ _; rw [add_block]; exact (fun e_ => ((HL112_0.out.1 _ e_.symm).2) rfl)) | exact (fun e_ => ((HL112_0.out.1 _ e_.symm).2) rfl)))
              rw [← Ny113.out] at ho
              have n0_ := Aside0.mk (Kd.R_grown2 (rq HO_3) rfl hg (fun k_ e_ => (HL112_0.out.1 k_ e_).1.2))
              have n1_ := Aside0.mk (blk_grown (g := gb101) (o := .cells #[.int .i64 a0_0, .slice (some ad108) l0_1.length c0_1] 31 (0, 0)) (bq BK101) hg (Kd.R_ne HL112_0.out BK101.out (by decide)))
              have n2_ := Aside0.mk (blk_grown (g := gb109) (o := .cells #[.int .i64 ((rd_T27 l0_1 x21_1).f0), .int .i64 ((rd_T27 l0_1 x21_1).f1)] 27 (0, 0)) (bq BK109) hg (Kd.R_ne HL112_0.out BK109.out (by decide)))
              have n3_ := Aside0.mk (hb)
              have n4_ := Aside0.mk (Kd.H_grown (Kd.H_widen (by repeat (first | exact HH33.out | refine Kd.H_alloc ?_ _ | refine Kd.H_drewN ?_ _ | refine Kd.H_drew ?_))) hg (fun k_ e_ => .inl (UU33.out.1 k_ e_)))
              have n5_ := Aside0.mk (ho)
              clear HO_3
              clear BK101
              clear BK109
              clear HB
              clear HH33
              clear HO_4
              clear UU33
              clear HL112_0
              have HO_3 := n0_
              have BK101 := n1_
              have BK109 := n2_
              have HB := n3_
              have HH33 := n4_
              have HO115 := n5_
              clear n0_ n1_ n2_ n3_ n4_ n5_
              clear ho hb hg hat
              have p22 : 0 ≤ (((rd_T27 l0_1 x21_1).f0) : Int) := of_decide_eq_true (by first | (with_reducible assumption) | assumption)
              have q22 : (((rd_T27 l0_1 x21_1).f0) : Int) < ((x4_1.length : Int) : Int) := of_decide_eq_true (by first | (with_reducible assumption) | assumption)
              replace p22 := eq_true p22
              replace q22 := eq_true q22
              obtain ⟨Ao37, co37, eo37⟩ := Kd.R_slice HO115.out
              (first | subst eo37 | (injection eo37 with f1_ f2_ f3_; have f4_ := f1_.symm; have f5_ := f3_.symm; clear f1_ f2_ f3_; subst f4_; subst f5_))
              obtain ⟨_, _, hraw35, _, _, hcc35, _⟩ := Kd.H_raw HH33.out (of_decide_eq_true (by first | (with_reducible assumption) | assumption)) (by have h_ : (((rd_T27 l0_1 x21_1).f0) : Int) < ((x4_1.length : Int) : Int) := of_decide_eq_true (by first | (with_reducible assumption) | assumption); first | exact h_ | (have e_ := (HN33.out); omega) | simpa using h_)
              obtain ⟨_, hfr35⟩ := Kd.H_at HH33.out (of_decide_eq_true (by first | (with_reducible assumption) | assumption)) (by have h_ : (((rd_T27 l0_1 x21_1).f0) : Int) < ((x4_1.length : Int) : Int) := of_decide_eq_true (by first | (with_reducible assumption) | assumption); first | exact h_ | (have e_ := (HN33.out); omega) | simpa using h_)
              have hx35_0 := hcc35 0 _ rfl
              have hf35_0 := hfr35 0
              (try simp only [Nat.add_zero] at hx35_0 hf35_0)
              (try rw [show ((Kd.slice 3 (Kd.int .i64))).sz = 1 from rfl, Nat.mul_one] at hx35_0)
              (try rw [show ((Kd.slice 3 (Kd.int .i64))).sz = 1 from rfl, Nat.mul_one] at hf35_0)
              have HP35 := Kd.S_seg0 HH33.out (of_decide_eq_true (by first | (with_reducible assumption) | assumption)) (by have h_ : (((rd_T27 l0_1 x21_1).f0) : Int) < ((x4_1.length : Int) : Int) := of_decide_eq_true (by first | (with_reducible assumption) | assumption); first | exact h_ | (have e_ := (HN33.out); omega) | simpa using h_) (seg := [.slice Ao37 y113.length co37]) (j := 0) (show 1 ≤ 1 from by decide) (x' := y113) (Kd.M_row HO115.out) (fun _ hk => hk)
              (try simp only [show ((Kd.slice 3 (Kd.int .i64))).sz = 1 from rfl, Nat.mul_one, Nat.add_zero] at HP35)
              clear hcc35 hfr35
              have HNB101_go33 := Aside0.mk (show gb101 ≠ go33 from by have h_ := Kd.R_ne hraw35 BK101.out (by decide); intro e_; exact h_ (by rw [e_]; rfl))
              have HNB109_go33 := Aside0.mk (show gb109 ≠ go33 from by have h_ := Kd.R_ne hraw35 BK109.out (by decide); intro e_; exact h_ (by rw [e_]; rfl))
              have HS35 := HP35.1
              rw [← Ny116.out] at HS35
              have HQ35 := Aside0.mk HS35
              obtain ⟨_, hgg35⟩ := Kd.R_typed hraw35 go33 rfl
              have GG35_ := Aside0.mk hgg35
              clear HP35 HS35 hgg35
              refine hK.out _ _ ⟨(blk_cell BK109.out 0).trans rfl, (blk_cell BK109.out 1).trans rfl, HS2_⟩ (fun hHeld => ?_)
              clear hK K
              refine norm_ (a' := ?_) ?_ ?_
              rotate_left
              ·show Act.put _ (some 43) _ = _
               simp only [Act.put, List.setIfInBounds_toArray, List.set_cons_zero, List.set_cons_succ, i64_w, i32_w]
               rfl
              refine pure_ (i := 12) (N := some 44) (v := ?_) (a' := ?_) #[true, true, true, true, true, true, true, true, true, true, true, true, true, false] rfl rfl (any_of HT_.out (by kernel_rfl)) (fun _ _ _ h => h) (Or.inl ⟨by rfl, ?_⟩) ?_ ?_
              rotate_left
              ·intro w'
               go_simp
               with_reducible rfl
              rotate_left
              ·simp only [Act.put, List.setIfInBounds_toArray, List.set_cons_zero, List.set_cons_succ, i64_w, i32_w]
               rfl
              refine last_ (i := 13) (N := none) #[true, true, true, true, true, true, true, true, true, true, true, true, true, true] rfl rfl (one_of HT_.out (by kernel_rfl)) (by decide) (fun K hK => ?_)
              refine skip_ (w1 := ?_) (by rfl) rfl ?_ ?_
              rotate_left
              ·go_simp
               rfl
              refine hK.out _ _ ?_
              clear hK K
              refine done_ (done_of HT_.out (by kernel_rfl)) ?_
              try go_wp2
              go_roundg k1
              case measure => have := HK1.out; omega
              case rel => exact ⟨(y111), (y116), (wrap64 (x21_1 + 1)), (by first | rfl | (simp; done) | (simp [*]; done)), H', ⟨by have := HK1.out; omega⟩, ⟨by (with_reducible repeat (first | apply Kd.R_alloc | apply Kd.R_drewN | apply Kd.R_drew)); exact Kd.R_mono (Kd.R_far (p := ⟨go33, (((rd_T27 l0_1 x21_1).f0) : Int).toNat, none⟩) (Kd.R_types HO_3.out GG35_.out (by decide)) (fun _ hk => hk.2) (.slice Ao37 y113.length co37)) (fun _ hk => trivial)⟩, ⟨by (with_reducible repeat (first | apply Kd.S_alloc | apply Kd.S_drewN | apply Kd.S_drew)); exact HQ35.out⟩, ⟨by (with_reducible repeat (first | refine blk_drewN ?_ _ | refine blk_drew ?_ | refine blk_alloc ?_ _)); refine blk_far ?_ HNB101_go33.out _; (with_reducible repeat (first | refine blk_drewN ?_ _ | refine blk_drew ?_ | refine blk_alloc ?_ _)); exact BK101.out⟩, ⟨by repeat (first | (with_reducible first | exact HB.out | apply below_alloc | apply pw_below_drewN | apply below_drew1 | refine below_set ?_ GB33.out | refine below_set ?_ GE101.out | refine below_set ?_ GE109.out) | exact HB.out)⟩⟩
             ·rw [if_neg c21] at H
              exact absurd H (by simp)
            ·rw [if_neg c20] at H
             exact absurd H (by simp)
           ·rw [if_neg c19] at H
            exact absurd H (by simp)
          ·rw [if_neg c17] at H
           exact absurd H (by simp)
         ·rw [if_neg c16] at H
          exact absurd H (by simp)
        ·rw [if_neg c15] at H
         exact absurd H (by simp)
       ·rw [if_neg c14] at H
        exact absurd H (by simp)
      ·rw [if_neg c13] at H
       have c13b0 : decide (x21_1 < (l0_1.length : Int)) = false := decide_eq_false c13
       clear c13
       have H' := Aside0.mk H
       clear H
       have hcz38_0 : wr.cell? ⟨gb101, 0, none⟩ = some (.int .i64 a0_0) := (blk_cell BK101.out 0).trans rfl
       have hcz38_1 : wr.cell? ⟨gb101, 1, none⟩ = some (.slice A0_1 l0_1.length c0_1) := (blk_cell BK101.out 1).trans rfl
       have hfz38_0 := blk_frozen BK101.out 0
       have hfz38_1 := blk_frozen BK101.out 1
       go_wp2
       go_loopg [7, 48] k1 (fun kq v7 v48 w' => ∃ (x7_2 : List Int) (x48_2 : Int), v48 = .int .i64 x48_2 ∧ Aside0 (route_sorted.l1 kq x3_1 x4_1 x7_2 a0_0 x48_2 = some r) ∧ Aside0 (kq ≤ k1) ∧ Aside0 (Kd.R (Kd.int .i64) 3 w' w.heap.size (fun k_ => some k_ ≠ (v7 : Value).ownBlock) v103 x3_1) ∧ Aside0 (Kd.S (Kd.slice 3 (Kd.int .i64)) 22 w' w.heap.size (fun k_ => some k_ ≠ (v103 : Value).ownBlock ∧ some k_ ≠ (v7 : Value).ownBlock) v106 x4_1) ∧ Aside0 (Kd.R (Kd.int .i64) 3 w' w.heap.size (fun k_ => some k_ ≠ (v103 : Value).ownBlock) v7 x7_2) ∧ Aside0 (w'.heap[gb101]? = some (.cells #[.int .i64 a0_0, (.slice A0_1 l0_1.length c0_1)] 31 (0, 0))) ∧ Aside0 (Below w.heap.size w w'))
       case atStart => exact ⟨(([] : List Int)), (0), (by first | rfl | (simp; done) | (simp [*]; done)), H', ⟨Nat.le_refl _⟩, ⟨by (with_reducible repeat (first | apply Kd.R_alloc | apply Kd.R_drewN | apply Kd.R_drew)); exact Kd.R_mono HO_3.out (fun _ hk => (by simp [Value.ownBlock]))⟩, ⟨by (with_reducible repeat (first | apply Kd.S_alloc | apply Kd.S_drewN | apply Kd.S_drew)); exact Kd.S_mono HO_4.out (fun _ hk => ⟨hk, (by simp [Value.ownBlock])⟩)⟩, ⟨by first | exact Kd.R_nil _ _ _ _ _ | exact Kd.N_nil _ _ _ _ _ | exact Kd.V_nil _ _ _ _ _ | exact Kd.Q_nil _ _ _ _ _ | exact Kd.S_nil _ _ _ _ _⟩, ⟨by (with_reducible repeat (first | refine blk_drewN ?_ _ | refine blk_drew ?_ | refine blk_alloc ?_ _)); exact BK101.out⟩, ⟨by repeat (first | (with_reducible first | exact HB.out | apply below_alloc | apply pw_below_drewN | apply below_drew1 | refine below_set ?_ GE101.out) | exact HB.out)⟩⟩
       case round =>
        clear H'
        try clear c1
        try clear p1
        try clear q1
        try clear hx1
        try clear hf1
        try clear c2
        try clear c2b0
        try clear c2b1
        try clear p2
        try clear q2
        try clear c3
        try clear c3b0
        try clear c3b1
        try clear hx3
        try clear hf3
        try clear c4
        try clear c4b0
        try clear c4b1
        try clear p6
        try clear p10
        try clear q10
        try clear hx10
        try clear c11
        try clear p11
        try clear q11
        try clear hx11
        try clear c13
        try clear c13b0
        try clear c14
        try clear c14b0
        try clear c15
        try clear c15b0
        try clear c16
        try clear c16b0
        try clear c17
        try clear c17b0
        try clear p18
        try clear q18
        try clear hx18
        try clear hf18
        try clear c19
        try clear c19b0
        try clear c20
        try clear c20b0
        try clear c21
        try clear p22
        try clear q22
        try clear c24
        try clear c33
        try clear c35
        try clear hx35
        try clear hf35
        try clear hcz12_0
        try clear hcz12_1
        try clear hcz25_0
        try clear hcz25_1
        try clear hcz27_0
        try clear hcz27_1
        try clear hcz38_0
        try clear hcz38_1
        try clear hcz6_0
        try clear hcz6_1
        try clear hcz9_0
        try clear hcz9_1
        try clear hfz12_0
        try clear hfz12_1
        try clear hfz25_0
        try clear hfz25_1
        try clear hfz27_0
        try clear hfz27_1
        try clear hfz38_0
        try clear hfz38_1
        try clear hfz6_0
        try clear hfz6_1
        try clear hfz9_0
        try clear hfz9_1
        try clear hx108_0
        try clear hx108_1
        try clear hx110_0
        try clear hx112_0
        try clear hx18_0
        try clear hx35_0
        try clear p108
        try clear p110
        try clear p112
        try clear p18
        try clear p2
        try clear p22
        try clear q108
        try clear q110
        try clear q112
        try clear q18
        try clear q22
        obtain ⟨x7_2, x48_2, rfl, HA, HK2, HO_3, HO_4, HO_7, BK101, HB⟩ := hrel
        cases gk with
        | zero => exact absurd HA.out (by simp [route_sorted.l1])
        | succ k2 =>
         have H := HA.out
         clear HA
         simp only [route_sorted.l1] at H
         by_cases c39 : x48_2 < a0_0
         ·rw [if_pos c39] at H
          have c39b0 : decide (x48_2 < a0_0) = true := decide_eq_true c39
          clear c39
          by_cases c40 : 0 ≤ x48_2
          ·rw [if_pos c40] at H
           have c40b0 : decide (0 ≤ x48_2) = true := decide_eq_true c40
           clear c40
           by_cases c41 : x48_2 < (x3_1.length : Int)
           ·rw [if_pos c41] at H
            have c41b0 : decide (x48_2 < (x3_1.length : Int)) = true := decide_eq_true c41
            clear c41
            by_cases c42 : (rd x3_1 x48_2) = 0
            ·rw [if_pos c42] at H
             have c42b0 : ((rd x3_1 x48_2) == 0) = true := beq_iff_eq.mpr c42
             have c42b1 : ((rd x3_1 x48_2) != 0) = false := bne_eq_false_iff_eq.mpr c42
             clear c42
             by_cases c43 : x7_2.length < 17592186044416
             ·rw [if_pos c43] at H
              have LMc43 := Aside0.mk c43
              clear c43
              obtain ⟨y118, hy118⟩ : ∃ y_ : List Int, y_ = (x7_2 ++ [x48_2]) := ⟨_, rfl⟩
              replace H : (route_sorted.l1 k2 x3_1 x4_1 y118 a0_0 (wrap64 (x48_2 + 1))) = some r := by first | (rw [hy118]; with_reducible exact H) | (have H2_ := (Option.bind_some _ _).symm.trans H; rw [hy118]; with_reducible exact H2_) | (have H2_ := (Option.bind_some _ _).symm.trans H; with_reducible exact H2_) | with_reducible exact H | (rw [hy118]; exact H) | exact H
              have Ny118 := Aside0.mk hy118
              clear hy118
              have H' := Aside0.mk H
              clear H
              obtain ⟨Ao44, co44, eo44⟩ := Kd.R_slice HO_3.out
              subst eo44
              have p117 : 0 ≤ (x48_2 : Int) := of_decide_eq_true (by first | (with_reducible assumption) | assumption)
              have q117 : x48_2 < (x3_1.length : Int) := of_decide_eq_true (by first | (with_reducible assumption) | assumption)
              try (obtain ⟨Az117_, cz117_, ez117_⟩ := Kd.R_slice HO_3.out; subst ez117_)
              obtain ⟨ad117, e117, hx117_0⟩ := Kd.at_int (Kd.R_reads' HO_3.out).2.2 x48_2 p117 q117
              cases e117
              replace p117 := eq_true p117
              replace q117 := eq_true q117
              go_wp2_with (first | ((with_reducible refine gate_builtin (b := .append) (xs := #[.tmp 56, .tmp 58]) rfl ?_); at_builtin; refine Kd.R_append (Kd.int .i64) (w0 := w) w.heap.size rfl (.tmp 56) (.tmp 58) 22 3 (.int .i64 0) 8 rfl Try.underlying22 info3 rfl (by decide) (by omega) u7 x7_2 x48_2 [.int .i64 x48_2] (fun k_ => some k_ ≠ (.slice (some ad117) x3_1.length co44 : Value).ownBlock) (fun _ => False) rfl rfl ?aP (fun _ hk => hk.elim) ?aF ?aO ?aB ?aS ?aL ?_; (case aP => exact rfl); (case aB => exact (hq HB)); (case aF => exact (fun k_ hk => Kd.fresh' (Kd.R_lt (rq HO_3)) k_ hk)); (case aO => exact (rq HO_7)); (case aS => exact (below_size (hq HB))); (case aL => have := LMc43.out; omega); intro v119 w45 ho hb hg hat; rw [← Ny118.out] at ho; have n0_ := Aside0.mk (Kd.R_after (ok := (fun _ => True)) (by (with_reducible repeat (first | apply Kd.R_alloc | apply Kd.R_drewN | apply Kd.R_drew)); exact Kd.R_mono HO_3.out (fun _ hk => ⟨trivial, hk⟩)) hg hat); have n1_ := Aside0.mk (Kd.S_after (ok := (fun k_ => some k_ ≠ (.slice (some ad117) x3_1.length co44 : Value).ownBlock)) (sq HO_4) hg hat); have n2_ := Aside0.mk (blk_grown (g := gb101) (o := .cells #[.int .i64 a0_0, .slice A0_1 l0_1.length c0_1] 31 (0, 0)) (bq BK101) hg (Kd.R_ne HO_7.out BK101.out (by decide))); have n3_ := Aside0.mk (hb); have n4_ := Aside0.mk (ho); clear HO_3; clear HO_4; clear BK101; clear HB; clear HO_7; have HO_3 := n0_; have HO_4 := n1_; have BK101 := n2_; have HB := n3_; have HO120 := n4_; clear n0_ n1_ n2_ n3_ n4_; clear ho hb hg hat))
              go_roundg k2
              case measure => have := HK1.out; have := HK2.out; omega
              case rel => exact ⟨(y118), (wrap64 (x48_2 + 1)), (by first | rfl | (simp; done) | (simp [*]; done)), H', ⟨by have := HK1.out; have := HK2.out; omega⟩, ⟨by (with_reducible repeat (first | apply Kd.R_alloc | apply Kd.R_drewN | apply Kd.R_drew)); exact Kd.R_mono HO_3.out (fun _ hk => hk.2)⟩, ⟨by (with_reducible repeat (first | apply Kd.S_alloc | apply Kd.S_drewN | apply Kd.S_drew)); exact HO_4.out⟩, ⟨by (with_reducible repeat (first | apply Kd.R_alloc | apply Kd.R_drewN | apply Kd.R_drew)); exact HO120.out⟩, ⟨by (with_reducible repeat (first | refine blk_drewN ?_ _ | refine blk_drew ?_ | refine blk_alloc ?_ _)); exact BK101.out⟩, ⟨by repeat (first | (with_reducible first | exact HB.out | apply below_alloc | apply pw_below_drewN | apply below_drew1 | refine below_set ?_ GE101.out) | exact HB.out)⟩⟩
             ·rw [if_neg c43] at H
              exact absurd H (by simp)
            ·rw [if_neg c42] at H
             have c42b0 : ((rd x3_1 x48_2) == 0) = false := beq_eq_false_iff_ne.mpr c42
             have c42b1 : ((rd x3_1 x48_2) != 0) = true := bne_iff_ne.mpr c42
             have H' := Aside0.mk H
             clear H
             obtain ⟨Ao46, co46, eo46⟩ := Kd.R_slice HO_3.out
             subst eo46
             have p117 : 0 ≤ (x48_2 : Int) := of_decide_eq_true (by first | (with_reducible assumption) | assumption)
             have q117 : x48_2 < (x3_1.length : Int) := of_decide_eq_true (by first | (with_reducible assumption) | assumption)
             try (obtain ⟨Az117_, cz117_, ez117_⟩ := Kd.R_slice HO_3.out; subst ez117_)
             obtain ⟨ad117, e117, hx117_0⟩ := Kd.at_int (Kd.R_reads' HO_3.out).2.2 x48_2 p117 q117
             cases e117
             replace p117 := eq_true p117
             replace q117 := eq_true q117
             go_wp2
             go_roundg k2
             case measure => have := HK1.out; have := HK2.out; omega
             case rel => exact ⟨(x7_2), (wrap64 (x48_2 + 1)), (by first | rfl | (simp; done) | (simp [*]; done)), H', ⟨by have := HK1.out; have := HK2.out; omega⟩, ⟨by (with_reducible repeat (first | apply Kd.R_alloc | apply Kd.R_drewN | apply Kd.R_drew)); exact HO_3.out⟩, ⟨by (with_reducible repeat (first | apply Kd.S_alloc | apply Kd.S_drewN | apply Kd.S_drew)); exact HO_4.out⟩, ⟨by (with_reducible repeat (first | apply Kd.R_alloc | apply Kd.R_drewN | apply Kd.R_drew)); exact HO_7.out⟩, ⟨by (with_reducible repeat (first | refine blk_drewN ?_ _ | refine blk_drew ?_ | refine blk_alloc ?_ _)); exact BK101.out⟩, ⟨by repeat (first | (with_reducible first | exact HB.out | apply below_alloc | apply pw_below_drewN | apply below_drew1 | refine below_set ?_ GE101.out) | exact HB.out)⟩⟩
           ·rw [if_neg c41] at H
            exact absurd H (by simp)
          ·rw [if_neg c40] at H
           exact absurd H (by simp)
         ·rw [if_neg c39] at H
          have c39b0 : decide (x48_2 < a0_0) = false := decide_eq_false c39
          clear c39
          have H' := Aside0.mk H
          clear H
          go_wp2
          go_loopg [7, 9] k2 (fun kq v7 v9 w' => ∃ (x3_3 : List Int) (x7_3 : List Int) (x9_3 : Int), v9 = .int .i64 x9_3 ∧ Aside0 (route_sorted.l2 kq x3_3 x4_1 x7_3 x9_3 = some r) ∧ Aside0 (kq ≤ k2) ∧ Aside0 (Kd.R (Kd.int .i64) 3 w' w.heap.size (fun k_ => some k_ ≠ (v7 : Value).ownBlock) v103 x3_3) ∧ Aside0 (Kd.S (Kd.slice 3 (Kd.int .i64)) 22 w' w.heap.size (fun k_ => some k_ ≠ (v103 : Value).ownBlock ∧ some k_ ≠ (v7 : Value).ownBlock) v106 x4_1) ∧ Aside0 (Kd.R (Kd.int .i64) 3 w' w.heap.size (fun k_ => some k_ ≠ (v103 : Value).ownBlock) v7 x7_3) ∧ Aside0 (w'.heap[gb101]? = some (.cells #[.int .i64 a0_0, (.slice A0_1 l0_1.length c0_1)] 31 (0, 0))) ∧ Aside0 (Below w.heap.size w w'))
          case atStart => exact ⟨(x3_1), (x7_2), (0), (by first | rfl | (simp; done) | (simp [*]; done)), H', ⟨Nat.le_refl _⟩, ⟨by (with_reducible repeat (first | apply Kd.R_alloc | apply Kd.R_drewN | apply Kd.R_drew)); exact HO_3.out⟩, ⟨by (with_reducible repeat (first | apply Kd.S_alloc | apply Kd.S_drewN | apply Kd.S_drew)); exact HO_4.out⟩, ⟨by (with_reducible repeat (first | apply Kd.R_alloc | apply Kd.R_drewN | apply Kd.R_drew)); exact HO_7.out⟩, ⟨by (with_reducible repeat (first | refine blk_drewN ?_ _ | refine blk_drew ?_ | refine blk_alloc ?_ _)); exact BK101.out⟩, ⟨by repeat (first | (with_reducible first | exact HB.out | apply below_alloc | apply pw_below_drewN | apply below_drew1 | refine below_set ?_ GE101.out) | exact HB.out)⟩⟩
          case round =>
           clear H'
           try clear c1
           try clear p1
           try clear q1
           try clear hx1
           try clear hf1
           try clear c2
           try clear c2b0
           try clear c2b1
           try clear p2
           try clear q2
           try clear c3
           try clear c3b0
           try clear c3b1
           try clear hx3
           try clear hf3
           try clear c4
           try clear c4b0
           try clear c4b1
           try clear p6
           try clear p10
           try clear q10
           try clear hx10
           try clear c11
           try clear p11
           try clear q11
           try clear hx11
           try clear c13
           try clear c13b0
           try clear c14
           try clear c14b0
           try clear c15
           try clear c15b0
           try clear c16
           try clear c16b0
           try clear c17
           try clear c17b0
           try clear p18
           try clear q18
           try clear hx18
           try clear hf18
           try clear c19
           try clear c19b0
           try clear c20
           try clear c20b0
           try clear c21
           try clear p22
           try clear q22
           try clear c24
           try clear c33
           try clear c35
           try clear hx35
           try clear hf35
           try clear c39
           try clear c39b0
           try clear c40
           try clear c40b0
           try clear c41
           try clear c41b0
           try clear c42
           try clear c42b0
           try clear c42b1
           try clear c43
           try clear hcz12_0
           try clear hcz12_1
           try clear hcz25_0
           try clear hcz25_1
           try clear hcz27_0
           try clear hcz27_1
           try clear hcz38_0
           try clear hcz38_1
           try clear hcz6_0
           try clear hcz6_1
           try clear hcz9_0
           try clear hcz9_1
           try clear hfz12_0
           try clear hfz12_1
           try clear hfz25_0
           try clear hfz25_1
           try clear hfz27_0
           try clear hfz27_1
           try clear hfz38_0
           try clear hfz38_1
           try clear hfz6_0
           try clear hfz6_1
           try clear hfz9_0
           try clear hfz9_1
           try clear hx108_0
           try clear hx108_1
           try clear hx110_0
           try clear hx112_0
           try clear hx117_0
           try clear hx18_0
           try clear hx35_0
           try clear p1
           try clear p10
           try clear p108
           try clear p11
           try clear p110
           try clear p112
           try clear p117
           try clear p18
           try clear p2
           try clear p22
           try clear p6
           try clear q1
           try clear q10
           try clear q108
           try clear q11
           try clear q110
           try clear q112
           try clear q117
           try clear q18
           try clear q2
           try clear q22
           obtain ⟨x3_3, x7_3, x9_3, rfl, HA, HK3, HO_3, HO_4, HO_7, BK101, HB⟩ := hrel
           cases gk with
           | zero => exact absurd HA.out (by simp [route_sorted.l2])
           | succ k3 =>
            have H := HA.out
            clear HA
            simp only [route_sorted.l2] at H
            by_cases c47 : x9_3 < (x7_3.length : Int)
            ·rw [if_pos c47] at H
             have c47b0 : decide (x9_3 < (x7_3.length : Int)) = true := decide_eq_true c47
             clear c47
             by_cases c48 : 0 ≤ x9_3
             ·rw [if_pos c48] at H
              have c48b0 : decide (0 ≤ x9_3) = true := decide_eq_true c48
              clear c48
              by_cases c49 : 0 ≤ (rd x7_3 x9_3)
              ·rw [if_pos c49] at H
               have c49b0 : decide (0 ≤ (rd x7_3 x9_3)) = true := decide_eq_true c49
               clear c49
               by_cases c50 : (rd x7_3 x9_3) < (x4_1.length : Int)
               ·rw [if_pos c50] at H
                have c50b0 : decide ((rd x7_3 x9_3) < (x4_1.length : Int)) = true := decide_eq_true c50
                clear c50
                have H' := Aside0.mk H
                clear H
                obtain ⟨Ao51, co51, eo51⟩ := Kd.R_slice HO_7.out
                subst eo51
                have p121 : 0 ≤ (x9_3 : Int) := of_decide_eq_true (by first | (with_reducible assumption) | assumption)
                have q121 : x9_3 < (x7_3.length : Int) := of_decide_eq_true (by first | (with_reducible assumption) | assumption)
                try (obtain ⟨Az121_, cz121_, ez121_⟩ := Kd.R_slice HO_7.out; subst ez121_)
                obtain ⟨ad121, e121, hx121_0⟩ := Kd.at_int (Kd.R_reads' HO_7.out).2.2 x9_3 p121 q121
                cases e121
                replace p121 := eq_true p121
                replace q121 := eq_true q121
                obtain ⟨Ao52, co52, eo52⟩ := Kd.S_slice HO_4.out
                subst eo52
                have p122 : 0 ≤ ((rd x7_3 x9_3) : Int) := of_decide_eq_true (by first | (with_reducible assumption) | assumption)
                have q122 : (rd x7_3 x9_3) < (x4_1.length : Int) := of_decide_eq_true (by first | (with_reducible assumption) | assumption)
                try (obtain ⟨Az122_, cz122_, ez122_⟩ := Kd.S_slice HO_4.out; subst ez122_)
                obtain ⟨ad122, A122_0, c122_0, e122, hx122_0, hl122_0, hi122_0⟩ := at_L4 (Kd.S_reads' HO_4.out).2.2 (rd x7_3 x9_3) p122 q122
                cases e122
                obtain ⟨ce122, hce122, hMe122, hcc122⟩ := Kd.S_get HO_4.out [] (rd x7_3 x9_3) p122 (by first | exact q122 | exact of_decide_eq_true (by first | (with_reducible assumption) | assumption) | (have e_ := (Kd.S_reads' HO_4.out).1; omega))
                obtain ⟨ve122_0, rfl, ge122_0⟩ := hMe122
                have hv122_0 := hcc122 0 _ rfl
                rw [Nat.add_zero, show ((Kd.slice 3 (Kd.int .i64))).sz = 1 from rfl, Nat.mul_one] at hv122_0
                replace hv122_0 := Option.some.inj (hv122_0.symm.trans hx122_0)
                rw [hv122_0] at ge122_0
                have HL122_0 := Aside0.mk (show Kd.R (Kd.int .i64) 3 _ _ _ _ (rd_L4 x4_1 (rd x7_3 x9_3)) from ge122_0)
                clear hv122_0 ge122_0
                have HX122_0 := Aside0.mk hx122_0
                clear hcc122 hce122
                have HR122_0 := Aside0.mk hi122_0
                have HC122_0 := Aside0.mk hl122_0
                clear hi122_0 hl122_0
                replace p122 := eq_true p122
                replace q122 := eq_true q122
                go_wp2
                go_loopg [7, 75] k3 (fun kq v7 v75 w' => ∃ (x3_4 : List Int) (x7_4 : List Int) (x75_4 : Int), v75 = .int .i64 x75_4 ∧ Aside0 (route_sorted.l3 kq x3_4 x4_1 x7_4 x9_3 (rd_L4 x4_1 (rd x7_3 x9_3)) ((rd_L4 x4_1 (rd x7_3 x9_3)).length : Int) x75_4 = some r) ∧ Aside0 (kq ≤ k3) ∧ Aside0 (Kd.R (Kd.int .i64) 3 w' w.heap.size (fun k_ => some k_ ≠ (v7 : Value).ownBlock) v103 x3_4) ∧ Aside0 (Kd.S (Kd.slice 3 (Kd.int .i64)) 22 w' w.heap.size (fun k_ => some k_ ≠ (v103 : Value).ownBlock ∧ some k_ ≠ (v7 : Value).ownBlock) (.slice (some ad122) x4_1.length co52) x4_1) ∧ Aside0 (Kd.R (Kd.int .i64) 3 w' w.heap.size (fun k_ => some k_ ≠ (v103 : Value).ownBlock) v7 x7_4) ∧ Aside0 (Kd.R (Kd.int .i64) 3 w' w.heap.size (fun k_ => some k_ ≠ (v103 : Value).ownBlock ∧ some k_ ≠ (v7 : Value).ownBlock) (.slice A122_0 (rd_L4 x4_1 (rd x7_3 x9_3)).length c122_0) (rd_L4 x4_1 (rd x7_3 x9_3))) ∧ Aside0 (w'.heap[gb101]? = some (.cells #[.int .i64 a0_0, (.slice A0_1 l0_1.length c0_1)] 31 (0, 0))) ∧ Aside0 (Below w.heap.size w w'))
                case atStart => exact ⟨(x3_3), (x7_3), (0), (by first | rfl | (simp; done) | (simp [*]; done)), H', ⟨Nat.le_refl _⟩, ⟨by (with_reducible repeat (first | apply Kd.R_alloc | apply Kd.R_drewN | apply Kd.R_drew)); exact HO_3.out⟩, ⟨by (with_reducible repeat (first | apply Kd.S_alloc | apply Kd.S_drewN | apply Kd.S_drew)); exact HO_4.out⟩, ⟨by (with_reducible repeat (first | apply Kd.R_alloc | apply Kd.R_drewN | apply Kd.R_drew)); exact HO_7.out⟩, ⟨by (with_reducible repeat (first | apply Kd.R_alloc | apply Kd.R_drewN | apply Kd.R_drew)); exact Kd.R_mono HL122_0.out (fun _ hk => ⟨hk.1.1, hk.1.2⟩)⟩, ⟨by (with_reducible repeat (first | refine blk_drewN ?_ _ | refine blk_drew ?_ | refine blk_alloc ?_ _)); exact BK101.out⟩, ⟨by repeat (first | (with_reducible first | exact HB.out | apply below_alloc | apply pw_below_drewN | apply below_drew1 | refine below_set ?_ GE101.out) | exact HB.out)⟩⟩
                case round =>
                 clear H'
                 try clear c1
                 try clear p1
                 try clear q1
                 try clear hx1
                 try clear hf1
                 try clear c2
                 try clear c2b0
                 try clear c2b1
                 try clear p2
                 try clear q2
                 try clear c3
                 try clear c3b0
                 try clear c3b1
                 try clear hx3
                 try clear hf3
                 try clear c4
                 try clear c4b0
                 try clear c4b1
                 try clear c5
                 try clear p6
                 try clear p10
                 try clear q10
                 try clear hx10
                 try clear c11
                 try clear p11
                 try clear q11
                 try clear hx11
                 try clear c12
                 try clear p12
                 try clear q12
                 try clear hx12
                 try clear c13
                 try clear c13b0
                 try clear c14
                 try clear c14b0
                 try clear c15
                 try clear c15b0
                 try clear c16
                 try clear c16b0
                 try clear c17
                 try clear c17b0
                 try clear p18
                 try clear q18
                 try clear hx18
                 try clear hf18
                 try clear c19
                 try clear c19b0
                 try clear c20
                 try clear c20b0
                 try clear c21
                 try clear p22
                 try clear q22
                 try clear c24
                 try clear c33
                 try clear c35
                 try clear hx35
                 try clear hf35
                 try clear c39
                 try clear c39b0
                 try clear c40
                 try clear c40b0
                 try clear c41
                 try clear c41b0
                 try clear c42
                 try clear c42b0
                 try clear c42b1
                 try clear c43
                 try clear c47
                 try clear c47b0
                 try clear c48
                 try clear c48b0
                 try clear c49
                 try clear c49b0
                 try clear c50
                 try clear c50b0
                 try clear hcz12_0
                 try clear hcz12_1
                 try clear hcz25_0
                 try clear hcz25_1
                 try clear hcz27_0
                 try clear hcz27_1
                 try clear hcz38_0
                 try clear hcz38_1
                 try clear hcz6_0
                 try clear hcz6_1
                 try clear hcz9_0
                 try clear hcz9_1
                 try clear hfz12_0
                 try clear hfz12_1
                 try clear hfz25_0
                 try clear hfz25_1
                 try clear hfz27_0
                 try clear hfz27_1
                 try clear hfz38_0
                 try clear hfz38_1
                 try clear hfz6_0
                 try clear hfz6_1
                 try clear hfz9_0
                 try clear hfz9_1
                 try clear hx108_0
                 try clear hx108_1
                 try clear hx110_0
                 try clear hx112_0
                 try clear hx117_0
                 try clear hx121_0
                 try clear hx122_0
                 try clear hx18_0
                 try clear hx35_0
                 try clear p1
                 try clear p10
                 try clear p108
                 try clear p11
                 try clear p110
                 try clear p112
                 try clear p117
                 try clear p121
                 try clear p122
                 try clear p18
                 try clear p2
                 try clear p22
                 try clear p6
                 try clear q1
                 try clear q10
                 try clear q108
                 try clear q11
                 try clear q110
                 try clear q112
                 try clear q117
                 try clear q121
                 try clear q122
                 try clear q18
                 try clear q2
                 try clear q22
                 obtain ⟨x3_4, x7_4, x75_4, rfl, HA, HK4, HO_3, HO_4, HO_7, HO_73, BK101, HB⟩ := hrel
                 cases gk with
                 | zero => exact absurd HA.out (by simp [route_sorted.l3])
                 | succ k4 =>
                  have H := HA.out
                  clear HA
                  simp only [route_sorted.l3] at H
                  by_cases c53 : x75_4 < ((rd_L4 x4_1 (rd x7_3 x9_3)).length : Int)
                  ·rw [if_pos c53] at H
                   have c53b0 : decide (x75_4 < ((rd_L4 x4_1 (rd x7_3 x9_3)).length : Int)) = true := decide_eq_true c53
                   clear c53
                   by_cases c54 : 0 ≤ x75_4
                   ·rw [if_pos c54] at H
                    have c54b0 : decide (0 ≤ x75_4) = true := decide_eq_true c54
                    clear c54
                    by_cases c55 : x75_4 < ((rd_L4 x4_1 (rd x7_3 x9_3)).length : Int)
                    ·rw [if_pos c55] at H
                     have c55b0 : decide (x75_4 < ((rd_L4 x4_1 (rd x7_3 x9_3)).length : Int)) = true := decide_eq_true c55
                     clear c55
                     by_cases c56 : 0 ≤ (rd (rd_L4 x4_1 (rd x7_3 x9_3)) x75_4)
                     ·rw [if_pos c56] at H
                      have c56b0 : decide (0 ≤ (rd (rd_L4 x4_1 (rd x7_3 x9_3)) x75_4)) = true := decide_eq_true c56
                      clear c56
                      by_cases c57 : (rd (rd_L4 x4_1 (rd x7_3 x9_3)) x75_4) < (x3_4.length : Int)
                      ·rw [if_pos c57] at H
                       have c57b0 : decide ((rd (rd_L4 x4_1 (rd x7_3 x9_3)) x75_4) < (x3_4.length : Int)) = true := decide_eq_true c57
                       clear c57
                       obtain ⟨y125, hy125⟩ : ∃ y_ : List Int, y_ = (x3_4.set ((rd (rd_L4 x4_1 (rd x7_3 x9_3)) x75_4) : Int).toNat (wrap64 ((rd x3_4 (rd (rd_L4 x4_1 (rd x7_3 x9_3)) x75_4)) - 1))) := ⟨_, rfl⟩
                       replace H : (if (rd y125 (rd (rd_L4 x4_1 (rd x7_3 x9_3)) x75_4)) = 0 then (if x7_4.length < 17592186044416 then (route_sorted.l3 k4 y125 x4_1 (x7_4 ++ [rd (rd_L4 x4_1 (rd x7_3 x9_3)) x75_4]) x9_3 (rd_L4 x4_1 (rd x7_3 x9_3)) ((rd_L4 x4_1 (rd x7_3 x9_3)).length : Int) (wrap64 (x75_4 + 1))) else (none)) else (route_sorted.l3 k4 y125 x4_1 x7_4 x9_3 (rd_L4 x4_1 (rd x7_3 x9_3)) ((rd_L4 x4_1 (rd x7_3 x9_3)).length : Int) (wrap64 (x75_4 + 1)))) = some r := by first | (rw [hy125]; with_reducible exact H) | (have H2_ := (Option.bind_some _ _).symm.trans H; rw [hy125]; with_reducible exact H2_) | (have H2_ := (Option.bind_some _ _).symm.trans H; with_reducible exact H2_) | with_reducible exact H | (rw [hy125]; exact H) | exact H
                       have Ny125 := Aside0.mk hy125
                       clear hy125
                       by_cases c59 : (rd y125 (rd (rd_L4 x4_1 (rd x7_3 x9_3)) x75_4)) = 0
                       ·rw [if_pos c59] at H
                        have c59b0 : ((rd y125 (rd (rd_L4 x4_1 (rd x7_3 x9_3)) x75_4)) == 0) = true := beq_iff_eq.mpr c59
                        have c59b1 : ((rd y125 (rd (rd_L4 x4_1 (rd x7_3 x9_3)) x75_4)) != 0) = false := bne_eq_false_iff_eq.mpr c59
                        clear c59
                        by_cases c60 : x7_4.length < 17592186044416
                        ·rw [if_pos c60] at H
                         have LMc60 := Aside0.mk c60
                         clear c60
                         obtain ⟨y127, hy127⟩ : ∃ y_ : List Int, y_ = (x7_4 ++ [rd (rd_L4 x4_1 (rd x7_3 x9_3)) x75_4]) := ⟨_, rfl⟩
                         replace H : (route_sorted.l3 k4 y125 x4_1 y127 x9_3 (rd_L4 x4_1 (rd x7_3 x9_3)) ((rd_L4 x4_1 (rd x7_3 x9_3)).length : Int) (wrap64 (x75_4 + 1))) = some r := by first | (rw [hy127]; with_reducible exact H) | (have H2_ := (Option.bind_some _ _).symm.trans H; rw [hy127]; with_reducible exact H2_) | (have H2_ := (Option.bind_some _ _).symm.trans H; with_reducible exact H2_) | with_reducible exact H | (rw [hy127]; exact H) | exact H
                         have Ny127 := Aside0.mk hy127
                         clear hy127
                         have H' := Aside0.mk H
                         clear H
                         have p123 : 0 ≤ (x75_4 : Int) := of_decide_eq_true (by first | (with_reducible assumption) | assumption)
                         have q123 : x75_4 < ((rd_L4 x4_1 (rd x7_3 x9_3)).length : Int) := of_decide_eq_true (by first | (with_reducible assumption) | assumption)
                         try (obtain ⟨Az123_, cz123_, ez123_⟩ := Kd.R_slice HO_73.out; subst ez123_)
                         obtain ⟨ad123, e123, hx123_0⟩ := Kd.at_int (Kd.R_reads' HO_73.out).2.2 x75_4 p123 q123
                         cases e123
                         replace p123 := eq_true p123
                         replace q123 := eq_true q123
                         obtain ⟨Ao61, co61, eo61⟩ := Kd.R_slice HO_3.out
                         subst eo61
                         have p124 : 0 ≤ ((rd (rd_L4 x4_1 (rd x7_3 x9_3)) x75_4) : Int) := of_decide_eq_true (by first | (with_reducible assumption) | assumption)
                         have q124 : (rd (rd_L4 x4_1 (rd x7_3 x9_3)) x75_4) < (x3_4.length : Int) := of_decide_eq_true (by first | (with_reducible assumption) | assumption)
                         try (obtain ⟨Az124_, cz124_, ez124_⟩ := Kd.R_slice HO_3.out; subst ez124_)
                         obtain ⟨ad124, e124, hx124_0⟩ := Kd.at_int (Kd.R_reads' HO_3.out).2.2 (rd (rd_L4 x4_1 (rd x7_3 x9_3)) x75_4) p124 q124
                         cases e124
                         replace p124 := eq_true p124
                         replace q124 := eq_true q124
                         have p58 : 0 ≤ ((rd (rd_L4 x4_1 (rd x7_3 x9_3)) x75_4) : Int) := of_decide_eq_true (by first | (with_reducible assumption) | assumption)
                         have q58 : ((rd (rd_L4 x4_1 (rd x7_3 x9_3)) x75_4) : Int) < ((x3_4.length : Int) : Int) := of_decide_eq_true (by first | (with_reducible assumption) | assumption)
                         obtain ⟨go58, co58, eo58, gb58, gl58, cl58, HG58⟩ := Kd.R_form HO_3.out (by omega)
                         (first | cases eo58 | (injection eo58 with ea_ en_ ec_; (first | subst ea_ | (injection ea_ with ea_; subst ea_)); subst ec_; clear en_))
                         have GB58 := Aside0.mk gb58
                         have GG58 := Aside0.mk HG58
                         clear gb58 gl58 HG58
                         (first | simp only [add_plain] at hx124_0 | skip)
                         obtain ⟨hx58_0, hf58_0⟩ := Kd.R_celln 0 HO_3.out ((rd (rd_L4 x4_1 (rd x7_3 x9_3)) x75_4) : Int) p58 q58
                         replace p58 := eq_true p58
                         replace q58 := eq_true q58
                         have HP62 := Kd.R_putg HO_3.out ((rd (rd_L4 x4_1 (rd x7_3 x9_3)) x75_4) : Int) (wrap64 ((rd x3_4 (rd (rd_L4 x4_1 (rd x7_3 x9_3)) x75_4)) - 1))
                         go_wp2_with (first | ((with_reducible refine gate_store (t := 3) (p := 84) rfl ?_); refine store_event (t := 3) (p := 84) (v := ?vo_w63) (w1 := (wr.setCell ⟨go58, ((rd (rd_L4 x4_1 (rd x7_3 x9_3)) x75_4) : Int).toNat, none⟩ (.int .i64 (wrap64 ((rd x3_4 (rd (rd_L4 x4_1 (rd x7_3 x9_3)) x75_4)) - 1))))) ?hg ?ho ?hn ?hr ?_; (case ho => rfl); (case hg => rfl); (case hn => rfl); (case hr => first | (go_simp; done) | (go_simp; rfl)); intro w63 hw; have hg : wr.grownBy w63 (some go58) := (by rw [hw]; exact HP62.2); have hp_ : Kd.R (Kd.int .i64) 3 w63 w.heap.size (fun k_ => some k_ ≠ (u7 : Value).ownBlock) (.slice (some ⟨go58, 0, none⟩) x3_4.length co61) y125 := (by rw [hw, Ny125.out]; exact HP62.1); clear HP62; have n0_ := Aside0.mk (hp_); have n1_ := Aside0.mk (Kd.S_after (v := (.slice (some ⟨go58, 0, none⟩) x3_4.length co61)) (v1 := (.slice (some ⟨go58, 0, none⟩) x3_4.length co61)) (ok := (fun k_ => some k_ ≠ (u7 : Value).ownBlock)) (by (with_reducible repeat (first | apply Kd.S_alloc | apply Kd.S_drewN | apply Kd.S_drew)); exact Kd.S_mono HO_4.out (fun _ hk => ⟨hk.2, hk.1⟩)) hg (.inl rfl)); have n2_ := Aside0.mk (Kd.R_after (v := (.slice (some ⟨go58, 0, none⟩) x3_4.length co61)) (v1 := (.slice (some ⟨go58, 0, none⟩) x3_4.length co61)) (ok := (fun _ => True)) (by (with_reducible repeat (first | apply Kd.R_alloc | apply Kd.R_drewN | apply Kd.R_drew)); exact Kd.R_mono HO_7.out (fun _ hk => ⟨trivial, hk⟩)) hg (.inl rfl)); have n3_ := Aside0.mk (Kd.R_after (v := (.slice (some ⟨go58, 0, none⟩) x3_4.length co61)) (v1 := (.slice (some ⟨go58, 0, none⟩) x3_4.length co61)) (ok := (fun k_ => some k_ ≠ (u7 : Value).ownBlock)) (by (with_reducible repeat (first | apply Kd.R_alloc | apply Kd.R_drewN | apply Kd.R_drew)); exact Kd.R_mono HO_73.out (fun _ hk => ⟨hk.2, hk.1⟩)) hg (.inl rfl)); have n4_ := Aside0.mk (blk_grown (g := gb101) (o := .cells #[.int .i64 a0_0, .slice A0_1 l0_1.length c0_1] 31 (0, 0)) (bq BK101) hg (Kd.R_ne HO_3.out BK101.out (by decide))); have n5_ := Aside0.mk ((by rw [hw]; exact below_set (HB.out) GB58.out : Below w.heap.size w w63)); clear HO_3; clear HO_4; clear HO_7; clear HO_73; clear BK101; clear HB; have HO_3 := n0_; have HO_4 := n1_; have HO_7 := n2_; have HO_73 := n3_; have BK101 := n4_; have HB := n5_; clear n0_ n1_ n2_ n3_ n4_ n5_; clear hg hw hp_; have p126 : 0 ≤ ((rd (rd_L4 x4_1 (rd x7_3 x9_3)) x75_4) : Int) := of_decide_eq_true (by first | (with_reducible assumption) | assumption); have q126 : (rd (rd_L4 x4_1 (rd x7_3 x9_3)) x75_4) < (y125.length : Int) := (by have h_ : ((rd (rd_L4 x4_1 (rd x7_3 x9_3)) x75_4) : Int) < ((x3_4.length : Int) : Int) := of_decide_eq_true (by first | (with_reducible assumption) | assumption); first | (have e_ := (Kd.R_reads' HO_3.out).1; omega) | simpa only [Ny125.out, List.length_set] using h_); have ql126 : (((rd (rd_L4 x4_1 (rd x7_3 x9_3)) x75_4) : Int) < ((x3_4.length : Int) : Int)) = True := eq_true (of_decide_eq_true (by first | (with_reducible assumption) | assumption)); obtain ⟨ad126, e126, hx126_0⟩ := Kd.at_int (Kd.R_reads' HO_3.out).2.2 (rd (rd_L4 x4_1 (rd x7_3 x9_3)) x75_4) p126 q126; obtain rfl : (⟨go58, 0, none⟩ : Addr) = ad126 := (by injection e126); (first | simp only [add_plain] at hx126_0 | simp only [add_at] at hx126_0 | simp only [Addr.add, Nat.zero_add] at hx126_0 | skip); replace p126 := eq_true p126; replace q126 := eq_true q126) | ((with_reducible refine gate_builtin (b := .append) (xs := #[.tmp 90, .tmp 92]) rfl ?_); at_builtin; refine Kd.R_append (Kd.int .i64) (w0 := w) w.heap.size rfl (.tmp 90) (.tmp 92) 22 3 (.int .i64 0) 8 rfl Try.underlying22 info3 rfl (by decide) (by omega) u7 x7_4 (rd (rd_L4 x4_1 (rd x7_3 x9_3)) x75_4) [.int .i64 (rd (rd_L4 x4_1 (rd x7_3 x9_3)) x75_4)] (fun k_ => some k_ ≠ (.slice (some ⟨go58, 0, none⟩) x3_4.length co61 : Value).ownBlock) (fun _ => False) rfl rfl ?aP (fun _ hk => hk.elim) ?aF ?aO ?aB ?aS ?aL ?_; (case aP => exact rfl); (case aB => exact (hq HB)); (case aF => exact (fun k_ hk => Kd.fresh' (Kd.R_lt (rq HO_3)) k_ hk)); (case aO => exact (by (with_reducible repeat (first | apply Kd.R_alloc | apply Kd.R_drewN | apply Kd.R_drew)); exact Kd.R_mono HO_7.out (fun _ hk => hk.2))); (case aS => exact (below_size (hq HB))); (case aL => have := LMc60.out; omega); intro v128 w64 ho hb hg hat; rw [← Ny127.out] at ho; have n0_ := Aside0.mk (Kd.R_after (ok := (fun _ => True)) (by (with_reducible repeat (first | apply Kd.R_alloc | apply Kd.R_drewN | apply Kd.R_drew)); exact Kd.R_mono HO_3.out (fun _ hk => ⟨trivial, hk⟩)) hg hat); have n1_ := Aside0.mk (Kd.S_after (ok := (fun k_ => some k_ ≠ (.slice (some ⟨go58, 0, none⟩) x3_4.length co61 : Value).ownBlock)) (by (with_reducible repeat (first | apply Kd.S_alloc | apply Kd.S_drewN | apply Kd.S_drew)); exact Kd.S_mono HO_4.out (fun _ hk => ⟨hk.2, hk.1⟩)) hg hat); have n2_ := Aside0.mk (Kd.R_after (ok := (fun k_ => some k_ ≠ (.slice (some ⟨go58, 0, none⟩) x3_4.length co61 : Value).ownBlock)) (by (with_reducible repeat (first | apply Kd.R_alloc | apply Kd.R_drewN | apply Kd.R_drew)); exact Kd.R_mono HO_73.out (fun _ hk => ⟨hk.2, hk.1⟩)) hg hat); have n3_ := Aside0.mk (blk_grown (g := gb101) (o := .cells #[.int .i64 a0_0, .slice A0_1 l0_1.length c0_1] 31 (0, 0)) (bq BK101) hg (Kd.R_ne HO_7.out BK101.out (by decide))); have n4_ := Aside0.mk (hb); have n5_ := Aside0.mk (ho); clear HO_3; clear HO_4; clear HO_73; clear BK101; clear HB; clear HO_7; have HO_3 := n0_; have HO_4 := n1_; have HO_73 := n2_; have BK101 := n3_; have HB := n4_; have HO129 := n5_; clear n0_ n1_ n2_ n3_ n4_ n5_; clear ho hb hg hat))
                         go_roundg k4
                         case measure => have := HK1.out; have := HK2.out; have := HK3.out; have := HK4.out; omega
                         case rel => exact ⟨(y125), (y127), (wrap64 (x75_4 + 1)), (by first | rfl | (simp; done) | (simp [*]; done)), H', ⟨by have := HK1.out; have := HK2.out; have := HK3.out; have := HK4.out; omega⟩, ⟨by (with_reducible repeat (first | apply Kd.R_alloc | apply Kd.R_drewN | apply Kd.R_drew)); exact Kd.R_mono HO_3.out (fun _ hk => hk.2)⟩, ⟨by (with_reducible repeat (first | apply Kd.S_alloc | apply Kd.S_drewN | apply Kd.S_drew)); exact HO_4.out⟩, ⟨by (with_reducible repeat (first | apply Kd.R_alloc | apply Kd.R_drewN | apply Kd.R_drew)); exact HO129.out⟩, ⟨by (with_reducible repeat (first | apply Kd.R_alloc | apply Kd.R_drewN | apply Kd.R_drew)); exact HO_73.out⟩, ⟨by (with_reducible repeat (first | refine blk_drewN ?_ _ | refine blk_drew ?_ | refine blk_alloc ?_ _)); exact BK101.out⟩, ⟨by repeat (first | (with_reducible first | exact HB.out | apply below_alloc | apply pw_below_drewN | apply below_drew1 | refine below_set ?_ GE101.out) | exact HB.out)⟩⟩
                        ·rw [if_neg c60] at H
                         exact absurd H (by simp)
                       ·rw [if_neg c59] at H
                        have c59b0 : ((rd y125 (rd (rd_L4 x4_1 (rd x7_3 x9_3)) x75_4)) == 0) = false := beq_eq_false_iff_ne.mpr c59
                        have c59b1 : ((rd y125 (rd (rd_L4 x4_1 (rd x7_3 x9_3)) x75_4)) != 0) = true := bne_iff_ne.mpr c59
                        have H' := Aside0.mk H
                        clear H
                        have p123 : 0 ≤ (x75_4 : Int) := of_decide_eq_true (by first | (with_reducible assumption) | assumption)
                        have q123 : x75_4 < ((rd_L4 x4_1 (rd x7_3 x9_3)).length : Int) := of_decide_eq_true (by first | (with_reducible assumption) | assumption)
                        try (obtain ⟨Az123_, cz123_, ez123_⟩ := Kd.R_slice HO_73.out; subst ez123_)
                        obtain ⟨ad123, e123, hx123_0⟩ := Kd.at_int (Kd.R_reads' HO_73.out).2.2 x75_4 p123 q123
                        cases e123
                        replace p123 := eq_true p123
                        replace q123 := eq_true q123
                        obtain ⟨Ao65, co65, eo65⟩ := Kd.R_slice HO_3.out
                        subst eo65
                        have p124 : 0 ≤ ((rd (rd_L4 x4_1 (rd x7_3 x9_3)) x75_4) : Int) := of_decide_eq_true (by first | (with_reducible assumption) | assumption)
                        have q124 : (rd (rd_L4 x4_1 (rd x7_3 x9_3)) x75_4) < (x3_4.length : Int) := of_decide_eq_true (by first | (with_reducible assumption) | assumption)
                        try (obtain ⟨Az124_, cz124_, ez124_⟩ := Kd.R_slice HO_3.out; subst ez124_)
                        obtain ⟨ad124, e124, hx124_0⟩ := Kd.at_int (Kd.R_reads' HO_3.out).2.2 (rd (rd_L4 x4_1 (rd x7_3 x9_3)) x75_4) p124 q124
                        cases e124
                        replace p124 := eq_true p124
                        replace q124 := eq_true q124
                        have p58 : 0 ≤ ((rd (rd_L4 x4_1 (rd x7_3 x9_3)) x75_4) : Int) := of_decide_eq_true (by first | (with_reducible assumption) | assumption)
                        have q58 : ((rd (rd_L4 x4_1 (rd x7_3 x9_3)) x75_4) : Int) < ((x3_4.length : Int) : Int) := of_decide_eq_true (by first | (with_reducible assumption) | assumption)
                        obtain ⟨go58, co58, eo58, gb58, gl58, cl58, HG58⟩ := Kd.R_form HO_3.out (by omega)
                        (first | cases eo58 | (injection eo58 with ea_ en_ ec_; (first | subst ea_ | (injection ea_ with ea_; subst ea_)); subst ec_; clear en_))
                        have GB58 := Aside0.mk gb58
                        have GG58 := Aside0.mk HG58
                        clear gb58 gl58 HG58
                        (first | simp only [add_plain] at hx124_0 | skip)
                        obtain ⟨hx58_0, hf58_0⟩ := Kd.R_celln 0 HO_3.out ((rd (rd_L4 x4_1 (rd x7_3 x9_3)) x75_4) : Int) p58 q58
                        replace p58 := eq_true p58
                        replace q58 := eq_true q58
                        have HP66 := Kd.R_putg HO_3.out ((rd (rd_L4 x4_1 (rd x7_3 x9_3)) x75_4) : Int) (wrap64 ((rd x3_4 (rd (rd_L4 x4_1 (rd x7_3 x9_3)) x75_4)) - 1))
                        go_wp2_with (first | ((with_reducible refine gate_store (t := 3) (p := 84) rfl ?_); refine store_event (t := 3) (p := 84) (v := ?vo_w67) (w1 := (wr.setCell ⟨go58, ((rd (rd_L4 x4_1 (rd x7_3 x9_3)) x75_4) : Int).toNat, none⟩ (.int .i64 (wrap64 ((rd x3_4 (rd (rd_L4 x4_1 (rd x7_3 x9_3)) x75_4)) - 1))))) ?hg ?ho ?hn ?hr ?_; (case ho => rfl); (case hg => rfl); (case hn => rfl); (case hr => first | (go_simp; done) | (go_simp; rfl)); intro w67 hw; have hg : wr.grownBy w67 (some go58) := (by rw [hw]; exact HP66.2); have hp_ : Kd.R (Kd.int .i64) 3 w67 w.heap.size (fun k_ => some k_ ≠ (u7 : Value).ownBlock) (.slice (some ⟨go58, 0, none⟩) x3_4.length co65) y125 := (by rw [hw, Ny125.out]; exact HP66.1); clear HP66; have n0_ := Aside0.mk (hp_); have n1_ := Aside0.mk (Kd.S_after (v := (.slice (some ⟨go58, 0, none⟩) x3_4.length co65)) (v1 := (.slice (some ⟨go58, 0, none⟩) x3_4.length co65)) (ok := (fun k_ => some k_ ≠ (u7 : Value).ownBlock)) (by (with_reducible repeat (first | apply Kd.S_alloc | apply Kd.S_drewN | apply Kd.S_drew)); exact Kd.S_mono HO_4.out (fun _ hk => ⟨hk.2, hk.1⟩)) hg (.inl rfl)); have n2_ := Aside0.mk (Kd.R_after (v := (.slice (some ⟨go58, 0, none⟩) x3_4.length co65)) (v1 := (.slice (some ⟨go58, 0, none⟩) x3_4.length co65)) (ok := (fun _ => True)) (by (with_reducible repeat (first | apply Kd.R_alloc | apply Kd.R_drewN | apply Kd.R_drew)); exact Kd.R_mono HO_7.out (fun _ hk => ⟨trivial, hk⟩)) hg (.inl rfl)); have n3_ := Aside0.mk (Kd.R_after (v := (.slice (some ⟨go58, 0, none⟩) x3_4.length co65)) (v1 := (.slice (some ⟨go58, 0, none⟩) x3_4.length co65)) (ok := (fun k_ => some k_ ≠ (u7 : Value).ownBlock)) (by (with_reducible repeat (first | apply Kd.R_alloc | apply Kd.R_drewN | apply Kd.R_drew)); exact Kd.R_mono HO_73.out (fun _ hk => ⟨hk.2, hk.1⟩)) hg (.inl rfl)); have n4_ := Aside0.mk (blk_grown (g := gb101) (o := .cells #[.int .i64 a0_0, .slice A0_1 l0_1.length c0_1] 31 (0, 0)) (bq BK101) hg (Kd.R_ne HO_3.out BK101.out (by decide))); have n5_ := Aside0.mk ((by rw [hw]; exact below_set (HB.out) GB58.out : Below w.heap.size w w67)); clear HO_3; clear HO_4; clear HO_7; clear HO_73; clear BK101; clear HB; have HO_3 := n0_; have HO_4 := n1_; have HO_7 := n2_; have HO_73 := n3_; have BK101 := n4_; have HB := n5_; clear n0_ n1_ n2_ n3_ n4_ n5_; clear hg hw hp_; have p126 : 0 ≤ ((rd (rd_L4 x4_1 (rd x7_3 x9_3)) x75_4) : Int) := of_decide_eq_true (by first | (with_reducible assumption) | assumption); have q126 : (rd (rd_L4 x4_1 (rd x7_3 x9_3)) x75_4) < (y125.length : Int) := (by have h_ : ((rd (rd_L4 x4_1 (rd x7_3 x9_3)) x75_4) : Int) < ((x3_4.length : Int) : Int) := of_decide_eq_true (by first | (with_reducible assumption) | assumption); first | (have e_ := (Kd.R_reads' HO_3.out).1; omega) | simpa only [Ny125.out, List.length_set] using h_); have ql126 : (((rd (rd_L4 x4_1 (rd x7_3 x9_3)) x75_4) : Int) < ((x3_4.length : Int) : Int)) = True := eq_true (of_decide_eq_true (by first | (with_reducible assumption) | assumption)); obtain ⟨ad126, e126, hx126_0⟩ := Kd.at_int (Kd.R_reads' HO_3.out).2.2 (rd (rd_L4 x4_1 (rd x7_3 x9_3)) x75_4) p126 q126; obtain rfl : (⟨go58, 0, none⟩ : Addr) = ad126 := (by injection e126); (first | simp only [add_plain] at hx126_0 | simp only [add_at] at hx126_0 | simp only [Addr.add, Nat.zero_add] at hx126_0 | skip); replace p126 := eq_true p126; replace q126 := eq_true q126))
                        go_roundg k4
                        case measure => have := HK1.out; have := HK2.out; have := HK3.out; have := HK4.out; omega
                        case rel => exact ⟨(y125), (x7_4), (wrap64 (x75_4 + 1)), (by first | rfl | (simp; done) | (simp [*]; done)), H', ⟨by have := HK1.out; have := HK2.out; have := HK3.out; have := HK4.out; omega⟩, ⟨by (with_reducible repeat (first | apply Kd.R_alloc | apply Kd.R_drewN | apply Kd.R_drew)); exact HO_3.out⟩, ⟨by (with_reducible repeat (first | apply Kd.S_alloc | apply Kd.S_drewN | apply Kd.S_drew)); exact Kd.S_mono HO_4.out (fun _ hk => ⟨hk.2, hk.1⟩)⟩, ⟨by (with_reducible repeat (first | apply Kd.R_alloc | apply Kd.R_drewN | apply Kd.R_drew)); exact Kd.R_mono HO_7.out (fun _ hk => hk.2)⟩, ⟨by (with_reducible repeat (first | apply Kd.R_alloc | apply Kd.R_drewN | apply Kd.R_drew)); exact Kd.R_mono HO_73.out (fun _ hk => ⟨hk.2, hk.1⟩)⟩, ⟨by (with_reducible repeat (first | refine blk_drewN ?_ _ | refine blk_drew ?_ | refine blk_alloc ?_ _)); exact BK101.out⟩, ⟨by repeat (first | (with_reducible first | exact HB.out | apply below_alloc | apply pw_below_drewN | apply below_drew1 | refine below_set ?_ GE101.out) | exact HB.out)⟩⟩
                      ·rw [if_neg c57] at H
                       exact absurd H (by simp)
                     ·rw [if_neg c56] at H
                      exact absurd H (by simp)
                    ·rw [if_neg c55] at H
                     exact absurd H (by simp)
                   ·rw [if_neg c54] at H
                    exact absurd H (by simp)
                  ·rw [if_neg c53] at H
                   have c53b0 : decide (x75_4 < ((rd_L4 x4_1 (rd x7_3 x9_3)).length : Int)) = false := decide_eq_false c53
                   clear c53
                   have H' := Aside0.mk H
                   clear H
                   go_wp2
                   go_roundg k4
                   case measure => have := HK1.out; have := HK2.out; have := HK3.out; have := HK4.out; omega
                   case rel => exact ⟨(x3_4), (x7_4), (wrap64 (x9_3 + 1)), (by first | rfl | (simp; done) | (simp [*]; done)), H', ⟨by have := HK1.out; have := HK2.out; have := HK3.out; have := HK4.out; omega⟩, ⟨by (with_reducible repeat (first | apply Kd.R_alloc | apply Kd.R_drewN | apply Kd.R_drew)); exact HO_3.out⟩, ⟨by (with_reducible repeat (first | apply Kd.S_alloc | apply Kd.S_drewN | apply Kd.S_drew)); exact HO_4.out⟩, ⟨by (with_reducible repeat (first | apply Kd.R_alloc | apply Kd.R_drewN | apply Kd.R_drew)); exact HO_7.out⟩, ⟨by (with_reducible repeat (first | refine blk_drewN ?_ _ | refine blk_drew ?_ | refine blk_alloc ?_ _)); exact BK101.out⟩, ⟨by repeat (first | (with_reducible first | exact HB.out | apply below_alloc | apply pw_below_drewN | apply below_drew1 | refine below_set ?_ GE101.out) | exact HB.out)⟩⟩
               ·rw [if_neg c50] at H
                exact absurd H (by simp)
              ·rw [if_neg c49] at H
               exact absurd H (by simp)
             ·rw [if_neg c48] at H
              exact absurd H (by simp)
            ·rw [if_neg c47] at H
             have c47b0 : decide (x9_3 < (x7_3.length : Int)) = false := decide_eq_false c47
             clear c47
             obtain rfl := Option.some.inj H
             obtain ⟨Ao68, co68, eo68⟩ := Kd.R_slice HO_7.out
             subst eo68
             go_wp2
             go_ret
             exact ⟨_, by first | rfl | (simp [errW_none, errW_some] <;> rfl) | (simp [*, errW_none, errW_some] <;> rfl), by (with_reducible repeat (first | apply Kd.R_alloc | apply Kd.R_drewN | apply Kd.R_drew)); exact Kd.R_mono HO_7.out (fun _ hk => trivial), by repeat (first | (with_reducible first | exact HB.out | apply below_alloc | apply pw_below_drewN | apply below_drew1 | refine below_set ?_ GE101.out) | exact HB.out)⟩
   ·rw [if_neg c4] at H
    exact absurd H (by simp)
  ·rw [if_neg c3] at H
   exact absurd H (by simp)
 ·rw [if_neg c2] at H
  exact absurd H (by simp)

end Go.Proofs.Ytcamljlhdejmmaa.P
