-- Written by this session's own copy of a printing program (wip/tools); Lean checks it.
import Derived.Test.YtcamljlhdejmmaaPx0
import Derived.Test.YtcamljlhdejmmaaPx2
import Derived.Test.YtcamljlhdejmmaaPx3
namespace Go.Proofs.Ytcamljlhdejmmaa.P
open Go.RowKit Go.Proofs.YtcamljlhdejmmaaW.PrintWords Go.Proofs.YtcamljlhdejmmaaW.PrintLast Go.Proofs.YtcamljlhdejmmaaW.PrintMore
attribute [local go_sem] max2_int min2_int max_two min_two max_three min_three max_four min_four   -- for this text's walks alone
set_option linter.unusedVariables false
set_option linter.unusedSimpArgs false

/-! ### intervalmonref29_Any: function 12 -/
mutual
def intervalmonref29_Any.j0 : Nat → Int → Int → List (S27) → Option (Int × (List (S27)))
 | 0, _, _, _ => none
 | k + 1, x4, x119000, x119001 => if (Int.tmod x4 3) = 1 then (intervalmonref29_Any.j1 k x4 (decide ((x119001.length : Int) > 0)) x119000 x119001) else (intervalmonref29_Any.j1 k x4 false x119000 x119001)
def intervalmonref29_Any.j1 : Nat → Int → Bool → Int → List (S27) → Option (Int × (List (S27)))
 | 0, _, _, _, _ => none
 | k + 1, x4, x38, x119000, x119001 => if x38 = true then (if (x119001.length : Int) = 0 then (none) else (if 0 ≤ (Int.tmod (wrap64 (Int.tdiv x4 3)) (x119001.length : Int)) then (if (Int.tmod (wrap64 (Int.tdiv x4 3)) (x119001.length : Int)) < (x119001.length : Int) then (if (Int.tmod x4 2) = 1 then (if x119001.length < 8796093022208 then (some (x119000, (x119001 ++ [(⟨(rd_T27 x119001 (Int.tmod (wrap64 (Int.tdiv x4 3)) (x119001.length : Int))).f1, (rd_T27 x119001 (Int.tmod (wrap64 (Int.tdiv x4 3)) (x119001.length : Int))).f0⟩ : S27)]))) else (none)) else (if x119001.length < 8796093022208 then (some (x119000, (x119001 ++ [(⟨(rd_T27 x119001 (Int.tmod (wrap64 (Int.tdiv x4 3)) (x119001.length : Int))).f0, (rd_T27 x119001 (Int.tmod (wrap64 (Int.tdiv x4 3)) (x119001.length : Int))).f1⟩ : S27)]))) else (none))) else (none)) else (none))) else (some (x119000, x119001))
end
def intervalmonref29_Any.f (k : Nat) (l0 : List Int) : Option (Int × (List (S27))) := (intervalmonref29_Acyclic.f k l0).bind fun bt114 => ((intervalmonref01_Pick.f l0 (wrap64 ((l0.length : Int) - 1)) 1000).bind fun t119 => (if (Int.tmod t119 3) = 0 then (if bt114.2.length < 8796093022208 then (intervalmonref29_Any.j0 k t119 bt114.1 (bt114.2 ++ [(⟨wrap64 ((Int.tmod (wrap64 (Int.tdiv t119 3)) 9) - 1), wrap64 ((Int.tmod (wrap64 (Int.tdiv t119 27)) 10) - 1)⟩ : S27)])) else (none)) else (intervalmonref29_Any.j0 k t119 bt114.1 bt114.2)))
theorem intervalmonref29_Any.mono_l : ∀ k, (∀ y0 y1 y2, LeO (intervalmonref29_Any.j0 k y0 y1 y2) (intervalmonref29_Any.j0 (k + 1) y0 y1 y2)) ∧ (∀ y0 y1 y2 y3, LeO (intervalmonref29_Any.j1 k y0 y1 y2 y3) (intervalmonref29_Any.j1 (k + 1) y0 y1 y2 y3))
 | 0 => ⟨fun _ _ _ r h => by simp [intervalmonref29_Any.j0] at h, fun _ _ _ _ r h => by simp [intervalmonref29_Any.j1] at h⟩
 | k + 1 => by
  obtain ⟨ih0, ih1⟩ := intervalmonref29_Any.mono_l k
  refine ⟨?_, ?_⟩
  ·intro y0 y1 y2
   unfold intervalmonref29_Any.j0
   repeat' first
   | (with_reducible exact ih0 _ _ _)
   | (with_reducible exact ih1 _ _ _ _)
   | (with_reducible exact intervalmonref29_Acyclic.mono _ _)
   | (with_reducible exact LeO.refl _)
   | (with_reducible exact LeO.none _)
   | (with_reducible refine LeO.ite ?_ ?_)
   | (with_reducible refine LeO.bind ?_ (fun _ => ?_))
   | exact ih0 _ _ _
   | exact ih1 _ _ _ _
   | exact intervalmonref29_Acyclic.mono _ _
   | exact LeO.none _
   | refine LeO.ite ?_ ?_
   | refine LeO.bind ?_ (fun _ => ?_)
  ·intro y0 y1 y2 y3
   unfold intervalmonref29_Any.j1
   repeat' first
   | (with_reducible exact ih0 _ _ _)
   | (with_reducible exact ih1 _ _ _ _)
   | (with_reducible exact intervalmonref29_Acyclic.mono _ _)
   | (with_reducible exact LeO.refl _)
   | (with_reducible exact LeO.none _)
   | (with_reducible refine LeO.ite ?_ ?_)
   | (with_reducible refine LeO.bind ?_ (fun _ => ?_))
   | exact ih0 _ _ _
   | exact ih1 _ _ _ _
   | exact intervalmonref29_Acyclic.mono _ _
   | exact LeO.none _
   | refine LeO.ite ?_ ?_
   | refine LeO.bind ?_ (fun _ => ?_)
theorem intervalmonref29_Any.mono : ∀ a0 k, LeO (intervalmonref29_Any.f k a0) (intervalmonref29_Any.f (k + 1) a0) := by
 intro a0 k
 obtain ⟨ih0, ih1⟩ := intervalmonref29_Any.mono_l k
 unfold intervalmonref29_Any.f
 repeat' first
   | (with_reducible exact ih0 _ _ _)
   | (with_reducible exact ih1 _ _ _ _)
   | (with_reducible exact intervalmonref29_Acyclic.mono _ _)
   | (with_reducible exact LeO.refl _)
   | (with_reducible exact LeO.none _)
   | (with_reducible refine LeO.ite ?_ ?_)
   | (with_reducible refine LeO.bind ?_ (fun _ => ?_))
   | exact ih0 _ _ _
   | exact ih1 _ _ _ _
   | exact intervalmonref29_Acyclic.mono _ _
   | exact LeO.none _
   | refine LeO.ite ?_ ?_
   | refine LeO.bind ?_ (fun _ => ?_)
def intervalmonref29_Any.T6 : Bool × List (List Nat × List Nat) := (true, [([], []), ([0], [0]), ([], []), ([2], [2]), ([], []), ([4], [4]), ([5], [5]), ([3, 6], [3, 6]), ([1, 7], [1, 7]), ([8], [8]), ([], []), ([10, 9, 0, 1, 2, 3, 4, 5, 6, 7, 8, 9, 10], [9, 10])])
def intervalmonref29_Any.B6 : List Nat := [0, 1, 0, 4, 0, 16, 48, 124, 255, 511, 0, 2047]
theorem intervalmonref29_Any.tab6 : rtab .any (opsOf Try.f12 6) = intervalmonref29_Any.T6 := by kernel_rfl
theorem intervalmonref29_Any.bits6 : waitsOk intervalmonref29_Any.T6.2 intervalmonref29_Any.B6 = true := by kernel_rfl
set_option maxHeartbeats 8000000 in
set_option maxRecDepth 100000 in
theorem intervalmonref29_Any.calls (k : Nat) (A0 : Option Addr) (c0 : Nat) (l0 : List Int) (r1 : Int) (r2 : List (S27)) (w : World) (hr0 : Kd.C (Kd.int .i64) w A0 l0.length l0) (hc0 : l0.length ≤ c0) (h : intervalmonref29_Any.f k l0 = some (r1, r2)) :
  Calls Try.prog 12 #[.slice A0 l0.length c0] w fun e w' => ∃ v1_ : Value, e = .returned (.agg #[.int .i64 r1, v1_]) ∧ Kd.R k27 27 w' w.heap.size (fun _ => True) v1_ r2 ∧ Below w.heap.size w w' := by
 have hu25 := Try.underlying25
 have hu27 := Try.underlying27
 have HR0 := Aside0.mk hr0
 have HC0 := Aside0.mk hc0
 clear hr0 hc0
 have HB := Aside0.mk (Below.refl w.heap.size w)
 have H : ((intervalmonref29_Acyclic.f k l0).bind fun bt114 => ((intervalmonref01_Pick.f l0 (wrap64 ((l0.length : Int) - 1)) 1000).bind fun t119 => (if (Int.tmod t119 3) = 0 then (if bt114.2.length < 8796093022208 then (intervalmonref29_Any.j0 k t119 bt114.1 (bt114.2 ++ [(⟨wrap64 ((Int.tmod (wrap64 (Int.tdiv t119 3)) 9) - 1), wrap64 ((Int.tmod (wrap64 (Int.tdiv t119 27)) 10) - 1)⟩ : S27)])) else (none)) else (intervalmonref29_Any.j0 k t119 bt114.1 bt114.2)))) = some (r1, r2) := h
 clear h
 replace H := Option.bind_eq_some_iff.mp H
 obtain ⟨⟨t114, t115⟩, A20, H⟩ := H
 replace H : ((intervalmonref01_Pick.f l0 (wrap64 ((l0.length : Int) - 1)) 1000).bind fun t119 => (if (Int.tmod t119 3) = 0 then (if t115.length < 8796093022208 then (intervalmonref29_Any.j0 k t119 t114 (t115 ++ [(⟨wrap64 ((Int.tmod (wrap64 (Int.tdiv t119 3)) 9) - 1), wrap64 ((Int.tmod (wrap64 (Int.tdiv t119 27)) 10) - 1)⟩ : S27)])) else (none)) else (intervalmonref29_Any.j0 k t119 t114 t115))) = some (r1, r2) := H
 have A2 := Aside0.mk A20
 clear A20
 replace H := Option.bind_eq_some_iff.mp H
 obtain ⟨t119, A30, H⟩ := H
 replace H : (if (Int.tmod t119 3) = 0 then (if t115.length < 8796093022208 then (intervalmonref29_Any.j0 k t119 t114 (t115 ++ [(⟨wrap64 ((Int.tmod (wrap64 (Int.tdiv t119 3)) 9) - 1), wrap64 ((Int.tmod (wrap64 (Int.tdiv t119 27)) 10) - 1)⟩ : S27)])) else (none)) else (intervalmonref29_Any.j0 k t119 t114 t115)) = some (r1, r2) := H
 have A3 := Aside0.mk A30
 clear A30
 have HC4 := Aside0.mk H
 clear H
 go_enter Try.func12, Try.ntmps12
 go_upto_if 15 with (first | ((with_reducible refine gate_dst (N := 2) rfl ?_); (try (refine gate_guard (by rfl) ?_; dsimp only)); refine box_event ?hg (N := 2) ?hd (cs := #[.int .i64 0, .slice none 0 0]) (t := 25) ?hr ?_; (case hd => rfl); (case hg => rfl); (case hr => first | (go_simp; done) | (go_simp; rfl)); intro gb113 hg w5 hbox hb; have n0_ := Aside0.mk (below_step (hq HB) hb); have n1_ := Aside0.mk (hbox); have n2_ := Aside0.mk ((by rw [hg]; exact (below_size (hq HB)) : w.heap.size ≤ gb113)); have n3_ := Aside0.mk ((by rw [hg]; exact (below_size (hq HB)) : w.heap.size ≤ gb113)); clear HB; have HB := n0_; have BK113 := n1_; have GW113 := n2_; have GE113 := n3_; clear n0_ n1_ n2_ n3_; clear hb hbox hg) | ((with_reducible refine gate_callee (f := 22) rfl ?_); refine goesL_ (some 7) rfl rfl Try.func22 (by kernel_rfl) rfl #[.slice A0 l0.length c0] rfl aq ?_; (with_reducible refine (intervalmonref29_Acyclic.calls k _ _ l0 t114 t115 _ ?side1 ?side2 A2.out).mono ?_); (case side1 => repeat (first | exact (Kd.C_below HR0.out HB.out) | (with_reducible refine Kd.C_alloc ?_ _) | (with_reducible refine Kd.C_drewN ?_ _) | (with_reducible refine Kd.C_drew ?_))); (case side2 => exact HC0.out); rintro e w6 ⟨v116, rfl, ho0, hb⟩; refine ⟨_, rfl, ?_⟩; have n0_ := Aside0.mk (Kd.R_lower ho0 (below_size (hq HB))); have n1_ := Aside0.mk (blk_below (g := gb113) (o := .cells #[.int .i64 0, .slice none 0 0] 25 (0, 0)) (bq BK113) hb); have n2_ := Aside0.mk (below_step (hq HB) hb); clear BK113; clear HB; have HO117 := n0_; have BK113 := n1_; have HB := n2_; clear n0_ n1_ n2_; (try clear hb); (try clear hb2); (try clear hk); (try clear hi); (try clear ho0)) | ((with_reducible refine gate_dst (N := 3) rfl ?_); (try (refine gate_guard (by rfl) ?_; dsimp only)); refine box_event ?hg (N := 3) ?hd (cs := #[.int .i64 0, .slice none 0 0]) (t := 25) ?hr ?_; (case hd => rfl); (case hg => rfl); (case hr => first | (go_simp; done) | (go_simp; rfl)); intro gb118 hg w7 hbox hb; have n0_ := Aside0.mk (Kd.R_below (rq HO117) hb); have n1_ := Aside0.mk (blk_below (g := gb113) (o := .cells #[.int .i64 0, .slice none 0 0] 25 (0, 0)) (bq BK113) hb); have n2_ := Aside0.mk (below_step (hq HB) hb); have n3_ := Aside0.mk (hbox); have n4_ := Aside0.mk ((by rw [hg]; exact (below_size (hq HB)) : w.heap.size ≤ gb118)); have n5_ := Aside0.mk ((by rw [hg]; exact (below_size (hq HB)) : w.heap.size ≤ gb118)); have n6_ := Aside0.mk ((by rw [hg]; exact Nat.ne_of_lt (blk_lt (g := gb113) (o := .cells #[.int .i64 0, .slice none 0 0] 25 (0, 0)) (bq BK113)) : gb113 ≠ gb118)); have n7_ := Aside0.mk ((by rw [hg]; exact Nat.ne_of_gt (blk_lt (g := gb113) (o := .cells #[.int .i64 0, .slice none 0 0] 25 (0, 0)) (bq BK113)) : gb118 ≠ gb113)); clear HO117; clear BK113; clear HB; have HO117 := n0_; have BK113 := n1_; have HB := n2_; have BK118 := n3_; have GW118 := n4_; have GE118 := n5_; have NB113_118 := n6_; have NB118_113 := n7_; clear n0_ n1_ n2_ n3_ n4_ n5_ n6_ n7_; clear hb hbox hg; have hnb8 := NB118_113.out; have hnc8 := NB113_118.out; have hcz9_0 : w7.cell? ⟨gb118, 0, none⟩ = some (.int .i64 0) := (blk_cell BK118.out 0).trans rfl; have hcz9_1 : w7.cell? ⟨gb118, 1, none⟩ = some (.slice none 0 0) := (blk_cell BK118.out 1).trans rfl; have hfz9_0 := blk_frozen BK118.out 0; have hfz9_1 := blk_frozen BK118.out 1; obtain ⟨Ao10, co10, eo10⟩ := Kd.R_slice HO117.out; subst eo10) | ((with_reducible refine gate_callee (f := 39) rfl ?_); refine goesL_ (some 12) rfl rfl Try.func39 (by kernel_rfl) rfl #[.slice A0 l0.length c0, .int .i64 (wrap64 ((l0.length : Int) - 1)), .int .i64 1000] rfl aq ?_; (with_reducible refine (intervalmonref01_Pick.calls _ _ l0 (wrap64 ((l0.length : Int) - 1)) 1000 t119 _ ?side1 ?side2 A3.out).mono ?_); (case side1 => exact Kd.C_below HR0.out (hq HB)); (case side2 => exact HC0.out); rintro e w' ⟨rfl, ⟨nd, rfl⟩⟩; refine ⟨_, rfl, ?_⟩))
 (try simp only [Act.put, List.setIfInBounds_toArray, List.set_cons_zero, List.set_cons_succ])
 go_cut [] (fun wc => ∃ (kq : Nat) (x119001_3 : List (S27)) (u119001 : Value), Aside0 (intervalmonref29_Any.j0 kq t119 t114 x119001_3 = some (r1, r2)) ∧ Aside0 (kq ≤ k) ∧ Aside0 (Kd.R k27 27 wc w.heap.size (fun _ => True) u119001 x119001_3) ∧ Aside0 (wc.heap[gb113]? = some (.cells #[.int .i64 0, (.slice none 0 0)] 25 (0, 0))) ∧ Aside0 (wc.heap[gb118]? = some (.cells #[.int .i64 t114, u119001] 25 (0, 0))) ∧ Aside0 (Below w.heap.size w wc))
 case first =>
  have H := HC4.out
  clear HC4
  by_cases c11 : (Int.tmod t119 3) = 0
  ·rw [if_pos c11] at H
   have c11b0 : ((Int.tmod t119 3) == 0) = true := beq_iff_eq.mpr c11
   have c11b1 : ((Int.tmod t119 3) != 0) = false := bne_eq_false_iff_eq.mpr c11
   clear c11
   (first | rw [c11b0] | (simp only [i64_w, i32_w]; rw [c11b0]) | skip)
   by_cases c12 : t115.length < 8796093022208
   ·rw [if_pos c12] at H
    have LMc12 := Aside0.mk c12
    clear c12
    obtain ⟨y120, hy120⟩ : ∃ y_ : List (S27), y_ = (t115 ++ [(⟨wrap64 ((Int.tmod (wrap64 (Int.tdiv t119 3)) 9) - 1), wrap64 ((Int.tmod (wrap64 (Int.tdiv t119 27)) 10) - 1)⟩ : S27)]) := ⟨_, rfl⟩
    replace H : (intervalmonref29_Any.j0 k t119 t114 y120) = some (r1, r2) := by first | (rw [hy120]; with_reducible exact H) | (have H2_ := (Option.bind_some _ _).symm.trans H; rw [hy120]; with_reducible exact H2_) | (have H2_ := (Option.bind_some _ _).symm.trans H; with_reducible exact H2_) | with_reducible exact H | (rw [hy120]; exact H) | exact H
    have Ny120 := Aside0.mk hy120
    clear hy120
    have H' := Aside0.mk H
    clear H
    have hnb13 := NB118_113.out
    have hnc13 := NB113_118.out
    have hcz14_0 : w7.cell? ⟨gb118, 0, none⟩ = some (.int .i64 0) := (blk_cell BK118.out 0).trans rfl
    have hcz14_1 : w7.cell? ⟨gb118, 1, none⟩ = some (.slice none 0 0) := (blk_cell BK118.out 1).trans rfl
    have hfz14_0 := blk_frozen BK118.out 0
    have hfz14_1 := blk_frozen BK118.out 1
    go_wp2_with (first | ((with_reducible refine gate_builtin (b := .append) (xs := #[.tmp 17, .tmp 27]) rfl ?_); (try (refine gate_guard (by rfl) ?_; dsimp only)); at_builtin; refine Kd.R_append k27 (w0 := w) w.heap.size rfl (.tmp 17) (.tmp 27) 23 27 (.agg #[(.int .i64 0), (.int .i64 0)]) 16 rfl Try.underlying23 info27 rfl (by decide) (by omega) (.slice Ao10 t115.length co10) t115 (⟨wrap64 ((Int.tmod (wrap64 (Int.tdiv t119 3)) 9) - 1), wrap64 ((Int.tmod (wrap64 (Int.tdiv t119 27)) 10) - 1)⟩ : S27) [.int .i64 (wrap64 ((Int.tmod (wrap64 (Int.tdiv t119 3)) 9) - 1)), .int .i64 (wrap64 ((Int.tmod (wrap64 (Int.tdiv t119 27)) 10) - 1))] (fun _ => True) (fun _ => False) rfl (by first | (go_simp; done) | (go_simp; rfl)) ?aP (fun _ hk => hk.elim) ?aF ?aO ?aB ?aS ?aL ?_; (case aP => exact k27_mkM _ _ _ (⟨wrap64 ((Int.tmod (wrap64 (Int.tdiv t119 3)) 9) - 1), wrap64 ((Int.tmod (wrap64 (Int.tdiv t119 27)) 10) - 1)⟩ : S27)); (case aB => exact (hq HB)); (case aF => exact (fun _ _ => trivial)); (case aO => exact (by (with_reducible repeat (first | apply Kd.R_alloc | apply Kd.R_drewN | apply Kd.R_drew)); exact Kd.R_mono (Kd.R_far (p := ⟨gb118, 1, none⟩) (Kd.R_far (p := ⟨gb118, 0, none⟩) (Kd.R_types HO117.out BK118.out (by decide)) (fun _ hk => hk.2) (.int .i64 t114)) (fun _ hk => hk.2) (.slice Ao10 t115.length co10)) (fun _ hk => trivial))); (case aS => exact (below_size (hq HB))); (case aL => have := LMc12.out; omega); intro v121 w15 ho hb hg hat; rw [← Ny120.out] at ho; have n0_ := Aside0.mk (blk_grown (g := gb113) (o := .cells #[.int .i64 0, .slice none 0 0] 25 (0, 0)) (by (with_reducible repeat (first | refine blk_drewN ?_ _ | refine blk_drew ?_ | refine blk_alloc ?_ _)); refine blk_far ?_ NB113_118.out _; (with_reducible repeat (first | refine blk_drewN ?_ _ | refine blk_drew ?_ | refine blk_alloc ?_ _)); refine blk_far ?_ NB113_118.out _; (with_reducible repeat (first | refine blk_drewN ?_ _ | refine blk_drew ?_ | refine blk_alloc ?_ _)); exact BK113.out) hg (Kd.R_ne HO117.out BK113.out (by decide))); have n1_ := Aside0.mk (blk_grown (g := gb118) (o := .cells #[.int .i64 t114, .slice Ao10 t115.length co10] 25 (0, 0)) (by (with_reducible repeat (first | refine blk_drewN ?_ _ | refine blk_drew ?_ | refine blk_alloc ?_ _)); refine blk_put (cs := #[.int .i64 t114, .slice none 0 0]) ?_ 1 _ rfl; (with_reducible repeat (first | refine blk_drewN ?_ _ | refine blk_drew ?_ | refine blk_alloc ?_ _)); refine blk_put (cs := #[.int .i64 0, .slice none 0 0]) ?_ 0 _ rfl; (with_reducible repeat (first | refine blk_drewN ?_ _ | refine blk_drew ?_ | refine blk_alloc ?_ _)); exact BK118.out) hg (Kd.R_ne HO117.out BK118.out (by decide))); have n2_ := Aside0.mk (hb); have n3_ := Aside0.mk (ho); clear BK113; clear BK118; clear HB; clear HO117; have BK113 := n0_; have BK118 := n1_; have HB := n2_; have HO122 := n3_; clear n0_ n1_ n2_ n3_; clear ho hb hg hat; obtain ⟨Ao16, co16, eo16⟩ := Kd.R_slice HO122.out; subst eo16; have hcz17_0 : w15.cell? ⟨gb118, 0, none⟩ = some (.int .i64 t114) := (blk_cell BK118.out 0).trans rfl; have hcz17_1 : w15.cell? ⟨gb118, 1, none⟩ = some (.slice Ao10 t115.length co10) := (blk_cell BK118.out 1).trans rfl; have hfz17_0 := blk_frozen BK118.out 0; have hfz17_1 := blk_frozen BK118.out 1))
    go_meet
    case rel => exact ⟨_, (y120), (.slice Ao16 y120.length co16), H', ⟨by first | omega | exact Nat.le_refl _⟩, ⟨by (with_reducible repeat (first | apply Kd.R_alloc | apply Kd.R_drewN | apply Kd.R_drew)); exact Kd.R_mono (Kd.R_far (p := ⟨gb118, 1, none⟩) (Kd.R_types HO122.out BK118.out (by decide)) (fun _ hk => hk.2) (.slice Ao16 y120.length co16)) (fun _ hk => trivial)⟩, ⟨by (with_reducible repeat (first | refine blk_drewN ?_ _ | refine blk_drew ?_ | refine blk_alloc ?_ _)); refine blk_far ?_ NB113_118.out _; (with_reducible repeat (first | refine blk_drewN ?_ _ | refine blk_drew ?_ | refine blk_alloc ?_ _)); exact BK113.out⟩, ⟨by (with_reducible repeat (first | refine blk_drewN ?_ _ | refine blk_drew ?_ | refine blk_alloc ?_ _)); refine blk_put (cs := #[.int .i64 t114, .slice Ao10 t115.length co10]) ?_ 1 _ rfl; (with_reducible repeat (first | refine blk_drewN ?_ _ | refine blk_drew ?_ | refine blk_alloc ?_ _)); exact BK118.out⟩, ⟨by repeat (first | (with_reducible first | exact HB.out | apply below_alloc | apply pw_below_drewN | apply below_drew1 | refine below_set ?_ GE113.out | refine below_set ?_ GE118.out) | exact HB.out)⟩⟩
   ·rw [if_neg c12] at H
    exact absurd H (by simp)
  ·rw [if_neg c11] at H
   have c11b0 : ((Int.tmod t119 3) == 0) = false := beq_eq_false_iff_ne.mpr c11
   have c11b1 : ((Int.tmod t119 3) != 0) = true := bne_iff_ne.mpr c11
   (first | rw [c11b0] | (simp only [i64_w, i32_w]; rw [c11b0]) | skip)
   have H' := Aside0.mk H
   clear H
   go_wp2
   go_meet
   case rel => exact ⟨_, (t115), (.slice Ao10 t115.length co10), H', ⟨by first | omega | exact Nat.le_refl _⟩, ⟨by (with_reducible repeat (first | apply Kd.R_alloc | apply Kd.R_drewN | apply Kd.R_drew)); exact Kd.R_mono (Kd.R_far (p := ⟨gb118, 1, none⟩) (Kd.R_far (p := ⟨gb118, 0, none⟩) (Kd.R_types HO117.out BK118.out (by decide)) (fun _ hk => hk.2) (.int .i64 t114)) (fun _ hk => hk.2) (.slice Ao10 t115.length co10)) (fun _ hk => trivial)⟩, ⟨by (with_reducible repeat (first | refine blk_drewN ?_ _ | refine blk_drew ?_ | refine blk_alloc ?_ _)); refine blk_far ?_ NB113_118.out _; (with_reducible repeat (first | refine blk_drewN ?_ _ | refine blk_drew ?_ | refine blk_alloc ?_ _)); refine blk_far ?_ NB113_118.out _; (with_reducible repeat (first | refine blk_drewN ?_ _ | refine blk_drew ?_ | refine blk_alloc ?_ _)); exact BK113.out⟩, ⟨by (with_reducible repeat (first | refine blk_drewN ?_ _ | refine blk_drew ?_ | refine blk_alloc ?_ _)); refine blk_put (cs := #[.int .i64 t114, .slice none 0 0]) ?_ 1 _ rfl; (with_reducible repeat (first | refine blk_drewN ?_ _ | refine blk_drew ?_ | refine blk_alloc ?_ _)); refine blk_put (cs := #[.int .i64 0, .slice none 0 0]) ?_ 0 _ rfl; (with_reducible repeat (first | refine blk_drewN ?_ _ | refine blk_drew ?_ | refine blk_alloc ?_ _)); exact BK118.out⟩, ⟨by repeat (first | (with_reducible first | exact HB.out | apply below_alloc | apply pw_below_drewN | apply below_drew1 | refine below_set ?_ GE113.out | refine below_set ?_ GE118.out) | exact HB.out)⟩⟩
 case rest =>
  clear HC4
  try clear c1
  try clear c2
  try clear p2
  try clear c3
  try clear p6
  try clear c8
  try clear c11
  try clear c11b0
  try clear c11b1
  try clear c12
  try clear c13
  try clear hcz14_0
  try clear hcz14_1
  try clear hcz17_0
  try clear hcz17_1
  try clear hcz9_0
  try clear hcz9_1
  try clear hfz14_0
  try clear hfz14_1
  try clear hfz17_0
  try clear hfz17_1
  try clear hfz9_0
  try clear hfz9_1
  obtain ⟨kq, x119001_3, u119001, HA, HJ3, HO_119001, BK113, BK118, HB⟩ := hcut
  cases kq with
  | zero => exact absurd HA.out (by simp [intervalmonref29_Any.j0])
  | succ kj3 =>
   have H := HA.out
   clear HA
   simp only [intervalmonref29_Any.j0] at H
   have HC18 := Aside0.mk H
   clear H
   go_upto_region 5 with (fail)
   go_cut [38] (fun v38 wc => ∃ (kq : Nat) (x38_17 : Bool), v38 = .bool x38_17 ∧ Aside0 (intervalmonref29_Any.j1 kq t119 x38_17 t114 x119001_3 = some (r1, r2)) ∧ Aside0 (kq ≤ kj3) ∧ Aside0 (Kd.R k27 27 wc w.heap.size (fun _ => True) u119001 x119001_3) ∧ Aside0 (wc.heap[gb113]? = some (.cells #[.int .i64 0, (.slice none 0 0)] 25 (0, 0))) ∧ Aside0 (wc.heap[gb118]? = some (.cells #[.int .i64 t114, u119001] 25 (0, 0))) ∧ Aside0 (Below w.heap.size w wc))
   case first =>
    have H := HC18.out
    clear HC18
    by_cases c19 : (Int.tmod t119 3) = 1
    ·rw [if_pos c19] at H
     have c19b0 : ((Int.tmod t119 3) == 1) = true := beq_iff_eq.mpr c19
     have c19b1 : ((Int.tmod t119 3) != 1) = false := bne_eq_false_iff_eq.mpr c19
     clear c19
     (first | rw [c19b0] | (simp only [i64_w, i32_w]; rw [c19b0]) | skip)
     have H' := Aside0.mk H
     clear H
     have hnb20 := NB118_113.out
     have hnc20 := NB113_118.out
     have hcz21_0 : wc.cell? ⟨gb118, 0, none⟩ = some (.int .i64 t114) := (blk_cell BK118.out 0).trans rfl
     have hcz21_1 : wc.cell? ⟨gb118, 1, none⟩ = some (u119001) := (blk_cell BK118.out 1).trans rfl
     have hfz21_0 := blk_frozen BK118.out 0
     have hfz21_1 := blk_frozen BK118.out 1
     obtain ⟨Ao22, co22, eo22⟩ := Kd.R_slice HO_119001.out
     subst eo22
     go_wp2
     go_meet
     case rel => exact ⟨_, (decide ((x119001_3.length : Int) > 0)), (by first | rfl | (simp; done) | (simp [*]; done)), H', ⟨by have := HJ3.out; first | omega | exact Nat.le_refl _⟩, ⟨by (with_reducible repeat (first | apply Kd.R_alloc | apply Kd.R_drewN | apply Kd.R_drew)); exact HO_119001.out⟩, ⟨by (with_reducible repeat (first | refine blk_drewN ?_ _ | refine blk_drew ?_ | refine blk_alloc ?_ _)); exact BK113.out⟩, ⟨by (with_reducible repeat (first | refine blk_drewN ?_ _ | refine blk_drew ?_ | refine blk_alloc ?_ _)); exact BK118.out⟩, ⟨by repeat (first | (with_reducible first | exact HB.out | apply below_alloc | apply pw_below_drewN | apply below_drew1 | refine below_set ?_ GE113.out | refine below_set ?_ GE118.out) | exact HB.out)⟩⟩
    ·rw [if_neg c19] at H
     have c19b0 : ((Int.tmod t119 3) == 1) = false := beq_eq_false_iff_ne.mpr c19
     have c19b1 : ((Int.tmod t119 3) != 1) = true := bne_iff_ne.mpr c19
     (first | rw [c19b0] | (simp only [i64_w, i32_w]; rw [c19b0]) | skip)
     have H' := Aside0.mk H
     clear H
     go_wp2
     go_meet
     case rel => exact ⟨_, (false), (by first | rfl | (simp; done) | (simp [*]; done)), H', ⟨by have := HJ3.out; first | omega | exact Nat.le_refl _⟩, ⟨by (with_reducible repeat (first | apply Kd.R_alloc | apply Kd.R_drewN | apply Kd.R_drew)); exact HO_119001.out⟩, ⟨by (with_reducible repeat (first | refine blk_drewN ?_ _ | refine blk_drew ?_ | refine blk_alloc ?_ _)); exact BK113.out⟩, ⟨by (with_reducible repeat (first | refine blk_drewN ?_ _ | refine blk_drew ?_ | refine blk_alloc ?_ _)); exact BK118.out⟩, ⟨by repeat (first | (with_reducible first | exact HB.out | apply below_alloc | apply pw_below_drewN | apply below_drew1 | refine below_set ?_ GE113.out | refine below_set ?_ GE118.out) | exact HB.out)⟩⟩
   case rest =>
    clear HC18
    try clear c1
    try clear c2
    try clear p2
    try clear c3
    try clear p6
    try clear c8
    try clear c11
    try clear c11b0
    try clear c11b1
    try clear c12
    try clear c13
    try clear c19
    try clear c19b0
    try clear c19b1
    try clear c20
    try clear c22
    try clear hcz14_0
    try clear hcz14_1
    try clear hcz17_0
    try clear hcz17_1
    try clear hcz21_0
    try clear hcz21_1
    try clear hcz9_0
    try clear hcz9_1
    try clear hfz14_0
    try clear hfz14_1
    try clear hfz17_0
    try clear hfz17_1
    try clear hfz21_0
    try clear hfz21_1
    try clear hfz9_0
    try clear hfz9_1
    try clear p2
    try clear p6
    obtain ⟨kq, x38_17, rfl, HA, HJ17, HO_119001, BK113, BK118, HB⟩ := hcut
    cases kq with
    | zero => exact absurd HA.out (by simp [intervalmonref29_Any.j1])
    | succ kj17 =>
     have H := HA.out
     clear HA
     simp only [intervalmonref29_Any.j1] at H
     by_cases c23 : x38_17 = true
     ·subst c23
      have H1 : (if (x119001_3.length : Int) = 0 then (none) else (if 0 ≤ (Int.tmod (wrap64 (Int.tdiv t119 3)) (x119001_3.length : Int)) then (if (Int.tmod (wrap64 (Int.tdiv t119 3)) (x119001_3.length : Int)) < (x119001_3.length : Int) then (if (Int.tmod t119 2) = 1 then (if x119001_3.length < 8796093022208 then (some (t114, (x119001_3 ++ [(⟨(rd_T27 x119001_3 (Int.tmod (wrap64 (Int.tdiv t119 3)) (x119001_3.length : Int))).f1, (rd_T27 x119001_3 (Int.tmod (wrap64 (Int.tdiv t119 3)) (x119001_3.length : Int))).f0⟩ : S27)]))) else (none)) else (if x119001_3.length < 8796093022208 then (some (t114, (x119001_3 ++ [(⟨(rd_T27 x119001_3 (Int.tmod (wrap64 (Int.tdiv t119 3)) (x119001_3.length : Int))).f0, (rd_T27 x119001_3 (Int.tmod (wrap64 (Int.tdiv t119 3)) (x119001_3.length : Int))).f1⟩ : S27)]))) else (none))) else (none)) else (none))) = some (r1, r2) := by rw [if_pos rfl] at H; exact H
      clear H
      have H := H1
      clear H1
      by_cases c24 : (x119001_3.length : Int) = 0
      ·rw [if_pos c24] at H
       exact absurd H (by simp)
      ·rw [if_neg c24] at H
       have c24b0 : ((x119001_3.length : Int) == 0) = false := beq_eq_false_iff_ne.mpr c24
       have c24b1 : ((x119001_3.length : Int) != 0) = true := bne_iff_ne.mpr c24
       have c24b2 : ¬ (x119001_3 = []) := fun h_ => c24 (by rw [h_]; rfl)
       obtain ⟨ji25, hji25⟩ : ∃ j_ : Int, (Int.tmod (wrap64 (Int.tdiv t119 3)) (x119001_3.length : Int)) = j_ := ⟨_, rfl⟩
       replace H : (if 0 ≤ (ji25) then (if (ji25) < (x119001_3.length : Int) then (if (Int.tmod t119 2) = 1 then (if x119001_3.length < 8796093022208 then (some (t114, (x119001_3 ++ [(⟨(rd_T27 x119001_3 (ji25)).f1, (rd_T27 x119001_3 (ji25)).f0⟩ : S27)]))) else (none)) else (if x119001_3.length < 8796093022208 then (some (t114, (x119001_3 ++ [(⟨(rd_T27 x119001_3 (ji25)).f0, (rd_T27 x119001_3 (ji25)).f1⟩ : S27)]))) else (none))) else (none)) else (none)) = some (r1, r2) := by first | (rw [hji25] at H; exact H) | (simp only [hji25] at H ⊢; exact H)
       by_cases c26 : 0 ≤ (ji25)
       ·rw [if_pos c26] at H
        have c26b0 : decide (0 ≤ (ji25)) = true := decide_eq_true c26
        clear c26
        by_cases c27 : (ji25) < (x119001_3.length : Int)
        ·rw [if_pos c27] at H
         have c27b0 : decide ((ji25) < (x119001_3.length : Int)) = true := decide_eq_true c27
         clear c27
         by_cases c28 : (Int.tmod t119 2) = 1
         ·rw [if_pos c28] at H
          have c28b0 : ((Int.tmod t119 2) == 1) = true := beq_iff_eq.mpr c28
          have c28b1 : ((Int.tmod t119 2) != 1) = false := bne_eq_false_iff_eq.mpr c28
          clear c28
          by_cases c29 : x119001_3.length < 8796093022208
          ·rw [if_pos c29] at H
           have LMc29 := Aside0.mk c29
           clear c29
           obtain ⟨y125, hy125⟩ : ∃ y_ : List (S27), y_ = (x119001_3 ++ [(⟨(rd_T27 x119001_3 (ji25)).f1, (rd_T27 x119001_3 (ji25)).f0⟩ : S27)]) := ⟨_, rfl⟩
           replace H : (some (t114, y125)) = some (r1, r2) := by first | (rw [hy125]; with_reducible exact H) | (have H2_ := (Option.bind_some _ _).symm.trans H; rw [hy125]; with_reducible exact H2_) | (have H2_ := (Option.bind_some _ _).symm.trans H; with_reducible exact H2_) | with_reducible exact H | (rw [hy125]; exact H) | exact H
           have Ny125 := Aside0.mk hy125
           clear hy125
           simp only [Option.some.injEq, Prod.mk.injEq] at H
           obtain ⟨rfl, rfl⟩ := H
           try go_wp2
           have n0_ := Aside0.mk (Kd.R_drew HO_119001.out)
           have n1_ := Aside0.mk (blk_drew BK113.out)
           have n2_ := Aside0.mk (blk_drew BK118.out)
           have n3_ := Aside0.mk (below_drew1 HB.out)
           clear HO_119001
           clear BK113
           clear BK118
           clear HB
           have HO_119001 := n0_
           have BK113 := n1_
           have BK118 := n2_
           have HB := n3_
           clear n0_ n1_ n2_ n3_
           obtain ⟨Ao31, co31, eo31⟩ := Kd.R_slice HO_119001.out
           (first | subst eo31 | (injection eo31 with f1_ f2_ f3_; have f4_ := f1_.symm; have f5_ := f3_.symm; clear f1_ f2_ f3_; subst f4_; subst f5_))
           have p123 : 0 ≤ ((ji25) : Int) := of_decide_eq_true (by first | (with_reducible assumption) | assumption)
           have q123 : (ji25) < (x119001_3.length : Int) := of_decide_eq_true (by first | (with_reducible assumption) | assumption)
           obtain ⟨ad123, e123, hx123_0, hx123_1⟩ := at_T27 (Kd.R_reads' HO_119001.out).2.2 (ji25) p123 q123
           cases e123
           replace p123 := eq_true p123
           replace q123 := eq_true q123
           refine start_ (n := 12) (S := fun w' => w'.cell? ⟨gb118, 0, none⟩ = some (.int .i64 t114) ∧ w'.cell? ⟨gb118, 1, none⟩ = some (.slice (some ad123) x119001_3.length co31) ∧ w'.cell? (ad123.add (((ji25)).toNat * 2)) = some (.int .i64 ((rd_T27 x119001_3 (ji25)).f0)) ∧ w'.cell? ⟨(ad123.add (((ji25)).toNat * 2)).block, (ad123.add (((ji25)).toNat * 2)).off + 1, none⟩ = some (.int .i64 ((rd_T27 x119001_3 (ji25)).f1))) (ds := []) #[false, false, false, false, false, false, false, false, false, false, false, false] (by kernel_rfl) rfl rfl ⟨(blk_cell BK118.out 0).trans rfl, (blk_cell BK118.out 1).trans rfl, hx123_0, hx123_1⟩ (fun hHeld => ?_); refine with_tabW intervalmonref29_Any.tab6 intervalmonref29_Any.bits6 (fun HT_ HW_ => ?_)
           generalize wc.drew = w30 at HO_119001 BK113 BK118 HB hx123_0 hx123_1 hHeld ⊢
           refine pure_ (i := 0) (N := some 39) (v := ?_) (a' := ?_) #[true, false, false, false, false, false, false, false, false, false, false, false] rfl rfl (any_of HT_.out (by kernel_rfl)) (fun _ _ _ h => h) (Or.inl ⟨by rfl, ?_⟩) ?_ ?_
           rotate_left
           ·intro w'
            go_simp
            with_reducible rfl
           rotate_left
           ·simp only [Act.put, List.setIfInBounds_toArray, List.set_cons_zero, List.set_cons_succ, i64_w, i32_w]
            rfl
           refine pure_ (i := 2) (N := some 41) (v := ?_) (a' := ?_) #[true, false, true, false, false, false, false, false, false, false, false, false] rfl rfl (any_of HT_.out (by kernel_rfl)) (fun _ _ _ h => h) (Or.inl ⟨by rfl, ?_⟩) ?_ ?_
           rotate_left
           ·intro w'
            go_simp
            with_reducible rfl
           rotate_left
           ·simp only [Act.put, List.setIfInBounds_toArray, List.set_cons_zero, List.set_cons_succ, i64_w, i32_w]
            rfl
           refine pure_ (i := 3) (N := some 42) (v := ?_) (a' := ?_) #[true, false, true, true, false, false, false, false, false, false, false, false] rfl rfl (any_of HT_.out (by kernel_rfl)) (fun _ _ _ h => h) (Or.inl ⟨by rfl, ?_⟩) ?_ ?_
           rotate_left
           ·intro w'
            go_simp
            with_reducible rfl
           rotate_left
           ·simp only [Act.put, List.setIfInBounds_toArray, List.set_cons_zero, List.set_cons_succ, i64_w, i32_w]
            rfl
           refine pure_ (i := 4) (N := some 43) (v := ?_) (a' := ?_) #[true, false, true, true, true, false, false, false, false, false, false, false] rfl rfl (any_of HT_.out (by kernel_rfl)) (fun _ _ _ h => h) (Or.inl ⟨by rfl, ?_⟩) ?_ ?_
           rotate_left
           ·intro w'
            go_simp
            with_reducible rfl
           rotate_left
           ·simp only [Act.put, List.setIfInBounds_toArray, List.set_cons_zero, List.set_cons_succ, i64_w, i32_w]
            rfl
           refine take_ (i := 1) (N := some 40) (v := ?_) (a' := ?_) #[true, true, true, true, true, false, false, false, false, false, false, false] rfl rfl (take_ofW HT_.out HW_.out (by kernel_rfl)) (fun _ _ _ h => h) (Or.inl ⟨by rfl, ?_⟩) hHeld ?_ ?_
           rotate_left
           ·rintro w' ⟨s0, s1, s2, s3⟩
            go_simp
            with_reducible rfl
           rotate_left
           ·simp only [Act.put, List.setIfInBounds_toArray, List.set_cons_zero, List.set_cons_succ, i64_w, i32_w]
            rfl
           refine take_ (i := 5) (N := some 44) (v := ?_) (a' := ?_) #[true, true, true, true, true, true, false, false, false, false, false, false] rfl rfl (take_ofW HT_.out HW_.out (by kernel_rfl)) (fun _ _ _ h => h) (Or.inl ⟨by rfl, ?_⟩) hHeld ?_ ?_
           rotate_left
           ·rintro w' ⟨s0, s1, s2, s3⟩
            go_simp
            with_reducible rfl
           rotate_left
           ·simp only [Act.put, List.setIfInBounds_toArray, List.set_cons_zero, List.set_cons_succ, i64_w, i32_w]
            rfl
           refine pure_ (i := 6) (N := some 45) (v := ?_) (a' := ?_) #[true, true, true, true, true, true, true, false, false, false, false, false] rfl rfl (any_of HT_.out (by kernel_rfl)) (fun _ _ _ h => h) (Or.inl ⟨by rfl, ?_⟩) ?_ ?_
           rotate_left
           ·intro w'
            go_simp
            with_reducible rfl
           rotate_left
           ·simp only [Act.put, List.setIfInBounds_toArray, List.set_cons_zero, List.set_cons_succ, i64_w, i32_w]
            rfl
           refine pure_ (i := 7) (N := some 46) (v := ?_) (a' := ?_) #[true, true, true, true, true, true, true, true, false, false, false, false] rfl rfl (any_of HT_.out (by kernel_rfl)) (fun _ _ _ h => h) (Or.inl ⟨by rfl, ?_⟩) ?_ ?_
           rotate_left
           ·intro w'
            go_simp
            with_reducible rfl
           rotate_left
           ·simp only [Act.put, List.setIfInBounds_toArray, List.set_cons_zero, List.set_cons_succ, i64_w, i32_w]
            rfl
           refine pure_ (i := 8) (N := some 47) (v := ?_) (a' := ?_) #[true, true, true, true, true, true, true, true, true, false, false, false] rfl rfl (any_of HT_.out (by kernel_rfl)) (fun _ _ _ h => h) (Or.inl ⟨by rfl, ?_⟩) ?_ ?_
           rotate_left
           ·intro w'
            go_simp
            with_reducible rfl
           rotate_left
           ·simp only [Act.put, List.setIfInBounds_toArray, List.set_cons_zero, List.set_cons_succ, i64_w, i32_w]
            rfl
           refine take_ (i := 9) (N := some 48) (v := ?_) (a' := ?_) #[true, true, true, true, true, true, true, true, true, true, false, false] rfl rfl (take_ofW HT_.out HW_.out (by kernel_rfl)) (fun _ _ _ h => h) (Or.inl ⟨by rfl, ?_⟩) hHeld ?_ ?_
           rotate_left
           ·rintro w' ⟨s0, s1, s2, s3⟩
            go_simp
            with_reducible rfl
           rotate_left
           ·simp only [Act.put, List.setIfInBounds_toArray, List.set_cons_zero, List.set_cons_succ, i64_w, i32_w]
            rfl
           refine one_ (i := 10) (N := some 5) #[true, true, true, true, true, true, true, true, true, true, true, false] rfl rfl (one_of HT_.out (by kernel_rfl)) (by decide) (fun K hK => ?_)
           refine box_step ?hg (N := 5) ?hd (cs := #[.int .i64 0, .int .i64 0]) (t := 27) ?hr ?_; (case hd => rfl); (case hg => rfl); (case hr => first | (go_simp; done) | (go_simp; rfl))
           intro gb124 hg w32 hbox hb
           have HS2_ := (hb.cell (World.block_lt_of_cell? _ _ (hHeld.2.2.1))).trans (hHeld.2.2.1)
           have HS3_ := (hb.cell (World.block_lt_of_cell? _ _ (hHeld.2.2.2))).trans (hHeld.2.2.2)
           have n0_ := Aside0.mk (Kd.R_below (Kd.R_elderB (rq HO_119001) gb124 (Nat.le_of_eq hg.symm)) hb)
           have n1_ := Aside0.mk (blk_below (g := gb113) (o := .cells #[.int .i64 0, .slice none 0 0] 25 (0, 0)) (bq BK113) hb)
           have n2_ := Aside0.mk (blk_below (g := gb118) (o := .cells #[.int .i64 t114, .slice (some ad123) x119001_3.length co31] 25 (0, 0)) (bq BK118) hb)
           have n3_ := Aside0.mk (below_step (hq HB) hb)
           have n4_ := Aside0.mk (hbox)
           have n5_ := Aside0.mk ((by rw [hg]; exact (below_size (hq HB)) : w.heap.size ≤ gb124))
           have n6_ := Aside0.mk ((by rw [hg]; exact (below_size (hq HB)) : w.heap.size ≤ gb124))
           have n7_ := Aside0.mk ((by rw [hg]; exact Nat.ne_of_lt (blk_lt (g := gb113) (o := .cells #[.int .i64 0, .slice none 0 0] 25 (0, 0)) (bq BK113)) : gb113 ≠ gb124))
           have n8_ := Aside0.mk ((by rw [hg]; exact Nat.ne_of_gt (blk_lt (g := gb113) (o := .cells #[.int .i64 0, .slice none 0 0] 25 (0, 0)) (bq BK113)) : gb124 ≠ gb113))
           have n9_ := Aside0.mk ((by rw [hg]; exact Nat.ne_of_lt (blk_lt (g := gb118) (o := .cells #[.int .i64 t114, .slice (some ad123) x119001_3.length co31] 25 (0, 0)) (bq BK118)) : gb118 ≠ gb124))
           have n10_ := Aside0.mk ((by rw [hg]; exact Nat.ne_of_gt (blk_lt (g := gb118) (o := .cells #[.int .i64 t114, .slice (some ad123) x119001_3.length co31] 25 (0, 0)) (bq BK118)) : gb124 ≠ gb118))
           clear HO_119001
           clear BK113
           clear BK118
           clear HB
           have HO_119001 := n0_
           have BK113 := n1_
           have BK118 := n2_
           have HB := n3_
           have BK124 := n4_
           have GW124 := n5_
           have GE124 := n6_
           have NB113_124 := n7_
           have NB124_113 := n8_
           have NB118_124 := n9_
           have NB124_118 := n10_
           clear n0_ n1_ n2_ n3_ n4_ n5_ n6_ n7_ n8_ n9_ n10_
           clear hb hbox hg
           refine hK.out _ _ ⟨(blk_cell BK118.out 0).trans rfl, (blk_cell BK118.out 1).trans rfl, HS2_, HS3_⟩ (fun hHeld => ?_)
           clear hK K
           refine norm_ (a' := ?_) ?_ ?_
           rotate_left
           ·show Act.put _ (some 5) _ = _
            simp only [Act.put, List.setIfInBounds_toArray, List.set_cons_zero, List.set_cons_succ, i64_w, i32_w]
            rfl
           refine one_ (i := 11) (N := none) #[true, true, true, true, true, true, true, true, true, true, true, true] rfl rfl (one_of HT_.out (by kernel_rfl)) (by decide) (fun K hK => ?_)
           have hs33 : w32.cell? ⟨gb124, 0, none⟩ = some (.int .i64 0) := (blk_cell BK124.out 0).trans rfl
           have hfs33 := blk_frozen BK124.out 0
           have hns33_0 := NB113_124.out
           have hns33_1 := NB118_124.out
           have hms33_0 := NB124_113.out
           have hms33_1 := NB124_118.out
           have hs34 : w32.cell? ⟨gb124, 1, none⟩ = some (.int .i64 0) := (blk_cell BK124.out 1).trans rfl
           have hfs34 := blk_frozen BK124.out 1
           have hns34_0 := NB113_124.out
           have hns34_1 := NB118_124.out
           have hms34_0 := NB124_113.out
           have hms34_1 := NB124_118.out
           refine skip_ (w1 := ?_) (by rfl) rfl ?_ ?_
           rotate_left
           ·go_simp
            rfl
           refine hK.out _ _ ⟨((cell_far (p := ⟨gb124, _, none⟩) NB118_124.out _).trans (((cell_far (p := ⟨gb124, _, none⟩) NB118_124.out _).trans (hHeld.1)))), ((cell_far (p := ⟨gb124, _, none⟩) NB118_124.out _).trans (((cell_far (p := ⟨gb124, _, none⟩) NB118_124.out _).trans (hHeld.2.1)))), ((cell_far (p := ⟨gb124, _, none⟩) (by first | exact Kd.own_blk (Kd.R_away HO_119001.out (fun _ hk => hk.2)) | (rw [add_block]; exact Kd.own_blk (Kd.R_away HO_119001.out (fun _ hk => hk.2))) | (show (Addr.add _ _).block ≠ _; rw [add_block]; exact Kd.own_blk (Kd.R_away HO_119001.out (fun _ hk => hk.2))) | (dsimp only; exact Kd.own_blk (Kd.R_away HO_119001.out (fun _ hk => hk.2)))) _).trans (((cell_far (p := ⟨gb124, _, none⟩) (by first | exact Kd.own_blk (Kd.R_away HO_119001.out (fun _ hk => hk.2)) | (rw [add_block]; exact Kd.own_blk (Kd.R_away HO_119001.out (fun _ hk => hk.2))) | (show (Addr.add _ _).block ≠ _; rw [add_block]; exact Kd.own_blk (Kd.R_away HO_119001.out (fun _ hk => hk.2))) | (dsimp only; exact Kd.own_blk (Kd.R_away HO_119001.out (fun _ hk => hk.2)))) _).trans (hHeld.2.2.1)))), ((cell_far (p := ⟨gb124, _, none⟩) (by first | exact Kd.own_blk (Kd.R_away HO_119001.out (fun _ hk => hk.2)) | (rw [add_block]; exact Kd.own_blk (Kd.R_away HO_119001.out (fun _ hk => hk.2))) | (show (Addr.add _ _).block ≠ _; rw [add_block]; exact Kd.own_blk (Kd.R_away HO_119001.out (fun _ hk => hk.2))) | (dsimp only; exact Kd.own_blk (Kd.R_away HO_119001.out (fun _ hk => hk.2)))) _).trans (((cell_far (p := ⟨gb124, _, none⟩) (by first | exact Kd.own_blk (Kd.R_away HO_119001.out (fun _ hk => hk.2)) | (rw [add_block]; exact Kd.own_blk (Kd.R_away HO_119001.out (fun _ hk => hk.2))) | (show (Addr.add _ _).block ≠ _; rw [add_block]; exact Kd.own_blk (Kd.R_away HO_119001.out (fun _ hk => hk.2))) | (dsimp only; exact Kd.own_blk (Kd.R_away HO_119001.out (fun _ hk => hk.2)))) _).trans (hHeld.2.2.2))))⟩ (fun hHeld => ?_)
           clear hK K
           refine done_ (done_of HT_.out (by kernel_rfl)) ?_
           have hnb35 := NB124_113.out
           have hnc35 := NB113_124.out
           have hnb36 := NB124_118.out
           have hnc36 := NB118_124.out
           have hcz37_0 : w32.cell? ⟨gb124, 0, none⟩ = some (.int .i64 0) := (blk_cell BK124.out 0).trans rfl
           have hcz37_1 : w32.cell? ⟨gb124, 1, none⟩ = some (.int .i64 0) := (blk_cell BK124.out 1).trans rfl
           have hfz37_0 := blk_frozen BK124.out 0
           have hfz37_1 := blk_frozen BK124.out 1
           have hnb38 := NB118_113.out
           have hnc38 := NB113_118.out
           have hcz39_0 : w32.cell? ⟨gb118, 0, none⟩ = some (.int .i64 t114) := (blk_cell BK118.out 0).trans rfl
           have hcz39_1 : w32.cell? ⟨gb118, 1, none⟩ = some (.slice (some ad123) x119001_3.length co31) := (blk_cell BK118.out 1).trans rfl
           have hfz39_0 := blk_frozen BK118.out 0
           have hfz39_1 := blk_frozen BK118.out 1
           try go_wp2_with (first | ((with_reducible refine gate_builtin (b := .append) (xs := #[.tmp 58, .tmp 60]) rfl ?_); (try (refine gate_guard (by rfl) ?_; dsimp only)); at_builtin; refine Kd.R_append k27 (w0 := w) w.heap.size rfl (.tmp 58) (.tmp 60) 23 27 (.agg #[(.int .i64 0), (.int .i64 0)]) 16 rfl Try.underlying23 info27 rfl (by decide) (by omega) (.slice (some ad123) x119001_3.length co31) x119001_3 (⟨(rd_T27 x119001_3 (ji25)).f1, (rd_T27 x119001_3 (ji25)).f0⟩ : S27) [.int .i64 ((rd_T27 x119001_3 (ji25)).f1), .int .i64 ((rd_T27 x119001_3 (ji25)).f0)] (fun k_ => k_ ≠ gb124) (fun _ => False) rfl (by first | (go_simp; done) | (go_simp; rfl)) ?aP (fun _ hk => hk.elim) ?aF ?aO ?aB ?aS ?aL ?_; (case aP => exact k27_mkM _ _ _ (⟨(rd_T27 x119001_3 (ji25)).f1, (rd_T27 x119001_3 (ji25)).f0⟩ : S27)); (case aB => exact (hq HB)); (case aF => exact (fun k_ hk => Kd.freshB (g := gb124) (o := .cells #[.int .i64 ((rd_T27 x119001_3 (ji25)).f1), .int .i64 ((rd_T27 x119001_3 (ji25)).f0)] 27 (0, 0)) (by (with_reducible repeat (first | refine blk_drewN ?_ _ | refine blk_drew ?_ | refine blk_alloc ?_ _)); refine blk_put (cs := #[.int .i64 ((rd_T27 x119001_3 (ji25)).f1), .int .i64 ((rd_T27 x119001_3 (ji25)).f1)]) ?_ 1 _ rfl; (with_reducible repeat (first | refine blk_drewN ?_ _ | refine blk_drew ?_ | refine blk_alloc ?_ _)); refine blk_put (cs := #[.int .i64 ((rd_T27 x119001_3 (ji25)).f0), .int .i64 ((rd_T27 x119001_3 (ji25)).f1)]) ?_ 0 _ rfl; (with_reducible repeat (first | refine blk_drewN ?_ _ | refine blk_drew ?_ | refine blk_alloc ?_ _)); refine blk_put (cs := #[.int .i64 ((rd_T27 x119001_3 (ji25)).f0), .int .i64 0]) ?_ 1 _ rfl; (with_reducible repeat (first | refine blk_drewN ?_ _ | refine blk_drew ?_ | refine blk_alloc ?_ _)); refine blk_put (cs := #[.int .i64 0, .int .i64 0]) ?_ 0 _ rfl; (with_reducible repeat (first | refine blk_drewN ?_ _ | refine blk_drew ?_ | refine blk_alloc ?_ _)); exact BK124.out) k_ hk)); (case aO => exact (by (with_reducible repeat (first | apply Kd.R_alloc | apply Kd.R_drewN | apply Kd.R_drew)); exact Kd.R_mono (Kd.R_far (p := ⟨gb124, 1, none⟩) (Kd.R_far (p := ⟨gb124, 0, none⟩) (Kd.R_far (p := ⟨gb124, 1, none⟩) (Kd.R_far (p := ⟨gb124, 0, none⟩) (Kd.R_mono HO_119001.out (fun k_ hk => (⟨hk, hk.2⟩ : _ ∧ k_ ≠ gb124))) (fun _ hk => hk.2) (.int .i64 ((rd_T27 x119001_3 (ji25)).f0))) (fun _ hk => hk.2) (.int .i64 ((rd_T27 x119001_3 (ji25)).f1))) (fun _ hk => hk.2) (.int .i64 ((rd_T27 x119001_3 (ji25)).f1))) (fun _ hk => hk.2) (.int .i64 ((rd_T27 x119001_3 (ji25)).f0))) (fun _ hk => hk.1.2))); (case aS => exact (below_size (hq HB))); (case aL => have := LMc29.out; omega); intro v126 w40 ho hb hg hat; rw [← Ny125.out] at ho; have n0_ := Aside0.mk (blk_grown (g := gb113) (o := .cells #[.int .i64 0, .slice none 0 0] 25 (0, 0)) (by (with_reducible repeat (first | refine blk_drewN ?_ _ | refine blk_drew ?_ | refine blk_alloc ?_ _)); refine blk_far ?_ NB113_124.out _; (with_reducible repeat (first | refine blk_drewN ?_ _ | refine blk_drew ?_ | refine blk_alloc ?_ _)); refine blk_far ?_ NB113_124.out _; (with_reducible repeat (first | refine blk_drewN ?_ _ | refine blk_drew ?_ | refine blk_alloc ?_ _)); refine blk_far ?_ NB113_124.out _; (with_reducible repeat (first | refine blk_drewN ?_ _ | refine blk_drew ?_ | refine blk_alloc ?_ _)); refine blk_far ?_ NB113_124.out _; (with_reducible repeat (first | refine blk_drewN ?_ _ | refine blk_drew ?_ | refine blk_alloc ?_ _)); exact BK113.out) hg (Kd.R_ne HO_119001.out BK113.out (by decide))); have n1_ := Aside0.mk (blk_grown (g := gb118) (o := .cells #[.int .i64 t114, .slice (some ad123) x119001_3.length co31] 25 (0, 0)) (by (with_reducible repeat (first | refine blk_drewN ?_ _ | refine blk_drew ?_ | refine blk_alloc ?_ _)); refine blk_far ?_ NB118_124.out _; (with_reducible repeat (first | refine blk_drewN ?_ _ | refine blk_drew ?_ | refine blk_alloc ?_ _)); refine blk_far ?_ NB118_124.out _; (with_reducible repeat (first | refine blk_drewN ?_ _ | refine blk_drew ?_ | refine blk_alloc ?_ _)); refine blk_far ?_ NB118_124.out _; (with_reducible repeat (first | refine blk_drewN ?_ _ | refine blk_drew ?_ | refine blk_alloc ?_ _)); refine blk_far ?_ NB118_124.out _; (with_reducible repeat (first | refine blk_drewN ?_ _ | refine blk_drew ?_ | refine blk_alloc ?_ _)); exact BK118.out) hg (Kd.R_ne HO_119001.out BK118.out (by decide))); have n2_ := Aside0.mk (blk_grown (g := gb124) (o := .cells #[.int .i64 ((rd_T27 x119001_3 (ji25)).f1), .int .i64 ((rd_T27 x119001_3 (ji25)).f0)] 27 (0, 0)) (by (with_reducible repeat (first | refine blk_drewN ?_ _ | refine blk_drew ?_ | refine blk_alloc ?_ _)); refine blk_put (cs := #[.int .i64 ((rd_T27 x119001_3 (ji25)).f1), .int .i64 ((rd_T27 x119001_3 (ji25)).f1)]) ?_ 1 _ rfl; (with_reducible repeat (first | refine blk_drewN ?_ _ | refine blk_drew ?_ | refine blk_alloc ?_ _)); refine blk_put (cs := #[.int .i64 ((rd_T27 x119001_3 (ji25)).f0), .int .i64 ((rd_T27 x119001_3 (ji25)).f1)]) ?_ 0 _ rfl; (with_reducible repeat (first | refine blk_drewN ?_ _ | refine blk_drew ?_ | refine blk_alloc ?_ _)); refine blk_put (cs := #[.int .i64 ((rd_T27 x119001_3 (ji25)).f0), .int .i64 0]) ?_ 1 _ rfl; (with_reducible repeat (first | refine blk_drewN ?_ _ | refine blk_drew ?_ | refine blk_alloc ?_ _)); refine blk_put (cs := #[.int .i64 0, .int .i64 0]) ?_ 0 _ rfl; (with_reducible repeat (first | refine blk_drewN ?_ _ | refine blk_drew ?_ | refine blk_alloc ?_ _)); exact BK124.out) hg (Kd.R_away HO_119001.out (fun _ hk => hk.2))); have n3_ := Aside0.mk (hb); have n4_ := Aside0.mk (ho); clear BK113; clear BK118; clear BK124; clear HB; clear HO_119001; have BK113 := n0_; have BK118 := n1_; have BK124 := n2_; have HB := n3_; have HO127 := n4_; clear n0_ n1_ n2_ n3_ n4_; clear ho hb hg hat; obtain ⟨Ao41, co41, eo41⟩ := Kd.R_slice HO127.out; subst eo41; have hcz42_0 : w40.cell? ⟨gb118, 0, none⟩ = some (.int .i64 t114) := (blk_cell BK118.out 0).trans rfl; have hcz42_1 : w40.cell? ⟨gb118, 1, none⟩ = some (.slice (some ad123) x119001_3.length co31) := (blk_cell BK118.out 1).trans rfl; have hfz42_0 := blk_frozen BK118.out 0; have hfz42_1 := blk_frozen BK118.out 1; have hcz43_0 : w40.cell? ⟨gb113, 0, none⟩ = some (.int .i64 0) := (blk_cell BK113.out 0).trans rfl; have hcz43_1 : w40.cell? ⟨gb113, 1, none⟩ = some (.slice none 0 0) := (blk_cell BK113.out 1).trans rfl; have hfz43_0 := blk_frozen BK113.out 0; have hfz43_1 := blk_frozen BK113.out 1))
           refine bodyPost_ret (results_cell_row rfl _ _ gb113 25 #[.int .i64 t114, .slice Ao41 y125.length co41] (0, 0) _ rfl (by (with_reducible repeat (first | refine blk_drewN ?_ _ | refine blk_drew ?_ | refine blk_alloc ?_ _)); refine blk_put (cs := #[.int .i64 t114, .slice none 0 0]) ?_ 1 _ rfl; (with_reducible repeat (first | refine blk_drewN ?_ _ | refine blk_drew ?_ | refine blk_alloc ?_ _)); refine blk_put (cs := #[.int .i64 0, .slice none 0 0]) ?_ 0 _ rfl; (with_reducible repeat (first | refine blk_drewN ?_ _ | refine blk_drew ?_ | refine blk_alloc ?_ _)); refine blk_far ?_ NB113_118.out _; (with_reducible repeat (first | refine blk_drewN ?_ _ | refine blk_drew ?_ | refine blk_alloc ?_ _)); exact BK113.out) Try.underlying25 rfl (by kernel_rfl)) rfl ?_
           exact ⟨_, by first | rfl | (simp [errW_none, errW_some] <;> rfl) | (simp only [← hji25]; first | rfl | (simp [errW_none, errW_some] <;> rfl)) | (simp [*, errW_none, errW_some] <;> rfl), by (with_reducible repeat (first | apply Kd.R_alloc | apply Kd.R_drewN | apply Kd.R_drew)); exact Kd.R_mono (Kd.R_far (p := ⟨gb113, 1, none⟩) (Kd.R_far (p := ⟨gb113, 0, none⟩) (Kd.R_far (p := ⟨gb118, 1, none⟩) (Kd.R_types (Kd.R_types HO127.out BK118.out (by decide)) BK113.out (by decide)) (fun _ hk => hk.1.2) (.slice Ao41 y125.length co41)) (fun _ hk => hk.2) (.int .i64 t114)) (fun _ hk => hk.2) (.slice Ao41 y125.length co41)) (fun _ hk => trivial), by repeat (first | (with_reducible first | exact HB.out | apply below_alloc | apply pw_below_drewN | apply below_drew1 | refine below_set ?_ GE113.out | refine below_set ?_ GE118.out | refine below_set ?_ GE124.out) | exact HB.out)⟩
          ·rw [if_neg c29] at H
           exact absurd H (by simp)
         ·rw [if_neg c28] at H
          have c28b0 : ((Int.tmod t119 2) == 1) = false := beq_eq_false_iff_ne.mpr c28
          have c28b1 : ((Int.tmod t119 2) != 1) = true := bne_iff_ne.mpr c28
          by_cases c44 : x119001_3.length < 8796093022208
          ·rw [if_pos c44] at H
           have LMc44 := Aside0.mk c44
           clear c44
           obtain ⟨y128, hy128⟩ : ∃ y_ : List (S27), y_ = (x119001_3 ++ [(⟨(rd_T27 x119001_3 (ji25)).f0, (rd_T27 x119001_3 (ji25)).f1⟩ : S27)]) := ⟨_, rfl⟩
           replace H : (some (t114, y128)) = some (r1, r2) := by first | (rw [hy128]; with_reducible exact H) | (have H2_ := (Option.bind_some _ _).symm.trans H; rw [hy128]; with_reducible exact H2_) | (have H2_ := (Option.bind_some _ _).symm.trans H; with_reducible exact H2_) | with_reducible exact H | (rw [hy128]; exact H) | exact H
           have Ny128 := Aside0.mk hy128
           clear hy128
           simp only [Option.some.injEq, Prod.mk.injEq] at H
           obtain ⟨rfl, rfl⟩ := H
           try go_wp2
           have n0_ := Aside0.mk (Kd.R_drew HO_119001.out)
           have n1_ := Aside0.mk (blk_drew BK113.out)
           have n2_ := Aside0.mk (blk_drew BK118.out)
           have n3_ := Aside0.mk (below_drew1 HB.out)
           clear HO_119001
           clear BK113
           clear BK118
           clear HB
           have HO_119001 := n0_
           have BK113 := n1_
           have BK118 := n2_
           have HB := n3_
           clear n0_ n1_ n2_ n3_
           obtain ⟨Ao46, co46, eo46⟩ := Kd.R_slice HO_119001.out
           (first | subst eo46 | (injection eo46 with f1_ f2_ f3_; have f4_ := f1_.symm; have f5_ := f3_.symm; clear f1_ f2_ f3_; subst f4_; subst f5_))
           have p123 : 0 ≤ ((ji25) : Int) := of_decide_eq_true (by first | (with_reducible assumption) | assumption)
           have q123 : (ji25) < (x119001_3.length : Int) := of_decide_eq_true (by first | (with_reducible assumption) | assumption)
           obtain ⟨ad123, e123, hx123_0, hx123_1⟩ := at_T27 (Kd.R_reads' HO_119001.out).2.2 (ji25) p123 q123
           cases e123
           replace p123 := eq_true p123
           replace q123 := eq_true q123
           refine start_ (n := 12) (S := fun w' => w'.cell? ⟨gb118, 0, none⟩ = some (.int .i64 t114) ∧ w'.cell? ⟨gb118, 1, none⟩ = some (.slice (some ad123) x119001_3.length co46) ∧ w'.cell? (ad123.add (((ji25)).toNat * 2)) = some (.int .i64 ((rd_T27 x119001_3 (ji25)).f0)) ∧ w'.cell? ⟨(ad123.add (((ji25)).toNat * 2)).block, (ad123.add (((ji25)).toNat * 2)).off + 1, none⟩ = some (.int .i64 ((rd_T27 x119001_3 (ji25)).f1))) (ds := []) #[false, false, false, false, false, false, false, false, false, false, false, false] (by kernel_rfl) rfl rfl ⟨(blk_cell BK118.out 0).trans rfl, (blk_cell BK118.out 1).trans rfl, hx123_0, hx123_1⟩ (fun hHeld => ?_); refine with_tabW intervalmonref29_Any.tab6 intervalmonref29_Any.bits6 (fun HT_ HW_ => ?_)
           generalize wc.drew = w45 at HO_119001 BK113 BK118 HB hx123_0 hx123_1 hHeld ⊢
           refine pure_ (i := 0) (N := some 39) (v := ?_) (a' := ?_) #[true, false, false, false, false, false, false, false, false, false, false, false] rfl rfl (any_of HT_.out (by kernel_rfl)) (fun _ _ _ h => h) (Or.inl ⟨by rfl, ?_⟩) ?_ ?_
           rotate_left
           ·intro w'
            go_simp
            with_reducible rfl
           rotate_left
           ·simp only [Act.put, List.setIfInBounds_toArray, List.set_cons_zero, List.set_cons_succ, i64_w, i32_w]
            rfl
           refine pure_ (i := 2) (N := some 41) (v := ?_) (a' := ?_) #[true, false, true, false, false, false, false, false, false, false, false, false] rfl rfl (any_of HT_.out (by kernel_rfl)) (fun _ _ _ h => h) (Or.inl ⟨by rfl, ?_⟩) ?_ ?_
           rotate_left
           ·intro w'
            go_simp
            with_reducible rfl
           rotate_left
           ·simp only [Act.put, List.setIfInBounds_toArray, List.set_cons_zero, List.set_cons_succ, i64_w, i32_w]
            rfl
           refine pure_ (i := 3) (N := some 42) (v := ?_) (a' := ?_) #[true, false, true, true, false, false, false, false, false, false, false, false] rfl rfl (any_of HT_.out (by kernel_rfl)) (fun _ _ _ h => h) (Or.inl ⟨by rfl, ?_⟩) ?_ ?_
           rotate_left
           ·intro w'
            go_simp
            with_reducible rfl
           rotate_left
           ·simp only [Act.put, List.setIfInBounds_toArray, List.set_cons_zero, List.set_cons_succ, i64_w, i32_w]
            rfl
           refine pure_ (i := 4) (N := some 43) (v := ?_) (a' := ?_) #[true, false, true, true, true, false, false, false, false, false, false, false] rfl rfl (any_of HT_.out (by kernel_rfl)) (fun _ _ _ h => h) (Or.inl ⟨by rfl, ?_⟩) ?_ ?_
           rotate_left
           ·intro w'
            go_simp
            with_reducible rfl
           rotate_left
           ·simp only [Act.put, List.setIfInBounds_toArray, List.set_cons_zero, List.set_cons_succ, i64_w, i32_w]
            rfl
           refine take_ (i := 1) (N := some 40) (v := ?_) (a' := ?_) #[true, true, true, true, true, false, false, false, false, false, false, false] rfl rfl (take_ofW HT_.out HW_.out (by kernel_rfl)) (fun _ _ _ h => h) (Or.inl ⟨by rfl, ?_⟩) hHeld ?_ ?_
           rotate_left
           ·rintro w' ⟨s0, s1, s2, s3⟩
            go_simp
            with_reducible rfl
           rotate_left
           ·simp only [Act.put, List.setIfInBounds_toArray, List.set_cons_zero, List.set_cons_succ, i64_w, i32_w]
            rfl
           refine take_ (i := 5) (N := some 44) (v := ?_) (a' := ?_) #[true, true, true, true, true, true, false, false, false, false, false, false] rfl rfl (take_ofW HT_.out HW_.out (by kernel_rfl)) (fun _ _ _ h => h) (Or.inl ⟨by rfl, ?_⟩) hHeld ?_ ?_
           rotate_left
           ·rintro w' ⟨s0, s1, s2, s3⟩
            go_simp
            with_reducible rfl
           rotate_left
           ·simp only [Act.put, List.setIfInBounds_toArray, List.set_cons_zero, List.set_cons_succ, i64_w, i32_w]
            rfl
           refine pure_ (i := 6) (N := some 45) (v := ?_) (a' := ?_) #[true, true, true, true, true, true, true, false, false, false, false, false] rfl rfl (any_of HT_.out (by kernel_rfl)) (fun _ _ _ h => h) (Or.inl ⟨by rfl, ?_⟩) ?_ ?_
           rotate_left
           ·intro w'
            go_simp
            with_reducible rfl
           rotate_left
           ·simp only [Act.put, List.setIfInBounds_toArray, List.set_cons_zero, List.set_cons_succ, i64_w, i32_w]
            rfl
           refine pure_ (i := 7) (N := some 46) (v := ?_) (a' := ?_) #[true, true, true, true, true, true, true, true, false, false, false, false] rfl rfl (any_of HT_.out (by kernel_rfl)) (fun _ _ _ h => h) (Or.inl ⟨by rfl, ?_⟩) ?_ ?_
           rotate_left
           ·intro w'
            go_simp
            with_reducible rfl
           rotate_left
           ·simp only [Act.put, List.setIfInBounds_toArray, List.set_cons_zero, List.set_cons_succ, i64_w, i32_w]
            rfl
           refine pure_ (i := 8) (N := some 47) (v := ?_) (a' := ?_) #[true, true, true, true, true, true, true, true, true, false, false, false] rfl rfl (any_of HT_.out (by kernel_rfl)) (fun _ _ _ h => h) (Or.inl ⟨by rfl, ?_⟩) ?_ ?_
           rotate_left
           ·intro w'
            go_simp
            with_reducible rfl
           rotate_left
           ·simp only [Act.put, List.setIfInBounds_toArray, List.set_cons_zero, List.set_cons_succ, i64_w, i32_w]
            rfl
           refine take_ (i := 9) (N := some 48) (v := ?_) (a' := ?_) #[true, true, true, true, true, true, true, true, true, true, false, false] rfl rfl (take_ofW HT_.out HW_.out (by kernel_rfl)) (fun _ _ _ h => h) (Or.inl ⟨by rfl, ?_⟩) hHeld ?_ ?_
           rotate_left
           ·rintro w' ⟨s0, s1, s2, s3⟩
            go_simp
            with_reducible rfl
           rotate_left
           ·simp only [Act.put, List.setIfInBounds_toArray, List.set_cons_zero, List.set_cons_succ, i64_w, i32_w]
            rfl
           refine one_ (i := 10) (N := some 5) #[true, true, true, true, true, true, true, true, true, true, true, false] rfl rfl (one_of HT_.out (by kernel_rfl)) (by decide) (fun K hK => ?_)
           refine box_step ?hg (N := 5) ?hd (cs := #[.int .i64 0, .int .i64 0]) (t := 27) ?hr ?_; (case hd => rfl); (case hg => rfl); (case hr => first | (go_simp; done) | (go_simp; rfl))
           intro gb124 hg w47 hbox hb
           have HS2_ := (hb.cell (World.block_lt_of_cell? _ _ (hHeld.2.2.1))).trans (hHeld.2.2.1)
           have HS3_ := (hb.cell (World.block_lt_of_cell? _ _ (hHeld.2.2.2))).trans (hHeld.2.2.2)
           have n0_ := Aside0.mk (Kd.R_below (Kd.R_elderB (rq HO_119001) gb124 (Nat.le_of_eq hg.symm)) hb)
           have n1_ := Aside0.mk (blk_below (g := gb113) (o := .cells #[.int .i64 0, .slice none 0 0] 25 (0, 0)) (bq BK113) hb)
           have n2_ := Aside0.mk (blk_below (g := gb118) (o := .cells #[.int .i64 t114, .slice (some ad123) x119001_3.length co46] 25 (0, 0)) (bq BK118) hb)
           have n3_ := Aside0.mk (below_step (hq HB) hb)
           have n4_ := Aside0.mk (hbox)
           have n5_ := Aside0.mk ((by rw [hg]; exact (below_size (hq HB)) : w.heap.size ≤ gb124))
           have n6_ := Aside0.mk ((by rw [hg]; exact (below_size (hq HB)) : w.heap.size ≤ gb124))
           have n7_ := Aside0.mk ((by rw [hg]; exact Nat.ne_of_lt (blk_lt (g := gb113) (o := .cells #[.int .i64 0, .slice none 0 0] 25 (0, 0)) (bq BK113)) : gb113 ≠ gb124))
           have n8_ := Aside0.mk ((by rw [hg]; exact Nat.ne_of_gt (blk_lt (g := gb113) (o := .cells #[.int .i64 0, .slice none 0 0] 25 (0, 0)) (bq BK113)) : gb124 ≠ gb113))
           have n9_ := Aside0.mk ((by rw [hg]; exact Nat.ne_of_lt (blk_lt (g := gb118) (o := .cells #[.int .i64 t114, .slice (some ad123) x119001_3.length co46] 25 (0, 0)) (bq BK118)) : gb118 ≠ gb124))
           have n10_ := Aside0.mk ((by rw [hg]; exact Nat.ne_of_gt (blk_lt (g := gb118) (o := .cells #[.int .i64 t114, .slice (some ad123) x119001_3.length co46] 25 (0, 0)) (bq BK118)) : gb124 ≠ gb118))
           clear HO_119001
           clear BK113
           clear BK118
           clear HB
           have HO_119001 := n0_
           have BK113 := n1_
           have BK118 := n2_
           have HB := n3_
           have BK124 := n4_
           have GW124 := n5_
           have GE124 := n6_
           have NB113_124 := n7_
           have NB124_113 := n8_
           have NB118_124 := n9_
           have NB124_118 := n10_
           clear n0_ n1_ n2_ n3_ n4_ n5_ n6_ n7_ n8_ n9_ n10_
           clear hb hbox hg
           refine hK.out _ _ ⟨(blk_cell BK118.out 0).trans rfl, (blk_cell BK118.out 1).trans rfl, HS2_, HS3_⟩ (fun hHeld => ?_)
           clear hK K
           refine norm_ (a' := ?_) ?_ ?_
           rotate_left
           ·show Act.put _ (some 5) _ = _
            simp only [Act.put, List.setIfInBounds_toArray, List.set_cons_zero, List.set_cons_succ, i64_w, i32_w]
            rfl
           refine one_ (i := 11) (N := none) #[true, true, true, true, true, true, true, true, true, true, true, true] rfl rfl (one_of HT_.out (by kernel_rfl)) (by decide) (fun K hK => ?_)
           have hs48 : w47.cell? ⟨gb124, 0, none⟩ = some (.int .i64 0) := (blk_cell BK124.out 0).trans rfl
           have hfs48 := blk_frozen BK124.out 0
           have hns48_0 := NB113_124.out
           have hns48_1 := NB118_124.out
           have hms48_0 := NB124_113.out
           have hms48_1 := NB124_118.out
           have hs49 : w47.cell? ⟨gb124, 1, none⟩ = some (.int .i64 0) := (blk_cell BK124.out 1).trans rfl
           have hfs49 := blk_frozen BK124.out 1
           have hns49_0 := NB113_124.out
           have hns49_1 := NB118_124.out
           have hms49_0 := NB124_113.out
           have hms49_1 := NB124_118.out
           refine skip_ (w1 := ?_) (by rfl) rfl ?_ ?_
           rotate_left
           ·go_simp
            rfl
           refine hK.out _ _ ⟨((cell_far (p := ⟨gb124, _, none⟩) NB118_124.out _).trans (((cell_far (p := ⟨gb124, _, none⟩) NB118_124.out _).trans (hHeld.1)))), ((cell_far (p := ⟨gb124, _, none⟩) NB118_124.out _).trans (((cell_far (p := ⟨gb124, _, none⟩) NB118_124.out _).trans (hHeld.2.1)))), ((cell_far (p := ⟨gb124, _, none⟩) (by first | exact Kd.own_blk (Kd.R_away HO_119001.out (fun _ hk => hk.2)) | (rw [add_block]; exact Kd.own_blk (Kd.R_away HO_119001.out (fun _ hk => hk.2))) | (show (Addr.add _ _).block ≠ _; rw [add_block]; exact Kd.own_blk (Kd.R_away HO_119001.out (fun _ hk => hk.2))) | (dsimp only; exact Kd.own_blk (Kd.R_away HO_119001.out (fun _ hk => hk.2)))) _).trans (((cell_far (p := ⟨gb124, _, none⟩) (by first | exact Kd.own_blk (Kd.R_away HO_119001.out (fun _ hk => hk.2)) | (rw [add_block]; exact Kd.own_blk (Kd.R_away HO_119001.out (fun _ hk => hk.2))) | (show (Addr.add _ _).block ≠ _; rw [add_block]; exact Kd.own_blk (Kd.R_away HO_119001.out (fun _ hk => hk.2))) | (dsimp only; exact Kd.own_blk (Kd.R_away HO_119001.out (fun _ hk => hk.2)))) _).trans (hHeld.2.2.1)))), ((cell_far (p := ⟨gb124, _, none⟩) (by first | exact Kd.own_blk (Kd.R_away HO_119001.out (fun _ hk => hk.2)) | (rw [add_block]; exact Kd.own_blk (Kd.R_away HO_119001.out (fun _ hk => hk.2))) | (show (Addr.add _ _).block ≠ _; rw [add_block]; exact Kd.own_blk (Kd.R_away HO_119001.out (fun _ hk => hk.2))) | (dsimp only; exact Kd.own_blk (Kd.R_away HO_119001.out (fun _ hk => hk.2)))) _).trans (((cell_far (p := ⟨gb124, _, none⟩) (by first | exact Kd.own_blk (Kd.R_away HO_119001.out (fun _ hk => hk.2)) | (rw [add_block]; exact Kd.own_blk (Kd.R_away HO_119001.out (fun _ hk => hk.2))) | (show (Addr.add _ _).block ≠ _; rw [add_block]; exact Kd.own_blk (Kd.R_away HO_119001.out (fun _ hk => hk.2))) | (dsimp only; exact Kd.own_blk (Kd.R_away HO_119001.out (fun _ hk => hk.2)))) _).trans (hHeld.2.2.2))))⟩ (fun hHeld => ?_)
           clear hK K
           refine done_ (done_of HT_.out (by kernel_rfl)) ?_
           have hnb50 := NB118_113.out
           have hnc50 := NB113_118.out
           have hnb51 := NB118_124.out
           have hnc51 := NB124_118.out
           have hcz52_0 : w47.cell? ⟨gb118, 0, none⟩ = some (.int .i64 t114) := (blk_cell BK118.out 0).trans rfl
           have hcz52_1 : w47.cell? ⟨gb118, 1, none⟩ = some (.slice (some ad123) x119001_3.length co46) := (blk_cell BK118.out 1).trans rfl
           have hfz52_0 := blk_frozen BK118.out 0
           have hfz52_1 := blk_frozen BK118.out 1
           have hnb53 := NB124_113.out
           have hnc53 := NB113_124.out
           have hcz54_0 : w47.cell? ⟨gb124, 0, none⟩ = some (.int .i64 0) := (blk_cell BK124.out 0).trans rfl
           have hcz54_1 : w47.cell? ⟨gb124, 1, none⟩ = some (.int .i64 0) := (blk_cell BK124.out 1).trans rfl
           have hfz54_0 := blk_frozen BK124.out 0
           have hfz54_1 := blk_frozen BK124.out 1
           try go_wp2_with (first | ((with_reducible refine gate_builtin (b := .append) (xs := #[.tmp 58, .tmp 60]) rfl ?_); (try (refine gate_guard (by rfl) ?_; dsimp only)); at_builtin; refine Kd.R_append k27 (w0 := w) w.heap.size rfl (.tmp 58) (.tmp 60) 23 27 (.agg #[(.int .i64 0), (.int .i64 0)]) 16 rfl Try.underlying23 info27 rfl (by decide) (by omega) (.slice (some ad123) x119001_3.length co46) x119001_3 (⟨(rd_T27 x119001_3 (ji25)).f0, (rd_T27 x119001_3 (ji25)).f1⟩ : S27) [.int .i64 ((rd_T27 x119001_3 (ji25)).f0), .int .i64 ((rd_T27 x119001_3 (ji25)).f1)] (fun k_ => k_ ≠ gb124) (fun _ => False) rfl (by first | (go_simp; done) | (go_simp; rfl)) ?aP (fun _ hk => hk.elim) ?aF ?aO ?aB ?aS ?aL ?_; (case aP => exact k27_mkM _ _ _ (⟨(rd_T27 x119001_3 (ji25)).f0, (rd_T27 x119001_3 (ji25)).f1⟩ : S27)); (case aB => exact (hq HB)); (case aF => exact (fun k_ hk => Kd.freshB (g := gb124) (o := .cells #[.int .i64 ((rd_T27 x119001_3 (ji25)).f0), .int .i64 ((rd_T27 x119001_3 (ji25)).f1)] 27 (0, 0)) (by (with_reducible repeat (first | refine blk_drewN ?_ _ | refine blk_drew ?_ | refine blk_alloc ?_ _)); refine blk_put (cs := #[.int .i64 ((rd_T27 x119001_3 (ji25)).f0), .int .i64 0]) ?_ 1 _ rfl; (with_reducible repeat (first | refine blk_drewN ?_ _ | refine blk_drew ?_ | refine blk_alloc ?_ _)); refine blk_put (cs := #[.int .i64 0, .int .i64 0]) ?_ 0 _ rfl; (with_reducible repeat (first | refine blk_drewN ?_ _ | refine blk_drew ?_ | refine blk_alloc ?_ _)); exact BK124.out) k_ hk)); (case aO => exact (by (with_reducible repeat (first | apply Kd.R_alloc | apply Kd.R_drewN | apply Kd.R_drew)); exact Kd.R_mono (Kd.R_far (p := ⟨gb124, 1, none⟩) (Kd.R_far (p := ⟨gb124, 0, none⟩) (Kd.R_mono HO_119001.out (fun k_ hk => (⟨hk, hk.2⟩ : _ ∧ k_ ≠ gb124))) (fun _ hk => hk.2) (.int .i64 ((rd_T27 x119001_3 (ji25)).f0))) (fun _ hk => hk.2) (.int .i64 ((rd_T27 x119001_3 (ji25)).f1))) (fun _ hk => hk.1.2))); (case aS => exact (below_size (hq HB))); (case aL => have := LMc44.out; omega); intro v129 w55 ho hb hg hat; rw [← Ny128.out] at ho; have n0_ := Aside0.mk (blk_grown (g := gb113) (o := .cells #[.int .i64 0, .slice none 0 0] 25 (0, 0)) (by (with_reducible repeat (first | refine blk_drewN ?_ _ | refine blk_drew ?_ | refine blk_alloc ?_ _)); refine blk_far ?_ NB113_124.out _; (with_reducible repeat (first | refine blk_drewN ?_ _ | refine blk_drew ?_ | refine blk_alloc ?_ _)); refine blk_far ?_ NB113_124.out _; (with_reducible repeat (first | refine blk_drewN ?_ _ | refine blk_drew ?_ | refine blk_alloc ?_ _)); exact BK113.out) hg (Kd.R_ne HO_119001.out BK113.out (by decide))); have n1_ := Aside0.mk (blk_grown (g := gb118) (o := .cells #[.int .i64 t114, .slice (some ad123) x119001_3.length co46] 25 (0, 0)) (by (with_reducible repeat (first | refine blk_drewN ?_ _ | refine blk_drew ?_ | refine blk_alloc ?_ _)); refine blk_far ?_ NB118_124.out _; (with_reducible repeat (first | refine blk_drewN ?_ _ | refine blk_drew ?_ | refine blk_alloc ?_ _)); refine blk_far ?_ NB118_124.out _; (with_reducible repeat (first | refine blk_drewN ?_ _ | refine blk_drew ?_ | refine blk_alloc ?_ _)); exact BK118.out) hg (Kd.R_ne HO_119001.out BK118.out (by decide))); have n2_ := Aside0.mk (blk_grown (g := gb124) (o := .cells #[.int .i64 ((rd_T27 x119001_3 (ji25)).f0), .int .i64 ((rd_T27 x119001_3 (ji25)).f1)] 27 (0, 0)) (by (with_reducible repeat (first | refine blk_drewN ?_ _ | refine blk_drew ?_ | refine blk_alloc ?_ _)); refine blk_put (cs := #[.int .i64 ((rd_T27 x119001_3 (ji25)).f0), .int .i64 0]) ?_ 1 _ rfl; (with_reducible repeat (first | refine blk_drewN ?_ _ | refine blk_drew ?_ | refine blk_alloc ?_ _)); refine blk_put (cs := #[.int .i64 0, .int .i64 0]) ?_ 0 _ rfl; (with_reducible repeat (first | refine blk_drewN ?_ _ | refine blk_drew ?_ | refine blk_alloc ?_ _)); exact BK124.out) hg (Kd.R_away HO_119001.out (fun _ hk => hk.2))); have n3_ := Aside0.mk (hb); have n4_ := Aside0.mk (ho); clear BK113; clear BK118; clear BK124; clear HB; clear HO_119001; have BK113 := n0_; have BK118 := n1_; have BK124 := n2_; have HB := n3_; have HO130 := n4_; clear n0_ n1_ n2_ n3_ n4_; clear ho hb hg hat; obtain ⟨Ao56, co56, eo56⟩ := Kd.R_slice HO130.out; subst eo56; have hcz57_0 : w55.cell? ⟨gb118, 0, none⟩ = some (.int .i64 t114) := (blk_cell BK118.out 0).trans rfl; have hcz57_1 : w55.cell? ⟨gb118, 1, none⟩ = some (.slice (some ad123) x119001_3.length co46) := (blk_cell BK118.out 1).trans rfl; have hfz57_0 := blk_frozen BK118.out 0; have hfz57_1 := blk_frozen BK118.out 1; have hcz58_0 : w55.cell? ⟨gb113, 0, none⟩ = some (.int .i64 0) := (blk_cell BK113.out 0).trans rfl; have hcz58_1 : w55.cell? ⟨gb113, 1, none⟩ = some (.slice none 0 0) := (blk_cell BK113.out 1).trans rfl; have hfz58_0 := blk_frozen BK113.out 0; have hfz58_1 := blk_frozen BK113.out 1))
           refine bodyPost_ret (results_cell_row rfl _ _ gb113 25 #[.int .i64 t114, .slice Ao56 y128.length co56] (0, 0) _ rfl (by (with_reducible repeat (first | refine blk_drewN ?_ _ | refine blk_drew ?_ | refine blk_alloc ?_ _)); refine blk_put (cs := #[.int .i64 t114, .slice none 0 0]) ?_ 1 _ rfl; (with_reducible repeat (first | refine blk_drewN ?_ _ | refine blk_drew ?_ | refine blk_alloc ?_ _)); refine blk_put (cs := #[.int .i64 0, .slice none 0 0]) ?_ 0 _ rfl; (with_reducible repeat (first | refine blk_drewN ?_ _ | refine blk_drew ?_ | refine blk_alloc ?_ _)); refine blk_far ?_ NB113_118.out _; (with_reducible repeat (first | refine blk_drewN ?_ _ | refine blk_drew ?_ | refine blk_alloc ?_ _)); exact BK113.out) Try.underlying25 rfl (by kernel_rfl)) rfl ?_
           exact ⟨_, by first | rfl | (simp [errW_none, errW_some] <;> rfl) | (simp only [← hji25]; first | rfl | (simp [errW_none, errW_some] <;> rfl)) | (simp [*, errW_none, errW_some] <;> rfl), by (with_reducible repeat (first | apply Kd.R_alloc | apply Kd.R_drewN | apply Kd.R_drew)); exact Kd.R_mono (Kd.R_far (p := ⟨gb113, 1, none⟩) (Kd.R_far (p := ⟨gb113, 0, none⟩) (Kd.R_far (p := ⟨gb118, 1, none⟩) (Kd.R_types (Kd.R_types HO130.out BK118.out (by decide)) BK113.out (by decide)) (fun _ hk => hk.1.2) (.slice Ao56 y128.length co56)) (fun _ hk => hk.2) (.int .i64 t114)) (fun _ hk => hk.2) (.slice Ao56 y128.length co56)) (fun _ hk => trivial), by repeat (first | (with_reducible first | exact HB.out | apply below_alloc | apply pw_below_drewN | apply below_drew1 | refine below_set ?_ GE113.out | refine below_set ?_ GE118.out | refine below_set ?_ GE124.out) | exact HB.out)⟩
          ·rw [if_neg c44] at H
           exact absurd H (by simp)
        ·rw [if_neg c27] at H
         exact absurd H (by simp)
       ·rw [if_neg c26] at H
        exact absurd H (by simp)
     ·replace c23 := Bool.eq_false_iff.mpr c23
      subst c23
      have H1 : (some (t114, x119001_3)) = some (r1, r2) := by rw [if_neg (show ¬ (false = true) by decide)] at H; exact H
      clear H
      have H := H1
      clear H1
      simp only [Option.some.injEq, Prod.mk.injEq] at H
      obtain ⟨rfl, rfl⟩ := H
      have hnb59 := NB118_113.out
      have hnc59 := NB113_118.out
      have hcz60_0 : wc.cell? ⟨gb118, 0, none⟩ = some (.int .i64 t114) := (blk_cell BK118.out 0).trans rfl
      have hcz60_1 : wc.cell? ⟨gb118, 1, none⟩ = some (u119001) := (blk_cell BK118.out 1).trans rfl
      have hfz60_0 := blk_frozen BK118.out 0
      have hfz60_1 := blk_frozen BK118.out 1
      have hcz61_0 : wc.cell? ⟨gb113, 0, none⟩ = some (.int .i64 0) := (blk_cell BK113.out 0).trans rfl
      have hcz61_1 : wc.cell? ⟨gb113, 1, none⟩ = some (.slice none 0 0) := (blk_cell BK113.out 1).trans rfl
      have hfz61_0 := blk_frozen BK113.out 0
      have hfz61_1 := blk_frozen BK113.out 1
      obtain ⟨Ao62, co62, eo62⟩ := Kd.R_slice HO_119001.out
      subst eo62
      go_wp2
      refine bodyPost_ret (results_cell_row rfl _ _ gb113 25 #[.int .i64 t114, .slice Ao62 x119001_3.length co62] (0, 0) _ rfl (by (with_reducible repeat (first | refine blk_drewN ?_ _ | refine blk_drew ?_ | refine blk_alloc ?_ _)); refine blk_put (cs := #[.int .i64 t114, .slice none 0 0]) ?_ 1 _ rfl; (with_reducible repeat (first | refine blk_drewN ?_ _ | refine blk_drew ?_ | refine blk_alloc ?_ _)); refine blk_put (cs := #[.int .i64 0, .slice none 0 0]) ?_ 0 _ rfl; (with_reducible repeat (first | refine blk_drewN ?_ _ | refine blk_drew ?_ | refine blk_alloc ?_ _)); exact BK113.out) Try.underlying25 rfl (by kernel_rfl)) rfl ?_
      exact ⟨_, by first | rfl | (simp [errW_none, errW_some] <;> rfl) | (simp [*, errW_none, errW_some] <;> rfl), by (with_reducible repeat (first | apply Kd.R_alloc | apply Kd.R_drewN | apply Kd.R_drew)); exact Kd.R_mono (Kd.R_far (p := ⟨gb113, 1, none⟩) (Kd.R_far (p := ⟨gb113, 0, none⟩) (Kd.R_types HO_119001.out BK113.out (by decide)) (fun _ hk => hk.2) (.int .i64 t114)) (fun _ hk => hk.2) (.slice Ao62 x119001_3.length co62)) (fun _ hk => trivial), by repeat (first | (with_reducible first | exact HB.out | apply below_alloc | apply pw_below_drewN | apply below_drew1 | refine below_set ?_ GE113.out | refine below_set ?_ GE118.out) | exact HB.out)⟩

end Go.Proofs.Ytcamljlhdejmmaa.P
