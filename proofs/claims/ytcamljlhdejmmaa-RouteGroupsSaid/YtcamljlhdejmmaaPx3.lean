-- Written by this session's own copy of a printing program (wip/tools); Lean checks it.
import Derived.Test.YtcamljlhdejmmaaPx0
import Derived.Test.YtcamljlhdejmmaaPx2
import Derived.Test.YtcamljlhdejmmaaHValid
namespace Go.Proofs.Ytcamljlhdejmmaa.P
open Go.RowKit Go.Proofs.YtcamljlhdejmmaaW.PrintWords Go.Proofs.YtcamljlhdejmmaaW.PrintLast Go.Proofs.YtcamljlhdejmmaaW.PrintMore
attribute [local go_sem] max2_int min2_int max_two min_two max_three min_three max_four min_four   -- for this text's walks alone
set_option linter.unusedVariables false
set_option linter.unusedSimpArgs false

/-! ### route_Inhibited: function 20 -/
mutual
def route_Inhibited.j0 : Nat → List Bool → Bool → Int → List (S27) → Option (List Bool)
 | 0, _, _, _, _ => none
 | k + 1, x1, x23, x131000, x131001 => if x23 = true then (some ([] : List Bool)) else (if 0 ≤ x131000 then (if (x131000 : Int).toNat ≤ 11728124029610 then (route_Inhibited.l0 k x1 (List.replicate (x131000 : Int).toNat []) x131001 (x131001.length : Int) 0 x131000 x131001) else (none)) else (none))
def route_Inhibited.l0 : Nat → List Bool → List (List Int) → List (S27) → Int → Int → Int → List (S27) → Option (List Bool)
 | 0, _, _, _, _, _, _, _ => none
 | k + 1, x1, x5, x28, x29, x30, x131000, x131001 => if x30 < x29 then (if 0 ≤ x30 then (if x30 < (x28.length : Int) then (if 0 ≤ ((rd_T27 x28 x30).f0) then (if ((rd_T27 x28 x30).f0) < (x5.length : Int) then (if (rd_L4 x5 ((rd_T27 x28 x30).f0)).length < 17592186044416 then (route_Inhibited.l0 k x1 (x5.set (((rd_T27 x28 x30).f0) : Int).toNat ((rd_L4 x5 ((rd_T27 x28 x30).f0)) ++ [(rd_T27 x28 x30).f1])) x28 x29 (wrap64 (x30 + 1)) x131000 x131001) else (none)) else (none)) else (none)) else (none)) else (none)) else (if 0 ≤ x131000 then (if (x131000 : Int).toNat ≤ 281474976710656 then ((route_sorted.f k x131000 x131001).bind fun t145 => (route_Inhibited.l1 k x1 x5 (List.replicate (x131000 : Int).toNat false) t145 (t145.length : Int) 0 x131000 x131001)) else (none)) else (none))
def route_Inhibited.l1 : Nat → List Bool → List (List Int) → List Bool → List Int → Int → Int → Int → List (S27) → Option (List Bool)
 | 0, _, _, _, _, _, _, _, _ => none
 | k + 1, x1, x5, x8, x52, x53, x54, x131000, x131001 => if x54 < x53 then (if 0 ≤ x54 then (if x54 < (x52.length : Int) then (if 0 ≤ (rd x52 x54) then (if (rd x52 x54) < (x5.length : Int) then (route_Inhibited.l2 k x1 x5 x8 (rd x52 x54) x52 x53 x54 (rd_L4 x5 (rd x52 x54)) ((rd_L4 x5 (rd x52 x54)).length : Int) 0 x131000 x131001) else (none)) else (none)) else (none)) else (none)) else (route_Inhibited.l3 k x1 x8 x131000 0)
def route_Inhibited.l2 : Nat → List Bool → List (List Int) → List Bool → Int → List Int → Int → Int → List Int → Int → Int → Int → List (S27) → Option (List Bool)
 | 0, _, _, _, _, _, _, _, _, _, _, _, _ => none
 | k + 1, x1, x5, x8, x10, x52, x53, x54, x61, x62, x63, x131000, x131001 => if x63 < x62 then (if 0 ≤ x63 then (if x63 < (x61.length : Int) then (if 0 ≤ (rd x61 x63) then (if (rd x61 x63) < (x8.length : Int) then (if rdOf false x8 (rd x61 x63) = true then (route_Inhibited.l2 k x1 x5 (x8.set ((rd x61 x63) : Int).toNat true) x10 x52 x53 x54 x61 x62 (wrap64 (x63 + 1)) x131000 x131001) else (if 0 ≤ x10 then (if x10 < (x8.length : Int) then (if rdOf false x8 x10 = true then (route_Inhibited.l2 k x1 x5 (x8.set ((rd x61 x63) : Int).toNat true) x10 x52 x53 x54 x61 x62 (wrap64 (x63 + 1)) x131000 x131001) else (if x10 < (x1.length : Int) then (route_Inhibited.l2 k x1 x5 (x8.set ((rd x61 x63) : Int).toNat (rdOf false x1 x10)) x10 x52 x53 x54 x61 x62 (wrap64 (x63 + 1)) x131000 x131001) else (none))) else (none)) else (none))) else (none)) else (none)) else (none)) else (none)) else (route_Inhibited.l1 k x1 x5 x8 x52 x53 (wrap64 (x54 + 1)) x131000 x131001)
def route_Inhibited.l3 : Nat → List Bool → List Bool → Int → Int → Option (List Bool)
 | 0, _, _, _, _ => none
 | k + 1, x1, x8, x89, x90 => if x90 < x89 then (if 0 ≤ x90 then (if x90 < (x8.length : Int) then (if rdOf false x8 x90 = true then (if x90 < (x1.length : Int) then (route_Inhibited.l3 k x1 (x8.set (x90 : Int).toNat (rdOf false x1 x90)) x89 (wrap64 (x90 + 1))) else (none)) else (route_Inhibited.l3 k x1 (x8.set (x90 : Int).toNat false) x89 (wrap64 (x90 + 1)))) else (none)) else (none)) else (some x8)
end
def route_Inhibited.f (k : Nat) (a0_0 : Int) (l0_1 : List (S27)) (l1 : List Bool) : Option (List Bool) := (route_Valid.f k a0_0 l0_1).bind fun t131 => (if t131 = 0 then (route_Inhibited.j0 k l1 ((l1.length : Int) != a0_0) a0_0 l0_1) else (route_Inhibited.j0 k l1 true a0_0 l0_1))
theorem route_Inhibited.mono_l : ∀ k, (∀ y0 y1 y2 y3, LeO (route_Inhibited.j0 k y0 y1 y2 y3) (route_Inhibited.j0 (k + 1) y0 y1 y2 y3)) ∧ (∀ y0 y1 y2 y3 y4 y5 y6, LeO (route_Inhibited.l0 k y0 y1 y2 y3 y4 y5 y6) (route_Inhibited.l0 (k + 1) y0 y1 y2 y3 y4 y5 y6)) ∧ (∀ y0 y1 y2 y3 y4 y5 y6 y7, LeO (route_Inhibited.l1 k y0 y1 y2 y3 y4 y5 y6 y7) (route_Inhibited.l1 (k + 1) y0 y1 y2 y3 y4 y5 y6 y7)) ∧ (∀ y0 y1 y2 y3 y4 y5 y6 y7 y8 y9 y10 y11, LeO (route_Inhibited.l2 k y0 y1 y2 y3 y4 y5 y6 y7 y8 y9 y10 y11) (route_Inhibited.l2 (k + 1) y0 y1 y2 y3 y4 y5 y6 y7 y8 y9 y10 y11)) ∧ (∀ y0 y1 y2 y3, LeO (route_Inhibited.l3 k y0 y1 y2 y3) (route_Inhibited.l3 (k + 1) y0 y1 y2 y3))
 | 0 => ⟨fun _ _ _ _ r h => by simp [route_Inhibited.j0] at h, fun _ _ _ _ _ _ _ r h => by simp [route_Inhibited.l0] at h, fun _ _ _ _ _ _ _ _ r h => by simp [route_Inhibited.l1] at h, fun _ _ _ _ _ _ _ _ _ _ _ _ r h => by simp [route_Inhibited.l2] at h, fun _ _ _ _ r h => by simp [route_Inhibited.l3] at h⟩
 | k + 1 => by
  obtain ⟨ih0, ih1, ih2, ih3, ih4⟩ := route_Inhibited.mono_l k
  refine ⟨?_, ?_, ?_, ?_, ?_⟩
  ·intro y0 y1 y2 y3
   unfold route_Inhibited.j0
   repeat' first
   | (with_reducible exact ih0 _ _ _ _)
   | (with_reducible exact ih1 _ _ _ _ _ _ _)
   | (with_reducible exact ih2 _ _ _ _ _ _ _ _)
   | (with_reducible exact ih3 _ _ _ _ _ _ _ _ _ _ _ _)
   | (with_reducible exact ih4 _ _ _ _)
   | (with_reducible exact route_Valid.mono _ _ _)
   | (with_reducible exact route_sorted.mono _ _ _)
   | (with_reducible exact LeO.refl _)
   | (with_reducible exact LeO.none _)
   | (with_reducible refine LeO.ite ?_ ?_)
   | (with_reducible refine LeO.bind ?_ (fun _ => ?_))
   | exact ih0 _ _ _ _
   | exact ih1 _ _ _ _ _ _ _
   | exact ih2 _ _ _ _ _ _ _ _
   | exact ih3 _ _ _ _ _ _ _ _ _ _ _ _
   | exact ih4 _ _ _ _
   | exact route_Valid.mono _ _ _
   | exact route_sorted.mono _ _ _
   | exact LeO.none _
   | refine LeO.ite ?_ ?_
   | refine LeO.bind ?_ (fun _ => ?_)
  ·intro y0 y1 y2 y3 y4 y5 y6
   unfold route_Inhibited.l0
   repeat' first
   | (with_reducible exact ih0 _ _ _ _)
   | (with_reducible exact ih1 _ _ _ _ _ _ _)
   | (with_reducible exact ih2 _ _ _ _ _ _ _ _)
   | (with_reducible exact ih3 _ _ _ _ _ _ _ _ _ _ _ _)
   | (with_reducible exact ih4 _ _ _ _)
   | (with_reducible exact route_Valid.mono _ _ _)
   | (with_reducible exact route_sorted.mono _ _ _)
   | (with_reducible exact LeO.refl _)
   | (with_reducible exact LeO.none _)
   | (with_reducible refine LeO.ite ?_ ?_)
   | (with_reducible refine LeO.bind ?_ (fun _ => ?_))
   | exact ih0 _ _ _ _
   | exact ih1 _ _ _ _ _ _ _
   | exact ih2 _ _ _ _ _ _ _ _
   | exact ih3 _ _ _ _ _ _ _ _ _ _ _ _
   | exact ih4 _ _ _ _
   | exact route_Valid.mono _ _ _
   | exact route_sorted.mono _ _ _
   | exact LeO.none _
   | refine LeO.ite ?_ ?_
   | refine LeO.bind ?_ (fun _ => ?_)
  ·intro y0 y1 y2 y3 y4 y5 y6 y7
   unfold route_Inhibited.l1
   repeat' first
   | (with_reducible exact ih0 _ _ _ _)
   | (with_reducible exact ih1 _ _ _ _ _ _ _)
   | (with_reducible exact ih2 _ _ _ _ _ _ _ _)
   | (with_reducible exact ih3 _ _ _ _ _ _ _ _ _ _ _ _)
   | (with_reducible exact ih4 _ _ _ _)
   | (with_reducible exact route_Valid.mono _ _ _)
   | (with_reducible exact route_sorted.mono _ _ _)
   | (with_reducible exact LeO.refl _)
   | (with_reducible exact LeO.none _)
   | (with_reducible refine LeO.ite ?_ ?_)
   | (with_reducible refine LeO.bind ?_ (fun _ => ?_))
   | exact ih0 _ _ _ _
   | exact ih1 _ _ _ _ _ _ _
   | exact ih2 _ _ _ _ _ _ _ _
   | exact ih3 _ _ _ _ _ _ _ _ _ _ _ _
   | exact ih4 _ _ _ _
   | exact route_Valid.mono _ _ _
   | exact route_sorted.mono _ _ _
   | exact LeO.none _
   | refine LeO.ite ?_ ?_
   | refine LeO.bind ?_ (fun _ => ?_)
  ·intro y0 y1 y2 y3 y4 y5 y6 y7 y8 y9 y10 y11
   unfold route_Inhibited.l2
   repeat' first
   | (with_reducible exact ih0 _ _ _ _)
   | (with_reducible exact ih1 _ _ _ _ _ _ _)
   | (with_reducible exact ih2 _ _ _ _ _ _ _ _)
   | (with_reducible exact ih3 _ _ _ _ _ _ _ _ _ _ _ _)
   | (with_reducible exact ih4 _ _ _ _)
   | (with_reducible exact route_Valid.mono _ _ _)
   | (with_reducible exact route_sorted.mono _ _ _)
   | (with_reducible exact LeO.refl _)
   | (with_reducible exact LeO.none _)
   | (with_reducible refine LeO.ite ?_ ?_)
   | (with_reducible refine LeO.bind ?_ (fun _ => ?_))
   | exact ih0 _ _ _ _
   | exact ih1 _ _ _ _ _ _ _
   | exact ih2 _ _ _ _ _ _ _ _
   | exact ih3 _ _ _ _ _ _ _ _ _ _ _ _
   | exact ih4 _ _ _ _
   | exact route_Valid.mono _ _ _
   | exact route_sorted.mono _ _ _
   | exact LeO.none _
   | refine LeO.ite ?_ ?_
   | refine LeO.bind ?_ (fun _ => ?_)
  ·intro y0 y1 y2 y3
   unfold route_Inhibited.l3
   repeat' first
   | (with_reducible exact ih0 _ _ _ _)
   | (with_reducible exact ih1 _ _ _ _ _ _ _)
   | (with_reducible exact ih2 _ _ _ _ _ _ _ _)
   | (with_reducible exact ih3 _ _ _ _ _ _ _ _ _ _ _ _)
   | (with_reducible exact ih4 _ _ _ _)
   | (with_reducible exact route_Valid.mono _ _ _)
   | (with_reducible exact route_sorted.mono _ _ _)
   | (with_reducible exact LeO.refl _)
   | (with_reducible exact LeO.none _)
   | (with_reducible refine LeO.ite ?_ ?_)
   | (with_reducible refine LeO.bind ?_ (fun _ => ?_))
   | exact ih0 _ _ _ _
   | exact ih1 _ _ _ _ _ _ _
   | exact ih2 _ _ _ _ _ _ _ _
   | exact ih3 _ _ _ _ _ _ _ _ _ _ _ _
   | exact ih4 _ _ _ _
   | exact route_Valid.mono _ _ _
   | exact route_sorted.mono _ _ _
   | exact LeO.none _
   | refine LeO.ite ?_ ?_
   | refine LeO.bind ?_ (fun _ => ?_)
theorem route_Inhibited.mono : ∀ a0 a1 a2 k, LeO (route_Inhibited.f k a0 a1 a2) (route_Inhibited.f (k + 1) a0 a1 a2) := by
 intro a0 a1 a2 k
 obtain ⟨ih0, ih1, ih2, ih3, ih4⟩ := route_Inhibited.mono_l k
 unfold route_Inhibited.f
 repeat' first
   | (with_reducible exact ih0 _ _ _ _)
   | (with_reducible exact ih1 _ _ _ _ _ _ _)
   | (with_reducible exact ih2 _ _ _ _ _ _ _ _)
   | (with_reducible exact ih3 _ _ _ _ _ _ _ _ _ _ _ _)
   | (with_reducible exact ih4 _ _ _ _)
   | (with_reducible exact route_Valid.mono _ _ _)
   | (with_reducible exact route_sorted.mono _ _ _)
   | (with_reducible exact LeO.refl _)
   | (with_reducible exact LeO.none _)
   | (with_reducible refine LeO.ite ?_ ?_)
   | (with_reducible refine LeO.bind ?_ (fun _ => ?_))
   | exact ih0 _ _ _ _
   | exact ih1 _ _ _ _ _ _ _
   | exact ih2 _ _ _ _ _ _ _ _
   | exact ih3 _ _ _ _ _ _ _ _ _ _ _ _
   | exact ih4 _ _ _ _
   | exact route_Valid.mono _ _ _
   | exact route_sorted.mono _ _ _
   | exact LeO.none _
   | refine LeO.ite ?_ ?_
   | refine LeO.bind ?_ (fun _ => ?_)
def route_Inhibited.T7 : Bool × List (List Nat × List Nat) := (true, [([], []), ([], []), ([1], [1]), ([], []), ([], []), ([4], [4]), ([3, 5], [3, 5]), ([6], [6]), ([], []), ([8], [8]), ([9], [9]), ([7, 10], [7, 10]), ([0, 2, 0, 1, 2, 3, 4, 5, 6, 7, 8, 9, 10, 11], [0, 2]), ([12, 11, 11, 0, 1, 2, 3, 4, 5, 6, 7, 8, 9, 10, 11], [11, 12])])
def route_Inhibited.B7 : List Nat := [0, 0, 2, 0, 0, 16, 56, 120, 0, 256, 768, 2040, 4095, 8191]
theorem route_Inhibited.tab7 : rtab .any (opsOf Try.f20 7) = route_Inhibited.T7 := by kernel_rfl
theorem route_Inhibited.bits7 : waitsOk route_Inhibited.T7.2 route_Inhibited.B7 = true := by kernel_rfl
set_option maxHeartbeats 8000000 in
set_option maxRecDepth 100000 in
theorem route_Inhibited.calls (k : Nat) (a0_0 : Int) (A0_1 : Option Addr) (c0_1 : Nat) (l0_1 : List (S27)) (A1 : Option Addr) (c1 : Nat) (l1 : List Bool) (r : List Bool) (w : World) (hr0_1 : Kd.C k27 w A0_1 l0_1.length l0_1) (hc0_1 : l0_1.length ≤ c0_1) (hr1 : Kd.C Kd.bool w A1 l1.length l1) (hc1 : l1.length ≤ c1) (h : route_Inhibited.f k a0_0 l0_1 l1 = some r) :
  Calls Try.prog 20 #[.agg #[.int .i64 a0_0, .slice A0_1 l0_1.length c0_1], .slice A1 l1.length c1] w fun e w' => ∃ v0_ : Value, e = .returned (v0_) ∧ Kd.R Kd.bool 4 w' w.heap.size (fun _ => True) v0_ r ∧ Below w.heap.size w w' := by
 have hu31 := Try.underlying31
 have hu27 := Try.underlying27
 have HR0_1 := Aside0.mk hr0_1
 have HC0_1 := Aside0.mk hc0_1
 clear hr0_1 hc0_1
 have HR1 := Aside0.mk hr1
 have HC1 := Aside0.mk hc1
 clear hr1 hc1
 have HB := Aside0.mk (Below.refl w.heap.size w)
 have H : ((route_Valid.f k a0_0 l0_1).bind fun t131 => (if t131 = 0 then (route_Inhibited.j0 k l1 ((l1.length : Int) != a0_0) a0_0 l0_1) else (route_Inhibited.j0 k l1 true a0_0 l0_1))) = some r := h
 clear h
 have HC3 := Aside0.mk H
 clear H
 go_enter Try.func20, Try.ntmps20
 go_upto_region 1 with (first | ((with_reducible refine gate_dst (N := 2) rfl ?_); (try (refine gate_guard (by rfl) ?_; dsimp only)); refine box_event ?hg (N := 2) ?hd (cs := #[.int .i64 a0_0, .slice A0_1 l0_1.length c0_1]) (t := 31) ?hr ?_; (case hd => rfl); (case hg => rfl); (case hr => first | (go_simp; done) | (go_simp; rfl)); intro gb130 hg w4 hbox hb; have n0_ := Aside0.mk (below_step (hq HB) hb); have n1_ := Aside0.mk (hbox); have n2_ := Aside0.mk ((by rw [hg]; exact (below_size (hq HB)) : w.heap.size ≤ gb130)); have n3_ := Aside0.mk ((by rw [hg]; exact (below_size (hq HB)) : w.heap.size ≤ gb130)); clear HB; have HB := n0_; have BK130 := n1_; have GW130 := n2_; have GE130 := n3_; clear n0_ n1_ n2_ n3_; clear hb hbox hg))
 (try simp only [Act.put, List.setIfInBounds_toArray, List.set_cons_zero, List.set_cons_succ])
 go_cut [23] (fun v23 wc => ∃ (kq : Nat) (x23_2 : Bool), v23 = .bool x23_2 ∧ Aside0 (route_Inhibited.j0 kq l1 x23_2 a0_0 l0_1 = some r) ∧ Aside0 (kq ≤ k) ∧ Aside0 (wc.heap[gb130]? = some (.cells #[.int .i64 a0_0, (.slice A0_1 l0_1.length c0_1)] 31 (0, 0))) ∧ Aside0 (Below w.heap.size w wc))
 case first =>
  have H := HC3.out
  clear HC3
  replace H := Option.bind_eq_some_iff.mp H
  obtain ⟨t131, A50, H⟩ := H
  replace H : (if t131 = 0 then (route_Inhibited.j0 k l1 ((l1.length : Int) != a0_0) a0_0 l0_1) else (route_Inhibited.j0 k l1 true a0_0 l0_1)) = some r := H
  have A5 := Aside0.mk A50
  clear A50
  by_cases c6 : t131 = 0
  ·rw [if_pos c6] at H
   have c6b0 : (t131 == 0) = true := beq_iff_eq.mpr c6
   have c6b1 : (t131 != 0) = false := bne_eq_false_iff_eq.mpr c6
   clear c6
   (first | rw [c6b0] | (simp only [i64_w, i32_w]; rw [c6b0]) | skip)
   have H' := Aside0.mk H
   clear H
   have hcz7_0 : w4.cell? ⟨gb130, 0, none⟩ = some (.int .i64 a0_0) := (blk_cell BK130.out 0).trans rfl
   have hcz7_1 : w4.cell? ⟨gb130, 1, none⟩ = some (.slice A0_1 l0_1.length c0_1) := (blk_cell BK130.out 1).trans rfl
   have hfz7_0 := blk_frozen BK130.out 0
   have hfz7_1 := blk_frozen BK130.out 1
   go_wp2_with (first | ((with_reducible refine gate_callee (f := 14) rfl ?_); refine goesL_ (some 15) rfl rfl Try.func14 (by kernel_rfl) rfl #[.agg #[.int .i64 a0_0, .slice A0_1 l0_1.length c0_1]] rfl aq ?_; (with_reducible refine (route_Valid.calls k a0_0 _ _ l0_1 t131 _ ?side1 ?side2 A5.out).mono ?_); (case side1 => repeat (first | exact (Kd.C_below HR0_1.out HB.out) | (with_reducible refine Kd.C_alloc ?_ _) | (with_reducible refine Kd.C_drewN ?_ _) | (with_reducible refine Kd.C_drew ?_))); (case side2 => exact HC0_1.out); rintro e w8 ⟨rfl, hb⟩; refine ⟨_, rfl, ?_⟩; have n0_ := Aside0.mk (blk_below (g := gb130) (o := .cells #[.int .i64 a0_0, .slice A0_1 l0_1.length c0_1] 31 (0, 0)) (bq BK130) hb); have n1_ := Aside0.mk (below_step (hq HB) hb); clear BK130; clear HB; have BK130 := n0_; have HB := n1_; clear n0_ n1_; (try clear hb); (try clear hb2); (try clear hk); (try clear hi); have hcz9_0 : w8.cell? ⟨gb130, 0, none⟩ = some (.int .i64 a0_0) := (blk_cell BK130.out 0).trans rfl; have hcz9_1 : w8.cell? ⟨gb130, 1, none⟩ = some (.slice A0_1 l0_1.length c0_1) := (blk_cell BK130.out 1).trans rfl; have hfz9_0 := blk_frozen BK130.out 0; have hfz9_1 := blk_frozen BK130.out 1))
   go_meet
   case rel => exact ⟨_, (((l1.length : Int) != a0_0)), (by first | rfl | (simp; done) | (simp [*]; done)), H', ⟨by first | omega | exact Nat.le_refl _⟩, ⟨by (with_reducible repeat (first | refine blk_drewN ?_ _ | refine blk_drew ?_ | refine blk_alloc ?_ _)); exact BK130.out⟩, ⟨by repeat (first | (with_reducible first | exact HB.out | apply below_alloc | apply pw_below_drewN | apply below_drew1 | refine below_set ?_ GE130.out) | exact HB.out)⟩⟩
  ·rw [if_neg c6] at H
   have c6b0 : (t131 == 0) = false := beq_eq_false_iff_ne.mpr c6
   have c6b1 : (t131 != 0) = true := bne_iff_ne.mpr c6
   (first | rw [c6b0] | (simp only [i64_w, i32_w]; rw [c6b0]) | skip)
   have H' := Aside0.mk H
   clear H
   have hcz10_0 : w4.cell? ⟨gb130, 0, none⟩ = some (.int .i64 a0_0) := (blk_cell BK130.out 0).trans rfl
   have hcz10_1 : w4.cell? ⟨gb130, 1, none⟩ = some (.slice A0_1 l0_1.length c0_1) := (blk_cell BK130.out 1).trans rfl
   have hfz10_0 := blk_frozen BK130.out 0
   have hfz10_1 := blk_frozen BK130.out 1
   go_wp2_with (first | ((with_reducible refine gate_callee (f := 14) rfl ?_); refine goesL_ (some 15) rfl rfl Try.func14 (by kernel_rfl) rfl #[.agg #[.int .i64 a0_0, .slice A0_1 l0_1.length c0_1]] rfl aq ?_; (with_reducible refine (route_Valid.calls k a0_0 _ _ l0_1 t131 _ ?side1 ?side2 A5.out).mono ?_); (case side1 => repeat (first | exact (Kd.C_below HR0_1.out HB.out) | (with_reducible refine Kd.C_alloc ?_ _) | (with_reducible refine Kd.C_drewN ?_ _) | (with_reducible refine Kd.C_drew ?_))); (case side2 => exact HC0_1.out); rintro e w11 ⟨rfl, hb⟩; refine ⟨_, rfl, ?_⟩; have n0_ := Aside0.mk (blk_below (g := gb130) (o := .cells #[.int .i64 a0_0, .slice A0_1 l0_1.length c0_1] 31 (0, 0)) (bq BK130) hb); have n1_ := Aside0.mk (below_step (hq HB) hb); clear BK130; clear HB; have BK130 := n0_; have HB := n1_; clear n0_ n1_; (try clear hb); (try clear hb2); (try clear hk); (try clear hi)))
   go_meet
   case rel => exact ⟨_, (true), (by first | rfl | (simp; done) | (simp [*]; done)), H', ⟨by first | omega | exact Nat.le_refl _⟩, ⟨by (with_reducible repeat (first | refine blk_drewN ?_ _ | refine blk_drew ?_ | refine blk_alloc ?_ _)); exact BK130.out⟩, ⟨by repeat (first | (with_reducible first | exact HB.out | apply below_alloc | apply pw_below_drewN | apply below_drew1 | refine below_set ?_ GE130.out) | exact HB.out)⟩⟩
 case rest =>
  clear HC3
  try clear c1
  try clear c2
  try clear p2
  try clear c6
  try clear c6b0
  try clear c6b1
  try clear hcz10_0
  try clear hcz10_1
  try clear hcz7_0
  try clear hcz7_1
  try clear hcz9_0
  try clear hcz9_1
  try clear hfz10_0
  try clear hfz10_1
  try clear hfz7_0
  try clear hfz7_1
  try clear hfz9_0
  try clear hfz9_1
  obtain ⟨kq, x23_2, rfl, HA, HJ2, BK130, HB⟩ := hcut
  cases kq with
  | zero => exact absurd HA.out (by simp [route_Inhibited.j0])
  | succ kj2 =>
   have H := HA.out
   clear HA
   simp only [route_Inhibited.j0] at H
   by_cases c12 : x23_2 = true
   ·subst c12
    have H1 : (some ([] : List Bool)) = some r := by rw [if_pos rfl] at H; exact H
    clear H
    have H := H1
    clear H1
    obtain rfl := Option.some.inj H
    go_wp2
    go_ret
    exact ⟨_, by first | rfl | (simp [errW_none, errW_some] <;> rfl) | (simp [*, errW_none, errW_some] <;> rfl), by first | exact Kd.R_nil _ _ _ _ _ | exact Kd.N_nil _ _ _ _ _ | exact Kd.V_nil _ _ _ _ _ | exact Kd.Q_nil _ _ _ _ _ | exact Kd.S_nil _ _ _ _ _, by repeat (first | (with_reducible first | exact HB.out | apply below_alloc | apply pw_below_drewN | apply below_drew1 | refine below_set ?_ GE130.out) | exact HB.out)⟩
   ·replace c12 := Bool.eq_false_iff.mpr c12
    subst c12
    have H1 : (if 0 ≤ a0_0 then (if (a0_0 : Int).toNat ≤ 11728124029610 then (route_Inhibited.l0 kj2 l1 (List.replicate (a0_0 : Int).toNat []) l0_1 (l0_1.length : Int) 0 a0_0 l0_1) else (none)) else (none)) = some r := by rw [if_neg (show ¬ (false = true) by decide)] at H; exact H
    clear H
    have H := H1
    clear H1
    by_cases c13 : 0 ≤ a0_0
    ·rw [if_pos c13] at H
     have c13b0 := eq_true c13
     have c13b1 : decide (0 ≤ a0_0) = true := decide_eq_true c13
     clear c13
     by_cases c14 : (a0_0 : Int).toNat ≤ 11728124029610
     ·rw [if_pos c14] at H
      have c14b0 := eq_true c14
      have c14b1 : decide ((a0_0 : Int).toNat ≤ 11728124029610) = true := decide_eq_true c14
      clear c14
      obtain ⟨y132, hy132⟩ : ∃ y_ : List (List Int), y_ = (List.replicate (a0_0 : Int).toNat []) := ⟨_, rfl⟩
      replace H : (route_Inhibited.l0 kj2 l1 y132 l0_1 (l0_1.length : Int) 0 a0_0 l0_1) = some r := by first | (rw [hy132]; with_reducible exact H) | (have H2_ := (Option.bind_some _ _).symm.trans H; rw [hy132]; with_reducible exact H2_) | (have H2_ := (Option.bind_some _ _).symm.trans H; with_reducible exact H2_) | with_reducible exact H | (rw [hy132]; exact H) | exact H
      have Ny132 := Aside0.mk hy132
      clear hy132
      have H' := Aside0.mk H
      clear H
      have hcz15_0 : wc.cell? ⟨gb130, 0, none⟩ = some (.int .i64 a0_0) := (blk_cell BK130.out 0).trans rfl
      have hcz15_1 : wc.cell? ⟨gb130, 1, none⟩ = some (.slice A0_1 l0_1.length c0_1) := (blk_cell BK130.out 1).trans rfl
      have hfz15_0 := blk_frozen BK130.out 0
      have hfz15_1 := blk_frozen BK130.out 1
      go_wp2_with (first | ((with_reducible refine gate_dst (N := 26) rfl ?_); (try (refine gate_guard (by rfl) ?_; dsimp only)); refine Kd.S_make (Kd.slice 3 (Kd.int .i64)) _ 22 rfl (N := 26) rfl 65 _ _ rfl a0_0 rfl rfl Try.underlying65 (.slice none 0 0) 24 info22 rfl (by decide) (by omega) [] (ok := fun _ => True) (okp := fun _ => True) ⟨_, rfl, Kd.R_nil _ _ _ _ _⟩ (fun _ hk => hk) trivial (of_decide_eq_true (by first | (with_reducible assumption) | assumption)) (Nat.le_trans (Nat.mul_le_mul_right _ (of_decide_eq_true (by first | (with_reducible assumption) | assumption) : a0_0.toNat ≤ 11728124029610)) (by omega)) (Below.refl _ _) (Nat.le_refl _) ?_; intro v133 w16 ho17 hb hg_ hnew_; clear hg_ hnew_; (first | rw [← Ny132.out] at ho17 | (simp only [Int.reduceToNat] at ho17; rw [← Ny132.out] at ho17)); have n0_ := Aside0.mk (Kd.S_lower ho17 (below_size (hq HB))); have n1_ := Aside0.mk (blk_below (g := gb130) (o := .cells #[.int .i64 a0_0, .slice A0_1 l0_1.length c0_1] 31 (0, 0)) (bq BK130) hb); have n2_ := Aside0.mk (below_step (hq HB) hb); clear BK130; clear HB; have HO134 := n0_; have BK130 := n1_; have HB := n2_; clear n0_ n1_ n2_; clear hb ho17; have hcz18_0 : w16.cell? ⟨gb130, 0, none⟩ = some (.int .i64 a0_0) := (blk_cell BK130.out 0).trans rfl; have hcz18_1 : w16.cell? ⟨gb130, 1, none⟩ = some (.slice A0_1 l0_1.length c0_1) := (blk_cell BK130.out 1).trans rfl; have hfz18_0 := blk_frozen BK130.out 0; have hfz18_1 := blk_frozen BK130.out 1))
      go_loopg [30] kj2 (fun kq v30 w' => ∃ (x5_2 : List (List Int)) (x30_2 : Int), v30 = .int .i64 x30_2 ∧ Aside0 (route_Inhibited.l0 kq l1 x5_2 l0_1 (l0_1.length : Int) x30_2 a0_0 l0_1 = some r) ∧ Aside0 (kq ≤ kj2) ∧ Aside0 (Kd.S (Kd.slice 3 (Kd.int .i64)) 22 w' w.heap.size (fun _ => True) v133 x5_2) ∧ Aside0 (w'.heap[gb130]? = some (.cells #[.int .i64 a0_0, (.slice A0_1 l0_1.length c0_1)] 31 (0, 0))) ∧ Aside0 (Below w.heap.size w w'))
      case atStart => exact ⟨(y132), (0), (by first | rfl | (simp; done) | (simp [*]; done)), H', ⟨Nat.le_refl _⟩, ⟨by (with_reducible repeat (first | apply Kd.S_alloc | apply Kd.S_drewN | apply Kd.S_drew)); exact HO134.out⟩, ⟨by (with_reducible repeat (first | refine blk_drewN ?_ _ | refine blk_drew ?_ | refine blk_alloc ?_ _)); exact BK130.out⟩, ⟨by repeat (first | (with_reducible first | exact HB.out | apply below_alloc | apply pw_below_drewN | apply below_drew1 | refine below_set ?_ GE130.out) | exact HB.out)⟩⟩
      case round =>
       clear H'
       try clear c1
       try clear c2
       try clear p2
       try clear c6
       try clear c6b0
       try clear c6b1
       try clear c12
       try clear c13
       try clear c13b0
       try clear c13b1
       try clear c14
       try clear c14b0
       try clear c14b1
       try clear hcz10_0
       try clear hcz10_1
       try clear hcz15_0
       try clear hcz15_1
       try clear hcz18_0
       try clear hcz18_1
       try clear hcz7_0
       try clear hcz7_1
       try clear hcz9_0
       try clear hcz9_1
       try clear hfz10_0
       try clear hfz10_1
       try clear hfz15_0
       try clear hfz15_1
       try clear hfz18_0
       try clear hfz18_1
       try clear hfz7_0
       try clear hfz7_1
       try clear hfz9_0
       try clear hfz9_1
       try clear p2
       obtain ⟨x5_2, x30_2, rfl, HA, HK2, HO_5, BK130, HB⟩ := hrel
       cases gk with
       | zero => exact absurd HA.out (by simp [route_Inhibited.l0])
       | succ k2 =>
        have H := HA.out
        clear HA
        simp only [route_Inhibited.l0] at H
        by_cases c19 : x30_2 < (l0_1.length : Int)
        ·rw [if_pos c19] at H
         have c19b0 : decide (x30_2 < (l0_1.length : Int)) = true := decide_eq_true c19
         clear c19
         by_cases c20 : 0 ≤ x30_2
         ·rw [if_pos c20] at H
          have c20b0 : decide (0 ≤ x30_2) = true := decide_eq_true c20
          clear c20
          by_cases c21 : x30_2 < (l0_1.length : Int)
          ·rw [if_pos c21] at H
           have c21b0 : decide (x30_2 < (l0_1.length : Int)) = true := decide_eq_true c21
           clear c21
           by_cases c22 : 0 ≤ ((rd_T27 l0_1 x30_2).f0)
           ·rw [if_pos c22] at H
            have c22b0 : decide (0 ≤ ((rd_T27 l0_1 x30_2).f0)) = true := decide_eq_true c22
            clear c22
            by_cases c23 : ((rd_T27 l0_1 x30_2).f0) < (x5_2.length : Int)
            ·rw [if_pos c23] at H
             have c23b0 : decide (((rd_T27 l0_1 x30_2).f0) < (x5_2.length : Int)) = true := decide_eq_true c23
             clear c23
             by_cases c24 : (rd_L4 x5_2 ((rd_T27 l0_1 x30_2).f0)).length < 17592186044416
             ·rw [if_pos c24] at H
              have LMc24 := Aside0.mk c24
              clear c24
              obtain ⟨y138, hy138⟩ : ∃ y_ : List Int, y_ = ((rd_L4 x5_2 ((rd_T27 l0_1 x30_2).f0)) ++ [(rd_T27 l0_1 x30_2).f1]) := ⟨_, rfl⟩
              replace H : (route_Inhibited.l0 k2 l1 (x5_2.set (((rd_T27 l0_1 x30_2).f0) : Int).toNat y138) l0_1 (l0_1.length : Int) (wrap64 (x30_2 + 1)) a0_0 l0_1) = some r := by first | (rw [hy138]; with_reducible exact H) | (have H2_ := (Option.bind_some _ _).symm.trans H; rw [hy138]; with_reducible exact H2_) | (have H2_ := (Option.bind_some _ _).symm.trans H; with_reducible exact H2_) | with_reducible exact H | (rw [hy138]; exact H) | exact H
              have Ny138 := Aside0.mk hy138
              clear hy138
              obtain ⟨y141, hy141⟩ : ∃ y_ : List (List Int), y_ = (x5_2.set (((rd_T27 l0_1 x30_2).f0) : Int).toNat y138) := ⟨_, rfl⟩
              replace H : (route_Inhibited.l0 k2 l1 y141 l0_1 (l0_1.length : Int) (wrap64 (x30_2 + 1)) a0_0 l0_1) = some r := by first | (rw [hy141]; with_reducible exact H) | (have H2_ := (Option.bind_some _ _).symm.trans H; rw [hy141]; with_reducible exact H2_) | (have H2_ := (Option.bind_some _ _).symm.trans H; with_reducible exact H2_) | with_reducible exact H | (rw [hy141]; exact H) | exact H
              have Ny141 := Aside0.mk hy141
              clear hy141
              have H' := Aside0.mk H
              clear H
              have p135 : 0 ≤ (x30_2 : Int) := of_decide_eq_true (by first | (with_reducible assumption) | assumption)
              have q135 : x30_2 < (l0_1.length : Int) := of_decide_eq_true (by first | (with_reducible assumption) | assumption)
              obtain ⟨ad135, e135, hx135_0, hx135_1⟩ := at_T27 HR0_1.out x30_2 p135 q135
              cases e135
              (try replace hx135_0 := (HB.out.cell (World.block_lt_of_cell? w _ hx135_0)).trans hx135_0)
              (try replace hx135_1 := (HB.out.cell (World.block_lt_of_cell? w _ hx135_1)).trans hx135_1)
              replace p135 := eq_true p135
              replace q135 := eq_true q135
              try go_wp2_with (first | ((with_reducible refine gate_dst (N := 7) rfl ?_); (try (refine gate_guard (by rfl) ?_; dsimp only)); refine box_event ?hg (N := 7) ?hd (cs := #[.int .i64 0, .int .i64 0]) (t := 27) ?hr ?_; (case hd => rfl); (case hg => rfl); (case hr => first | (go_simp; done) | (go_simp; rfl)); intro gb136 hg w26 hbox hb; have n0_ := Aside0.mk (Kd.S_below (sq HO_5) hb); have n1_ := Aside0.mk (blk_below (g := gb130) (o := .cells #[.int .i64 a0_0, .slice (some ad135) l0_1.length c0_1] 31 (0, 0)) (bq BK130) hb); have n2_ := Aside0.mk (below_step (hq HB) hb); have n3_ := Aside0.mk (hbox); have n4_ := Aside0.mk ((by rw [hg]; exact (below_size (hq HB)) : w.heap.size ≤ gb136)); have n5_ := Aside0.mk ((by rw [hg]; exact (below_size (hq HB)) : w.heap.size ≤ gb136)); have n6_ := Aside0.mk ((by rw [hg]; exact Nat.ne_of_lt (blk_lt (g := gb130) (o := .cells #[.int .i64 a0_0, .slice (some ad135) l0_1.length c0_1] 31 (0, 0)) (bq BK130)) : gb130 ≠ gb136)); have n7_ := Aside0.mk ((by rw [hg]; exact Nat.ne_of_gt (blk_lt (g := gb130) (o := .cells #[.int .i64 a0_0, .slice (some ad135) l0_1.length c0_1] 31 (0, 0)) (bq BK130)) : gb136 ≠ gb130)); clear HO_5; clear BK130; clear HB; have HO_5 := n0_; have BK130 := n1_; have HB := n2_; have BK136 := n3_; have GW136 := n4_; have GE136 := n5_; have NB130_136 := n6_; have NB136_130 := n7_; clear n0_ n1_ n2_ n3_ n4_ n5_ n6_ n7_; clear hb hbox hg; have hnb27 := NB136_130.out; have hnc27 := NB130_136.out; have hcz28_0 : w26.cell? ⟨gb136, 0, none⟩ = some (.int .i64 0) := (blk_cell BK136.out 0).trans rfl; have hcz28_1 : w26.cell? ⟨gb136, 1, none⟩ = some (.int .i64 0) := (blk_cell BK136.out 1).trans rfl; have hfz28_0 := blk_frozen BK136.out 0; have hfz28_1 := blk_frozen BK136.out 1))
              have n0_ : Aside0 (Kd.S (Kd.slice 3 (Kd.int .i64)) 22 ((w26.setCell ⟨gb136, 0, none⟩ (.int .i64 ((rd_T27 l0_1 x30_2).f0))).setCell ⟨gb136, 1, none⟩ (.int .i64 ((rd_T27 l0_1 x30_2).f1))) w.heap.size (fun _ => True) v133 x5_2) := ⟨by (with_reducible repeat (first | apply Kd.S_alloc | apply Kd.S_drewN | apply Kd.S_drew)); exact Kd.S_mono (Kd.S_far (p := ⟨gb136, 1, none⟩) (Kd.S_far (p := ⟨gb136, 0, none⟩) (Kd.S_types HO_5.out BK136.out (by decide)) (fun _ hk => hk.2) (.int .i64 ((rd_T27 l0_1 x30_2).f0))) (fun _ hk => hk.2) (.int .i64 ((rd_T27 l0_1 x30_2).f1))) (fun _ hk => trivial)⟩
              have n1_ : Aside0 (((w26.setCell ⟨gb136, 0, none⟩ (.int .i64 ((rd_T27 l0_1 x30_2).f0))).setCell ⟨gb136, 1, none⟩ (.int .i64 ((rd_T27 l0_1 x30_2).f1))).heap[gb130]? = some (.cells #[.int .i64 a0_0, .slice (some ad135) l0_1.length c0_1] 31 (0, 0))) := ⟨by (with_reducible repeat (first | refine blk_drewN ?_ _ | refine blk_drew ?_ | refine blk_alloc ?_ _)); refine blk_far ?_ NB130_136.out _; (with_reducible repeat (first | refine blk_drewN ?_ _ | refine blk_drew ?_ | refine blk_alloc ?_ _)); refine blk_far ?_ NB130_136.out _; (with_reducible repeat (first | refine blk_drewN ?_ _ | refine blk_drew ?_ | refine blk_alloc ?_ _)); exact BK130.out⟩
              have n2_ : Aside0 (((w26.setCell ⟨gb136, 0, none⟩ (.int .i64 ((rd_T27 l0_1 x30_2).f0))).setCell ⟨gb136, 1, none⟩ (.int .i64 ((rd_T27 l0_1 x30_2).f1))).heap[gb136]? = some (.cells #[.int .i64 ((rd_T27 l0_1 x30_2).f0), .int .i64 ((rd_T27 l0_1 x30_2).f1)] 27 (0, 0))) := ⟨by (with_reducible repeat (first | refine blk_drewN ?_ _ | refine blk_drew ?_ | refine blk_alloc ?_ _)); refine blk_put (cs := #[.int .i64 ((rd_T27 l0_1 x30_2).f0), .int .i64 0]) ?_ 1 _ rfl; (with_reducible repeat (first | refine blk_drewN ?_ _ | refine blk_drew ?_ | refine blk_alloc ?_ _)); refine blk_put (cs := #[.int .i64 0, .int .i64 0]) ?_ 0 _ rfl; (with_reducible repeat (first | refine blk_drewN ?_ _ | refine blk_drew ?_ | refine blk_alloc ?_ _)); exact BK136.out⟩
              have n3_ : Aside0 (Below w.heap.size w ((w26.setCell ⟨gb136, 0, none⟩ (.int .i64 ((rd_T27 l0_1 x30_2).f0))).setCell ⟨gb136, 1, none⟩ (.int .i64 ((rd_T27 l0_1 x30_2).f1)))) := ⟨by repeat (first | (with_reducible first | exact HB.out | apply below_alloc | apply pw_below_drewN | apply below_drew1 | refine below_set ?_ GE130.out | refine below_set ?_ GE136.out) | exact HB.out)⟩
              (try clear HO_5)
              (try clear BK130)
              (try clear BK136)
              (try clear HB)
              generalize ((w26.setCell ⟨gb136, 0, none⟩ (.int .i64 ((rd_T27 l0_1 x30_2).f0))).setCell ⟨gb136, 1, none⟩ (.int .i64 ((rd_T27 l0_1 x30_2).f1))) = w29 at n0_ n1_ n2_ n3_ ⊢
              have HO_5 := n0_
              have BK130 := n1_
              have BK136 := n2_
              have HB := n3_
              clear n0_ n1_ n2_ n3_
              have n0_ := Aside0.mk (Kd.S_drew HO_5.out)
              have n1_ := Aside0.mk (blk_drew BK130.out)
              have n2_ := Aside0.mk (blk_drew BK136.out)
              have n3_ := Aside0.mk (below_drew1 HB.out)
              clear HO_5
              clear BK130
              clear BK136
              clear HB
              have HO_5 := n0_
              have BK130 := n1_
              have BK136 := n2_
              have HB := n3_
              clear n0_ n1_ n2_ n3_
              obtain ⟨Ao31, co31, eo31⟩ := Kd.S_slice HO_5.out
              (first | subst eo31 | (injection eo31 with f1_ f2_ f3_; have f4_ := f1_.symm; have f5_ := f3_.symm; clear f1_ f2_ f3_; subst f4_; subst f5_))
              have p137 : 0 ≤ (((rd_T27 l0_1 x30_2).f0) : Int) := of_decide_eq_true (by first | (with_reducible assumption) | assumption)
              have q137 : ((rd_T27 l0_1 x30_2).f0) < (x5_2.length : Int) := of_decide_eq_true (by first | (with_reducible assumption) | assumption)
              try (obtain ⟨Az137_, cz137_, ez137_⟩ := Kd.S_slice HO_5.out; subst ez137_)
              obtain ⟨ad137, A137_0, c137_0, e137, hx137_0, hl137_0, hi137_0⟩ := at_L4 (Kd.S_reads' HO_5.out).2.2 ((rd_T27 l0_1 x30_2).f0) p137 q137
              cases e137
              obtain ⟨ce137, hce137, hMe137, hcc137⟩ := Kd.S_get HO_5.out [] ((rd_T27 l0_1 x30_2).f0) p137 (by first | exact q137 | exact of_decide_eq_true (by first | (with_reducible assumption) | assumption) | (have e_ := (Kd.S_reads' HO_5.out).1; omega))
              obtain ⟨ve137_0, rfl, ge137_0⟩ := hMe137
              have hv137_0 := hcc137 0 _ rfl
              rw [Nat.add_zero, show ((Kd.slice 3 (Kd.int .i64))).sz = 1 from rfl, Nat.mul_one] at hv137_0
              replace hv137_0 := Option.some.inj (hv137_0.symm.trans hx137_0)
              rw [hv137_0] at ge137_0
              have HL137_0 := Aside0.mk (show Kd.R (Kd.int .i64) 3 _ _ _ _ (rd_L4 x5_2 ((rd_T27 l0_1 x30_2).f0)) from ge137_0)
              clear hv137_0 ge137_0
              have HX137_0 := Aside0.mk hx137_0
              clear hcc137 hce137
              have HR137_0 := Aside0.mk hi137_0
              have HC137_0 := Aside0.mk hl137_0
              clear hi137_0 hl137_0
              replace p137 := eq_true p137
              replace q137 := eq_true q137
              obtain ⟨go32, co32, eo32, gb32, gl32, cl32, HG32⟩ := Kd.S_form HO_5.out (by have h_ : (((rd_T27 l0_1 x30_2).f0) : Int) < ((x5_2.length : Int) : Int) := of_decide_eq_true (by first | (with_reducible assumption) | assumption); have h2_ : 0 ≤ (((rd_T27 l0_1 x30_2).f0) : Int) := (of_decide_eq_true (by first | (with_reducible assumption) | assumption)); omega)
              (first | cases eo32 | (injection eo32 with ea_ en_ ec_; (first | subst ea_ | (injection ea_ with ea_; subst ea_)); subst ec_; clear en_))
              have GB32 := Aside0.mk gb32
              have GG32 := Aside0.mk HG32
              clear gb32 gl32 HG32
              (first | simp only [add_plain] at hx137_0 | skip)
              obtain ⟨oki32, ce32, hcl32, hM32, hcc32, _, _, hH32⟩ := Kd.S_elem HO_5.out [] (((rd_T27 l0_1 x30_2).f0) : Int) (of_decide_eq_true (by first | (with_reducible assumption) | assumption)) (by have h_ : (((rd_T27 l0_1 x30_2).f0) : Int) < ((x5_2.length : Int) : Int) := of_decide_eq_true (by first | (with_reducible assumption) | assumption); first | exact h_ | (have e_ := (Kd.S_reads' HO_5.out).1; omega) | simpa using h_)
              obtain ⟨ve32_0, rfl, ge32_0⟩ := hM32
              have hv32 := hcc32 0 _ rfl
              have hX32 := HX137_0.out
              (try simp only [add_plain] at hX32)
              (try simp only [Nat.add_zero] at hv32)
              (try rw [show ((Kd.slice 3 (Kd.int .i64))).sz = 1 from rfl, Nat.mul_one] at hv32)
              replace hv32 := Option.some.inj (hv32.symm.trans hX32)
              subst hv32
              clear hX32 hcc32 hcl32
              have UU32 := Aside0.mk (show Kd.R (Kd.int .i64) 3 _ w.heap.size oki32 (.slice A137_0 (rd_L4 x5_2 ((rd_T27 l0_1 x30_2).f0)).length c137_0) (rd_L4 x5_2 ((rd_T27 l0_1 x30_2).f0)) from ge32_0)
              have HH32 := Aside0.mk hH32
              have HN32 := Aside0.mk (Kd.S_reads' HO_5.out).1
              clear hH32 ge32_0
              refine start_ (n := 14) (S := fun w' => w'.cell? ⟨gb136, 0, none⟩ = some (.int .i64 ((rd_T27 l0_1 x30_2).f0)) ∧ w'.cell? ⟨gb136, 1, none⟩ = some (.int .i64 ((rd_T27 l0_1 x30_2).f1)) ∧ w'.cell? ⟨go32, (((rd_T27 l0_1 x30_2).f0)).toNat, none⟩ = some (.slice A137_0 (rd_L4 x5_2 ((rd_T27 l0_1 x30_2).f0)).length c137_0)) (ds := [13]) #[false, false, false, false, false, false, false, false, false, false, false, false, false, false] (by kernel_rfl) rfl rfl ⟨(blk_cell BK136.out 0).trans rfl, (blk_cell BK136.out 1).trans rfl, hx137_0⟩ (fun hHeld => ?_); refine with_tabW route_Inhibited.tab7 route_Inhibited.bits7 (fun HT_ HW_ => ?_)
              generalize w29.drew = w30 at HO_5 BK130 BK136 HB GG32 HH32 HL137_0 HR137_0 HX137_0 UU32 hx137_0 hHeld ⊢
              refine pure_ (i := 0) (N := some 34) (v := ?_) (a' := ?_) #[true, false, false, false, false, false, false, false, false, false, false, false, false, false] rfl rfl (any_of HT_.out (by kernel_rfl)) (fun _ _ _ h => h) (Or.inl ⟨by rfl, ?_⟩) ?_ ?_
              rotate_left
              ·intro w'
               go_simp
               with_reducible rfl
              rotate_left
              ·simp only [Act.put, List.setIfInBounds_toArray, List.set_cons_zero, List.set_cons_succ, i64_w, i32_w]
               rfl
              refine pure_ (i := 1) (N := some 35) (v := ?_) (a' := ?_) #[true, true, false, false, false, false, false, false, false, false, false, false, false, false] rfl rfl (any_of HT_.out (by kernel_rfl)) (fun _ _ _ h => h) (Or.inl ⟨by rfl, ?_⟩) ?_ ?_
              rotate_left
              ·intro w'
               go_simp
               with_reducible rfl
              rotate_left
              ·simp only [Act.put, List.setIfInBounds_toArray, List.set_cons_zero, List.set_cons_succ, i64_w, i32_w]
               rfl
              refine pure_ (i := 3) (N := some 37) (v := ?_) (a' := ?_) #[true, true, false, true, false, false, false, false, false, false, false, false, false, false] rfl rfl (any_of HT_.out (by kernel_rfl)) (fun _ _ _ h => h) (Or.inl ⟨by rfl, ?_⟩) ?_ ?_
              rotate_left
              ·intro w'
               go_simp
               with_reducible rfl
              rotate_left
              ·simp only [Act.put, List.setIfInBounds_toArray, List.set_cons_zero, List.set_cons_succ, i64_w, i32_w]
               rfl
              refine pure_ (i := 4) (N := some 38) (v := ?_) (a' := ?_) #[true, true, false, true, true, false, false, false, false, false, false, false, false, false] rfl rfl (any_of HT_.out (by kernel_rfl)) (fun _ _ _ h => h) (Or.inl ⟨by rfl, ?_⟩) ?_ ?_
              rotate_left
              ·intro w'
               go_simp
               with_reducible rfl
              rotate_left
              ·simp only [Act.put, List.setIfInBounds_toArray, List.set_cons_zero, List.set_cons_succ, i64_w, i32_w]
               rfl
              refine pure_ (i := 8) (N := some 42) (v := ?_) (a' := ?_) #[true, true, false, true, true, false, false, false, true, false, false, false, false, false] rfl rfl (any_of HT_.out (by kernel_rfl)) (fun _ _ _ h => h) (Or.inl ⟨by rfl, ?_⟩) ?_ ?_
              rotate_left
              ·intro w'
               go_simp
               with_reducible rfl
              rotate_left
              ·simp only [Act.put, List.setIfInBounds_toArray, List.set_cons_zero, List.set_cons_succ, i64_w, i32_w]
               rfl
              refine take_ (i := 2) (N := some 36) (v := ?_) (a' := ?_) #[true, true, true, true, true, false, false, false, true, false, false, false, false, false] rfl rfl (take_ofW HT_.out HW_.out (by kernel_rfl)) (fun _ _ _ h => h) (Or.inl ⟨by rfl, ?_⟩) hHeld ?_ ?_
              rotate_left
              ·rintro w' ⟨s0, s1, s2⟩
               go_simp
               with_reducible rfl
              rotate_left
              ·simp only [Act.put, List.setIfInBounds_toArray, List.set_cons_zero, List.set_cons_succ, i64_w, i32_w]
               rfl
              refine take_ (i := 5) (N := some 39) (v := ?_) (a' := ?_) #[true, true, true, true, true, true, false, false, true, false, false, false, false, false] rfl rfl (take_ofW HT_.out HW_.out (by kernel_rfl)) (fun _ _ _ h => h) (Or.inl ⟨by rfl, ?_⟩) hHeld ?_ ?_
              rotate_left
              ·rintro w' ⟨s0, s1, s2⟩
               go_simp
               with_reducible rfl
              rotate_left
              ·simp only [Act.put, List.setIfInBounds_toArray, List.set_cons_zero, List.set_cons_succ, i64_w, i32_w]
               rfl
              refine pure_ (i := 6) (N := some 40) (v := ?_) (a' := ?_) #[true, true, true, true, true, true, true, false, true, false, false, false, false, false] rfl rfl (any_of HT_.out (by kernel_rfl)) (fun _ _ _ h => h) (Or.inl ⟨by rfl, ?_⟩) ?_ ?_
              rotate_left
              ·intro w'
               go_simp
               with_reducible rfl
              rotate_left
              ·simp only [Act.put, List.setIfInBounds_toArray, List.set_cons_zero, List.set_cons_succ, i64_w, i32_w]
               rfl
              refine take_ (i := 7) (N := some 41) (v := ?_) (a' := ?_) #[true, true, true, true, true, true, true, true, true, false, false, false, false, false] rfl rfl (take_ofW HT_.out HW_.out (by kernel_rfl)) (fun _ _ _ h => h) (Or.inl ⟨by rfl, ?_⟩) hHeld ?_ ?_
              rotate_left
              ·rintro w' ⟨s0, s1, s2⟩
               go_simp
               with_reducible rfl
              rotate_left
              ·simp only [Act.put, List.setIfInBounds_toArray, List.set_cons_zero, List.set_cons_succ, i64_w, i32_w]
               rfl
              refine take_ (i := 9) (N := some 43) (v := ?_) (a' := ?_) #[true, true, true, true, true, true, true, true, true, true, false, false, false, false] rfl rfl (take_ofW HT_.out HW_.out (by kernel_rfl)) (fun _ _ _ h => h) (Or.inl ⟨by rfl, ?_⟩) hHeld ?_ ?_
              rotate_left
              ·rintro w' ⟨s0, s1, s2⟩
               go_simp
               with_reducible rfl
              rotate_left
              ·simp only [Act.put, List.setIfInBounds_toArray, List.set_cons_zero, List.set_cons_succ, i64_w, i32_w]
               rfl
              refine one_ (i := 10) (N := some 44) #[true, true, true, true, true, true, true, true, true, true, true, false, false, false] rfl rfl (one_of HT_.out (by kernel_rfl)) (by decide) (fun K hK => ?_)
              refine value_ (w1 := ?_) (v := ?_) (by rfl) rfl ?_ ?_
              rotate_left 2
              ·go_simp
               constructor
               ·rfl
               ·rfl
              refine hK.out _ _ ⟨(blk_cell (blk_alloc BK136.out _) 0).trans rfl, (blk_cell (blk_alloc BK136.out _) 1).trans rfl, (World.cell?_alloc_lt _ _ _ (World.block_lt_of_cell? _ _ (hHeld.2.2))).trans (hHeld.2.2)⟩ (fun hHeld => ?_)
              clear hK K
              refine norm_ (a' := ?_) ?_ ?_
              rotate_left
              ·show Act.put _ (some 44) _ = _
               simp only [Act.put, List.setIfInBounds_toArray, List.set_cons_zero, List.set_cons_succ, i64_w, i32_w]
               rfl
              refine one_ (i := 11) (N := some 45) #[true, true, true, true, true, true, true, true, true, true, true, true, false, false] rfl rfl (one_of HT_.out (by kernel_rfl)) (by decide) (fun K hK => ?_)
              refine Kd.R_append_step (Kd.int .i64) (w0 := w) w.heap.size (by rfl) (.tmp 41) (.tmp 44) 22 3 (.int .i64 0) 8 rfl Try.underlying22 info3 rfl (by decide) (by omega) (.slice A137_0 (rd_L4 x5_2 ((rd_T27 l0_1 x30_2).f0)).length c137_0) (rd_L4 x5_2 ((rd_T27 l0_1 x30_2).f0)) ((rd_T27 l0_1 x30_2).f1) [.int .i64 ((rd_T27 l0_1 x30_2).f1)] (fun k_ => oki32 k_ ∨ ((fun _ => True)) k_ ∧ w30.heap.size ≤ k_) (fun _ => False) rfl rfl ?aP (fun _ hk => hk.elim) ?aF ?aO ?aB ?aS ?aL ?_
              (case aP => exact rfl)
              (case aB => exact (hq HB))
              (case aF => exact (fun k_ hk => .inr ⟨trivial, hk⟩))
              (case aO => exact (by (with_reducible repeat (first | apply Kd.R_alloc | apply Kd.R_drewN | apply Kd.R_drew)); exact Kd.R_mono UU32.out (fun _ hk => .inl hk)))
              (case aS => exact (below_size (hq HB)))
              (case aL => have := LMc24.out; omega)
              intro v139 w33 ho hb hg hat
              (first | have HS2_ := cell_grown hg (hHeld.2.2) (by first | (rw [add_block]; exact (fun e_ => ((HL137_0.out.1 _ e_.symm).2) rfl)) | (show some (Addr.add _ _).block ≠ _; rw [add_block]; exact (fun e_ => ((HL137_0.out.1 _ e_.symm).2) rfl)) | exact (fun e_ => ((HL137_0.out.1 _ e_.symm).2) rfl)) | have HS2_ := cell_grown hg (cell_unalloc (hHeld.2.2) (by first | (rw [add_block]; exact Kd.S_lt HO_5.out _ rfl) | (show (Addr.add _ _).block < _; rw [add_block]; exact Kd.S_lt HO_5.out _ rfl) | exact Kd.S_lt HO_5.out _ rfl)) (by first | (rw [add_block]; exact (fun e_ => ((HL137_0.out.1 _ e_.symm).2) rfl)) | (show some (Addr.add _ _).block ≠ _; rw [add_block]; exact (fun e_ => ((HL137_0.out.1 _ e_.symm).2) rfl)) | exact (fun e_ => ((HL137_0.out.1 _ e_.symm).2) rfl)))
              rw [← Ny138.out] at ho
              have n0_ := Aside0.mk (blk_grown (g := gb130) (o := .cells #[.int .i64 a0_0, .slice (some ad135) l0_1.length c0_1] 31 (0, 0)) (bq BK130) hg (Kd.R_ne HL137_0.out BK130.out (by decide)))
              have n1_ := Aside0.mk (blk_grown (g := gb136) (o := .cells #[.int .i64 ((rd_T27 l0_1 x30_2).f0), .int .i64 ((rd_T27 l0_1 x30_2).f1)] 27 (0, 0)) (bq BK136) hg (Kd.R_ne HL137_0.out BK136.out (by decide)))
              have n2_ := Aside0.mk (hb)
              have n3_ := Aside0.mk (Kd.H_grown (Kd.H_widen (by repeat (first | exact HH32.out | refine Kd.H_alloc ?_ _ | refine Kd.H_drewN ?_ _ | refine Kd.H_drew ?_))) hg (fun k_ e_ => .inl (UU32.out.1 k_ e_)))
              have n4_ := Aside0.mk (ho)
              clear BK130
              clear BK136
              clear HB
              clear HH32
              clear HO_5
              clear UU32
              clear HL137_0
              have BK130 := n0_
              have BK136 := n1_
              have HB := n2_
              have HH32 := n3_
              have HO140 := n4_
              clear n0_ n1_ n2_ n3_ n4_
              clear ho hb hg hat
              have p25 : 0 ≤ (((rd_T27 l0_1 x30_2).f0) : Int) := of_decide_eq_true (by first | (with_reducible assumption) | assumption)
              have q25 : (((rd_T27 l0_1 x30_2).f0) : Int) < ((x5_2.length : Int) : Int) := of_decide_eq_true (by first | (with_reducible assumption) | assumption)
              replace p25 := eq_true p25
              replace q25 := eq_true q25
              obtain ⟨Ao36, co36, eo36⟩ := Kd.R_slice HO140.out
              (first | subst eo36 | (injection eo36 with f1_ f2_ f3_; have f4_ := f1_.symm; have f5_ := f3_.symm; clear f1_ f2_ f3_; subst f4_; subst f5_))
              obtain ⟨_, _, hraw34, _, _, hcc34, _⟩ := Kd.H_raw HH32.out (of_decide_eq_true (by first | (with_reducible assumption) | assumption)) (by have h_ : (((rd_T27 l0_1 x30_2).f0) : Int) < ((x5_2.length : Int) : Int) := of_decide_eq_true (by first | (with_reducible assumption) | assumption); first | exact h_ | (have e_ := (HN32.out); omega) | simpa using h_)
              obtain ⟨_, hfr34⟩ := Kd.H_at HH32.out (of_decide_eq_true (by first | (with_reducible assumption) | assumption)) (by have h_ : (((rd_T27 l0_1 x30_2).f0) : Int) < ((x5_2.length : Int) : Int) := of_decide_eq_true (by first | (with_reducible assumption) | assumption); first | exact h_ | (have e_ := (HN32.out); omega) | simpa using h_)
              have hx34_0 := hcc34 0 _ rfl
              have hf34_0 := hfr34 0
              (try simp only [Nat.add_zero] at hx34_0 hf34_0)
              (try rw [show ((Kd.slice 3 (Kd.int .i64))).sz = 1 from rfl, Nat.mul_one] at hx34_0)
              (try rw [show ((Kd.slice 3 (Kd.int .i64))).sz = 1 from rfl, Nat.mul_one] at hf34_0)
              have HP34 := Kd.S_seg0 HH32.out (of_decide_eq_true (by first | (with_reducible assumption) | assumption)) (by have h_ : (((rd_T27 l0_1 x30_2).f0) : Int) < ((x5_2.length : Int) : Int) := of_decide_eq_true (by first | (with_reducible assumption) | assumption); first | exact h_ | (have e_ := (HN32.out); omega) | simpa using h_) (seg := [.slice Ao36 y138.length co36]) (j := 0) (show 1 ≤ 1 from by decide) (x' := y138) (Kd.M_row HO140.out) (fun _ hk => hk)
              (try simp only [show ((Kd.slice 3 (Kd.int .i64))).sz = 1 from rfl, Nat.mul_one, Nat.add_zero] at HP34)
              clear hcc34 hfr34
              have HNB130_go32 := Aside0.mk (show gb130 ≠ go32 from by have h_ := Kd.R_ne hraw34 BK130.out (by decide); intro e_; exact h_ (by rw [e_]; rfl))
              have HNB136_go32 := Aside0.mk (show gb136 ≠ go32 from by have h_ := Kd.R_ne hraw34 BK136.out (by decide); intro e_; exact h_ (by rw [e_]; rfl))
              have HS34 := HP34.1
              rw [← Ny141.out] at HS34
              have HQ34 := Aside0.mk HS34
              obtain ⟨_, hgg34⟩ := Kd.R_typed hraw34 go32 rfl
              have GG34_ := Aside0.mk hgg34
              clear HP34 HS34 hgg34
              refine hK.out _ _ ⟨(blk_cell BK136.out 0).trans rfl, (blk_cell BK136.out 1).trans rfl, HS2_⟩ (fun hHeld => ?_)
              clear hK K
              refine norm_ (a' := ?_) ?_ ?_
              rotate_left
              ·show Act.put _ (some 45) _ = _
               simp only [Act.put, List.setIfInBounds_toArray, List.set_cons_zero, List.set_cons_succ, i64_w, i32_w]
               rfl
              refine pure_ (i := 12) (N := some 46) (v := ?_) (a' := ?_) #[true, true, true, true, true, true, true, true, true, true, true, true, true, false] rfl rfl (any_of HT_.out (by kernel_rfl)) (fun _ _ _ h => h) (Or.inl ⟨by rfl, ?_⟩) ?_ ?_
              rotate_left
              ·intro w'
               go_simp
               with_reducible rfl
              rotate_left
              ·simp only [Act.put, List.setIfInBounds_toArray, List.set_cons_zero, List.set_cons_succ, i64_w, i32_w]
               rfl
              refine last_ (i := 13) (N := none) #[true, true, true, true, true, true, true, true, true, true, true, true, true, true] rfl rfl (one_of HT_.out (by kernel_rfl)) (by decide) (fun K hK => ?_)
              refine skip_ (w1 := ?_) (by rfl) rfl ?_ ?_
              rotate_left
              ·go_simp
               rfl
              refine hK.out _ _ ?_
              clear hK K
              refine done_ (done_of HT_.out (by kernel_rfl)) ?_
              try go_wp2
              go_roundg k2
              case measure => have := HJ2.out; have := HK2.out; omega
              case rel => exact ⟨(y141), (wrap64 (x30_2 + 1)), (by first | rfl | (simp; done) | (simp [*]; done)), H', ⟨by have := HJ2.out; have := HK2.out; omega⟩, ⟨by (with_reducible repeat (first | apply Kd.S_alloc | apply Kd.S_drewN | apply Kd.S_drew)); exact HQ34.out⟩, ⟨by (with_reducible repeat (first | refine blk_drewN ?_ _ | refine blk_drew ?_ | refine blk_alloc ?_ _)); refine blk_far ?_ HNB130_go32.out _; (with_reducible repeat (first | refine blk_drewN ?_ _ | refine blk_drew ?_ | refine blk_alloc ?_ _)); exact BK130.out⟩, ⟨by repeat (first | (with_reducible first | exact HB.out | apply below_alloc | apply pw_below_drewN | apply below_drew1 | refine below_set ?_ GB32.out | refine below_set ?_ GE130.out | refine below_set ?_ GE136.out) | exact HB.out)⟩⟩
             ·rw [if_neg c24] at H
              exact absurd H (by simp)
            ·rw [if_neg c23] at H
             exact absurd H (by simp)
           ·rw [if_neg c22] at H
            exact absurd H (by simp)
          ·rw [if_neg c21] at H
           exact absurd H (by simp)
         ·rw [if_neg c20] at H
          exact absurd H (by simp)
        ·rw [if_neg c19] at H
         have c19b0 : decide (x30_2 < (l0_1.length : Int)) = false := decide_eq_false c19
         clear c19
         by_cases c37 : 0 ≤ a0_0
         ·rw [if_pos c37] at H
          have c37b0 := eq_true c37
          have c37b1 : decide (0 ≤ a0_0) = true := decide_eq_true c37
          clear c37
          by_cases c38 : (a0_0 : Int).toNat ≤ 281474976710656
          ·rw [if_pos c38] at H
           have c38b0 := eq_true c38
           have c38b1 : decide ((a0_0 : Int).toNat ≤ 281474976710656) = true := decide_eq_true c38
           clear c38
           obtain ⟨y142, hy142⟩ : ∃ y_ : List Bool, y_ = (List.replicate (a0_0 : Int).toNat false) := ⟨_, rfl⟩
           replace H : ((route_sorted.f k2 a0_0 l0_1).bind fun t145 => (route_Inhibited.l1 k2 l1 x5_2 y142 t145 (t145.length : Int) 0 a0_0 l0_1)) = some r := by first | (rw [hy142]; with_reducible exact H) | (have H2_ := (Option.bind_some _ _).symm.trans H; rw [hy142]; with_reducible exact H2_) | (have H2_ := (Option.bind_some _ _).symm.trans H; with_reducible exact H2_) | with_reducible exact H | (rw [hy142]; exact H) | exact H
           have Ny142 := Aside0.mk hy142
           clear hy142
           replace H := Option.bind_eq_some_iff.mp H
           obtain ⟨t145, A390, H⟩ := H
           replace H : (route_Inhibited.l1 k2 l1 x5_2 y142 t145 (t145.length : Int) 0 a0_0 l0_1) = some r := H
           have A39 := Aside0.mk A390
           clear A390
           have H' := Aside0.mk H
           clear H
           have hcz40_0 : wr.cell? ⟨gb130, 0, none⟩ = some (.int .i64 a0_0) := (blk_cell BK130.out 0).trans rfl
           have hcz40_1 : wr.cell? ⟨gb130, 1, none⟩ = some (.slice A0_1 l0_1.length c0_1) := (blk_cell BK130.out 1).trans rfl
           have hfz40_0 := blk_frozen BK130.out 0
           have hfz40_1 := blk_frozen BK130.out 1
           go_wp2_with (first | ((with_reducible refine gate_dst (N := 50) rfl ?_); (try (refine gate_guard (by rfl) ?_; dsimp only)); refine Kd.R_make Kd.bool _ 4 rfl (N := 50) rfl 36 _ _ rfl a0_0 rfl rfl Try.underlying36 (.bool false) 1 info4 rfl (by decide) (by omega) false (ok := fun _ => True) (okp := fun _ => True) rfl (fun _ hk => hk) trivial (of_decide_eq_true (by first | (with_reducible assumption) | assumption)) (Nat.le_trans (Nat.mul_le_mul_right _ (of_decide_eq_true (by first | (with_reducible assumption) | assumption) : a0_0.toNat ≤ 281474976710656)) (by omega)) (Below.refl _ _) (Nat.le_refl _) ?_; intro v143 w41 ho42 hb hg_ hnew_; clear hg_ hnew_; (first | rw [← Ny142.out] at ho42 | (simp only [Int.reduceToNat] at ho42; rw [← Ny142.out] at ho42)); have n0_ := Aside0.mk (Kd.S_below (sq HO_5) hb); have n1_ := Aside0.mk (Kd.R_lower ho42 (below_size (hq HB))); have n2_ := Aside0.mk (blk_below (g := gb130) (o := .cells #[.int .i64 a0_0, .slice A0_1 l0_1.length c0_1] 31 (0, 0)) (bq BK130) hb); have n3_ := Aside0.mk (below_step (hq HB) hb); clear HO_5; clear BK130; clear HB; have HO_5 := n0_; have HO144 := n1_; have BK130 := n2_; have HB := n3_; clear n0_ n1_ n2_ n3_; clear hb ho42; have hcz43_0 : w41.cell? ⟨gb130, 0, none⟩ = some (.int .i64 a0_0) := (blk_cell BK130.out 0).trans rfl; have hcz43_1 : w41.cell? ⟨gb130, 1, none⟩ = some (.slice A0_1 l0_1.length c0_1) := (blk_cell BK130.out 1).trans rfl; have hfz43_0 := blk_frozen BK130.out 0; have hfz43_1 := blk_frozen BK130.out 1) | ((with_reducible refine gate_callee (f := 40) rfl ?_); refine goesL_ (some 52) rfl rfl Try.func40 (by kernel_rfl) rfl #[.agg #[.int .i64 a0_0, .slice A0_1 l0_1.length c0_1]] rfl aq ?_; (with_reducible refine (route_sorted.calls k2 a0_0 _ _ l0_1 t145 _ ?side1 ?side2 A39.out).mono ?_); (case side1 => repeat (first | exact (Kd.C_below HR0_1.out HB.out) | (with_reducible refine Kd.C_alloc ?_ _) | (with_reducible refine Kd.C_drewN ?_ _) | (with_reducible refine Kd.C_drew ?_))); (case side2 => exact HC0_1.out); rintro e w44 ⟨v146, rfl, ho0, hb⟩; refine ⟨_, rfl, ?_⟩; have n0_ := Aside0.mk (Kd.S_elder' (sq HO_5) (Kd.R_base ho0) hb); have n1_ := Aside0.mk (Kd.R_below (rq HO144) hb); have n2_ := Aside0.mk (Kd.R_lower ho0 (below_size (hq HB))); have n3_ := Aside0.mk (blk_below (g := gb130) (o := .cells #[.int .i64 a0_0, .slice A0_1 l0_1.length c0_1] 31 (0, 0)) (bq BK130) hb); have n4_ := Aside0.mk (below_step (hq HB) hb); clear HO_5; clear HO144; clear BK130; clear HB; have HO_5 := n0_; have HO144 := n1_; have HO147 := n2_; have BK130 := n3_; have HB := n4_; clear n0_ n1_ n2_ n3_ n4_; (try clear hb); (try clear hb2); (try clear hk); (try clear hi); (try clear ho0); obtain ⟨Ao45, co45, eo45⟩ := Kd.R_slice HO147.out; subst eo45))
           go_loopg [54] k2 (fun kq v54 w' => ∃ (x8_3 : List Bool) (x54_3 : Int), v54 = .int .i64 x54_3 ∧ Aside0 (route_Inhibited.l1 kq l1 x5_2 x8_3 t145 (t145.length : Int) x54_3 a0_0 l0_1 = some r) ∧ Aside0 (kq ≤ k2) ∧ Aside0 (Kd.S (Kd.slice 3 (Kd.int .i64)) 22 w' w.heap.size (fun k_ => some k_ ≠ ((.slice Ao45 t145.length co45) : Value).ownBlock) v133 x5_2) ∧ Aside0 (Kd.R Kd.bool 4 w' w.heap.size (fun _ => True) v143 x8_3) ∧ Aside0 (Kd.R (Kd.int .i64) 3 w' w.heap.size (fun _ => True) (.slice Ao45 t145.length co45) t145) ∧ Aside0 (w'.heap[gb130]? = some (.cells #[.int .i64 a0_0, (.slice A0_1 l0_1.length c0_1)] 31 (0, 0))) ∧ Aside0 (Below w.heap.size w w'))
           case atStart => exact ⟨(y142), (0), (by first | rfl | (simp; done) | (simp [*]; done)), H', ⟨Nat.le_refl _⟩, ⟨by (with_reducible repeat (first | apply Kd.S_alloc | apply Kd.S_drewN | apply Kd.S_drew)); exact Kd.S_mono HO_5.out (fun _ hk => hk.2)⟩, ⟨by (with_reducible repeat (first | apply Kd.R_alloc | apply Kd.R_drewN | apply Kd.R_drew)); exact HO144.out⟩, ⟨by (with_reducible repeat (first | apply Kd.R_alloc | apply Kd.R_drewN | apply Kd.R_drew)); exact HO147.out⟩, ⟨by (with_reducible repeat (first | refine blk_drewN ?_ _ | refine blk_drew ?_ | refine blk_alloc ?_ _)); exact BK130.out⟩, ⟨by repeat (first | (with_reducible first | exact HB.out | apply below_alloc | apply pw_below_drewN | apply below_drew1 | refine below_set ?_ GE130.out) | exact HB.out)⟩⟩
           case round =>
            clear H'
            try clear c1
            try clear p1
            try clear q1
            try clear hx1
            try clear c2
            try clear p2
            try clear q2
            try clear c3
            try clear hx3
            try clear hf3
            try clear c4
            try clear c6
            try clear c6b0
            try clear c6b1
            try clear p6
            try clear c12
            try clear c13
            try clear c13b0
            try clear c13b1
            try clear p13
            try clear q13
            try clear hx13
            try clear c14
            try clear c14b0
            try clear c14b1
            try clear c19
            try clear c19b0
            try clear c20
            try clear c20b0
            try clear c21
            try clear c21b0
            try clear c22
            try clear c22b0
            try clear c23
            try clear c23b0
            try clear c24
            try clear p25
            try clear q25
            try clear c27
            try clear c32
            try clear c34
            try clear hx34
            try clear hf34
            try clear c37
            try clear c37b0
            try clear c37b1
            try clear c38
            try clear c38b0
            try clear c38b1
            try clear c40
            try clear hcz10_0
            try clear hcz10_1
            try clear hcz15_0
            try clear hcz15_1
            try clear hcz18_0
            try clear hcz18_1
            try clear hcz28_0
            try clear hcz28_1
            try clear hcz40_0
            try clear hcz40_1
            try clear hcz43_0
            try clear hcz43_1
            try clear hcz7_0
            try clear hcz7_1
            try clear hcz9_0
            try clear hcz9_1
            try clear hfz10_0
            try clear hfz10_1
            try clear hfz15_0
            try clear hfz15_1
            try clear hfz18_0
            try clear hfz18_1
            try clear hfz28_0
            try clear hfz28_1
            try clear hfz40_0
            try clear hfz40_1
            try clear hfz43_0
            try clear hfz43_1
            try clear hfz7_0
            try clear hfz7_1
            try clear hfz9_0
            try clear hfz9_1
            try clear hx135_0
            try clear hx135_1
            try clear hx137_0
            try clear hx34_0
            try clear p135
            try clear p137
            try clear p2
            try clear p25
            try clear q135
            try clear q137
            try clear q25
            obtain ⟨x8_3, x54_3, rfl, HA, HK3, HO_5, HO_8, HO_52, BK130, HB⟩ := hrel
            cases gk with
            | zero => exact absurd HA.out (by simp [route_Inhibited.l1])
            | succ k3 =>
             have H := HA.out
             clear HA
             simp only [route_Inhibited.l1] at H
             by_cases c46 : x54_3 < (t145.length : Int)
             ·rw [if_pos c46] at H
              have c46b0 : decide (x54_3 < (t145.length : Int)) = true := decide_eq_true c46
              clear c46
              by_cases c47 : 0 ≤ x54_3
              ·rw [if_pos c47] at H
               have c47b0 : decide (0 ≤ x54_3) = true := decide_eq_true c47
               clear c47
               by_cases c48 : x54_3 < (t145.length : Int)
               ·rw [if_pos c48] at H
                have c48b0 : decide (x54_3 < (t145.length : Int)) = true := decide_eq_true c48
                clear c48
                by_cases c49 : 0 ≤ (rd t145 x54_3)
                ·rw [if_pos c49] at H
                 have c49b0 : decide (0 ≤ (rd t145 x54_3)) = true := decide_eq_true c49
                 clear c49
                 by_cases c50 : (rd t145 x54_3) < (x5_2.length : Int)
                 ·rw [if_pos c50] at H
                  have c50b0 : decide ((rd t145 x54_3) < (x5_2.length : Int)) = true := decide_eq_true c50
                  clear c50
                  have H' := Aside0.mk H
                  clear H
                  have p148 : 0 ≤ (x54_3 : Int) := of_decide_eq_true (by first | (with_reducible assumption) | assumption)
                  have q148 : x54_3 < (t145.length : Int) := of_decide_eq_true (by first | (with_reducible assumption) | assumption)
                  try (obtain ⟨Az148_, cz148_, ez148_⟩ := Kd.R_slice HO_52.out; subst ez148_)
                  obtain ⟨ad148, e148, hx148_0⟩ := Kd.at_int (Kd.R_reads' HO_52.out).2.2 x54_3 p148 q148
                  cases e148
                  replace p148 := eq_true p148
                  replace q148 := eq_true q148
                  obtain ⟨Ao51, co51, eo51⟩ := Kd.S_slice HO_5.out
                  subst eo51
                  have p149 : 0 ≤ ((rd t145 x54_3) : Int) := of_decide_eq_true (by first | (with_reducible assumption) | assumption)
                  have q149 : (rd t145 x54_3) < (x5_2.length : Int) := of_decide_eq_true (by first | (with_reducible assumption) | assumption)
                  try (obtain ⟨Az149_, cz149_, ez149_⟩ := Kd.S_slice HO_5.out; subst ez149_)
                  obtain ⟨ad149, A149_0, c149_0, e149, hx149_0, hl149_0, hi149_0⟩ := at_L4 (Kd.S_reads' HO_5.out).2.2 (rd t145 x54_3) p149 q149
                  cases e149
                  obtain ⟨ce149, hce149, hMe149, hcc149⟩ := Kd.S_get HO_5.out [] (rd t145 x54_3) p149 (by first | exact q149 | exact of_decide_eq_true (by first | (with_reducible assumption) | assumption) | (have e_ := (Kd.S_reads' HO_5.out).1; omega))
                  obtain ⟨ve149_0, rfl, ge149_0⟩ := hMe149
                  have hv149_0 := hcc149 0 _ rfl
                  rw [Nat.add_zero, show ((Kd.slice 3 (Kd.int .i64))).sz = 1 from rfl, Nat.mul_one] at hv149_0
                  replace hv149_0 := Option.some.inj (hv149_0.symm.trans hx149_0)
                  rw [hv149_0] at ge149_0
                  have HL149_0 := Aside0.mk (show Kd.R (Kd.int .i64) 3 _ _ _ _ (rd_L4 x5_2 (rd t145 x54_3)) from ge149_0)
                  clear hv149_0 ge149_0
                  have HX149_0 := Aside0.mk hx149_0
                  clear hcc149 hce149
                  have HR149_0 := Aside0.mk hi149_0
                  have HC149_0 := Aside0.mk hl149_0
                  clear hi149_0 hl149_0
                  replace p149 := eq_true p149
                  replace q149 := eq_true q149
                  go_wp2
                  go_loopg [63] k3 (fun kq v63 w' => ∃ (x8_4 : List Bool) (x63_4 : Int), v63 = .int .i64 x63_4 ∧ Aside0 (route_Inhibited.l2 kq l1 x5_2 x8_4 (rd t145 x54_3) t145 (t145.length : Int) x54_3 (rd_L4 x5_2 (rd t145 x54_3)) ((rd_L4 x5_2 (rd t145 x54_3)).length : Int) x63_4 a0_0 l0_1 = some r) ∧ Aside0 (kq ≤ k3) ∧ Aside0 (Kd.S (Kd.slice 3 (Kd.int .i64)) 22 w' w.heap.size (fun k_ => some k_ ≠ ((.slice (some ad148) t145.length co45) : Value).ownBlock) (.slice (some ad149) x5_2.length co51) x5_2) ∧ Aside0 (Kd.R Kd.bool 4 w' w.heap.size (fun _ => True) v143 x8_4) ∧ Aside0 (Kd.R (Kd.int .i64) 3 w' w.heap.size (fun _ => True) (.slice (some ad148) t145.length co45) t145) ∧ Aside0 (Kd.R (Kd.int .i64) 3 w' w.heap.size (fun k_ => some k_ ≠ ((.slice (some ad148) t145.length co45) : Value).ownBlock) (.slice A149_0 (rd_L4 x5_2 (rd t145 x54_3)).length c149_0) (rd_L4 x5_2 (rd t145 x54_3))) ∧ Aside0 (w'.heap[gb130]? = some (.cells #[.int .i64 a0_0, (.slice A0_1 l0_1.length c0_1)] 31 (0, 0))) ∧ Aside0 (Below w.heap.size w w'))
                  case atStart => exact ⟨(x8_3), (0), (by first | rfl | (simp; done) | (simp [*]; done)), H', ⟨Nat.le_refl _⟩, ⟨by (with_reducible repeat (first | apply Kd.S_alloc | apply Kd.S_drewN | apply Kd.S_drew)); exact HO_5.out⟩, ⟨by (with_reducible repeat (first | apply Kd.R_alloc | apply Kd.R_drewN | apply Kd.R_drew)); exact HO_8.out⟩, ⟨by (with_reducible repeat (first | apply Kd.R_alloc | apply Kd.R_drewN | apply Kd.R_drew)); exact HO_52.out⟩, ⟨by (with_reducible repeat (first | apply Kd.R_alloc | apply Kd.R_drewN | apply Kd.R_drew)); exact Kd.R_mono HL149_0.out (fun _ hk => hk.1)⟩, ⟨by (with_reducible repeat (first | refine blk_drewN ?_ _ | refine blk_drew ?_ | refine blk_alloc ?_ _)); exact BK130.out⟩, ⟨by repeat (first | (with_reducible first | exact HB.out | apply below_alloc | apply pw_below_drewN | apply below_drew1 | refine below_set ?_ GE130.out) | exact HB.out)⟩⟩
                  case round =>
                   clear H'
                   try clear c1
                   try clear p1
                   try clear q1
                   try clear hx1
                   try clear c2
                   try clear p2
                   try clear q2
                   try clear c3
                   try clear hx3
                   try clear hf3
                   try clear c4
                   try clear c5
                   try clear c6
                   try clear c6b0
                   try clear c6b1
                   try clear p6
                   try clear c12
                   try clear c13
                   try clear c13b0
                   try clear c13b1
                   try clear p13
                   try clear q13
                   try clear hx13
                   try clear c14
                   try clear c14b0
                   try clear c14b1
                   try clear p14
                   try clear q14
                   try clear hx14
                   try clear c19
                   try clear c19b0
                   try clear c20
                   try clear c20b0
                   try clear c21
                   try clear c21b0
                   try clear c22
                   try clear c22b0
                   try clear c23
                   try clear c23b0
                   try clear c24
                   try clear p25
                   try clear q25
                   try clear c27
                   try clear c32
                   try clear c34
                   try clear hx34
                   try clear hf34
                   try clear c37
                   try clear c37b0
                   try clear c37b1
                   try clear c38
                   try clear c38b0
                   try clear c38b1
                   try clear c40
                   try clear c46
                   try clear c46b0
                   try clear c47
                   try clear c47b0
                   try clear c48
                   try clear c48b0
                   try clear c49
                   try clear c49b0
                   try clear c50
                   try clear c50b0
                   try clear hcz10_0
                   try clear hcz10_1
                   try clear hcz15_0
                   try clear hcz15_1
                   try clear hcz18_0
                   try clear hcz18_1
                   try clear hcz28_0
                   try clear hcz28_1
                   try clear hcz40_0
                   try clear hcz40_1
                   try clear hcz43_0
                   try clear hcz43_1
                   try clear hcz7_0
                   try clear hcz7_1
                   try clear hcz9_0
                   try clear hcz9_1
                   try clear hfz10_0
                   try clear hfz10_1
                   try clear hfz15_0
                   try clear hfz15_1
                   try clear hfz18_0
                   try clear hfz18_1
                   try clear hfz28_0
                   try clear hfz28_1
                   try clear hfz40_0
                   try clear hfz40_1
                   try clear hfz43_0
                   try clear hfz43_1
                   try clear hfz7_0
                   try clear hfz7_1
                   try clear hfz9_0
                   try clear hfz9_1
                   try clear hx135_0
                   try clear hx135_1
                   try clear hx137_0
                   try clear hx148_0
                   try clear hx149_0
                   try clear hx34_0
                   try clear p1
                   try clear p13
                   try clear p135
                   try clear p137
                   try clear p148
                   try clear p149
                   try clear p2
                   try clear p25
                   try clear p6
                   try clear q1
                   try clear q13
                   try clear q135
                   try clear q137
                   try clear q148
                   try clear q149
                   try clear q2
                   try clear q25
                   obtain ⟨x8_4, x63_4, rfl, HA, HK4, HO_5, HO_8, HO_52, HO_61, BK130, HB⟩ := hrel
                   cases gk with
                   | zero => exact absurd HA.out (by simp [route_Inhibited.l2])
                   | succ k4 =>
                    have H := HA.out
                    clear HA
                    simp only [route_Inhibited.l2] at H
                    by_cases c52 : x63_4 < ((rd_L4 x5_2 (rd t145 x54_3)).length : Int)
                    ·rw [if_pos c52] at H
                     have c52b0 : decide (x63_4 < ((rd_L4 x5_2 (rd t145 x54_3)).length : Int)) = true := decide_eq_true c52
                     clear c52
                     by_cases c53 : 0 ≤ x63_4
                     ·rw [if_pos c53] at H
                      have c53b0 : decide (0 ≤ x63_4) = true := decide_eq_true c53
                      clear c53
                      by_cases c54 : x63_4 < ((rd_L4 x5_2 (rd t145 x54_3)).length : Int)
                      ·rw [if_pos c54] at H
                       have c54b0 : decide (x63_4 < ((rd_L4 x5_2 (rd t145 x54_3)).length : Int)) = true := decide_eq_true c54
                       clear c54
                       by_cases c55 : 0 ≤ (rd (rd_L4 x5_2 (rd t145 x54_3)) x63_4)
                       ·rw [if_pos c55] at H
                        have c55b0 : decide (0 ≤ (rd (rd_L4 x5_2 (rd t145 x54_3)) x63_4)) = true := decide_eq_true c55
                        clear c55
                        by_cases c56 : (rd (rd_L4 x5_2 (rd t145 x54_3)) x63_4) < (x8_4.length : Int)
                        ·rw [if_pos c56] at H
                         have c56b0 : decide ((rd (rd_L4 x5_2 (rd t145 x54_3)) x63_4) < (x8_4.length : Int)) = true := decide_eq_true c56
                         clear c56
                         obtain ⟨bq57, hbq57⟩ : ∃ b_ : Bool, b_ = (rdOf false x8_4 (rd (rd_L4 x5_2 (rd t145 x54_3)) x63_4)) := ⟨_, rfl⟩
                         replace H : (if bq57 = true then (route_Inhibited.l2 k4 l1 x5_2 (x8_4.set ((rd (rd_L4 x5_2 (rd t145 x54_3)) x63_4) : Int).toNat true) (rd t145 x54_3) t145 (t145.length : Int) x54_3 (rd_L4 x5_2 (rd t145 x54_3)) ((rd_L4 x5_2 (rd t145 x54_3)).length : Int) (wrap64 (x63_4 + 1)) a0_0 l0_1) else (if 0 ≤ (rd t145 x54_3) then (if (rd t145 x54_3) < (x8_4.length : Int) then (if rdOf false x8_4 (rd t145 x54_3) = true then (route_Inhibited.l2 k4 l1 x5_2 (x8_4.set ((rd (rd_L4 x5_2 (rd t145 x54_3)) x63_4) : Int).toNat true) (rd t145 x54_3) t145 (t145.length : Int) x54_3 (rd_L4 x5_2 (rd t145 x54_3)) ((rd_L4 x5_2 (rd t145 x54_3)).length : Int) (wrap64 (x63_4 + 1)) a0_0 l0_1) else (if (rd t145 x54_3) < (l1.length : Int) then (route_Inhibited.l2 k4 l1 x5_2 (x8_4.set ((rd (rd_L4 x5_2 (rd t145 x54_3)) x63_4) : Int).toNat (rdOf false l1 (rd t145 x54_3))) (rd t145 x54_3) t145 (t145.length : Int) x54_3 (rd_L4 x5_2 (rd t145 x54_3)) ((rd_L4 x5_2 (rd t145 x54_3)).length : Int) (wrap64 (x63_4 + 1)) a0_0 l0_1) else (none))) else (none)) else (none))) = some r := by rw [← hbq57] at H; exact H
                         have Nbq57 := Aside0.mk hbq57
                         clear hbq57
                         by_cases c58 : bq57 = true
                         ·subst c58
                          have H1 : (route_Inhibited.l2 k4 l1 x5_2 (x8_4.set ((rd (rd_L4 x5_2 (rd t145 x54_3)) x63_4) : Int).toNat true) (rd t145 x54_3) t145 (t145.length : Int) x54_3 (rd_L4 x5_2 (rd t145 x54_3)) ((rd_L4 x5_2 (rd t145 x54_3)).length : Int) (wrap64 (x63_4 + 1)) a0_0 l0_1) = some r := by rw [if_pos rfl] at H; exact H
                          clear H
                          have H := H1
                          clear H1
                          obtain ⟨y152, hy152⟩ : ∃ y_ : List Bool, y_ = (x8_4.set ((rd (rd_L4 x5_2 (rd t145 x54_3)) x63_4) : Int).toNat true) := ⟨_, rfl⟩
                          replace H : (route_Inhibited.l2 k4 l1 x5_2 y152 (rd t145 x54_3) t145 (t145.length : Int) x54_3 (rd_L4 x5_2 (rd t145 x54_3)) ((rd_L4 x5_2 (rd t145 x54_3)).length : Int) (wrap64 (x63_4 + 1)) a0_0 l0_1) = some r := by first | (rw [hy152]; with_reducible exact H) | (have H2_ := (Option.bind_some _ _).symm.trans H; rw [hy152]; with_reducible exact H2_) | (have H2_ := (Option.bind_some _ _).symm.trans H; with_reducible exact H2_) | with_reducible exact H | (rw [hy152]; exact H) | exact H
                          have Ny152 := Aside0.mk hy152
                          clear hy152
                          have H' := Aside0.mk H
                          clear H
                          have p150 : 0 ≤ (x63_4 : Int) := of_decide_eq_true (by first | (with_reducible assumption) | assumption)
                          have q150 : x63_4 < ((rd_L4 x5_2 (rd t145 x54_3)).length : Int) := of_decide_eq_true (by first | (with_reducible assumption) | assumption)
                          try (obtain ⟨Az150_, cz150_, ez150_⟩ := Kd.R_slice HO_61.out; subst ez150_)
                          obtain ⟨ad150, e150, hx150_0⟩ := Kd.at_int (Kd.R_reads' HO_61.out).2.2 x63_4 p150 q150
                          cases e150
                          replace p150 := eq_true p150
                          replace q150 := eq_true q150
                          obtain ⟨Ao60, co60, eo60⟩ := Kd.R_slice HO_8.out
                          subst eo60
                          have p151 : 0 ≤ ((rd (rd_L4 x5_2 (rd t145 x54_3)) x63_4) : Int) := of_decide_eq_true (by first | (with_reducible assumption) | assumption)
                          have q151 : (rd (rd_L4 x5_2 (rd t145 x54_3)) x63_4) < (x8_4.length : Int) := of_decide_eq_true (by first | (with_reducible assumption) | assumption)
                          try (obtain ⟨Az151_, cz151_, ez151_⟩ := Kd.R_slice HO_8.out; subst ez151_)
                          obtain ⟨ad151, e151, hx151_0⟩ := Kd.at_bool (Kd.R_reads' HO_8.out).2.2 (rd (rd_L4 x5_2 (rd t145 x54_3)) x63_4) p151 q151
                          (try rw [← Nbq57.out] at hx151_0)
                          cases e151
                          replace p151 := eq_true p151
                          replace q151 := eq_true q151
                          have p59 : 0 ≤ ((rd (rd_L4 x5_2 (rd t145 x54_3)) x63_4) : Int) := of_decide_eq_true (by first | (with_reducible assumption) | assumption)
                          have q59 : ((rd (rd_L4 x5_2 (rd t145 x54_3)) x63_4) : Int) < ((x8_4.length : Int) : Int) := of_decide_eq_true (by first | (with_reducible assumption) | assumption)
                          obtain ⟨go59, co59, eo59, gb59, gl59, cl59, HG59⟩ := Kd.R_form HO_8.out (by omega)
                          (first | cases eo59 | (injection eo59 with ea_ en_ ec_; (first | subst ea_ | (injection ea_ with ea_; subst ea_)); subst ec_; clear en_))
                          have GB59 := Aside0.mk gb59
                          have GG59 := Aside0.mk HG59
                          clear gb59 gl59 HG59
                          (first | simp only [add_plain] at hx151_0 | skip)
                          obtain ⟨hx59_0, hf59_0⟩ := Kd.R_celln false HO_8.out ((rd (rd_L4 x5_2 (rd t145 x54_3)) x63_4) : Int) p59 q59
                          replace p59 := eq_true p59
                          replace q59 := eq_true q59
                          have HP61 := Kd.R_putg HO_8.out ((rd (rd_L4 x5_2 (rd t145 x54_3)) x63_4) : Int) true
                          go_wp2_with (first | ((with_reducible refine gate_store (t := 4) (p := 85) rfl ?_); refine store_event (t := 4) (p := 85) (v := ?vo_w62) (w1 := (wr.setCell ⟨go59, ((rd (rd_L4 x5_2 (rd t145 x54_3)) x63_4) : Int).toNat, none⟩ (.bool true))) ?hg ?ho ?hn ?hr ?_; (case ho => rfl); (case hg => rfl); (case hn => rfl); (case hr => first | (go_simp; done) | (go_simp; rfl)); intro w62 hw; have hg : wr.grownBy w62 (some go59) := (by rw [hw]; exact HP61.2); have hp_ : Kd.R Kd.bool 4 w62 w.heap.size (fun _ => True) (.slice (some ⟨go59, 0, none⟩) x8_4.length co60) y152 := (by rw [hw, Ny152.out]; exact HP61.1); clear HP61; have n0_ := Aside0.mk (Kd.S_over' (v := (.slice (some ⟨go59, 0, none⟩) x8_4.length co60)) (sq HO_5) (Kd.R_typed HO_8.out) (by decide) hg); have n1_ := Aside0.mk (hp_); have n2_ := Aside0.mk (Kd.R_over' (v := (.slice (some ⟨go59, 0, none⟩) x8_4.length co60)) (rq HO_52) (Kd.R_typed HO_8.out) (by decide) hg); have n3_ := Aside0.mk (Kd.R_over' (v := (.slice (some ⟨go59, 0, none⟩) x8_4.length co60)) (rq HO_61) (Kd.R_typed HO_8.out) (by decide) hg); have n4_ := Aside0.mk (blk_grown (g := gb130) (o := .cells #[.int .i64 a0_0, .slice A0_1 l0_1.length c0_1] 31 (0, 0)) (bq BK130) hg (Kd.R_ne HO_8.out BK130.out (by decide))); have n5_ := Aside0.mk ((by rw [hw]; exact below_set (HB.out) GB59.out : Below w.heap.size w w62)); clear HO_5; clear HO_8; clear HO_52; clear HO_61; clear BK130; clear HB; have HO_5 := n0_; have HO_8 := n1_; have HO_52 := n2_; have HO_61 := n3_; have BK130 := n4_; have HB := n5_; clear n0_ n1_ n2_ n3_ n4_ n5_; clear hg hw hp_))
                          go_roundg k4
                          case measure => have := HJ2.out; have := HK2.out; have := HK3.out; have := HK4.out; omega
                          case rel => exact ⟨(y152), (wrap64 (x63_4 + 1)), (by first | rfl | (simp; done) | (simp [*]; done)), H', ⟨by have := HJ2.out; have := HK2.out; have := HK3.out; have := HK4.out; omega⟩, ⟨by (with_reducible repeat (first | apply Kd.S_alloc | apply Kd.S_drewN | apply Kd.S_drew)); exact HO_5.out⟩, ⟨by (with_reducible repeat (first | apply Kd.R_alloc | apply Kd.R_drewN | apply Kd.R_drew)); exact HO_8.out⟩, ⟨by (with_reducible repeat (first | apply Kd.R_alloc | apply Kd.R_drewN | apply Kd.R_drew)); exact HO_52.out⟩, ⟨by (with_reducible repeat (first | apply Kd.R_alloc | apply Kd.R_drewN | apply Kd.R_drew)); exact HO_61.out⟩, ⟨by (with_reducible repeat (first | refine blk_drewN ?_ _ | refine blk_drew ?_ | refine blk_alloc ?_ _)); exact BK130.out⟩, ⟨by repeat (first | (with_reducible first | exact HB.out | apply below_alloc | apply pw_below_drewN | apply below_drew1 | refine below_set ?_ GE130.out) | exact HB.out)⟩⟩
                         ·replace c58 := Bool.eq_false_iff.mpr c58
                          subst c58
                          have H1 : (if 0 ≤ (rd t145 x54_3) then (if (rd t145 x54_3) < (x8_4.length : Int) then (if rdOf false x8_4 (rd t145 x54_3) = true then (route_Inhibited.l2 k4 l1 x5_2 (x8_4.set ((rd (rd_L4 x5_2 (rd t145 x54_3)) x63_4) : Int).toNat true) (rd t145 x54_3) t145 (t145.length : Int) x54_3 (rd_L4 x5_2 (rd t145 x54_3)) ((rd_L4 x5_2 (rd t145 x54_3)).length : Int) (wrap64 (x63_4 + 1)) a0_0 l0_1) else (if (rd t145 x54_3) < (l1.length : Int) then (route_Inhibited.l2 k4 l1 x5_2 (x8_4.set ((rd (rd_L4 x5_2 (rd t145 x54_3)) x63_4) : Int).toNat (rdOf false l1 (rd t145 x54_3))) (rd t145 x54_3) t145 (t145.length : Int) x54_3 (rd_L4 x5_2 (rd t145 x54_3)) ((rd_L4 x5_2 (rd t145 x54_3)).length : Int) (wrap64 (x63_4 + 1)) a0_0 l0_1) else (none))) else (none)) else (none)) = some r := by rw [if_neg (show ¬ (false = true) by decide)] at H; exact H
                          clear H
                          have H := H1
                          clear H1
                          by_cases c63 : 0 ≤ (rd t145 x54_3)
                          ·rw [if_pos c63] at H
                           have c63b0 : decide (0 ≤ (rd t145 x54_3)) = true := decide_eq_true c63
                           clear c63
                           by_cases c64 : (rd t145 x54_3) < (x8_4.length : Int)
                           ·rw [if_pos c64] at H
                            have c64b0 : decide ((rd t145 x54_3) < (x8_4.length : Int)) = true := decide_eq_true c64
                            clear c64
                            obtain ⟨bq65, hbq65⟩ : ∃ b_ : Bool, b_ = (rdOf false x8_4 (rd t145 x54_3)) := ⟨_, rfl⟩
                            replace H : (if bq65 = true then (route_Inhibited.l2 k4 l1 x5_2 (x8_4.set ((rd (rd_L4 x5_2 (rd t145 x54_3)) x63_4) : Int).toNat true) (rd t145 x54_3) t145 (t145.length : Int) x54_3 (rd_L4 x5_2 (rd t145 x54_3)) ((rd_L4 x5_2 (rd t145 x54_3)).length : Int) (wrap64 (x63_4 + 1)) a0_0 l0_1) else (if (rd t145 x54_3) < (l1.length : Int) then (route_Inhibited.l2 k4 l1 x5_2 (x8_4.set ((rd (rd_L4 x5_2 (rd t145 x54_3)) x63_4) : Int).toNat (rdOf false l1 (rd t145 x54_3))) (rd t145 x54_3) t145 (t145.length : Int) x54_3 (rd_L4 x5_2 (rd t145 x54_3)) ((rd_L4 x5_2 (rd t145 x54_3)).length : Int) (wrap64 (x63_4 + 1)) a0_0 l0_1) else (none))) = some r := by rw [← hbq65] at H; exact H
                            have Nbq65 := Aside0.mk hbq65
                            clear hbq65
                            by_cases c66 : bq65 = true
                            ·subst c66
                             have H1 : (route_Inhibited.l2 k4 l1 x5_2 (x8_4.set ((rd (rd_L4 x5_2 (rd t145 x54_3)) x63_4) : Int).toNat true) (rd t145 x54_3) t145 (t145.length : Int) x54_3 (rd_L4 x5_2 (rd t145 x54_3)) ((rd_L4 x5_2 (rd t145 x54_3)).length : Int) (wrap64 (x63_4 + 1)) a0_0 l0_1) = some r := by rw [if_pos rfl] at H; exact H
                             clear H
                             have H := H1
                             clear H1
                             obtain ⟨y154, hy154⟩ : ∃ y_ : List Bool, y_ = (x8_4.set ((rd (rd_L4 x5_2 (rd t145 x54_3)) x63_4) : Int).toNat true) := ⟨_, rfl⟩
                             replace H : (route_Inhibited.l2 k4 l1 x5_2 y154 (rd t145 x54_3) t145 (t145.length : Int) x54_3 (rd_L4 x5_2 (rd t145 x54_3)) ((rd_L4 x5_2 (rd t145 x54_3)).length : Int) (wrap64 (x63_4 + 1)) a0_0 l0_1) = some r := by first | (rw [hy154]; with_reducible exact H) | (have H2_ := (Option.bind_some _ _).symm.trans H; rw [hy154]; with_reducible exact H2_) | (have H2_ := (Option.bind_some _ _).symm.trans H; with_reducible exact H2_) | with_reducible exact H | (rw [hy154]; exact H) | exact H
                             have Ny154 := Aside0.mk hy154
                             clear hy154
                             have H' := Aside0.mk H
                             clear H
                             have p150 : 0 ≤ (x63_4 : Int) := of_decide_eq_true (by first | (with_reducible assumption) | assumption)
                             have q150 : x63_4 < ((rd_L4 x5_2 (rd t145 x54_3)).length : Int) := of_decide_eq_true (by first | (with_reducible assumption) | assumption)
                             try (obtain ⟨Az150_, cz150_, ez150_⟩ := Kd.R_slice HO_61.out; subst ez150_)
                             obtain ⟨ad150, e150, hx150_0⟩ := Kd.at_int (Kd.R_reads' HO_61.out).2.2 x63_4 p150 q150
                             cases e150
                             replace p150 := eq_true p150
                             replace q150 := eq_true q150
                             obtain ⟨Ao68, co68, eo68⟩ := Kd.R_slice HO_8.out
                             subst eo68
                             have p151 : 0 ≤ ((rd (rd_L4 x5_2 (rd t145 x54_3)) x63_4) : Int) := of_decide_eq_true (by first | (with_reducible assumption) | assumption)
                             have q151 : (rd (rd_L4 x5_2 (rd t145 x54_3)) x63_4) < (x8_4.length : Int) := of_decide_eq_true (by first | (with_reducible assumption) | assumption)
                             try (obtain ⟨Az151_, cz151_, ez151_⟩ := Kd.R_slice HO_8.out; subst ez151_)
                             obtain ⟨ad151, e151, hx151_0⟩ := Kd.at_bool (Kd.R_reads' HO_8.out).2.2 (rd (rd_L4 x5_2 (rd t145 x54_3)) x63_4) p151 q151
                             (try rw [← Nbq57.out] at hx151_0)
                             (try rw [← Nbq65.out] at hx151_0)
                             cases e151
                             replace p151 := eq_true p151
                             replace q151 := eq_true q151
                             have p153 : 0 ≤ ((rd t145 x54_3) : Int) := of_decide_eq_true (by first | (with_reducible assumption) | assumption)
                             have q153 : (rd t145 x54_3) < (x8_4.length : Int) := of_decide_eq_true (by first | (with_reducible assumption) | assumption)
                             try (obtain ⟨Az153_, cz153_, ez153_⟩ := Kd.R_slice HO_8.out; subst ez153_)
                             obtain ⟨ad153, e153, hx153_0⟩ := Kd.at_bool (Kd.R_reads' HO_8.out).2.2 (rd t145 x54_3) p153 q153
                             (try rw [← Nbq57.out] at hx153_0)
                             (try rw [← Nbq65.out] at hx153_0)
                             obtain rfl : ad151 = ad153 := (by injection e153)
                             replace p153 := eq_true p153
                             replace q153 := eq_true q153
                             have p67 : 0 ≤ ((rd (rd_L4 x5_2 (rd t145 x54_3)) x63_4) : Int) := of_decide_eq_true (by first | (with_reducible assumption) | assumption)
                             have q67 : ((rd (rd_L4 x5_2 (rd t145 x54_3)) x63_4) : Int) < ((x8_4.length : Int) : Int) := of_decide_eq_true (by first | (with_reducible assumption) | assumption)
                             obtain ⟨go67, co67, eo67, gb67, gl67, cl67, HG67⟩ := Kd.R_form HO_8.out (by omega)
                             (first | cases eo67 | (injection eo67 with ea_ en_ ec_; (first | subst ea_ | (injection ea_ with ea_; subst ea_)); subst ec_; clear en_))
                             have GB67 := Aside0.mk gb67
                             have GG67 := Aside0.mk HG67
                             clear gb67 gl67 HG67
                             (first | simp only [add_plain] at hx151_0 | skip)
                             (first | simp only [add_plain] at hx153_0 | skip)
                             obtain ⟨hx67_0, hf67_0⟩ := Kd.R_celln false HO_8.out ((rd (rd_L4 x5_2 (rd t145 x54_3)) x63_4) : Int) p67 q67
                             replace p67 := eq_true p67
                             replace q67 := eq_true q67
                             have HP69 := Kd.R_putg HO_8.out ((rd (rd_L4 x5_2 (rd t145 x54_3)) x63_4) : Int) true
                             go_wp2_with (first | ((with_reducible refine gate_store (t := 4) (p := 85) rfl ?_); refine store_event (t := 4) (p := 85) (v := ?vo_w70) (w1 := (wr.setCell ⟨go67, ((rd (rd_L4 x5_2 (rd t145 x54_3)) x63_4) : Int).toNat, none⟩ (.bool true))) ?hg ?ho ?hn ?hr ?_; (case ho => rfl); (case hg => rfl); (case hn => rfl); (case hr => first | (go_simp; done) | (go_simp; rfl)); intro w70 hw; have hg : wr.grownBy w70 (some go67) := (by rw [hw]; exact HP69.2); have hp_ : Kd.R Kd.bool 4 w70 w.heap.size (fun _ => True) (.slice (some ⟨go67, 0, none⟩) x8_4.length co68) y154 := (by rw [hw, Ny154.out]; exact HP69.1); clear HP69; have n0_ := Aside0.mk (Kd.S_over' (v := (.slice (some ⟨go67, 0, none⟩) x8_4.length co68)) (sq HO_5) (Kd.R_typed HO_8.out) (by decide) hg); have n1_ := Aside0.mk (hp_); have n2_ := Aside0.mk (Kd.R_over' (v := (.slice (some ⟨go67, 0, none⟩) x8_4.length co68)) (rq HO_52) (Kd.R_typed HO_8.out) (by decide) hg); have n3_ := Aside0.mk (Kd.R_over' (v := (.slice (some ⟨go67, 0, none⟩) x8_4.length co68)) (rq HO_61) (Kd.R_typed HO_8.out) (by decide) hg); have n4_ := Aside0.mk (blk_grown (g := gb130) (o := .cells #[.int .i64 a0_0, .slice A0_1 l0_1.length c0_1] 31 (0, 0)) (bq BK130) hg (Kd.R_ne HO_8.out BK130.out (by decide))); have n5_ := Aside0.mk ((by rw [hw]; exact below_set (HB.out) GB67.out : Below w.heap.size w w70)); clear HO_5; clear HO_8; clear HO_52; clear HO_61; clear BK130; clear HB; have HO_5 := n0_; have HO_8 := n1_; have HO_52 := n2_; have HO_61 := n3_; have BK130 := n4_; have HB := n5_; clear n0_ n1_ n2_ n3_ n4_ n5_; clear hg hw hp_))
                             go_roundg k4
                             case measure => have := HJ2.out; have := HK2.out; have := HK3.out; have := HK4.out; omega
                             case rel => exact ⟨(y154), (wrap64 (x63_4 + 1)), (by first | rfl | (simp; done) | (simp [*]; done)), H', ⟨by have := HJ2.out; have := HK2.out; have := HK3.out; have := HK4.out; omega⟩, ⟨by (with_reducible repeat (first | apply Kd.S_alloc | apply Kd.S_drewN | apply Kd.S_drew)); exact HO_5.out⟩, ⟨by (with_reducible repeat (first | apply Kd.R_alloc | apply Kd.R_drewN | apply Kd.R_drew)); exact HO_8.out⟩, ⟨by (with_reducible repeat (first | apply Kd.R_alloc | apply Kd.R_drewN | apply Kd.R_drew)); exact HO_52.out⟩, ⟨by (with_reducible repeat (first | apply Kd.R_alloc | apply Kd.R_drewN | apply Kd.R_drew)); exact HO_61.out⟩, ⟨by (with_reducible repeat (first | refine blk_drewN ?_ _ | refine blk_drew ?_ | refine blk_alloc ?_ _)); exact BK130.out⟩, ⟨by repeat (first | (with_reducible first | exact HB.out | apply below_alloc | apply pw_below_drewN | apply below_drew1 | refine below_set ?_ GE130.out) | exact HB.out)⟩⟩
                            ·replace c66 := Bool.eq_false_iff.mpr c66
                             subst c66
                             have H1 : (if (rd t145 x54_3) < (l1.length : Int) then (route_Inhibited.l2 k4 l1 x5_2 (x8_4.set ((rd (rd_L4 x5_2 (rd t145 x54_3)) x63_4) : Int).toNat (rdOf false l1 (rd t145 x54_3))) (rd t145 x54_3) t145 (t145.length : Int) x54_3 (rd_L4 x5_2 (rd t145 x54_3)) ((rd_L4 x5_2 (rd t145 x54_3)).length : Int) (wrap64 (x63_4 + 1)) a0_0 l0_1) else (none)) = some r := by rw [if_neg (show ¬ (false = true) by decide)] at H; exact H
                             clear H
                             have H := H1
                             clear H1
                             by_cases c71 : (rd t145 x54_3) < (l1.length : Int)
                             ·rw [if_pos c71] at H
                              have c71b0 : decide ((rd t145 x54_3) < (l1.length : Int)) = true := decide_eq_true c71
                              clear c71
                              obtain ⟨y156, hy156⟩ : ∃ y_ : List Bool, y_ = (x8_4.set ((rd (rd_L4 x5_2 (rd t145 x54_3)) x63_4) : Int).toNat (rdOf false l1 (rd t145 x54_3))) := ⟨_, rfl⟩
                              replace H : (route_Inhibited.l2 k4 l1 x5_2 y156 (rd t145 x54_3) t145 (t145.length : Int) x54_3 (rd_L4 x5_2 (rd t145 x54_3)) ((rd_L4 x5_2 (rd t145 x54_3)).length : Int) (wrap64 (x63_4 + 1)) a0_0 l0_1) = some r := by first | (rw [hy156]; with_reducible exact H) | (have H2_ := (Option.bind_some _ _).symm.trans H; rw [hy156]; with_reducible exact H2_) | (have H2_ := (Option.bind_some _ _).symm.trans H; with_reducible exact H2_) | with_reducible exact H | (rw [hy156]; exact H) | exact H
                              have Ny156 := Aside0.mk hy156
                              clear hy156
                              have H' := Aside0.mk H
                              clear H
                              have p150 : 0 ≤ (x63_4 : Int) := of_decide_eq_true (by first | (with_reducible assumption) | assumption)
                              have q150 : x63_4 < ((rd_L4 x5_2 (rd t145 x54_3)).length : Int) := of_decide_eq_true (by first | (with_reducible assumption) | assumption)
                              try (obtain ⟨Az150_, cz150_, ez150_⟩ := Kd.R_slice HO_61.out; subst ez150_)
                              obtain ⟨ad150, e150, hx150_0⟩ := Kd.at_int (Kd.R_reads' HO_61.out).2.2 x63_4 p150 q150
                              cases e150
                              replace p150 := eq_true p150
                              replace q150 := eq_true q150
                              obtain ⟨Ao73, co73, eo73⟩ := Kd.R_slice HO_8.out
                              subst eo73
                              have p151 : 0 ≤ ((rd (rd_L4 x5_2 (rd t145 x54_3)) x63_4) : Int) := of_decide_eq_true (by first | (with_reducible assumption) | assumption)
                              have q151 : (rd (rd_L4 x5_2 (rd t145 x54_3)) x63_4) < (x8_4.length : Int) := of_decide_eq_true (by first | (with_reducible assumption) | assumption)
                              try (obtain ⟨Az151_, cz151_, ez151_⟩ := Kd.R_slice HO_8.out; subst ez151_)
                              obtain ⟨ad151, e151, hx151_0⟩ := Kd.at_bool (Kd.R_reads' HO_8.out).2.2 (rd (rd_L4 x5_2 (rd t145 x54_3)) x63_4) p151 q151
                              (try rw [← Nbq57.out] at hx151_0)
                              (try rw [← Nbq65.out] at hx151_0)
                              cases e151
                              replace p151 := eq_true p151
                              replace q151 := eq_true q151
                              have p153 : 0 ≤ ((rd t145 x54_3) : Int) := of_decide_eq_true (by first | (with_reducible assumption) | assumption)
                              have q153 : (rd t145 x54_3) < (x8_4.length : Int) := of_decide_eq_true (by first | (with_reducible assumption) | assumption)
                              try (obtain ⟨Az153_, cz153_, ez153_⟩ := Kd.R_slice HO_8.out; subst ez153_)
                              obtain ⟨ad153, e153, hx153_0⟩ := Kd.at_bool (Kd.R_reads' HO_8.out).2.2 (rd t145 x54_3) p153 q153
                              (try rw [← Nbq57.out] at hx153_0)
                              (try rw [← Nbq65.out] at hx153_0)
                              obtain rfl : ad151 = ad153 := (by injection e153)
                              replace p153 := eq_true p153
                              replace q153 := eq_true q153
                              have p155 : 0 ≤ ((rd t145 x54_3) : Int) := of_decide_eq_true (by first | (with_reducible assumption) | assumption)
                              have q155 : (rd t145 x54_3) < (l1.length : Int) := of_decide_eq_true (by first | (with_reducible assumption) | assumption)
                              obtain ⟨ad155, e155, hx155_0⟩ := Kd.at_bool HR1.out (rd t145 x54_3) p155 q155
                              (try rw [← Nbq57.out] at hx155_0)
                              (try rw [← Nbq65.out] at hx155_0)
                              cases e155
                              (try replace hx155_0 := (HB.out.cell (World.block_lt_of_cell? w _ hx155_0)).trans hx155_0)
                              replace p155 := eq_true p155
                              replace q155 := eq_true q155
                              have p72 : 0 ≤ ((rd (rd_L4 x5_2 (rd t145 x54_3)) x63_4) : Int) := of_decide_eq_true (by first | (with_reducible assumption) | assumption)
                              have q72 : ((rd (rd_L4 x5_2 (rd t145 x54_3)) x63_4) : Int) < ((x8_4.length : Int) : Int) := of_decide_eq_true (by first | (with_reducible assumption) | assumption)
                              obtain ⟨go72, co72, eo72, gb72, gl72, cl72, HG72⟩ := Kd.R_form HO_8.out (by omega)
                              (first | cases eo72 | (injection eo72 with ea_ en_ ec_; (first | subst ea_ | (injection ea_ with ea_; subst ea_)); subst ec_; clear en_))
                              have GB72 := Aside0.mk gb72
                              have GG72 := Aside0.mk HG72
                              clear gb72 gl72 HG72
                              (first | simp only [add_plain] at hx151_0 | skip)
                              (first | simp only [add_plain] at hx153_0 | skip)
                              obtain ⟨hx72_0, hf72_0⟩ := Kd.R_celln false HO_8.out ((rd (rd_L4 x5_2 (rd t145 x54_3)) x63_4) : Int) p72 q72
                              replace p72 := eq_true p72
                              replace q72 := eq_true q72
                              have HP74 := Kd.R_putg HO_8.out ((rd (rd_L4 x5_2 (rd t145 x54_3)) x63_4) : Int) (rdOf false l1 (rd t145 x54_3))
                              go_wp2_with (first | ((with_reducible refine gate_store (t := 4) (p := 85) rfl ?_); refine store_event (t := 4) (p := 85) (v := ?vo_w75) (w1 := (wr.setCell ⟨go72, ((rd (rd_L4 x5_2 (rd t145 x54_3)) x63_4) : Int).toNat, none⟩ (.bool (rdOf false l1 (rd t145 x54_3))))) ?hg ?ho ?hn ?hr ?_; (case ho => rfl); (case hg => rfl); (case hn => rfl); (case hr => first | (go_simp; done) | (go_simp; rfl)); intro w75 hw; have hg : wr.grownBy w75 (some go72) := (by rw [hw]; exact HP74.2); have hp_ : Kd.R Kd.bool 4 w75 w.heap.size (fun _ => True) (.slice (some ⟨go72, 0, none⟩) x8_4.length co73) y156 := (by rw [hw, Ny156.out]; exact HP74.1); clear HP74; have n0_ := Aside0.mk (Kd.S_over' (v := (.slice (some ⟨go72, 0, none⟩) x8_4.length co73)) (sq HO_5) (Kd.R_typed HO_8.out) (by decide) hg); have n1_ := Aside0.mk (hp_); have n2_ := Aside0.mk (Kd.R_over' (v := (.slice (some ⟨go72, 0, none⟩) x8_4.length co73)) (rq HO_52) (Kd.R_typed HO_8.out) (by decide) hg); have n3_ := Aside0.mk (Kd.R_over' (v := (.slice (some ⟨go72, 0, none⟩) x8_4.length co73)) (rq HO_61) (Kd.R_typed HO_8.out) (by decide) hg); have n4_ := Aside0.mk (blk_grown (g := gb130) (o := .cells #[.int .i64 a0_0, .slice A0_1 l0_1.length c0_1] 31 (0, 0)) (bq BK130) hg (Kd.R_ne HO_8.out BK130.out (by decide))); have n5_ := Aside0.mk ((by rw [hw]; exact below_set (HB.out) GB72.out : Below w.heap.size w w75)); clear HO_5; clear HO_8; clear HO_52; clear HO_61; clear BK130; clear HB; have HO_5 := n0_; have HO_8 := n1_; have HO_52 := n2_; have HO_61 := n3_; have BK130 := n4_; have HB := n5_; clear n0_ n1_ n2_ n3_ n4_ n5_; clear hg hw hp_))
                              go_roundg k4
                              case measure => have := HJ2.out; have := HK2.out; have := HK3.out; have := HK4.out; omega
                              case rel => exact ⟨(y156), (wrap64 (x63_4 + 1)), (by first | rfl | (simp; done) | (simp [*]; done)), H', ⟨by have := HJ2.out; have := HK2.out; have := HK3.out; have := HK4.out; omega⟩, ⟨by (with_reducible repeat (first | apply Kd.S_alloc | apply Kd.S_drewN | apply Kd.S_drew)); exact HO_5.out⟩, ⟨by (with_reducible repeat (first | apply Kd.R_alloc | apply Kd.R_drewN | apply Kd.R_drew)); exact HO_8.out⟩, ⟨by (with_reducible repeat (first | apply Kd.R_alloc | apply Kd.R_drewN | apply Kd.R_drew)); exact HO_52.out⟩, ⟨by (with_reducible repeat (first | apply Kd.R_alloc | apply Kd.R_drewN | apply Kd.R_drew)); exact HO_61.out⟩, ⟨by (with_reducible repeat (first | refine blk_drewN ?_ _ | refine blk_drew ?_ | refine blk_alloc ?_ _)); exact BK130.out⟩, ⟨by repeat (first | (with_reducible first | exact HB.out | apply below_alloc | apply pw_below_drewN | apply below_drew1 | refine below_set ?_ GE130.out) | exact HB.out)⟩⟩
                             ·rw [if_neg c71] at H
                              exact absurd H (by simp)
                           ·rw [if_neg c64] at H
                            exact absurd H (by simp)
                          ·rw [if_neg c63] at H
                           exact absurd H (by simp)
                        ·rw [if_neg c56] at H
                         exact absurd H (by simp)
                       ·rw [if_neg c55] at H
                        exact absurd H (by simp)
                      ·rw [if_neg c54] at H
                       exact absurd H (by simp)
                     ·rw [if_neg c53] at H
                      exact absurd H (by simp)
                    ·rw [if_neg c52] at H
                     have c52b0 : decide (x63_4 < ((rd_L4 x5_2 (rd t145 x54_3)).length : Int)) = false := decide_eq_false c52
                     clear c52
                     have H' := Aside0.mk H
                     clear H
                     go_wp2
                     go_roundg k4
                     case measure => have := HJ2.out; have := HK2.out; have := HK3.out; have := HK4.out; omega
                     case rel => exact ⟨(x8_4), (wrap64 (x54_3 + 1)), (by first | rfl | (simp; done) | (simp [*]; done)), H', ⟨by have := HJ2.out; have := HK2.out; have := HK3.out; have := HK4.out; omega⟩, ⟨by (with_reducible repeat (first | apply Kd.S_alloc | apply Kd.S_drewN | apply Kd.S_drew)); exact HO_5.out⟩, ⟨by (with_reducible repeat (first | apply Kd.R_alloc | apply Kd.R_drewN | apply Kd.R_drew)); exact HO_8.out⟩, ⟨by (with_reducible repeat (first | apply Kd.R_alloc | apply Kd.R_drewN | apply Kd.R_drew)); exact HO_52.out⟩, ⟨by (with_reducible repeat (first | refine blk_drewN ?_ _ | refine blk_drew ?_ | refine blk_alloc ?_ _)); exact BK130.out⟩, ⟨by repeat (first | (with_reducible first | exact HB.out | apply below_alloc | apply pw_below_drewN | apply below_drew1 | refine below_set ?_ GE130.out) | exact HB.out)⟩⟩
                 ·rw [if_neg c50] at H
                  exact absurd H (by simp)
                ·rw [if_neg c49] at H
                 exact absurd H (by simp)
               ·rw [if_neg c48] at H
                exact absurd H (by simp)
              ·rw [if_neg c47] at H
               exact absurd H (by simp)
             ·rw [if_neg c46] at H
              have c46b0 : decide (x54_3 < (t145.length : Int)) = false := decide_eq_false c46
              clear c46
              have H' := Aside0.mk H
              clear H
              have hcz76_0 : wr.cell? ⟨gb130, 0, none⟩ = some (.int .i64 a0_0) := (blk_cell BK130.out 0).trans rfl
              have hcz76_1 : wr.cell? ⟨gb130, 1, none⟩ = some (.slice A0_1 l0_1.length c0_1) := (blk_cell BK130.out 1).trans rfl
              have hfz76_0 := blk_frozen BK130.out 0
              have hfz76_1 := blk_frozen BK130.out 1
              go_wp2
              go_loopg [90] k3 (fun kq v90 w' => ∃ (x8_4 : List Bool) (x90_4 : Int), v90 = .int .i64 x90_4 ∧ Aside0 (route_Inhibited.l3 kq l1 x8_4 a0_0 x90_4 = some r) ∧ Aside0 (kq ≤ k3) ∧ Aside0 (Kd.R Kd.bool 4 w' w.heap.size (fun _ => True) v143 x8_4) ∧ Aside0 (w'.heap[gb130]? = some (.cells #[.int .i64 a0_0, (.slice A0_1 l0_1.length c0_1)] 31 (0, 0))) ∧ Aside0 (Below w.heap.size w w'))
              case atStart => exact ⟨(x8_3), (0), (by first | rfl | (simp; done) | (simp [*]; done)), H', ⟨Nat.le_refl _⟩, ⟨by (with_reducible repeat (first | apply Kd.R_alloc | apply Kd.R_drewN | apply Kd.R_drew)); exact HO_8.out⟩, ⟨by (with_reducible repeat (first | refine blk_drewN ?_ _ | refine blk_drew ?_ | refine blk_alloc ?_ _)); exact BK130.out⟩, ⟨by repeat (first | (with_reducible first | exact HB.out | apply below_alloc | apply pw_below_drewN | apply below_drew1 | refine below_set ?_ GE130.out) | exact HB.out)⟩⟩
              case round =>
               clear H'
               try clear c1
               try clear p1
               try clear q1
               try clear hx1
               try clear c2
               try clear p2
               try clear q2
               try clear c3
               try clear hx3
               try clear hf3
               try clear c4
               try clear c5
               try clear p5
               try clear q5
               try clear hx5
               try clear hf5
               try clear c6
               try clear c6b0
               try clear c6b1
               try clear p6
               try clear q6
               try clear hx6
               try clear hf6
               try clear c7
               try clear p7
               try clear q7
               try clear hx7
               try clear hf7
               try clear c12
               try clear c13
               try clear c13b0
               try clear c13b1
               try clear p13
               try clear q13
               try clear hx13
               try clear c14
               try clear c14b0
               try clear c14b1
               try clear p14
               try clear q14
               try clear hx14
               try clear p15
               try clear q15
               try clear hx15
               try clear c19
               try clear c19b0
               try clear c20
               try clear c20b0
               try clear c21
               try clear c21b0
               try clear c22
               try clear c22b0
               try clear c23
               try clear c23b0
               try clear c24
               try clear p25
               try clear q25
               try clear c27
               try clear c32
               try clear c34
               try clear hx34
               try clear hf34
               try clear c37
               try clear c37b0
               try clear c37b1
               try clear c38
               try clear c38b0
               try clear c38b1
               try clear c40
               try clear c46
               try clear c46b0
               try clear c47
               try clear c47b0
               try clear c48
               try clear c48b0
               try clear c49
               try clear c49b0
               try clear c50
               try clear c50b0
               try clear c52
               try clear c52b0
               try clear c53
               try clear c53b0
               try clear c54
               try clear c54b0
               try clear c55
               try clear c55b0
               try clear c56
               try clear c56b0
               try clear q57
               try clear c58
               try clear p59
               try clear q59
               try clear hx59
               try clear hf59
               try clear c63
               try clear c63b0
               try clear c64
               try clear c64b0
               try clear p64
               try clear q65
               try clear c66
               try clear p67
               try clear q67
               try clear hx67
               try clear hf67
               try clear c71
               try clear c71b0
               try clear p72
               try clear q72
               try clear hx72
               try clear hf72
               try clear hcz10_0
               try clear hcz10_1
               try clear hcz15_0
               try clear hcz15_1
               try clear hcz18_0
               try clear hcz18_1
               try clear hcz28_0
               try clear hcz28_1
               try clear hcz40_0
               try clear hcz40_1
               try clear hcz43_0
               try clear hcz43_1
               try clear hcz76_0
               try clear hcz76_1
               try clear hcz7_0
               try clear hcz7_1
               try clear hcz9_0
               try clear hcz9_1
               try clear hfz10_0
               try clear hfz10_1
               try clear hfz15_0
               try clear hfz15_1
               try clear hfz18_0
               try clear hfz18_1
               try clear hfz28_0
               try clear hfz28_1
               try clear hfz40_0
               try clear hfz40_1
               try clear hfz43_0
               try clear hfz43_1
               try clear hfz76_0
               try clear hfz76_1
               try clear hfz7_0
               try clear hfz7_1
               try clear hfz9_0
               try clear hfz9_1
               try clear hx135_0
               try clear hx135_1
               try clear hx137_0
               try clear hx148_0
               try clear hx149_0
               try clear hx150_0
               try clear hx151_0
               try clear hx153_0
               try clear hx155_0
               try clear hx34_0
               try clear hx59_0
               try clear hx67_0
               try clear hx72_0
               try clear p1
               try clear p13
               try clear p135
               try clear p137
               try clear p14
               try clear p148
               try clear p149
               try clear p150
               try clear p151
               try clear p153
               try clear p155
               try clear p2
               try clear p25
               try clear p59
               try clear p6
               try clear p67
               try clear p72
               try clear q1
               try clear q13
               try clear q135
               try clear q137
               try clear q14
               try clear q148
               try clear q149
               try clear q150
               try clear q151
               try clear q153
               try clear q155
               try clear q2
               try clear q25
               try clear q59
               try clear q67
               try clear q72
               obtain ⟨x8_4, x90_4, rfl, HA, HK4, HO_8, BK130, HB⟩ := hrel
               cases gk with
               | zero => exact absurd HA.out (by simp [route_Inhibited.l3])
               | succ k4 =>
                have H := HA.out
                clear HA
                simp only [route_Inhibited.l3] at H
                by_cases c77 : x90_4 < a0_0
                ·rw [if_pos c77] at H
                 have c77b0 : decide (x90_4 < a0_0) = true := decide_eq_true c77
                 clear c77
                 by_cases c78 : 0 ≤ x90_4
                 ·rw [if_pos c78] at H
                  have c78b0 : decide (0 ≤ x90_4) = true := decide_eq_true c78
                  clear c78
                  by_cases c79 : x90_4 < (x8_4.length : Int)
                  ·rw [if_pos c79] at H
                   have c79b0 : decide (x90_4 < (x8_4.length : Int)) = true := decide_eq_true c79
                   clear c79
                   obtain ⟨bq80, hbq80⟩ : ∃ b_ : Bool, b_ = (rdOf false x8_4 x90_4) := ⟨_, rfl⟩
                   replace H : (if bq80 = true then (if x90_4 < (l1.length : Int) then (route_Inhibited.l3 k4 l1 (x8_4.set (x90_4 : Int).toNat (rdOf false l1 x90_4)) a0_0 (wrap64 (x90_4 + 1))) else (none)) else (route_Inhibited.l3 k4 l1 (x8_4.set (x90_4 : Int).toNat false) a0_0 (wrap64 (x90_4 + 1)))) = some r := by rw [← hbq80] at H; exact H
                   have Nbq80 := Aside0.mk hbq80
                   clear hbq80
                   by_cases c81 : bq80 = true
                   ·subst c81
                    have H1 : (if x90_4 < (l1.length : Int) then (route_Inhibited.l3 k4 l1 (x8_4.set (x90_4 : Int).toNat (rdOf false l1 x90_4)) a0_0 (wrap64 (x90_4 + 1))) else (none)) = some r := by rw [if_pos rfl] at H; exact H
                    clear H
                    have H := H1
                    clear H1
                    by_cases c82 : x90_4 < (l1.length : Int)
                    ·rw [if_pos c82] at H
                     have c82b0 : decide (x90_4 < (l1.length : Int)) = true := decide_eq_true c82
                     clear c82
                     obtain ⟨y159, hy159⟩ : ∃ y_ : List Bool, y_ = (x8_4.set (x90_4 : Int).toNat (rdOf false l1 x90_4)) := ⟨_, rfl⟩
                     replace H : (route_Inhibited.l3 k4 l1 y159 a0_0 (wrap64 (x90_4 + 1))) = some r := by first | (rw [hy159]; with_reducible exact H) | (have H2_ := (Option.bind_some _ _).symm.trans H; rw [hy159]; with_reducible exact H2_) | (have H2_ := (Option.bind_some _ _).symm.trans H; with_reducible exact H2_) | with_reducible exact H | (rw [hy159]; exact H) | exact H
                     have Ny159 := Aside0.mk hy159
                     clear hy159
                     have H' := Aside0.mk H
                     clear H
                     obtain ⟨Ao84, co84, eo84⟩ := Kd.R_slice HO_8.out
                     subst eo84
                     have p157 : 0 ≤ (x90_4 : Int) := of_decide_eq_true (by first | (with_reducible assumption) | assumption)
                     have q157 : x90_4 < (x8_4.length : Int) := of_decide_eq_true (by first | (with_reducible assumption) | assumption)
                     try (obtain ⟨Az157_, cz157_, ez157_⟩ := Kd.R_slice HO_8.out; subst ez157_)
                     obtain ⟨ad157, e157, hx157_0⟩ := Kd.at_bool (Kd.R_reads' HO_8.out).2.2 x90_4 p157 q157
                     (try rw [← Nbq80.out] at hx157_0)
                     cases e157
                     replace p157 := eq_true p157
                     replace q157 := eq_true q157
                     have p158 : 0 ≤ (x90_4 : Int) := of_decide_eq_true (by first | (with_reducible assumption) | assumption)
                     have q158 : x90_4 < (l1.length : Int) := of_decide_eq_true (by first | (with_reducible assumption) | assumption)
                     obtain ⟨ad158, e158, hx158_0⟩ := Kd.at_bool HR1.out x90_4 p158 q158
                     (try rw [← Nbq80.out] at hx158_0)
                     cases e158
                     (try replace hx158_0 := (HB.out.cell (World.block_lt_of_cell? w _ hx158_0)).trans hx158_0)
                     replace p158 := eq_true p158
                     replace q158 := eq_true q158
                     have p83 : 0 ≤ (x90_4 : Int) := of_decide_eq_true (by first | (with_reducible assumption) | assumption)
                     have q83 : (x90_4 : Int) < ((x8_4.length : Int) : Int) := of_decide_eq_true (by first | (with_reducible assumption) | assumption)
                     obtain ⟨go83, co83, eo83, gb83, gl83, cl83, HG83⟩ := Kd.R_form HO_8.out (by omega)
                     (first | cases eo83 | (injection eo83 with ea_ en_ ec_; (first | subst ea_ | (injection ea_ with ea_; subst ea_)); subst ec_; clear en_))
                     have GB83 := Aside0.mk gb83
                     have GG83 := Aside0.mk HG83
                     clear gb83 gl83 HG83
                     (first | simp only [add_plain] at hx157_0 | skip)
                     obtain ⟨hx83_0, hf83_0⟩ := Kd.R_celln false HO_8.out (x90_4 : Int) p83 q83
                     replace p83 := eq_true p83
                     replace q83 := eq_true q83
                     have HP85 := Kd.R_putg HO_8.out (x90_4 : Int) (rdOf false l1 x90_4)
                     go_wp2_with (first | ((with_reducible refine gate_store (t := 4) (p := 105) rfl ?_); refine store_event (t := 4) (p := 105) (v := ?vo_w86) (w1 := (wr.setCell ⟨go83, (x90_4 : Int).toNat, none⟩ (.bool (rdOf false l1 x90_4)))) ?hg ?ho ?hn ?hr ?_; (case ho => rfl); (case hg => rfl); (case hn => rfl); (case hr => first | (go_simp; done) | (go_simp; rfl)); intro w86 hw; have hg : wr.grownBy w86 (some go83) := (by rw [hw]; exact HP85.2); have hp_ : Kd.R Kd.bool 4 w86 w.heap.size (fun _ => True) (.slice (some ⟨go83, 0, none⟩) x8_4.length co84) y159 := (by rw [hw, Ny159.out]; exact HP85.1); clear HP85; have n0_ := Aside0.mk (hp_); have n1_ := Aside0.mk (blk_grown (g := gb130) (o := .cells #[.int .i64 a0_0, .slice A0_1 l0_1.length c0_1] 31 (0, 0)) (bq BK130) hg (Kd.R_ne HO_8.out BK130.out (by decide))); have n2_ := Aside0.mk ((by rw [hw]; exact below_set (HB.out) GB83.out : Below w.heap.size w w86)); clear HO_8; clear BK130; clear HB; have HO_8 := n0_; have BK130 := n1_; have HB := n2_; clear n0_ n1_ n2_; clear hg hw hp_))
                     go_roundg k4
                     case measure => have := HJ2.out; have := HK2.out; have := HK3.out; have := HK4.out; omega
                     case rel => exact ⟨(y159), (wrap64 (x90_4 + 1)), (by first | rfl | (simp; done) | (simp [*]; done)), H', ⟨by have := HJ2.out; have := HK2.out; have := HK3.out; have := HK4.out; omega⟩, ⟨by (with_reducible repeat (first | apply Kd.R_alloc | apply Kd.R_drewN | apply Kd.R_drew)); exact HO_8.out⟩, ⟨by (with_reducible repeat (first | refine blk_drewN ?_ _ | refine blk_drew ?_ | refine blk_alloc ?_ _)); exact BK130.out⟩, ⟨by repeat (first | (with_reducible first | exact HB.out | apply below_alloc | apply pw_below_drewN | apply below_drew1 | refine below_set ?_ GE130.out) | exact HB.out)⟩⟩
                    ·rw [if_neg c82] at H
                     exact absurd H (by simp)
                   ·replace c81 := Bool.eq_false_iff.mpr c81
                    subst c81
                    have H1 : (route_Inhibited.l3 k4 l1 (x8_4.set (x90_4 : Int).toNat false) a0_0 (wrap64 (x90_4 + 1))) = some r := by rw [if_neg (show ¬ (false = true) by decide)] at H; exact H
                    clear H
                    have H := H1
                    clear H1
                    obtain ⟨y160, hy160⟩ : ∃ y_ : List Bool, y_ = (x8_4.set (x90_4 : Int).toNat false) := ⟨_, rfl⟩
                    replace H : (route_Inhibited.l3 k4 l1 y160 a0_0 (wrap64 (x90_4 + 1))) = some r := by first | (rw [hy160]; with_reducible exact H) | (have H2_ := (Option.bind_some _ _).symm.trans H; rw [hy160]; with_reducible exact H2_) | (have H2_ := (Option.bind_some _ _).symm.trans H; with_reducible exact H2_) | with_reducible exact H | (rw [hy160]; exact H) | exact H
                    have Ny160 := Aside0.mk hy160
                    clear hy160
                    have H' := Aside0.mk H
                    clear H
                    obtain ⟨Ao88, co88, eo88⟩ := Kd.R_slice HO_8.out
                    subst eo88
                    have p157 : 0 ≤ (x90_4 : Int) := of_decide_eq_true (by first | (with_reducible assumption) | assumption)
                    have q157 : x90_4 < (x8_4.length : Int) := of_decide_eq_true (by first | (with_reducible assumption) | assumption)
                    try (obtain ⟨Az157_, cz157_, ez157_⟩ := Kd.R_slice HO_8.out; subst ez157_)
                    obtain ⟨ad157, e157, hx157_0⟩ := Kd.at_bool (Kd.R_reads' HO_8.out).2.2 x90_4 p157 q157
                    (try rw [← Nbq80.out] at hx157_0)
                    cases e157
                    replace p157 := eq_true p157
                    replace q157 := eq_true q157
                    have p87 : 0 ≤ (x90_4 : Int) := of_decide_eq_true (by first | (with_reducible assumption) | assumption)
                    have q87 : (x90_4 : Int) < ((x8_4.length : Int) : Int) := of_decide_eq_true (by first | (with_reducible assumption) | assumption)
                    obtain ⟨go87, co87, eo87, gb87, gl87, cl87, HG87⟩ := Kd.R_form HO_8.out (by omega)
                    (first | cases eo87 | (injection eo87 with ea_ en_ ec_; (first | subst ea_ | (injection ea_ with ea_; subst ea_)); subst ec_; clear en_))
                    have GB87 := Aside0.mk gb87
                    have GG87 := Aside0.mk HG87
                    clear gb87 gl87 HG87
                    (first | simp only [add_plain] at hx157_0 | skip)
                    obtain ⟨hx87_0, hf87_0⟩ := Kd.R_celln false HO_8.out (x90_4 : Int) p87 q87
                    replace p87 := eq_true p87
                    replace q87 := eq_true q87
                    have HP89 := Kd.R_putg HO_8.out (x90_4 : Int) false
                    go_wp2_with (first | ((with_reducible refine gate_store (t := 4) (p := 105) rfl ?_); refine store_event (t := 4) (p := 105) (v := ?vo_w90) (w1 := (wr.setCell ⟨go87, (x90_4 : Int).toNat, none⟩ (.bool false))) ?hg ?ho ?hn ?hr ?_; (case ho => rfl); (case hg => rfl); (case hn => rfl); (case hr => first | (go_simp; done) | (go_simp; rfl)); intro w90 hw; have hg : wr.grownBy w90 (some go87) := (by rw [hw]; exact HP89.2); have hp_ : Kd.R Kd.bool 4 w90 w.heap.size (fun _ => True) (.slice (some ⟨go87, 0, none⟩) x8_4.length co88) y160 := (by rw [hw, Ny160.out]; exact HP89.1); clear HP89; have n0_ := Aside0.mk (hp_); have n1_ := Aside0.mk (blk_grown (g := gb130) (o := .cells #[.int .i64 a0_0, .slice A0_1 l0_1.length c0_1] 31 (0, 0)) (bq BK130) hg (Kd.R_ne HO_8.out BK130.out (by decide))); have n2_ := Aside0.mk ((by rw [hw]; exact below_set (HB.out) GB87.out : Below w.heap.size w w90)); clear HO_8; clear BK130; clear HB; have HO_8 := n0_; have BK130 := n1_; have HB := n2_; clear n0_ n1_ n2_; clear hg hw hp_))
                    go_roundg k4
                    case measure => have := HJ2.out; have := HK2.out; have := HK3.out; have := HK4.out; omega
                    case rel => exact ⟨(y160), (wrap64 (x90_4 + 1)), (by first | rfl | (simp; done) | (simp [*]; done)), H', ⟨by have := HJ2.out; have := HK2.out; have := HK3.out; have := HK4.out; omega⟩, ⟨by (with_reducible repeat (first | apply Kd.R_alloc | apply Kd.R_drewN | apply Kd.R_drew)); exact HO_8.out⟩, ⟨by (with_reducible repeat (first | refine blk_drewN ?_ _ | refine blk_drew ?_ | refine blk_alloc ?_ _)); exact BK130.out⟩, ⟨by repeat (first | (with_reducible first | exact HB.out | apply below_alloc | apply pw_below_drewN | apply below_drew1 | refine below_set ?_ GE130.out) | exact HB.out)⟩⟩
                  ·rw [if_neg c79] at H
                   exact absurd H (by simp)
                 ·rw [if_neg c78] at H
                  exact absurd H (by simp)
                ·rw [if_neg c77] at H
                 have c77b0 : decide (x90_4 < a0_0) = false := decide_eq_false c77
                 clear c77
                 obtain rfl := Option.some.inj H
                 go_wp2
                 go_ret
                 exact ⟨_, by first | rfl | (simp [errW_none, errW_some] <;> rfl) | (simp [*, errW_none, errW_some] <;> rfl), by (with_reducible repeat (first | apply Kd.R_alloc | apply Kd.R_drewN | apply Kd.R_drew)); exact HO_8.out, by repeat (first | (with_reducible first | exact HB.out | apply below_alloc | apply pw_below_drewN | apply below_drew1 | refine below_set ?_ GE130.out) | exact HB.out)⟩
          ·rw [if_neg c38] at H
           exact absurd H (by simp)
         ·rw [if_neg c37] at H
          exact absurd H (by simp)
     ·rw [if_neg c14] at H
      exact absurd H (by simp)
    ·rw [if_neg c13] at H
     exact absurd H (by simp)

end Go.Proofs.Ytcamljlhdejmmaa.P
