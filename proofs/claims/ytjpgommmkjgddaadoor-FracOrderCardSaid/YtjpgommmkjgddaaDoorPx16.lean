-- Written by this session's own copy of a printing program (wip/tools); Lean checks it.
import Derived.Test.YtjpgommmkjgddaaDoorPx0
import Derived.Test.YtjpgommmkjgddaaDoorPx1
import Derived.Test.YtjpgommmkjgddaaDoorPx6
import Derived.Test.YtjpgommmkjgddaaDoorPx8
import Derived.Test.YtjpgommmkjgddaaDoorPx11
import Derived.Test.YtjpgommmkjgddaaDoorPx12
import Derived.Test.YtjpgommmkjgddaaDoorPx15
namespace Go.Proofs.YtjpgommmkjgddaaDoor.P
open Go.RowKit Go.Proofs.YtjpgommmkjgddaaDoorW.PrintWords Go.Proofs.YtjpgommmkjgddaaDoorW.PrintLast Go.Proofs.YtjpgommmkjgddaaDoorW.PrintMore
attribute [local go_sem] max2_int min2_int max_two min_two max_three min_three max_four min_four   -- for this text's walks alone
set_option linter.unusedVariables false
set_option linter.unusedSimpArgs false

attribute [local go_sem high] eqA24
/-! ### intervalmonlaw03_FracOrder: function 8 -/
mutual
def intervalmonlaw03_FracOrder.j0 : Nat → Int → Bool → Int → Int → Int → Int → Int → Int → Option (Bool)
 | 0, _, _, _, _, _, _, _, _ => none
 | k + 1, x6, x50, x380000, x380001, x383000, x383001, x386000, x386001 => if x50 = true then (some false) else ((frac_Add.f k x380000 x380001 x386000 x386001).bind fun bt389 => ((frac_Add.f k x383000 x383001 x386000 x386001).bind fun bt393 => (if bt389.2.2 = 0 then (if bt393.2.2 = 0 then ((frac_Compare.f k bt389.1 bt389.2.1 bt393.1 bt393.2.1).bind fun t397 => (intervalmonlaw03_FracOrder.j1 k x6 (t397 != x6) x380000 x380001 x383000 x383001 x386000 x386001)) else (intervalmonlaw03_FracOrder.j1 k x6 false x380000 x380001 x383000 x383001 x386000 x386001)) else (intervalmonlaw03_FracOrder.j1 k x6 false x380000 x380001 x383000 x383001 x386000 x386001))))
def intervalmonlaw03_FracOrder.j1 : Nat → Int → Bool → Int → Int → Int → Int → Int → Int → Option (Bool)
 | 0, _, _, _, _, _, _, _, _ => none
 | k + 1, x6, x75, x380000, x380001, x383000, x383001, x386000, x386001 => if x75 = true then (some false) else ((frac_Mul.f k x380000 x380001 x386000 x386001).bind fun bt398 => ((frac_Mul.f k x383000 x383001 x386000 x386001).bind fun bt401 => (if bt398.2.2 = 0 then (if bt401.2.2 = 0 then (if x386000 ≤ 0 then ((intervalmonlaw03_lives.f k).bind fun t404 => (some t404)) else ((frac_Compare.f k bt398.1 bt398.2.1 bt401.1 bt401.2.1).bind fun t405 => (if t405 = x6 then ((intervalmonlaw03_lives.f k).bind fun t406 => (some t406)) else (some false)))) else ((intervalmonlaw03_lives.f k).bind fun t407 => (some t407))) else ((intervalmonlaw03_lives.f k).bind fun t408 => (some t408)))))
end
def intervalmonlaw03_FracOrder.f (k : Nat) (a0_0 : Int) (a0_1 : Int) (a0_2 : Int) (a0_3 : Int) (a0_4 : Int) (a0_5 : Int) : Option (Bool) := (intervalmonref03_Of.f k a0_0 a0_1).bind fun bt377 => ((intervalmonref03_Of.f k a0_2 a0_3).bind fun bt380 => ((intervalmonref03_Of.f k a0_4 a0_5).bind fun bt383 => ((frac_Compare.f k bt377.1 bt377.2 bt380.1 bt380.2).bind fun t386 => (if ((t386 == 0) != (bt377.1 == bt380.1 && (bt377.2 == bt380.2))) = true then (intervalmonlaw03_FracOrder.j0 k t386 true bt377.1 bt377.2 bt380.1 bt380.2 bt383.1 bt383.2) else (if t386 ≤ 0 then ((frac_Compare.f k bt380.1 bt380.2 bt383.1 bt383.2).bind fun t387 => (if t387 ≤ 0 then ((frac_Compare.f k bt377.1 bt377.2 bt383.1 bt383.2).bind fun t388 => (intervalmonlaw03_FracOrder.j0 k t386 (decide (t388 > 0)) bt377.1 bt377.2 bt380.1 bt380.2 bt383.1 bt383.2)) else (intervalmonlaw03_FracOrder.j0 k t386 false bt377.1 bt377.2 bt380.1 bt380.2 bt383.1 bt383.2))) else (intervalmonlaw03_FracOrder.j0 k t386 false bt377.1 bt377.2 bt380.1 bt380.2 bt383.1 bt383.2))))))
theorem intervalmonlaw03_FracOrder.mono_l : ∀ k, (∀ y0 y1 y2 y3 y4 y5 y6 y7, LeO (intervalmonlaw03_FracOrder.j0 k y0 y1 y2 y3 y4 y5 y6 y7) (intervalmonlaw03_FracOrder.j0 (k + 1) y0 y1 y2 y3 y4 y5 y6 y7)) ∧ (∀ y0 y1 y2 y3 y4 y5 y6 y7, LeO (intervalmonlaw03_FracOrder.j1 k y0 y1 y2 y3 y4 y5 y6 y7) (intervalmonlaw03_FracOrder.j1 (k + 1) y0 y1 y2 y3 y4 y5 y6 y7))
 | 0 => ⟨fun _ _ _ _ _ _ _ _ r h => by simp [intervalmonlaw03_FracOrder.j0] at h, fun _ _ _ _ _ _ _ _ r h => by simp [intervalmonlaw03_FracOrder.j1] at h⟩
 | k + 1 => by
  obtain ⟨ih0, ih1⟩ := intervalmonlaw03_FracOrder.mono_l k
  refine ⟨?_, ?_⟩
  ·intro y0 y1 y2 y3 y4 y5 y6 y7
   unfold intervalmonlaw03_FracOrder.j0
   repeat' first
   | (with_reducible exact ih0 _ _ _ _ _ _ _ _)
   | (with_reducible exact ih1 _ _ _ _ _ _ _ _)
   | (with_reducible exact frac_Add.mono _ _ _ _ _)
   | (with_reducible exact frac_Compare.mono _ _ _ _ _)
   | (with_reducible exact frac_Mul.mono _ _ _ _ _)
   | (with_reducible exact intervalmonlaw03_lives.mono _)
   | (with_reducible exact intervalmonref03_Of.mono _ _ _)
   | (with_reducible exact LeO.refl _)
   | (with_reducible exact LeO.none _)
   | (with_reducible refine LeO.ite ?_ ?_)
   | (with_reducible refine LeO.bind ?_ (fun _ => ?_))
   | exact ih0 _ _ _ _ _ _ _ _
   | exact ih1 _ _ _ _ _ _ _ _
   | exact frac_Add.mono _ _ _ _ _
   | exact frac_Compare.mono _ _ _ _ _
   | exact frac_Mul.mono _ _ _ _ _
   | exact intervalmonlaw03_lives.mono _
   | exact intervalmonref03_Of.mono _ _ _
   | exact LeO.none _
   | refine LeO.ite ?_ ?_
   | refine LeO.bind ?_ (fun _ => ?_)
  ·intro y0 y1 y2 y3 y4 y5 y6 y7
   unfold intervalmonlaw03_FracOrder.j1
   repeat' first
   | (with_reducible exact ih0 _ _ _ _ _ _ _ _)
   | (with_reducible exact ih1 _ _ _ _ _ _ _ _)
   | (with_reducible exact frac_Add.mono _ _ _ _ _)
   | (with_reducible exact frac_Compare.mono _ _ _ _ _)
   | (with_reducible exact frac_Mul.mono _ _ _ _ _)
   | (with_reducible exact intervalmonlaw03_lives.mono _)
   | (with_reducible exact intervalmonref03_Of.mono _ _ _)
   | (with_reducible exact LeO.refl _)
   | (with_reducible exact LeO.none _)
   | (with_reducible refine LeO.ite ?_ ?_)
   | (with_reducible refine LeO.bind ?_ (fun _ => ?_))
   | exact ih0 _ _ _ _ _ _ _ _
   | exact ih1 _ _ _ _ _ _ _ _
   | exact frac_Add.mono _ _ _ _ _
   | exact frac_Compare.mono _ _ _ _ _
   | exact frac_Mul.mono _ _ _ _ _
   | exact intervalmonlaw03_lives.mono _
   | exact intervalmonref03_Of.mono _ _ _
   | exact LeO.none _
   | refine LeO.ite ?_ ?_
   | refine LeO.bind ?_ (fun _ => ?_)
theorem intervalmonlaw03_FracOrder.mono : ∀ a0 a1 a2 a3 a4 a5 k, LeO (intervalmonlaw03_FracOrder.f k a0 a1 a2 a3 a4 a5) (intervalmonlaw03_FracOrder.f (k + 1) a0 a1 a2 a3 a4 a5) := by
 intro a0 a1 a2 a3 a4 a5 k
 obtain ⟨ih0, ih1⟩ := intervalmonlaw03_FracOrder.mono_l k
 unfold intervalmonlaw03_FracOrder.f
 repeat' first
   | (with_reducible exact ih0 _ _ _ _ _ _ _ _)
   | (with_reducible exact ih1 _ _ _ _ _ _ _ _)
   | (with_reducible exact frac_Add.mono _ _ _ _ _)
   | (with_reducible exact frac_Compare.mono _ _ _ _ _)
   | (with_reducible exact frac_Mul.mono _ _ _ _ _)
   | (with_reducible exact intervalmonlaw03_lives.mono _)
   | (with_reducible exact intervalmonref03_Of.mono _ _ _)
   | (with_reducible exact LeO.refl _)
   | (with_reducible exact LeO.none _)
   | (with_reducible refine LeO.ite ?_ ?_)
   | (with_reducible refine LeO.bind ?_ (fun _ => ?_))
   | exact ih0 _ _ _ _ _ _ _ _
   | exact ih1 _ _ _ _ _ _ _ _
   | exact frac_Add.mono _ _ _ _ _
   | exact frac_Compare.mono _ _ _ _ _
   | exact frac_Mul.mono _ _ _ _ _
   | exact intervalmonlaw03_lives.mono _
   | exact intervalmonref03_Of.mono _ _ _
   | exact LeO.none _
   | refine LeO.ite ?_ ?_
   | refine LeO.bind ?_ (fun _ => ?_)
set_option maxHeartbeats 8000000 in
set_option maxRecDepth 100000 in
theorem intervalmonlaw03_FracOrder.calls (k : Nat) (a0_0 : Int) (a0_1 : Int) (a0_2 : Int) (a0_3 : Int) (a0_4 : Int) (a0_5 : Int) (r : Bool) (w : World) (hGL : GL w) (h : intervalmonlaw03_FracOrder.f k a0_0 a0_1 a0_2 a0_3 a0_4 a0_5 = some r) (hT : r = true := by first | rfl | assumption) :
  Calls Tryd.prog 8 #[.agg #[.int .i64 a0_0, .int .i64 a0_1, .int .i64 a0_2, .int .i64 a0_3, .int .i64 a0_4, .int .i64 a0_5]] w fun e w' => e = .returned (.bool r) ∧ Below w.heap.size w w' := by
 have HGL := Aside0.mk hGL
 clear hGL
 have hu52 := Tryd.underlying52
 have hu24 := Tryd.underlying24
 have HT0 := Aside0.mk hT
 clear hT
 have HB := Aside0.mk (Below.refl w.heap.size w)
 have H : ((intervalmonref03_Of.f k a0_0 a0_1).bind fun bt377 => ((intervalmonref03_Of.f k a0_2 a0_3).bind fun bt380 => ((intervalmonref03_Of.f k a0_4 a0_5).bind fun bt383 => ((frac_Compare.f k bt377.1 bt377.2 bt380.1 bt380.2).bind fun t386 => (if ((t386 == 0) != (bt377.1 == bt380.1 && (bt377.2 == bt380.2))) = true then (intervalmonlaw03_FracOrder.j0 k t386 true bt377.1 bt377.2 bt380.1 bt380.2 bt383.1 bt383.2) else (if t386 ≤ 0 then ((frac_Compare.f k bt380.1 bt380.2 bt383.1 bt383.2).bind fun t387 => (if t387 ≤ 0 then ((frac_Compare.f k bt377.1 bt377.2 bt383.1 bt383.2).bind fun t388 => (intervalmonlaw03_FracOrder.j0 k t386 (decide (t388 > 0)) bt377.1 bt377.2 bt380.1 bt380.2 bt383.1 bt383.2)) else (intervalmonlaw03_FracOrder.j0 k t386 false bt377.1 bt377.2 bt380.1 bt380.2 bt383.1 bt383.2))) else (intervalmonlaw03_FracOrder.j0 k t386 false bt377.1 bt377.2 bt380.1 bt380.2 bt383.1 bt383.2))))))) = some r := h
 clear h
 replace H := Option.bind_eq_some_iff.mp H
 obtain ⟨⟨t377, t378⟩, A20, H⟩ := H
 replace H : ((intervalmonref03_Of.f k a0_2 a0_3).bind fun bt380 => ((intervalmonref03_Of.f k a0_4 a0_5).bind fun bt383 => ((frac_Compare.f k t377 t378 bt380.1 bt380.2).bind fun t386 => (if ((t386 == 0) != (t377 == bt380.1 && (t378 == bt380.2))) = true then (intervalmonlaw03_FracOrder.j0 k t386 true t377 t378 bt380.1 bt380.2 bt383.1 bt383.2) else (if t386 ≤ 0 then ((frac_Compare.f k bt380.1 bt380.2 bt383.1 bt383.2).bind fun t387 => (if t387 ≤ 0 then ((frac_Compare.f k t377 t378 bt383.1 bt383.2).bind fun t388 => (intervalmonlaw03_FracOrder.j0 k t386 (decide (t388 > 0)) t377 t378 bt380.1 bt380.2 bt383.1 bt383.2)) else (intervalmonlaw03_FracOrder.j0 k t386 false t377 t378 bt380.1 bt380.2 bt383.1 bt383.2))) else (intervalmonlaw03_FracOrder.j0 k t386 false t377 t378 bt380.1 bt380.2 bt383.1 bt383.2)))))) = some r := H
 have A2 := Aside0.mk A20
 clear A20
 replace H := Option.bind_eq_some_iff.mp H
 obtain ⟨⟨t380, t381⟩, A30, H⟩ := H
 replace H : ((intervalmonref03_Of.f k a0_4 a0_5).bind fun bt383 => ((frac_Compare.f k t377 t378 t380 t381).bind fun t386 => (if ((t386 == 0) != (t377 == t380 && (t378 == t381))) = true then (intervalmonlaw03_FracOrder.j0 k t386 true t377 t378 t380 t381 bt383.1 bt383.2) else (if t386 ≤ 0 then ((frac_Compare.f k t380 t381 bt383.1 bt383.2).bind fun t387 => (if t387 ≤ 0 then ((frac_Compare.f k t377 t378 bt383.1 bt383.2).bind fun t388 => (intervalmonlaw03_FracOrder.j0 k t386 (decide (t388 > 0)) t377 t378 t380 t381 bt383.1 bt383.2)) else (intervalmonlaw03_FracOrder.j0 k t386 false t377 t378 t380 t381 bt383.1 bt383.2))) else (intervalmonlaw03_FracOrder.j0 k t386 false t377 t378 t380 t381 bt383.1 bt383.2))))) = some r := H
 have A3 := Aside0.mk A30
 clear A30
 replace H := Option.bind_eq_some_iff.mp H
 obtain ⟨⟨t383, t384⟩, A40, H⟩ := H
 replace H : ((frac_Compare.f k t377 t378 t380 t381).bind fun t386 => (if ((t386 == 0) != (t377 == t380 && (t378 == t381))) = true then (intervalmonlaw03_FracOrder.j0 k t386 true t377 t378 t380 t381 t383 t384) else (if t386 ≤ 0 then ((frac_Compare.f k t380 t381 t383 t384).bind fun t387 => (if t387 ≤ 0 then ((frac_Compare.f k t377 t378 t383 t384).bind fun t388 => (intervalmonlaw03_FracOrder.j0 k t386 (decide (t388 > 0)) t377 t378 t380 t381 t383 t384)) else (intervalmonlaw03_FracOrder.j0 k t386 false t377 t378 t380 t381 t383 t384))) else (intervalmonlaw03_FracOrder.j0 k t386 false t377 t378 t380 t381 t383 t384)))) = some r := H
 have A4 := Aside0.mk A40
 clear A40
 replace H := Option.bind_eq_some_iff.mp H
 obtain ⟨t386, A50, H⟩ := H
 replace H : (if ((t386 == 0) != (t377 == t380 && (t378 == t381))) = true then (intervalmonlaw03_FracOrder.j0 k t386 true t377 t378 t380 t381 t383 t384) else (if t386 ≤ 0 then ((frac_Compare.f k t380 t381 t383 t384).bind fun t387 => (if t387 ≤ 0 then ((frac_Compare.f k t377 t378 t383 t384).bind fun t388 => (intervalmonlaw03_FracOrder.j0 k t386 (decide (t388 > 0)) t377 t378 t380 t381 t383 t384)) else (intervalmonlaw03_FracOrder.j0 k t386 false t377 t378 t380 t381 t383 t384))) else (intervalmonlaw03_FracOrder.j0 k t386 false t377 t378 t380 t381 t383 t384))) = some r := H
 have A5 := Aside0.mk A50
 clear A50
 have HC6 := Aside0.mk H
 clear H
 go_enter Tryd.func8, Tryd.ntmps8
 go_upto_region 5 with (first | ((with_reducible refine gate_dst (N := 1) rfl ?_); refine box_event ?hg (N := 1) ?hd (cs := #[.int .i64 a0_0, .int .i64 a0_1, .int .i64 a0_2, .int .i64 a0_3, .int .i64 a0_4, .int .i64 a0_5]) (t := 52) ?hr ?_; (case hd => rfl); (case hg => rfl); (case hr => first | (go_simp; done) | (go_simp; rfl)); intro gb376 hg w7 hbox hb; have n0_ := Aside0.mk (below_step (hq HB) hb); have n1_ := Aside0.mk (hbox); have n2_ := Aside0.mk ((by rw [hg]; exact (below_size (hq HB)) : w.heap.size ≤ gb376)); have n3_ := Aside0.mk ((by rw [hg]; exact (below_size (hq HB)) : w.heap.size ≤ gb376)); clear HB; have HB := n0_; have BK376 := n1_; have GW376 := n2_; have GE376 := n3_; clear n0_ n1_ n2_ n3_; clear hb hbox hg; have hcz8_0 : w7.cell? ⟨gb376, 0, none⟩ = some (.int .i64 a0_0) := (blk_cell BK376.out 0).trans rfl; have hcz8_1 : w7.cell? ⟨gb376, 1, none⟩ = some (.int .i64 a0_1) := (blk_cell BK376.out 1).trans rfl; have hcz8_2 : w7.cell? ⟨gb376, 2, none⟩ = some (.int .i64 a0_2) := (blk_cell BK376.out 2).trans rfl; have hcz8_3 : w7.cell? ⟨gb376, 3, none⟩ = some (.int .i64 a0_3) := (blk_cell BK376.out 3).trans rfl; have hcz8_4 : w7.cell? ⟨gb376, 4, none⟩ = some (.int .i64 a0_4) := (blk_cell BK376.out 4).trans rfl; have hcz8_5 : w7.cell? ⟨gb376, 5, none⟩ = some (.int .i64 a0_5) := (blk_cell BK376.out 5).trans rfl; have hfz8_0 := blk_frozen BK376.out 0; have hfz8_1 := blk_frozen BK376.out 1; have hfz8_2 := blk_frozen BK376.out 2; have hfz8_3 := blk_frozen BK376.out 3; have hfz8_4 := blk_frozen BK376.out 4; have hfz8_5 := blk_frozen BK376.out 5) | ((with_reducible refine gate_callee (f := 13) rfl ?_); refine goesL_ (some 15) rfl rfl Tryd.func13 (by kernel_rfl) rfl #[.int .i64 a0_0, .int .i64 a0_1] rfl aq ?_; (with_reducible refine (intervalmonref03_Of.calls k a0_0 a0_1 t377 t378 _ A2.out).mono ?_); rintro e w9 ⟨rfl, hb⟩; refine ⟨_, rfl, ?_⟩; have n0_ := bb BK376 hb; have n1_ := Aside0.mk (below_step (hq HB) hb); clear BK376; clear HB; have BK376 := n0_; have HB := n1_; clear n0_ n1_; (try clear hb); (try clear hb2); (try clear hk); (try clear hi)) | ((with_reducible refine gate_dst (N := 3) rfl ?_); refine box_event ?hg (N := 3) ?hd (cs := #[.int .i64 0, .int .i64 0]) (t := 24) ?hr ?_; (case hd => rfl); (case hg => rfl); (case hr => first | (go_simp; done) | (go_simp; rfl)); intro gb379 hg w10 hbox hb; have n0_ := bb BK376 hb; have n1_ := Aside0.mk (below_step (hq HB) hb); have n2_ := Aside0.mk (hbox); have n3_ := Aside0.mk ((by rw [hg]; exact (below_size (hq HB)) : w.heap.size ≤ gb379)); have n4_ := Aside0.mk ((by rw [hg]; exact (below_size (hq HB)) : w.heap.size ≤ gb379)); have n5_ := nl BK376 hg; have n6_ := ng BK376 hg; clear BK376; clear HB; have BK376 := n0_; have HB := n1_; have BK379 := n2_; have GW379 := n3_; have GE379 := n4_; have NB376_379 := n5_; have NB379_376 := n6_; clear n0_ n1_ n2_ n3_ n4_ n5_ n6_; clear hb hbox hg; have hnb11 := NB379_376.out; have hnc11 := NB376_379.out; have hcz12_0 : w10.cell? ⟨gb379, 0, none⟩ = some (.int .i64 0) := (blk_cell BK379.out 0).trans rfl; have hcz12_1 : w10.cell? ⟨gb379, 1, none⟩ = some (.int .i64 0) := (blk_cell BK379.out 1).trans rfl; have hfz12_0 := blk_frozen BK379.out 0; have hfz12_1 := blk_frozen BK379.out 1; have hcz13_0 : w10.cell? ⟨gb376, 0, none⟩ = some (.int .i64 a0_0) := (blk_cell BK376.out 0).trans rfl; have hcz13_1 : w10.cell? ⟨gb376, 1, none⟩ = some (.int .i64 a0_1) := (blk_cell BK376.out 1).trans rfl; have hcz13_2 : w10.cell? ⟨gb376, 2, none⟩ = some (.int .i64 a0_2) := (blk_cell BK376.out 2).trans rfl; have hcz13_3 : w10.cell? ⟨gb376, 3, none⟩ = some (.int .i64 a0_3) := (blk_cell BK376.out 3).trans rfl; have hcz13_4 : w10.cell? ⟨gb376, 4, none⟩ = some (.int .i64 a0_4) := (blk_cell BK376.out 4).trans rfl; have hcz13_5 : w10.cell? ⟨gb376, 5, none⟩ = some (.int .i64 a0_5) := (blk_cell BK376.out 5).trans rfl; have hfz13_0 := blk_frozen BK376.out 0; have hfz13_1 := blk_frozen BK376.out 1; have hfz13_2 := blk_frozen BK376.out 2; have hfz13_3 := blk_frozen BK376.out 3; have hfz13_4 := blk_frozen BK376.out 4; have hfz13_5 := blk_frozen BK376.out 5) | ((with_reducible refine gate_callee (f := 13) rfl ?_); refine goesL_ (some 20) rfl rfl Tryd.func13 (by kernel_rfl) rfl #[.int .i64 a0_2, .int .i64 a0_3] rfl aq ?_; (with_reducible refine (intervalmonref03_Of.calls k a0_2 a0_3 t380 t381 _ A3.out).mono ?_); rintro e w14 ⟨rfl, hb⟩; refine ⟨_, rfl, ?_⟩; have n0_ := Aside0.mk (blk_below (g := gb376) (o := .cells #[.int .i64 a0_0, .int .i64 a0_1, .int .i64 a0_2, .int .i64 a0_3, .int .i64 a0_4, .int .i64 a0_5] 52 (0, 0)) (by (with_reducible repeat (first | refine bN ?_ _ | refine bd ?_ | refine ba ?_ _)); refine blk_far ?_ NB376_379.out _; (with_reducible repeat (first | refine bN ?_ _ | refine bd ?_ | refine ba ?_ _)); refine blk_far ?_ NB376_379.out _; (with_reducible repeat (first | refine bN ?_ _ | refine bd ?_ | refine ba ?_ _)); exact BK376.out) hb); have n1_ := Aside0.mk (blk_below (g := gb379) (o := .cells #[.int .i64 t377, .int .i64 t378] 24 (0, 0)) (by (with_reducible repeat (first | refine bN ?_ _ | refine bd ?_ | refine ba ?_ _)); refine blk_put (cs := #[.int .i64 t377, .int .i64 0]) ?_ 1 _ rfl; (with_reducible repeat (first | refine bN ?_ _ | refine bd ?_ | refine ba ?_ _)); refine blk_put (cs := #[.int .i64 0, .int .i64 0]) ?_ 0 _ rfl; (with_reducible repeat (first | refine bN ?_ _ | refine bd ?_ | refine ba ?_ _)); exact BK379.out) hb); have n2_ := Aside0.mk (below_step (hq HB) hb); clear BK376; clear BK379; clear HB; have BK376 := n0_; have BK379 := n1_; have HB := n2_; clear n0_ n1_ n2_; (try clear hb); (try clear hb2); (try clear hk); (try clear hi)) | ((with_reducible refine gate_dst (N := 4) rfl ?_); refine box_event ?hg (N := 4) ?hd (cs := #[.int .i64 0, .int .i64 0]) (t := 24) ?hr ?_; (case hd => rfl); (case hg => rfl); (case hr => first | (go_simp; done) | (go_simp; rfl)); intro gb382 hg w15 hbox hb; have n0_ := bb BK376 hb; have n1_ := bb BK379 hb; have n2_ := Aside0.mk (below_step (hq HB) hb); have n3_ := Aside0.mk (hbox); have n4_ := Aside0.mk ((by rw [hg]; exact (below_size (hq HB)) : w.heap.size ≤ gb382)); have n5_ := Aside0.mk ((by rw [hg]; exact (below_size (hq HB)) : w.heap.size ≤ gb382)); have n6_ := nl BK376 hg; have n7_ := ng BK376 hg; have n8_ := nl BK379 hg; have n9_ := ng BK379 hg; clear BK376; clear BK379; clear HB; have BK376 := n0_; have BK379 := n1_; have HB := n2_; have BK382 := n3_; have GW382 := n4_; have GE382 := n5_; have NB376_382 := n6_; have NB382_376 := n7_; have NB379_382 := n8_; have NB382_379 := n9_; clear n0_ n1_ n2_ n3_ n4_ n5_ n6_ n7_ n8_ n9_; clear hb hbox hg; have hnb16 := NB382_376.out; have hnc16 := NB376_382.out; have hnb17 := NB382_379.out; have hnc17 := NB379_382.out; have hcz18_0 : w15.cell? ⟨gb382, 0, none⟩ = some (.int .i64 0) := (blk_cell BK382.out 0).trans rfl; have hcz18_1 : w15.cell? ⟨gb382, 1, none⟩ = some (.int .i64 0) := (blk_cell BK382.out 1).trans rfl; have hfz18_0 := blk_frozen BK382.out 0; have hfz18_1 := blk_frozen BK382.out 1; have hcz19_0 : w15.cell? ⟨gb376, 0, none⟩ = some (.int .i64 a0_0) := (blk_cell BK376.out 0).trans rfl; have hcz19_1 : w15.cell? ⟨gb376, 1, none⟩ = some (.int .i64 a0_1) := (blk_cell BK376.out 1).trans rfl; have hcz19_2 : w15.cell? ⟨gb376, 2, none⟩ = some (.int .i64 a0_2) := (blk_cell BK376.out 2).trans rfl; have hcz19_3 : w15.cell? ⟨gb376, 3, none⟩ = some (.int .i64 a0_3) := (blk_cell BK376.out 3).trans rfl; have hcz19_4 : w15.cell? ⟨gb376, 4, none⟩ = some (.int .i64 a0_4) := (blk_cell BK376.out 4).trans rfl; have hcz19_5 : w15.cell? ⟨gb376, 5, none⟩ = some (.int .i64 a0_5) := (blk_cell BK376.out 5).trans rfl; have hfz19_0 := blk_frozen BK376.out 0; have hfz19_1 := blk_frozen BK376.out 1; have hfz19_2 := blk_frozen BK376.out 2; have hfz19_3 := blk_frozen BK376.out 3; have hfz19_4 := blk_frozen BK376.out 4; have hfz19_5 := blk_frozen BK376.out 5) | ((with_reducible refine gate_callee (f := 13) rfl ?_); refine goesL_ (some 25) rfl rfl Tryd.func13 (by kernel_rfl) rfl #[.int .i64 a0_4, .int .i64 a0_5] rfl aq ?_; (with_reducible refine (intervalmonref03_Of.calls k a0_4 a0_5 t383 t384 _ A4.out).mono ?_); rintro e w20 ⟨rfl, hb⟩; refine ⟨_, rfl, ?_⟩; have n0_ := Aside0.mk (blk_below (g := gb376) (o := .cells #[.int .i64 a0_0, .int .i64 a0_1, .int .i64 a0_2, .int .i64 a0_3, .int .i64 a0_4, .int .i64 a0_5] 52 (0, 0)) (by (with_reducible repeat (first | refine bN ?_ _ | refine bd ?_ | refine ba ?_ _)); refine blk_far ?_ NB376_382.out _; (with_reducible repeat (first | refine bN ?_ _ | refine bd ?_ | refine ba ?_ _)); refine blk_far ?_ NB376_382.out _; (with_reducible repeat (first | refine bN ?_ _ | refine bd ?_ | refine ba ?_ _)); exact BK376.out) hb); have n1_ := Aside0.mk (blk_below (g := gb379) (o := .cells #[.int .i64 t377, .int .i64 t378] 24 (0, 0)) (by (with_reducible repeat (first | refine bN ?_ _ | refine bd ?_ | refine ba ?_ _)); refine blk_far ?_ NB379_382.out _; (with_reducible repeat (first | refine bN ?_ _ | refine bd ?_ | refine ba ?_ _)); refine blk_far ?_ NB379_382.out _; (with_reducible repeat (first | refine bN ?_ _ | refine bd ?_ | refine ba ?_ _)); exact BK379.out) hb); have n2_ := Aside0.mk (blk_below (g := gb382) (o := .cells #[.int .i64 t380, .int .i64 t381] 24 (0, 0)) (by (with_reducible repeat (first | refine bN ?_ _ | refine bd ?_ | refine ba ?_ _)); refine blk_put (cs := #[.int .i64 t380, .int .i64 0]) ?_ 1 _ rfl; (with_reducible repeat (first | refine bN ?_ _ | refine bd ?_ | refine ba ?_ _)); refine blk_put (cs := #[.int .i64 0, .int .i64 0]) ?_ 0 _ rfl; (with_reducible repeat (first | refine bN ?_ _ | refine bd ?_ | refine ba ?_ _)); exact BK382.out) hb); have n3_ := Aside0.mk (below_step (hq HB) hb); clear BK376; clear BK379; clear BK382; clear HB; have BK376 := n0_; have BK379 := n1_; have BK382 := n2_; have HB := n3_; clear n0_ n1_ n2_ n3_; (try clear hb); (try clear hb2); (try clear hk); (try clear hi)) | ((with_reducible refine gate_dst (N := 5) rfl ?_); refine box_event ?hg (N := 5) ?hd (cs := #[.int .i64 0, .int .i64 0]) (t := 24) ?hr ?_; (case hd => rfl); (case hg => rfl); (case hr => first | (go_simp; done) | (go_simp; rfl)); intro gb385 hg w21 hbox hb; have n0_ := bb BK376 hb; have n1_ := bb BK379 hb; have n2_ := bb BK382 hb; have n3_ := Aside0.mk (below_step (hq HB) hb); have n4_ := Aside0.mk (hbox); have n5_ := Aside0.mk ((by rw [hg]; exact (below_size (hq HB)) : w.heap.size ≤ gb385)); have n6_ := Aside0.mk ((by rw [hg]; exact (below_size (hq HB)) : w.heap.size ≤ gb385)); have n7_ := nl BK376 hg; have n8_ := ng BK376 hg; have n9_ := nl BK379 hg; have n10_ := ng BK379 hg; have n11_ := nl BK382 hg; have n12_ := ng BK382 hg; clear BK376; clear BK379; clear BK382; clear HB; have BK376 := n0_; have BK379 := n1_; have BK382 := n2_; have HB := n3_; have BK385 := n4_; have GW385 := n5_; have GE385 := n6_; have NB376_385 := n7_; have NB385_376 := n8_; have NB379_385 := n9_; have NB385_379 := n10_; have NB382_385 := n11_; have NB385_382 := n12_; clear n0_ n1_ n2_ n3_ n4_ n5_ n6_ n7_ n8_ n9_ n10_ n11_ n12_; clear hb hbox hg; have hnb22 := NB385_376.out; have hnc22 := NB376_385.out; have hnb23 := NB385_379.out; have hnc23 := NB379_385.out; have hnb24 := NB385_382.out; have hnc24 := NB382_385.out; have hcz25_0 : w21.cell? ⟨gb385, 0, none⟩ = some (.int .i64 0) := (blk_cell BK385.out 0).trans rfl; have hcz25_1 : w21.cell? ⟨gb385, 1, none⟩ = some (.int .i64 0) := (blk_cell BK385.out 1).trans rfl; have hfz25_0 := blk_frozen BK385.out 0; have hfz25_1 := blk_frozen BK385.out 1; have hcz26_0 : w21.cell? ⟨gb379, 0, none⟩ = some (.int .i64 t377) := (blk_cell BK379.out 0).trans rfl; have hcz26_1 : w21.cell? ⟨gb379, 1, none⟩ = some (.int .i64 t378) := (blk_cell BK379.out 1).trans rfl; have hfz26_0 := blk_frozen BK379.out 0; have hfz26_1 := blk_frozen BK379.out 1; have hcz27_0 : w21.cell? ⟨gb382, 0, none⟩ = some (.int .i64 t380) := (blk_cell BK382.out 0).trans rfl; have hcz27_1 : w21.cell? ⟨gb382, 1, none⟩ = some (.int .i64 t381) := (blk_cell BK382.out 1).trans rfl; have hfz27_0 := blk_frozen BK382.out 0; have hfz27_1 := blk_frozen BK382.out 1) | ((with_reducible refine gate_callee (f := 35) rfl ?_); refine goesL_ (some 28) rfl rfl Tryd.func35 (by kernel_rfl) rfl #[.agg #[.int .i64 t377, .int .i64 t378], .agg #[.int .i64 t380, .int .i64 t381]] rfl aq ?_; (with_reducible refine (frac_Compare.calls k t377 t378 t380 t381 t386 _ A5.out).mono ?_); rintro e w28 ⟨rfl, hb⟩; refine ⟨_, rfl, ?_⟩; have n0_ := Aside0.mk (blk_below (g := gb376) (o := .cells #[.int .i64 a0_0, .int .i64 a0_1, .int .i64 a0_2, .int .i64 a0_3, .int .i64 a0_4, .int .i64 a0_5] 52 (0, 0)) (by (with_reducible repeat (first | refine bN ?_ _ | refine bd ?_ | refine ba ?_ _)); refine blk_far ?_ NB376_385.out _; (with_reducible repeat (first | refine bN ?_ _ | refine bd ?_ | refine ba ?_ _)); refine blk_far ?_ NB376_385.out _; (with_reducible repeat (first | refine bN ?_ _ | refine bd ?_ | refine ba ?_ _)); exact BK376.out) hb); have n1_ := Aside0.mk (blk_below (g := gb379) (o := .cells #[.int .i64 t377, .int .i64 t378] 24 (0, 0)) (by (with_reducible repeat (first | refine bN ?_ _ | refine bd ?_ | refine ba ?_ _)); refine blk_far ?_ NB379_385.out _; (with_reducible repeat (first | refine bN ?_ _ | refine bd ?_ | refine ba ?_ _)); refine blk_far ?_ NB379_385.out _; (with_reducible repeat (first | refine bN ?_ _ | refine bd ?_ | refine ba ?_ _)); exact BK379.out) hb); have n2_ := Aside0.mk (blk_below (g := gb382) (o := .cells #[.int .i64 t380, .int .i64 t381] 24 (0, 0)) (by (with_reducible repeat (first | refine bN ?_ _ | refine bd ?_ | refine ba ?_ _)); refine blk_far ?_ NB382_385.out _; (with_reducible repeat (first | refine bN ?_ _ | refine bd ?_ | refine ba ?_ _)); refine blk_far ?_ NB382_385.out _; (with_reducible repeat (first | refine bN ?_ _ | refine bd ?_ | refine ba ?_ _)); exact BK382.out) hb); have n3_ := Aside0.mk (blk_below (g := gb385) (o := .cells #[.int .i64 t383, .int .i64 t384] 24 (0, 0)) (by (with_reducible repeat (first | refine bN ?_ _ | refine bd ?_ | refine ba ?_ _)); refine blk_put (cs := #[.int .i64 t383, .int .i64 0]) ?_ 1 _ rfl; (with_reducible repeat (first | refine bN ?_ _ | refine bd ?_ | refine ba ?_ _)); refine blk_put (cs := #[.int .i64 0, .int .i64 0]) ?_ 0 _ rfl; (with_reducible repeat (first | refine bN ?_ _ | refine bd ?_ | refine ba ?_ _)); exact BK385.out) hb); have n4_ := Aside0.mk (below_step (hq HB) hb); clear BK376; clear BK379; clear BK382; clear BK385; clear HB; have BK376 := n0_; have BK379 := n1_; have BK382 := n2_; have BK385 := n3_; have HB := n4_; clear n0_ n1_ n2_ n3_ n4_; (try clear hb); (try clear hb2); (try clear hk); (try clear hi)))
 (try simp only [Act.put, List.setIfInBounds_toArray, List.set_cons_zero, List.set_cons_succ])
 go_cut [50] (fun v50 wc => ∃ (kq : Nat) (x50_5 : Bool), v50 = .bool x50_5 ∧ Aside0 (intervalmonlaw03_FracOrder.j0 kq t386 x50_5 t377 t378 t380 t381 t383 t384 = some r) ∧ Aside0 (kq ≤ k) ∧ Aside0 (wc.heap[gb376]? = some (.cells #[.int .i64 a0_0, .int .i64 a0_1, .int .i64 a0_2, .int .i64 a0_3, .int .i64 a0_4, .int .i64 a0_5] 52 (0, 0))) ∧ Aside0 (wc.heap[gb379]? = some (.cells #[.int .i64 t377, .int .i64 t378] 24 (0, 0))) ∧ Aside0 (wc.heap[gb382]? = some (.cells #[.int .i64 t380, .int .i64 t381] 24 (0, 0))) ∧ Aside0 (wc.heap[gb385]? = some (.cells #[.int .i64 t383, .int .i64 t384] 24 (0, 0))) ∧ Aside0 (Below w.heap.size w wc))
 case first =>
  have H := HC6.out
  clear HC6
  by_cases c29 : ((t386 == 0) != (t377 == t380 && (t378 == t381))) = true
  ·rw [if_pos c29] at H
   have c29b0 : ((t386 == 0) != (t377 == t380 && (t378 == t381))) = true := c29
   (try (have c29b1 : decide ((t386 == 0) = (t377 == t380 && (t378 == t381))) = false := by simpa using c29))
   (try (have c29b2 : ((t386 == 0) == (t377 == t380 && (t378 == t381))) = false := by simpa using c29))
   (try (have c29b3 : ¬ ((t386 == 0) = (t377 == t380 && (t378 == t381))) := by simpa using c29))
   clear c29
   (first | rw [c29b0] | (simp only [i64_w, i32_w]; rw [c29b0]) | skip)
   have H' := Aside0.mk H
   clear H
   have hnb30 := NB379_376.out
   have hnc30 := NB376_379.out
   have hnb31 := NB379_382.out
   have hnc31 := NB382_379.out
   have hnb32 := NB379_385.out
   have hnc32 := NB385_379.out
   have hcz33_0 : w28.cell? ⟨gb379, 0, none⟩ = some (.int .i64 t377) := (blk_cell BK379.out 0).trans rfl
   have hcz33_1 : w28.cell? ⟨gb379, 1, none⟩ = some (.int .i64 t378) := (blk_cell BK379.out 1).trans rfl
   have hfz33_0 := blk_frozen BK379.out 0
   have hfz33_1 := blk_frozen BK379.out 1
   have hnb34 := NB382_376.out
   have hnc34 := NB376_382.out
   have hnb35 := NB382_385.out
   have hnc35 := NB385_382.out
   have hcz36_0 : w28.cell? ⟨gb382, 0, none⟩ = some (.int .i64 t380) := (blk_cell BK382.out 0).trans rfl
   have hcz36_1 : w28.cell? ⟨gb382, 1, none⟩ = some (.int .i64 t381) := (blk_cell BK382.out 1).trans rfl
   have hfz36_0 := blk_frozen BK382.out 0
   have hfz36_1 := blk_frozen BK382.out 1
   go_wp2
   go_meet
   case rel => exact ⟨_, (true), (by first | rfl | (simp; done) | (simp [*]; done)), H', ⟨by first | omega | exact Nat.le_refl _⟩, ⟨by (with_reducible repeat (first | refine bN ?_ _ | refine bd ?_ | refine ba ?_ _)); exact BK376.out⟩, ⟨by (with_reducible repeat (first | refine bN ?_ _ | refine bd ?_ | refine ba ?_ _)); exact BK379.out⟩, ⟨by (with_reducible repeat (first | refine bN ?_ _ | refine bd ?_ | refine ba ?_ _)); exact BK382.out⟩, ⟨by (with_reducible repeat (first | refine bN ?_ _ | refine bd ?_ | refine ba ?_ _)); exact BK385.out⟩, ⟨by repeat (first | (with_reducible first | exact HB.out | apply below_alloc | apply pw_below_drewN | apply below_drew1 | refine below_set ?_ GE376.out | refine below_set ?_ GE379.out | refine below_set ?_ GE382.out | refine below_set ?_ GE385.out) | exact HB.out)⟩⟩
  ·rw [if_neg c29] at H
   have c29b0 : ((t386 == 0) != (t377 == t380 && (t378 == t381))) = false := by simpa using c29
   (try (have c29b1 : decide ((t386 == 0) = (t377 == t380 && (t378 == t381))) = true := by simpa using c29))
   (try (have c29b2 : ((t386 == 0) == (t377 == t380 && (t378 == t381))) = true := by simpa using c29))
   clear c29
   (first | rw [c29b0] | (simp only [i64_w, i32_w]; rw [c29b0]) | skip)
   by_cases c37 : t386 ≤ 0
   ·rw [if_pos c37] at H
    have c37b0 : decide (t386 ≤ 0) = true := decide_eq_true c37
    clear c37
    replace H := Option.bind_eq_some_iff.mp H
    obtain ⟨t387, A380, H⟩ := H
    replace H : (if t387 ≤ 0 then ((frac_Compare.f k t377 t378 t383 t384).bind fun t388 => (intervalmonlaw03_FracOrder.j0 k t386 (decide (t388 > 0)) t377 t378 t380 t381 t383 t384)) else (intervalmonlaw03_FracOrder.j0 k t386 false t377 t378 t380 t381 t383 t384)) = some r := H
    have A38 := Aside0.mk A380
    clear A380
    by_cases c39 : t387 ≤ 0
    ·rw [if_pos c39] at H
     have c39b0 : decide (t387 ≤ 0) = true := decide_eq_true c39
     clear c39
     replace H := Option.bind_eq_some_iff.mp H
     obtain ⟨t388, A400, H⟩ := H
     replace H : (intervalmonlaw03_FracOrder.j0 k t386 (decide (t388 > 0)) t377 t378 t380 t381 t383 t384) = some r := H
     have A40 := Aside0.mk A400
     clear A400
     have H' := Aside0.mk H
     clear H
     have hnb41 := NB379_376.out
     have hnc41 := NB376_379.out
     have hnb42 := NB379_382.out
     have hnc42 := NB382_379.out
     have hnb43 := NB379_385.out
     have hnc43 := NB385_379.out
     have hcz44_0 : w28.cell? ⟨gb379, 0, none⟩ = some (.int .i64 t377) := (blk_cell BK379.out 0).trans rfl
     have hcz44_1 : w28.cell? ⟨gb379, 1, none⟩ = some (.int .i64 t378) := (blk_cell BK379.out 1).trans rfl
     have hfz44_0 := blk_frozen BK379.out 0
     have hfz44_1 := blk_frozen BK379.out 1
     have hnb45 := NB382_376.out
     have hnc45 := NB376_382.out
     have hnb46 := NB382_385.out
     have hnc46 := NB385_382.out
     have hcz47_0 : w28.cell? ⟨gb382, 0, none⟩ = some (.int .i64 t380) := (blk_cell BK382.out 0).trans rfl
     have hcz47_1 : w28.cell? ⟨gb382, 1, none⟩ = some (.int .i64 t381) := (blk_cell BK382.out 1).trans rfl
     have hfz47_0 := blk_frozen BK382.out 0
     have hfz47_1 := blk_frozen BK382.out 1
     have hnb48 := NB385_376.out
     have hnc48 := NB376_385.out
     have hcz49_0 : w28.cell? ⟨gb385, 0, none⟩ = some (.int .i64 t383) := (blk_cell BK385.out 0).trans rfl
     have hcz49_1 : w28.cell? ⟨gb385, 1, none⟩ = some (.int .i64 t384) := (blk_cell BK385.out 1).trans rfl
     have hfz49_0 := blk_frozen BK385.out 0
     have hfz49_1 := blk_frozen BK385.out 1
     go_wp2_with (first | (go_at_call 35; (with_reducible refine (frac_Compare.calls k t380 t381 t383 t384 t387 _ A38.out).mono ?_); rintro e w50 ⟨rfl, hb⟩; have n0_ := bb BK376 hb; have n1_ := bb BK379 hb; have n2_ := bb BK382 hb; have n3_ := bb BK385 hb; have n4_ := Aside0.mk (below_step (hq HB) hb); clear BK376; clear BK379; clear BK382; clear BK385; clear HB; have BK376 := n0_; have BK379 := n1_; have BK382 := n2_; have BK385 := n3_; have HB := n4_; clear n0_ n1_ n2_ n3_ n4_; (try clear hb); (try clear hb2); (try clear hk); (try clear hi); have hcz51_0 : w50.cell? ⟨gb379, 0, none⟩ = some (.int .i64 t377) := (blk_cell BK379.out 0).trans rfl; have hcz51_1 : w50.cell? ⟨gb379, 1, none⟩ = some (.int .i64 t378) := (blk_cell BK379.out 1).trans rfl; have hfz51_0 := blk_frozen BK379.out 0; have hfz51_1 := blk_frozen BK379.out 1; have hcz52_0 : w50.cell? ⟨gb385, 0, none⟩ = some (.int .i64 t383) := (blk_cell BK385.out 0).trans rfl; have hcz52_1 : w50.cell? ⟨gb385, 1, none⟩ = some (.int .i64 t384) := (blk_cell BK385.out 1).trans rfl; have hfz52_0 := blk_frozen BK385.out 0; have hfz52_1 := blk_frozen BK385.out 1) | (go_at_call 35; (with_reducible refine (frac_Compare.calls k t377 t378 t383 t384 t388 _ A40.out).mono ?_); rintro e w53 ⟨rfl, hb⟩; have n0_ := bb BK376 hb; have n1_ := bb BK379 hb; have n2_ := bb BK382 hb; have n3_ := bb BK385 hb; have n4_ := Aside0.mk (below_step (hq HB) hb); clear BK376; clear BK379; clear BK382; clear BK385; clear HB; have BK376 := n0_; have BK379 := n1_; have BK382 := n2_; have BK385 := n3_; have HB := n4_; clear n0_ n1_ n2_ n3_ n4_; (try clear hb); (try clear hb2); (try clear hk); (try clear hi)))
     go_meet
     case rel => exact ⟨_, (decide (t388 > 0)), (by first | rfl | (simp; done) | (simp [*]; done)), H', ⟨by first | omega | exact Nat.le_refl _⟩, ⟨by (with_reducible repeat (first | refine bN ?_ _ | refine bd ?_ | refine ba ?_ _)); exact BK376.out⟩, ⟨by (with_reducible repeat (first | refine bN ?_ _ | refine bd ?_ | refine ba ?_ _)); exact BK379.out⟩, ⟨by (with_reducible repeat (first | refine bN ?_ _ | refine bd ?_ | refine ba ?_ _)); exact BK382.out⟩, ⟨by (with_reducible repeat (first | refine bN ?_ _ | refine bd ?_ | refine ba ?_ _)); exact BK385.out⟩, ⟨by repeat (first | (with_reducible first | exact HB.out | apply below_alloc | apply pw_below_drewN | apply below_drew1 | refine below_set ?_ GE376.out | refine below_set ?_ GE379.out | refine below_set ?_ GE382.out | refine below_set ?_ GE385.out) | exact HB.out)⟩⟩
    ·rw [if_neg c39] at H
     have c39b0 : decide (t387 ≤ 0) = false := decide_eq_false c39
     clear c39
     have H' := Aside0.mk H
     clear H
     have hnb54 := NB379_376.out
     have hnc54 := NB376_379.out
     have hnb55 := NB379_382.out
     have hnc55 := NB382_379.out
     have hnb56 := NB379_385.out
     have hnc56 := NB385_379.out
     have hcz57_0 : w28.cell? ⟨gb379, 0, none⟩ = some (.int .i64 t377) := (blk_cell BK379.out 0).trans rfl
     have hcz57_1 : w28.cell? ⟨gb379, 1, none⟩ = some (.int .i64 t378) := (blk_cell BK379.out 1).trans rfl
     have hfz57_0 := blk_frozen BK379.out 0
     have hfz57_1 := blk_frozen BK379.out 1
     have hnb58 := NB382_376.out
     have hnc58 := NB376_382.out
     have hnb59 := NB382_385.out
     have hnc59 := NB385_382.out
     have hcz60_0 : w28.cell? ⟨gb382, 0, none⟩ = some (.int .i64 t380) := (blk_cell BK382.out 0).trans rfl
     have hcz60_1 : w28.cell? ⟨gb382, 1, none⟩ = some (.int .i64 t381) := (blk_cell BK382.out 1).trans rfl
     have hfz60_0 := blk_frozen BK382.out 0
     have hfz60_1 := blk_frozen BK382.out 1
     have hnb61 := NB385_376.out
     have hnc61 := NB376_385.out
     have hcz62_0 : w28.cell? ⟨gb385, 0, none⟩ = some (.int .i64 t383) := (blk_cell BK385.out 0).trans rfl
     have hcz62_1 : w28.cell? ⟨gb385, 1, none⟩ = some (.int .i64 t384) := (blk_cell BK385.out 1).trans rfl
     have hfz62_0 := blk_frozen BK385.out 0
     have hfz62_1 := blk_frozen BK385.out 1
     go_wp2_with (first | (go_at_call 35; (with_reducible refine (frac_Compare.calls k t380 t381 t383 t384 t387 _ A38.out).mono ?_); rintro e w63 ⟨rfl, hb⟩; have n0_ := bb BK376 hb; have n1_ := bb BK379 hb; have n2_ := bb BK382 hb; have n3_ := bb BK385 hb; have n4_ := Aside0.mk (below_step (hq HB) hb); clear BK376; clear BK379; clear BK382; clear BK385; clear HB; have BK376 := n0_; have BK379 := n1_; have BK382 := n2_; have BK385 := n3_; have HB := n4_; clear n0_ n1_ n2_ n3_ n4_; (try clear hb); (try clear hb2); (try clear hk); (try clear hi)))
     go_meet
     case rel => exact ⟨_, (false), (by first | rfl | (simp; done) | (simp [*]; done)), H', ⟨by first | omega | exact Nat.le_refl _⟩, ⟨by (with_reducible repeat (first | refine bN ?_ _ | refine bd ?_ | refine ba ?_ _)); exact BK376.out⟩, ⟨by (with_reducible repeat (first | refine bN ?_ _ | refine bd ?_ | refine ba ?_ _)); exact BK379.out⟩, ⟨by (with_reducible repeat (first | refine bN ?_ _ | refine bd ?_ | refine ba ?_ _)); exact BK382.out⟩, ⟨by (with_reducible repeat (first | refine bN ?_ _ | refine bd ?_ | refine ba ?_ _)); exact BK385.out⟩, ⟨by repeat (first | (with_reducible first | exact HB.out | apply below_alloc | apply pw_below_drewN | apply below_drew1 | refine below_set ?_ GE376.out | refine below_set ?_ GE379.out | refine below_set ?_ GE382.out | refine below_set ?_ GE385.out) | exact HB.out)⟩⟩
   ·rw [if_neg c37] at H
    have c37b0 : decide (t386 ≤ 0) = false := decide_eq_false c37
    clear c37
    have H' := Aside0.mk H
    clear H
    have hnb64 := NB379_376.out
    have hnc64 := NB376_379.out
    have hnb65 := NB379_382.out
    have hnc65 := NB382_379.out
    have hnb66 := NB379_385.out
    have hnc66 := NB385_379.out
    have hcz67_0 : w28.cell? ⟨gb379, 0, none⟩ = some (.int .i64 t377) := (blk_cell BK379.out 0).trans rfl
    have hcz67_1 : w28.cell? ⟨gb379, 1, none⟩ = some (.int .i64 t378) := (blk_cell BK379.out 1).trans rfl
    have hfz67_0 := blk_frozen BK379.out 0
    have hfz67_1 := blk_frozen BK379.out 1
    have hnb68 := NB382_376.out
    have hnc68 := NB376_382.out
    have hnb69 := NB382_385.out
    have hnc69 := NB385_382.out
    have hcz70_0 : w28.cell? ⟨gb382, 0, none⟩ = some (.int .i64 t380) := (blk_cell BK382.out 0).trans rfl
    have hcz70_1 : w28.cell? ⟨gb382, 1, none⟩ = some (.int .i64 t381) := (blk_cell BK382.out 1).trans rfl
    have hfz70_0 := blk_frozen BK382.out 0
    have hfz70_1 := blk_frozen BK382.out 1
    go_wp2
    go_meet
    case rel => exact ⟨_, (false), (by first | rfl | (simp; done) | (simp [*]; done)), H', ⟨by first | omega | exact Nat.le_refl _⟩, ⟨by (with_reducible repeat (first | refine bN ?_ _ | refine bd ?_ | refine ba ?_ _)); exact BK376.out⟩, ⟨by (with_reducible repeat (first | refine bN ?_ _ | refine bd ?_ | refine ba ?_ _)); exact BK379.out⟩, ⟨by (with_reducible repeat (first | refine bN ?_ _ | refine bd ?_ | refine ba ?_ _)); exact BK382.out⟩, ⟨by (with_reducible repeat (first | refine bN ?_ _ | refine bd ?_ | refine ba ?_ _)); exact BK385.out⟩, ⟨by repeat (first | (with_reducible first | exact HB.out | apply below_alloc | apply pw_below_drewN | apply below_drew1 | refine below_set ?_ GE376.out | refine below_set ?_ GE379.out | refine below_set ?_ GE382.out | refine below_set ?_ GE385.out) | exact HB.out)⟩⟩
 case rest =>
  clear HC6
  try clear c1
  try clear c2
  try clear p2
  try clear c3
  try clear c4
  try clear c5
  try clear c6
  try clear c8
  try clear c11
  try clear c13
  try clear c16
  try clear c17
  try clear c22
  try clear c23
  try clear c24
  try clear c29
  try clear c29b0
  try clear c29b1
  try clear c29b2
  try clear c30
  try clear c31
  try clear c32
  try clear c34
  try clear c35
  try clear c37
  try clear c37b0
  try clear c39
  try clear c39b0
  try clear c41
  try clear c42
  try clear c43
  try clear c45
  try clear c46
  try clear c48
  try clear c54
  try clear c55
  try clear c56
  try clear c58
  try clear c59
  try clear c61
  try clear c64
  try clear c65
  try clear c66
  try clear c68
  try clear c69
  try clear hcz12_0
  try clear hcz12_1
  try clear hcz13_0
  try clear hcz13_1
  try clear hcz13_2
  try clear hcz13_3
  try clear hcz13_4
  try clear hcz13_5
  try clear hcz18_0
  try clear hcz18_1
  try clear hcz19_0
  try clear hcz19_1
  try clear hcz19_2
  try clear hcz19_3
  try clear hcz19_4
  try clear hcz19_5
  try clear hcz25_0
  try clear hcz25_1
  try clear hcz26_0
  try clear hcz26_1
  try clear hcz27_0
  try clear hcz27_1
  try clear hcz33_0
  try clear hcz33_1
  try clear hcz36_0
  try clear hcz36_1
  try clear hcz44_0
  try clear hcz44_1
  try clear hcz47_0
  try clear hcz47_1
  try clear hcz49_0
  try clear hcz49_1
  try clear hcz51_0
  try clear hcz51_1
  try clear hcz52_0
  try clear hcz52_1
  try clear hcz57_0
  try clear hcz57_1
  try clear hcz60_0
  try clear hcz60_1
  try clear hcz62_0
  try clear hcz62_1
  try clear hcz67_0
  try clear hcz67_1
  try clear hcz70_0
  try clear hcz70_1
  try clear hcz8_0
  try clear hcz8_1
  try clear hcz8_2
  try clear hcz8_3
  try clear hcz8_4
  try clear hcz8_5
  try clear hfz12_0
  try clear hfz12_1
  try clear hfz13_0
  try clear hfz13_1
  try clear hfz13_2
  try clear hfz13_3
  try clear hfz13_4
  try clear hfz13_5
  try clear hfz18_0
  try clear hfz18_1
  try clear hfz19_0
  try clear hfz19_1
  try clear hfz19_2
  try clear hfz19_3
  try clear hfz19_4
  try clear hfz19_5
  try clear hfz25_0
  try clear hfz25_1
  try clear hfz26_0
  try clear hfz26_1
  try clear hfz27_0
  try clear hfz27_1
  try clear hfz33_0
  try clear hfz33_1
  try clear hfz36_0
  try clear hfz36_1
  try clear hfz44_0
  try clear hfz44_1
  try clear hfz47_0
  try clear hfz47_1
  try clear hfz49_0
  try clear hfz49_1
  try clear hfz51_0
  try clear hfz51_1
  try clear hfz52_0
  try clear hfz52_1
  try clear hfz57_0
  try clear hfz57_1
  try clear hfz60_0
  try clear hfz60_1
  try clear hfz62_0
  try clear hfz62_1
  try clear hfz67_0
  try clear hfz67_1
  try clear hfz70_0
  try clear hfz70_1
  try clear hfz8_0
  try clear hfz8_1
  try clear hfz8_2
  try clear hfz8_3
  try clear hfz8_4
  try clear hfz8_5
  obtain ⟨kq, x50_5, rfl, HA, HJ5, BK376, BK379, BK382, BK385, HB⟩ := hcut
  cases kq with
  | zero => exact absurd HA.out (by simp [intervalmonlaw03_FracOrder.j0])
  | succ kj5 =>
   have H := HA.out
   clear HA
   simp only [intervalmonlaw03_FracOrder.j0] at H
   by_cases c71 : x50_5 = true
   ·subst c71
    have H1 : (some false) = some r := by rw [if_pos rfl] at H; exact H
    clear H
    have H := H1
    clear H1
    exact absurd ((Option.some.inj H).trans HT0.out) (by decide)
   ·replace c71 := Bool.eq_false_iff.mpr c71
    subst c71
    have H1 : ((frac_Add.f kj5 t377 t378 t383 t384).bind fun bt389 => ((frac_Add.f kj5 t380 t381 t383 t384).bind fun bt393 => (if bt389.2.2 = 0 then (if bt393.2.2 = 0 then ((frac_Compare.f kj5 bt389.1 bt389.2.1 bt393.1 bt393.2.1).bind fun t397 => (intervalmonlaw03_FracOrder.j1 kj5 t386 (t397 != t386) t377 t378 t380 t381 t383 t384)) else (intervalmonlaw03_FracOrder.j1 kj5 t386 false t377 t378 t380 t381 t383 t384)) else (intervalmonlaw03_FracOrder.j1 kj5 t386 false t377 t378 t380 t381 t383 t384)))) = some r := by rw [if_neg (show ¬ (false = true) by decide)] at H; exact H
    clear H
    have H := H1
    clear H1
    replace H := Option.bind_eq_some_iff.mp H
    obtain ⟨⟨t389, t390, t391⟩, A720, H⟩ := H
    replace H : ((frac_Add.f kj5 t380 t381 t383 t384).bind fun bt393 => (if t391 = 0 then (if bt393.2.2 = 0 then ((frac_Compare.f kj5 t389 t390 bt393.1 bt393.2.1).bind fun t397 => (intervalmonlaw03_FracOrder.j1 kj5 t386 (t397 != t386) t377 t378 t380 t381 t383 t384)) else (intervalmonlaw03_FracOrder.j1 kj5 t386 false t377 t378 t380 t381 t383 t384)) else (intervalmonlaw03_FracOrder.j1 kj5 t386 false t377 t378 t380 t381 t383 t384))) = some r := H
    have A72 := Aside0.mk A720
    clear A720
    replace H := Option.bind_eq_some_iff.mp H
    obtain ⟨⟨t393, t394, t395⟩, A730, H⟩ := H
    replace H : (if t391 = 0 then (if t395 = 0 then ((frac_Compare.f kj5 t389 t390 t393 t394).bind fun t397 => (intervalmonlaw03_FracOrder.j1 kj5 t386 (t397 != t386) t377 t378 t380 t381 t383 t384)) else (intervalmonlaw03_FracOrder.j1 kj5 t386 false t377 t378 t380 t381 t383 t384)) else (intervalmonlaw03_FracOrder.j1 kj5 t386 false t377 t378 t380 t381 t383 t384)) = some r := H
    have A73 := Aside0.mk A730
    clear A730
    have HC74 := Aside0.mk H
    clear H
    have hnb75 := NB379_376.out
    have hnc75 := NB376_379.out
    have hnb76 := NB379_382.out
    have hnc76 := NB382_379.out
    have hnb77 := NB379_385.out
    have hnc77 := NB385_379.out
    have hcz78_0 : wc.cell? ⟨gb379, 0, none⟩ = some (.int .i64 t377) := (blk_cell BK379.out 0).trans rfl
    have hcz78_1 : wc.cell? ⟨gb379, 1, none⟩ = some (.int .i64 t378) := (blk_cell BK379.out 1).trans rfl
    have hfz78_0 := blk_frozen BK379.out 0
    have hfz78_1 := blk_frozen BK379.out 1
    have hnb79 := NB385_376.out
    have hnc79 := NB376_385.out
    have hnb80 := NB385_382.out
    have hnc80 := NB382_385.out
    have hcz81_0 : wc.cell? ⟨gb385, 0, none⟩ = some (.int .i64 t383) := (blk_cell BK385.out 0).trans rfl
    have hcz81_1 : wc.cell? ⟨gb385, 1, none⟩ = some (.int .i64 t384) := (blk_cell BK385.out 1).trans rfl
    have hfz81_0 := blk_frozen BK385.out 0
    have hfz81_1 := blk_frozen BK385.out 1
    go_upto_region 9 with (first | ((with_reducible refine gate_callee (f := 36) rfl ?_); refine goesL_ (some 54) rfl rfl Tryd.func36 (by kernel_rfl) rfl #[.agg #[.int .i64 t377, .int .i64 t378], .agg #[.int .i64 t383, .int .i64 t384]] rfl aq ?_; (with_reducible refine (frac_Add.calls kj5 t377 t378 t383 t384 t389 t390 t391 _ A72.out).mono ?_); rintro e w82 ⟨rfl, hb⟩; refine ⟨_, rfl, ?_⟩; have n0_ := bb BK376 hb; have n1_ := bb BK379 hb; have n2_ := bb BK382 hb; have n3_ := bb BK385 hb; have n4_ := Aside0.mk (below_step (hq HB) hb); clear BK376; clear BK379; clear BK382; clear BK385; clear HB; have BK376 := n0_; have BK379 := n1_; have BK382 := n2_; have BK385 := n3_; have HB := n4_; clear n0_ n1_ n2_ n3_ n4_; (try clear hb); (try clear hb2); (try clear hk); (try clear hi)) | ((with_reducible refine gate_dst (N := 7) rfl ?_); refine box_event ?hg (N := 7) ?hd (cs := #[.int .i64 0, .int .i64 0]) (t := 24) ?hr ?_; (case hd => rfl); (case hg => rfl); (case hr => first | (go_simp; done) | (go_simp; rfl)); intro gb392 hg w83 hbox hb; have n0_ := bb BK376 hb; have n1_ := bb BK379 hb; have n2_ := bb BK382 hb; have n3_ := bb BK385 hb; have n4_ := Aside0.mk (below_step (hq HB) hb); have n5_ := Aside0.mk (hbox); have n6_ := Aside0.mk ((by rw [hg]; exact (below_size (hq HB)) : w.heap.size ≤ gb392)); have n7_ := Aside0.mk ((by rw [hg]; exact (below_size (hq HB)) : w.heap.size ≤ gb392)); have n8_ := nl BK376 hg; have n9_ := ng BK376 hg; have n10_ := nl BK379 hg; have n11_ := ng BK379 hg; have n12_ := nl BK382 hg; have n13_ := ng BK382 hg; have n14_ := nl BK385 hg; have n15_ := ng BK385 hg; clear BK376; clear BK379; clear BK382; clear BK385; clear HB; have BK376 := n0_; have BK379 := n1_; have BK382 := n2_; have BK385 := n3_; have HB := n4_; have BK392 := n5_; have GW392 := n6_; have GE392 := n7_; have NB376_392 := n8_; have NB392_376 := n9_; have NB379_392 := n10_; have NB392_379 := n11_; have NB382_392 := n12_; have NB392_382 := n13_; have NB385_392 := n14_; have NB392_385 := n15_; clear n0_ n1_ n2_ n3_ n4_ n5_ n6_ n7_ n8_ n9_ n10_ n11_ n12_ n13_ n14_ n15_; clear hb hbox hg; have hnb84 := NB392_376.out; have hnc84 := NB376_392.out; have hnb85 := NB392_379.out; have hnc85 := NB379_392.out; have hnb86 := NB392_382.out; have hnc86 := NB382_392.out; have hnb87 := NB392_385.out; have hnc87 := NB385_392.out; have hcz88_0 : w83.cell? ⟨gb392, 0, none⟩ = some (.int .i64 0) := (blk_cell BK392.out 0).trans rfl; have hcz88_1 : w83.cell? ⟨gb392, 1, none⟩ = some (.int .i64 0) := (blk_cell BK392.out 1).trans rfl; have hfz88_0 := blk_frozen BK392.out 0; have hfz88_1 := blk_frozen BK392.out 1; have hnb89 := NB382_376.out; have hnc89 := NB376_382.out; have hcz90_0 : w83.cell? ⟨gb382, 0, none⟩ = some (.int .i64 t380) := (blk_cell BK382.out 0).trans rfl; have hcz90_1 : w83.cell? ⟨gb382, 1, none⟩ = some (.int .i64 t381) := (blk_cell BK382.out 1).trans rfl; have hfz90_0 := blk_frozen BK382.out 0; have hfz90_1 := blk_frozen BK382.out 1; have hcz91_0 : w83.cell? ⟨gb385, 0, none⟩ = some (.int .i64 t383) := (blk_cell BK385.out 0).trans rfl; have hcz91_1 : w83.cell? ⟨gb385, 1, none⟩ = some (.int .i64 t384) := (blk_cell BK385.out 1).trans rfl; have hfz91_0 := blk_frozen BK385.out 0; have hfz91_1 := blk_frozen BK385.out 1) | ((with_reducible refine gate_callee (f := 36) rfl ?_); refine goesL_ (some 60) rfl rfl Tryd.func36 (by kernel_rfl) rfl #[.agg #[.int .i64 t380, .int .i64 t381], .agg #[.int .i64 t383, .int .i64 t384]] rfl aq ?_; (with_reducible refine (frac_Add.calls kj5 t380 t381 t383 t384 t393 t394 t395 _ A73.out).mono ?_); rintro e w92 ⟨rfl, hb⟩; refine ⟨_, rfl, ?_⟩; have n0_ := Aside0.mk (blk_below (g := gb376) (o := .cells #[.int .i64 a0_0, .int .i64 a0_1, .int .i64 a0_2, .int .i64 a0_3, .int .i64 a0_4, .int .i64 a0_5] 52 (0, 0)) (by (with_reducible repeat (first | refine bN ?_ _ | refine bd ?_ | refine ba ?_ _)); refine blk_far ?_ NB376_392.out _; (with_reducible repeat (first | refine bN ?_ _ | refine bd ?_ | refine ba ?_ _)); refine blk_far ?_ NB376_392.out _; (with_reducible repeat (first | refine bN ?_ _ | refine bd ?_ | refine ba ?_ _)); exact BK376.out) hb); have n1_ := Aside0.mk (blk_below (g := gb379) (o := .cells #[.int .i64 t377, .int .i64 t378] 24 (0, 0)) (by (with_reducible repeat (first | refine bN ?_ _ | refine bd ?_ | refine ba ?_ _)); refine blk_far ?_ NB379_392.out _; (with_reducible repeat (first | refine bN ?_ _ | refine bd ?_ | refine ba ?_ _)); refine blk_far ?_ NB379_392.out _; (with_reducible repeat (first | refine bN ?_ _ | refine bd ?_ | refine ba ?_ _)); exact BK379.out) hb); have n2_ := Aside0.mk (blk_below (g := gb382) (o := .cells #[.int .i64 t380, .int .i64 t381] 24 (0, 0)) (by (with_reducible repeat (first | refine bN ?_ _ | refine bd ?_ | refine ba ?_ _)); refine blk_far ?_ NB382_392.out _; (with_reducible repeat (first | refine bN ?_ _ | refine bd ?_ | refine ba ?_ _)); refine blk_far ?_ NB382_392.out _; (with_reducible repeat (first | refine bN ?_ _ | refine bd ?_ | refine ba ?_ _)); exact BK382.out) hb); have n3_ := Aside0.mk (blk_below (g := gb385) (o := .cells #[.int .i64 t383, .int .i64 t384] 24 (0, 0)) (by (with_reducible repeat (first | refine bN ?_ _ | refine bd ?_ | refine ba ?_ _)); refine blk_far ?_ NB385_392.out _; (with_reducible repeat (first | refine bN ?_ _ | refine bd ?_ | refine ba ?_ _)); refine blk_far ?_ NB385_392.out _; (with_reducible repeat (first | refine bN ?_ _ | refine bd ?_ | refine ba ?_ _)); exact BK385.out) hb); have n4_ := Aside0.mk (blk_below (g := gb392) (o := .cells #[.int .i64 t389, .int .i64 t390] 24 (0, 0)) (by (with_reducible repeat (first | refine bN ?_ _ | refine bd ?_ | refine ba ?_ _)); refine blk_put (cs := #[.int .i64 t389, .int .i64 0]) ?_ 1 _ rfl; (with_reducible repeat (first | refine bN ?_ _ | refine bd ?_ | refine ba ?_ _)); refine blk_put (cs := #[.int .i64 0, .int .i64 0]) ?_ 0 _ rfl; (with_reducible repeat (first | refine bN ?_ _ | refine bd ?_ | refine ba ?_ _)); exact BK392.out) hb); have n5_ := Aside0.mk (below_step (hq HB) hb); clear BK376; clear BK379; clear BK382; clear BK385; clear BK392; clear HB; have BK376 := n0_; have BK379 := n1_; have BK382 := n2_; have BK385 := n3_; have BK392 := n4_; have HB := n5_; clear n0_ n1_ n2_ n3_ n4_ n5_; (try clear hb); (try clear hb2); (try clear hk); (try clear hi)) | ((with_reducible refine gate_dst (N := 9) rfl ?_); refine box_event ?hg (N := 9) ?hd (cs := #[.int .i64 0, .int .i64 0]) (t := 24) ?hr ?_; (case hd => rfl); (case hg => rfl); (case hr => first | (go_simp; done) | (go_simp; rfl)); intro gb396 hg w93 hbox hb; have n0_ := bb BK376 hb; have n1_ := bb BK379 hb; have n2_ := bb BK382 hb; have n3_ := bb BK385 hb; have n4_ := bb BK392 hb; have n5_ := Aside0.mk (below_step (hq HB) hb); have n6_ := Aside0.mk (hbox); have n7_ := Aside0.mk ((by rw [hg]; exact (below_size (hq HB)) : w.heap.size ≤ gb396)); have n8_ := Aside0.mk ((by rw [hg]; exact (below_size (hq HB)) : w.heap.size ≤ gb396)); have n9_ := nl BK376 hg; have n10_ := ng BK376 hg; have n11_ := nl BK379 hg; have n12_ := ng BK379 hg; have n13_ := nl BK382 hg; have n14_ := ng BK382 hg; have n15_ := nl BK385 hg; have n16_ := ng BK385 hg; have n17_ := nl BK392 hg; have n18_ := ng BK392 hg; clear BK376; clear BK379; clear BK382; clear BK385; clear BK392; clear HB; have BK376 := n0_; have BK379 := n1_; have BK382 := n2_; have BK385 := n3_; have BK392 := n4_; have HB := n5_; have BK396 := n6_; have GW396 := n7_; have GE396 := n8_; have NB376_396 := n9_; have NB396_376 := n10_; have NB379_396 := n11_; have NB396_379 := n12_; have NB382_396 := n13_; have NB396_382 := n14_; have NB385_396 := n15_; have NB396_385 := n16_; have NB392_396 := n17_; have NB396_392 := n18_; clear n0_ n1_ n2_ n3_ n4_ n5_ n6_ n7_ n8_ n9_ n10_ n11_ n12_ n13_ n14_ n15_ n16_ n17_ n18_; clear hb hbox hg; have hnb94 := NB396_376.out; have hnc94 := NB376_396.out; have hnb95 := NB396_379.out; have hnc95 := NB379_396.out; have hnb96 := NB396_382.out; have hnc96 := NB382_396.out; have hnb97 := NB396_385.out; have hnc97 := NB385_396.out; have hnb98 := NB396_392.out; have hnc98 := NB392_396.out; have hcz99_0 : w93.cell? ⟨gb396, 0, none⟩ = some (.int .i64 0) := (blk_cell BK396.out 0).trans rfl; have hcz99_1 : w93.cell? ⟨gb396, 1, none⟩ = some (.int .i64 0) := (blk_cell BK396.out 1).trans rfl; have hfz99_0 := blk_frozen BK396.out 0; have hfz99_1 := blk_frozen BK396.out 1))
    (try simp only [Act.put, List.setIfInBounds_toArray, List.set_cons_zero, List.set_cons_succ])
    go_cut [75] (fun v75 wc => ∃ (kq : Nat) (x75_73 : Bool), v75 = .bool x75_73 ∧ Aside0 (intervalmonlaw03_FracOrder.j1 kq t386 x75_73 t377 t378 t380 t381 t383 t384 = some r) ∧ Aside0 (kq ≤ kj5) ∧ Aside0 (wc.heap[gb376]? = some (.cells #[.int .i64 a0_0, .int .i64 a0_1, .int .i64 a0_2, .int .i64 a0_3, .int .i64 a0_4, .int .i64 a0_5] 52 (0, 0))) ∧ Aside0 (wc.heap[gb379]? = some (.cells #[.int .i64 t377, .int .i64 t378] 24 (0, 0))) ∧ Aside0 (wc.heap[gb382]? = some (.cells #[.int .i64 t380, .int .i64 t381] 24 (0, 0))) ∧ Aside0 (wc.heap[gb385]? = some (.cells #[.int .i64 t383, .int .i64 t384] 24 (0, 0))) ∧ Aside0 (wc.heap[gb392]? = some (.cells #[.int .i64 t389, .int .i64 t390] 24 (0, 0))) ∧ Aside0 (wc.heap[gb396]? = some (.cells #[.int .i64 t393, .int .i64 t394] 24 (0, 0))) ∧ Aside0 (Below w.heap.size w wc))
    case first =>
     have H := HC74.out
     clear HC74
     by_cases c100 : t391 = 0
     ·rw [if_pos c100] at H
      have c100b0 : (t391 == 0) = true := beq_iff_eq.mpr c100
      have c100b1 : (t391 != 0) = false := bne_eq_false_iff_eq.mpr c100
      clear c100
      (first | rw [c100b0] | (simp only [i64_w, i32_w]; rw [c100b0]) | skip)
      by_cases c101 : t395 = 0
      ·rw [if_pos c101] at H
       have c101b0 : (t395 == 0) = true := beq_iff_eq.mpr c101
       have c101b1 : (t395 != 0) = false := bne_eq_false_iff_eq.mpr c101
       clear c101
       replace H := Option.bind_eq_some_iff.mp H
       obtain ⟨t397, A1020, H⟩ := H
       replace H : (intervalmonlaw03_FracOrder.j1 kj5 t386 (t397 != t386) t377 t378 t380 t381 t383 t384) = some r := H
       have A102 := Aside0.mk A1020
       clear A1020
       have H' := Aside0.mk H
       clear H
       have hnb103 := NB392_376.out
       have hnc103 := NB376_392.out
       have hnb104 := NB392_379.out
       have hnc104 := NB379_392.out
       have hnb105 := NB392_382.out
       have hnc105 := NB382_392.out
       have hnb106 := NB392_385.out
       have hnc106 := NB385_392.out
       have hnb107 := NB392_396.out
       have hnc107 := NB396_392.out
       have hcz108_0 : w93.cell? ⟨gb392, 0, none⟩ = some (.int .i64 t389) := (blk_cell BK392.out 0).trans rfl
       have hcz108_1 : w93.cell? ⟨gb392, 1, none⟩ = some (.int .i64 t390) := (blk_cell BK392.out 1).trans rfl
       have hfz108_0 := blk_frozen BK392.out 0
       have hfz108_1 := blk_frozen BK392.out 1
       have hnb109 := NB396_376.out
       have hnc109 := NB376_396.out
       have hnb110 := NB396_379.out
       have hnc110 := NB379_396.out
       have hnb111 := NB396_382.out
       have hnc111 := NB382_396.out
       have hnb112 := NB396_385.out
       have hnc112 := NB385_396.out
       have hcz113_0 : w93.cell? ⟨gb396, 0, none⟩ = some (.int .i64 0) := (blk_cell BK396.out 0).trans rfl
       have hcz113_1 : w93.cell? ⟨gb396, 1, none⟩ = some (.int .i64 0) := (blk_cell BK396.out 1).trans rfl
       have hfz113_0 := blk_frozen BK396.out 0
       have hfz113_1 := blk_frozen BK396.out 1
       go_wp2_with (first | (go_at_call 35; (with_reducible refine (frac_Compare.calls kj5 t389 t390 t393 t394 t397 _ A102.out).mono ?_); rintro e w114 ⟨rfl, hb⟩; have n0_ := Aside0.mk (blk_below (g := gb376) (o := .cells #[.int .i64 a0_0, .int .i64 a0_1, .int .i64 a0_2, .int .i64 a0_3, .int .i64 a0_4, .int .i64 a0_5] 52 (0, 0)) (by (with_reducible repeat (first | refine bN ?_ _ | refine bd ?_ | refine ba ?_ _)); refine blk_far ?_ NB376_396.out _; (with_reducible repeat (first | refine bN ?_ _ | refine bd ?_ | refine ba ?_ _)); refine blk_far ?_ NB376_396.out _; (with_reducible repeat (first | refine bN ?_ _ | refine bd ?_ | refine ba ?_ _)); exact BK376.out) hb); have n1_ := Aside0.mk (blk_below (g := gb379) (o := .cells #[.int .i64 t377, .int .i64 t378] 24 (0, 0)) (by (with_reducible repeat (first | refine bN ?_ _ | refine bd ?_ | refine ba ?_ _)); refine blk_far ?_ NB379_396.out _; (with_reducible repeat (first | refine bN ?_ _ | refine bd ?_ | refine ba ?_ _)); refine blk_far ?_ NB379_396.out _; (with_reducible repeat (first | refine bN ?_ _ | refine bd ?_ | refine ba ?_ _)); exact BK379.out) hb); have n2_ := Aside0.mk (blk_below (g := gb382) (o := .cells #[.int .i64 t380, .int .i64 t381] 24 (0, 0)) (by (with_reducible repeat (first | refine bN ?_ _ | refine bd ?_ | refine ba ?_ _)); refine blk_far ?_ NB382_396.out _; (with_reducible repeat (first | refine bN ?_ _ | refine bd ?_ | refine ba ?_ _)); refine blk_far ?_ NB382_396.out _; (with_reducible repeat (first | refine bN ?_ _ | refine bd ?_ | refine ba ?_ _)); exact BK382.out) hb); have n3_ := Aside0.mk (blk_below (g := gb385) (o := .cells #[.int .i64 t383, .int .i64 t384] 24 (0, 0)) (by (with_reducible repeat (first | refine bN ?_ _ | refine bd ?_ | refine ba ?_ _)); refine blk_far ?_ NB385_396.out _; (with_reducible repeat (first | refine bN ?_ _ | refine bd ?_ | refine ba ?_ _)); refine blk_far ?_ NB385_396.out _; (with_reducible repeat (first | refine bN ?_ _ | refine bd ?_ | refine ba ?_ _)); exact BK385.out) hb); have n4_ := Aside0.mk (blk_below (g := gb392) (o := .cells #[.int .i64 t389, .int .i64 t390] 24 (0, 0)) (by (with_reducible repeat (first | refine bN ?_ _ | refine bd ?_ | refine ba ?_ _)); refine blk_far ?_ NB392_396.out _; (with_reducible repeat (first | refine bN ?_ _ | refine bd ?_ | refine ba ?_ _)); refine blk_far ?_ NB392_396.out _; (with_reducible repeat (first | refine bN ?_ _ | refine bd ?_ | refine ba ?_ _)); exact BK392.out) hb); have n5_ := Aside0.mk (blk_below (g := gb396) (o := .cells #[.int .i64 t393, .int .i64 t394] 24 (0, 0)) (by (with_reducible repeat (first | refine bN ?_ _ | refine bd ?_ | refine ba ?_ _)); refine blk_put (cs := #[.int .i64 t393, .int .i64 0]) ?_ 1 _ rfl; (with_reducible repeat (first | refine bN ?_ _ | refine bd ?_ | refine ba ?_ _)); refine blk_put (cs := #[.int .i64 0, .int .i64 0]) ?_ 0 _ rfl; (with_reducible repeat (first | refine bN ?_ _ | refine bd ?_ | refine ba ?_ _)); exact BK396.out) hb); have n6_ := Aside0.mk (below_step (hq HB) hb); clear BK376; clear BK379; clear BK382; clear BK385; clear BK392; clear BK396; clear HB; have BK376 := n0_; have BK379 := n1_; have BK382 := n2_; have BK385 := n3_; have BK392 := n4_; have BK396 := n5_; have HB := n6_; clear n0_ n1_ n2_ n3_ n4_ n5_ n6_; (try clear hb); (try clear hb2); (try clear hk); (try clear hi)))
       go_meet
       case rel => exact ⟨_, ((t397 != t386)), (by first | rfl | (simp; done) | (simp [*]; done)), H', ⟨by have := HJ5.out; first | omega | exact Nat.le_refl _⟩, ⟨by (with_reducible repeat (first | refine bN ?_ _ | refine bd ?_ | refine ba ?_ _)); exact BK376.out⟩, ⟨by (with_reducible repeat (first | refine bN ?_ _ | refine bd ?_ | refine ba ?_ _)); exact BK379.out⟩, ⟨by (with_reducible repeat (first | refine bN ?_ _ | refine bd ?_ | refine ba ?_ _)); exact BK382.out⟩, ⟨by (with_reducible repeat (first | refine bN ?_ _ | refine bd ?_ | refine ba ?_ _)); exact BK385.out⟩, ⟨by (with_reducible repeat (first | refine bN ?_ _ | refine bd ?_ | refine ba ?_ _)); exact BK392.out⟩, ⟨by (with_reducible repeat (first | refine bN ?_ _ | refine bd ?_ | refine ba ?_ _)); exact BK396.out⟩, ⟨by repeat (first | (with_reducible first | exact HB.out | apply below_alloc | apply pw_below_drewN | apply below_drew1 | refine below_set ?_ GE376.out | refine below_set ?_ GE379.out | refine below_set ?_ GE382.out | refine below_set ?_ GE385.out | refine below_set ?_ GE392.out | refine below_set ?_ GE396.out) | exact HB.out)⟩⟩
      ·rw [if_neg c101] at H
       have c101b0 : (t395 == 0) = false := beq_eq_false_iff_ne.mpr c101
       have c101b1 : (t395 != 0) = true := bne_iff_ne.mpr c101
       have H' := Aside0.mk H
       clear H
       go_wp2
       go_meet
       case rel => exact ⟨_, (false), (by first | rfl | (simp; done) | (simp [*]; done)), H', ⟨by have := HJ5.out; first | omega | exact Nat.le_refl _⟩, ⟨by (with_reducible repeat (first | refine bN ?_ _ | refine bd ?_ | refine ba ?_ _)); refine blk_far ?_ NB376_396.out _; (with_reducible repeat (first | refine bN ?_ _ | refine bd ?_ | refine ba ?_ _)); refine blk_far ?_ NB376_396.out _; (with_reducible repeat (first | refine bN ?_ _ | refine bd ?_ | refine ba ?_ _)); exact BK376.out⟩, ⟨by (with_reducible repeat (first | refine bN ?_ _ | refine bd ?_ | refine ba ?_ _)); refine blk_far ?_ NB379_396.out _; (with_reducible repeat (first | refine bN ?_ _ | refine bd ?_ | refine ba ?_ _)); refine blk_far ?_ NB379_396.out _; (with_reducible repeat (first | refine bN ?_ _ | refine bd ?_ | refine ba ?_ _)); exact BK379.out⟩, ⟨by (with_reducible repeat (first | refine bN ?_ _ | refine bd ?_ | refine ba ?_ _)); refine blk_far ?_ NB382_396.out _; (with_reducible repeat (first | refine bN ?_ _ | refine bd ?_ | refine ba ?_ _)); refine blk_far ?_ NB382_396.out _; (with_reducible repeat (first | refine bN ?_ _ | refine bd ?_ | refine ba ?_ _)); exact BK382.out⟩, ⟨by (with_reducible repeat (first | refine bN ?_ _ | refine bd ?_ | refine ba ?_ _)); refine blk_far ?_ NB385_396.out _; (with_reducible repeat (first | refine bN ?_ _ | refine bd ?_ | refine ba ?_ _)); refine blk_far ?_ NB385_396.out _; (with_reducible repeat (first | refine bN ?_ _ | refine bd ?_ | refine ba ?_ _)); exact BK385.out⟩, ⟨by (with_reducible repeat (first | refine bN ?_ _ | refine bd ?_ | refine ba ?_ _)); refine blk_far ?_ NB392_396.out _; (with_reducible repeat (first | refine bN ?_ _ | refine bd ?_ | refine ba ?_ _)); refine blk_far ?_ NB392_396.out _; (with_reducible repeat (first | refine bN ?_ _ | refine bd ?_ | refine ba ?_ _)); exact BK392.out⟩, ⟨by (with_reducible repeat (first | refine bN ?_ _ | refine bd ?_ | refine ba ?_ _)); refine blk_put (cs := #[.int .i64 t393, .int .i64 0]) ?_ 1 _ rfl; (with_reducible repeat (first | refine bN ?_ _ | refine bd ?_ | refine ba ?_ _)); refine blk_put (cs := #[.int .i64 0, .int .i64 0]) ?_ 0 _ rfl; (with_reducible repeat (first | refine bN ?_ _ | refine bd ?_ | refine ba ?_ _)); exact BK396.out⟩, ⟨by repeat (first | (with_reducible first | exact HB.out | apply below_alloc | apply pw_below_drewN | apply below_drew1 | refine below_set ?_ GE376.out | refine below_set ?_ GE379.out | refine below_set ?_ GE382.out | refine below_set ?_ GE385.out | refine below_set ?_ GE392.out | refine below_set ?_ GE396.out) | exact HB.out)⟩⟩
     ·rw [if_neg c100] at H
      have c100b0 : (t391 == 0) = false := beq_eq_false_iff_ne.mpr c100
      have c100b1 : (t391 != 0) = true := bne_iff_ne.mpr c100
      (first | rw [c100b0] | (simp only [i64_w, i32_w]; rw [c100b0]) | skip)
      have H' := Aside0.mk H
      clear H
      go_wp2
      go_meet
      case rel => exact ⟨_, (false), (by first | rfl | (simp; done) | (simp [*]; done)), H', ⟨by have := HJ5.out; first | omega | exact Nat.le_refl _⟩, ⟨by (with_reducible repeat (first | refine bN ?_ _ | refine bd ?_ | refine ba ?_ _)); refine blk_far ?_ NB376_396.out _; (with_reducible repeat (first | refine bN ?_ _ | refine bd ?_ | refine ba ?_ _)); refine blk_far ?_ NB376_396.out _; (with_reducible repeat (first | refine bN ?_ _ | refine bd ?_ | refine ba ?_ _)); exact BK376.out⟩, ⟨by (with_reducible repeat (first | refine bN ?_ _ | refine bd ?_ | refine ba ?_ _)); refine blk_far ?_ NB379_396.out _; (with_reducible repeat (first | refine bN ?_ _ | refine bd ?_ | refine ba ?_ _)); refine blk_far ?_ NB379_396.out _; (with_reducible repeat (first | refine bN ?_ _ | refine bd ?_ | refine ba ?_ _)); exact BK379.out⟩, ⟨by (with_reducible repeat (first | refine bN ?_ _ | refine bd ?_ | refine ba ?_ _)); refine blk_far ?_ NB382_396.out _; (with_reducible repeat (first | refine bN ?_ _ | refine bd ?_ | refine ba ?_ _)); refine blk_far ?_ NB382_396.out _; (with_reducible repeat (first | refine bN ?_ _ | refine bd ?_ | refine ba ?_ _)); exact BK382.out⟩, ⟨by (with_reducible repeat (first | refine bN ?_ _ | refine bd ?_ | refine ba ?_ _)); refine blk_far ?_ NB385_396.out _; (with_reducible repeat (first | refine bN ?_ _ | refine bd ?_ | refine ba ?_ _)); refine blk_far ?_ NB385_396.out _; (with_reducible repeat (first | refine bN ?_ _ | refine bd ?_ | refine ba ?_ _)); exact BK385.out⟩, ⟨by (with_reducible repeat (first | refine bN ?_ _ | refine bd ?_ | refine ba ?_ _)); refine blk_far ?_ NB392_396.out _; (with_reducible repeat (first | refine bN ?_ _ | refine bd ?_ | refine ba ?_ _)); refine blk_far ?_ NB392_396.out _; (with_reducible repeat (first | refine bN ?_ _ | refine bd ?_ | refine ba ?_ _)); exact BK392.out⟩, ⟨by (with_reducible repeat (first | refine bN ?_ _ | refine bd ?_ | refine ba ?_ _)); refine blk_put (cs := #[.int .i64 t393, .int .i64 0]) ?_ 1 _ rfl; (with_reducible repeat (first | refine bN ?_ _ | refine bd ?_ | refine ba ?_ _)); refine blk_put (cs := #[.int .i64 0, .int .i64 0]) ?_ 0 _ rfl; (with_reducible repeat (first | refine bN ?_ _ | refine bd ?_ | refine ba ?_ _)); exact BK396.out⟩, ⟨by repeat (first | (with_reducible first | exact HB.out | apply below_alloc | apply pw_below_drewN | apply below_drew1 | refine below_set ?_ GE376.out | refine below_set ?_ GE379.out | refine below_set ?_ GE382.out | refine below_set ?_ GE385.out | refine below_set ?_ GE392.out | refine below_set ?_ GE396.out) | exact HB.out)⟩⟩
    case rest =>
     clear HC74
     try clear c1
     try clear c2
     try clear p2
     try clear c3
     try clear c4
     try clear c5
     try clear c6
     try clear c7
     try clear c8
     try clear c9
     try clear c10
     try clear c11
     try clear c13
     try clear c16
     try clear c17
     try clear c22
     try clear c23
     try clear c24
     try clear c29
     try clear c29b0
     try clear c29b1
     try clear c29b2
     try clear c30
     try clear c31
     try clear c32
     try clear c34
     try clear c35
     try clear c36
     try clear c37
     try clear c37b0
     try clear c39
     try clear c39b0
     try clear c41
     try clear c42
     try clear c43
     try clear c45
     try clear c46
     try clear c48
     try clear c54
     try clear c55
     try clear c56
     try clear c58
     try clear c59
     try clear c61
     try clear c64
     try clear c65
     try clear c66
     try clear c68
     try clear c69
     try clear c71
     try clear c75
     try clear c76
     try clear c77
     try clear c79
     try clear c80
     try clear c84
     try clear c85
     try clear c86
     try clear c87
     try clear c89
     try clear c94
     try clear c95
     try clear c96
     try clear c97
     try clear c98
     try clear c100
     try clear c100b0
     try clear c100b1
     try clear c101
     try clear c101b0
     try clear c101b1
     try clear c103
     try clear c104
     try clear c105
     try clear c106
     try clear c107
     try clear c109
     try clear c110
     try clear c111
     try clear c112
     try clear hcz108_0
     try clear hcz108_1
     try clear hcz113_0
     try clear hcz113_1
     try clear hcz12_0
     try clear hcz12_1
     try clear hcz13_0
     try clear hcz13_1
     try clear hcz13_2
     try clear hcz13_3
     try clear hcz13_4
     try clear hcz13_5
     try clear hcz18_0
     try clear hcz18_1
     try clear hcz19_0
     try clear hcz19_1
     try clear hcz19_2
     try clear hcz19_3
     try clear hcz19_4
     try clear hcz19_5
     try clear hcz25_0
     try clear hcz25_1
     try clear hcz26_0
     try clear hcz26_1
     try clear hcz27_0
     try clear hcz27_1
     try clear hcz33_0
     try clear hcz33_1
     try clear hcz36_0
     try clear hcz36_1
     try clear hcz44_0
     try clear hcz44_1
     try clear hcz47_0
     try clear hcz47_1
     try clear hcz49_0
     try clear hcz49_1
     try clear hcz51_0
     try clear hcz51_1
     try clear hcz52_0
     try clear hcz52_1
     try clear hcz57_0
     try clear hcz57_1
     try clear hcz60_0
     try clear hcz60_1
     try clear hcz62_0
     try clear hcz62_1
     try clear hcz67_0
     try clear hcz67_1
     try clear hcz70_0
     try clear hcz70_1
     try clear hcz78_0
     try clear hcz78_1
     try clear hcz81_0
     try clear hcz81_1
     try clear hcz88_0
     try clear hcz88_1
     try clear hcz8_0
     try clear hcz8_1
     try clear hcz8_2
     try clear hcz8_3
     try clear hcz8_4
     try clear hcz8_5
     try clear hcz90_0
     try clear hcz90_1
     try clear hcz91_0
     try clear hcz91_1
     try clear hcz99_0
     try clear hcz99_1
     try clear hfz108_0
     try clear hfz108_1
     try clear hfz113_0
     try clear hfz113_1
     try clear hfz12_0
     try clear hfz12_1
     try clear hfz13_0
     try clear hfz13_1
     try clear hfz13_2
     try clear hfz13_3
     try clear hfz13_4
     try clear hfz13_5
     try clear hfz18_0
     try clear hfz18_1
     try clear hfz19_0
     try clear hfz19_1
     try clear hfz19_2
     try clear hfz19_3
     try clear hfz19_4
     try clear hfz19_5
     try clear hfz25_0
     try clear hfz25_1
     try clear hfz26_0
     try clear hfz26_1
     try clear hfz27_0
     try clear hfz27_1
     try clear hfz33_0
     try clear hfz33_1
     try clear hfz36_0
     try clear hfz36_1
     try clear hfz44_0
     try clear hfz44_1
     try clear hfz47_0
     try clear hfz47_1
     try clear hfz49_0
     try clear hfz49_1
     try clear hfz51_0
     try clear hfz51_1
     try clear hfz52_0
     try clear hfz52_1
     try clear hfz57_0
     try clear hfz57_1
     try clear hfz60_0
     try clear hfz60_1
     try clear hfz62_0
     try clear hfz62_1
     try clear hfz67_0
     try clear hfz67_1
     try clear hfz70_0
     try clear hfz70_1
     try clear hfz78_0
     try clear hfz78_1
     try clear hfz81_0
     try clear hfz81_1
     try clear hfz88_0
     try clear hfz88_1
     try clear hfz8_0
     try clear hfz8_1
     try clear hfz8_2
     try clear hfz8_3
     try clear hfz8_4
     try clear hfz8_5
     try clear hfz90_0
     try clear hfz90_1
     try clear hfz91_0
     try clear hfz91_1
     try clear hfz99_0
     try clear hfz99_1
     try clear p2
     obtain ⟨kq, x75_73, rfl, HA, HJ73, BK376, BK379, BK382, BK385, BK392, BK396, HB⟩ := hcut
     cases kq with
     | zero => exact absurd HA.out (by simp [intervalmonlaw03_FracOrder.j1])
     | succ kj73 =>
      have H := HA.out
      clear HA
      simp only [intervalmonlaw03_FracOrder.j1] at H
      by_cases c115 : x75_73 = true
      ·subst c115
       have H1 : (some false) = some r := by rw [if_pos rfl] at H; exact H
       clear H
       have H := H1
       clear H1
       exact absurd ((Option.some.inj H).trans HT0.out) (by decide)
      ·replace c115 := Bool.eq_false_iff.mpr c115
       subst c115
       have H1 : ((frac_Mul.f kj73 t377 t378 t383 t384).bind fun bt398 => ((frac_Mul.f kj73 t380 t381 t383 t384).bind fun bt401 => (if bt398.2.2 = 0 then (if bt401.2.2 = 0 then (if t383 ≤ 0 then ((intervalmonlaw03_lives.f kj73).bind fun t404 => (some t404)) else ((frac_Compare.f kj73 bt398.1 bt398.2.1 bt401.1 bt401.2.1).bind fun t405 => (if t405 = t386 then ((intervalmonlaw03_lives.f kj73).bind fun t406 => (some t406)) else (some false)))) else ((intervalmonlaw03_lives.f kj73).bind fun t407 => (some t407))) else ((intervalmonlaw03_lives.f kj73).bind fun t408 => (some t408))))) = some r := by rw [if_neg (show ¬ (false = true) by decide)] at H; exact H
       clear H
       have H := H1
       clear H1
       replace H := Option.bind_eq_some_iff.mp H
       obtain ⟨⟨t398, t399, t400⟩, A1160, H⟩ := H
       replace H : ((frac_Mul.f kj73 t380 t381 t383 t384).bind fun bt401 => (if t400 = 0 then (if bt401.2.2 = 0 then (if t383 ≤ 0 then ((intervalmonlaw03_lives.f kj73).bind fun t404 => (some t404)) else ((frac_Compare.f kj73 t398 t399 bt401.1 bt401.2.1).bind fun t405 => (if t405 = t386 then ((intervalmonlaw03_lives.f kj73).bind fun t406 => (some t406)) else (some false)))) else ((intervalmonlaw03_lives.f kj73).bind fun t407 => (some t407))) else ((intervalmonlaw03_lives.f kj73).bind fun t408 => (some t408)))) = some r := H
       have A116 := Aside0.mk A1160
       clear A1160
       replace H := Option.bind_eq_some_iff.mp H
       obtain ⟨⟨t401, t402, t403⟩, A1170, H⟩ := H
       replace H : (if t400 = 0 then (if t403 = 0 then (if t383 ≤ 0 then ((intervalmonlaw03_lives.f kj73).bind fun t404 => (some t404)) else ((frac_Compare.f kj73 t398 t399 t401 t402).bind fun t405 => (if t405 = t386 then ((intervalmonlaw03_lives.f kj73).bind fun t406 => (some t406)) else (some false)))) else ((intervalmonlaw03_lives.f kj73).bind fun t407 => (some t407))) else ((intervalmonlaw03_lives.f kj73).bind fun t408 => (some t408))) = some r := H
       have A117 := Aside0.mk A1170
       clear A1170
       by_cases c118 : t400 = 0
       ·rw [if_pos c118] at H
        have c118b0 : (t400 == 0) = true := beq_iff_eq.mpr c118
        have c118b1 : (t400 != 0) = false := bne_eq_false_iff_eq.mpr c118
        clear c118
        by_cases c119 : t403 = 0
        ·rw [if_pos c119] at H
         have c119b0 : (t403 == 0) = true := beq_iff_eq.mpr c119
         have c119b1 : (t403 != 0) = false := bne_eq_false_iff_eq.mpr c119
         clear c119
         by_cases c120 : t383 ≤ 0
         ·rw [if_pos c120] at H
          have c120b0 : decide (t383 ≤ 0) = true := decide_eq_true c120
          clear c120
          replace H := Option.bind_eq_some_iff.mp H
          obtain ⟨t404, A1210, H⟩ := H
          replace H : (some t404) = some r := H
          have A121 := Aside0.mk A1210
          clear A1210
          obtain rfl := Option.some.inj H
          have hnb122 := NB379_376.out
          have hnc122 := NB376_379.out
          have hnb123 := NB379_382.out
          have hnc123 := NB382_379.out
          have hnb124 := NB379_385.out
          have hnc124 := NB385_379.out
          have hnb125 := NB379_392.out
          have hnc125 := NB392_379.out
          have hnb126 := NB379_396.out
          have hnc126 := NB396_379.out
          have hcz127_0 : wc.cell? ⟨gb379, 0, none⟩ = some (.int .i64 t377) := (blk_cell BK379.out 0).trans rfl
          have hcz127_1 : wc.cell? ⟨gb379, 1, none⟩ = some (.int .i64 t378) := (blk_cell BK379.out 1).trans rfl
          have hfz127_0 := blk_frozen BK379.out 0
          have hfz127_1 := blk_frozen BK379.out 1
          have hnb128 := NB385_376.out
          have hnc128 := NB376_385.out
          have hnb129 := NB385_382.out
          have hnc129 := NB382_385.out
          have hnb130 := NB385_392.out
          have hnc130 := NB392_385.out
          have hnb131 := NB385_396.out
          have hnc131 := NB396_385.out
          have hcz132_0 : wc.cell? ⟨gb385, 0, none⟩ = some (.int .i64 t383) := (blk_cell BK385.out 0).trans rfl
          have hcz132_1 : wc.cell? ⟨gb385, 1, none⟩ = some (.int .i64 t384) := (blk_cell BK385.out 1).trans rfl
          have hfz132_0 := blk_frozen BK385.out 0
          have hfz132_1 := blk_frozen BK385.out 1
          go_wp2_with (first | ((with_reducible refine gate_callee (f := 28) rfl ?_); refine goesL_ (some 79) rfl rfl Tryd.func28 (by kernel_rfl) rfl #[.agg #[.int .i64 t377, .int .i64 t378], .agg #[.int .i64 t383, .int .i64 t384]] rfl aq ?_; (with_reducible refine (frac_Mul.calls kj73 t377 t378 t383 t384 t398 t399 t400 _ A116.out).mono ?_); rintro e w133 ⟨rfl, hb⟩; refine ⟨_, rfl, ?_⟩; have n0_ := bb BK376 hb; have n1_ := bb BK379 hb; have n2_ := bb BK382 hb; have n3_ := bb BK385 hb; have n4_ := bb BK392 hb; have n5_ := bb BK396 hb; have n6_ := Aside0.mk (below_step (hq HB) hb); clear BK376; clear BK379; clear BK382; clear BK385; clear BK392; clear BK396; clear HB; have BK376 := n0_; have BK379 := n1_; have BK382 := n2_; have BK385 := n3_; have BK392 := n4_; have BK396 := n5_; have HB := n6_; clear n0_ n1_ n2_ n3_ n4_ n5_ n6_; (try clear hb); (try clear hb2); (try clear hk); (try clear hi); have hnb134 := NB392_376.out; have hnc134 := NB376_392.out; have hnb135 := NB392_382.out; have hnc135 := NB382_392.out; have hnb136 := NB392_396.out; have hnc136 := NB396_392.out; have hcz137_0 : w133.cell? ⟨gb392, 0, none⟩ = some (.int .i64 t389) := (blk_cell BK392.out 0).trans rfl; have hcz137_1 : w133.cell? ⟨gb392, 1, none⟩ = some (.int .i64 t390) := (blk_cell BK392.out 1).trans rfl; have hfz137_0 := blk_frozen BK392.out 0; have hfz137_1 := blk_frozen BK392.out 1; have hnb138 := NB382_376.out; have hnc138 := NB376_382.out; have hnb139 := NB382_396.out; have hnc139 := NB396_382.out; have hcz140_0 : w133.cell? ⟨gb382, 0, none⟩ = some (.int .i64 t380) := (blk_cell BK382.out 0).trans rfl; have hcz140_1 : w133.cell? ⟨gb382, 1, none⟩ = some (.int .i64 t381) := (blk_cell BK382.out 1).trans rfl; have hfz140_0 := blk_frozen BK382.out 0; have hfz140_1 := blk_frozen BK382.out 1; have hcz141_0 : w133.cell? ⟨gb385, 0, none⟩ = some (.int .i64 t383) := (blk_cell BK385.out 0).trans rfl; have hcz141_1 : w133.cell? ⟨gb385, 1, none⟩ = some (.int .i64 t384) := (blk_cell BK385.out 1).trans rfl; have hfz141_0 := blk_frozen BK385.out 0; have hfz141_1 := blk_frozen BK385.out 1) | ((with_reducible refine gate_callee (f := 28) rfl ?_); refine goesL_ (some 85) rfl rfl Tryd.func28 (by kernel_rfl) rfl #[.agg #[.int .i64 t380, .int .i64 t381], .agg #[.int .i64 t383, .int .i64 t384]] rfl aq ?_; (with_reducible refine (frac_Mul.calls kj73 t380 t381 t383 t384 t401 t402 t403 _ A117.out).mono ?_); rintro e w142 ⟨rfl, hb⟩; refine ⟨_, rfl, ?_⟩; have n0_ := Aside0.mk (blk_below (g := gb376) (o := .cells #[.int .i64 a0_0, .int .i64 a0_1, .int .i64 a0_2, .int .i64 a0_3, .int .i64 a0_4, .int .i64 a0_5] 52 (0, 0)) (by (with_reducible repeat (first | refine bN ?_ _ | refine bd ?_ | refine ba ?_ _)); refine blk_far ?_ NB376_392.out _; (with_reducible repeat (first | refine bN ?_ _ | refine bd ?_ | refine ba ?_ _)); refine blk_far ?_ NB376_392.out _; (with_reducible repeat (first | refine bN ?_ _ | refine bd ?_ | refine ba ?_ _)); exact BK376.out) hb); have n1_ := Aside0.mk (blk_below (g := gb379) (o := .cells #[.int .i64 t377, .int .i64 t378] 24 (0, 0)) (by (with_reducible repeat (first | refine bN ?_ _ | refine bd ?_ | refine ba ?_ _)); refine blk_far ?_ NB379_392.out _; (with_reducible repeat (first | refine bN ?_ _ | refine bd ?_ | refine ba ?_ _)); refine blk_far ?_ NB379_392.out _; (with_reducible repeat (first | refine bN ?_ _ | refine bd ?_ | refine ba ?_ _)); exact BK379.out) hb); have n2_ := Aside0.mk (blk_below (g := gb382) (o := .cells #[.int .i64 t380, .int .i64 t381] 24 (0, 0)) (by (with_reducible repeat (first | refine bN ?_ _ | refine bd ?_ | refine ba ?_ _)); refine blk_far ?_ NB382_392.out _; (with_reducible repeat (first | refine bN ?_ _ | refine bd ?_ | refine ba ?_ _)); refine blk_far ?_ NB382_392.out _; (with_reducible repeat (first | refine bN ?_ _ | refine bd ?_ | refine ba ?_ _)); exact BK382.out) hb); have n3_ := Aside0.mk (blk_below (g := gb385) (o := .cells #[.int .i64 t383, .int .i64 t384] 24 (0, 0)) (by (with_reducible repeat (first | refine bN ?_ _ | refine bd ?_ | refine ba ?_ _)); refine blk_far ?_ NB385_392.out _; (with_reducible repeat (first | refine bN ?_ _ | refine bd ?_ | refine ba ?_ _)); refine blk_far ?_ NB385_392.out _; (with_reducible repeat (first | refine bN ?_ _ | refine bd ?_ | refine ba ?_ _)); exact BK385.out) hb); have n4_ := Aside0.mk (blk_below (g := gb392) (o := .cells #[.int .i64 t398, .int .i64 t399] 24 (0, 0)) (by (with_reducible repeat (first | refine bN ?_ _ | refine bd ?_ | refine ba ?_ _)); refine blk_put (cs := #[.int .i64 t398, .int .i64 t390]) ?_ 1 _ rfl; (with_reducible repeat (first | refine bN ?_ _ | refine bd ?_ | refine ba ?_ _)); refine blk_put (cs := #[.int .i64 t389, .int .i64 t390]) ?_ 0 _ rfl; (with_reducible repeat (first | refine bN ?_ _ | refine bd ?_ | refine ba ?_ _)); exact BK392.out) hb); have n5_ := Aside0.mk (blk_below (g := gb396) (o := .cells #[.int .i64 t393, .int .i64 t394] 24 (0, 0)) (by (with_reducible repeat (first | refine bN ?_ _ | refine bd ?_ | refine ba ?_ _)); refine blk_far ?_ NB396_392.out _; (with_reducible repeat (first | refine bN ?_ _ | refine bd ?_ | refine ba ?_ _)); refine blk_far ?_ NB396_392.out _; (with_reducible repeat (first | refine bN ?_ _ | refine bd ?_ | refine ba ?_ _)); exact BK396.out) hb); have n6_ := Aside0.mk (below_step (hq HB) hb); clear BK376; clear BK379; clear BK382; clear BK385; clear BK392; clear BK396; clear HB; have BK376 := n0_; have BK379 := n1_; have BK382 := n2_; have BK385 := n3_; have BK392 := n4_; have BK396 := n5_; have HB := n6_; clear n0_ n1_ n2_ n3_ n4_ n5_ n6_; (try clear hb); (try clear hb2); (try clear hk); (try clear hi); have hnb143 := NB396_376.out; have hnc143 := NB376_396.out; have hcz144_0 : w142.cell? ⟨gb396, 0, none⟩ = some (.int .i64 t393) := (blk_cell BK396.out 0).trans rfl; have hcz144_1 : w142.cell? ⟨gb396, 1, none⟩ = some (.int .i64 t394) := (blk_cell BK396.out 1).trans rfl; have hfz144_0 := blk_frozen BK396.out 0; have hfz144_1 := blk_frozen BK396.out 1; have hcz145_0 : w142.cell? ⟨gb385, 0, none⟩ = some (.int .i64 t383) := (blk_cell BK385.out 0).trans rfl; have hcz145_1 : w142.cell? ⟨gb385, 1, none⟩ = some (.int .i64 t384) := (blk_cell BK385.out 1).trans rfl; have hfz145_0 := blk_frozen BK385.out 0; have hfz145_1 := blk_frozen BK385.out 1) | (go_at_call 24; (with_reducible refine (intervalmonlaw03_lives.calls kj73  t404 _ (glq HGL HB) A121.out).mono ?_); rintro e w146 ⟨rfl, hb⟩; have n0_ := Aside0.mk (blk_below (g := gb376) (o := .cells #[.int .i64 a0_0, .int .i64 a0_1, .int .i64 a0_2, .int .i64 a0_3, .int .i64 a0_4, .int .i64 a0_5] 52 (0, 0)) (by (with_reducible repeat (first | refine bN ?_ _ | refine bd ?_ | refine ba ?_ _)); refine blk_far ?_ NB376_396.out _; (with_reducible repeat (first | refine bN ?_ _ | refine bd ?_ | refine ba ?_ _)); refine blk_far ?_ NB376_396.out _; (with_reducible repeat (first | refine bN ?_ _ | refine bd ?_ | refine ba ?_ _)); exact BK376.out) hb); have n1_ := Aside0.mk (blk_below (g := gb379) (o := .cells #[.int .i64 t377, .int .i64 t378] 24 (0, 0)) (by (with_reducible repeat (first | refine bN ?_ _ | refine bd ?_ | refine ba ?_ _)); refine blk_far ?_ NB379_396.out _; (with_reducible repeat (first | refine bN ?_ _ | refine bd ?_ | refine ba ?_ _)); refine blk_far ?_ NB379_396.out _; (with_reducible repeat (first | refine bN ?_ _ | refine bd ?_ | refine ba ?_ _)); exact BK379.out) hb); have n2_ := Aside0.mk (blk_below (g := gb382) (o := .cells #[.int .i64 t380, .int .i64 t381] 24 (0, 0)) (by (with_reducible repeat (first | refine bN ?_ _ | refine bd ?_ | refine ba ?_ _)); refine blk_far ?_ NB382_396.out _; (with_reducible repeat (first | refine bN ?_ _ | refine bd ?_ | refine ba ?_ _)); refine blk_far ?_ NB382_396.out _; (with_reducible repeat (first | refine bN ?_ _ | refine bd ?_ | refine ba ?_ _)); exact BK382.out) hb); have n3_ := Aside0.mk (blk_below (g := gb385) (o := .cells #[.int .i64 t383, .int .i64 t384] 24 (0, 0)) (by (with_reducible repeat (first | refine bN ?_ _ | refine bd ?_ | refine ba ?_ _)); refine blk_far ?_ NB385_396.out _; (with_reducible repeat (first | refine bN ?_ _ | refine bd ?_ | refine ba ?_ _)); refine blk_far ?_ NB385_396.out _; (with_reducible repeat (first | refine bN ?_ _ | refine bd ?_ | refine ba ?_ _)); exact BK385.out) hb); have n4_ := Aside0.mk (blk_below (g := gb392) (o := .cells #[.int .i64 t398, .int .i64 t399] 24 (0, 0)) (by (with_reducible repeat (first | refine bN ?_ _ | refine bd ?_ | refine ba ?_ _)); refine blk_far ?_ NB392_396.out _; (with_reducible repeat (first | refine bN ?_ _ | refine bd ?_ | refine ba ?_ _)); refine blk_far ?_ NB392_396.out _; (with_reducible repeat (first | refine bN ?_ _ | refine bd ?_ | refine ba ?_ _)); exact BK392.out) hb); have n5_ := Aside0.mk (blk_below (g := gb396) (o := .cells #[.int .i64 t401, .int .i64 t402] 24 (0, 0)) (by (with_reducible repeat (first | refine bN ?_ _ | refine bd ?_ | refine ba ?_ _)); refine blk_put (cs := #[.int .i64 t401, .int .i64 t394]) ?_ 1 _ rfl; (with_reducible repeat (first | refine bN ?_ _ | refine bd ?_ | refine ba ?_ _)); refine blk_put (cs := #[.int .i64 t393, .int .i64 t394]) ?_ 0 _ rfl; (with_reducible repeat (first | refine bN ?_ _ | refine bd ?_ | refine ba ?_ _)); exact BK396.out) hb); have n6_ := Aside0.mk (below_step (hq HB) hb); clear BK376; clear BK379; clear BK382; clear BK385; clear BK392; clear BK396; clear HB; have BK376 := n0_; have BK379 := n1_; have BK382 := n2_; have BK385 := n3_; have BK392 := n4_; have BK396 := n5_; have HB := n6_; clear n0_ n1_ n2_ n3_ n4_ n5_ n6_; (try clear hb); (try clear hb2); (try clear hk); (try clear hi)))
          go_ret
          exact ⟨by first | rfl | (simp [errW_none, errW_some] <;> rfl) | (simp [*, errW_none, errW_some] <;> rfl), by repeat (first | (with_reducible first | exact HB.out | apply below_alloc | apply pw_below_drewN | apply below_drew1 | refine below_set ?_ GE376.out | refine below_set ?_ GE379.out | refine below_set ?_ GE382.out | refine below_set ?_ GE385.out | refine below_set ?_ GE392.out | refine below_set ?_ GE396.out) | exact HB.out)⟩
         ·rw [if_neg c120] at H
          have c120b0 : decide (t383 ≤ 0) = false := decide_eq_false c120
          clear c120
          replace H := Option.bind_eq_some_iff.mp H
          obtain ⟨t405, A1470, H⟩ := H
          replace H : (if t405 = t386 then ((intervalmonlaw03_lives.f kj73).bind fun t406 => (some t406)) else (some false)) = some r := H
          have A147 := Aside0.mk A1470
          clear A1470
          by_cases c148 : t405 = t386
          ·rw [if_pos c148] at H
           have c148b0 : (t405 == t386) = true := beq_iff_eq.mpr c148
           have c148b1 : (t405 != t386) = false := bne_eq_false_iff_eq.mpr c148
           clear c148
           replace H := Option.bind_eq_some_iff.mp H
           obtain ⟨t406, A1490, H⟩ := H
           replace H : (some t406) = some r := H
           have A149 := Aside0.mk A1490
           clear A1490
           obtain rfl := Option.some.inj H
           have hnb150 := NB379_376.out
           have hnc150 := NB376_379.out
           have hnb151 := NB379_382.out
           have hnc151 := NB382_379.out
           have hnb152 := NB379_385.out
           have hnc152 := NB385_379.out
           have hnb153 := NB379_392.out
           have hnc153 := NB392_379.out
           have hnb154 := NB379_396.out
           have hnc154 := NB396_379.out
           have hcz155_0 : wc.cell? ⟨gb379, 0, none⟩ = some (.int .i64 t377) := (blk_cell BK379.out 0).trans rfl
           have hcz155_1 : wc.cell? ⟨gb379, 1, none⟩ = some (.int .i64 t378) := (blk_cell BK379.out 1).trans rfl
           have hfz155_0 := blk_frozen BK379.out 0
           have hfz155_1 := blk_frozen BK379.out 1
           have hnb156 := NB385_376.out
           have hnc156 := NB376_385.out
           have hnb157 := NB385_382.out
           have hnc157 := NB382_385.out
           have hnb158 := NB385_392.out
           have hnc158 := NB392_385.out
           have hnb159 := NB385_396.out
           have hnc159 := NB396_385.out
           have hcz160_0 : wc.cell? ⟨gb385, 0, none⟩ = some (.int .i64 t383) := (blk_cell BK385.out 0).trans rfl
           have hcz160_1 : wc.cell? ⟨gb385, 1, none⟩ = some (.int .i64 t384) := (blk_cell BK385.out 1).trans rfl
           have hfz160_0 := blk_frozen BK385.out 0
           have hfz160_1 := blk_frozen BK385.out 1
           go_wp2_with (first | ((with_reducible refine gate_callee (f := 28) rfl ?_); refine goesL_ (some 79) rfl rfl Tryd.func28 (by kernel_rfl) rfl #[.agg #[.int .i64 t377, .int .i64 t378], .agg #[.int .i64 t383, .int .i64 t384]] rfl aq ?_; (with_reducible refine (frac_Mul.calls kj73 t377 t378 t383 t384 t398 t399 t400 _ A116.out).mono ?_); rintro e w161 ⟨rfl, hb⟩; refine ⟨_, rfl, ?_⟩; have n0_ := bb BK376 hb; have n1_ := bb BK379 hb; have n2_ := bb BK382 hb; have n3_ := bb BK385 hb; have n4_ := bb BK392 hb; have n5_ := bb BK396 hb; have n6_ := Aside0.mk (below_step (hq HB) hb); clear BK376; clear BK379; clear BK382; clear BK385; clear BK392; clear BK396; clear HB; have BK376 := n0_; have BK379 := n1_; have BK382 := n2_; have BK385 := n3_; have BK392 := n4_; have BK396 := n5_; have HB := n6_; clear n0_ n1_ n2_ n3_ n4_ n5_ n6_; (try clear hb); (try clear hb2); (try clear hk); (try clear hi); have hnb162 := NB392_376.out; have hnc162 := NB376_392.out; have hnb163 := NB392_382.out; have hnc163 := NB382_392.out; have hnb164 := NB392_396.out; have hnc164 := NB396_392.out; have hcz165_0 : w161.cell? ⟨gb392, 0, none⟩ = some (.int .i64 t389) := (blk_cell BK392.out 0).trans rfl; have hcz165_1 : w161.cell? ⟨gb392, 1, none⟩ = some (.int .i64 t390) := (blk_cell BK392.out 1).trans rfl; have hfz165_0 := blk_frozen BK392.out 0; have hfz165_1 := blk_frozen BK392.out 1; have hnb166 := NB382_376.out; have hnc166 := NB376_382.out; have hnb167 := NB382_396.out; have hnc167 := NB396_382.out; have hcz168_0 : w161.cell? ⟨gb382, 0, none⟩ = some (.int .i64 t380) := (blk_cell BK382.out 0).trans rfl; have hcz168_1 : w161.cell? ⟨gb382, 1, none⟩ = some (.int .i64 t381) := (blk_cell BK382.out 1).trans rfl; have hfz168_0 := blk_frozen BK382.out 0; have hfz168_1 := blk_frozen BK382.out 1; have hcz169_0 : w161.cell? ⟨gb385, 0, none⟩ = some (.int .i64 t383) := (blk_cell BK385.out 0).trans rfl; have hcz169_1 : w161.cell? ⟨gb385, 1, none⟩ = some (.int .i64 t384) := (blk_cell BK385.out 1).trans rfl; have hfz169_0 := blk_frozen BK385.out 0; have hfz169_1 := blk_frozen BK385.out 1) | ((with_reducible refine gate_callee (f := 28) rfl ?_); refine goesL_ (some 85) rfl rfl Tryd.func28 (by kernel_rfl) rfl #[.agg #[.int .i64 t380, .int .i64 t381], .agg #[.int .i64 t383, .int .i64 t384]] rfl aq ?_; (with_reducible refine (frac_Mul.calls kj73 t380 t381 t383 t384 t401 t402 t403 _ A117.out).mono ?_); rintro e w170 ⟨rfl, hb⟩; refine ⟨_, rfl, ?_⟩; have n0_ := Aside0.mk (blk_below (g := gb376) (o := .cells #[.int .i64 a0_0, .int .i64 a0_1, .int .i64 a0_2, .int .i64 a0_3, .int .i64 a0_4, .int .i64 a0_5] 52 (0, 0)) (by (with_reducible repeat (first | refine bN ?_ _ | refine bd ?_ | refine ba ?_ _)); refine blk_far ?_ NB376_392.out _; (with_reducible repeat (first | refine bN ?_ _ | refine bd ?_ | refine ba ?_ _)); refine blk_far ?_ NB376_392.out _; (with_reducible repeat (first | refine bN ?_ _ | refine bd ?_ | refine ba ?_ _)); exact BK376.out) hb); have n1_ := Aside0.mk (blk_below (g := gb379) (o := .cells #[.int .i64 t377, .int .i64 t378] 24 (0, 0)) (by (with_reducible repeat (first | refine bN ?_ _ | refine bd ?_ | refine ba ?_ _)); refine blk_far ?_ NB379_392.out _; (with_reducible repeat (first | refine bN ?_ _ | refine bd ?_ | refine ba ?_ _)); refine blk_far ?_ NB379_392.out _; (with_reducible repeat (first | refine bN ?_ _ | refine bd ?_ | refine ba ?_ _)); exact BK379.out) hb); have n2_ := Aside0.mk (blk_below (g := gb382) (o := .cells #[.int .i64 t380, .int .i64 t381] 24 (0, 0)) (by (with_reducible repeat (first | refine bN ?_ _ | refine bd ?_ | refine ba ?_ _)); refine blk_far ?_ NB382_392.out _; (with_reducible repeat (first | refine bN ?_ _ | refine bd ?_ | refine ba ?_ _)); refine blk_far ?_ NB382_392.out _; (with_reducible repeat (first | refine bN ?_ _ | refine bd ?_ | refine ba ?_ _)); exact BK382.out) hb); have n3_ := Aside0.mk (blk_below (g := gb385) (o := .cells #[.int .i64 t383, .int .i64 t384] 24 (0, 0)) (by (with_reducible repeat (first | refine bN ?_ _ | refine bd ?_ | refine ba ?_ _)); refine blk_far ?_ NB385_392.out _; (with_reducible repeat (first | refine bN ?_ _ | refine bd ?_ | refine ba ?_ _)); refine blk_far ?_ NB385_392.out _; (with_reducible repeat (first | refine bN ?_ _ | refine bd ?_ | refine ba ?_ _)); exact BK385.out) hb); have n4_ := Aside0.mk (blk_below (g := gb392) (o := .cells #[.int .i64 t398, .int .i64 t399] 24 (0, 0)) (by (with_reducible repeat (first | refine bN ?_ _ | refine bd ?_ | refine ba ?_ _)); refine blk_put (cs := #[.int .i64 t398, .int .i64 t390]) ?_ 1 _ rfl; (with_reducible repeat (first | refine bN ?_ _ | refine bd ?_ | refine ba ?_ _)); refine blk_put (cs := #[.int .i64 t389, .int .i64 t390]) ?_ 0 _ rfl; (with_reducible repeat (first | refine bN ?_ _ | refine bd ?_ | refine ba ?_ _)); exact BK392.out) hb); have n5_ := Aside0.mk (blk_below (g := gb396) (o := .cells #[.int .i64 t393, .int .i64 t394] 24 (0, 0)) (by (with_reducible repeat (first | refine bN ?_ _ | refine bd ?_ | refine ba ?_ _)); refine blk_far ?_ NB396_392.out _; (with_reducible repeat (first | refine bN ?_ _ | refine bd ?_ | refine ba ?_ _)); refine blk_far ?_ NB396_392.out _; (with_reducible repeat (first | refine bN ?_ _ | refine bd ?_ | refine ba ?_ _)); exact BK396.out) hb); have n6_ := Aside0.mk (below_step (hq HB) hb); clear BK376; clear BK379; clear BK382; clear BK385; clear BK392; clear BK396; clear HB; have BK376 := n0_; have BK379 := n1_; have BK382 := n2_; have BK385 := n3_; have BK392 := n4_; have BK396 := n5_; have HB := n6_; clear n0_ n1_ n2_ n3_ n4_ n5_ n6_; (try clear hb); (try clear hb2); (try clear hk); (try clear hi); have hnb171 := NB396_376.out; have hnc171 := NB376_396.out; have hcz172_0 : w170.cell? ⟨gb396, 0, none⟩ = some (.int .i64 t393) := (blk_cell BK396.out 0).trans rfl; have hcz172_1 : w170.cell? ⟨gb396, 1, none⟩ = some (.int .i64 t394) := (blk_cell BK396.out 1).trans rfl; have hfz172_0 := blk_frozen BK396.out 0; have hfz172_1 := blk_frozen BK396.out 1; have hcz173_0 : w170.cell? ⟨gb385, 0, none⟩ = some (.int .i64 t383) := (blk_cell BK385.out 0).trans rfl; have hcz173_1 : w170.cell? ⟨gb385, 1, none⟩ = some (.int .i64 t384) := (blk_cell BK385.out 1).trans rfl; have hfz173_0 := blk_frozen BK385.out 0; have hfz173_1 := blk_frozen BK385.out 1; have hcz174_0 : w170.cell? ⟨gb392, 0, none⟩ = some (.int .i64 t398) := (blk_cell BK392.out 0).trans rfl; have hcz174_1 : w170.cell? ⟨gb392, 1, none⟩ = some (.int .i64 t399) := (blk_cell BK392.out 1).trans rfl; have hfz174_0 := blk_frozen BK392.out 0; have hfz174_1 := blk_frozen BK392.out 1) | (go_at_call 35; (with_reducible refine (frac_Compare.calls kj73 t398 t399 t401 t402 t405 _ A147.out).mono ?_); rintro e w175 ⟨rfl, hb⟩; have n0_ := Aside0.mk (blk_below (g := gb376) (o := .cells #[.int .i64 a0_0, .int .i64 a0_1, .int .i64 a0_2, .int .i64 a0_3, .int .i64 a0_4, .int .i64 a0_5] 52 (0, 0)) (by (with_reducible repeat (first | refine bN ?_ _ | refine bd ?_ | refine ba ?_ _)); refine blk_far ?_ NB376_396.out _; (with_reducible repeat (first | refine bN ?_ _ | refine bd ?_ | refine ba ?_ _)); refine blk_far ?_ NB376_396.out _; (with_reducible repeat (first | refine bN ?_ _ | refine bd ?_ | refine ba ?_ _)); exact BK376.out) hb); have n1_ := Aside0.mk (blk_below (g := gb379) (o := .cells #[.int .i64 t377, .int .i64 t378] 24 (0, 0)) (by (with_reducible repeat (first | refine bN ?_ _ | refine bd ?_ | refine ba ?_ _)); refine blk_far ?_ NB379_396.out _; (with_reducible repeat (first | refine bN ?_ _ | refine bd ?_ | refine ba ?_ _)); refine blk_far ?_ NB379_396.out _; (with_reducible repeat (first | refine bN ?_ _ | refine bd ?_ | refine ba ?_ _)); exact BK379.out) hb); have n2_ := Aside0.mk (blk_below (g := gb382) (o := .cells #[.int .i64 t380, .int .i64 t381] 24 (0, 0)) (by (with_reducible repeat (first | refine bN ?_ _ | refine bd ?_ | refine ba ?_ _)); refine blk_far ?_ NB382_396.out _; (with_reducible repeat (first | refine bN ?_ _ | refine bd ?_ | refine ba ?_ _)); refine blk_far ?_ NB382_396.out _; (with_reducible repeat (first | refine bN ?_ _ | refine bd ?_ | refine ba ?_ _)); exact BK382.out) hb); have n3_ := Aside0.mk (blk_below (g := gb385) (o := .cells #[.int .i64 t383, .int .i64 t384] 24 (0, 0)) (by (with_reducible repeat (first | refine bN ?_ _ | refine bd ?_ | refine ba ?_ _)); refine blk_far ?_ NB385_396.out _; (with_reducible repeat (first | refine bN ?_ _ | refine bd ?_ | refine ba ?_ _)); refine blk_far ?_ NB385_396.out _; (with_reducible repeat (first | refine bN ?_ _ | refine bd ?_ | refine ba ?_ _)); exact BK385.out) hb); have n4_ := Aside0.mk (blk_below (g := gb392) (o := .cells #[.int .i64 t398, .int .i64 t399] 24 (0, 0)) (by (with_reducible repeat (first | refine bN ?_ _ | refine bd ?_ | refine ba ?_ _)); refine blk_far ?_ NB392_396.out _; (with_reducible repeat (first | refine bN ?_ _ | refine bd ?_ | refine ba ?_ _)); refine blk_far ?_ NB392_396.out _; (with_reducible repeat (first | refine bN ?_ _ | refine bd ?_ | refine ba ?_ _)); exact BK392.out) hb); have n5_ := Aside0.mk (blk_below (g := gb396) (o := .cells #[.int .i64 t401, .int .i64 t402] 24 (0, 0)) (by (with_reducible repeat (first | refine bN ?_ _ | refine bd ?_ | refine ba ?_ _)); refine blk_put (cs := #[.int .i64 t401, .int .i64 t394]) ?_ 1 _ rfl; (with_reducible repeat (first | refine bN ?_ _ | refine bd ?_ | refine ba ?_ _)); refine blk_put (cs := #[.int .i64 t393, .int .i64 t394]) ?_ 0 _ rfl; (with_reducible repeat (first | refine bN ?_ _ | refine bd ?_ | refine ba ?_ _)); exact BK396.out) hb); have n6_ := Aside0.mk (below_step (hq HB) hb); clear BK376; clear BK379; clear BK382; clear BK385; clear BK392; clear BK396; clear HB; have BK376 := n0_; have BK379 := n1_; have BK382 := n2_; have BK385 := n3_; have BK392 := n4_; have BK396 := n5_; have HB := n6_; clear n0_ n1_ n2_ n3_ n4_ n5_ n6_; (try clear hb); (try clear hb2); (try clear hk); (try clear hi)) | (go_at_call 24; (with_reducible refine (intervalmonlaw03_lives.calls kj73  t406 _ (glq HGL HB) A149.out).mono ?_); rintro e w176 ⟨rfl, hb⟩; have n0_ := bb BK376 hb; have n1_ := bb BK379 hb; have n2_ := bb BK382 hb; have n3_ := bb BK385 hb; have n4_ := bb BK392 hb; have n5_ := bb BK396 hb; have n6_ := Aside0.mk (below_step (hq HB) hb); clear BK376; clear BK379; clear BK382; clear BK385; clear BK392; clear BK396; clear HB; have BK376 := n0_; have BK379 := n1_; have BK382 := n2_; have BK385 := n3_; have BK392 := n4_; have BK396 := n5_; have HB := n6_; clear n0_ n1_ n2_ n3_ n4_ n5_ n6_; (try clear hb); (try clear hb2); (try clear hk); (try clear hi)))
           go_ret
           exact ⟨by first | rfl | (simp [errW_none, errW_some] <;> rfl) | (simp [*, errW_none, errW_some] <;> rfl), by repeat (first | (with_reducible first | exact HB.out | apply below_alloc | apply pw_below_drewN | apply below_drew1 | refine below_set ?_ GE376.out | refine below_set ?_ GE379.out | refine below_set ?_ GE382.out | refine below_set ?_ GE385.out | refine below_set ?_ GE392.out | refine below_set ?_ GE396.out) | exact HB.out)⟩
          ·rw [if_neg c148] at H
           have c148b0 : (t405 == t386) = false := beq_eq_false_iff_ne.mpr c148
           have c148b1 : (t405 != t386) = true := bne_iff_ne.mpr c148
           exact absurd ((Option.some.inj H).trans HT0.out) (by decide)
        ·rw [if_neg c119] at H
         have c119b0 : (t403 == 0) = false := beq_eq_false_iff_ne.mpr c119
         have c119b1 : (t403 != 0) = true := bne_iff_ne.mpr c119
         replace H := Option.bind_eq_some_iff.mp H
         obtain ⟨t407, A1770, H⟩ := H
         replace H : (some t407) = some r := H
         have A177 := Aside0.mk A1770
         clear A1770
         obtain rfl := Option.some.inj H
         have hnb178 := NB379_376.out
         have hnc178 := NB376_379.out
         have hnb179 := NB379_382.out
         have hnc179 := NB382_379.out
         have hnb180 := NB379_385.out
         have hnc180 := NB385_379.out
         have hnb181 := NB379_392.out
         have hnc181 := NB392_379.out
         have hnb182 := NB379_396.out
         have hnc182 := NB396_379.out
         have hcz183_0 : wc.cell? ⟨gb379, 0, none⟩ = some (.int .i64 t377) := (blk_cell BK379.out 0).trans rfl
         have hcz183_1 : wc.cell? ⟨gb379, 1, none⟩ = some (.int .i64 t378) := (blk_cell BK379.out 1).trans rfl
         have hfz183_0 := blk_frozen BK379.out 0
         have hfz183_1 := blk_frozen BK379.out 1
         have hnb184 := NB385_376.out
         have hnc184 := NB376_385.out
         have hnb185 := NB385_382.out
         have hnc185 := NB382_385.out
         have hnb186 := NB385_392.out
         have hnc186 := NB392_385.out
         have hnb187 := NB385_396.out
         have hnc187 := NB396_385.out
         have hcz188_0 : wc.cell? ⟨gb385, 0, none⟩ = some (.int .i64 t383) := (blk_cell BK385.out 0).trans rfl
         have hcz188_1 : wc.cell? ⟨gb385, 1, none⟩ = some (.int .i64 t384) := (blk_cell BK385.out 1).trans rfl
         have hfz188_0 := blk_frozen BK385.out 0
         have hfz188_1 := blk_frozen BK385.out 1
         go_wp2_with (first | ((with_reducible refine gate_callee (f := 28) rfl ?_); refine goesL_ (some 79) rfl rfl Tryd.func28 (by kernel_rfl) rfl #[.agg #[.int .i64 t377, .int .i64 t378], .agg #[.int .i64 t383, .int .i64 t384]] rfl aq ?_; (with_reducible refine (frac_Mul.calls kj73 t377 t378 t383 t384 t398 t399 t400 _ A116.out).mono ?_); rintro e w189 ⟨rfl, hb⟩; refine ⟨_, rfl, ?_⟩; have n0_ := bb BK376 hb; have n1_ := bb BK379 hb; have n2_ := bb BK382 hb; have n3_ := bb BK385 hb; have n4_ := bb BK392 hb; have n5_ := bb BK396 hb; have n6_ := Aside0.mk (below_step (hq HB) hb); clear BK376; clear BK379; clear BK382; clear BK385; clear BK392; clear BK396; clear HB; have BK376 := n0_; have BK379 := n1_; have BK382 := n2_; have BK385 := n3_; have BK392 := n4_; have BK396 := n5_; have HB := n6_; clear n0_ n1_ n2_ n3_ n4_ n5_ n6_; (try clear hb); (try clear hb2); (try clear hk); (try clear hi); have hnb190 := NB392_376.out; have hnc190 := NB376_392.out; have hnb191 := NB392_382.out; have hnc191 := NB382_392.out; have hnb192 := NB392_396.out; have hnc192 := NB396_392.out; have hcz193_0 : w189.cell? ⟨gb392, 0, none⟩ = some (.int .i64 t389) := (blk_cell BK392.out 0).trans rfl; have hcz193_1 : w189.cell? ⟨gb392, 1, none⟩ = some (.int .i64 t390) := (blk_cell BK392.out 1).trans rfl; have hfz193_0 := blk_frozen BK392.out 0; have hfz193_1 := blk_frozen BK392.out 1; have hnb194 := NB382_376.out; have hnc194 := NB376_382.out; have hnb195 := NB382_396.out; have hnc195 := NB396_382.out; have hcz196_0 : w189.cell? ⟨gb382, 0, none⟩ = some (.int .i64 t380) := (blk_cell BK382.out 0).trans rfl; have hcz196_1 : w189.cell? ⟨gb382, 1, none⟩ = some (.int .i64 t381) := (blk_cell BK382.out 1).trans rfl; have hfz196_0 := blk_frozen BK382.out 0; have hfz196_1 := blk_frozen BK382.out 1; have hcz197_0 : w189.cell? ⟨gb385, 0, none⟩ = some (.int .i64 t383) := (blk_cell BK385.out 0).trans rfl; have hcz197_1 : w189.cell? ⟨gb385, 1, none⟩ = some (.int .i64 t384) := (blk_cell BK385.out 1).trans rfl; have hfz197_0 := blk_frozen BK385.out 0; have hfz197_1 := blk_frozen BK385.out 1) | ((with_reducible refine gate_callee (f := 28) rfl ?_); refine goesL_ (some 85) rfl rfl Tryd.func28 (by kernel_rfl) rfl #[.agg #[.int .i64 t380, .int .i64 t381], .agg #[.int .i64 t383, .int .i64 t384]] rfl aq ?_; (with_reducible refine (frac_Mul.calls kj73 t380 t381 t383 t384 t401 t402 t403 _ A117.out).mono ?_); rintro e w198 ⟨rfl, hb⟩; refine ⟨_, rfl, ?_⟩; have n0_ := Aside0.mk (blk_below (g := gb376) (o := .cells #[.int .i64 a0_0, .int .i64 a0_1, .int .i64 a0_2, .int .i64 a0_3, .int .i64 a0_4, .int .i64 a0_5] 52 (0, 0)) (by (with_reducible repeat (first | refine bN ?_ _ | refine bd ?_ | refine ba ?_ _)); refine blk_far ?_ NB376_392.out _; (with_reducible repeat (first | refine bN ?_ _ | refine bd ?_ | refine ba ?_ _)); refine blk_far ?_ NB376_392.out _; (with_reducible repeat (first | refine bN ?_ _ | refine bd ?_ | refine ba ?_ _)); exact BK376.out) hb); have n1_ := Aside0.mk (blk_below (g := gb379) (o := .cells #[.int .i64 t377, .int .i64 t378] 24 (0, 0)) (by (with_reducible repeat (first | refine bN ?_ _ | refine bd ?_ | refine ba ?_ _)); refine blk_far ?_ NB379_392.out _; (with_reducible repeat (first | refine bN ?_ _ | refine bd ?_ | refine ba ?_ _)); refine blk_far ?_ NB379_392.out _; (with_reducible repeat (first | refine bN ?_ _ | refine bd ?_ | refine ba ?_ _)); exact BK379.out) hb); have n2_ := Aside0.mk (blk_below (g := gb382) (o := .cells #[.int .i64 t380, .int .i64 t381] 24 (0, 0)) (by (with_reducible repeat (first | refine bN ?_ _ | refine bd ?_ | refine ba ?_ _)); refine blk_far ?_ NB382_392.out _; (with_reducible repeat (first | refine bN ?_ _ | refine bd ?_ | refine ba ?_ _)); refine blk_far ?_ NB382_392.out _; (with_reducible repeat (first | refine bN ?_ _ | refine bd ?_ | refine ba ?_ _)); exact BK382.out) hb); have n3_ := Aside0.mk (blk_below (g := gb385) (o := .cells #[.int .i64 t383, .int .i64 t384] 24 (0, 0)) (by (with_reducible repeat (first | refine bN ?_ _ | refine bd ?_ | refine ba ?_ _)); refine blk_far ?_ NB385_392.out _; (with_reducible repeat (first | refine bN ?_ _ | refine bd ?_ | refine ba ?_ _)); refine blk_far ?_ NB385_392.out _; (with_reducible repeat (first | refine bN ?_ _ | refine bd ?_ | refine ba ?_ _)); exact BK385.out) hb); have n4_ := Aside0.mk (blk_below (g := gb392) (o := .cells #[.int .i64 t398, .int .i64 t399] 24 (0, 0)) (by (with_reducible repeat (first | refine bN ?_ _ | refine bd ?_ | refine ba ?_ _)); refine blk_put (cs := #[.int .i64 t398, .int .i64 t390]) ?_ 1 _ rfl; (with_reducible repeat (first | refine bN ?_ _ | refine bd ?_ | refine ba ?_ _)); refine blk_put (cs := #[.int .i64 t389, .int .i64 t390]) ?_ 0 _ rfl; (with_reducible repeat (first | refine bN ?_ _ | refine bd ?_ | refine ba ?_ _)); exact BK392.out) hb); have n5_ := Aside0.mk (blk_below (g := gb396) (o := .cells #[.int .i64 t393, .int .i64 t394] 24 (0, 0)) (by (with_reducible repeat (first | refine bN ?_ _ | refine bd ?_ | refine ba ?_ _)); refine blk_far ?_ NB396_392.out _; (with_reducible repeat (first | refine bN ?_ _ | refine bd ?_ | refine ba ?_ _)); refine blk_far ?_ NB396_392.out _; (with_reducible repeat (first | refine bN ?_ _ | refine bd ?_ | refine ba ?_ _)); exact BK396.out) hb); have n6_ := Aside0.mk (below_step (hq HB) hb); clear BK376; clear BK379; clear BK382; clear BK385; clear BK392; clear BK396; clear HB; have BK376 := n0_; have BK379 := n1_; have BK382 := n2_; have BK385 := n3_; have BK392 := n4_; have BK396 := n5_; have HB := n6_; clear n0_ n1_ n2_ n3_ n4_ n5_ n6_; (try clear hb); (try clear hb2); (try clear hk); (try clear hi); have hnb199 := NB396_376.out; have hnc199 := NB376_396.out; have hcz200_0 : w198.cell? ⟨gb396, 0, none⟩ = some (.int .i64 t393) := (blk_cell BK396.out 0).trans rfl; have hcz200_1 : w198.cell? ⟨gb396, 1, none⟩ = some (.int .i64 t394) := (blk_cell BK396.out 1).trans rfl; have hfz200_0 := blk_frozen BK396.out 0; have hfz200_1 := blk_frozen BK396.out 1) | (go_at_call 24; (with_reducible refine (intervalmonlaw03_lives.calls kj73  t407 _ (glq HGL HB) A177.out).mono ?_); rintro e w201 ⟨rfl, hb⟩; have n0_ := Aside0.mk (blk_below (g := gb376) (o := .cells #[.int .i64 a0_0, .int .i64 a0_1, .int .i64 a0_2, .int .i64 a0_3, .int .i64 a0_4, .int .i64 a0_5] 52 (0, 0)) (by (with_reducible repeat (first | refine bN ?_ _ | refine bd ?_ | refine ba ?_ _)); refine blk_far ?_ NB376_396.out _; (with_reducible repeat (first | refine bN ?_ _ | refine bd ?_ | refine ba ?_ _)); refine blk_far ?_ NB376_396.out _; (with_reducible repeat (first | refine bN ?_ _ | refine bd ?_ | refine ba ?_ _)); exact BK376.out) hb); have n1_ := Aside0.mk (blk_below (g := gb379) (o := .cells #[.int .i64 t377, .int .i64 t378] 24 (0, 0)) (by (with_reducible repeat (first | refine bN ?_ _ | refine bd ?_ | refine ba ?_ _)); refine blk_far ?_ NB379_396.out _; (with_reducible repeat (first | refine bN ?_ _ | refine bd ?_ | refine ba ?_ _)); refine blk_far ?_ NB379_396.out _; (with_reducible repeat (first | refine bN ?_ _ | refine bd ?_ | refine ba ?_ _)); exact BK379.out) hb); have n2_ := Aside0.mk (blk_below (g := gb382) (o := .cells #[.int .i64 t380, .int .i64 t381] 24 (0, 0)) (by (with_reducible repeat (first | refine bN ?_ _ | refine bd ?_ | refine ba ?_ _)); refine blk_far ?_ NB382_396.out _; (with_reducible repeat (first | refine bN ?_ _ | refine bd ?_ | refine ba ?_ _)); refine blk_far ?_ NB382_396.out _; (with_reducible repeat (first | refine bN ?_ _ | refine bd ?_ | refine ba ?_ _)); exact BK382.out) hb); have n3_ := Aside0.mk (blk_below (g := gb385) (o := .cells #[.int .i64 t383, .int .i64 t384] 24 (0, 0)) (by (with_reducible repeat (first | refine bN ?_ _ | refine bd ?_ | refine ba ?_ _)); refine blk_far ?_ NB385_396.out _; (with_reducible repeat (first | refine bN ?_ _ | refine bd ?_ | refine ba ?_ _)); refine blk_far ?_ NB385_396.out _; (with_reducible repeat (first | refine bN ?_ _ | refine bd ?_ | refine ba ?_ _)); exact BK385.out) hb); have n4_ := Aside0.mk (blk_below (g := gb392) (o := .cells #[.int .i64 t398, .int .i64 t399] 24 (0, 0)) (by (with_reducible repeat (first | refine bN ?_ _ | refine bd ?_ | refine ba ?_ _)); refine blk_far ?_ NB392_396.out _; (with_reducible repeat (first | refine bN ?_ _ | refine bd ?_ | refine ba ?_ _)); refine blk_far ?_ NB392_396.out _; (with_reducible repeat (first | refine bN ?_ _ | refine bd ?_ | refine ba ?_ _)); exact BK392.out) hb); have n5_ := Aside0.mk (blk_below (g := gb396) (o := .cells #[.int .i64 t401, .int .i64 t402] 24 (0, 0)) (by (with_reducible repeat (first | refine bN ?_ _ | refine bd ?_ | refine ba ?_ _)); refine blk_put (cs := #[.int .i64 t401, .int .i64 t394]) ?_ 1 _ rfl; (with_reducible repeat (first | refine bN ?_ _ | refine bd ?_ | refine ba ?_ _)); refine blk_put (cs := #[.int .i64 t393, .int .i64 t394]) ?_ 0 _ rfl; (with_reducible repeat (first | refine bN ?_ _ | refine bd ?_ | refine ba ?_ _)); exact BK396.out) hb); have n6_ := Aside0.mk (below_step (hq HB) hb); clear BK376; clear BK379; clear BK382; clear BK385; clear BK392; clear BK396; clear HB; have BK376 := n0_; have BK379 := n1_; have BK382 := n2_; have BK385 := n3_; have BK392 := n4_; have BK396 := n5_; have HB := n6_; clear n0_ n1_ n2_ n3_ n4_ n5_ n6_; (try clear hb); (try clear hb2); (try clear hk); (try clear hi)))
         go_ret
         exact ⟨by first | rfl | (simp [errW_none, errW_some] <;> rfl) | (simp [*, errW_none, errW_some] <;> rfl), by repeat (first | (with_reducible first | exact HB.out | apply below_alloc | apply pw_below_drewN | apply below_drew1 | refine below_set ?_ GE376.out | refine below_set ?_ GE379.out | refine below_set ?_ GE382.out | refine below_set ?_ GE385.out | refine below_set ?_ GE392.out | refine below_set ?_ GE396.out) | exact HB.out)⟩
       ·rw [if_neg c118] at H
        have c118b0 : (t400 == 0) = false := beq_eq_false_iff_ne.mpr c118
        have c118b1 : (t400 != 0) = true := bne_iff_ne.mpr c118
        replace H := Option.bind_eq_some_iff.mp H
        obtain ⟨t408, A2020, H⟩ := H
        replace H : (some t408) = some r := H
        have A202 := Aside0.mk A2020
        clear A2020
        obtain rfl := Option.some.inj H
        have hnb203 := NB379_376.out
        have hnc203 := NB376_379.out
        have hnb204 := NB379_382.out
        have hnc204 := NB382_379.out
        have hnb205 := NB379_385.out
        have hnc205 := NB385_379.out
        have hnb206 := NB379_392.out
        have hnc206 := NB392_379.out
        have hnb207 := NB379_396.out
        have hnc207 := NB396_379.out
        have hcz208_0 : wc.cell? ⟨gb379, 0, none⟩ = some (.int .i64 t377) := (blk_cell BK379.out 0).trans rfl
        have hcz208_1 : wc.cell? ⟨gb379, 1, none⟩ = some (.int .i64 t378) := (blk_cell BK379.out 1).trans rfl
        have hfz208_0 := blk_frozen BK379.out 0
        have hfz208_1 := blk_frozen BK379.out 1
        have hnb209 := NB385_376.out
        have hnc209 := NB376_385.out
        have hnb210 := NB385_382.out
        have hnc210 := NB382_385.out
        have hnb211 := NB385_392.out
        have hnc211 := NB392_385.out
        have hnb212 := NB385_396.out
        have hnc212 := NB396_385.out
        have hcz213_0 : wc.cell? ⟨gb385, 0, none⟩ = some (.int .i64 t383) := (blk_cell BK385.out 0).trans rfl
        have hcz213_1 : wc.cell? ⟨gb385, 1, none⟩ = some (.int .i64 t384) := (blk_cell BK385.out 1).trans rfl
        have hfz213_0 := blk_frozen BK385.out 0
        have hfz213_1 := blk_frozen BK385.out 1
        go_wp2_with (first | ((with_reducible refine gate_callee (f := 28) rfl ?_); refine goesL_ (some 79) rfl rfl Tryd.func28 (by kernel_rfl) rfl #[.agg #[.int .i64 t377, .int .i64 t378], .agg #[.int .i64 t383, .int .i64 t384]] rfl aq ?_; (with_reducible refine (frac_Mul.calls kj73 t377 t378 t383 t384 t398 t399 t400 _ A116.out).mono ?_); rintro e w214 ⟨rfl, hb⟩; refine ⟨_, rfl, ?_⟩; have n0_ := bb BK376 hb; have n1_ := bb BK379 hb; have n2_ := bb BK382 hb; have n3_ := bb BK385 hb; have n4_ := bb BK392 hb; have n5_ := bb BK396 hb; have n6_ := Aside0.mk (below_step (hq HB) hb); clear BK376; clear BK379; clear BK382; clear BK385; clear BK392; clear BK396; clear HB; have BK376 := n0_; have BK379 := n1_; have BK382 := n2_; have BK385 := n3_; have BK392 := n4_; have BK396 := n5_; have HB := n6_; clear n0_ n1_ n2_ n3_ n4_ n5_ n6_; (try clear hb); (try clear hb2); (try clear hk); (try clear hi); have hnb215 := NB392_376.out; have hnc215 := NB376_392.out; have hnb216 := NB392_382.out; have hnc216 := NB382_392.out; have hnb217 := NB392_396.out; have hnc217 := NB396_392.out; have hcz218_0 : w214.cell? ⟨gb392, 0, none⟩ = some (.int .i64 t389) := (blk_cell BK392.out 0).trans rfl; have hcz218_1 : w214.cell? ⟨gb392, 1, none⟩ = some (.int .i64 t390) := (blk_cell BK392.out 1).trans rfl; have hfz218_0 := blk_frozen BK392.out 0; have hfz218_1 := blk_frozen BK392.out 1; have hnb219 := NB382_376.out; have hnc219 := NB376_382.out; have hnb220 := NB382_396.out; have hnc220 := NB396_382.out; have hcz221_0 : w214.cell? ⟨gb382, 0, none⟩ = some (.int .i64 t380) := (blk_cell BK382.out 0).trans rfl; have hcz221_1 : w214.cell? ⟨gb382, 1, none⟩ = some (.int .i64 t381) := (blk_cell BK382.out 1).trans rfl; have hfz221_0 := blk_frozen BK382.out 0; have hfz221_1 := blk_frozen BK382.out 1; have hcz222_0 : w214.cell? ⟨gb385, 0, none⟩ = some (.int .i64 t383) := (blk_cell BK385.out 0).trans rfl; have hcz222_1 : w214.cell? ⟨gb385, 1, none⟩ = some (.int .i64 t384) := (blk_cell BK385.out 1).trans rfl; have hfz222_0 := blk_frozen BK385.out 0; have hfz222_1 := blk_frozen BK385.out 1) | ((with_reducible refine gate_callee (f := 28) rfl ?_); refine goesL_ (some 85) rfl rfl Tryd.func28 (by kernel_rfl) rfl #[.agg #[.int .i64 t380, .int .i64 t381], .agg #[.int .i64 t383, .int .i64 t384]] rfl aq ?_; (with_reducible refine (frac_Mul.calls kj73 t380 t381 t383 t384 t401 t402 t403 _ A117.out).mono ?_); rintro e w223 ⟨rfl, hb⟩; refine ⟨_, rfl, ?_⟩; have n0_ := Aside0.mk (blk_below (g := gb376) (o := .cells #[.int .i64 a0_0, .int .i64 a0_1, .int .i64 a0_2, .int .i64 a0_3, .int .i64 a0_4, .int .i64 a0_5] 52 (0, 0)) (by (with_reducible repeat (first | refine bN ?_ _ | refine bd ?_ | refine ba ?_ _)); refine blk_far ?_ NB376_392.out _; (with_reducible repeat (first | refine bN ?_ _ | refine bd ?_ | refine ba ?_ _)); refine blk_far ?_ NB376_392.out _; (with_reducible repeat (first | refine bN ?_ _ | refine bd ?_ | refine ba ?_ _)); exact BK376.out) hb); have n1_ := Aside0.mk (blk_below (g := gb379) (o := .cells #[.int .i64 t377, .int .i64 t378] 24 (0, 0)) (by (with_reducible repeat (first | refine bN ?_ _ | refine bd ?_ | refine ba ?_ _)); refine blk_far ?_ NB379_392.out _; (with_reducible repeat (first | refine bN ?_ _ | refine bd ?_ | refine ba ?_ _)); refine blk_far ?_ NB379_392.out _; (with_reducible repeat (first | refine bN ?_ _ | refine bd ?_ | refine ba ?_ _)); exact BK379.out) hb); have n2_ := Aside0.mk (blk_below (g := gb382) (o := .cells #[.int .i64 t380, .int .i64 t381] 24 (0, 0)) (by (with_reducible repeat (first | refine bN ?_ _ | refine bd ?_ | refine ba ?_ _)); refine blk_far ?_ NB382_392.out _; (with_reducible repeat (first | refine bN ?_ _ | refine bd ?_ | refine ba ?_ _)); refine blk_far ?_ NB382_392.out _; (with_reducible repeat (first | refine bN ?_ _ | refine bd ?_ | refine ba ?_ _)); exact BK382.out) hb); have n3_ := Aside0.mk (blk_below (g := gb385) (o := .cells #[.int .i64 t383, .int .i64 t384] 24 (0, 0)) (by (with_reducible repeat (first | refine bN ?_ _ | refine bd ?_ | refine ba ?_ _)); refine blk_far ?_ NB385_392.out _; (with_reducible repeat (first | refine bN ?_ _ | refine bd ?_ | refine ba ?_ _)); refine blk_far ?_ NB385_392.out _; (with_reducible repeat (first | refine bN ?_ _ | refine bd ?_ | refine ba ?_ _)); exact BK385.out) hb); have n4_ := Aside0.mk (blk_below (g := gb392) (o := .cells #[.int .i64 t398, .int .i64 t399] 24 (0, 0)) (by (with_reducible repeat (first | refine bN ?_ _ | refine bd ?_ | refine ba ?_ _)); refine blk_put (cs := #[.int .i64 t398, .int .i64 t390]) ?_ 1 _ rfl; (with_reducible repeat (first | refine bN ?_ _ | refine bd ?_ | refine ba ?_ _)); refine blk_put (cs := #[.int .i64 t389, .int .i64 t390]) ?_ 0 _ rfl; (with_reducible repeat (first | refine bN ?_ _ | refine bd ?_ | refine ba ?_ _)); exact BK392.out) hb); have n5_ := Aside0.mk (blk_below (g := gb396) (o := .cells #[.int .i64 t393, .int .i64 t394] 24 (0, 0)) (by (with_reducible repeat (first | refine bN ?_ _ | refine bd ?_ | refine ba ?_ _)); refine blk_far ?_ NB396_392.out _; (with_reducible repeat (first | refine bN ?_ _ | refine bd ?_ | refine ba ?_ _)); refine blk_far ?_ NB396_392.out _; (with_reducible repeat (first | refine bN ?_ _ | refine bd ?_ | refine ba ?_ _)); exact BK396.out) hb); have n6_ := Aside0.mk (below_step (hq HB) hb); clear BK376; clear BK379; clear BK382; clear BK385; clear BK392; clear BK396; clear HB; have BK376 := n0_; have BK379 := n1_; have BK382 := n2_; have BK385 := n3_; have BK392 := n4_; have BK396 := n5_; have HB := n6_; clear n0_ n1_ n2_ n3_ n4_ n5_ n6_; (try clear hb); (try clear hb2); (try clear hk); (try clear hi); have hnb224 := NB396_376.out; have hnc224 := NB376_396.out; have hcz225_0 : w223.cell? ⟨gb396, 0, none⟩ = some (.int .i64 t393) := (blk_cell BK396.out 0).trans rfl; have hcz225_1 : w223.cell? ⟨gb396, 1, none⟩ = some (.int .i64 t394) := (blk_cell BK396.out 1).trans rfl; have hfz225_0 := blk_frozen BK396.out 0; have hfz225_1 := blk_frozen BK396.out 1) | (go_at_call 24; (with_reducible refine (intervalmonlaw03_lives.calls kj73  t408 _ (glq HGL HB) A202.out).mono ?_); rintro e w226 ⟨rfl, hb⟩; have n0_ := Aside0.mk (blk_below (g := gb376) (o := .cells #[.int .i64 a0_0, .int .i64 a0_1, .int .i64 a0_2, .int .i64 a0_3, .int .i64 a0_4, .int .i64 a0_5] 52 (0, 0)) (by (with_reducible repeat (first | refine bN ?_ _ | refine bd ?_ | refine ba ?_ _)); refine blk_far ?_ NB376_396.out _; (with_reducible repeat (first | refine bN ?_ _ | refine bd ?_ | refine ba ?_ _)); refine blk_far ?_ NB376_396.out _; (with_reducible repeat (first | refine bN ?_ _ | refine bd ?_ | refine ba ?_ _)); exact BK376.out) hb); have n1_ := Aside0.mk (blk_below (g := gb379) (o := .cells #[.int .i64 t377, .int .i64 t378] 24 (0, 0)) (by (with_reducible repeat (first | refine bN ?_ _ | refine bd ?_ | refine ba ?_ _)); refine blk_far ?_ NB379_396.out _; (with_reducible repeat (first | refine bN ?_ _ | refine bd ?_ | refine ba ?_ _)); refine blk_far ?_ NB379_396.out _; (with_reducible repeat (first | refine bN ?_ _ | refine bd ?_ | refine ba ?_ _)); exact BK379.out) hb); have n2_ := Aside0.mk (blk_below (g := gb382) (o := .cells #[.int .i64 t380, .int .i64 t381] 24 (0, 0)) (by (with_reducible repeat (first | refine bN ?_ _ | refine bd ?_ | refine ba ?_ _)); refine blk_far ?_ NB382_396.out _; (with_reducible repeat (first | refine bN ?_ _ | refine bd ?_ | refine ba ?_ _)); refine blk_far ?_ NB382_396.out _; (with_reducible repeat (first | refine bN ?_ _ | refine bd ?_ | refine ba ?_ _)); exact BK382.out) hb); have n3_ := Aside0.mk (blk_below (g := gb385) (o := .cells #[.int .i64 t383, .int .i64 t384] 24 (0, 0)) (by (with_reducible repeat (first | refine bN ?_ _ | refine bd ?_ | refine ba ?_ _)); refine blk_far ?_ NB385_396.out _; (with_reducible repeat (first | refine bN ?_ _ | refine bd ?_ | refine ba ?_ _)); refine blk_far ?_ NB385_396.out _; (with_reducible repeat (first | refine bN ?_ _ | refine bd ?_ | refine ba ?_ _)); exact BK385.out) hb); have n4_ := Aside0.mk (blk_below (g := gb392) (o := .cells #[.int .i64 t398, .int .i64 t399] 24 (0, 0)) (by (with_reducible repeat (first | refine bN ?_ _ | refine bd ?_ | refine ba ?_ _)); refine blk_far ?_ NB392_396.out _; (with_reducible repeat (first | refine bN ?_ _ | refine bd ?_ | refine ba ?_ _)); refine blk_far ?_ NB392_396.out _; (with_reducible repeat (first | refine bN ?_ _ | refine bd ?_ | refine ba ?_ _)); exact BK392.out) hb); have n5_ := Aside0.mk (blk_below (g := gb396) (o := .cells #[.int .i64 t401, .int .i64 t402] 24 (0, 0)) (by (with_reducible repeat (first | refine bN ?_ _ | refine bd ?_ | refine ba ?_ _)); refine blk_put (cs := #[.int .i64 t401, .int .i64 t394]) ?_ 1 _ rfl; (with_reducible repeat (first | refine bN ?_ _ | refine bd ?_ | refine ba ?_ _)); refine blk_put (cs := #[.int .i64 t393, .int .i64 t394]) ?_ 0 _ rfl; (with_reducible repeat (first | refine bN ?_ _ | refine bd ?_ | refine ba ?_ _)); exact BK396.out) hb); have n6_ := Aside0.mk (below_step (hq HB) hb); clear BK376; clear BK379; clear BK382; clear BK385; clear BK392; clear BK396; clear HB; have BK376 := n0_; have BK379 := n1_; have BK382 := n2_; have BK385 := n3_; have BK392 := n4_; have BK396 := n5_; have HB := n6_; clear n0_ n1_ n2_ n3_ n4_ n5_ n6_; (try clear hb); (try clear hb2); (try clear hk); (try clear hi)))
        go_ret
        exact ⟨by first | rfl | (simp [errW_none, errW_some] <;> rfl) | (simp [*, errW_none, errW_some] <;> rfl), by repeat (first | (with_reducible first | exact HB.out | apply below_alloc | apply pw_below_drewN | apply below_drew1 | refine below_set ?_ GE376.out | refine below_set ?_ GE379.out | refine below_set ?_ GE382.out | refine below_set ?_ GE385.out | refine below_set ?_ GE392.out | refine below_set ?_ GE396.out) | exact HB.out)⟩

end Go.Proofs.YtjpgommmkjgddaaDoor.P
