-- Written by this session's own copy of a printing program (wip/tools); Lean checks it.
import Derived.Test.YtjpgommmkjgddaaDoorPx0
import Derived.Test.YtjpgommmkjgddaaDoorPx12
namespace Go.Proofs.YtjpgommmkjgddaaDoor.P
open Go.RowKit Go.Proofs.YtjpgommmkjgddaaDoorW.PrintWords Go.Proofs.YtjpgommmkjgddaaDoorW.PrintLast Go.Proofs.YtjpgommmkjgddaaDoorW.PrintMore
attribute [local go_sem] max2_int min2_int max_two min_two max_three min_three max_four min_four   -- for this text's walks alone
set_option linter.unusedVariables false
set_option linter.unusedSimpArgs false

/-! ### intervalmonref01_Bound: function 43 -/
def intervalmonref01_Bound.f (a0 : Int) (a1 : Int) : Option (Int) := (intervalmonref01_Around.f a0 (wrap64 ((wrap64 (2 * a1)) + 1))).bind fun t368 => (some (wrap64 (t368 - a1)))
set_option maxHeartbeats 8000000 in
set_option maxRecDepth 100000 in
theorem intervalmonref01_Bound.calls (a0 : Int) (a1 : Int) (r : Int) (w : World) (h : intervalmonref01_Bound.f a0 a1 = some r) :
  Calls Tryd.prog 43 #[.int .i64 a0, .int .i64 a1] w fun e w' => e = .returned (.int .i64 r) ∧ Below w.heap.size w w' := by
 have HB := Aside0.mk (Below.refl w.heap.size w)
 have H : ((intervalmonref01_Around.f a0 (wrap64 ((wrap64 (2 * a1)) + 1))).bind fun t368 => (some (wrap64 (t368 - a1)))) = some r := h
 clear h
 replace H := Option.bind_eq_some_iff.mp H
 obtain ⟨t368, A30, H⟩ := H
 replace H : (some (wrap64 (t368 - a1))) = some r := H
 have A3 := Aside0.mk A30
 clear A30
 obtain rfl := Option.some.inj H
 go_enter Tryd.func43, Tryd.ntmps43
 go_wp2_with (first | ((with_reducible refine gate_callee (f := 44) rfl ?_); refine goesL_ (some 9) rfl rfl Tryd.func44 (by kernel_rfl) rfl #[.int .i64 a0, .int .i64 (wrap64 ((wrap64 (2 * a1)) + 1))] rfl aq ?_; (with_reducible refine (intervalmonref01_Around.calls a0 (wrap64 ((wrap64 (2 * a1)) + 1)) t368 _ A3.out).mono ?_); rintro e w4 ⟨rfl, hb⟩; refine ⟨_, rfl, ?_⟩; have n0_ := Aside0.mk (below_step (hq HB) hb); clear HB; have HB := n0_; clear n0_; (try clear hb); (try clear hb2); (try clear hk); (try clear hi)))
 go_ret
 exact ⟨by first | rfl | (simp [errW_none, errW_some] <;> rfl) | (simp [*, errW_none, errW_some] <;> rfl), by repeat (first | (with_reducible first | exact HB.out | apply below_alloc | apply pw_below_drewN | apply below_drew1) | exact HB.out)⟩

/-! ### intervalmonref03_Of: function 13 -/
def intervalmonref03_Of.f (k : Nat) (a0 : Int) (a1 : Int) : Option (Int × Int) := (intervalmonref01_Bound.f a0 2305843009213693952).bind fun t370 => ((intervalmonref01_Around.f a1 2305843009213693952).bind fun t371 => ((intervalmonref03_New.f k t370 (wrap64 (1 + t371))).bind fun bt372 => (some (bt372.1, bt372.2.1))))
theorem intervalmonref03_Of.mono : ∀ a0 a1 k, LeO (intervalmonref03_Of.f k a0 a1) (intervalmonref03_Of.f (k + 1) a0 a1) := by
 intro a0 a1 k
 unfold intervalmonref03_Of.f
 repeat' first
   | (with_reducible exact intervalmonref03_New.mono _ _ _)
   | (with_reducible exact LeO.refl _)
   | (with_reducible exact LeO.none _)
   | (with_reducible refine LeO.ite ?_ ?_)
   | (with_reducible refine LeO.bind ?_ (fun _ => ?_))
   | exact intervalmonref03_New.mono _ _ _
   | exact LeO.none _
   | refine LeO.ite ?_ ?_
   | refine LeO.bind ?_ (fun _ => ?_)
set_option maxHeartbeats 8000000 in
set_option maxRecDepth 100000 in
theorem intervalmonref03_Of.calls (k : Nat) (a0 : Int) (a1 : Int) (r1 : Int) (r2 : Int) (w : World) (h : intervalmonref03_Of.f k a0 a1 = some (r1, r2)) :
  Calls Tryd.prog 13 #[.int .i64 a0, .int .i64 a1] w fun e w' => e = .returned (.agg #[.int .i64 r1, .int .i64 r2]) ∧ Below w.heap.size w w' := by
 have hu24 := Tryd.underlying24
 have HB := Aside0.mk (Below.refl w.heap.size w)
 have H : ((intervalmonref01_Bound.f a0 2305843009213693952).bind fun t370 => ((intervalmonref01_Around.f a1 2305843009213693952).bind fun t371 => ((intervalmonref03_New.f k t370 (wrap64 (1 + t371))).bind fun bt372 => (some (bt372.1, bt372.2.1))))) = some (r1, r2) := h
 clear h
 replace H := Option.bind_eq_some_iff.mp H
 obtain ⟨t370, A30, H⟩ := H
 replace H : ((intervalmonref01_Around.f a1 2305843009213693952).bind fun t371 => ((intervalmonref03_New.f k t370 (wrap64 (1 + t371))).bind fun bt372 => (some (bt372.1, bt372.2.1)))) = some (r1, r2) := H
 have A3 := Aside0.mk A30
 clear A30
 replace H := Option.bind_eq_some_iff.mp H
 obtain ⟨t371, A40, H⟩ := H
 replace H : ((intervalmonref03_New.f k t370 (wrap64 (1 + t371))).bind fun bt372 => (some (bt372.1, bt372.2.1))) = some (r1, r2) := H
 have A4 := Aside0.mk A40
 clear A40
 replace H := Option.bind_eq_some_iff.mp H
 obtain ⟨⟨t372, t373, t374⟩, A50, H⟩ := H
 replace H : (some (t372, t373)) = some (r1, r2) := H
 have A5 := Aside0.mk A50
 clear A50
 simp only [Option.some.injEq, Prod.mk.injEq] at H
 obtain ⟨rfl, rfl⟩ := H
 go_enter Tryd.func13, Tryd.ntmps13
 go_wp2_with (first | ((with_reducible refine gate_dst (N := 4) rfl ?_); refine box_event ?hg (N := 4) ?hd (cs := #[.int .i64 0, .int .i64 0]) (t := 24) ?hr ?_; (case hd => rfl); (case hg => rfl); (case hr => first | (go_simp; done) | (go_simp; rfl)); intro gb369 hg w6 hbox hb; have n0_ := Aside0.mk (below_step (hq HB) hb); have n1_ := Aside0.mk (hbox); have n2_ := Aside0.mk ((by rw [hg]; exact (below_size (hq HB)) : w.heap.size ≤ gb369)); have n3_ := Aside0.mk ((by rw [hg]; exact (below_size (hq HB)) : w.heap.size ≤ gb369)); clear HB; have HB := n0_; have BK369 := n1_; have GW369 := n2_; have GE369 := n3_; clear n0_ n1_ n2_ n3_; clear hb hbox hg) | ((with_reducible refine gate_callee (f := 43) rfl ?_); refine goesL_ (some 9) rfl rfl Tryd.func43 (by kernel_rfl) rfl #[.int .i64 a0, .int .i64 2305843009213693952] rfl aq ?_; (with_reducible refine (intervalmonref01_Bound.calls a0 2305843009213693952 t370 _ A3.out).mono ?_); rintro e w7 ⟨rfl, hb⟩; refine ⟨_, rfl, ?_⟩; have n0_ := bb BK369 hb; have n1_ := Aside0.mk (below_step (hq HB) hb); clear BK369; clear HB; have BK369 := n0_; have HB := n1_; clear n0_ n1_; (try clear hb); (try clear hb2); (try clear hk); (try clear hi)) | ((with_reducible refine gate_callee (f := 44) rfl ?_); refine goesL_ (some 11) rfl rfl Tryd.func44 (by kernel_rfl) rfl #[.int .i64 a1, .int .i64 2305843009213693952] rfl aq ?_; (with_reducible refine (intervalmonref01_Around.calls a1 2305843009213693952 t371 _ A4.out).mono ?_); rintro e w8 ⟨rfl, hb⟩; refine ⟨_, rfl, ?_⟩; have n0_ := bb BK369 hb; have n1_ := Aside0.mk (below_step (hq HB) hb); clear BK369; clear HB; have BK369 := n0_; have HB := n1_; clear n0_ n1_; (try clear hb); (try clear hb2); (try clear hk); (try clear hi)) | ((with_reducible refine gate_callee (f := 26) rfl ?_); refine goesL_ (some 13) rfl rfl Tryd.func26 (by kernel_rfl) rfl #[.int .i64 t370, .int .i64 (wrap64 (1 + t371))] rfl aq ?_; (with_reducible refine (intervalmonref03_New.calls k t370 (wrap64 (1 + t371)) t372 t373 t374 _ A5.out).mono ?_); rintro e w9 ⟨rfl, hb⟩; refine ⟨_, rfl, ?_⟩; have n0_ := bb BK369 hb; have n1_ := Aside0.mk (below_step (hq HB) hb); clear BK369; clear HB; have BK369 := n0_; have HB := n1_; clear n0_ n1_; (try clear hb); (try clear hb2); (try clear hk); (try clear hi)) | ((with_reducible refine gate_dst (N := 5) rfl ?_); refine box_event ?hg (N := 5) ?hd (cs := #[.int .i64 0, .int .i64 0]) (t := 24) ?hr ?_; (case hd => rfl); (case hg => rfl); (case hr => first | (go_simp; done) | (go_simp; rfl)); intro gb375 hg w10 hbox hb; have n0_ := bb BK369 hb; have n1_ := Aside0.mk (below_step (hq HB) hb); have n2_ := Aside0.mk (hbox); have n3_ := Aside0.mk ((by rw [hg]; exact (below_size (hq HB)) : w.heap.size ≤ gb375)); have n4_ := Aside0.mk ((by rw [hg]; exact (below_size (hq HB)) : w.heap.size ≤ gb375)); have n5_ := nl BK369 hg; have n6_ := ng BK369 hg; clear BK369; clear HB; have BK369 := n0_; have HB := n1_; have BK375 := n2_; have GW375 := n3_; have GE375 := n4_; have NB369_375 := n5_; have NB375_369 := n6_; clear n0_ n1_ n2_ n3_ n4_ n5_ n6_; clear hb hbox hg; have hnb11 := NB375_369.out; have hnc11 := NB369_375.out; have hcz12_0 : w10.cell? ⟨gb375, 0, none⟩ = some (.int .i64 0) := (blk_cell BK375.out 0).trans rfl; have hcz12_1 : w10.cell? ⟨gb375, 1, none⟩ = some (.int .i64 0) := (blk_cell BK375.out 1).trans rfl; have hfz12_0 := blk_frozen BK375.out 0; have hfz12_1 := blk_frozen BK375.out 1; have hcz13_0 : w10.cell? ⟨gb369, 0, none⟩ = some (.int .i64 0) := (blk_cell BK369.out 0).trans rfl; have hcz13_1 : w10.cell? ⟨gb369, 1, none⟩ = some (.int .i64 0) := (blk_cell BK369.out 1).trans rfl; have hfz13_0 := blk_frozen BK369.out 0; have hfz13_1 := blk_frozen BK369.out 1))
 refine bodyPost_ret (results_cell_row rfl _ _ gb369 24 #[.int .i64 t372, .int .i64 t373] (0, 0) _ rfl (by (with_reducible repeat (first | refine bN ?_ _ | refine bd ?_ | refine ba ?_ _)); refine blk_put (cs := #[.int .i64 t372, .int .i64 0]) ?_ 1 _ rfl; (with_reducible repeat (first | refine bN ?_ _ | refine bd ?_ | refine ba ?_ _)); refine blk_put (cs := #[.int .i64 0, .int .i64 0]) ?_ 0 _ rfl; (with_reducible repeat (first | refine bN ?_ _ | refine bd ?_ | refine ba ?_ _)); refine blk_far ?_ NB369_375.out _; (with_reducible repeat (first | refine bN ?_ _ | refine bd ?_ | refine ba ?_ _)); refine blk_far ?_ NB369_375.out _; (with_reducible repeat (first | refine bN ?_ _ | refine bd ?_ | refine ba ?_ _)); exact BK369.out) Tryd.underlying24 rfl (by kernel_rfl)) rfl ?_
 exact ⟨by first | rfl | (simp [errW_none, errW_some] <;> rfl) | (simp [*, errW_none, errW_some] <;> rfl), by repeat (first | (with_reducible first | exact HB.out | apply below_alloc | apply pw_below_drewN | apply below_drew1 | refine below_set ?_ GE369.out | refine below_set ?_ GE375.out) | exact HB.out)⟩

end Go.Proofs.YtjpgommmkjgddaaDoor.P
