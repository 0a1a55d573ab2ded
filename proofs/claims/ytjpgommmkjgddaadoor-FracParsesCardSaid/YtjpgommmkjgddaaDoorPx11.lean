-- Written by this session's own copy of a printing program (wip/tools); Lean checks it.
import Derived.Test.YtjpgommmkjgddaaDoorPx0
import Derived.Test.YtjpgommmkjgddaaDoorPx3
import Derived.Test.YtjpgommmkjgddaaDoorPx4
import Derived.Test.YtjpgommmkjgddaaDoorPx7
import Derived.Test.YtjpgommmkjgddaaDoorPx9
import Derived.Test.YtjpgommmkjgddaaDoorPx10
import Derived.Test.YtjpgommmkjgddaaDoorHLib
namespace Go.Proofs.YtjpgommmkjgddaaDoor.P
open Go.RowKit Go.Proofs.YtjpgommmkjgddaaDoorW.PrintWords Go.Proofs.YtjpgommmkjgddaaDoorW.PrintLast Go.Proofs.YtjpgommmkjgddaaDoorW.PrintMore
attribute [local go_sem] max2_int min2_int max_two min_two max_three min_three max_four min_four   -- for this text's walks alone
set_option linter.unusedVariables false
set_option linter.unusedSimpArgs false

attribute [local go_sem high] eqA91
/-! ### frac_Add: function 36 -/
def frac_Add.j0 : Nat → Bool → Int → Int → Int → Int → Option (Int × Int × Int)
 | 0, _, _, _, _, _ => none
 | k + 1, x20, x188000, x188001, x189000, x189001 => if x20 = true then (some (0, 0, 1)) else ((frac_gcd_uint64.f k (IntKind.u64.wrap (x188001)) (IntKind.u64.wrap (x189001))).bind fun t192 => (if t192 = 0 then (none) else ((frac_times.f x188000 (IntKind.u64.wrap (Int.tdiv (IntKind.u64.wrap (x189001)) t192))).bind fun bt193 => ((frac_times.f x189000 (IntKind.u64.wrap (Int.tdiv (IntKind.u64.wrap (x188001)) t192))).bind fun bt196 => ((frac_long_plus.f k bt193.1 bt193.2.1 bt193.2.2 bt196.1 bt196.2.1 bt196.2.2).bind fun bt199 => (if (!bt199.1 && (bt199.2.1 == 0 && (bt199.2.2 == 0))) = true then (some (0, 1, 0)) else ((bits_Rem64.f k bt199.2.1 bt199.2.2 t192).bind fun t203 => ((frac_gcd_uint64.f k t203 t192).bind fun t204 => ((frac_long_over.f k bt199.1 bt199.2.1 bt199.2.2 t204).bind fun bt205 => (if t204 = 0 then (none) else ((bits_Mul64.f (IntKind.u64.wrap (Int.tdiv (IntKind.u64.wrap (x188001)) t192)) (IntKind.u64.wrap (Int.tdiv (IntKind.u64.wrap (x189001)) t204))).bind fun bt207 => (if bt205.2 = true then (if bt207.1 = 0 then ((frac_made.f k bt199.1 bt205.1 bt207.2).bind fun bt209 => (some (bt209.1, bt209.2.1, bt209.2.2))) else (some (0, 0, 5))) else (some (0, 0, 5))))))))))))))
def frac_Add.f (k : Nat) (a0_0 : Int) (a0_1 : Int) (a1_0 : Int) (a1_1 : Int) : Option (Int × Int × Int) := (frac_Valid.f k a0_0 a0_1).bind fun t190 => (if t190 = true then ((frac_Valid.f k a1_0 a1_1).bind fun t191 => (frac_Add.j0 k (!t191) a0_0 a0_1 a1_0 a1_1)) else (frac_Add.j0 k true a0_0 a0_1 a1_0 a1_1))
theorem frac_Add.mono_l : ∀ k, (∀ y0 y1 y2 y3 y4, LeO (frac_Add.j0 k y0 y1 y2 y3 y4) (frac_Add.j0 (k + 1) y0 y1 y2 y3 y4))
 | 0 => fun _ _ _ _ _ r h => by simp [frac_Add.j0] at h
 | k + 1 => by
  have ih0 := frac_Add.mono_l k
  ·intro y0 y1 y2 y3 y4
   unfold frac_Add.j0
   repeat' first
   | (with_reducible exact ih0 _ _ _ _ _)
   | (with_reducible exact bits_Rem64.mono _ _ _ _)
   | (with_reducible exact frac_Valid.mono _ _ _)
   | (with_reducible exact frac_gcd_uint64.mono _ _ _)
   | (with_reducible exact frac_long_over.mono _ _ _ _ _)
   | (with_reducible exact frac_long_plus.mono _ _ _ _ _ _ _)
   | (with_reducible exact frac_made.mono _ _ _ _)
   | (with_reducible exact LeO.refl _)
   | (with_reducible exact LeO.none _)
   | (with_reducible refine LeO.ite ?_ ?_)
   | (with_reducible refine LeO.bind ?_ (fun _ => ?_))
   | exact ih0 _ _ _ _ _
   | exact bits_Rem64.mono _ _ _ _
   | exact frac_Valid.mono _ _ _
   | exact frac_gcd_uint64.mono _ _ _
   | exact frac_long_over.mono _ _ _ _ _
   | exact frac_long_plus.mono _ _ _ _ _ _ _
   | exact frac_made.mono _ _ _ _
   | exact LeO.none _
   | refine LeO.ite ?_ ?_
   | refine LeO.bind ?_ (fun _ => ?_)
theorem frac_Add.mono : ∀ a0 a1 a2 a3 k, LeO (frac_Add.f k a0 a1 a2 a3) (frac_Add.f (k + 1) a0 a1 a2 a3) := by
 intro a0 a1 a2 a3 k
 have ih0 := frac_Add.mono_l k
 unfold frac_Add.f
 repeat' first
   | (with_reducible exact ih0 _ _ _ _ _)
   | (with_reducible exact bits_Rem64.mono _ _ _ _)
   | (with_reducible exact frac_Valid.mono _ _ _)
   | (with_reducible exact frac_gcd_uint64.mono _ _ _)
   | (with_reducible exact frac_long_over.mono _ _ _ _ _)
   | (with_reducible exact frac_long_plus.mono _ _ _ _ _ _ _)
   | (with_reducible exact frac_made.mono _ _ _ _)
   | (with_reducible exact LeO.refl _)
   | (with_reducible exact LeO.none _)
   | (with_reducible refine LeO.ite ?_ ?_)
   | (with_reducible refine LeO.bind ?_ (fun _ => ?_))
   | exact ih0 _ _ _ _ _
   | exact bits_Rem64.mono _ _ _ _
   | exact frac_Valid.mono _ _ _
   | exact frac_gcd_uint64.mono _ _ _
   | exact frac_long_over.mono _ _ _ _ _
   | exact frac_long_plus.mono _ _ _ _ _ _ _
   | exact frac_made.mono _ _ _ _
   | exact LeO.none _
   | refine LeO.ite ?_ ?_
   | refine LeO.bind ?_ (fun _ => ?_)
def frac_Add.T4 : Bool × List (List Nat × List Nat) := (true, [([], []), ([0], [0]), ([], []), ([2], [2]), ([3], [3]), ([], []), ([4, 5], [4, 5]), ([1, 6], [1, 6]), ([], []), ([8], [8]), ([], []), ([10], [10]), ([11], [11]), ([], []), ([12, 13], [12, 13]), ([9, 14, 7], [9, 14]), ([7, 15, 15], [7, 15]), ([], []), ([17, 16, 16, 0, 1, 2, 3, 4, 5, 6, 7, 8, 9, 10, 11, 12, 13, 14, 15, 16, 17], [16, 17])])
def frac_Add.B4 : List Nat := [0, 1, 0, 4, 12, 0, 60, 127, 0, 256, 0, 1024, 3072, 0, 15360, 32767, 65535, 0, 262143]
theorem frac_Add.tab4 : rtab .any (opsOf Tryd.f36 4) = frac_Add.T4 := by kernel_rfl
theorem frac_Add.bits4 : waitsOk frac_Add.T4.2 frac_Add.B4 = true := by kernel_rfl
def frac_Add.T9 : Bool × List (List Nat × List Nat) := (true, [([], []), ([0], [0]), ([1], [1]), ([], []), ([2, 3], [2, 3]), ([], []), ([5], [5]), ([6], [6]), ([], []), ([7, 8], [7, 8]), ([4, 9], [4, 9]), ([10], [10]), ([11], [11]), ([11], [11]), ([12, 10, 0, 1, 2, 3, 4, 5, 6, 7, 8, 9, 10, 11, 12], [12]), ([13, 14, 0, 1, 2, 3, 4, 5, 6, 7, 8, 9, 10, 11, 12, 13, 14], [13])])
def frac_Add.B9 : List Nat := [0, 1, 3, 0, 15, 0, 32, 96, 0, 480, 1023, 2047, 4095, 4095, 8191, 32767]
theorem frac_Add.tab9 : rtab .any (opsOf Tryd.f36 9) = frac_Add.T9 := by kernel_rfl
theorem frac_Add.bits9 : waitsOk frac_Add.T9.2 frac_Add.B9 = true := by kernel_rfl
set_option maxHeartbeats 8000000 in
set_option maxRecDepth 100000 in
theorem frac_Add.calls (k : Nat) (a0_0 : Int) (a0_1 : Int) (a1_0 : Int) (a1_1 : Int) (r1 : Int) (r2 : Int) (r3 : Int) (w : World) (h : frac_Add.f k a0_0 a0_1 a1_0 a1_1 = some (r1, r2, r3)) :
  Calls Tryd.prog 36 #[.agg #[.int .i64 a0_0, .int .i64 a0_1], .agg #[.int .i64 a1_0, .int .i64 a1_1]] w fun e w' => e = .returned (.tuple #[.agg #[.int .i64 r1, .int .i64 r2], .int .i64 r3]) ∧ Below w.heap.size w w' := by
 have hu24 := Tryd.underlying24
 have hu91 := Tryd.underlying91
 have HB := Aside0.mk (Below.refl w.heap.size w)
 have H : ((frac_Valid.f k a0_0 a0_1).bind fun t190 => (if t190 = true then ((frac_Valid.f k a1_0 a1_1).bind fun t191 => (frac_Add.j0 k (!t191) a0_0 a0_1 a1_0 a1_1)) else (frac_Add.j0 k true a0_0 a0_1 a1_0 a1_1))) = some (r1, r2, r3) := h
 clear h
 have HC3 := Aside0.mk H
 clear H
 go_enter Tryd.func36, Tryd.ntmps36
 go_upto_region 1 with (first | ((with_reducible refine gate_dst (N := 2) rfl ?_); refine box_event ?hg (N := 2) ?hd (cs := #[.int .i64 a0_0, .int .i64 a0_1]) (t := 24) ?hr ?_; (case hd => rfl); (case hg => rfl); (case hr => first | (go_simp; done) | (go_simp; rfl)); intro gb187 hg w4 hbox hb; have n0_ := Aside0.mk (below_step (hq HB) hb); have n1_ := Aside0.mk (hbox); have n2_ := Aside0.mk ((by rw [hg]; exact (below_size (hq HB)) : w.heap.size ≤ gb187)); have n3_ := Aside0.mk ((by rw [hg]; exact (below_size (hq HB)) : w.heap.size ≤ gb187)); clear HB; have HB := n0_; have BK187 := n1_; have GW187 := n2_; have GE187 := n3_; clear n0_ n1_ n2_ n3_; clear hb hbox hg) | ((with_reducible refine gate_dst (N := 3) rfl ?_); refine box_event ?hg (N := 3) ?hd (cs := #[.int .i64 a1_0, .int .i64 a1_1]) (t := 24) ?hr ?_; (case hd => rfl); (case hg => rfl); (case hr => first | (go_simp; done) | (go_simp; rfl)); intro gb188 hg w5 hbox hb; have n0_ := bb BK187 hb; have n1_ := Aside0.mk (below_step (hq HB) hb); have n2_ := Aside0.mk (hbox); have n3_ := Aside0.mk ((by rw [hg]; exact (below_size (hq HB)) : w.heap.size ≤ gb188)); have n4_ := Aside0.mk ((by rw [hg]; exact (below_size (hq HB)) : w.heap.size ≤ gb188)); have n5_ := nl BK187 hg; have n6_ := ng BK187 hg; clear BK187; clear HB; have BK187 := n0_; have HB := n1_; have BK188 := n2_; have GW188 := n3_; have GE188 := n4_; have NB187_188 := n5_; have NB188_187 := n6_; clear n0_ n1_ n2_ n3_ n4_ n5_ n6_; clear hb hbox hg) | ((with_reducible refine gate_dst (N := 4) rfl ?_); refine box_event ?hg (N := 4) ?hd (cs := #[.int .i64 0, .int .i64 0]) (t := 24) ?hr ?_; (case hd => rfl); (case hg => rfl); (case hr => first | (go_simp; done) | (go_simp; rfl)); intro gb189 hg w6 hbox hb; have n0_ := bb BK187 hb; have n1_ := bb BK188 hb; have n2_ := Aside0.mk (below_step (hq HB) hb); have n3_ := Aside0.mk (hbox); have n4_ := Aside0.mk ((by rw [hg]; exact (below_size (hq HB)) : w.heap.size ≤ gb189)); have n5_ := Aside0.mk ((by rw [hg]; exact (below_size (hq HB)) : w.heap.size ≤ gb189)); have n6_ := nl BK187 hg; have n7_ := ng BK187 hg; have n8_ := nl BK188 hg; have n9_ := ng BK188 hg; clear BK187; clear BK188; clear HB; have BK187 := n0_; have BK188 := n1_; have HB := n2_; have BK189 := n3_; have GW189 := n4_; have GE189 := n5_; have NB187_189 := n6_; have NB189_187 := n7_; have NB188_189 := n8_; have NB189_188 := n9_; clear n0_ n1_ n2_ n3_ n4_ n5_ n6_ n7_ n8_ n9_; clear hb hbox hg))
 (try simp only [Act.put, List.setIfInBounds_toArray, List.set_cons_zero, List.set_cons_succ])
 go_cut [20] (fun v20 wc => ∃ (kq : Nat) (x20_2 : Bool), v20 = .bool x20_2 ∧ Aside0 (frac_Add.j0 kq x20_2 a0_0 a0_1 a1_0 a1_1 = some (r1, r2, r3)) ∧ Aside0 (kq ≤ k) ∧ Aside0 (wc.heap[gb187]? = some (.cells #[.int .i64 a0_0, .int .i64 a0_1] 24 (0, 0))) ∧ Aside0 (wc.heap[gb188]? = some (.cells #[.int .i64 a1_0, .int .i64 a1_1] 24 (0, 0))) ∧ Aside0 (wc.heap[gb189]? = some (.cells #[.int .i64 0, .int .i64 0] 24 (0, 0))) ∧ Aside0 (Below w.heap.size w wc))
 case first =>
  have H := HC3.out
  clear HC3
  replace H := Option.bind_eq_some_iff.mp H
  obtain ⟨t190, A70, H⟩ := H
  replace H : (if t190 = true then ((frac_Valid.f k a1_0 a1_1).bind fun t191 => (frac_Add.j0 k (!t191) a0_0 a0_1 a1_0 a1_1)) else (frac_Add.j0 k true a0_0 a0_1 a1_0 a1_1)) = some (r1, r2, r3) := H
  have A7 := Aside0.mk A70
  clear A70
  by_cases c8 : t190 = true
  ·subst c8
   have H1 : ((frac_Valid.f k a1_0 a1_1).bind fun t191 => (frac_Add.j0 k (!t191) a0_0 a0_1 a1_0 a1_1)) = some (r1, r2, r3) := by rw [if_pos rfl] at H; exact H
   clear H
   have H := H1
   clear H1
   replace H := Option.bind_eq_some_iff.mp H
   obtain ⟨t191, A90, H⟩ := H
   replace H : (frac_Add.j0 k (!t191) a0_0 a0_1 a1_0 a1_1) = some (r1, r2, r3) := H
   have A9 := Aside0.mk A90
   clear A90
   have H' := Aside0.mk H
   clear H
   have hnb10 := NB187_188.out
   have hnc10 := NB188_187.out
   have hnb11 := NB187_189.out
   have hnc11 := NB189_187.out
   have hcz12_0 : w6.cell? ⟨gb187, 0, none⟩ = some (.int .i64 a0_0) := (blk_cell BK187.out 0).trans rfl
   have hcz12_1 : w6.cell? ⟨gb187, 1, none⟩ = some (.int .i64 a0_1) := (blk_cell BK187.out 1).trans rfl
   have hfz12_0 := blk_frozen BK187.out 0
   have hfz12_1 := blk_frozen BK187.out 1
   go_wp2_with (first | ((with_reducible refine gate_callee (f := 27) rfl ?_); refine goesL_ (some 14) rfl rfl Tryd.func27 (by kernel_rfl) rfl #[.agg #[.int .i64 a0_0, .int .i64 a0_1]] rfl aq ?_; (with_reducible refine (frac_Valid.calls k a0_0 a0_1 true _ A7.out).mono ?_); rintro e w13 ⟨rfl, hb⟩; refine ⟨_, rfl, ?_⟩; have n0_ := bb BK187 hb; have n1_ := bb BK188 hb; have n2_ := bb BK189 hb; have n3_ := Aside0.mk (below_step (hq HB) hb); clear BK187; clear BK188; clear BK189; clear HB; have BK187 := n0_; have BK188 := n1_; have BK189 := n2_; have HB := n3_; clear n0_ n1_ n2_ n3_; (try clear hb); (try clear hb2); (try clear hk); (try clear hi); have hnb14 := NB188_189.out; have hnc14 := NB189_188.out; have hcz15_0 : w13.cell? ⟨gb188, 0, none⟩ = some (.int .i64 a1_0) := (blk_cell BK188.out 0).trans rfl; have hcz15_1 : w13.cell? ⟨gb188, 1, none⟩ = some (.int .i64 a1_1) := (blk_cell BK188.out 1).trans rfl; have hfz15_0 := blk_frozen BK188.out 0; have hfz15_1 := blk_frozen BK188.out 1) | (go_at_call 27; (with_reducible refine (frac_Valid.calls k a1_0 a1_1 t191 _ A9.out).mono ?_); rintro e w16 ⟨rfl, hb⟩; have n0_ := bb BK187 hb; have n1_ := bb BK188 hb; have n2_ := bb BK189 hb; have n3_ := Aside0.mk (below_step (hq HB) hb); clear BK187; clear BK188; clear BK189; clear HB; have BK187 := n0_; have BK188 := n1_; have BK189 := n2_; have HB := n3_; clear n0_ n1_ n2_ n3_; (try clear hb); (try clear hb2); (try clear hk); (try clear hi)))
   go_meet
   case rel => exact ⟨_, (!t191), (by first | rfl | (simp; done) | (simp [*]; done)), H', ⟨by first | omega | exact Nat.le_refl _⟩, ⟨by (with_reducible repeat (first | refine bN ?_ _ | refine bd ?_ | refine ba ?_ _)); exact BK187.out⟩, ⟨by (with_reducible repeat (first | refine bN ?_ _ | refine bd ?_ | refine ba ?_ _)); exact BK188.out⟩, ⟨by (with_reducible repeat (first | refine bN ?_ _ | refine bd ?_ | refine ba ?_ _)); exact BK189.out⟩, ⟨by repeat (first | (with_reducible first | exact HB.out | apply below_alloc | apply pw_below_drewN | apply below_drew1 | refine below_set ?_ GE187.out | refine below_set ?_ GE188.out | refine below_set ?_ GE189.out) | exact HB.out)⟩⟩
  ·replace c8 := Bool.eq_false_iff.mpr c8
   subst c8
   have H1 : (frac_Add.j0 k true a0_0 a0_1 a1_0 a1_1) = some (r1, r2, r3) := by rw [if_neg (show ¬ (false = true) by decide)] at H; exact H
   clear H
   have H := H1
   clear H1
   have H' := Aside0.mk H
   clear H
   have hnb17 := NB187_188.out
   have hnc17 := NB188_187.out
   have hnb18 := NB187_189.out
   have hnc18 := NB189_187.out
   have hcz19_0 : w6.cell? ⟨gb187, 0, none⟩ = some (.int .i64 a0_0) := (blk_cell BK187.out 0).trans rfl
   have hcz19_1 : w6.cell? ⟨gb187, 1, none⟩ = some (.int .i64 a0_1) := (blk_cell BK187.out 1).trans rfl
   have hfz19_0 := blk_frozen BK187.out 0
   have hfz19_1 := blk_frozen BK187.out 1
   go_wp2_with (first | ((with_reducible refine gate_callee (f := 27) rfl ?_); refine goesL_ (some 14) rfl rfl Tryd.func27 (by kernel_rfl) rfl #[.agg #[.int .i64 a0_0, .int .i64 a0_1]] rfl aq ?_; (with_reducible refine (frac_Valid.calls k a0_0 a0_1 false _ A7.out).mono ?_); rintro e w20 ⟨rfl, hb⟩; refine ⟨_, rfl, ?_⟩; have n0_ := bb BK187 hb; have n1_ := bb BK188 hb; have n2_ := bb BK189 hb; have n3_ := Aside0.mk (below_step (hq HB) hb); clear BK187; clear BK188; clear BK189; clear HB; have BK187 := n0_; have BK188 := n1_; have BK189 := n2_; have HB := n3_; clear n0_ n1_ n2_ n3_; (try clear hb); (try clear hb2); (try clear hk); (try clear hi)))
   go_meet
   case rel => exact ⟨_, (true), (by first | rfl | (simp; done) | (simp [*]; done)), H', ⟨by first | omega | exact Nat.le_refl _⟩, ⟨by (with_reducible repeat (first | refine bN ?_ _ | refine bd ?_ | refine ba ?_ _)); exact BK187.out⟩, ⟨by (with_reducible repeat (first | refine bN ?_ _ | refine bd ?_ | refine ba ?_ _)); exact BK188.out⟩, ⟨by (with_reducible repeat (first | refine bN ?_ _ | refine bd ?_ | refine ba ?_ _)); exact BK189.out⟩, ⟨by repeat (first | (with_reducible first | exact HB.out | apply below_alloc | apply pw_below_drewN | apply below_drew1 | refine below_set ?_ GE187.out | refine below_set ?_ GE188.out | refine below_set ?_ GE189.out) | exact HB.out)⟩⟩
 case rest =>
  clear HC3
  try clear c1
  try clear c2
  try clear p2
  try clear c3
  try clear c8
  try clear c10
  try clear c11
  try clear c14
  try clear c17
  try clear c18
  try clear hcz12_0
  try clear hcz12_1
  try clear hcz15_0
  try clear hcz15_1
  try clear hcz19_0
  try clear hcz19_1
  try clear hfz12_0
  try clear hfz12_1
  try clear hfz15_0
  try clear hfz15_1
  try clear hfz19_0
  try clear hfz19_1
  obtain ⟨kq, x20_2, rfl, HA, HJ2, BK187, BK188, BK189, HB⟩ := hcut
  cases kq with
  | zero => exact absurd HA.out (by simp [frac_Add.j0])
  | succ kj2 =>
   have H := HA.out
   clear HA
   simp only [frac_Add.j0] at H
   by_cases c21 : x20_2 = true
   ·subst c21
    have H1 : (some (0, 0, 1)) = some (r1, r2, r3) := by rw [if_pos rfl] at H; exact H
    clear H
    have H := H1
    clear H1
    simp only [Option.some.injEq, Prod.mk.injEq] at H
    obtain ⟨rfl, rfl, rfl⟩ := H
    have hnb22 := NB189_187.out
    have hnc22 := NB187_189.out
    have hnb23 := NB189_188.out
    have hnc23 := NB188_189.out
    have hcz24_0 : wc.cell? ⟨gb189, 0, none⟩ = some (.int .i64 0) := (blk_cell BK189.out 0).trans rfl
    have hcz24_1 : wc.cell? ⟨gb189, 1, none⟩ = some (.int .i64 0) := (blk_cell BK189.out 1).trans rfl
    have hfz24_0 := blk_frozen BK189.out 0
    have hfz24_1 := blk_frozen BK189.out 1
    go_wp2
    refine bodyPost_ret (results_ct rfl _ _ gb189 24 #[.int .i64 0, .int .i64 0] (0, 0) _ rfl (by (with_reducible repeat (first | refine bN ?_ _ | refine bd ?_ | refine ba ?_ _)); refine blk_put (cs := #[.int .i64 0, .int .i64 0]) ?_ 1 _ rfl; (with_reducible repeat (first | refine bN ?_ _ | refine bd ?_ | refine ba ?_ _)); refine blk_put (cs := #[.int .i64 0, .int .i64 0]) ?_ 0 _ rfl; (with_reducible repeat (first | refine bN ?_ _ | refine bd ?_ | refine ba ?_ _)); exact BK189.out) Tryd.underlying24 rfl (by kernel_rfl)) rfl ?_
    exact ⟨by first | rfl | (simp [errW_none, errW_some] <;> rfl) | (simp [*, errW_none, errW_some] <;> rfl), by repeat (first | (with_reducible first | exact HB.out | apply below_alloc | apply pw_below_drewN | apply below_drew1 | refine below_set ?_ GE187.out | refine below_set ?_ GE188.out | refine below_set ?_ GE189.out) | exact HB.out)⟩
   ·replace c21 := Bool.eq_false_iff.mpr c21
    subst c21
    have H1 : ((frac_gcd_uint64.f kj2 (IntKind.u64.wrap (a0_1)) (IntKind.u64.wrap (a1_1))).bind fun t192 => (if t192 = 0 then (none) else ((frac_times.f a0_0 (IntKind.u64.wrap (Int.tdiv (IntKind.u64.wrap (a1_1)) t192))).bind fun bt193 => ((frac_times.f a1_0 (IntKind.u64.wrap (Int.tdiv (IntKind.u64.wrap (a0_1)) t192))).bind fun bt196 => ((frac_long_plus.f kj2 bt193.1 bt193.2.1 bt193.2.2 bt196.1 bt196.2.1 bt196.2.2).bind fun bt199 => (if (!bt199.1 && (bt199.2.1 == 0 && (bt199.2.2 == 0))) = true then (some (0, 1, 0)) else ((bits_Rem64.f kj2 bt199.2.1 bt199.2.2 t192).bind fun t203 => ((frac_gcd_uint64.f kj2 t203 t192).bind fun t204 => ((frac_long_over.f kj2 bt199.1 bt199.2.1 bt199.2.2 t204).bind fun bt205 => (if t204 = 0 then (none) else ((bits_Mul64.f (IntKind.u64.wrap (Int.tdiv (IntKind.u64.wrap (a0_1)) t192)) (IntKind.u64.wrap (Int.tdiv (IntKind.u64.wrap (a1_1)) t204))).bind fun bt207 => (if bt205.2 = true then (if bt207.1 = 0 then ((frac_made.f kj2 bt199.1 bt205.1 bt207.2).bind fun bt209 => (some (bt209.1, bt209.2.1, bt209.2.2))) else (some (0, 0, 5))) else (some (0, 0, 5)))))))))))))) = some (r1, r2, r3) := by rw [if_neg (show ¬ (false = true) by decide)] at H; exact H
    clear H
    have H := H1
    clear H1
    replace H := Option.bind_eq_some_iff.mp H
    obtain ⟨t192, A250, H⟩ := H
    replace H : (if t192 = 0 then (none) else ((frac_times.f a0_0 (IntKind.u64.wrap (Int.tdiv (IntKind.u64.wrap (a1_1)) t192))).bind fun bt193 => ((frac_times.f a1_0 (IntKind.u64.wrap (Int.tdiv (IntKind.u64.wrap (a0_1)) t192))).bind fun bt196 => ((frac_long_plus.f kj2 bt193.1 bt193.2.1 bt193.2.2 bt196.1 bt196.2.1 bt196.2.2).bind fun bt199 => (if (!bt199.1 && (bt199.2.1 == 0 && (bt199.2.2 == 0))) = true then (some (0, 1, 0)) else ((bits_Rem64.f kj2 bt199.2.1 bt199.2.2 t192).bind fun t203 => ((frac_gcd_uint64.f kj2 t203 t192).bind fun t204 => ((frac_long_over.f kj2 bt199.1 bt199.2.1 bt199.2.2 t204).bind fun bt205 => (if t204 = 0 then (none) else ((bits_Mul64.f (IntKind.u64.wrap (Int.tdiv (IntKind.u64.wrap (a0_1)) t192)) (IntKind.u64.wrap (Int.tdiv (IntKind.u64.wrap (a1_1)) t204))).bind fun bt207 => (if bt205.2 = true then (if bt207.1 = 0 then ((frac_made.f kj2 bt199.1 bt205.1 bt207.2).bind fun bt209 => (some (bt209.1, bt209.2.1, bt209.2.2))) else (some (0, 0, 5))) else (some (0, 0, 5))))))))))))) = some (r1, r2, r3) := H
    have A25 := Aside0.mk A250
    clear A250
    by_cases c26 : t192 = 0
    ·rw [if_pos c26] at H
     exact absurd H (by simp)
    ·rw [if_neg c26] at H
     have c26b0 : (t192 == 0) = false := beq_eq_false_iff_ne.mpr c26
     have c26b1 : (t192 != 0) = true := bne_iff_ne.mpr c26
     replace H := Option.bind_eq_some_iff.mp H
     obtain ⟨⟨t193, t194, t195⟩, A270, H⟩ := H
     replace H : ((frac_times.f a1_0 (IntKind.u64.wrap (Int.tdiv (IntKind.u64.wrap (a0_1)) t192))).bind fun bt196 => ((frac_long_plus.f kj2 t193 t194 t195 bt196.1 bt196.2.1 bt196.2.2).bind fun bt199 => (if (!bt199.1 && (bt199.2.1 == 0 && (bt199.2.2 == 0))) = true then (some (0, 1, 0)) else ((bits_Rem64.f kj2 bt199.2.1 bt199.2.2 t192).bind fun t203 => ((frac_gcd_uint64.f kj2 t203 t192).bind fun t204 => ((frac_long_over.f kj2 bt199.1 bt199.2.1 bt199.2.2 t204).bind fun bt205 => (if t204 = 0 then (none) else ((bits_Mul64.f (IntKind.u64.wrap (Int.tdiv (IntKind.u64.wrap (a0_1)) t192)) (IntKind.u64.wrap (Int.tdiv (IntKind.u64.wrap (a1_1)) t204))).bind fun bt207 => (if bt205.2 = true then (if bt207.1 = 0 then ((frac_made.f kj2 bt199.1 bt205.1 bt207.2).bind fun bt209 => (some (bt209.1, bt209.2.1, bt209.2.2))) else (some (0, 0, 5))) else (some (0, 0, 5))))))))))) = some (r1, r2, r3) := H
     have A27 := Aside0.mk A270
     clear A270
     replace H := Option.bind_eq_some_iff.mp H
     obtain ⟨⟨t196, t197, t198⟩, A280, H⟩ := H
     replace H : ((frac_long_plus.f kj2 t193 t194 t195 t196 t197 t198).bind fun bt199 => (if (!bt199.1 && (bt199.2.1 == 0 && (bt199.2.2 == 0))) = true then (some (0, 1, 0)) else ((bits_Rem64.f kj2 bt199.2.1 bt199.2.2 t192).bind fun t203 => ((frac_gcd_uint64.f kj2 t203 t192).bind fun t204 => ((frac_long_over.f kj2 bt199.1 bt199.2.1 bt199.2.2 t204).bind fun bt205 => (if t204 = 0 then (none) else ((bits_Mul64.f (IntKind.u64.wrap (Int.tdiv (IntKind.u64.wrap (a0_1)) t192)) (IntKind.u64.wrap (Int.tdiv (IntKind.u64.wrap (a1_1)) t204))).bind fun bt207 => (if bt205.2 = true then (if bt207.1 = 0 then ((frac_made.f kj2 bt199.1 bt205.1 bt207.2).bind fun bt209 => (some (bt209.1, bt209.2.1, bt209.2.2))) else (some (0, 0, 5))) else (some (0, 0, 5)))))))))) = some (r1, r2, r3) := H
     have A28 := Aside0.mk A280
     clear A280
     replace H := Option.bind_eq_some_iff.mp H
     obtain ⟨⟨t199, t200, t201⟩, A290, H⟩ := H
     replace H : (if (!t199 && (t200 == 0 && (t201 == 0))) = true then (some (0, 1, 0)) else ((bits_Rem64.f kj2 t200 t201 t192).bind fun t203 => ((frac_gcd_uint64.f kj2 t203 t192).bind fun t204 => ((frac_long_over.f kj2 t199 t200 t201 t204).bind fun bt205 => (if t204 = 0 then (none) else ((bits_Mul64.f (IntKind.u64.wrap (Int.tdiv (IntKind.u64.wrap (a0_1)) t192)) (IntKind.u64.wrap (Int.tdiv (IntKind.u64.wrap (a1_1)) t204))).bind fun bt207 => (if bt205.2 = true then (if bt207.1 = 0 then ((frac_made.f kj2 t199 bt205.1 bt207.2).bind fun bt209 => (some (bt209.1, bt209.2.1, bt209.2.2))) else (some (0, 0, 5))) else (some (0, 0, 5))))))))) = some (r1, r2, r3) := H
     have A29 := Aside0.mk A290
     clear A290
     by_cases c30 : (!t199 && (t200 == 0 && (t201 == 0))) = true
     ·rw [if_pos c30] at H
      have c30b0 : (!t199 && (t200 == 0 && (t201 == 0))) = true := c30
      clear c30
      simp only [Option.some.injEq, Prod.mk.injEq] at H
      obtain ⟨rfl, rfl, rfl⟩ := H
      have hnb31 := NB187_188.out
      have hnc31 := NB188_187.out
      have hnb32 := NB187_189.out
      have hnc32 := NB189_187.out
      have hcz33_0 : wc.cell? ⟨gb187, 0, none⟩ = some (.int .i64 a0_0) := (blk_cell BK187.out 0).trans rfl
      have hcz33_1 : wc.cell? ⟨gb187, 1, none⟩ = some (.int .i64 a0_1) := (blk_cell BK187.out 1).trans rfl
      have hfz33_0 := blk_frozen BK187.out 0
      have hfz33_1 := blk_frozen BK187.out 1
      have hnb34 := NB188_189.out
      have hnc34 := NB189_188.out
      have hcz35_0 : wc.cell? ⟨gb188, 0, none⟩ = some (.int .i64 a1_0) := (blk_cell BK188.out 0).trans rfl
      have hcz35_1 : wc.cell? ⟨gb188, 1, none⟩ = some (.int .i64 a1_1) := (blk_cell BK188.out 1).trans rfl
      have hfz35_0 := blk_frozen BK188.out 0
      have hfz35_1 := blk_frozen BK188.out 1
      try go_wp2_with (first | ((with_reducible refine gate_callee (f := 56) rfl ?_); refine goesL_ (some 28) rfl rfl Tryd.func56 (by kernel_rfl) rfl #[.int .u64 (IntKind.u64.wrap (a0_1)), .int .u64 (IntKind.u64.wrap (a1_1))] rfl aq ?_; (with_reducible refine (frac_gcd_uint64.calls kj2 (IntKind.u64.wrap (a0_1)) (IntKind.u64.wrap (a1_1)) t192 _ A25.out).mono ?_); rintro e w36 ⟨rfl, hb⟩; refine ⟨_, rfl, ?_⟩; have n0_ := bb BK187 hb; have n1_ := bb BK188 hb; have n2_ := bb BK189 hb; have n3_ := Aside0.mk (below_step (hq HB) hb); clear BK187; clear BK188; clear BK189; clear HB; have BK187 := n0_; have BK188 := n1_; have BK189 := n2_; have HB := n3_; clear n0_ n1_ n2_ n3_; (try clear hb); (try clear hb2); (try clear hk); (try clear hi)))
      have n0_ := Aside0.mk (blk_drew BK187.out)
      have n1_ := Aside0.mk (blk_drew BK188.out)
      have n2_ := Aside0.mk (blk_drew BK189.out)
      have n3_ := Aside0.mk (below_drew1 HB.out)
      clear BK187
      clear BK188
      clear BK189
      clear HB
      have BK187 := n0_
      have BK188 := n1_
      have BK189 := n2_
      have HB := n3_
      clear n0_ n1_ n2_ n3_
      refine start_ (n := 19) (S := fun w' => w'.cell? ⟨gb187, 0, none⟩ = some (.int .i64 a0_0) ∧ w'.cell? ⟨gb187, 1, none⟩ = some (.int .i64 a0_1) ∧ w'.cell? ⟨gb188, 0, none⟩ = some (.int .i64 a1_0) ∧ w'.cell? ⟨gb188, 1, none⟩ = some (.int .i64 a1_1)) (ds := []) #[false, false, false, false, false, false, false, false, false, false, false, false, false, false, false, false, false, false, false] (by kernel_rfl) rfl rfl ⟨(blk_cell BK187.out 0).trans rfl, (blk_cell BK187.out 1).trans rfl, (blk_cell BK188.out 0).trans rfl, (blk_cell BK188.out 1).trans rfl⟩ (fun hHeld => ?_); refine with_tabW frac_Add.tab4 frac_Add.bits4 (fun HT_ HW_ => ?_)
      generalize w36.drew = w37 at BK187 BK188 BK189 HB hHeld ⊢
      refine pure_ (i := 0) (N := some 29) (v := ?_) (a' := ?_) #[true, false, false, false, false, false, false, false, false, false, false, false, false, false, false, false, false, false, false] rfl rfl (any_of HT_.out (by kernel_rfl)) (fun _ _ _ h => h) (Or.inl ⟨by rfl, ?_⟩) ?_ ?_
      rotate_left
      ·intro w'
       go_simp
       with_reducible rfl
      rotate_left
      ·simp only [Act.put, List.setIfInBounds_toArray, List.set_cons_zero, List.set_cons_succ, i64_w, i32_w]
       rfl
      refine pure_ (i := 2) (N := some 31) (v := ?_) (a' := ?_) #[true, false, true, false, false, false, false, false, false, false, false, false, false, false, false, false, false, false, false] rfl rfl (any_of HT_.out (by kernel_rfl)) (fun _ _ _ h => h) (Or.inl ⟨by rfl, ?_⟩) ?_ ?_
      rotate_left
      ·intro w'
       go_simp
       with_reducible rfl
      rotate_left
      ·simp only [Act.put, List.setIfInBounds_toArray, List.set_cons_zero, List.set_cons_succ, i64_w, i32_w]
       rfl
      refine pure_ (i := 5) (N := some 34) (v := ?_) (a' := ?_) #[true, false, true, false, false, true, false, false, false, false, false, false, false, false, false, false, false, false, false] rfl rfl (any_of HT_.out (by kernel_rfl)) (fun _ _ _ h => h) (Or.inl ⟨by rfl, ?_⟩) ?_ ?_
      rotate_left
      ·intro w'
       go_simp
       with_reducible rfl
      rotate_left
      ·simp only [Act.put, List.setIfInBounds_toArray, List.set_cons_zero, List.set_cons_succ, i64_w, i32_w]
       rfl
      refine pure_ (i := 8) (N := some 37) (v := ?_) (a' := ?_) #[true, false, true, false, false, true, false, false, true, false, false, false, false, false, false, false, false, false, false] rfl rfl (any_of HT_.out (by kernel_rfl)) (fun _ _ _ h => h) (Or.inl ⟨by rfl, ?_⟩) ?_ ?_
      rotate_left
      ·intro w'
       go_simp
       with_reducible rfl
      rotate_left
      ·simp only [Act.put, List.setIfInBounds_toArray, List.set_cons_zero, List.set_cons_succ, i64_w, i32_w]
       rfl
      refine pure_ (i := 10) (N := some 39) (v := ?_) (a' := ?_) #[true, false, true, false, false, true, false, false, true, false, true, false, false, false, false, false, false, false, false] rfl rfl (any_of HT_.out (by kernel_rfl)) (fun _ _ _ h => h) (Or.inl ⟨by rfl, ?_⟩) ?_ ?_
      rotate_left
      ·intro w'
       go_simp
       with_reducible rfl
      rotate_left
      ·simp only [Act.put, List.setIfInBounds_toArray, List.set_cons_zero, List.set_cons_succ, i64_w, i32_w]
       rfl
      refine pure_ (i := 13) (N := some 42) (v := ?_) (a' := ?_) #[true, false, true, false, false, true, false, false, true, false, true, false, false, true, false, false, false, false, false] rfl rfl (any_of HT_.out (by kernel_rfl)) (fun _ _ _ h => h) (Or.inl ⟨by rfl, ?_⟩) ?_ ?_
      rotate_left
      ·intro w'
       go_simp
       with_reducible rfl
      rotate_left
      ·simp only [Act.put, List.setIfInBounds_toArray, List.set_cons_zero, List.set_cons_succ, i64_w, i32_w]
       rfl
      refine take_ (i := 1) (N := some 30) (v := ?_) (a' := ?_) #[true, true, true, false, false, true, false, false, true, false, true, false, false, true, false, false, false, false, false] rfl rfl (take_ofW HT_.out HW_.out (by kernel_rfl)) (fun _ _ _ h => h) (Or.inl ⟨by rfl, ?_⟩) hHeld ?_ ?_
      rotate_left
      ·rintro w' ⟨s0, s1, s2, s3⟩
       go_simp
       with_reducible rfl
      rotate_left
      ·simp only [Act.put, List.setIfInBounds_toArray, List.set_cons_zero, List.set_cons_succ, i64_w, i32_w]
       rfl
      refine take_ (i := 3) (N := some 32) (v := ?_) (a' := ?_) #[true, true, true, true, false, true, false, false, true, false, true, false, false, true, false, false, false, false, false] rfl rfl (take_ofW HT_.out HW_.out (by kernel_rfl)) (fun _ _ _ h => h) (Or.inl ⟨by rfl, ?_⟩) hHeld ?_ ?_
      rotate_left
      ·rintro w' ⟨s0, s1, s2, s3⟩
       go_simp
       with_reducible rfl
      rotate_left
      ·simp only [Act.put, List.setIfInBounds_toArray, List.set_cons_zero, List.set_cons_succ, i64_w, i32_w]
       rfl
      refine pure_ (i := 4) (N := some 33) (v := ?_) (a' := ?_) #[true, true, true, true, true, true, false, false, true, false, true, false, false, true, false, false, false, false, false] rfl rfl (any_of HT_.out (by kernel_rfl)) (fun _ _ _ h => h) (Or.inl ⟨by rfl, ?_⟩) ?_ ?_
      rotate_left
      ·intro w'
       go_simp
       with_reducible rfl
      rotate_left
      ·simp only [Act.put, List.setIfInBounds_toArray, List.set_cons_zero, List.set_cons_succ, i64_w, i32_w]
       rfl
      refine pure_ (i := 6) (N := some 35) (v := ?_) (a' := ?_) #[true, true, true, true, true, true, true, false, true, false, true, false, false, true, false, false, false, false, false] rfl rfl (any_of HT_.out (by kernel_rfl)) (fun _ _ _ h => h) (Or.inl ⟨by rfl, ?_⟩) ?_ ?_
      rotate_left
      ·intro w'
       go_simp
       with_reducible rfl
      rotate_left
      ·simp only [Act.put, List.setIfInBounds_toArray, List.set_cons_zero, List.set_cons_succ, i64_w, i32_w]
       rfl
      refine take_ (i := 9) (N := some 38) (v := ?_) (a' := ?_) #[true, true, true, true, true, true, true, false, true, true, true, false, false, true, false, false, false, false, false] rfl rfl (take_ofW HT_.out HW_.out (by kernel_rfl)) (fun _ _ _ h => h) (Or.inl ⟨by rfl, ?_⟩) hHeld ?_ ?_
      rotate_left
      ·rintro w' ⟨s0, s1, s2, s3⟩
       go_simp
       with_reducible rfl
      rotate_left
      ·simp only [Act.put, List.setIfInBounds_toArray, List.set_cons_zero, List.set_cons_succ, i64_w, i32_w]
       rfl
      refine take_ (i := 11) (N := some 40) (v := ?_) (a' := ?_) #[true, true, true, true, true, true, true, false, true, true, true, true, false, true, false, false, false, false, false] rfl rfl (take_ofW HT_.out HW_.out (by kernel_rfl)) (fun _ _ _ h => h) (Or.inl ⟨by rfl, ?_⟩) hHeld ?_ ?_
      rotate_left
      ·rintro w' ⟨s0, s1, s2, s3⟩
       go_simp
       with_reducible rfl
      rotate_left
      ·simp only [Act.put, List.setIfInBounds_toArray, List.set_cons_zero, List.set_cons_succ, i64_w, i32_w]
       rfl
      refine pure_ (i := 12) (N := some 41) (v := ?_) (a' := ?_) #[true, true, true, true, true, true, true, false, true, true, true, true, true, true, false, false, false, false, false] rfl rfl (any_of HT_.out (by kernel_rfl)) (fun _ _ _ h => h) (Or.inl ⟨by rfl, ?_⟩) ?_ ?_
      rotate_left
      ·intro w'
       go_simp
       with_reducible rfl
      rotate_left
      ·simp only [Act.put, List.setIfInBounds_toArray, List.set_cons_zero, List.set_cons_succ, i64_w, i32_w]
       rfl
      refine pure_ (i := 14) (N := some 43) (v := ?_) (a' := ?_) #[true, true, true, true, true, true, true, false, true, true, true, true, true, true, true, false, false, false, false] rfl rfl (any_of HT_.out (by kernel_rfl)) (fun _ _ _ h => h) (Or.inl ⟨by rfl, ?_⟩) ?_ ?_
      rotate_left
      ·intro w'
       go_simp
       with_reducible rfl
      rotate_left
      ·simp only [Act.put, List.setIfInBounds_toArray, List.set_cons_zero, List.set_cons_succ, i64_w, i32_w]
       rfl
      refine join_ (σ := Nat) 1 #[true, true, true, true, true, true, true, true, true, true, true, true, true, true, true, true, true, true, false] (fun s_ => [(36, .agg #[.bool t193, .int .u64 t194, .int .u64 t195]), (44, .agg #[.bool t196, .int .u64 t197, .int .u64 t198]), (45, .agg #[.bool t199, .int .u64 t200, .int .u64 t201]), (7, .pointer (some ⟨s_, 0, none⟩))]) (fun s_ w' => (w'.cell? ⟨gb187, 0, none⟩ = some (.int .i64 a0_0) ∧ w'.cell? ⟨gb187, 1, none⟩ = some (.int .i64 a0_1) ∧ w'.cell? ⟨gb188, 0, none⟩ = some (.int .i64 a1_0) ∧ w'.cell? ⟨gb188, 1, none⟩ = some (.int .i64 a1_1)) ∧ (w'.heap[gb187]? = some (.cells #[.int .i64 a0_0, .int .i64 a0_1] 24 (0, 0))) ∧ (w'.heap[gb188]? = some (.cells #[.int .i64 a1_0, .int .i64 a1_1] 24 (0, 0))) ∧ (w'.heap[gb189]? = some (.cells #[.int .i64 0, .int .i64 0] 24 (0, 0))) ∧ (w'.heap[s_]? = some (.cells #[.bool false, .int .u64 0, .int .u64 0] 91 (0, 0))) ∧ (w.heap.size ≤ s_) ∧ (w.heap.size ≤ s_) ∧ (gb187 ≠ s_) ∧ (s_ ≠ gb187) ∧ (gb188 ≠ s_) ∧ (s_ ≠ gb188) ∧ (gb189 ≠ s_) ∧ (s_ ≠ gb189) ∧ (Below w.heap.size w w')) ?_ ?_
      rotate_left
      ·intro hCont
       refine two_ (i := 7) (j := 17) (Ni := some 36) (Nj := some 7) #[true, true, true, true, true, true, true, true, true, true, true, true, true, true, true, false, false, false, false] #[true, true, true, true, true, true, true, false, true, true, true, true, true, true, true, false, false, true, false] rfl rfl rfl rfl (two_of HT_.out (by kernel_rfl)) (by decide) (by decide) (fun K hK => ?_) (fun K hK => ?_)
       ·skip
        refine goes_ Tryd.func69 (by kernel_rfl) rfl #[.int .i64 a0_0, .int .u64 (IntKind.u64.wrap (Int.tdiv (IntKind.u64.wrap (a1_1)) t192))] (by rfl) rfl rfl aq ?_
        with_reducible refine (frac_times.calls a0_0 (IntKind.u64.wrap (Int.tdiv (IntKind.u64.wrap (a1_1)) t192)) t193 t194 t195 _ A27.out).mono ?_
        rintro e w38 ⟨rfl, hb⟩
        refine ⟨_, rfl, ?_⟩
        have n0_ := bb BK187 hb
        have n1_ := bb BK188 hb
        have n2_ := bb BK189 hb
        have n3_ := Aside0.mk (below_step (hq HB) hb)
        clear BK187
        clear BK188
        clear BK189
        clear HB
        have BK187 := n0_
        have BK188 := n1_
        have BK189 := n2_
        have HB := n3_
        clear n0_ n1_ n2_ n3_
        (try clear hb)
        (try clear hb2)
        (try clear hk)
        (try clear hi)
        refine hK.out _ _ ⟨(blk_cell BK187.out 0).trans rfl, (blk_cell BK187.out 1).trans rfl, (blk_cell BK188.out 0).trans rfl, (blk_cell BK188.out 1).trans rfl⟩ (fun hHeld => ?_)
        clear hK K
        refine norm_ (a' := ?_) ?_ ?_
        rotate_left
        ·show Act.put _ (some 36) _ = _
         simp only [Act.put, List.setIfInBounds_toArray, List.set_cons_zero, List.set_cons_succ, i64_w, i32_w]
         rfl
        refine two_ (i := 15) (j := 17) (Ni := some 44) (Nj := some 7) #[true, true, true, true, true, true, true, true, true, true, true, true, true, true, true, true, false, false, false] #[true, true, true, true, true, true, true, true, true, true, true, true, true, true, true, false, false, true, false] rfl rfl rfl rfl (two_of HT_.out (by kernel_rfl)) (by decide) (by decide) (fun K hK => ?_) (fun K hK => ?_)
        ·skip
         refine goes_ Tryd.func69 (by kernel_rfl) rfl #[.int .i64 a1_0, .int .u64 (IntKind.u64.wrap (Int.tdiv (IntKind.u64.wrap (a0_1)) t192))] (by rfl) rfl rfl aq ?_
         with_reducible refine (frac_times.calls a1_0 (IntKind.u64.wrap (Int.tdiv (IntKind.u64.wrap (a0_1)) t192)) t196 t197 t198 _ A28.out).mono ?_
         rintro e w39 ⟨rfl, hb⟩
         refine ⟨_, rfl, ?_⟩
         have n0_ := bb BK187 hb
         have n1_ := bb BK188 hb
         have n2_ := bb BK189 hb
         have n3_ := Aside0.mk (below_step (hq HB) hb)
         clear BK187
         clear BK188
         clear BK189
         clear HB
         have BK187 := n0_
         have BK188 := n1_
         have BK189 := n2_
         have HB := n3_
         clear n0_ n1_ n2_ n3_
         (try clear hb)
         (try clear hb2)
         (try clear hk)
         (try clear hi)
         refine hK.out _ _ ⟨(blk_cell BK187.out 0).trans rfl, (blk_cell BK187.out 1).trans rfl, (blk_cell BK188.out 0).trans rfl, (blk_cell BK188.out 1).trans rfl⟩ (fun hHeld => ?_)
         clear hK K
         refine norm_ (a' := ?_) ?_ ?_
         rotate_left
         ·show Act.put _ (some 44) _ = _
          simp only [Act.put, List.setIfInBounds_toArray, List.set_cons_zero, List.set_cons_succ, i64_w, i32_w]
          rfl
         refine two_ (i := 16) (j := 17) (Ni := some 45) (Nj := some 7) #[true, true, true, true, true, true, true, true, true, true, true, true, true, true, true, true, true, false, false] #[true, true, true, true, true, true, true, true, true, true, true, true, true, true, true, true, false, true, false] rfl rfl rfl rfl (two_of HT_.out (by kernel_rfl)) (by decide) (by decide) (fun K hK => ?_) (fun K hK => ?_)
         ·skip
          refine goes_ Tryd.func70 (by kernel_rfl) rfl #[.agg #[.bool t193, .int .u64 t194, .int .u64 t195], .agg #[.bool t196, .int .u64 t197, .int .u64 t198]] (by rfl) rfl rfl aq ?_
          with_reducible refine (frac_long_plus.calls kj2 t193 t194 t195 t196 t197 t198 t199 t200 t201 _ A29.out).mono ?_
          rintro e w40 ⟨rfl, hb⟩
          refine ⟨_, rfl, ?_⟩
          have n0_ := bb BK187 hb
          have n1_ := bb BK188 hb
          have n2_ := bb BK189 hb
          have n3_ := Aside0.mk (below_step (hq HB) hb)
          clear BK187
          clear BK188
          clear BK189
          clear HB
          have BK187 := n0_
          have BK188 := n1_
          have BK189 := n2_
          have HB := n3_
          clear n0_ n1_ n2_ n3_
          (try clear hb)
          (try clear hb2)
          (try clear hk)
          (try clear hi)
          refine hK.out _ _ ⟨(blk_cell BK187.out 0).trans rfl, (blk_cell BK187.out 1).trans rfl, (blk_cell BK188.out 0).trans rfl, (blk_cell BK188.out 1).trans rfl⟩ (fun hHeld => ?_)
          clear hK K
          refine norm_ (a' := ?_) ?_ ?_
          rotate_left
          ·show Act.put _ (some 45) _ = _
           simp only [Act.put, List.setIfInBounds_toArray, List.set_cons_zero, List.set_cons_succ, i64_w, i32_w]
           rfl
          refine one_ (i := 17) (N := some 7) #[true, true, true, true, true, true, true, true, true, true, true, true, true, true, true, true, true, true, false] rfl rfl (one_of HT_.out (by kernel_rfl)) (by decide) (fun K hK => ?_)
          refine box_step ?hg (N := 7) ?hd (cs := #[.bool false, .int .u64 0, .int .u64 0]) (t := 91) ?hr ?_; (case hd => rfl); (case hg => rfl); (case hr => first | (go_simp; done) | (go_simp; rfl))
          intro gb202 hg w41 hbox hb
          have n0_ := bb BK187 hb
          have n1_ := bb BK188 hb
          have n2_ := bb BK189 hb
          have n3_ := Aside0.mk (below_step (hq HB) hb)
          have n4_ := Aside0.mk (hbox)
          have n5_ := Aside0.mk ((by rw [hg]; exact (below_size (hq HB)) : w.heap.size ≤ gb202))
          have n6_ := Aside0.mk ((by rw [hg]; exact (below_size (hq HB)) : w.heap.size ≤ gb202))
          have n7_ := nl BK187 hg
          have n8_ := ng BK187 hg
          have n9_ := nl BK188 hg
          have n10_ := ng BK188 hg
          have n11_ := nl BK189 hg
          have n12_ := ng BK189 hg
          clear BK187
          clear BK188
          clear BK189
          clear HB
          have BK187 := n0_
          have BK188 := n1_
          have BK189 := n2_
          have HB := n3_
          have BK202 := n4_
          have GW202 := n5_
          have GE202 := n6_
          have NB187_202 := n7_
          have NB202_187 := n8_
          have NB188_202 := n9_
          have NB202_188 := n10_
          have NB189_202 := n11_
          have NB202_189 := n12_
          clear n0_ n1_ n2_ n3_ n4_ n5_ n6_ n7_ n8_ n9_ n10_ n11_ n12_
          clear hb hbox hg
          refine hK.out _ _ ⟨(blk_cell BK187.out 0).trans rfl, (blk_cell BK187.out 1).trans rfl, (blk_cell BK188.out 0).trans rfl, (blk_cell BK188.out 1).trans rfl⟩ (fun hHeld => ?_)
          clear hK K
          refine norm_ (a' := ?_) ?_ ?_
          rotate_left
          ·show Act.put _ (some 7) _ = _
           simp only [Act.put, List.setIfInBounds_toArray, List.set_cons_zero, List.set_cons_succ, i64_w, i32_w]
           rfl
          exact norm_ (by simp only [putAll, Act.put, List.setIfInBounds_toArray, List.set_cons_zero, List.set_cons_succ]) (hCont (gb202) _ ⟨hHeld, (bq BK187), (bq BK188), (bq BK189), (bq BK202), GW202.out, GE202.out, NB187_202.out, NB202_187.out, NB188_202.out, NB202_188.out, NB189_202.out, NB202_189.out, (hq HB)⟩)
         ·skip
          refine box_step ?hg (N := 7) ?hd (cs := #[.bool false, .int .u64 0, .int .u64 0]) (t := 91) ?hr ?_; (case hd => rfl); (case hg => rfl); (case hr => first | (go_simp; done) | (go_simp; rfl))
          intro gb202 hg w40 hbox hb
          have n0_ := bb BK187 hb
          have n1_ := bb BK188 hb
          have n2_ := bb BK189 hb
          have n3_ := Aside0.mk (below_step (hq HB) hb)
          have n4_ := Aside0.mk (hbox)
          have n5_ := Aside0.mk ((by rw [hg]; exact (below_size (hq HB)) : w.heap.size ≤ gb202))
          have n6_ := Aside0.mk ((by rw [hg]; exact (below_size (hq HB)) : w.heap.size ≤ gb202))
          have n7_ := nl BK187 hg
          have n8_ := ng BK187 hg
          have n9_ := nl BK188 hg
          have n10_ := ng BK188 hg
          have n11_ := nl BK189 hg
          have n12_ := ng BK189 hg
          clear BK187
          clear BK188
          clear BK189
          clear HB
          have BK187 := n0_
          have BK188 := n1_
          have BK189 := n2_
          have HB := n3_
          have BK202 := n4_
          have GW202 := n5_
          have GE202 := n6_
          have NB187_202 := n7_
          have NB202_187 := n8_
          have NB188_202 := n9_
          have NB202_188 := n10_
          have NB189_202 := n11_
          have NB202_189 := n12_
          clear n0_ n1_ n2_ n3_ n4_ n5_ n6_ n7_ n8_ n9_ n10_ n11_ n12_
          clear hb hbox hg
          refine hK.out _ _ ⟨(blk_cell BK187.out 0).trans rfl, (blk_cell BK187.out 1).trans rfl, (blk_cell BK188.out 0).trans rfl, (blk_cell BK188.out 1).trans rfl⟩ (fun hHeld => ?_)
          clear hK K
          refine norm_ (a' := ?_) ?_ ?_
          rotate_left
          ·show Act.put _ (some 7) _ = _
           simp only [Act.put, List.setIfInBounds_toArray, List.set_cons_zero, List.set_cons_succ, i64_w, i32_w]
           rfl
          refine one_ (i := 16) (N := some 45) #[true, true, true, true, true, true, true, true, true, true, true, true, true, true, true, true, true, true, false] rfl rfl (one_of HT_.out (by kernel_rfl)) (by decide) (fun K hK => ?_)
          refine goes_ Tryd.func70 (by kernel_rfl) rfl #[.agg #[.bool t193, .int .u64 t194, .int .u64 t195], .agg #[.bool t196, .int .u64 t197, .int .u64 t198]] (by rfl) rfl rfl aq ?_
          with_reducible refine (frac_long_plus.calls kj2 t193 t194 t195 t196 t197 t198 t199 t200 t201 _ A29.out).mono ?_
          rintro e w41 ⟨rfl, hb⟩
          refine ⟨_, rfl, ?_⟩
          have n0_ := bb BK187 hb
          have n1_ := bb BK188 hb
          have n2_ := bb BK189 hb
          have n3_ := bb BK202 hb
          have n4_ := Aside0.mk (below_step (hq HB) hb)
          clear BK187
          clear BK188
          clear BK189
          clear BK202
          clear HB
          have BK187 := n0_
          have BK188 := n1_
          have BK189 := n2_
          have BK202 := n3_
          have HB := n4_
          clear n0_ n1_ n2_ n3_ n4_
          (try clear hb)
          (try clear hb2)
          (try clear hk)
          (try clear hi)
          refine hK.out _ _ ⟨(blk_cell BK187.out 0).trans rfl, (blk_cell BK187.out 1).trans rfl, (blk_cell BK188.out 0).trans rfl, (blk_cell BK188.out 1).trans rfl⟩ (fun hHeld => ?_)
          clear hK K
          refine norm_ (a' := ?_) ?_ ?_
          rotate_left
          ·show Act.put _ (some 45) _ = _
           simp only [Act.put, List.setIfInBounds_toArray, List.set_cons_zero, List.set_cons_succ, i64_w, i32_w]
           rfl
          exact norm_ (by simp only [putAll, Act.put, List.setIfInBounds_toArray, List.set_cons_zero, List.set_cons_succ]) (hCont (gb202) _ ⟨hHeld, (bq BK187), (bq BK188), (bq BK189), (bq BK202), GW202.out, GE202.out, NB187_202.out, NB202_187.out, NB188_202.out, NB202_188.out, NB189_202.out, NB202_189.out, (hq HB)⟩)
        ·skip
         refine box_step ?hg (N := 7) ?hd (cs := #[.bool false, .int .u64 0, .int .u64 0]) (t := 91) ?hr ?_; (case hd => rfl); (case hg => rfl); (case hr => first | (go_simp; done) | (go_simp; rfl))
         intro gb202 hg w39 hbox hb
         have n0_ := bb BK187 hb
         have n1_ := bb BK188 hb
         have n2_ := bb BK189 hb
         have n3_ := Aside0.mk (below_step (hq HB) hb)
         have n4_ := Aside0.mk (hbox)
         have n5_ := Aside0.mk ((by rw [hg]; exact (below_size (hq HB)) : w.heap.size ≤ gb202))
         have n6_ := Aside0.mk ((by rw [hg]; exact (below_size (hq HB)) : w.heap.size ≤ gb202))
         have n7_ := nl BK187 hg
         have n8_ := ng BK187 hg
         have n9_ := nl BK188 hg
         have n10_ := ng BK188 hg
         have n11_ := nl BK189 hg
         have n12_ := ng BK189 hg
         clear BK187
         clear BK188
         clear BK189
         clear HB
         have BK187 := n0_
         have BK188 := n1_
         have BK189 := n2_
         have HB := n3_
         have BK202 := n4_
         have GW202 := n5_
         have GE202 := n6_
         have NB187_202 := n7_
         have NB202_187 := n8_
         have NB188_202 := n9_
         have NB202_188 := n10_
         have NB189_202 := n11_
         have NB202_189 := n12_
         clear n0_ n1_ n2_ n3_ n4_ n5_ n6_ n7_ n8_ n9_ n10_ n11_ n12_
         clear hb hbox hg
         refine hK.out _ _ ⟨(blk_cell BK187.out 0).trans rfl, (blk_cell BK187.out 1).trans rfl, (blk_cell BK188.out 0).trans rfl, (blk_cell BK188.out 1).trans rfl⟩ (fun hHeld => ?_)
         clear hK K
         refine norm_ (a' := ?_) ?_ ?_
         rotate_left
         ·show Act.put _ (some 7) _ = _
          simp only [Act.put, List.setIfInBounds_toArray, List.set_cons_zero, List.set_cons_succ, i64_w, i32_w]
          rfl
         refine one_ (i := 15) (N := some 44) #[true, true, true, true, true, true, true, true, true, true, true, true, true, true, true, true, false, true, false] rfl rfl (one_of HT_.out (by kernel_rfl)) (by decide) (fun K hK => ?_)
         refine goes_ Tryd.func69 (by kernel_rfl) rfl #[.int .i64 a1_0, .int .u64 (IntKind.u64.wrap (Int.tdiv (IntKind.u64.wrap (a0_1)) t192))] (by rfl) rfl rfl aq ?_
         with_reducible refine (frac_times.calls a1_0 (IntKind.u64.wrap (Int.tdiv (IntKind.u64.wrap (a0_1)) t192)) t196 t197 t198 _ A28.out).mono ?_
         rintro e w40 ⟨rfl, hb⟩
         refine ⟨_, rfl, ?_⟩
         have n0_ := bb BK187 hb
         have n1_ := bb BK188 hb
         have n2_ := bb BK189 hb
         have n3_ := bb BK202 hb
         have n4_ := Aside0.mk (below_step (hq HB) hb)
         clear BK187
         clear BK188
         clear BK189
         clear BK202
         clear HB
         have BK187 := n0_
         have BK188 := n1_
         have BK189 := n2_
         have BK202 := n3_
         have HB := n4_
         clear n0_ n1_ n2_ n3_ n4_
         (try clear hb)
         (try clear hb2)
         (try clear hk)
         (try clear hi)
         refine hK.out _ _ ⟨(blk_cell BK187.out 0).trans rfl, (blk_cell BK187.out 1).trans rfl, (blk_cell BK188.out 0).trans rfl, (blk_cell BK188.out 1).trans rfl⟩ (fun hHeld => ?_)
         clear hK K
         refine norm_ (a' := ?_) ?_ ?_
         rotate_left
         ·show Act.put _ (some 44) _ = _
          simp only [Act.put, List.setIfInBounds_toArray, List.set_cons_zero, List.set_cons_succ, i64_w, i32_w]
          rfl
         refine one_ (i := 16) (N := some 45) #[true, true, true, true, true, true, true, true, true, true, true, true, true, true, true, true, true, true, false] rfl rfl (one_of HT_.out (by kernel_rfl)) (by decide) (fun K hK => ?_)
         refine goes_ Tryd.func70 (by kernel_rfl) rfl #[.agg #[.bool t193, .int .u64 t194, .int .u64 t195], .agg #[.bool t196, .int .u64 t197, .int .u64 t198]] (by rfl) rfl rfl aq ?_
         with_reducible refine (frac_long_plus.calls kj2 t193 t194 t195 t196 t197 t198 t199 t200 t201 _ A29.out).mono ?_
         rintro e w41 ⟨rfl, hb⟩
         refine ⟨_, rfl, ?_⟩
         have n0_ := bb BK187 hb
         have n1_ := bb BK188 hb
         have n2_ := bb BK189 hb
         have n3_ := bb BK202 hb
         have n4_ := Aside0.mk (below_step (hq HB) hb)
         clear BK187
         clear BK188
         clear BK189
         clear BK202
         clear HB
         have BK187 := n0_
         have BK188 := n1_
         have BK189 := n2_
         have BK202 := n3_
         have HB := n4_
         clear n0_ n1_ n2_ n3_ n4_
         (try clear hb)
         (try clear hb2)
         (try clear hk)
         (try clear hi)
         refine hK.out _ _ ⟨(blk_cell BK187.out 0).trans rfl, (blk_cell BK187.out 1).trans rfl, (blk_cell BK188.out 0).trans rfl, (blk_cell BK188.out 1).trans rfl⟩ (fun hHeld => ?_)
         clear hK K
         refine norm_ (a' := ?_) ?_ ?_
         rotate_left
         ·show Act.put _ (some 45) _ = _
          simp only [Act.put, List.setIfInBounds_toArray, List.set_cons_zero, List.set_cons_succ, i64_w, i32_w]
          rfl
         exact norm_ (by simp only [putAll, Act.put, List.setIfInBounds_toArray, List.set_cons_zero, List.set_cons_succ]) (hCont (gb202) _ ⟨hHeld, (bq BK187), (bq BK188), (bq BK189), (bq BK202), GW202.out, GE202.out, NB187_202.out, NB202_187.out, NB188_202.out, NB202_188.out, NB189_202.out, NB202_189.out, (hq HB)⟩)
       ·skip
        refine box_step ?hg (N := 7) ?hd (cs := #[.bool false, .int .u64 0, .int .u64 0]) (t := 91) ?hr ?_; (case hd => rfl); (case hg => rfl); (case hr => first | (go_simp; done) | (go_simp; rfl))
        intro gb202 hg w38 hbox hb
        have n0_ := bb BK187 hb
        have n1_ := bb BK188 hb
        have n2_ := bb BK189 hb
        have n3_ := Aside0.mk (below_step (hq HB) hb)
        have n4_ := Aside0.mk (hbox)
        have n5_ := Aside0.mk ((by rw [hg]; exact (below_size (hq HB)) : w.heap.size ≤ gb202))
        have n6_ := Aside0.mk ((by rw [hg]; exact (below_size (hq HB)) : w.heap.size ≤ gb202))
        have n7_ := nl BK187 hg
        have n8_ := ng BK187 hg
        have n9_ := nl BK188 hg
        have n10_ := ng BK188 hg
        have n11_ := nl BK189 hg
        have n12_ := ng BK189 hg
        clear BK187
        clear BK188
        clear BK189
        clear HB
        have BK187 := n0_
        have BK188 := n1_
        have BK189 := n2_
        have HB := n3_
        have BK202 := n4_
        have GW202 := n5_
        have GE202 := n6_
        have NB187_202 := n7_
        have NB202_187 := n8_
        have NB188_202 := n9_
        have NB202_188 := n10_
        have NB189_202 := n11_
        have NB202_189 := n12_
        clear n0_ n1_ n2_ n3_ n4_ n5_ n6_ n7_ n8_ n9_ n10_ n11_ n12_
        clear hb hbox hg
        refine hK.out _ _ ⟨(blk_cell BK187.out 0).trans rfl, (blk_cell BK187.out 1).trans rfl, (blk_cell BK188.out 0).trans rfl, (blk_cell BK188.out 1).trans rfl⟩ (fun hHeld => ?_)
        clear hK K
        refine norm_ (a' := ?_) ?_ ?_
        rotate_left
        ·show Act.put _ (some 7) _ = _
         simp only [Act.put, List.setIfInBounds_toArray, List.set_cons_zero, List.set_cons_succ, i64_w, i32_w]
         rfl
        refine one_ (i := 7) (N := some 36) #[true, true, true, true, true, true, true, true, true, true, true, true, true, true, true, false, false, true, false] rfl rfl (one_of HT_.out (by kernel_rfl)) (by decide) (fun K hK => ?_)
        refine goes_ Tryd.func69 (by kernel_rfl) rfl #[.int .i64 a0_0, .int .u64 (IntKind.u64.wrap (Int.tdiv (IntKind.u64.wrap (a1_1)) t192))] (by rfl) rfl rfl aq ?_
        with_reducible refine (frac_times.calls a0_0 (IntKind.u64.wrap (Int.tdiv (IntKind.u64.wrap (a1_1)) t192)) t193 t194 t195 _ A27.out).mono ?_
        rintro e w39 ⟨rfl, hb⟩
        refine ⟨_, rfl, ?_⟩
        have n0_ := bb BK187 hb
        have n1_ := bb BK188 hb
        have n2_ := bb BK189 hb
        have n3_ := bb BK202 hb
        have n4_ := Aside0.mk (below_step (hq HB) hb)
        clear BK187
        clear BK188
        clear BK189
        clear BK202
        clear HB
        have BK187 := n0_
        have BK188 := n1_
        have BK189 := n2_
        have BK202 := n3_
        have HB := n4_
        clear n0_ n1_ n2_ n3_ n4_
        (try clear hb)
        (try clear hb2)
        (try clear hk)
        (try clear hi)
        refine hK.out _ _ ⟨(blk_cell BK187.out 0).trans rfl, (blk_cell BK187.out 1).trans rfl, (blk_cell BK188.out 0).trans rfl, (blk_cell BK188.out 1).trans rfl⟩ (fun hHeld => ?_)
        clear hK K
        refine norm_ (a' := ?_) ?_ ?_
        rotate_left
        ·show Act.put _ (some 36) _ = _
         simp only [Act.put, List.setIfInBounds_toArray, List.set_cons_zero, List.set_cons_succ, i64_w, i32_w]
         rfl
        refine one_ (i := 15) (N := some 44) #[true, true, true, true, true, true, true, true, true, true, true, true, true, true, true, true, false, true, false] rfl rfl (one_of HT_.out (by kernel_rfl)) (by decide) (fun K hK => ?_)
        refine goes_ Tryd.func69 (by kernel_rfl) rfl #[.int .i64 a1_0, .int .u64 (IntKind.u64.wrap (Int.tdiv (IntKind.u64.wrap (a0_1)) t192))] (by rfl) rfl rfl aq ?_
        with_reducible refine (frac_times.calls a1_0 (IntKind.u64.wrap (Int.tdiv (IntKind.u64.wrap (a0_1)) t192)) t196 t197 t198 _ A28.out).mono ?_
        rintro e w40 ⟨rfl, hb⟩
        refine ⟨_, rfl, ?_⟩
        have n0_ := bb BK187 hb
        have n1_ := bb BK188 hb
        have n2_ := bb BK189 hb
        have n3_ := bb BK202 hb
        have n4_ := Aside0.mk (below_step (hq HB) hb)
        clear BK187
        clear BK188
        clear BK189
        clear BK202
        clear HB
        have BK187 := n0_
        have BK188 := n1_
        have BK189 := n2_
        have BK202 := n3_
        have HB := n4_
        clear n0_ n1_ n2_ n3_ n4_
        (try clear hb)
        (try clear hb2)
        (try clear hk)
        (try clear hi)
        refine hK.out _ _ ⟨(blk_cell BK187.out 0).trans rfl, (blk_cell BK187.out 1).trans rfl, (blk_cell BK188.out 0).trans rfl, (blk_cell BK188.out 1).trans rfl⟩ (fun hHeld => ?_)
        clear hK K
        refine norm_ (a' := ?_) ?_ ?_
        rotate_left
        ·show Act.put _ (some 44) _ = _
         simp only [Act.put, List.setIfInBounds_toArray, List.set_cons_zero, List.set_cons_succ, i64_w, i32_w]
         rfl
        refine one_ (i := 16) (N := some 45) #[true, true, true, true, true, true, true, true, true, true, true, true, true, true, true, true, true, true, false] rfl rfl (one_of HT_.out (by kernel_rfl)) (by decide) (fun K hK => ?_)
        refine goes_ Tryd.func70 (by kernel_rfl) rfl #[.agg #[.bool t193, .int .u64 t194, .int .u64 t195], .agg #[.bool t196, .int .u64 t197, .int .u64 t198]] (by rfl) rfl rfl aq ?_
        with_reducible refine (frac_long_plus.calls kj2 t193 t194 t195 t196 t197 t198 t199 t200 t201 _ A29.out).mono ?_
        rintro e w41 ⟨rfl, hb⟩
        refine ⟨_, rfl, ?_⟩
        have n0_ := bb BK187 hb
        have n1_ := bb BK188 hb
        have n2_ := bb BK189 hb
        have n3_ := bb BK202 hb
        have n4_ := Aside0.mk (below_step (hq HB) hb)
        clear BK187
        clear BK188
        clear BK189
        clear BK202
        clear HB
        have BK187 := n0_
        have BK188 := n1_
        have BK189 := n2_
        have BK202 := n3_
        have HB := n4_
        clear n0_ n1_ n2_ n3_ n4_
        (try clear hb)
        (try clear hb2)
        (try clear hk)
        (try clear hi)
        refine hK.out _ _ ⟨(blk_cell BK187.out 0).trans rfl, (blk_cell BK187.out 1).trans rfl, (blk_cell BK188.out 0).trans rfl, (blk_cell BK188.out 1).trans rfl⟩ (fun hHeld => ?_)
        clear hK K
        refine norm_ (a' := ?_) ?_ ?_
        rotate_left
        ·show Act.put _ (some 45) _ = _
         simp only [Act.put, List.setIfInBounds_toArray, List.set_cons_zero, List.set_cons_succ, i64_w, i32_w]
         rfl
        exact norm_ (by simp only [putAll, Act.put, List.setIfInBounds_toArray, List.set_cons_zero, List.set_cons_succ]) (hCont (gb202) _ ⟨hHeld, (bq BK187), (bq BK188), (bq BK189), (bq BK202), GW202.out, GE202.out, NB187_202.out, NB202_187.out, NB188_202.out, NB202_188.out, NB189_202.out, NB202_189.out, (hq HB)⟩)
      rintro gb202 w42 ⟨hS_, h0_, h1_, h2_, h3_, h4_, h5_, h6_, h7_, h8_, h9_, h10_, h11_, h12_⟩
      have n0_ : Aside0 (w42.heap[gb187]? = some (.cells #[.int .i64 a0_0, .int .i64 a0_1] 24 (0, 0))) := ⟨h0_⟩
      have n1_ : Aside0 (w42.heap[gb188]? = some (.cells #[.int .i64 a1_0, .int .i64 a1_1] 24 (0, 0))) := ⟨h1_⟩
      have n2_ : Aside0 (w42.heap[gb189]? = some (.cells #[.int .i64 0, .int .i64 0] 24 (0, 0))) := ⟨h2_⟩
      have n3_ : Aside0 (w42.heap[gb202]? = some (.cells #[.bool false, .int .u64 0, .int .u64 0] 91 (0, 0))) := ⟨h3_⟩
      have n4_ : Aside0 (w.heap.size ≤ gb202) := ⟨h4_⟩
      have n5_ : Aside0 (w.heap.size ≤ gb202) := ⟨h5_⟩
      have n6_ : Aside0 (gb187 ≠ gb202) := ⟨h6_⟩
      have n7_ : Aside0 (gb202 ≠ gb187) := ⟨h7_⟩
      have n8_ : Aside0 (gb188 ≠ gb202) := ⟨h8_⟩
      have n9_ : Aside0 (gb202 ≠ gb188) := ⟨h9_⟩
      have n10_ : Aside0 (gb189 ≠ gb202) := ⟨h10_⟩
      have n11_ : Aside0 (gb202 ≠ gb189) := ⟨h11_⟩
      have n12_ : Aside0 (Below w.heap.size w w42) := ⟨h12_⟩
      clear BK187
      clear BK188
      clear BK189
      clear HB
      clear h0_ h1_ h2_ h3_ h4_ h5_ h6_ h7_ h8_ h9_ h10_ h11_ h12_
      have BK187 := n0_
      have BK188 := n1_
      have BK189 := n2_
      have BK202 := n3_
      have GW202 := n4_
      have GE202 := n5_
      have NB187_202 := n6_
      have NB202_187 := n7_
      have NB188_202 := n8_
      have NB202_188 := n9_
      have NB189_202 := n10_
      have NB202_189 := n11_
      have HB := n12_
      clear n0_ n1_ n2_ n3_ n4_ n5_ n6_ n7_ n8_ n9_ n10_ n11_ n12_
      have hHeld : w42.cell? ⟨gb187, 0, none⟩ = some (.int .i64 a0_0) ∧ w42.cell? ⟨gb187, 1, none⟩ = some (.int .i64 a0_1) ∧ w42.cell? ⟨gb188, 0, none⟩ = some (.int .i64 a1_0) ∧ w42.cell? ⟨gb188, 1, none⟩ = some (.int .i64 a1_1) := hS_
      refine norm_ (a' := ?_) ?_ ?_
      rotate_left
      ·simp only [putAll, Act.put, List.setIfInBounds_toArray, List.set_cons_zero, List.set_cons_succ]
       rfl
      refine one_ (i := 18) (N := none) #[true, true, true, true, true, true, true, true, true, true, true, true, true, true, true, true, true, true, true] rfl rfl (one_of HT_.out (by kernel_rfl)) (by decide) (fun K hK => ?_)
      have hs43 : w42.cell? ⟨gb202, 0, none⟩ = some (.bool false) := (blk_cell BK202.out 0).trans rfl
      have hfs43 := blk_frozen BK202.out 0
      have hns43_0 := NB187_202.out
      have hns43_1 := NB188_202.out
      have hns43_2 := NB189_202.out
      have hms43_0 := NB202_187.out
      have hms43_1 := NB202_188.out
      have hms43_2 := NB202_189.out
      have hs44 : w42.cell? ⟨gb202, 1, none⟩ = some (.int .u64 0) := (blk_cell BK202.out 1).trans rfl
      have hfs44 := blk_frozen BK202.out 1
      have hns44_0 := NB187_202.out
      have hns44_1 := NB188_202.out
      have hns44_2 := NB189_202.out
      have hms44_0 := NB202_187.out
      have hms44_1 := NB202_188.out
      have hms44_2 := NB202_189.out
      have hs45 : w42.cell? ⟨gb202, 2, none⟩ = some (.int .u64 0) := (blk_cell BK202.out 2).trans rfl
      have hfs45 := blk_frozen BK202.out 2
      have hns45_0 := NB187_202.out
      have hns45_1 := NB188_202.out
      have hns45_2 := NB189_202.out
      have hms45_0 := NB202_187.out
      have hms45_1 := NB202_188.out
      have hms45_2 := NB202_189.out
      refine skip_ (w1 := ?_) (by rfl) rfl ?_ ?_
      rotate_left
      ·go_simp
       rfl
      refine hK.out _ _ ⟨((cell_far (p := ⟨gb202, _, none⟩) NB187_202.out _).trans (((cell_far (p := ⟨gb202, _, none⟩) NB187_202.out _).trans (((cell_far (p := ⟨gb202, _, none⟩) NB187_202.out _).trans (hHeld.1)))))), ((cell_far (p := ⟨gb202, _, none⟩) NB187_202.out _).trans (((cell_far (p := ⟨gb202, _, none⟩) NB187_202.out _).trans (((cell_far (p := ⟨gb202, _, none⟩) NB187_202.out _).trans (hHeld.2.1)))))), ((cell_far (p := ⟨gb202, _, none⟩) NB188_202.out _).trans (((cell_far (p := ⟨gb202, _, none⟩) NB188_202.out _).trans (((cell_far (p := ⟨gb202, _, none⟩) NB188_202.out _).trans (hHeld.2.2.1)))))), ((cell_far (p := ⟨gb202, _, none⟩) NB188_202.out _).trans (((cell_far (p := ⟨gb202, _, none⟩) NB188_202.out _).trans (((cell_far (p := ⟨gb202, _, none⟩) NB188_202.out _).trans (hHeld.2.2.2))))))⟩ (fun hHeld => ?_)
      clear hK K
      refine done_ (done_of HT_.out (by kernel_rfl)) ?_
      have hnb46 := NB202_187.out
      have hnc46 := NB187_202.out
      have hnb47 := NB202_188.out
      have hnc47 := NB188_202.out
      have hnb48 := NB202_189.out
      have hnc48 := NB189_202.out
      have hcz49_0 : w42.cell? ⟨gb202, 0, none⟩ = some (.bool false) := (blk_cell BK202.out 0).trans rfl
      have hcz49_1 : w42.cell? ⟨gb202, 1, none⟩ = some (.int .u64 0) := (blk_cell BK202.out 1).trans rfl
      have hcz49_2 : w42.cell? ⟨gb202, 2, none⟩ = some (.int .u64 0) := (blk_cell BK202.out 2).trans rfl
      have hfz49_0 := blk_frozen BK202.out 0
      have hfz49_1 := blk_frozen BK202.out 1
      have hfz49_2 := blk_frozen BK202.out 2
      have hcz50_0 : w42.cell? ⟨gb189, 0, none⟩ = some (.int .i64 0) := (blk_cell BK189.out 0).trans rfl
      have hcz50_1 : w42.cell? ⟨gb189, 1, none⟩ = some (.int .i64 0) := (blk_cell BK189.out 1).trans rfl
      have hfz50_0 := blk_frozen BK189.out 0
      have hfz50_1 := blk_frozen BK189.out 1
      try go_wp2
      refine bodyPost_ret (results_ct rfl _ _ gb189 24 #[.int .i64 0, .int .i64 1] (0, 0) _ rfl (by (with_reducible repeat (first | refine bN ?_ _ | refine bd ?_ | refine ba ?_ _)); refine blk_put (cs := #[.int .i64 0, .int .i64 0]) ?_ 1 _ rfl; (with_reducible repeat (first | refine bN ?_ _ | refine bd ?_ | refine ba ?_ _)); refine blk_put (cs := #[.int .i64 0, .int .i64 0]) ?_ 0 _ rfl; (with_reducible repeat (first | refine bN ?_ _ | refine bd ?_ | refine ba ?_ _)); refine blk_far ?_ NB189_202.out _; (with_reducible repeat (first | refine bN ?_ _ | refine bd ?_ | refine ba ?_ _)); refine blk_far ?_ NB189_202.out _; (with_reducible repeat (first | refine bN ?_ _ | refine bd ?_ | refine ba ?_ _)); refine blk_far ?_ NB189_202.out _; (with_reducible repeat (first | refine bN ?_ _ | refine bd ?_ | refine ba ?_ _)); exact BK189.out) Tryd.underlying24 rfl (by kernel_rfl)) rfl ?_
      exact ⟨by first | rfl | (simp [errW_none, errW_some] <;> rfl) | (simp [*, errW_none, errW_some] <;> rfl), by repeat (first | (with_reducible first | exact HB.out | apply below_alloc | apply pw_below_drewN | apply below_drew1 | refine below_set ?_ GE187.out | refine below_set ?_ GE188.out | refine below_set ?_ GE189.out | refine below_set ?_ GE202.out) | exact HB.out)⟩
     ·rw [if_neg c30] at H
      have c30b0 : (!t199 && (t200 == 0 && (t201 == 0))) = false := by simpa using c30
      clear c30
      replace H := Option.bind_eq_some_iff.mp H
      obtain ⟨t203, A510, H⟩ := H
      replace H : ((frac_gcd_uint64.f kj2 t203 t192).bind fun t204 => ((frac_long_over.f kj2 t199 t200 t201 t204).bind fun bt205 => (if t204 = 0 then (none) else ((bits_Mul64.f (IntKind.u64.wrap (Int.tdiv (IntKind.u64.wrap (a0_1)) t192)) (IntKind.u64.wrap (Int.tdiv (IntKind.u64.wrap (a1_1)) t204))).bind fun bt207 => (if bt205.2 = true then (if bt207.1 = 0 then ((frac_made.f kj2 t199 bt205.1 bt207.2).bind fun bt209 => (some (bt209.1, bt209.2.1, bt209.2.2))) else (some (0, 0, 5))) else (some (0, 0, 5))))))) = some (r1, r2, r3) := H
      have A51 := Aside0.mk A510
      clear A510
      replace H := Option.bind_eq_some_iff.mp H
      obtain ⟨t204, A520, H⟩ := H
      replace H : ((frac_long_over.f kj2 t199 t200 t201 t204).bind fun bt205 => (if t204 = 0 then (none) else ((bits_Mul64.f (IntKind.u64.wrap (Int.tdiv (IntKind.u64.wrap (a0_1)) t192)) (IntKind.u64.wrap (Int.tdiv (IntKind.u64.wrap (a1_1)) t204))).bind fun bt207 => (if bt205.2 = true then (if bt207.1 = 0 then ((frac_made.f kj2 t199 bt205.1 bt207.2).bind fun bt209 => (some (bt209.1, bt209.2.1, bt209.2.2))) else (some (0, 0, 5))) else (some (0, 0, 5)))))) = some (r1, r2, r3) := H
      have A52 := Aside0.mk A520
      clear A520
      replace H := Option.bind_eq_some_iff.mp H
      obtain ⟨⟨t205, t206⟩, A530, H⟩ := H
      replace H : (if t204 = 0 then (none) else ((bits_Mul64.f (IntKind.u64.wrap (Int.tdiv (IntKind.u64.wrap (a0_1)) t192)) (IntKind.u64.wrap (Int.tdiv (IntKind.u64.wrap (a1_1)) t204))).bind fun bt207 => (if t206 = true then (if bt207.1 = 0 then ((frac_made.f kj2 t199 t205 bt207.2).bind fun bt209 => (some (bt209.1, bt209.2.1, bt209.2.2))) else (some (0, 0, 5))) else (some (0, 0, 5))))) = some (r1, r2, r3) := H
      have A53 := Aside0.mk A530
      clear A530
      by_cases c54 : t204 = 0
      ·rw [if_pos c54] at H
       exact absurd H (by simp)
      ·rw [if_neg c54] at H
       have c54b0 : (t204 == 0) = false := beq_eq_false_iff_ne.mpr c54
       have c54b1 : (t204 != 0) = true := bne_iff_ne.mpr c54
       replace H := Option.bind_eq_some_iff.mp H
       obtain ⟨⟨t207, t208⟩, A550, H⟩ := H
       replace H : (if t206 = true then (if t207 = 0 then ((frac_made.f kj2 t199 t205 t208).bind fun bt209 => (some (bt209.1, bt209.2.1, bt209.2.2))) else (some (0, 0, 5))) else (some (0, 0, 5))) = some (r1, r2, r3) := H
       have A55 := Aside0.mk A550
       clear A550
       by_cases c56 : t206 = true
       ·subst c56
        have H1 : (if t207 = 0 then ((frac_made.f kj2 t199 t205 t208).bind fun bt209 => (some (bt209.1, bt209.2.1, bt209.2.2))) else (some (0, 0, 5))) = some (r1, r2, r3) := by rw [if_pos rfl] at H; exact H
        clear H
        have H := H1
        clear H1
        by_cases c57 : t207 = 0
        ·rw [if_pos c57] at H
         have c57b0 : (t207 == 0) = true := beq_iff_eq.mpr c57
         have c57b1 : (t207 != 0) = false := bne_eq_false_iff_eq.mpr c57
         clear c57
         replace H := Option.bind_eq_some_iff.mp H
         obtain ⟨⟨t209, t210, t211⟩, A580, H⟩ := H
         replace H : (some (t209, t210, t211)) = some (r1, r2, r3) := H
         have A58 := Aside0.mk A580
         clear A580
         simp only [Option.some.injEq, Prod.mk.injEq] at H
         obtain ⟨rfl, rfl, rfl⟩ := H
         have hnb59 := NB187_188.out
         have hnc59 := NB188_187.out
         have hnb60 := NB187_189.out
         have hnc60 := NB189_187.out
         have hcz61_0 : wc.cell? ⟨gb187, 0, none⟩ = some (.int .i64 a0_0) := (blk_cell BK187.out 0).trans rfl
         have hcz61_1 : wc.cell? ⟨gb187, 1, none⟩ = some (.int .i64 a0_1) := (blk_cell BK187.out 1).trans rfl
         have hfz61_0 := blk_frozen BK187.out 0
         have hfz61_1 := blk_frozen BK187.out 1
         have hnb62 := NB188_189.out
         have hnc62 := NB189_188.out
         have hcz63_0 : wc.cell? ⟨gb188, 0, none⟩ = some (.int .i64 a1_0) := (blk_cell BK188.out 0).trans rfl
         have hcz63_1 : wc.cell? ⟨gb188, 1, none⟩ = some (.int .i64 a1_1) := (blk_cell BK188.out 1).trans rfl
         have hfz63_0 := blk_frozen BK188.out 0
         have hfz63_1 := blk_frozen BK188.out 1
         try go_wp2_with (first | ((with_reducible refine gate_callee (f := 56) rfl ?_); refine goesL_ (some 28) rfl rfl Tryd.func56 (by kernel_rfl) rfl #[.int .u64 (IntKind.u64.wrap (a0_1)), .int .u64 (IntKind.u64.wrap (a1_1))] rfl aq ?_; (with_reducible refine (frac_gcd_uint64.calls kj2 (IntKind.u64.wrap (a0_1)) (IntKind.u64.wrap (a1_1)) t192 _ A25.out).mono ?_); rintro e w64 ⟨rfl, hb⟩; refine ⟨_, rfl, ?_⟩; have n0_ := bb BK187 hb; have n1_ := bb BK188 hb; have n2_ := bb BK189 hb; have n3_ := Aside0.mk (below_step (hq HB) hb); clear BK187; clear BK188; clear BK189; clear HB; have BK187 := n0_; have BK188 := n1_; have BK189 := n2_; have HB := n3_; clear n0_ n1_ n2_ n3_; (try clear hb); (try clear hb2); (try clear hk); (try clear hi)))
         have n0_ := Aside0.mk (blk_drew BK187.out)
         have n1_ := Aside0.mk (blk_drew BK188.out)
         have n2_ := Aside0.mk (blk_drew BK189.out)
         have n3_ := Aside0.mk (below_drew1 HB.out)
         clear BK187
         clear BK188
         clear BK189
         clear HB
         have BK187 := n0_
         have BK188 := n1_
         have BK189 := n2_
         have HB := n3_
         clear n0_ n1_ n2_ n3_
         refine start_ (n := 19) (S := fun w' => w'.cell? ⟨gb187, 0, none⟩ = some (.int .i64 a0_0) ∧ w'.cell? ⟨gb187, 1, none⟩ = some (.int .i64 a0_1) ∧ w'.cell? ⟨gb188, 0, none⟩ = some (.int .i64 a1_0) ∧ w'.cell? ⟨gb188, 1, none⟩ = some (.int .i64 a1_1)) (ds := []) #[false, false, false, false, false, false, false, false, false, false, false, false, false, false, false, false, false, false, false] (by kernel_rfl) rfl rfl ⟨(blk_cell BK187.out 0).trans rfl, (blk_cell BK187.out 1).trans rfl, (blk_cell BK188.out 0).trans rfl, (blk_cell BK188.out 1).trans rfl⟩ (fun hHeld => ?_); refine with_tabW frac_Add.tab4 frac_Add.bits4 (fun HT_ HW_ => ?_)
         generalize w64.drew = w65 at BK187 BK188 BK189 HB hHeld ⊢
         refine pure_ (i := 0) (N := some 29) (v := ?_) (a' := ?_) #[true, false, false, false, false, false, false, false, false, false, false, false, false, false, false, false, false, false, false] rfl rfl (any_of HT_.out (by kernel_rfl)) (fun _ _ _ h => h) (Or.inl ⟨by rfl, ?_⟩) ?_ ?_
         rotate_left
         ·intro w'
          go_simp
          with_reducible rfl
         rotate_left
         ·simp only [Act.put, List.setIfInBounds_toArray, List.set_cons_zero, List.set_cons_succ, i64_w, i32_w]
          rfl
         refine pure_ (i := 2) (N := some 31) (v := ?_) (a' := ?_) #[true, false, true, false, false, false, false, false, false, false, false, false, false, false, false, false, false, false, false] rfl rfl (any_of HT_.out (by kernel_rfl)) (fun _ _ _ h => h) (Or.inl ⟨by rfl, ?_⟩) ?_ ?_
         rotate_left
         ·intro w'
          go_simp
          with_reducible rfl
         rotate_left
         ·simp only [Act.put, List.setIfInBounds_toArray, List.set_cons_zero, List.set_cons_succ, i64_w, i32_w]
          rfl
         refine pure_ (i := 5) (N := some 34) (v := ?_) (a' := ?_) #[true, false, true, false, false, true, false, false, false, false, false, false, false, false, false, false, false, false, false] rfl rfl (any_of HT_.out (by kernel_rfl)) (fun _ _ _ h => h) (Or.inl ⟨by rfl, ?_⟩) ?_ ?_
         rotate_left
         ·intro w'
          go_simp
          with_reducible rfl
         rotate_left
         ·simp only [Act.put, List.setIfInBounds_toArray, List.set_cons_zero, List.set_cons_succ, i64_w, i32_w]
          rfl
         refine pure_ (i := 8) (N := some 37) (v := ?_) (a' := ?_) #[true, false, true, false, false, true, false, false, true, false, false, false, false, false, false, false, false, false, false] rfl rfl (any_of HT_.out (by kernel_rfl)) (fun _ _ _ h => h) (Or.inl ⟨by rfl, ?_⟩) ?_ ?_
         rotate_left
         ·intro w'
          go_simp
          with_reducible rfl
         rotate_left
         ·simp only [Act.put, List.setIfInBounds_toArray, List.set_cons_zero, List.set_cons_succ, i64_w, i32_w]
          rfl
         refine pure_ (i := 10) (N := some 39) (v := ?_) (a' := ?_) #[true, false, true, false, false, true, false, false, true, false, true, false, false, false, false, false, false, false, false] rfl rfl (any_of HT_.out (by kernel_rfl)) (fun _ _ _ h => h) (Or.inl ⟨by rfl, ?_⟩) ?_ ?_
         rotate_left
         ·intro w'
          go_simp
          with_reducible rfl
         rotate_left
         ·simp only [Act.put, List.setIfInBounds_toArray, List.set_cons_zero, List.set_cons_succ, i64_w, i32_w]
          rfl
         refine pure_ (i := 13) (N := some 42) (v := ?_) (a' := ?_) #[true, false, true, false, false, true, false, false, true, false, true, false, false, true, false, false, false, false, false] rfl rfl (any_of HT_.out (by kernel_rfl)) (fun _ _ _ h => h) (Or.inl ⟨by rfl, ?_⟩) ?_ ?_
         rotate_left
         ·intro w'
          go_simp
          with_reducible rfl
         rotate_left
         ·simp only [Act.put, List.setIfInBounds_toArray, List.set_cons_zero, List.set_cons_succ, i64_w, i32_w]
          rfl
         refine take_ (i := 1) (N := some 30) (v := ?_) (a' := ?_) #[true, true, true, false, false, true, false, false, true, false, true, false, false, true, false, false, false, false, false] rfl rfl (take_ofW HT_.out HW_.out (by kernel_rfl)) (fun _ _ _ h => h) (Or.inl ⟨by rfl, ?_⟩) hHeld ?_ ?_
         rotate_left
         ·rintro w' ⟨s0, s1, s2, s3⟩
          go_simp
          with_reducible rfl
         rotate_left
         ·simp only [Act.put, List.setIfInBounds_toArray, List.set_cons_zero, List.set_cons_succ, i64_w, i32_w]
          rfl
         refine take_ (i := 3) (N := some 32) (v := ?_) (a' := ?_) #[true, true, true, true, false, true, false, false, true, false, true, false, false, true, false, false, false, false, false] rfl rfl (take_ofW HT_.out HW_.out (by kernel_rfl)) (fun _ _ _ h => h) (Or.inl ⟨by rfl, ?_⟩) hHeld ?_ ?_
         rotate_left
         ·rintro w' ⟨s0, s1, s2, s3⟩
          go_simp
          with_reducible rfl
         rotate_left
         ·simp only [Act.put, List.setIfInBounds_toArray, List.set_cons_zero, List.set_cons_succ, i64_w, i32_w]
          rfl
         refine pure_ (i := 4) (N := some 33) (v := ?_) (a' := ?_) #[true, true, true, true, true, true, false, false, true, false, true, false, false, true, false, false, false, false, false] rfl rfl (any_of HT_.out (by kernel_rfl)) (fun _ _ _ h => h) (Or.inl ⟨by rfl, ?_⟩) ?_ ?_
         rotate_left
         ·intro w'
          go_simp
          with_reducible rfl
         rotate_left
         ·simp only [Act.put, List.setIfInBounds_toArray, List.set_cons_zero, List.set_cons_succ, i64_w, i32_w]
          rfl
         refine pure_ (i := 6) (N := some 35) (v := ?_) (a' := ?_) #[true, true, true, true, true, true, true, false, true, false, true, false, false, true, false, false, false, false, false] rfl rfl (any_of HT_.out (by kernel_rfl)) (fun _ _ _ h => h) (Or.inl ⟨by rfl, ?_⟩) ?_ ?_
         rotate_left
         ·intro w'
          go_simp
          with_reducible rfl
         rotate_left
         ·simp only [Act.put, List.setIfInBounds_toArray, List.set_cons_zero, List.set_cons_succ, i64_w, i32_w]
          rfl
         refine take_ (i := 9) (N := some 38) (v := ?_) (a' := ?_) #[true, true, true, true, true, true, true, false, true, true, true, false, false, true, false, false, false, false, false] rfl rfl (take_ofW HT_.out HW_.out (by kernel_rfl)) (fun _ _ _ h => h) (Or.inl ⟨by rfl, ?_⟩) hHeld ?_ ?_
         rotate_left
         ·rintro w' ⟨s0, s1, s2, s3⟩
          go_simp
          with_reducible rfl
         rotate_left
         ·simp only [Act.put, List.setIfInBounds_toArray, List.set_cons_zero, List.set_cons_succ, i64_w, i32_w]
          rfl
         refine take_ (i := 11) (N := some 40) (v := ?_) (a' := ?_) #[true, true, true, true, true, true, true, false, true, true, true, true, false, true, false, false, false, false, false] rfl rfl (take_ofW HT_.out HW_.out (by kernel_rfl)) (fun _ _ _ h => h) (Or.inl ⟨by rfl, ?_⟩) hHeld ?_ ?_
         rotate_left
         ·rintro w' ⟨s0, s1, s2, s3⟩
          go_simp
          with_reducible rfl
         rotate_left
         ·simp only [Act.put, List.setIfInBounds_toArray, List.set_cons_zero, List.set_cons_succ, i64_w, i32_w]
          rfl
         refine pure_ (i := 12) (N := some 41) (v := ?_) (a' := ?_) #[true, true, true, true, true, true, true, false, true, true, true, true, true, true, false, false, false, false, false] rfl rfl (any_of HT_.out (by kernel_rfl)) (fun _ _ _ h => h) (Or.inl ⟨by rfl, ?_⟩) ?_ ?_
         rotate_left
         ·intro w'
          go_simp
          with_reducible rfl
         rotate_left
         ·simp only [Act.put, List.setIfInBounds_toArray, List.set_cons_zero, List.set_cons_succ, i64_w, i32_w]
          rfl
         refine pure_ (i := 14) (N := some 43) (v := ?_) (a' := ?_) #[true, true, true, true, true, true, true, false, true, true, true, true, true, true, true, false, false, false, false] rfl rfl (any_of HT_.out (by kernel_rfl)) (fun _ _ _ h => h) (Or.inl ⟨by rfl, ?_⟩) ?_ ?_
         rotate_left
         ·intro w'
          go_simp
          with_reducible rfl
         rotate_left
         ·simp only [Act.put, List.setIfInBounds_toArray, List.set_cons_zero, List.set_cons_succ, i64_w, i32_w]
          rfl
         refine join_ (σ := Nat) 1 #[true, true, true, true, true, true, true, true, true, true, true, true, true, true, true, true, true, true, false] (fun s_ => [(36, .agg #[.bool t193, .int .u64 t194, .int .u64 t195]), (44, .agg #[.bool t196, .int .u64 t197, .int .u64 t198]), (45, .agg #[.bool t199, .int .u64 t200, .int .u64 t201]), (7, .pointer (some ⟨s_, 0, none⟩))]) (fun s_ w' => (w'.cell? ⟨gb187, 0, none⟩ = some (.int .i64 a0_0) ∧ w'.cell? ⟨gb187, 1, none⟩ = some (.int .i64 a0_1) ∧ w'.cell? ⟨gb188, 0, none⟩ = some (.int .i64 a1_0) ∧ w'.cell? ⟨gb188, 1, none⟩ = some (.int .i64 a1_1)) ∧ (w'.heap[gb187]? = some (.cells #[.int .i64 a0_0, .int .i64 a0_1] 24 (0, 0))) ∧ (w'.heap[gb188]? = some (.cells #[.int .i64 a1_0, .int .i64 a1_1] 24 (0, 0))) ∧ (w'.heap[gb189]? = some (.cells #[.int .i64 0, .int .i64 0] 24 (0, 0))) ∧ (w'.heap[s_]? = some (.cells #[.bool false, .int .u64 0, .int .u64 0] 91 (0, 0))) ∧ (w.heap.size ≤ s_) ∧ (w.heap.size ≤ s_) ∧ (gb187 ≠ s_) ∧ (s_ ≠ gb187) ∧ (gb188 ≠ s_) ∧ (s_ ≠ gb188) ∧ (gb189 ≠ s_) ∧ (s_ ≠ gb189) ∧ (Below w.heap.size w w')) ?_ ?_
         rotate_left
         ·intro hCont
          refine two_ (i := 7) (j := 17) (Ni := some 36) (Nj := some 7) #[true, true, true, true, true, true, true, true, true, true, true, true, true, true, true, false, false, false, false] #[true, true, true, true, true, true, true, false, true, true, true, true, true, true, true, false, false, true, false] rfl rfl rfl rfl (two_of HT_.out (by kernel_rfl)) (by decide) (by decide) (fun K hK => ?_) (fun K hK => ?_)
          ·skip
           refine goes_ Tryd.func69 (by kernel_rfl) rfl #[.int .i64 a0_0, .int .u64 (IntKind.u64.wrap (Int.tdiv (IntKind.u64.wrap (a1_1)) t192))] (by rfl) rfl rfl aq ?_
           with_reducible refine (frac_times.calls a0_0 (IntKind.u64.wrap (Int.tdiv (IntKind.u64.wrap (a1_1)) t192)) t193 t194 t195 _ A27.out).mono ?_
           rintro e w66 ⟨rfl, hb⟩
           refine ⟨_, rfl, ?_⟩
           have n0_ := bb BK187 hb
           have n1_ := bb BK188 hb
           have n2_ := bb BK189 hb
           have n3_ := Aside0.mk (below_step (hq HB) hb)
           clear BK187
           clear BK188
           clear BK189
           clear HB
           have BK187 := n0_
           have BK188 := n1_
           have BK189 := n2_
           have HB := n3_
           clear n0_ n1_ n2_ n3_
           (try clear hb)
           (try clear hb2)
           (try clear hk)
           (try clear hi)
           refine hK.out _ _ ⟨(blk_cell BK187.out 0).trans rfl, (blk_cell BK187.out 1).trans rfl, (blk_cell BK188.out 0).trans rfl, (blk_cell BK188.out 1).trans rfl⟩ (fun hHeld => ?_)
           clear hK K
           refine norm_ (a' := ?_) ?_ ?_
           rotate_left
           ·show Act.put _ (some 36) _ = _
            simp only [Act.put, List.setIfInBounds_toArray, List.set_cons_zero, List.set_cons_succ, i64_w, i32_w]
            rfl
           refine two_ (i := 15) (j := 17) (Ni := some 44) (Nj := some 7) #[true, true, true, true, true, true, true, true, true, true, true, true, true, true, true, true, false, false, false] #[true, true, true, true, true, true, true, true, true, true, true, true, true, true, true, false, false, true, false] rfl rfl rfl rfl (two_of HT_.out (by kernel_rfl)) (by decide) (by decide) (fun K hK => ?_) (fun K hK => ?_)
           ·skip
            refine goes_ Tryd.func69 (by kernel_rfl) rfl #[.int .i64 a1_0, .int .u64 (IntKind.u64.wrap (Int.tdiv (IntKind.u64.wrap (a0_1)) t192))] (by rfl) rfl rfl aq ?_
            with_reducible refine (frac_times.calls a1_0 (IntKind.u64.wrap (Int.tdiv (IntKind.u64.wrap (a0_1)) t192)) t196 t197 t198 _ A28.out).mono ?_
            rintro e w67 ⟨rfl, hb⟩
            refine ⟨_, rfl, ?_⟩
            have n0_ := bb BK187 hb
            have n1_ := bb BK188 hb
            have n2_ := bb BK189 hb
            have n3_ := Aside0.mk (below_step (hq HB) hb)
            clear BK187
            clear BK188
            clear BK189
            clear HB
            have BK187 := n0_
            have BK188 := n1_
            have BK189 := n2_
            have HB := n3_
            clear n0_ n1_ n2_ n3_
            (try clear hb)
            (try clear hb2)
            (try clear hk)
            (try clear hi)
            refine hK.out _ _ ⟨(blk_cell BK187.out 0).trans rfl, (blk_cell BK187.out 1).trans rfl, (blk_cell BK188.out 0).trans rfl, (blk_cell BK188.out 1).trans rfl⟩ (fun hHeld => ?_)
            clear hK K
            refine norm_ (a' := ?_) ?_ ?_
            rotate_left
            ·show Act.put _ (some 44) _ = _
             simp only [Act.put, List.setIfInBounds_toArray, List.set_cons_zero, List.set_cons_succ, i64_w, i32_w]
             rfl
            refine two_ (i := 16) (j := 17) (Ni := some 45) (Nj := some 7) #[true, true, true, true, true, true, true, true, true, true, true, true, true, true, true, true, true, false, false] #[true, true, true, true, true, true, true, true, true, true, true, true, true, true, true, true, false, true, false] rfl rfl rfl rfl (two_of HT_.out (by kernel_rfl)) (by decide) (by decide) (fun K hK => ?_) (fun K hK => ?_)
            ·skip
             refine goes_ Tryd.func70 (by kernel_rfl) rfl #[.agg #[.bool t193, .int .u64 t194, .int .u64 t195], .agg #[.bool t196, .int .u64 t197, .int .u64 t198]] (by rfl) rfl rfl aq ?_
             with_reducible refine (frac_long_plus.calls kj2 t193 t194 t195 t196 t197 t198 t199 t200 t201 _ A29.out).mono ?_
             rintro e w68 ⟨rfl, hb⟩
             refine ⟨_, rfl, ?_⟩
             have n0_ := bb BK187 hb
             have n1_ := bb BK188 hb
             have n2_ := bb BK189 hb
             have n3_ := Aside0.mk (below_step (hq HB) hb)
             clear BK187
             clear BK188
             clear BK189
             clear HB
             have BK187 := n0_
             have BK188 := n1_
             have BK189 := n2_
             have HB := n3_
             clear n0_ n1_ n2_ n3_
             (try clear hb)
             (try clear hb2)
             (try clear hk)
             (try clear hi)
             refine hK.out _ _ ⟨(blk_cell BK187.out 0).trans rfl, (blk_cell BK187.out 1).trans rfl, (blk_cell BK188.out 0).trans rfl, (blk_cell BK188.out 1).trans rfl⟩ (fun hHeld => ?_)
             clear hK K
             refine norm_ (a' := ?_) ?_ ?_
             rotate_left
             ·show Act.put _ (some 45) _ = _
              simp only [Act.put, List.setIfInBounds_toArray, List.set_cons_zero, List.set_cons_succ, i64_w, i32_w]
              rfl
             refine one_ (i := 17) (N := some 7) #[true, true, true, true, true, true, true, true, true, true, true, true, true, true, true, true, true, true, false] rfl rfl (one_of HT_.out (by kernel_rfl)) (by decide) (fun K hK => ?_)
             refine box_step ?hg (N := 7) ?hd (cs := #[.bool false, .int .u64 0, .int .u64 0]) (t := 91) ?hr ?_; (case hd => rfl); (case hg => rfl); (case hr => first | (go_simp; done) | (go_simp; rfl))
             intro gb202 hg w69 hbox hb
             have n0_ := bb BK187 hb
             have n1_ := bb BK188 hb
             have n2_ := bb BK189 hb
             have n3_ := Aside0.mk (below_step (hq HB) hb)
             have n4_ := Aside0.mk (hbox)
             have n5_ := Aside0.mk ((by rw [hg]; exact (below_size (hq HB)) : w.heap.size ≤ gb202))
             have n6_ := Aside0.mk ((by rw [hg]; exact (below_size (hq HB)) : w.heap.size ≤ gb202))
             have n7_ := nl BK187 hg
             have n8_ := ng BK187 hg
             have n9_ := nl BK188 hg
             have n10_ := ng BK188 hg
             have n11_ := nl BK189 hg
             have n12_ := ng BK189 hg
             clear BK187
             clear BK188
             clear BK189
             clear HB
             have BK187 := n0_
             have BK188 := n1_
             have BK189 := n2_
             have HB := n3_
             have BK202 := n4_
             have GW202 := n5_
             have GE202 := n6_
             have NB187_202 := n7_
             have NB202_187 := n8_
             have NB188_202 := n9_
             have NB202_188 := n10_
             have NB189_202 := n11_
             have NB202_189 := n12_
             clear n0_ n1_ n2_ n3_ n4_ n5_ n6_ n7_ n8_ n9_ n10_ n11_ n12_
             clear hb hbox hg
             refine hK.out _ _ ⟨(blk_cell BK187.out 0).trans rfl, (blk_cell BK187.out 1).trans rfl, (blk_cell BK188.out 0).trans rfl, (blk_cell BK188.out 1).trans rfl⟩ (fun hHeld => ?_)
             clear hK K
             refine norm_ (a' := ?_) ?_ ?_
             rotate_left
             ·show Act.put _ (some 7) _ = _
              simp only [Act.put, List.setIfInBounds_toArray, List.set_cons_zero, List.set_cons_succ, i64_w, i32_w]
              rfl
             exact norm_ (by simp only [putAll, Act.put, List.setIfInBounds_toArray, List.set_cons_zero, List.set_cons_succ]) (hCont (gb202) _ ⟨hHeld, (bq BK187), (bq BK188), (bq BK189), (bq BK202), GW202.out, GE202.out, NB187_202.out, NB202_187.out, NB188_202.out, NB202_188.out, NB189_202.out, NB202_189.out, (hq HB)⟩)
            ·skip
             refine box_step ?hg (N := 7) ?hd (cs := #[.bool false, .int .u64 0, .int .u64 0]) (t := 91) ?hr ?_; (case hd => rfl); (case hg => rfl); (case hr => first | (go_simp; done) | (go_simp; rfl))
             intro gb202 hg w68 hbox hb
             have n0_ := bb BK187 hb
             have n1_ := bb BK188 hb
             have n2_ := bb BK189 hb
             have n3_ := Aside0.mk (below_step (hq HB) hb)
             have n4_ := Aside0.mk (hbox)
             have n5_ := Aside0.mk ((by rw [hg]; exact (below_size (hq HB)) : w.heap.size ≤ gb202))
             have n6_ := Aside0.mk ((by rw [hg]; exact (below_size (hq HB)) : w.heap.size ≤ gb202))
             have n7_ := nl BK187 hg
             have n8_ := ng BK187 hg
             have n9_ := nl BK188 hg
             have n10_ := ng BK188 hg
             have n11_ := nl BK189 hg
             have n12_ := ng BK189 hg
             clear BK187
             clear BK188
             clear BK189
             clear HB
             have BK187 := n0_
             have BK188 := n1_
             have BK189 := n2_
             have HB := n3_
             have BK202 := n4_
             have GW202 := n5_
             have GE202 := n6_
             have NB187_202 := n7_
             have NB202_187 := n8_
             have NB188_202 := n9_
             have NB202_188 := n10_
             have NB189_202 := n11_
             have NB202_189 := n12_
             clear n0_ n1_ n2_ n3_ n4_ n5_ n6_ n7_ n8_ n9_ n10_ n11_ n12_
             clear hb hbox hg
             refine hK.out _ _ ⟨(blk_cell BK187.out 0).trans rfl, (blk_cell BK187.out 1).trans rfl, (blk_cell BK188.out 0).trans rfl, (blk_cell BK188.out 1).trans rfl⟩ (fun hHeld => ?_)
             clear hK K
             refine norm_ (a' := ?_) ?_ ?_
             rotate_left
             ·show Act.put _ (some 7) _ = _
              simp only [Act.put, List.setIfInBounds_toArray, List.set_cons_zero, List.set_cons_succ, i64_w, i32_w]
              rfl
             refine one_ (i := 16) (N := some 45) #[true, true, true, true, true, true, true, true, true, true, true, true, true, true, true, true, true, true, false] rfl rfl (one_of HT_.out (by kernel_rfl)) (by decide) (fun K hK => ?_)
             refine goes_ Tryd.func70 (by kernel_rfl) rfl #[.agg #[.bool t193, .int .u64 t194, .int .u64 t195], .agg #[.bool t196, .int .u64 t197, .int .u64 t198]] (by rfl) rfl rfl aq ?_
             with_reducible refine (frac_long_plus.calls kj2 t193 t194 t195 t196 t197 t198 t199 t200 t201 _ A29.out).mono ?_
             rintro e w69 ⟨rfl, hb⟩
             refine ⟨_, rfl, ?_⟩
             have n0_ := bb BK187 hb
             have n1_ := bb BK188 hb
             have n2_ := bb BK189 hb
             have n3_ := bb BK202 hb
             have n4_ := Aside0.mk (below_step (hq HB) hb)
             clear BK187
             clear BK188
             clear BK189
             clear BK202
             clear HB
             have BK187 := n0_
             have BK188 := n1_
             have BK189 := n2_
             have BK202 := n3_
             have HB := n4_
             clear n0_ n1_ n2_ n3_ n4_
             (try clear hb)
             (try clear hb2)
             (try clear hk)
             (try clear hi)
             refine hK.out _ _ ⟨(blk_cell BK187.out 0).trans rfl, (blk_cell BK187.out 1).trans rfl, (blk_cell BK188.out 0).trans rfl, (blk_cell BK188.out 1).trans rfl⟩ (fun hHeld => ?_)
             clear hK K
             refine norm_ (a' := ?_) ?_ ?_
             rotate_left
             ·show Act.put _ (some 45) _ = _
              simp only [Act.put, List.setIfInBounds_toArray, List.set_cons_zero, List.set_cons_succ, i64_w, i32_w]
              rfl
             exact norm_ (by simp only [putAll, Act.put, List.setIfInBounds_toArray, List.set_cons_zero, List.set_cons_succ]) (hCont (gb202) _ ⟨hHeld, (bq BK187), (bq BK188), (bq BK189), (bq BK202), GW202.out, GE202.out, NB187_202.out, NB202_187.out, NB188_202.out, NB202_188.out, NB189_202.out, NB202_189.out, (hq HB)⟩)
           ·skip
            refine box_step ?hg (N := 7) ?hd (cs := #[.bool false, .int .u64 0, .int .u64 0]) (t := 91) ?hr ?_; (case hd => rfl); (case hg => rfl); (case hr => first | (go_simp; done) | (go_simp; rfl))
            intro gb202 hg w67 hbox hb
            have n0_ := bb BK187 hb
            have n1_ := bb BK188 hb
            have n2_ := bb BK189 hb
            have n3_ := Aside0.mk (below_step (hq HB) hb)
            have n4_ := Aside0.mk (hbox)
            have n5_ := Aside0.mk ((by rw [hg]; exact (below_size (hq HB)) : w.heap.size ≤ gb202))
            have n6_ := Aside0.mk ((by rw [hg]; exact (below_size (hq HB)) : w.heap.size ≤ gb202))
            have n7_ := nl BK187 hg
            have n8_ := ng BK187 hg
            have n9_ := nl BK188 hg
            have n10_ := ng BK188 hg
            have n11_ := nl BK189 hg
            have n12_ := ng BK189 hg
            clear BK187
            clear BK188
            clear BK189
            clear HB
            have BK187 := n0_
            have BK188 := n1_
            have BK189 := n2_
            have HB := n3_
            have BK202 := n4_
            have GW202 := n5_
            have GE202 := n6_
            have NB187_202 := n7_
            have NB202_187 := n8_
            have NB188_202 := n9_
            have NB202_188 := n10_
            have NB189_202 := n11_
            have NB202_189 := n12_
            clear n0_ n1_ n2_ n3_ n4_ n5_ n6_ n7_ n8_ n9_ n10_ n11_ n12_
            clear hb hbox hg
            refine hK.out _ _ ⟨(blk_cell BK187.out 0).trans rfl, (blk_cell BK187.out 1).trans rfl, (blk_cell BK188.out 0).trans rfl, (blk_cell BK188.out 1).trans rfl⟩ (fun hHeld => ?_)
            clear hK K
            refine norm_ (a' := ?_) ?_ ?_
            rotate_left
            ·show Act.put _ (some 7) _ = _
             simp only [Act.put, List.setIfInBounds_toArray, List.set_cons_zero, List.set_cons_succ, i64_w, i32_w]
             rfl
            refine one_ (i := 15) (N := some 44) #[true, true, true, true, true, true, true, true, true, true, true, true, true, true, true, true, false, true, false] rfl rfl (one_of HT_.out (by kernel_rfl)) (by decide) (fun K hK => ?_)
            refine goes_ Tryd.func69 (by kernel_rfl) rfl #[.int .i64 a1_0, .int .u64 (IntKind.u64.wrap (Int.tdiv (IntKind.u64.wrap (a0_1)) t192))] (by rfl) rfl rfl aq ?_
            with_reducible refine (frac_times.calls a1_0 (IntKind.u64.wrap (Int.tdiv (IntKind.u64.wrap (a0_1)) t192)) t196 t197 t198 _ A28.out).mono ?_
            rintro e w68 ⟨rfl, hb⟩
            refine ⟨_, rfl, ?_⟩
            have n0_ := bb BK187 hb
            have n1_ := bb BK188 hb
            have n2_ := bb BK189 hb
            have n3_ := bb BK202 hb
            have n4_ := Aside0.mk (below_step (hq HB) hb)
            clear BK187
            clear BK188
            clear BK189
            clear BK202
            clear HB
            have BK187 := n0_
            have BK188 := n1_
            have BK189 := n2_
            have BK202 := n3_
            have HB := n4_
            clear n0_ n1_ n2_ n3_ n4_
            (try clear hb)
            (try clear hb2)
            (try clear hk)
            (try clear hi)
            refine hK.out _ _ ⟨(blk_cell BK187.out 0).trans rfl, (blk_cell BK187.out 1).trans rfl, (blk_cell BK188.out 0).trans rfl, (blk_cell BK188.out 1).trans rfl⟩ (fun hHeld => ?_)
            clear hK K
            refine norm_ (a' := ?_) ?_ ?_
            rotate_left
            ·show Act.put _ (some 44) _ = _
             simp only [Act.put, List.setIfInBounds_toArray, List.set_cons_zero, List.set_cons_succ, i64_w, i32_w]
             rfl
            refine one_ (i := 16) (N := some 45) #[true, true, true, true, true, true, true, true, true, true, true, true, true, true, true, true, true, true, false] rfl rfl (one_of HT_.out (by kernel_rfl)) (by decide) (fun K hK => ?_)
            refine goes_ Tryd.func70 (by kernel_rfl) rfl #[.agg #[.bool t193, .int .u64 t194, .int .u64 t195], .agg #[.bool t196, .int .u64 t197, .int .u64 t198]] (by rfl) rfl rfl aq ?_
            with_reducible refine (frac_long_plus.calls kj2 t193 t194 t195 t196 t197 t198 t199 t200 t201 _ A29.out).mono ?_
            rintro e w69 ⟨rfl, hb⟩
            refine ⟨_, rfl, ?_⟩
            have n0_ := bb BK187 hb
            have n1_ := bb BK188 hb
            have n2_ := bb BK189 hb
            have n3_ := bb BK202 hb
            have n4_ := Aside0.mk (below_step (hq HB) hb)
            clear BK187
            clear BK188
            clear BK189
            clear BK202
            clear HB
            have BK187 := n0_
            have BK188 := n1_
            have BK189 := n2_
            have BK202 := n3_
            have HB := n4_
            clear n0_ n1_ n2_ n3_ n4_
            (try clear hb)
            (try clear hb2)
            (try clear hk)
            (try clear hi)
            refine hK.out _ _ ⟨(blk_cell BK187.out 0).trans rfl, (blk_cell BK187.out 1).trans rfl, (blk_cell BK188.out 0).trans rfl, (blk_cell BK188.out 1).trans rfl⟩ (fun hHeld => ?_)
            clear hK K
            refine norm_ (a' := ?_) ?_ ?_
            rotate_left
            ·show Act.put _ (some 45) _ = _
             simp only [Act.put, List.setIfInBounds_toArray, List.set_cons_zero, List.set_cons_succ, i64_w, i32_w]
             rfl
            exact norm_ (by simp only [putAll, Act.put, List.setIfInBounds_toArray, List.set_cons_zero, List.set_cons_succ]) (hCont (gb202) _ ⟨hHeld, (bq BK187), (bq BK188), (bq BK189), (bq BK202), GW202.out, GE202.out, NB187_202.out, NB202_187.out, NB188_202.out, NB202_188.out, NB189_202.out, NB202_189.out, (hq HB)⟩)
          ·skip
           refine box_step ?hg (N := 7) ?hd (cs := #[.bool false, .int .u64 0, .int .u64 0]) (t := 91) ?hr ?_; (case hd => rfl); (case hg => rfl); (case hr => first | (go_simp; done) | (go_simp; rfl))
           intro gb202 hg w66 hbox hb
           have n0_ := bb BK187 hb
           have n1_ := bb BK188 hb
           have n2_ := bb BK189 hb
           have n3_ := Aside0.mk (below_step (hq HB) hb)
           have n4_ := Aside0.mk (hbox)
           have n5_ := Aside0.mk ((by rw [hg]; exact (below_size (hq HB)) : w.heap.size ≤ gb202))
           have n6_ := Aside0.mk ((by rw [hg]; exact (below_size (hq HB)) : w.heap.size ≤ gb202))
           have n7_ := nl BK187 hg
           have n8_ := ng BK187 hg
           have n9_ := nl BK188 hg
           have n10_ := ng BK188 hg
           have n11_ := nl BK189 hg
           have n12_ := ng BK189 hg
           clear BK187
           clear BK188
           clear BK189
           clear HB
           have BK187 := n0_
           have BK188 := n1_
           have BK189 := n2_
           have HB := n3_
           have BK202 := n4_
           have GW202 := n5_
           have GE202 := n6_
           have NB187_202 := n7_
           have NB202_187 := n8_
           have NB188_202 := n9_
           have NB202_188 := n10_
           have NB189_202 := n11_
           have NB202_189 := n12_
           clear n0_ n1_ n2_ n3_ n4_ n5_ n6_ n7_ n8_ n9_ n10_ n11_ n12_
           clear hb hbox hg
           refine hK.out _ _ ⟨(blk_cell BK187.out 0).trans rfl, (blk_cell BK187.out 1).trans rfl, (blk_cell BK188.out 0).trans rfl, (blk_cell BK188.out 1).trans rfl⟩ (fun hHeld => ?_)
           clear hK K
           refine norm_ (a' := ?_) ?_ ?_
           rotate_left
           ·show Act.put _ (some 7) _ = _
            simp only [Act.put, List.setIfInBounds_toArray, List.set_cons_zero, List.set_cons_succ, i64_w, i32_w]
            rfl
           refine one_ (i := 7) (N := some 36) #[true, true, true, true, true, true, true, true, true, true, true, true, true, true, true, false, false, true, false] rfl rfl (one_of HT_.out (by kernel_rfl)) (by decide) (fun K hK => ?_)
           refine goes_ Tryd.func69 (by kernel_rfl) rfl #[.int .i64 a0_0, .int .u64 (IntKind.u64.wrap (Int.tdiv (IntKind.u64.wrap (a1_1)) t192))] (by rfl) rfl rfl aq ?_
           with_reducible refine (frac_times.calls a0_0 (IntKind.u64.wrap (Int.tdiv (IntKind.u64.wrap (a1_1)) t192)) t193 t194 t195 _ A27.out).mono ?_
           rintro e w67 ⟨rfl, hb⟩
           refine ⟨_, rfl, ?_⟩
           have n0_ := bb BK187 hb
           have n1_ := bb BK188 hb
           have n2_ := bb BK189 hb
           have n3_ := bb BK202 hb
           have n4_ := Aside0.mk (below_step (hq HB) hb)
           clear BK187
           clear BK188
           clear BK189
           clear BK202
           clear HB
           have BK187 := n0_
           have BK188 := n1_
           have BK189 := n2_
           have BK202 := n3_
           have HB := n4_
           clear n0_ n1_ n2_ n3_ n4_
           (try clear hb)
           (try clear hb2)
           (try clear hk)
           (try clear hi)
           refine hK.out _ _ ⟨(blk_cell BK187.out 0).trans rfl, (blk_cell BK187.out 1).trans rfl, (blk_cell BK188.out 0).trans rfl, (blk_cell BK188.out 1).trans rfl⟩ (fun hHeld => ?_)
           clear hK K
           refine norm_ (a' := ?_) ?_ ?_
           rotate_left
           ·show Act.put _ (some 36) _ = _
            simp only [Act.put, List.setIfInBounds_toArray, List.set_cons_zero, List.set_cons_succ, i64_w, i32_w]
            rfl
           refine one_ (i := 15) (N := some 44) #[true, true, true, true, true, true, true, true, true, true, true, true, true, true, true, true, false, true, false] rfl rfl (one_of HT_.out (by kernel_rfl)) (by decide) (fun K hK => ?_)
           refine goes_ Tryd.func69 (by kernel_rfl) rfl #[.int .i64 a1_0, .int .u64 (IntKind.u64.wrap (Int.tdiv (IntKind.u64.wrap (a0_1)) t192))] (by rfl) rfl rfl aq ?_
           with_reducible refine (frac_times.calls a1_0 (IntKind.u64.wrap (Int.tdiv (IntKind.u64.wrap (a0_1)) t192)) t196 t197 t198 _ A28.out).mono ?_
           rintro e w68 ⟨rfl, hb⟩
           refine ⟨_, rfl, ?_⟩
           have n0_ := bb BK187 hb
           have n1_ := bb BK188 hb
           have n2_ := bb BK189 hb
           have n3_ := bb BK202 hb
           have n4_ := Aside0.mk (below_step (hq HB) hb)
           clear BK187
           clear BK188
           clear BK189
           clear BK202
           clear HB
           have BK187 := n0_
           have BK188 := n1_
           have BK189 := n2_
           have BK202 := n3_
           have HB := n4_
           clear n0_ n1_ n2_ n3_ n4_
           (try clear hb)
           (try clear hb2)
           (try clear hk)
           (try clear hi)
           refine hK.out _ _ ⟨(blk_cell BK187.out 0).trans rfl, (blk_cell BK187.out 1).trans rfl, (blk_cell BK188.out 0).trans rfl, (blk_cell BK188.out 1).trans rfl⟩ (fun hHeld => ?_)
           clear hK K
           refine norm_ (a' := ?_) ?_ ?_
           rotate_left
           ·show Act.put _ (some 44) _ = _
            simp only [Act.put, List.setIfInBounds_toArray, List.set_cons_zero, List.set_cons_succ, i64_w, i32_w]
            rfl
           refine one_ (i := 16) (N := some 45) #[true, true, true, true, true, true, true, true, true, true, true, true, true, true, true, true, true, true, false] rfl rfl (one_of HT_.out (by kernel_rfl)) (by decide) (fun K hK => ?_)
           refine goes_ Tryd.func70 (by kernel_rfl) rfl #[.agg #[.bool t193, .int .u64 t194, .int .u64 t195], .agg #[.bool t196, .int .u64 t197, .int .u64 t198]] (by rfl) rfl rfl aq ?_
           with_reducible refine (frac_long_plus.calls kj2 t193 t194 t195 t196 t197 t198 t199 t200 t201 _ A29.out).mono ?_
           rintro e w69 ⟨rfl, hb⟩
           refine ⟨_, rfl, ?_⟩
           have n0_ := bb BK187 hb
           have n1_ := bb BK188 hb
           have n2_ := bb BK189 hb
           have n3_ := bb BK202 hb
           have n4_ := Aside0.mk (below_step (hq HB) hb)
           clear BK187
           clear BK188
           clear BK189
           clear BK202
           clear HB
           have BK187 := n0_
           have BK188 := n1_
           have BK189 := n2_
           have BK202 := n3_
           have HB := n4_
           clear n0_ n1_ n2_ n3_ n4_
           (try clear hb)
           (try clear hb2)
           (try clear hk)
           (try clear hi)
           refine hK.out _ _ ⟨(blk_cell BK187.out 0).trans rfl, (blk_cell BK187.out 1).trans rfl, (blk_cell BK188.out 0).trans rfl, (blk_cell BK188.out 1).trans rfl⟩ (fun hHeld => ?_)
           clear hK K
           refine norm_ (a' := ?_) ?_ ?_
           rotate_left
           ·show Act.put _ (some 45) _ = _
            simp only [Act.put, List.setIfInBounds_toArray, List.set_cons_zero, List.set_cons_succ, i64_w, i32_w]
            rfl
           exact norm_ (by simp only [putAll, Act.put, List.setIfInBounds_toArray, List.set_cons_zero, List.set_cons_succ]) (hCont (gb202) _ ⟨hHeld, (bq BK187), (bq BK188), (bq BK189), (bq BK202), GW202.out, GE202.out, NB187_202.out, NB202_187.out, NB188_202.out, NB202_188.out, NB189_202.out, NB202_189.out, (hq HB)⟩)
         rintro gb202 w70 ⟨hS_, h0_, h1_, h2_, h3_, h4_, h5_, h6_, h7_, h8_, h9_, h10_, h11_, h12_⟩
         have n0_ : Aside0 (w70.heap[gb187]? = some (.cells #[.int .i64 a0_0, .int .i64 a0_1] 24 (0, 0))) := ⟨h0_⟩
         have n1_ : Aside0 (w70.heap[gb188]? = some (.cells #[.int .i64 a1_0, .int .i64 a1_1] 24 (0, 0))) := ⟨h1_⟩
         have n2_ : Aside0 (w70.heap[gb189]? = some (.cells #[.int .i64 0, .int .i64 0] 24 (0, 0))) := ⟨h2_⟩
         have n3_ : Aside0 (w70.heap[gb202]? = some (.cells #[.bool false, .int .u64 0, .int .u64 0] 91 (0, 0))) := ⟨h3_⟩
         have n4_ : Aside0 (w.heap.size ≤ gb202) := ⟨h4_⟩
         have n5_ : Aside0 (w.heap.size ≤ gb202) := ⟨h5_⟩
         have n6_ : Aside0 (gb187 ≠ gb202) := ⟨h6_⟩
         have n7_ : Aside0 (gb202 ≠ gb187) := ⟨h7_⟩
         have n8_ : Aside0 (gb188 ≠ gb202) := ⟨h8_⟩
         have n9_ : Aside0 (gb202 ≠ gb188) := ⟨h9_⟩
         have n10_ : Aside0 (gb189 ≠ gb202) := ⟨h10_⟩
         have n11_ : Aside0 (gb202 ≠ gb189) := ⟨h11_⟩
         have n12_ : Aside0 (Below w.heap.size w w70) := ⟨h12_⟩
         clear BK187
         clear BK188
         clear BK189
         clear HB
         clear h0_ h1_ h2_ h3_ h4_ h5_ h6_ h7_ h8_ h9_ h10_ h11_ h12_
         have BK187 := n0_
         have BK188 := n1_
         have BK189 := n2_
         have BK202 := n3_
         have GW202 := n4_
         have GE202 := n5_
         have NB187_202 := n6_
         have NB202_187 := n7_
         have NB188_202 := n8_
         have NB202_188 := n9_
         have NB189_202 := n10_
         have NB202_189 := n11_
         have HB := n12_
         clear n0_ n1_ n2_ n3_ n4_ n5_ n6_ n7_ n8_ n9_ n10_ n11_ n12_
         have hHeld : w70.cell? ⟨gb187, 0, none⟩ = some (.int .i64 a0_0) ∧ w70.cell? ⟨gb187, 1, none⟩ = some (.int .i64 a0_1) ∧ w70.cell? ⟨gb188, 0, none⟩ = some (.int .i64 a1_0) ∧ w70.cell? ⟨gb188, 1, none⟩ = some (.int .i64 a1_1) := hS_
         refine norm_ (a' := ?_) ?_ ?_
         rotate_left
         ·simp only [putAll, Act.put, List.setIfInBounds_toArray, List.set_cons_zero, List.set_cons_succ]
          rfl
         refine one_ (i := 18) (N := none) #[true, true, true, true, true, true, true, true, true, true, true, true, true, true, true, true, true, true, true] rfl rfl (one_of HT_.out (by kernel_rfl)) (by decide) (fun K hK => ?_)
         have hs71 : w70.cell? ⟨gb202, 0, none⟩ = some (.bool false) := (blk_cell BK202.out 0).trans rfl
         have hfs71 := blk_frozen BK202.out 0
         have hns71_0 := NB187_202.out
         have hns71_1 := NB188_202.out
         have hns71_2 := NB189_202.out
         have hms71_0 := NB202_187.out
         have hms71_1 := NB202_188.out
         have hms71_2 := NB202_189.out
         have hs72 : w70.cell? ⟨gb202, 1, none⟩ = some (.int .u64 0) := (blk_cell BK202.out 1).trans rfl
         have hfs72 := blk_frozen BK202.out 1
         have hns72_0 := NB187_202.out
         have hns72_1 := NB188_202.out
         have hns72_2 := NB189_202.out
         have hms72_0 := NB202_187.out
         have hms72_1 := NB202_188.out
         have hms72_2 := NB202_189.out
         have hs73 : w70.cell? ⟨gb202, 2, none⟩ = some (.int .u64 0) := (blk_cell BK202.out 2).trans rfl
         have hfs73 := blk_frozen BK202.out 2
         have hns73_0 := NB187_202.out
         have hns73_1 := NB188_202.out
         have hns73_2 := NB189_202.out
         have hms73_0 := NB202_187.out
         have hms73_1 := NB202_188.out
         have hms73_2 := NB202_189.out
         refine skip_ (w1 := ?_) (by rfl) rfl ?_ ?_
         rotate_left
         ·go_simp
          rfl
         refine hK.out _ _ ⟨((cell_far (p := ⟨gb202, _, none⟩) NB187_202.out _).trans (((cell_far (p := ⟨gb202, _, none⟩) NB187_202.out _).trans (((cell_far (p := ⟨gb202, _, none⟩) NB187_202.out _).trans (hHeld.1)))))), ((cell_far (p := ⟨gb202, _, none⟩) NB187_202.out _).trans (((cell_far (p := ⟨gb202, _, none⟩) NB187_202.out _).trans (((cell_far (p := ⟨gb202, _, none⟩) NB187_202.out _).trans (hHeld.2.1)))))), ((cell_far (p := ⟨gb202, _, none⟩) NB188_202.out _).trans (((cell_far (p := ⟨gb202, _, none⟩) NB188_202.out _).trans (((cell_far (p := ⟨gb202, _, none⟩) NB188_202.out _).trans (hHeld.2.2.1)))))), ((cell_far (p := ⟨gb202, _, none⟩) NB188_202.out _).trans (((cell_far (p := ⟨gb202, _, none⟩) NB188_202.out _).trans (((cell_far (p := ⟨gb202, _, none⟩) NB188_202.out _).trans (hHeld.2.2.2))))))⟩ (fun hHeld => ?_)
         clear hK K
         refine done_ (done_of HT_.out (by kernel_rfl)) ?_
         have hnb74 := NB202_187.out
         have hnc74 := NB187_202.out
         have hnb75 := NB202_188.out
         have hnc75 := NB188_202.out
         have hnb76 := NB202_189.out
         have hnc76 := NB189_202.out
         have hcz77_0 : w70.cell? ⟨gb202, 0, none⟩ = some (.bool false) := (blk_cell BK202.out 0).trans rfl
         have hcz77_1 : w70.cell? ⟨gb202, 1, none⟩ = some (.int .u64 0) := (blk_cell BK202.out 1).trans rfl
         have hcz77_2 : w70.cell? ⟨gb202, 2, none⟩ = some (.int .u64 0) := (blk_cell BK202.out 2).trans rfl
         have hfz77_0 := blk_frozen BK202.out 0
         have hfz77_1 := blk_frozen BK202.out 1
         have hfz77_2 := blk_frozen BK202.out 2
         try go_wp2_with (first | ((with_reducible refine gate_callee (f := 71) rfl ?_); refine goesL_ (some 55) rfl rfl Tryd.func71 (by kernel_rfl) rfl #[.int .u64 t200, .int .u64 t201, .int .u64 t192] rfl aq ?_; (with_reducible refine (bits_Rem64.calls kj2 t200 t201 t192 t203 _ A51.out).mono ?_); rintro e w78 ⟨rfl, hb⟩; refine ⟨_, rfl, ?_⟩; have n0_ := Aside0.mk (blk_below (g := gb187) (o := .cells #[.int .i64 a0_0, .int .i64 a0_1] 24 (0, 0)) (by (with_reducible repeat (first | refine bN ?_ _ | refine bd ?_ | refine ba ?_ _)); refine blk_far ?_ NB187_202.out _; (with_reducible repeat (first | refine bN ?_ _ | refine bd ?_ | refine ba ?_ _)); refine blk_far ?_ NB187_202.out _; (with_reducible repeat (first | refine bN ?_ _ | refine bd ?_ | refine ba ?_ _)); refine blk_far ?_ NB187_202.out _; (with_reducible repeat (first | refine bN ?_ _ | refine bd ?_ | refine ba ?_ _)); exact BK187.out) hb); have n1_ := Aside0.mk (blk_below (g := gb188) (o := .cells #[.int .i64 a1_0, .int .i64 a1_1] 24 (0, 0)) (by (with_reducible repeat (first | refine bN ?_ _ | refine bd ?_ | refine ba ?_ _)); refine blk_far ?_ NB188_202.out _; (with_reducible repeat (first | refine bN ?_ _ | refine bd ?_ | refine ba ?_ _)); refine blk_far ?_ NB188_202.out _; (with_reducible repeat (first | refine bN ?_ _ | refine bd ?_ | refine ba ?_ _)); refine blk_far ?_ NB188_202.out _; (with_reducible repeat (first | refine bN ?_ _ | refine bd ?_ | refine ba ?_ _)); exact BK188.out) hb); have n2_ := Aside0.mk (blk_below (g := gb189) (o := .cells #[.int .i64 0, .int .i64 0] 24 (0, 0)) (by (with_reducible repeat (first | refine bN ?_ _ | refine bd ?_ | refine ba ?_ _)); refine blk_far ?_ NB189_202.out _; (with_reducible repeat (first | refine bN ?_ _ | refine bd ?_ | refine ba ?_ _)); refine blk_far ?_ NB189_202.out _; (with_reducible repeat (first | refine bN ?_ _ | refine bd ?_ | refine ba ?_ _)); refine blk_far ?_ NB189_202.out _; (with_reducible repeat (first | refine bN ?_ _ | refine bd ?_ | refine ba ?_ _)); exact BK189.out) hb); have n3_ := Aside0.mk (blk_below (g := gb202) (o := .cells #[.bool t199, .int .u64 t200, .int .u64 t201] 91 (0, 0)) (by (with_reducible repeat (first | refine bN ?_ _ | refine bd ?_ | refine ba ?_ _)); refine blk_put (cs := #[.bool t199, .int .u64 t200, .int .u64 0]) ?_ 2 _ rfl; (with_reducible repeat (first | refine bN ?_ _ | refine bd ?_ | refine ba ?_ _)); refine blk_put (cs := #[.bool t199, .int .u64 0, .int .u64 0]) ?_ 1 _ rfl; (with_reducible repeat (first | refine bN ?_ _ | refine bd ?_ | refine ba ?_ _)); refine blk_put (cs := #[.bool false, .int .u64 0, .int .u64 0]) ?_ 0 _ rfl; (with_reducible repeat (first | refine bN ?_ _ | refine bd ?_ | refine ba ?_ _)); exact BK202.out) hb); have n4_ := Aside0.mk (below_step (hq HB) hb); clear BK187; clear BK188; clear BK189; clear BK202; clear HB; have BK187 := n0_; have BK188 := n1_; have BK189 := n2_; have BK202 := n3_; have HB := n4_; clear n0_ n1_ n2_ n3_ n4_; (try clear hb); (try clear hb2); (try clear hk); (try clear hi)) | ((with_reducible refine gate_callee (f := 56) rfl ?_); refine goesL_ (some 57) rfl rfl Tryd.func56 (by kernel_rfl) rfl #[.int .u64 t203, .int .u64 t192] rfl aq ?_; (with_reducible refine (frac_gcd_uint64.calls kj2 t203 t192 t204 _ A52.out).mono ?_); rintro e w79 ⟨rfl, hb⟩; refine ⟨_, rfl, ?_⟩; have n0_ := bb BK187 hb; have n1_ := bb BK188 hb; have n2_ := bb BK189 hb; have n3_ := bb BK202 hb; have n4_ := Aside0.mk (below_step (hq HB) hb); clear BK187; clear BK188; clear BK189; clear BK202; clear HB; have BK187 := n0_; have BK188 := n1_; have BK189 := n2_; have BK202 := n3_; have HB := n4_; clear n0_ n1_ n2_ n3_ n4_; (try clear hb); (try clear hb2); (try clear hk); (try clear hi); have hcz80_0 : w79.cell? ⟨gb202, 0, none⟩ = some (.bool t199) := (blk_cell BK202.out 0).trans rfl; have hcz80_1 : w79.cell? ⟨gb202, 1, none⟩ = some (.int .u64 t200) := (blk_cell BK202.out 1).trans rfl; have hcz80_2 : w79.cell? ⟨gb202, 2, none⟩ = some (.int .u64 t201) := (blk_cell BK202.out 2).trans rfl; have hfz80_0 := blk_frozen BK202.out 0; have hfz80_1 := blk_frozen BK202.out 1; have hfz80_2 := blk_frozen BK202.out 2) | ((with_reducible refine gate_callee (f := 72) rfl ?_); refine goesL_ (some 61) rfl rfl Tryd.func72 (by kernel_rfl) rfl #[.agg #[.bool t199, .int .u64 t200, .int .u64 t201], .int .u64 t204] rfl aq ?_; (with_reducible refine (frac_long_over.calls kj2 t199 t200 t201 t204 t205 true _ A53.out).mono ?_); rintro e w81 ⟨rfl, hb⟩; refine ⟨_, rfl, ?_⟩; have n0_ := bb BK187 hb; have n1_ := bb BK188 hb; have n2_ := bb BK189 hb; have n3_ := bb BK202 hb; have n4_ := Aside0.mk (below_step (hq HB) hb); clear BK187; clear BK188; clear BK189; clear BK202; clear HB; have BK187 := n0_; have BK188 := n1_; have BK189 := n2_; have BK202 := n3_; have HB := n4_; clear n0_ n1_ n2_ n3_ n4_; (try clear hb); (try clear hb2); (try clear hk); (try clear hi)))
         have n0_ := Aside0.mk (blk_drew BK187.out)
         have n1_ := Aside0.mk (blk_drew BK188.out)
         have n2_ := Aside0.mk (blk_drew BK189.out)
         have n3_ := Aside0.mk (blk_drew BK202.out)
         have n4_ := Aside0.mk (below_drew1 HB.out)
         clear BK187
         clear BK188
         clear BK189
         clear BK202
         clear HB
         have BK187 := n0_
         have BK188 := n1_
         have BK189 := n2_
         have BK202 := n3_
         have HB := n4_
         clear n0_ n1_ n2_ n3_ n4_
         refine start_ (n := 16) (S := fun w' => w'.cell? ⟨gb187, 0, none⟩ = some (.int .i64 a0_0) ∧ w'.cell? ⟨gb187, 1, none⟩ = some (.int .i64 a0_1) ∧ w'.cell? ⟨gb188, 0, none⟩ = some (.int .i64 a1_0) ∧ w'.cell? ⟨gb188, 1, none⟩ = some (.int .i64 a1_1)) (ds := []) #[false, false, false, false, false, false, false, false, false, false, false, false, false, false, false, false] (by kernel_rfl) rfl rfl ⟨(blk_cell BK187.out 0).trans rfl, (blk_cell BK187.out 1).trans rfl, (blk_cell BK188.out 0).trans rfl, (blk_cell BK188.out 1).trans rfl⟩ (fun hHeld => ?_); refine with_tabW frac_Add.tab9 frac_Add.bits9 (fun HT_ HW_ => ?_)
         generalize w81.drew = w82 at BK187 BK188 BK189 BK202 HB hHeld ⊢
         refine pure_ (i := 0) (N := some 65) (v := ?_) (a' := ?_) #[true, false, false, false, false, false, false, false, false, false, false, false, false, false, false, false] rfl rfl (any_of HT_.out (by kernel_rfl)) (fun _ _ _ h => h) (Or.inl ⟨by rfl, ?_⟩) ?_ ?_
         rotate_left
         ·intro w'
          go_simp
          with_reducible rfl
         rotate_left
         ·simp only [Act.put, List.setIfInBounds_toArray, List.set_cons_zero, List.set_cons_succ, i64_w, i32_w]
          rfl
         refine pure_ (i := 3) (N := some 68) (v := ?_) (a' := ?_) #[true, false, false, true, false, false, false, false, false, false, false, false, false, false, false, false] rfl rfl (any_of HT_.out (by kernel_rfl)) (fun _ _ _ h => h) (Or.inl ⟨by rfl, ?_⟩) ?_ ?_
         rotate_left
         ·intro w'
          go_simp
          with_reducible rfl
         rotate_left
         ·simp only [Act.put, List.setIfInBounds_toArray, List.set_cons_zero, List.set_cons_succ, i64_w, i32_w]
          rfl
         refine pure_ (i := 5) (N := some 70) (v := ?_) (a' := ?_) #[true, false, false, true, false, true, false, false, false, false, false, false, false, false, false, false] rfl rfl (any_of HT_.out (by kernel_rfl)) (fun _ _ _ h => h) (Or.inl ⟨by rfl, ?_⟩) ?_ ?_
         rotate_left
         ·intro w'
          go_simp
          with_reducible rfl
         rotate_left
         ·simp only [Act.put, List.setIfInBounds_toArray, List.set_cons_zero, List.set_cons_succ, i64_w, i32_w]
          rfl
         refine pure_ (i := 8) (N := some 73) (v := ?_) (a' := ?_) #[true, false, false, true, false, true, false, false, true, false, false, false, false, false, false, false] rfl rfl (any_of HT_.out (by kernel_rfl)) (fun _ _ _ h => h) (Or.inl ⟨by rfl, ?_⟩) ?_ ?_
         rotate_left
         ·intro w'
          go_simp
          with_reducible rfl
         rotate_left
         ·simp only [Act.put, List.setIfInBounds_toArray, List.set_cons_zero, List.set_cons_succ, i64_w, i32_w]
          rfl
         refine take_ (i := 1) (N := some 66) (v := ?_) (a' := ?_) #[true, true, false, true, false, true, false, false, true, false, false, false, false, false, false, false] rfl rfl (take_ofW HT_.out HW_.out (by kernel_rfl)) (fun _ _ _ h => h) (Or.inl ⟨by rfl, ?_⟩) hHeld ?_ ?_
         rotate_left
         ·rintro w' ⟨s0, s1, s2, s3⟩
          go_simp
          with_reducible rfl
         rotate_left
         ·simp only [Act.put, List.setIfInBounds_toArray, List.set_cons_zero, List.set_cons_succ, i64_w, i32_w]
          rfl
         refine pure_ (i := 2) (N := some 67) (v := ?_) (a' := ?_) #[true, true, true, true, false, true, false, false, true, false, false, false, false, false, false, false] rfl rfl (any_of HT_.out (by kernel_rfl)) (fun _ _ _ h => h) (Or.inl ⟨by rfl, ?_⟩) ?_ ?_
         rotate_left
         ·intro w'
          go_simp
          with_reducible rfl
         rotate_left
         ·simp only [Act.put, List.setIfInBounds_toArray, List.set_cons_zero, List.set_cons_succ, i64_w, i32_w]
          rfl
         refine pure_ (i := 4) (N := some 69) (v := ?_) (a' := ?_) #[true, true, true, true, true, true, false, false, true, false, false, false, false, false, false, false] rfl rfl (any_of HT_.out (by kernel_rfl)) (fun _ _ _ h => h) (Or.inl ⟨by rfl, ?_⟩) ?_ ?_
         rotate_left
         ·intro w'
          go_simp
          with_reducible rfl
         rotate_left
         ·simp only [Act.put, List.setIfInBounds_toArray, List.set_cons_zero, List.set_cons_succ, i64_w, i32_w]
          rfl
         refine take_ (i := 6) (N := some 71) (v := ?_) (a' := ?_) #[true, true, true, true, true, true, true, false, true, false, false, false, false, false, false, false] rfl rfl (take_ofW HT_.out HW_.out (by kernel_rfl)) (fun _ _ _ h => h) (Or.inl ⟨by rfl, ?_⟩) hHeld ?_ ?_
         rotate_left
         ·rintro w' ⟨s0, s1, s2, s3⟩
          go_simp
          with_reducible rfl
         rotate_left
         ·simp only [Act.put, List.setIfInBounds_toArray, List.set_cons_zero, List.set_cons_succ, i64_w, i32_w]
          rfl
         refine pure_ (i := 7) (N := some 72) (v := ?_) (a' := ?_) #[true, true, true, true, true, true, true, true, true, false, false, false, false, false, false, false] rfl rfl (any_of HT_.out (by kernel_rfl)) (fun _ _ _ h => h) (Or.inl ⟨by rfl, ?_⟩) ?_ ?_
         rotate_left
         ·intro w'
          go_simp
          with_reducible rfl
         rotate_left
         ·simp only [Act.put, List.setIfInBounds_toArray, List.set_cons_zero, List.set_cons_succ, i64_w, i32_w]
          rfl
         refine pure_ (i := 9) (N := some 74) (v := ?_) (a' := ?_) #[true, true, true, true, true, true, true, true, true, true, false, false, false, false, false, false] rfl rfl (any_of HT_.out (by kernel_rfl)) (fun _ _ _ h => h) (Or.inl ⟨by rfl, ?_⟩) ?_ ?_
         rotate_left
         ·intro w'
          go_simp
          with_reducible rfl
         rotate_left
         ·simp only [Act.put, List.setIfInBounds_toArray, List.set_cons_zero, List.set_cons_succ, i64_w, i32_w]
          rfl
         refine one_ (i := 10) (N := some 75) #[true, true, true, true, true, true, true, true, true, true, true, false, false, false, false, false] rfl rfl (one_of HT_.out (by kernel_rfl)) (by decide) (fun K hK => ?_)
         refine goes_ Tryd.func61 (by kernel_rfl) rfl #[.int .u64 (IntKind.u64.wrap (Int.tdiv (IntKind.u64.wrap (a0_1)) t192)), .int .u64 (IntKind.u64.wrap (Int.tdiv (IntKind.u64.wrap (a1_1)) t204))] (by rfl) rfl rfl aq ?_
         with_reducible refine (bits_Mul64.calls (IntKind.u64.wrap (Int.tdiv (IntKind.u64.wrap (a0_1)) t192)) (IntKind.u64.wrap (Int.tdiv (IntKind.u64.wrap (a1_1)) t204)) t207 t208 _ A55.out).mono ?_
         rintro e w83 ⟨rfl, hb⟩
         refine ⟨_, rfl, ?_⟩
         have n0_ := bb BK187 hb
         have n1_ := bb BK188 hb
         have n2_ := bb BK189 hb
         have n3_ := bb BK202 hb
         have n4_ := Aside0.mk (below_step (hq HB) hb)
         clear BK187
         clear BK188
         clear BK189
         clear BK202
         clear HB
         have BK187 := n0_
         have BK188 := n1_
         have BK189 := n2_
         have BK202 := n3_
         have HB := n4_
         clear n0_ n1_ n2_ n3_ n4_
         (try clear hb)
         (try clear hb2)
         (try clear hk)
         (try clear hi)
         refine hK.out _ _ ⟨(blk_cell BK187.out 0).trans rfl, (blk_cell BK187.out 1).trans rfl, (blk_cell BK188.out 0).trans rfl, (blk_cell BK188.out 1).trans rfl⟩ (fun hHeld => ?_)
         clear hK K
         refine norm_ (a' := ?_) ?_ ?_
         rotate_left
         ·show Act.put _ (some 75) _ = _
          simp only [Act.put, List.setIfInBounds_toArray, List.set_cons_zero, List.set_cons_succ, i64_w, i32_w]
          rfl
         refine pure_ (i := 11) (N := some 64) (v := ?_) (a' := ?_) #[true, true, true, true, true, true, true, true, true, true, true, true, false, false, false, false] rfl rfl (any_of HT_.out (by kernel_rfl)) (fun _ _ _ h => h) (Or.inl ⟨by rfl, ?_⟩) ?_ ?_
         rotate_left
         ·intro w'
          go_simp
          with_reducible rfl
         rotate_left
         ·simp only [Act.put, List.setIfInBounds_toArray, List.set_cons_zero, List.set_cons_succ, i64_w, i32_w]
          rfl
         refine pure_ (i := 12) (N := some 76) (v := ?_) (a' := ?_) #[true, true, true, true, true, true, true, true, true, true, true, true, true, false, false, false] rfl rfl (any_of HT_.out (by kernel_rfl)) (fun _ _ _ h => h) (Or.inl ⟨by rfl, ?_⟩) ?_ ?_
         rotate_left
         ·intro w'
          go_simp
          with_reducible rfl
         rotate_left
         ·simp only [Act.put, List.setIfInBounds_toArray, List.set_cons_zero, List.set_cons_succ, i64_w, i32_w]
          rfl
         refine pure_ (i := 13) (N := some 77) (v := ?_) (a' := ?_) #[true, true, true, true, true, true, true, true, true, true, true, true, true, true, false, false] rfl rfl (any_of HT_.out (by kernel_rfl)) (fun _ _ _ h => h) (Or.inl ⟨by rfl, ?_⟩) ?_ ?_
         rotate_left
         ·intro w'
          go_simp
          with_reducible rfl
         rotate_left
         ·simp only [Act.put, List.setIfInBounds_toArray, List.set_cons_zero, List.set_cons_succ, i64_w, i32_w]
          rfl
         refine pure_ (i := 14) (N := some 11) (v := ?_) (a' := ?_) #[true, true, true, true, true, true, true, true, true, true, true, true, true, true, true, false] rfl rfl (any_of HT_.out (by kernel_rfl)) (fun _ _ _ h => h) (Or.inl ⟨by rfl, ?_⟩) ?_ ?_
         rotate_left
         ·intro w'
          go_simp
          with_reducible rfl
         rotate_left
         ·simp only [Act.put, List.setIfInBounds_toArray, List.set_cons_zero, List.set_cons_succ, i64_w, i32_w]
          rfl
         refine pure_ (i := 15) (N := some 12) (v := ?_) (a' := ?_) #[true, true, true, true, true, true, true, true, true, true, true, true, true, true, true, true] rfl rfl (any_of HT_.out (by kernel_rfl)) (fun _ _ _ h => h) (Or.inl ⟨by rfl, ?_⟩) ?_ ?_
         rotate_left
         ·intro w'
          go_simp
          with_reducible rfl
         rotate_left
         ·simp only [Act.put, List.setIfInBounds_toArray, List.set_cons_zero, List.set_cons_succ, i64_w, i32_w]
          rfl
         refine done_ (done_of HT_.out (by kernel_rfl)) ?_
         have hcz84_0 : w83.cell? ⟨gb202, 0, none⟩ = some (.bool t199) := (blk_cell BK202.out 0).trans rfl
         have hcz84_1 : w83.cell? ⟨gb202, 1, none⟩ = some (.int .u64 t200) := (blk_cell BK202.out 1).trans rfl
         have hcz84_2 : w83.cell? ⟨gb202, 2, none⟩ = some (.int .u64 t201) := (blk_cell BK202.out 2).trans rfl
         have hfz84_0 := blk_frozen BK202.out 0
         have hfz84_1 := blk_frozen BK202.out 1
         have hfz84_2 := blk_frozen BK202.out 2
         try go_wp2_with (first | ((with_reducible refine gate_callee (f := 58) rfl ?_); refine goesL_ (some 89) rfl rfl Tryd.func58 (by kernel_rfl) rfl #[.bool t199, .int .u64 t205, .int .u64 t208] rfl aq ?_; (with_reducible refine (frac_made.calls kj2 t199 t205 t208 t209 t210 t211 _ A58.out).mono ?_); rintro e w85 ⟨rfl, hb⟩; refine ⟨_, rfl, ?_⟩; have n0_ := bb BK187 hb; have n1_ := bb BK188 hb; have n2_ := bb BK189 hb; have n3_ := bb BK202 hb; have n4_ := Aside0.mk (below_step (hq HB) hb); clear BK187; clear BK188; clear BK189; clear BK202; clear HB; have BK187 := n0_; have BK188 := n1_; have BK189 := n2_; have BK202 := n3_; have HB := n4_; clear n0_ n1_ n2_ n3_ n4_; (try clear hb); (try clear hb2); (try clear hk); (try clear hi); have hcz86_0 : w85.cell? ⟨gb189, 0, none⟩ = some (.int .i64 0) := (blk_cell BK189.out 0).trans rfl; have hcz86_1 : w85.cell? ⟨gb189, 1, none⟩ = some (.int .i64 0) := (blk_cell BK189.out 1).trans rfl; have hfz86_0 := blk_frozen BK189.out 0; have hfz86_1 := blk_frozen BK189.out 1))
         refine bodyPost_ret (results_ct rfl _ _ gb189 24 #[.int .i64 t209, .int .i64 t210] (0, 0) _ rfl (by (with_reducible repeat (first | refine bN ?_ _ | refine bd ?_ | refine ba ?_ _)); refine blk_put (cs := #[.int .i64 t209, .int .i64 0]) ?_ 1 _ rfl; (with_reducible repeat (first | refine bN ?_ _ | refine bd ?_ | refine ba ?_ _)); refine blk_put (cs := #[.int .i64 0, .int .i64 0]) ?_ 0 _ rfl; (with_reducible repeat (first | refine bN ?_ _ | refine bd ?_ | refine ba ?_ _)); exact BK189.out) Tryd.underlying24 rfl (by kernel_rfl)) rfl ?_
         exact ⟨by first | rfl | (simp [errW_none, errW_some] <;> rfl) | (simp [*, errW_none, errW_some] <;> rfl), by repeat (first | (with_reducible first | exact HB.out | apply below_alloc | apply pw_below_drewN | apply below_drew1 | refine below_set ?_ GE187.out | refine below_set ?_ GE188.out | refine below_set ?_ GE189.out | refine below_set ?_ GE202.out) | exact HB.out)⟩
        ·rw [if_neg c57] at H
         have c57b0 : (t207 == 0) = false := beq_eq_false_iff_ne.mpr c57
         have c57b1 : (t207 != 0) = true := bne_iff_ne.mpr c57
         simp only [Option.some.injEq, Prod.mk.injEq] at H
         obtain ⟨rfl, rfl, rfl⟩ := H
         have hnb87 := NB187_188.out
         have hnc87 := NB188_187.out
         have hnb88 := NB187_189.out
         have hnc88 := NB189_187.out
         have hcz89_0 : wc.cell? ⟨gb187, 0, none⟩ = some (.int .i64 a0_0) := (blk_cell BK187.out 0).trans rfl
         have hcz89_1 : wc.cell? ⟨gb187, 1, none⟩ = some (.int .i64 a0_1) := (blk_cell BK187.out 1).trans rfl
         have hfz89_0 := blk_frozen BK187.out 0
         have hfz89_1 := blk_frozen BK187.out 1
         have hnb90 := NB188_189.out
         have hnc90 := NB189_188.out
         have hcz91_0 : wc.cell? ⟨gb188, 0, none⟩ = some (.int .i64 a1_0) := (blk_cell BK188.out 0).trans rfl
         have hcz91_1 : wc.cell? ⟨gb188, 1, none⟩ = some (.int .i64 a1_1) := (blk_cell BK188.out 1).trans rfl
         have hfz91_0 := blk_frozen BK188.out 0
         have hfz91_1 := blk_frozen BK188.out 1
         try go_wp2_with (first | ((with_reducible refine gate_callee (f := 56) rfl ?_); refine goesL_ (some 28) rfl rfl Tryd.func56 (by kernel_rfl) rfl #[.int .u64 (IntKind.u64.wrap (a0_1)), .int .u64 (IntKind.u64.wrap (a1_1))] rfl aq ?_; (with_reducible refine (frac_gcd_uint64.calls kj2 (IntKind.u64.wrap (a0_1)) (IntKind.u64.wrap (a1_1)) t192 _ A25.out).mono ?_); rintro e w92 ⟨rfl, hb⟩; refine ⟨_, rfl, ?_⟩; have n0_ := bb BK187 hb; have n1_ := bb BK188 hb; have n2_ := bb BK189 hb; have n3_ := Aside0.mk (below_step (hq HB) hb); clear BK187; clear BK188; clear BK189; clear HB; have BK187 := n0_; have BK188 := n1_; have BK189 := n2_; have HB := n3_; clear n0_ n1_ n2_ n3_; (try clear hb); (try clear hb2); (try clear hk); (try clear hi)))
         have n0_ := Aside0.mk (blk_drew BK187.out)
         have n1_ := Aside0.mk (blk_drew BK188.out)
         have n2_ := Aside0.mk (blk_drew BK189.out)
         have n3_ := Aside0.mk (below_drew1 HB.out)
         clear BK187
         clear BK188
         clear BK189
         clear HB
         have BK187 := n0_
         have BK188 := n1_
         have BK189 := n2_
         have HB := n3_
         clear n0_ n1_ n2_ n3_
         refine start_ (n := 19) (S := fun w' => w'.cell? ⟨gb187, 0, none⟩ = some (.int .i64 a0_0) ∧ w'.cell? ⟨gb187, 1, none⟩ = some (.int .i64 a0_1) ∧ w'.cell? ⟨gb188, 0, none⟩ = some (.int .i64 a1_0) ∧ w'.cell? ⟨gb188, 1, none⟩ = some (.int .i64 a1_1)) (ds := []) #[false, false, false, false, false, false, false, false, false, false, false, false, false, false, false, false, false, false, false] (by kernel_rfl) rfl rfl ⟨(blk_cell BK187.out 0).trans rfl, (blk_cell BK187.out 1).trans rfl, (blk_cell BK188.out 0).trans rfl, (blk_cell BK188.out 1).trans rfl⟩ (fun hHeld => ?_); refine with_tabW frac_Add.tab4 frac_Add.bits4 (fun HT_ HW_ => ?_)
         generalize w92.drew = w93 at BK187 BK188 BK189 HB hHeld ⊢
         refine pure_ (i := 0) (N := some 29) (v := ?_) (a' := ?_) #[true, false, false, false, false, false, false, false, false, false, false, false, false, false, false, false, false, false, false] rfl rfl (any_of HT_.out (by kernel_rfl)) (fun _ _ _ h => h) (Or.inl ⟨by rfl, ?_⟩) ?_ ?_
         rotate_left
         ·intro w'
          go_simp
          with_reducible rfl
         rotate_left
         ·simp only [Act.put, List.setIfInBounds_toArray, List.set_cons_zero, List.set_cons_succ, i64_w, i32_w]
          rfl
         refine pure_ (i := 2) (N := some 31) (v := ?_) (a' := ?_) #[true, false, true, false, false, false, false, false, false, false, false, false, false, false, false, false, false, false, false] rfl rfl (any_of HT_.out (by kernel_rfl)) (fun _ _ _ h => h) (Or.inl ⟨by rfl, ?_⟩) ?_ ?_
         rotate_left
         ·intro w'
          go_simp
          with_reducible rfl
         rotate_left
         ·simp only [Act.put, List.setIfInBounds_toArray, List.set_cons_zero, List.set_cons_succ, i64_w, i32_w]
          rfl
         refine pure_ (i := 5) (N := some 34) (v := ?_) (a' := ?_) #[true, false, true, false, false, true, false, false, false, false, false, false, false, false, false, false, false, false, false] rfl rfl (any_of HT_.out (by kernel_rfl)) (fun _ _ _ h => h) (Or.inl ⟨by rfl, ?_⟩) ?_ ?_
         rotate_left
         ·intro w'
          go_simp
          with_reducible rfl
         rotate_left
         ·simp only [Act.put, List.setIfInBounds_toArray, List.set_cons_zero, List.set_cons_succ, i64_w, i32_w]
          rfl
         refine pure_ (i := 8) (N := some 37) (v := ?_) (a' := ?_) #[true, false, true, false, false, true, false, false, true, false, false, false, false, false, false, false, false, false, false] rfl rfl (any_of HT_.out (by kernel_rfl)) (fun _ _ _ h => h) (Or.inl ⟨by rfl, ?_⟩) ?_ ?_
         rotate_left
         ·intro w'
          go_simp
          with_reducible rfl
         rotate_left
         ·simp only [Act.put, List.setIfInBounds_toArray, List.set_cons_zero, List.set_cons_succ, i64_w, i32_w]
          rfl
         refine pure_ (i := 10) (N := some 39) (v := ?_) (a' := ?_) #[true, false, true, false, false, true, false, false, true, false, true, false, false, false, false, false, false, false, false] rfl rfl (any_of HT_.out (by kernel_rfl)) (fun _ _ _ h => h) (Or.inl ⟨by rfl, ?_⟩) ?_ ?_
         rotate_left
         ·intro w'
          go_simp
          with_reducible rfl
         rotate_left
         ·simp only [Act.put, List.setIfInBounds_toArray, List.set_cons_zero, List.set_cons_succ, i64_w, i32_w]
          rfl
         refine pure_ (i := 13) (N := some 42) (v := ?_) (a' := ?_) #[true, false, true, false, false, true, false, false, true, false, true, false, false, true, false, false, false, false, false] rfl rfl (any_of HT_.out (by kernel_rfl)) (fun _ _ _ h => h) (Or.inl ⟨by rfl, ?_⟩) ?_ ?_
         rotate_left
         ·intro w'
          go_simp
          with_reducible rfl
         rotate_left
         ·simp only [Act.put, List.setIfInBounds_toArray, List.set_cons_zero, List.set_cons_succ, i64_w, i32_w]
          rfl
         refine take_ (i := 1) (N := some 30) (v := ?_) (a' := ?_) #[true, true, true, false, false, true, false, false, true, false, true, false, false, true, false, false, false, false, false] rfl rfl (take_ofW HT_.out HW_.out (by kernel_rfl)) (fun _ _ _ h => h) (Or.inl ⟨by rfl, ?_⟩) hHeld ?_ ?_
         rotate_left
         ·rintro w' ⟨s0, s1, s2, s3⟩
          go_simp
          with_reducible rfl
         rotate_left
         ·simp only [Act.put, List.setIfInBounds_toArray, List.set_cons_zero, List.set_cons_succ, i64_w, i32_w]
          rfl
         refine take_ (i := 3) (N := some 32) (v := ?_) (a' := ?_) #[true, true, true, true, false, true, false, false, true, false, true, false, false, true, false, false, false, false, false] rfl rfl (take_ofW HT_.out HW_.out (by kernel_rfl)) (fun _ _ _ h => h) (Or.inl ⟨by rfl, ?_⟩) hHeld ?_ ?_
         rotate_left
         ·rintro w' ⟨s0, s1, s2, s3⟩
          go_simp
          with_reducible rfl
         rotate_left
         ·simp only [Act.put, List.setIfInBounds_toArray, List.set_cons_zero, List.set_cons_succ, i64_w, i32_w]
          rfl
         refine pure_ (i := 4) (N := some 33) (v := ?_) (a' := ?_) #[true, true, true, true, true, true, false, false, true, false, true, false, false, true, false, false, false, false, false] rfl rfl (any_of HT_.out (by kernel_rfl)) (fun _ _ _ h => h) (Or.inl ⟨by rfl, ?_⟩) ?_ ?_
         rotate_left
         ·intro w'
          go_simp
          with_reducible rfl
         rotate_left
         ·simp only [Act.put, List.setIfInBounds_toArray, List.set_cons_zero, List.set_cons_succ, i64_w, i32_w]
          rfl
         refine pure_ (i := 6) (N := some 35) (v := ?_) (a' := ?_) #[true, true, true, true, true, true, true, false, true, false, true, false, false, true, false, false, false, false, false] rfl rfl (any_of HT_.out (by kernel_rfl)) (fun _ _ _ h => h) (Or.inl ⟨by rfl, ?_⟩) ?_ ?_
         rotate_left
         ·intro w'
          go_simp
          with_reducible rfl
         rotate_left
         ·simp only [Act.put, List.setIfInBounds_toArray, List.set_cons_zero, List.set_cons_succ, i64_w, i32_w]
          rfl
         refine take_ (i := 9) (N := some 38) (v := ?_) (a' := ?_) #[true, true, true, true, true, true, true, false, true, true, true, false, false, true, false, false, false, false, false] rfl rfl (take_ofW HT_.out HW_.out (by kernel_rfl)) (fun _ _ _ h => h) (Or.inl ⟨by rfl, ?_⟩) hHeld ?_ ?_
         rotate_left
         ·rintro w' ⟨s0, s1, s2, s3⟩
          go_simp
          with_reducible rfl
         rotate_left
         ·simp only [Act.put, List.setIfInBounds_toArray, List.set_cons_zero, List.set_cons_succ, i64_w, i32_w]
          rfl
         refine take_ (i := 11) (N := some 40) (v := ?_) (a' := ?_) #[true, true, true, true, true, true, true, false, true, true, true, true, false, true, false, false, false, false, false] rfl rfl (take_ofW HT_.out HW_.out (by kernel_rfl)) (fun _ _ _ h => h) (Or.inl ⟨by rfl, ?_⟩) hHeld ?_ ?_
         rotate_left
         ·rintro w' ⟨s0, s1, s2, s3⟩
          go_simp
          with_reducible rfl
         rotate_left
         ·simp only [Act.put, List.setIfInBounds_toArray, List.set_cons_zero, List.set_cons_succ, i64_w, i32_w]
          rfl
         refine pure_ (i := 12) (N := some 41) (v := ?_) (a' := ?_) #[true, true, true, true, true, true, true, false, true, true, true, true, true, true, false, false, false, false, false] rfl rfl (any_of HT_.out (by kernel_rfl)) (fun _ _ _ h => h) (Or.inl ⟨by rfl, ?_⟩) ?_ ?_
         rotate_left
         ·intro w'
          go_simp
          with_reducible rfl
         rotate_left
         ·simp only [Act.put, List.setIfInBounds_toArray, List.set_cons_zero, List.set_cons_succ, i64_w, i32_w]
          rfl
         refine pure_ (i := 14) (N := some 43) (v := ?_) (a' := ?_) #[true, true, true, true, true, true, true, false, true, true, true, true, true, true, true, false, false, false, false] rfl rfl (any_of HT_.out (by kernel_rfl)) (fun _ _ _ h => h) (Or.inl ⟨by rfl, ?_⟩) ?_ ?_
         rotate_left
         ·intro w'
          go_simp
          with_reducible rfl
         rotate_left
         ·simp only [Act.put, List.setIfInBounds_toArray, List.set_cons_zero, List.set_cons_succ, i64_w, i32_w]
          rfl
         refine join_ (σ := Nat) 1 #[true, true, true, true, true, true, true, true, true, true, true, true, true, true, true, true, true, true, false] (fun s_ => [(36, .agg #[.bool t193, .int .u64 t194, .int .u64 t195]), (44, .agg #[.bool t196, .int .u64 t197, .int .u64 t198]), (45, .agg #[.bool t199, .int .u64 t200, .int .u64 t201]), (7, .pointer (some ⟨s_, 0, none⟩))]) (fun s_ w' => (w'.cell? ⟨gb187, 0, none⟩ = some (.int .i64 a0_0) ∧ w'.cell? ⟨gb187, 1, none⟩ = some (.int .i64 a0_1) ∧ w'.cell? ⟨gb188, 0, none⟩ = some (.int .i64 a1_0) ∧ w'.cell? ⟨gb188, 1, none⟩ = some (.int .i64 a1_1)) ∧ (w'.heap[gb187]? = some (.cells #[.int .i64 a0_0, .int .i64 a0_1] 24 (0, 0))) ∧ (w'.heap[gb188]? = some (.cells #[.int .i64 a1_0, .int .i64 a1_1] 24 (0, 0))) ∧ (w'.heap[gb189]? = some (.cells #[.int .i64 0, .int .i64 0] 24 (0, 0))) ∧ (w'.heap[s_]? = some (.cells #[.bool false, .int .u64 0, .int .u64 0] 91 (0, 0))) ∧ (w.heap.size ≤ s_) ∧ (w.heap.size ≤ s_) ∧ (gb187 ≠ s_) ∧ (s_ ≠ gb187) ∧ (gb188 ≠ s_) ∧ (s_ ≠ gb188) ∧ (gb189 ≠ s_) ∧ (s_ ≠ gb189) ∧ (Below w.heap.size w w')) ?_ ?_
         rotate_left
         ·intro hCont
          refine two_ (i := 7) (j := 17) (Ni := some 36) (Nj := some 7) #[true, true, true, true, true, true, true, true, true, true, true, true, true, true, true, false, false, false, false] #[true, true, true, true, true, true, true, false, true, true, true, true, true, true, true, false, false, true, false] rfl rfl rfl rfl (two_of HT_.out (by kernel_rfl)) (by decide) (by decide) (fun K hK => ?_) (fun K hK => ?_)
          ·skip
           refine goes_ Tryd.func69 (by kernel_rfl) rfl #[.int .i64 a0_0, .int .u64 (IntKind.u64.wrap (Int.tdiv (IntKind.u64.wrap (a1_1)) t192))] (by rfl) rfl rfl aq ?_
           with_reducible refine (frac_times.calls a0_0 (IntKind.u64.wrap (Int.tdiv (IntKind.u64.wrap (a1_1)) t192)) t193 t194 t195 _ A27.out).mono ?_
           rintro e w94 ⟨rfl, hb⟩
           refine ⟨_, rfl, ?_⟩
           have n0_ := bb BK187 hb
           have n1_ := bb BK188 hb
           have n2_ := bb BK189 hb
           have n3_ := Aside0.mk (below_step (hq HB) hb)
           clear BK187
           clear BK188
           clear BK189
           clear HB
           have BK187 := n0_
           have BK188 := n1_
           have BK189 := n2_
           have HB := n3_
           clear n0_ n1_ n2_ n3_
           (try clear hb)
           (try clear hb2)
           (try clear hk)
           (try clear hi)
           refine hK.out _ _ ⟨(blk_cell BK187.out 0).trans rfl, (blk_cell BK187.out 1).trans rfl, (blk_cell BK188.out 0).trans rfl, (blk_cell BK188.out 1).trans rfl⟩ (fun hHeld => ?_)
           clear hK K
           refine norm_ (a' := ?_) ?_ ?_
           rotate_left
           ·show Act.put _ (some 36) _ = _
            simp only [Act.put, List.setIfInBounds_toArray, List.set_cons_zero, List.set_cons_succ, i64_w, i32_w]
            rfl
           refine two_ (i := 15) (j := 17) (Ni := some 44) (Nj := some 7) #[true, true, true, true, true, true, true, true, true, true, true, true, true, true, true, true, false, false, false] #[true, true, true, true, true, true, true, true, true, true, true, true, true, true, true, false, false, true, false] rfl rfl rfl rfl (two_of HT_.out (by kernel_rfl)) (by decide) (by decide) (fun K hK => ?_) (fun K hK => ?_)
           ·skip
            refine goes_ Tryd.func69 (by kernel_rfl) rfl #[.int .i64 a1_0, .int .u64 (IntKind.u64.wrap (Int.tdiv (IntKind.u64.wrap (a0_1)) t192))] (by rfl) rfl rfl aq ?_
            with_reducible refine (frac_times.calls a1_0 (IntKind.u64.wrap (Int.tdiv (IntKind.u64.wrap (a0_1)) t192)) t196 t197 t198 _ A28.out).mono ?_
            rintro e w95 ⟨rfl, hb⟩
            refine ⟨_, rfl, ?_⟩
            have n0_ := bb BK187 hb
            have n1_ := bb BK188 hb
            have n2_ := bb BK189 hb
            have n3_ := Aside0.mk (below_step (hq HB) hb)
            clear BK187
            clear BK188
            clear BK189
            clear HB
            have BK187 := n0_
            have BK188 := n1_
            have BK189 := n2_
            have HB := n3_
            clear n0_ n1_ n2_ n3_
            (try clear hb)
            (try clear hb2)
            (try clear hk)
            (try clear hi)
            refine hK.out _ _ ⟨(blk_cell BK187.out 0).trans rfl, (blk_cell BK187.out 1).trans rfl, (blk_cell BK188.out 0).trans rfl, (blk_cell BK188.out 1).trans rfl⟩ (fun hHeld => ?_)
            clear hK K
            refine norm_ (a' := ?_) ?_ ?_
            rotate_left
            ·show Act.put _ (some 44) _ = _
             simp only [Act.put, List.setIfInBounds_toArray, List.set_cons_zero, List.set_cons_succ, i64_w, i32_w]
             rfl
            refine two_ (i := 16) (j := 17) (Ni := some 45) (Nj := some 7) #[true, true, true, true, true, true, true, true, true, true, true, true, true, true, true, true, true, false, false] #[true, true, true, true, true, true, true, true, true, true, true, true, true, true, true, true, false, true, false] rfl rfl rfl rfl (two_of HT_.out (by kernel_rfl)) (by decide) (by decide) (fun K hK => ?_) (fun K hK => ?_)
            ·skip
             refine goes_ Tryd.func70 (by kernel_rfl) rfl #[.agg #[.bool t193, .int .u64 t194, .int .u64 t195], .agg #[.bool t196, .int .u64 t197, .int .u64 t198]] (by rfl) rfl rfl aq ?_
             with_reducible refine (frac_long_plus.calls kj2 t193 t194 t195 t196 t197 t198 t199 t200 t201 _ A29.out).mono ?_
             rintro e w96 ⟨rfl, hb⟩
             refine ⟨_, rfl, ?_⟩
             have n0_ := bb BK187 hb
             have n1_ := bb BK188 hb
             have n2_ := bb BK189 hb
             have n3_ := Aside0.mk (below_step (hq HB) hb)
             clear BK187
             clear BK188
             clear BK189
             clear HB
             have BK187 := n0_
             have BK188 := n1_
             have BK189 := n2_
             have HB := n3_
             clear n0_ n1_ n2_ n3_
             (try clear hb)
             (try clear hb2)
             (try clear hk)
             (try clear hi)
             refine hK.out _ _ ⟨(blk_cell BK187.out 0).trans rfl, (blk_cell BK187.out 1).trans rfl, (blk_cell BK188.out 0).trans rfl, (blk_cell BK188.out 1).trans rfl⟩ (fun hHeld => ?_)
             clear hK K
             refine norm_ (a' := ?_) ?_ ?_
             rotate_left
             ·show Act.put _ (some 45) _ = _
              simp only [Act.put, List.setIfInBounds_toArray, List.set_cons_zero, List.set_cons_succ, i64_w, i32_w]
              rfl
             refine one_ (i := 17) (N := some 7) #[true, true, true, true, true, true, true, true, true, true, true, true, true, true, true, true, true, true, false] rfl rfl (one_of HT_.out (by kernel_rfl)) (by decide) (fun K hK => ?_)
             refine box_step ?hg (N := 7) ?hd (cs := #[.bool false, .int .u64 0, .int .u64 0]) (t := 91) ?hr ?_; (case hd => rfl); (case hg => rfl); (case hr => first | (go_simp; done) | (go_simp; rfl))
             intro gb202 hg w97 hbox hb
             have n0_ := bb BK187 hb
             have n1_ := bb BK188 hb
             have n2_ := bb BK189 hb
             have n3_ := Aside0.mk (below_step (hq HB) hb)
             have n4_ := Aside0.mk (hbox)
             have n5_ := Aside0.mk ((by rw [hg]; exact (below_size (hq HB)) : w.heap.size ≤ gb202))
             have n6_ := Aside0.mk ((by rw [hg]; exact (below_size (hq HB)) : w.heap.size ≤ gb202))
             have n7_ := nl BK187 hg
             have n8_ := ng BK187 hg
             have n9_ := nl BK188 hg
             have n10_ := ng BK188 hg
             have n11_ := nl BK189 hg
             have n12_ := ng BK189 hg
             clear BK187
             clear BK188
             clear BK189
             clear HB
             have BK187 := n0_
             have BK188 := n1_
             have BK189 := n2_
             have HB := n3_
             have BK202 := n4_
             have GW202 := n5_
             have GE202 := n6_
             have NB187_202 := n7_
             have NB202_187 := n8_
             have NB188_202 := n9_
             have NB202_188 := n10_
             have NB189_202 := n11_
             have NB202_189 := n12_
             clear n0_ n1_ n2_ n3_ n4_ n5_ n6_ n7_ n8_ n9_ n10_ n11_ n12_
             clear hb hbox hg
             refine hK.out _ _ ⟨(blk_cell BK187.out 0).trans rfl, (blk_cell BK187.out 1).trans rfl, (blk_cell BK188.out 0).trans rfl, (blk_cell BK188.out 1).trans rfl⟩ (fun hHeld => ?_)
             clear hK K
             refine norm_ (a' := ?_) ?_ ?_
             rotate_left
             ·show Act.put _ (some 7) _ = _
              simp only [Act.put, List.setIfInBounds_toArray, List.set_cons_zero, List.set_cons_succ, i64_w, i32_w]
              rfl
             exact norm_ (by simp only [putAll, Act.put, List.setIfInBounds_toArray, List.set_cons_zero, List.set_cons_succ]) (hCont (gb202) _ ⟨hHeld, (bq BK187), (bq BK188), (bq BK189), (bq BK202), GW202.out, GE202.out, NB187_202.out, NB202_187.out, NB188_202.out, NB202_188.out, NB189_202.out, NB202_189.out, (hq HB)⟩)
            ·skip
             refine box_step ?hg (N := 7) ?hd (cs := #[.bool false, .int .u64 0, .int .u64 0]) (t := 91) ?hr ?_; (case hd => rfl); (case hg => rfl); (case hr => first | (go_simp; done) | (go_simp; rfl))
             intro gb202 hg w96 hbox hb
             have n0_ := bb BK187 hb
             have n1_ := bb BK188 hb
             have n2_ := bb BK189 hb
             have n3_ := Aside0.mk (below_step (hq HB) hb)
             have n4_ := Aside0.mk (hbox)
             have n5_ := Aside0.mk ((by rw [hg]; exact (below_size (hq HB)) : w.heap.size ≤ gb202))
             have n6_ := Aside0.mk ((by rw [hg]; exact (below_size (hq HB)) : w.heap.size ≤ gb202))
             have n7_ := nl BK187 hg
             have n8_ := ng BK187 hg
             have n9_ := nl BK188 hg
             have n10_ := ng BK188 hg
             have n11_ := nl BK189 hg
             have n12_ := ng BK189 hg
             clear BK187
             clear BK188
             clear BK189
             clear HB
             have BK187 := n0_
             have BK188 := n1_
             have BK189 := n2_
             have HB := n3_
             have BK202 := n4_
             have GW202 := n5_
             have GE202 := n6_
             have NB187_202 := n7_
             have NB202_187 := n8_
             have NB188_202 := n9_
             have NB202_188 := n10_
             have NB189_202 := n11_
             have NB202_189 := n12_
             clear n0_ n1_ n2_ n3_ n4_ n5_ n6_ n7_ n8_ n9_ n10_ n11_ n12_
             clear hb hbox hg
             refine hK.out _ _ ⟨(blk_cell BK187.out 0).trans rfl, (blk_cell BK187.out 1).trans rfl, (blk_cell BK188.out 0).trans rfl, (blk_cell BK188.out 1).trans rfl⟩ (fun hHeld => ?_)
             clear hK K
             refine norm_ (a' := ?_) ?_ ?_
             rotate_left
             ·show Act.put _ (some 7) _ = _
              simp only [Act.put, List.setIfInBounds_toArray, List.set_cons_zero, List.set_cons_succ, i64_w, i32_w]
              rfl
             refine one_ (i := 16) (N := some 45) #[true, true, true, true, true, true, true, true, true, true, true, true, true, true, true, true, true, true, false] rfl rfl (one_of HT_.out (by kernel_rfl)) (by decide) (fun K hK => ?_)
             refine goes_ Tryd.func70 (by kernel_rfl) rfl #[.agg #[.bool t193, .int .u64 t194, .int .u64 t195], .agg #[.bool t196, .int .u64 t197, .int .u64 t198]] (by rfl) rfl rfl aq ?_
             with_reducible refine (frac_long_plus.calls kj2 t193 t194 t195 t196 t197 t198 t199 t200 t201 _ A29.out).mono ?_
             rintro e w97 ⟨rfl, hb⟩
             refine ⟨_, rfl, ?_⟩
             have n0_ := bb BK187 hb
             have n1_ := bb BK188 hb
             have n2_ := bb BK189 hb
             have n3_ := bb BK202 hb
             have n4_ := Aside0.mk (below_step (hq HB) hb)
             clear BK187
             clear BK188
             clear BK189
             clear BK202
             clear HB
             have BK187 := n0_
             have BK188 := n1_
             have BK189 := n2_
             have BK202 := n3_
             have HB := n4_
             clear n0_ n1_ n2_ n3_ n4_
             (try clear hb)
             (try clear hb2)
             (try clear hk)
             (try clear hi)
             refine hK.out _ _ ⟨(blk_cell BK187.out 0).trans rfl, (blk_cell BK187.out 1).trans rfl, (blk_cell BK188.out 0).trans rfl, (blk_cell BK188.out 1).trans rfl⟩ (fun hHeld => ?_)
             clear hK K
             refine norm_ (a' := ?_) ?_ ?_
             rotate_left
             ·show Act.put _ (some 45) _ = _
              simp only [Act.put, List.setIfInBounds_toArray, List.set_cons_zero, List.set_cons_succ, i64_w, i32_w]
              rfl
             exact norm_ (by simp only [putAll, Act.put, List.setIfInBounds_toArray, List.set_cons_zero, List.set_cons_succ]) (hCont (gb202) _ ⟨hHeld, (bq BK187), (bq BK188), (bq BK189), (bq BK202), GW202.out, GE202.out, NB187_202.out, NB202_187.out, NB188_202.out, NB202_188.out, NB189_202.out, NB202_189.out, (hq HB)⟩)
           ·skip
            refine box_step ?hg (N := 7) ?hd (cs := #[.bool false, .int .u64 0, .int .u64 0]) (t := 91) ?hr ?_; (case hd => rfl); (case hg => rfl); (case hr => first | (go_simp; done) | (go_simp; rfl))
            intro gb202 hg w95 hbox hb
            have n0_ := bb BK187 hb
            have n1_ := bb BK188 hb
            have n2_ := bb BK189 hb
            have n3_ := Aside0.mk (below_step (hq HB) hb)
            have n4_ := Aside0.mk (hbox)
            have n5_ := Aside0.mk ((by rw [hg]; exact (below_size (hq HB)) : w.heap.size ≤ gb202))
            have n6_ := Aside0.mk ((by rw [hg]; exact (below_size (hq HB)) : w.heap.size ≤ gb202))
            have n7_ := nl BK187 hg
            have n8_ := ng BK187 hg
            have n9_ := nl BK188 hg
            have n10_ := ng BK188 hg
            have n11_ := nl BK189 hg
            have n12_ := ng BK189 hg
            clear BK187
            clear BK188
            clear BK189
            clear HB
            have BK187 := n0_
            have BK188 := n1_
            have BK189 := n2_
            have HB := n3_
            have BK202 := n4_
            have GW202 := n5_
            have GE202 := n6_
            have NB187_202 := n7_
            have NB202_187 := n8_
            have NB188_202 := n9_
            have NB202_188 := n10_
            have NB189_202 := n11_
            have NB202_189 := n12_
            clear n0_ n1_ n2_ n3_ n4_ n5_ n6_ n7_ n8_ n9_ n10_ n11_ n12_
            clear hb hbox hg
            refine hK.out _ _ ⟨(blk_cell BK187.out 0).trans rfl, (blk_cell BK187.out 1).trans rfl, (blk_cell BK188.out 0).trans rfl, (blk_cell BK188.out 1).trans rfl⟩ (fun hHeld => ?_)
            clear hK K
            refine norm_ (a' := ?_) ?_ ?_
            rotate_left
            ·show Act.put _ (some 7) _ = _
             simp only [Act.put, List.setIfInBounds_toArray, List.set_cons_zero, List.set_cons_succ, i64_w, i32_w]
             rfl
            refine one_ (i := 15) (N := some 44) #[true, true, true, true, true, true, true, true, true, true, true, true, true, true, true, true, false, true, false] rfl rfl (one_of HT_.out (by kernel_rfl)) (by decide) (fun K hK => ?_)
            refine goes_ Tryd.func69 (by kernel_rfl) rfl #[.int .i64 a1_0, .int .u64 (IntKind.u64.wrap (Int.tdiv (IntKind.u64.wrap (a0_1)) t192))] (by rfl) rfl rfl aq ?_
            with_reducible refine (frac_times.calls a1_0 (IntKind.u64.wrap (Int.tdiv (IntKind.u64.wrap (a0_1)) t192)) t196 t197 t198 _ A28.out).mono ?_
            rintro e w96 ⟨rfl, hb⟩
            refine ⟨_, rfl, ?_⟩
            have n0_ := bb BK187 hb
            have n1_ := bb BK188 hb
            have n2_ := bb BK189 hb
            have n3_ := bb BK202 hb
            have n4_ := Aside0.mk (below_step (hq HB) hb)
            clear BK187
            clear BK188
            clear BK189
            clear BK202
            clear HB
            have BK187 := n0_
            have BK188 := n1_
            have BK189 := n2_
            have BK202 := n3_
            have HB := n4_
            clear n0_ n1_ n2_ n3_ n4_
            (try clear hb)
            (try clear hb2)
            (try clear hk)
            (try clear hi)
            refine hK.out _ _ ⟨(blk_cell BK187.out 0).trans rfl, (blk_cell BK187.out 1).trans rfl, (blk_cell BK188.out 0).trans rfl, (blk_cell BK188.out 1).trans rfl⟩ (fun hHeld => ?_)
            clear hK K
            refine norm_ (a' := ?_) ?_ ?_
            rotate_left
            ·show Act.put _ (some 44) _ = _
             simp only [Act.put, List.setIfInBounds_toArray, List.set_cons_zero, List.set_cons_succ, i64_w, i32_w]
             rfl
            refine one_ (i := 16) (N := some 45) #[true, true, true, true, true, true, true, true, true, true, true, true, true, true, true, true, true, true, false] rfl rfl (one_of HT_.out (by kernel_rfl)) (by decide) (fun K hK => ?_)
            refine goes_ Tryd.func70 (by kernel_rfl) rfl #[.agg #[.bool t193, .int .u64 t194, .int .u64 t195], .agg #[.bool t196, .int .u64 t197, .int .u64 t198]] (by rfl) rfl rfl aq ?_
            with_reducible refine (frac_long_plus.calls kj2 t193 t194 t195 t196 t197 t198 t199 t200 t201 _ A29.out).mono ?_
            rintro e w97 ⟨rfl, hb⟩
            refine ⟨_, rfl, ?_⟩
            have n0_ := bb BK187 hb
            have n1_ := bb BK188 hb
            have n2_ := bb BK189 hb
            have n3_ := bb BK202 hb
            have n4_ := Aside0.mk (below_step (hq HB) hb)
            clear BK187
            clear BK188
            clear BK189
            clear BK202
            clear HB
            have BK187 := n0_
            have BK188 := n1_
            have BK189 := n2_
            have BK202 := n3_
            have HB := n4_
            clear n0_ n1_ n2_ n3_ n4_
            (try clear hb)
            (try clear hb2)
            (try clear hk)
            (try clear hi)
            refine hK.out _ _ ⟨(blk_cell BK187.out 0).trans rfl, (blk_cell BK187.out 1).trans rfl, (blk_cell BK188.out 0).trans rfl, (blk_cell BK188.out 1).trans rfl⟩ (fun hHeld => ?_)
            clear hK K
            refine norm_ (a' := ?_) ?_ ?_
            rotate_left
            ·show Act.put _ (some 45) _ = _
             simp only [Act.put, List.setIfInBounds_toArray, List.set_cons_zero, List.set_cons_succ, i64_w, i32_w]
             rfl
            exact norm_ (by simp only [putAll, Act.put, List.setIfInBounds_toArray, List.set_cons_zero, List.set_cons_succ]) (hCont (gb202) _ ⟨hHeld, (bq BK187), (bq BK188), (bq BK189), (bq BK202), GW202.out, GE202.out, NB187_202.out, NB202_187.out, NB188_202.out, NB202_188.out, NB189_202.out, NB202_189.out, (hq HB)⟩)
          ·skip
           refine box_step ?hg (N := 7) ?hd (cs := #[.bool false, .int .u64 0, .int .u64 0]) (t := 91) ?hr ?_; (case hd => rfl); (case hg => rfl); (case hr => first | (go_simp; done) | (go_simp; rfl))
           intro gb202 hg w94 hbox hb
           have n0_ := bb BK187 hb
           have n1_ := bb BK188 hb
           have n2_ := bb BK189 hb
           have n3_ := Aside0.mk (below_step (hq HB) hb)
           have n4_ := Aside0.mk (hbox)
           have n5_ := Aside0.mk ((by rw [hg]; exact (below_size (hq HB)) : w.heap.size ≤ gb202))
           have n6_ := Aside0.mk ((by rw [hg]; exact (below_size (hq HB)) : w.heap.size ≤ gb202))
           have n7_ := nl BK187 hg
           have n8_ := ng BK187 hg
           have n9_ := nl BK188 hg
           have n10_ := ng BK188 hg
           have n11_ := nl BK189 hg
           have n12_ := ng BK189 hg
           clear BK187
           clear BK188
           clear BK189
           clear HB
           have BK187 := n0_
           have BK188 := n1_
           have BK189 := n2_
           have HB := n3_
           have BK202 := n4_
           have GW202 := n5_
           have GE202 := n6_
           have NB187_202 := n7_
           have NB202_187 := n8_
           have NB188_202 := n9_
           have NB202_188 := n10_
           have NB189_202 := n11_
           have NB202_189 := n12_
           clear n0_ n1_ n2_ n3_ n4_ n5_ n6_ n7_ n8_ n9_ n10_ n11_ n12_
           clear hb hbox hg
           refine hK.out _ _ ⟨(blk_cell BK187.out 0).trans rfl, (blk_cell BK187.out 1).trans rfl, (blk_cell BK188.out 0).trans rfl, (blk_cell BK188.out 1).trans rfl⟩ (fun hHeld => ?_)
           clear hK K
           refine norm_ (a' := ?_) ?_ ?_
           rotate_left
           ·show Act.put _ (some 7) _ = _
            simp only [Act.put, List.setIfInBounds_toArray, List.set_cons_zero, List.set_cons_succ, i64_w, i32_w]
            rfl
           refine one_ (i := 7) (N := some 36) #[true, true, true, true, true, true, true, true, true, true, true, true, true, true, true, false, false, true, false] rfl rfl (one_of HT_.out (by kernel_rfl)) (by decide) (fun K hK => ?_)
           refine goes_ Tryd.func69 (by kernel_rfl) rfl #[.int .i64 a0_0, .int .u64 (IntKind.u64.wrap (Int.tdiv (IntKind.u64.wrap (a1_1)) t192))] (by rfl) rfl rfl aq ?_
           with_reducible refine (frac_times.calls a0_0 (IntKind.u64.wrap (Int.tdiv (IntKind.u64.wrap (a1_1)) t192)) t193 t194 t195 _ A27.out).mono ?_
           rintro e w95 ⟨rfl, hb⟩
           refine ⟨_, rfl, ?_⟩
           have n0_ := bb BK187 hb
           have n1_ := bb BK188 hb
           have n2_ := bb BK189 hb
           have n3_ := bb BK202 hb
           have n4_ := Aside0.mk (below_step (hq HB) hb)
           clear BK187
           clear BK188
           clear BK189
           clear BK202
           clear HB
           have BK187 := n0_
           have BK188 := n1_
           have BK189 := n2_
           have BK202 := n3_
           have HB := n4_
           clear n0_ n1_ n2_ n3_ n4_
           (try clear hb)
           (try clear hb2)
           (try clear hk)
           (try clear hi)
           refine hK.out _ _ ⟨(blk_cell BK187.out 0).trans rfl, (blk_cell BK187.out 1).trans rfl, (blk_cell BK188.out 0).trans rfl, (blk_cell BK188.out 1).trans rfl⟩ (fun hHeld => ?_)
           clear hK K
           refine norm_ (a' := ?_) ?_ ?_
           rotate_left
           ·show Act.put _ (some 36) _ = _
            simp only [Act.put, List.setIfInBounds_toArray, List.set_cons_zero, List.set_cons_succ, i64_w, i32_w]
            rfl
           refine one_ (i := 15) (N := some 44) #[true, true, true, true, true, true, true, true, true, true, true, true, true, true, true, true, false, true, false] rfl rfl (one_of HT_.out (by kernel_rfl)) (by decide) (fun K hK => ?_)
           refine goes_ Tryd.func69 (by kernel_rfl) rfl #[.int .i64 a1_0, .int .u64 (IntKind.u64.wrap (Int.tdiv (IntKind.u64.wrap (a0_1)) t192))] (by rfl) rfl rfl aq ?_
           with_reducible refine (frac_times.calls a1_0 (IntKind.u64.wrap (Int.tdiv (IntKind.u64.wrap (a0_1)) t192)) t196 t197 t198 _ A28.out).mono ?_
           rintro e w96 ⟨rfl, hb⟩
           refine ⟨_, rfl, ?_⟩
           have n0_ := bb BK187 hb
           have n1_ := bb BK188 hb
           have n2_ := bb BK189 hb
           have n3_ := bb BK202 hb
           have n4_ := Aside0.mk (below_step (hq HB) hb)
           clear BK187
           clear BK188
           clear BK189
           clear BK202
           clear HB
           have BK187 := n0_
           have BK188 := n1_
           have BK189 := n2_
           have BK202 := n3_
           have HB := n4_
           clear n0_ n1_ n2_ n3_ n4_
           (try clear hb)
           (try clear hb2)
           (try clear hk)
           (try clear hi)
           refine hK.out _ _ ⟨(blk_cell BK187.out 0).trans rfl, (blk_cell BK187.out 1).trans rfl, (blk_cell BK188.out 0).trans rfl, (blk_cell BK188.out 1).trans rfl⟩ (fun hHeld => ?_)
           clear hK K
           refine norm_ (a' := ?_) ?_ ?_
           rotate_left
           ·show Act.put _ (some 44) _ = _
            simp only [Act.put, List.setIfInBounds_toArray, List.set_cons_zero, List.set_cons_succ, i64_w, i32_w]
            rfl
           refine one_ (i := 16) (N := some 45) #[true, true, true, true, true, true, true, true, true, true, true, true, true, true, true, true, true, true, false] rfl rfl (one_of HT_.out (by kernel_rfl)) (by decide) (fun K hK => ?_)
           refine goes_ Tryd.func70 (by kernel_rfl) rfl #[.agg #[.bool t193, .int .u64 t194, .int .u64 t195], .agg #[.bool t196, .int .u64 t197, .int .u64 t198]] (by rfl) rfl rfl aq ?_
           with_reducible refine (frac_long_plus.calls kj2 t193 t194 t195 t196 t197 t198 t199 t200 t201 _ A29.out).mono ?_
           rintro e w97 ⟨rfl, hb⟩
           refine ⟨_, rfl, ?_⟩
           have n0_ := bb BK187 hb
           have n1_ := bb BK188 hb
           have n2_ := bb BK189 hb
           have n3_ := bb BK202 hb
           have n4_ := Aside0.mk (below_step (hq HB) hb)
           clear BK187
           clear BK188
           clear BK189
           clear BK202
           clear HB
           have BK187 := n0_
           have BK188 := n1_
           have BK189 := n2_
           have BK202 := n3_
           have HB := n4_
           clear n0_ n1_ n2_ n3_ n4_
           (try clear hb)
           (try clear hb2)
           (try clear hk)
           (try clear hi)
           refine hK.out _ _ ⟨(blk_cell BK187.out 0).trans rfl, (blk_cell BK187.out 1).trans rfl, (blk_cell BK188.out 0).trans rfl, (blk_cell BK188.out 1).trans rfl⟩ (fun hHeld => ?_)
           clear hK K
           refine norm_ (a' := ?_) ?_ ?_
           rotate_left
           ·show Act.put _ (some 45) _ = _
            simp only [Act.put, List.setIfInBounds_toArray, List.set_cons_zero, List.set_cons_succ, i64_w, i32_w]
            rfl
           exact norm_ (by simp only [putAll, Act.put, List.setIfInBounds_toArray, List.set_cons_zero, List.set_cons_succ]) (hCont (gb202) _ ⟨hHeld, (bq BK187), (bq BK188), (bq BK189), (bq BK202), GW202.out, GE202.out, NB187_202.out, NB202_187.out, NB188_202.out, NB202_188.out, NB189_202.out, NB202_189.out, (hq HB)⟩)
         rintro gb202 w98 ⟨hS_, h0_, h1_, h2_, h3_, h4_, h5_, h6_, h7_, h8_, h9_, h10_, h11_, h12_⟩
         have n0_ : Aside0 (w98.heap[gb187]? = some (.cells #[.int .i64 a0_0, .int .i64 a0_1] 24 (0, 0))) := ⟨h0_⟩
         have n1_ : Aside0 (w98.heap[gb188]? = some (.cells #[.int .i64 a1_0, .int .i64 a1_1] 24 (0, 0))) := ⟨h1_⟩
         have n2_ : Aside0 (w98.heap[gb189]? = some (.cells #[.int .i64 0, .int .i64 0] 24 (0, 0))) := ⟨h2_⟩
         have n3_ : Aside0 (w98.heap[gb202]? = some (.cells #[.bool false, .int .u64 0, .int .u64 0] 91 (0, 0))) := ⟨h3_⟩
         have n4_ : Aside0 (w.heap.size ≤ gb202) := ⟨h4_⟩
         have n5_ : Aside0 (w.heap.size ≤ gb202) := ⟨h5_⟩
         have n6_ : Aside0 (gb187 ≠ gb202) := ⟨h6_⟩
         have n7_ : Aside0 (gb202 ≠ gb187) := ⟨h7_⟩
         have n8_ : Aside0 (gb188 ≠ gb202) := ⟨h8_⟩
         have n9_ : Aside0 (gb202 ≠ gb188) := ⟨h9_⟩
         have n10_ : Aside0 (gb189 ≠ gb202) := ⟨h10_⟩
         have n11_ : Aside0 (gb202 ≠ gb189) := ⟨h11_⟩
         have n12_ : Aside0 (Below w.heap.size w w98) := ⟨h12_⟩
         clear BK187
         clear BK188
         clear BK189
         clear HB
         clear h0_ h1_ h2_ h3_ h4_ h5_ h6_ h7_ h8_ h9_ h10_ h11_ h12_
         have BK187 := n0_
         have BK188 := n1_
         have BK189 := n2_
         have BK202 := n3_
         have GW202 := n4_
         have GE202 := n5_
         have NB187_202 := n6_
         have NB202_187 := n7_
         have NB188_202 := n8_
         have NB202_188 := n9_
         have NB189_202 := n10_
         have NB202_189 := n11_
         have HB := n12_
         clear n0_ n1_ n2_ n3_ n4_ n5_ n6_ n7_ n8_ n9_ n10_ n11_ n12_
         have hHeld : w98.cell? ⟨gb187, 0, none⟩ = some (.int .i64 a0_0) ∧ w98.cell? ⟨gb187, 1, none⟩ = some (.int .i64 a0_1) ∧ w98.cell? ⟨gb188, 0, none⟩ = some (.int .i64 a1_0) ∧ w98.cell? ⟨gb188, 1, none⟩ = some (.int .i64 a1_1) := hS_
         refine norm_ (a' := ?_) ?_ ?_
         rotate_left
         ·simp only [putAll, Act.put, List.setIfInBounds_toArray, List.set_cons_zero, List.set_cons_succ]
          rfl
         refine one_ (i := 18) (N := none) #[true, true, true, true, true, true, true, true, true, true, true, true, true, true, true, true, true, true, true] rfl rfl (one_of HT_.out (by kernel_rfl)) (by decide) (fun K hK => ?_)
         have hs99 : w98.cell? ⟨gb202, 0, none⟩ = some (.bool false) := (blk_cell BK202.out 0).trans rfl
         have hfs99 := blk_frozen BK202.out 0
         have hns99_0 := NB187_202.out
         have hns99_1 := NB188_202.out
         have hns99_2 := NB189_202.out
         have hms99_0 := NB202_187.out
         have hms99_1 := NB202_188.out
         have hms99_2 := NB202_189.out
         have hs100 : w98.cell? ⟨gb202, 1, none⟩ = some (.int .u64 0) := (blk_cell BK202.out 1).trans rfl
         have hfs100 := blk_frozen BK202.out 1
         have hns100_0 := NB187_202.out
         have hns100_1 := NB188_202.out
         have hns100_2 := NB189_202.out
         have hms100_0 := NB202_187.out
         have hms100_1 := NB202_188.out
         have hms100_2 := NB202_189.out
         have hs101 : w98.cell? ⟨gb202, 2, none⟩ = some (.int .u64 0) := (blk_cell BK202.out 2).trans rfl
         have hfs101 := blk_frozen BK202.out 2
         have hns101_0 := NB187_202.out
         have hns101_1 := NB188_202.out
         have hns101_2 := NB189_202.out
         have hms101_0 := NB202_187.out
         have hms101_1 := NB202_188.out
         have hms101_2 := NB202_189.out
         refine skip_ (w1 := ?_) (by rfl) rfl ?_ ?_
         rotate_left
         ·go_simp
          rfl
         refine hK.out _ _ ⟨((cell_far (p := ⟨gb202, _, none⟩) NB187_202.out _).trans (((cell_far (p := ⟨gb202, _, none⟩) NB187_202.out _).trans (((cell_far (p := ⟨gb202, _, none⟩) NB187_202.out _).trans (hHeld.1)))))), ((cell_far (p := ⟨gb202, _, none⟩) NB187_202.out _).trans (((cell_far (p := ⟨gb202, _, none⟩) NB187_202.out _).trans (((cell_far (p := ⟨gb202, _, none⟩) NB187_202.out _).trans (hHeld.2.1)))))), ((cell_far (p := ⟨gb202, _, none⟩) NB188_202.out _).trans (((cell_far (p := ⟨gb202, _, none⟩) NB188_202.out _).trans (((cell_far (p := ⟨gb202, _, none⟩) NB188_202.out _).trans (hHeld.2.2.1)))))), ((cell_far (p := ⟨gb202, _, none⟩) NB188_202.out _).trans (((cell_far (p := ⟨gb202, _, none⟩) NB188_202.out _).trans (((cell_far (p := ⟨gb202, _, none⟩) NB188_202.out _).trans (hHeld.2.2.2))))))⟩ (fun hHeld => ?_)
         clear hK K
         refine done_ (done_of HT_.out (by kernel_rfl)) ?_
         have hnb102 := NB202_187.out
         have hnc102 := NB187_202.out
         have hnb103 := NB202_188.out
         have hnc103 := NB188_202.out
         have hnb104 := NB202_189.out
         have hnc104 := NB189_202.out
         have hcz105_0 : w98.cell? ⟨gb202, 0, none⟩ = some (.bool false) := (blk_cell BK202.out 0).trans rfl
         have hcz105_1 : w98.cell? ⟨gb202, 1, none⟩ = some (.int .u64 0) := (blk_cell BK202.out 1).trans rfl
         have hcz105_2 : w98.cell? ⟨gb202, 2, none⟩ = some (.int .u64 0) := (blk_cell BK202.out 2).trans rfl
         have hfz105_0 := blk_frozen BK202.out 0
         have hfz105_1 := blk_frozen BK202.out 1
         have hfz105_2 := blk_frozen BK202.out 2
         try go_wp2_with (first | ((with_reducible refine gate_callee (f := 71) rfl ?_); refine goesL_ (some 55) rfl rfl Tryd.func71 (by kernel_rfl) rfl #[.int .u64 t200, .int .u64 t201, .int .u64 t192] rfl aq ?_; (with_reducible refine (bits_Rem64.calls kj2 t200 t201 t192 t203 _ A51.out).mono ?_); rintro e w106 ⟨rfl, hb⟩; refine ⟨_, rfl, ?_⟩; have n0_ := Aside0.mk (blk_below (g := gb187) (o := .cells #[.int .i64 a0_0, .int .i64 a0_1] 24 (0, 0)) (by (with_reducible repeat (first | refine bN ?_ _ | refine bd ?_ | refine ba ?_ _)); refine blk_far ?_ NB187_202.out _; (with_reducible repeat (first | refine bN ?_ _ | refine bd ?_ | refine ba ?_ _)); refine blk_far ?_ NB187_202.out _; (with_reducible repeat (first | refine bN ?_ _ | refine bd ?_ | refine ba ?_ _)); refine blk_far ?_ NB187_202.out _; (with_reducible repeat (first | refine bN ?_ _ | refine bd ?_ | refine ba ?_ _)); exact BK187.out) hb); have n1_ := Aside0.mk (blk_below (g := gb188) (o := .cells #[.int .i64 a1_0, .int .i64 a1_1] 24 (0, 0)) (by (with_reducible repeat (first | refine bN ?_ _ | refine bd ?_ | refine ba ?_ _)); refine blk_far ?_ NB188_202.out _; (with_reducible repeat (first | refine bN ?_ _ | refine bd ?_ | refine ba ?_ _)); refine blk_far ?_ NB188_202.out _; (with_reducible repeat (first | refine bN ?_ _ | refine bd ?_ | refine ba ?_ _)); refine blk_far ?_ NB188_202.out _; (with_reducible repeat (first | refine bN ?_ _ | refine bd ?_ | refine ba ?_ _)); exact BK188.out) hb); have n2_ := Aside0.mk (blk_below (g := gb189) (o := .cells #[.int .i64 0, .int .i64 0] 24 (0, 0)) (by (with_reducible repeat (first | refine bN ?_ _ | refine bd ?_ | refine ba ?_ _)); refine blk_far ?_ NB189_202.out _; (with_reducible repeat (first | refine bN ?_ _ | refine bd ?_ | refine ba ?_ _)); refine blk_far ?_ NB189_202.out _; (with_reducible repeat (first | refine bN ?_ _ | refine bd ?_ | refine ba ?_ _)); refine blk_far ?_ NB189_202.out _; (with_reducible repeat (first | refine bN ?_ _ | refine bd ?_ | refine ba ?_ _)); exact BK189.out) hb); have n3_ := Aside0.mk (blk_below (g := gb202) (o := .cells #[.bool t199, .int .u64 t200, .int .u64 t201] 91 (0, 0)) (by (with_reducible repeat (first | refine bN ?_ _ | refine bd ?_ | refine ba ?_ _)); refine blk_put (cs := #[.bool t199, .int .u64 t200, .int .u64 0]) ?_ 2 _ rfl; (with_reducible repeat (first | refine bN ?_ _ | refine bd ?_ | refine ba ?_ _)); refine blk_put (cs := #[.bool t199, .int .u64 0, .int .u64 0]) ?_ 1 _ rfl; (with_reducible repeat (first | refine bN ?_ _ | refine bd ?_ | refine ba ?_ _)); refine blk_put (cs := #[.bool false, .int .u64 0, .int .u64 0]) ?_ 0 _ rfl; (with_reducible repeat (first | refine bN ?_ _ | refine bd ?_ | refine ba ?_ _)); exact BK202.out) hb); have n4_ := Aside0.mk (below_step (hq HB) hb); clear BK187; clear BK188; clear BK189; clear BK202; clear HB; have BK187 := n0_; have BK188 := n1_; have BK189 := n2_; have BK202 := n3_; have HB := n4_; clear n0_ n1_ n2_ n3_ n4_; (try clear hb); (try clear hb2); (try clear hk); (try clear hi)) | ((with_reducible refine gate_callee (f := 56) rfl ?_); refine goesL_ (some 57) rfl rfl Tryd.func56 (by kernel_rfl) rfl #[.int .u64 t203, .int .u64 t192] rfl aq ?_; (with_reducible refine (frac_gcd_uint64.calls kj2 t203 t192 t204 _ A52.out).mono ?_); rintro e w107 ⟨rfl, hb⟩; refine ⟨_, rfl, ?_⟩; have n0_ := bb BK187 hb; have n1_ := bb BK188 hb; have n2_ := bb BK189 hb; have n3_ := bb BK202 hb; have n4_ := Aside0.mk (below_step (hq HB) hb); clear BK187; clear BK188; clear BK189; clear BK202; clear HB; have BK187 := n0_; have BK188 := n1_; have BK189 := n2_; have BK202 := n3_; have HB := n4_; clear n0_ n1_ n2_ n3_ n4_; (try clear hb); (try clear hb2); (try clear hk); (try clear hi); have hcz108_0 : w107.cell? ⟨gb202, 0, none⟩ = some (.bool t199) := (blk_cell BK202.out 0).trans rfl; have hcz108_1 : w107.cell? ⟨gb202, 1, none⟩ = some (.int .u64 t200) := (blk_cell BK202.out 1).trans rfl; have hcz108_2 : w107.cell? ⟨gb202, 2, none⟩ = some (.int .u64 t201) := (blk_cell BK202.out 2).trans rfl; have hfz108_0 := blk_frozen BK202.out 0; have hfz108_1 := blk_frozen BK202.out 1; have hfz108_2 := blk_frozen BK202.out 2) | ((with_reducible refine gate_callee (f := 72) rfl ?_); refine goesL_ (some 61) rfl rfl Tryd.func72 (by kernel_rfl) rfl #[.agg #[.bool t199, .int .u64 t200, .int .u64 t201], .int .u64 t204] rfl aq ?_; (with_reducible refine (frac_long_over.calls kj2 t199 t200 t201 t204 t205 true _ A53.out).mono ?_); rintro e w109 ⟨rfl, hb⟩; refine ⟨_, rfl, ?_⟩; have n0_ := bb BK187 hb; have n1_ := bb BK188 hb; have n2_ := bb BK189 hb; have n3_ := bb BK202 hb; have n4_ := Aside0.mk (below_step (hq HB) hb); clear BK187; clear BK188; clear BK189; clear BK202; clear HB; have BK187 := n0_; have BK188 := n1_; have BK189 := n2_; have BK202 := n3_; have HB := n4_; clear n0_ n1_ n2_ n3_ n4_; (try clear hb); (try clear hb2); (try clear hk); (try clear hi)))
         have n0_ := Aside0.mk (blk_drew BK187.out)
         have n1_ := Aside0.mk (blk_drew BK188.out)
         have n2_ := Aside0.mk (blk_drew BK189.out)
         have n3_ := Aside0.mk (blk_drew BK202.out)
         have n4_ := Aside0.mk (below_drew1 HB.out)
         clear BK187
         clear BK188
         clear BK189
         clear BK202
         clear HB
         have BK187 := n0_
         have BK188 := n1_
         have BK189 := n2_
         have BK202 := n3_
         have HB := n4_
         clear n0_ n1_ n2_ n3_ n4_
         refine start_ (n := 16) (S := fun w' => w'.cell? ⟨gb187, 0, none⟩ = some (.int .i64 a0_0) ∧ w'.cell? ⟨gb187, 1, none⟩ = some (.int .i64 a0_1) ∧ w'.cell? ⟨gb188, 0, none⟩ = some (.int .i64 a1_0) ∧ w'.cell? ⟨gb188, 1, none⟩ = some (.int .i64 a1_1)) (ds := []) #[false, false, false, false, false, false, false, false, false, false, false, false, false, false, false, false] (by kernel_rfl) rfl rfl ⟨(blk_cell BK187.out 0).trans rfl, (blk_cell BK187.out 1).trans rfl, (blk_cell BK188.out 0).trans rfl, (blk_cell BK188.out 1).trans rfl⟩ (fun hHeld => ?_); refine with_tabW frac_Add.tab9 frac_Add.bits9 (fun HT_ HW_ => ?_)
         generalize w109.drew = w110 at BK187 BK188 BK189 BK202 HB hHeld ⊢
         refine pure_ (i := 0) (N := some 65) (v := ?_) (a' := ?_) #[true, false, false, false, false, false, false, false, false, false, false, false, false, false, false, false] rfl rfl (any_of HT_.out (by kernel_rfl)) (fun _ _ _ h => h) (Or.inl ⟨by rfl, ?_⟩) ?_ ?_
         rotate_left
         ·intro w'
          go_simp
          with_reducible rfl
         rotate_left
         ·simp only [Act.put, List.setIfInBounds_toArray, List.set_cons_zero, List.set_cons_succ, i64_w, i32_w]
          rfl
         refine pure_ (i := 3) (N := some 68) (v := ?_) (a' := ?_) #[true, false, false, true, false, false, false, false, false, false, false, false, false, false, false, false] rfl rfl (any_of HT_.out (by kernel_rfl)) (fun _ _ _ h => h) (Or.inl ⟨by rfl, ?_⟩) ?_ ?_
         rotate_left
         ·intro w'
          go_simp
          with_reducible rfl
         rotate_left
         ·simp only [Act.put, List.setIfInBounds_toArray, List.set_cons_zero, List.set_cons_succ, i64_w, i32_w]
          rfl
         refine pure_ (i := 5) (N := some 70) (v := ?_) (a' := ?_) #[true, false, false, true, false, true, false, false, false, false, false, false, false, false, false, false] rfl rfl (any_of HT_.out (by kernel_rfl)) (fun _ _ _ h => h) (Or.inl ⟨by rfl, ?_⟩) ?_ ?_
         rotate_left
         ·intro w'
          go_simp
          with_reducible rfl
         rotate_left
         ·simp only [Act.put, List.setIfInBounds_toArray, List.set_cons_zero, List.set_cons_succ, i64_w, i32_w]
          rfl
         refine pure_ (i := 8) (N := some 73) (v := ?_) (a' := ?_) #[true, false, false, true, false, true, false, false, true, false, false, false, false, false, false, false] rfl rfl (any_of HT_.out (by kernel_rfl)) (fun _ _ _ h => h) (Or.inl ⟨by rfl, ?_⟩) ?_ ?_
         rotate_left
         ·intro w'
          go_simp
          with_reducible rfl
         rotate_left
         ·simp only [Act.put, List.setIfInBounds_toArray, List.set_cons_zero, List.set_cons_succ, i64_w, i32_w]
          rfl
         refine take_ (i := 1) (N := some 66) (v := ?_) (a' := ?_) #[true, true, false, true, false, true, false, false, true, false, false, false, false, false, false, false] rfl rfl (take_ofW HT_.out HW_.out (by kernel_rfl)) (fun _ _ _ h => h) (Or.inl ⟨by rfl, ?_⟩) hHeld ?_ ?_
         rotate_left
         ·rintro w' ⟨s0, s1, s2, s3⟩
          go_simp
          with_reducible rfl
         rotate_left
         ·simp only [Act.put, List.setIfInBounds_toArray, List.set_cons_zero, List.set_cons_succ, i64_w, i32_w]
          rfl
         refine pure_ (i := 2) (N := some 67) (v := ?_) (a' := ?_) #[true, true, true, true, false, true, false, false, true, false, false, false, false, false, false, false] rfl rfl (any_of HT_.out (by kernel_rfl)) (fun _ _ _ h => h) (Or.inl ⟨by rfl, ?_⟩) ?_ ?_
         rotate_left
         ·intro w'
          go_simp
          with_reducible rfl
         rotate_left
         ·simp only [Act.put, List.setIfInBounds_toArray, List.set_cons_zero, List.set_cons_succ, i64_w, i32_w]
          rfl
         refine pure_ (i := 4) (N := some 69) (v := ?_) (a' := ?_) #[true, true, true, true, true, true, false, false, true, false, false, false, false, false, false, false] rfl rfl (any_of HT_.out (by kernel_rfl)) (fun _ _ _ h => h) (Or.inl ⟨by rfl, ?_⟩) ?_ ?_
         rotate_left
         ·intro w'
          go_simp
          with_reducible rfl
         rotate_left
         ·simp only [Act.put, List.setIfInBounds_toArray, List.set_cons_zero, List.set_cons_succ, i64_w, i32_w]
          rfl
         refine take_ (i := 6) (N := some 71) (v := ?_) (a' := ?_) #[true, true, true, true, true, true, true, false, true, false, false, false, false, false, false, false] rfl rfl (take_ofW HT_.out HW_.out (by kernel_rfl)) (fun _ _ _ h => h) (Or.inl ⟨by rfl, ?_⟩) hHeld ?_ ?_
         rotate_left
         ·rintro w' ⟨s0, s1, s2, s3⟩
          go_simp
          with_reducible rfl
         rotate_left
         ·simp only [Act.put, List.setIfInBounds_toArray, List.set_cons_zero, List.set_cons_succ, i64_w, i32_w]
          rfl
         refine pure_ (i := 7) (N := some 72) (v := ?_) (a' := ?_) #[true, true, true, true, true, true, true, true, true, false, false, false, false, false, false, false] rfl rfl (any_of HT_.out (by kernel_rfl)) (fun _ _ _ h => h) (Or.inl ⟨by rfl, ?_⟩) ?_ ?_
         rotate_left
         ·intro w'
          go_simp
          with_reducible rfl
         rotate_left
         ·simp only [Act.put, List.setIfInBounds_toArray, List.set_cons_zero, List.set_cons_succ, i64_w, i32_w]
          rfl
         refine pure_ (i := 9) (N := some 74) (v := ?_) (a' := ?_) #[true, true, true, true, true, true, true, true, true, true, false, false, false, false, false, false] rfl rfl (any_of HT_.out (by kernel_rfl)) (fun _ _ _ h => h) (Or.inl ⟨by rfl, ?_⟩) ?_ ?_
         rotate_left
         ·intro w'
          go_simp
          with_reducible rfl
         rotate_left
         ·simp only [Act.put, List.setIfInBounds_toArray, List.set_cons_zero, List.set_cons_succ, i64_w, i32_w]
          rfl
         refine one_ (i := 10) (N := some 75) #[true, true, true, true, true, true, true, true, true, true, true, false, false, false, false, false] rfl rfl (one_of HT_.out (by kernel_rfl)) (by decide) (fun K hK => ?_)
         refine goes_ Tryd.func61 (by kernel_rfl) rfl #[.int .u64 (IntKind.u64.wrap (Int.tdiv (IntKind.u64.wrap (a0_1)) t192)), .int .u64 (IntKind.u64.wrap (Int.tdiv (IntKind.u64.wrap (a1_1)) t204))] (by rfl) rfl rfl aq ?_
         with_reducible refine (bits_Mul64.calls (IntKind.u64.wrap (Int.tdiv (IntKind.u64.wrap (a0_1)) t192)) (IntKind.u64.wrap (Int.tdiv (IntKind.u64.wrap (a1_1)) t204)) t207 t208 _ A55.out).mono ?_
         rintro e w111 ⟨rfl, hb⟩
         refine ⟨_, rfl, ?_⟩
         have n0_ := bb BK187 hb
         have n1_ := bb BK188 hb
         have n2_ := bb BK189 hb
         have n3_ := bb BK202 hb
         have n4_ := Aside0.mk (below_step (hq HB) hb)
         clear BK187
         clear BK188
         clear BK189
         clear BK202
         clear HB
         have BK187 := n0_
         have BK188 := n1_
         have BK189 := n2_
         have BK202 := n3_
         have HB := n4_
         clear n0_ n1_ n2_ n3_ n4_
         (try clear hb)
         (try clear hb2)
         (try clear hk)
         (try clear hi)
         refine hK.out _ _ ⟨(blk_cell BK187.out 0).trans rfl, (blk_cell BK187.out 1).trans rfl, (blk_cell BK188.out 0).trans rfl, (blk_cell BK188.out 1).trans rfl⟩ (fun hHeld => ?_)
         clear hK K
         refine norm_ (a' := ?_) ?_ ?_
         rotate_left
         ·show Act.put _ (some 75) _ = _
          simp only [Act.put, List.setIfInBounds_toArray, List.set_cons_zero, List.set_cons_succ, i64_w, i32_w]
          rfl
         refine pure_ (i := 11) (N := some 64) (v := ?_) (a' := ?_) #[true, true, true, true, true, true, true, true, true, true, true, true, false, false, false, false] rfl rfl (any_of HT_.out (by kernel_rfl)) (fun _ _ _ h => h) (Or.inl ⟨by rfl, ?_⟩) ?_ ?_
         rotate_left
         ·intro w'
          go_simp
          with_reducible rfl
         rotate_left
         ·simp only [Act.put, List.setIfInBounds_toArray, List.set_cons_zero, List.set_cons_succ, i64_w, i32_w]
          rfl
         refine pure_ (i := 12) (N := some 76) (v := ?_) (a' := ?_) #[true, true, true, true, true, true, true, true, true, true, true, true, true, false, false, false] rfl rfl (any_of HT_.out (by kernel_rfl)) (fun _ _ _ h => h) (Or.inl ⟨by rfl, ?_⟩) ?_ ?_
         rotate_left
         ·intro w'
          go_simp
          with_reducible rfl
         rotate_left
         ·simp only [Act.put, List.setIfInBounds_toArray, List.set_cons_zero, List.set_cons_succ, i64_w, i32_w]
          rfl
         refine pure_ (i := 13) (N := some 77) (v := ?_) (a' := ?_) #[true, true, true, true, true, true, true, true, true, true, true, true, true, true, false, false] rfl rfl (any_of HT_.out (by kernel_rfl)) (fun _ _ _ h => h) (Or.inl ⟨by rfl, ?_⟩) ?_ ?_
         rotate_left
         ·intro w'
          go_simp
          with_reducible rfl
         rotate_left
         ·simp only [Act.put, List.setIfInBounds_toArray, List.set_cons_zero, List.set_cons_succ, i64_w, i32_w]
          rfl
         refine pure_ (i := 14) (N := some 11) (v := ?_) (a' := ?_) #[true, true, true, true, true, true, true, true, true, true, true, true, true, true, true, false] rfl rfl (any_of HT_.out (by kernel_rfl)) (fun _ _ _ h => h) (Or.inl ⟨by rfl, ?_⟩) ?_ ?_
         rotate_left
         ·intro w'
          go_simp
          with_reducible rfl
         rotate_left
         ·simp only [Act.put, List.setIfInBounds_toArray, List.set_cons_zero, List.set_cons_succ, i64_w, i32_w]
          rfl
         refine pure_ (i := 15) (N := some 12) (v := ?_) (a' := ?_) #[true, true, true, true, true, true, true, true, true, true, true, true, true, true, true, true] rfl rfl (any_of HT_.out (by kernel_rfl)) (fun _ _ _ h => h) (Or.inl ⟨by rfl, ?_⟩) ?_ ?_
         rotate_left
         ·intro w'
          go_simp
          with_reducible rfl
         rotate_left
         ·simp only [Act.put, List.setIfInBounds_toArray, List.set_cons_zero, List.set_cons_succ, i64_w, i32_w]
          rfl
         refine done_ (done_of HT_.out (by kernel_rfl)) ?_
         have hcz112_0 : w111.cell? ⟨gb189, 0, none⟩ = some (.int .i64 0) := (blk_cell BK189.out 0).trans rfl
         have hcz112_1 : w111.cell? ⟨gb189, 1, none⟩ = some (.int .i64 0) := (blk_cell BK189.out 1).trans rfl
         have hfz112_0 := blk_frozen BK189.out 0
         have hfz112_1 := blk_frozen BK189.out 1
         try go_wp2
         refine bodyPost_ret (results_ct rfl _ _ gb189 24 #[.int .i64 0, .int .i64 0] (0, 0) _ rfl (by (with_reducible repeat (first | refine bN ?_ _ | refine bd ?_ | refine ba ?_ _)); refine blk_put (cs := #[.int .i64 0, .int .i64 0]) ?_ 1 _ rfl; (with_reducible repeat (first | refine bN ?_ _ | refine bd ?_ | refine ba ?_ _)); refine blk_put (cs := #[.int .i64 0, .int .i64 0]) ?_ 0 _ rfl; (with_reducible repeat (first | refine bN ?_ _ | refine bd ?_ | refine ba ?_ _)); exact BK189.out) Tryd.underlying24 rfl (by kernel_rfl)) rfl ?_
         exact ⟨by first | rfl | (simp [errW_none, errW_some] <;> rfl) | (simp [*, errW_none, errW_some] <;> rfl), by repeat (first | (with_reducible first | exact HB.out | apply below_alloc | apply pw_below_drewN | apply below_drew1 | refine below_set ?_ GE187.out | refine below_set ?_ GE188.out | refine below_set ?_ GE189.out | refine below_set ?_ GE202.out) | exact HB.out)⟩
       ·replace c56 := Bool.eq_false_iff.mpr c56
        subst c56
        have H1 : (some (0, 0, 5)) = some (r1, r2, r3) := by rw [if_neg (show ¬ (false = true) by decide)] at H; exact H
        clear H
        have H := H1
        clear H1
        simp only [Option.some.injEq, Prod.mk.injEq] at H
        obtain ⟨rfl, rfl, rfl⟩ := H
        have hnb113 := NB187_188.out
        have hnc113 := NB188_187.out
        have hnb114 := NB187_189.out
        have hnc114 := NB189_187.out
        have hcz115_0 : wc.cell? ⟨gb187, 0, none⟩ = some (.int .i64 a0_0) := (blk_cell BK187.out 0).trans rfl
        have hcz115_1 : wc.cell? ⟨gb187, 1, none⟩ = some (.int .i64 a0_1) := (blk_cell BK187.out 1).trans rfl
        have hfz115_0 := blk_frozen BK187.out 0
        have hfz115_1 := blk_frozen BK187.out 1
        have hnb116 := NB188_189.out
        have hnc116 := NB189_188.out
        have hcz117_0 : wc.cell? ⟨gb188, 0, none⟩ = some (.int .i64 a1_0) := (blk_cell BK188.out 0).trans rfl
        have hcz117_1 : wc.cell? ⟨gb188, 1, none⟩ = some (.int .i64 a1_1) := (blk_cell BK188.out 1).trans rfl
        have hfz117_0 := blk_frozen BK188.out 0
        have hfz117_1 := blk_frozen BK188.out 1
        try go_wp2_with (first | ((with_reducible refine gate_callee (f := 56) rfl ?_); refine goesL_ (some 28) rfl rfl Tryd.func56 (by kernel_rfl) rfl #[.int .u64 (IntKind.u64.wrap (a0_1)), .int .u64 (IntKind.u64.wrap (a1_1))] rfl aq ?_; (with_reducible refine (frac_gcd_uint64.calls kj2 (IntKind.u64.wrap (a0_1)) (IntKind.u64.wrap (a1_1)) t192 _ A25.out).mono ?_); rintro e w118 ⟨rfl, hb⟩; refine ⟨_, rfl, ?_⟩; have n0_ := bb BK187 hb; have n1_ := bb BK188 hb; have n2_ := bb BK189 hb; have n3_ := Aside0.mk (below_step (hq HB) hb); clear BK187; clear BK188; clear BK189; clear HB; have BK187 := n0_; have BK188 := n1_; have BK189 := n2_; have HB := n3_; clear n0_ n1_ n2_ n3_; (try clear hb); (try clear hb2); (try clear hk); (try clear hi)))
        have n0_ := Aside0.mk (blk_drew BK187.out)
        have n1_ := Aside0.mk (blk_drew BK188.out)
        have n2_ := Aside0.mk (blk_drew BK189.out)
        have n3_ := Aside0.mk (below_drew1 HB.out)
        clear BK187
        clear BK188
        clear BK189
        clear HB
        have BK187 := n0_
        have BK188 := n1_
        have BK189 := n2_
        have HB := n3_
        clear n0_ n1_ n2_ n3_
        refine start_ (n := 19) (S := fun w' => w'.cell? ⟨gb187, 0, none⟩ = some (.int .i64 a0_0) ∧ w'.cell? ⟨gb187, 1, none⟩ = some (.int .i64 a0_1) ∧ w'.cell? ⟨gb188, 0, none⟩ = some (.int .i64 a1_0) ∧ w'.cell? ⟨gb188, 1, none⟩ = some (.int .i64 a1_1)) (ds := []) #[false, false, false, false, false, false, false, false, false, false, false, false, false, false, false, false, false, false, false] (by kernel_rfl) rfl rfl ⟨(blk_cell BK187.out 0).trans rfl, (blk_cell BK187.out 1).trans rfl, (blk_cell BK188.out 0).trans rfl, (blk_cell BK188.out 1).trans rfl⟩ (fun hHeld => ?_); refine with_tabW frac_Add.tab4 frac_Add.bits4 (fun HT_ HW_ => ?_)
        generalize w118.drew = w119 at BK187 BK188 BK189 HB hHeld ⊢
        refine pure_ (i := 0) (N := some 29) (v := ?_) (a' := ?_) #[true, false, false, false, false, false, false, false, false, false, false, false, false, false, false, false, false, false, false] rfl rfl (any_of HT_.out (by kernel_rfl)) (fun _ _ _ h => h) (Or.inl ⟨by rfl, ?_⟩) ?_ ?_
        rotate_left
        ·intro w'
         go_simp
         with_reducible rfl
        rotate_left
        ·simp only [Act.put, List.setIfInBounds_toArray, List.set_cons_zero, List.set_cons_succ, i64_w, i32_w]
         rfl
        refine pure_ (i := 2) (N := some 31) (v := ?_) (a' := ?_) #[true, false, true, false, false, false, false, false, false, false, false, false, false, false, false, false, false, false, false] rfl rfl (any_of HT_.out (by kernel_rfl)) (fun _ _ _ h => h) (Or.inl ⟨by rfl, ?_⟩) ?_ ?_
        rotate_left
        ·intro w'
         go_simp
         with_reducible rfl
        rotate_left
        ·simp only [Act.put, List.setIfInBounds_toArray, List.set_cons_zero, List.set_cons_succ, i64_w, i32_w]
         rfl
        refine pure_ (i := 5) (N := some 34) (v := ?_) (a' := ?_) #[true, false, true, false, false, true, false, false, false, false, false, false, false, false, false, false, false, false, false] rfl rfl (any_of HT_.out (by kernel_rfl)) (fun _ _ _ h => h) (Or.inl ⟨by rfl, ?_⟩) ?_ ?_
        rotate_left
        ·intro w'
         go_simp
         with_reducible rfl
        rotate_left
        ·simp only [Act.put, List.setIfInBounds_toArray, List.set_cons_zero, List.set_cons_succ, i64_w, i32_w]
         rfl
        refine pure_ (i := 8) (N := some 37) (v := ?_) (a' := ?_) #[true, false, true, false, false, true, false, false, true, false, false, false, false, false, false, false, false, false, false] rfl rfl (any_of HT_.out (by kernel_rfl)) (fun _ _ _ h => h) (Or.inl ⟨by rfl, ?_⟩) ?_ ?_
        rotate_left
        ·intro w'
         go_simp
         with_reducible rfl
        rotate_left
        ·simp only [Act.put, List.setIfInBounds_toArray, List.set_cons_zero, List.set_cons_succ, i64_w, i32_w]
         rfl
        refine pure_ (i := 10) (N := some 39) (v := ?_) (a' := ?_) #[true, false, true, false, false, true, false, false, true, false, true, false, false, false, false, false, false, false, false] rfl rfl (any_of HT_.out (by kernel_rfl)) (fun _ _ _ h => h) (Or.inl ⟨by rfl, ?_⟩) ?_ ?_
        rotate_left
        ·intro w'
         go_simp
         with_reducible rfl
        rotate_left
        ·simp only [Act.put, List.setIfInBounds_toArray, List.set_cons_zero, List.set_cons_succ, i64_w, i32_w]
         rfl
        refine pure_ (i := 13) (N := some 42) (v := ?_) (a' := ?_) #[true, false, true, false, false, true, false, false, true, false, true, false, false, true, false, false, false, false, false] rfl rfl (any_of HT_.out (by kernel_rfl)) (fun _ _ _ h => h) (Or.inl ⟨by rfl, ?_⟩) ?_ ?_
        rotate_left
        ·intro w'
         go_simp
         with_reducible rfl
        rotate_left
        ·simp only [Act.put, List.setIfInBounds_toArray, List.set_cons_zero, List.set_cons_succ, i64_w, i32_w]
         rfl
        refine take_ (i := 1) (N := some 30) (v := ?_) (a' := ?_) #[true, true, true, false, false, true, false, false, true, false, true, false, false, true, false, false, false, false, false] rfl rfl (take_ofW HT_.out HW_.out (by kernel_rfl)) (fun _ _ _ h => h) (Or.inl ⟨by rfl, ?_⟩) hHeld ?_ ?_
        rotate_left
        ·rintro w' ⟨s0, s1, s2, s3⟩
         go_simp
         with_reducible rfl
        rotate_left
        ·simp only [Act.put, List.setIfInBounds_toArray, List.set_cons_zero, List.set_cons_succ, i64_w, i32_w]
         rfl
        refine take_ (i := 3) (N := some 32) (v := ?_) (a' := ?_) #[true, true, true, true, false, true, false, false, true, false, true, false, false, true, false, false, false, false, false] rfl rfl (take_ofW HT_.out HW_.out (by kernel_rfl)) (fun _ _ _ h => h) (Or.inl ⟨by rfl, ?_⟩) hHeld ?_ ?_
        rotate_left
        ·rintro w' ⟨s0, s1, s2, s3⟩
         go_simp
         with_reducible rfl
        rotate_left
        ·simp only [Act.put, List.setIfInBounds_toArray, List.set_cons_zero, List.set_cons_succ, i64_w, i32_w]
         rfl
        refine pure_ (i := 4) (N := some 33) (v := ?_) (a' := ?_) #[true, true, true, true, true, true, false, false, true, false, true, false, false, true, false, false, false, false, false] rfl rfl (any_of HT_.out (by kernel_rfl)) (fun _ _ _ h => h) (Or.inl ⟨by rfl, ?_⟩) ?_ ?_
        rotate_left
        ·intro w'
         go_simp
         with_reducible rfl
        rotate_left
        ·simp only [Act.put, List.setIfInBounds_toArray, List.set_cons_zero, List.set_cons_succ, i64_w, i32_w]
         rfl
        refine pure_ (i := 6) (N := some 35) (v := ?_) (a' := ?_) #[true, true, true, true, true, true, true, false, true, false, true, false, false, true, false, false, false, false, false] rfl rfl (any_of HT_.out (by kernel_rfl)) (fun _ _ _ h => h) (Or.inl ⟨by rfl, ?_⟩) ?_ ?_
        rotate_left
        ·intro w'
         go_simp
         with_reducible rfl
        rotate_left
        ·simp only [Act.put, List.setIfInBounds_toArray, List.set_cons_zero, List.set_cons_succ, i64_w, i32_w]
         rfl
        refine take_ (i := 9) (N := some 38) (v := ?_) (a' := ?_) #[true, true, true, true, true, true, true, false, true, true, true, false, false, true, false, false, false, false, false] rfl rfl (take_ofW HT_.out HW_.out (by kernel_rfl)) (fun _ _ _ h => h) (Or.inl ⟨by rfl, ?_⟩) hHeld ?_ ?_
        rotate_left
        ·rintro w' ⟨s0, s1, s2, s3⟩
         go_simp
         with_reducible rfl
        rotate_left
        ·simp only [Act.put, List.setIfInBounds_toArray, List.set_cons_zero, List.set_cons_succ, i64_w, i32_w]
         rfl
        refine take_ (i := 11) (N := some 40) (v := ?_) (a' := ?_) #[true, true, true, true, true, true, true, false, true, true, true, true, false, true, false, false, false, false, false] rfl rfl (take_ofW HT_.out HW_.out (by kernel_rfl)) (fun _ _ _ h => h) (Or.inl ⟨by rfl, ?_⟩) hHeld ?_ ?_
        rotate_left
        ·rintro w' ⟨s0, s1, s2, s3⟩
         go_simp
         with_reducible rfl
        rotate_left
        ·simp only [Act.put, List.setIfInBounds_toArray, List.set_cons_zero, List.set_cons_succ, i64_w, i32_w]
         rfl
        refine pure_ (i := 12) (N := some 41) (v := ?_) (a' := ?_) #[true, true, true, true, true, true, true, false, true, true, true, true, true, true, false, false, false, false, false] rfl rfl (any_of HT_.out (by kernel_rfl)) (fun _ _ _ h => h) (Or.inl ⟨by rfl, ?_⟩) ?_ ?_
        rotate_left
        ·intro w'
         go_simp
         with_reducible rfl
        rotate_left
        ·simp only [Act.put, List.setIfInBounds_toArray, List.set_cons_zero, List.set_cons_succ, i64_w, i32_w]
         rfl
        refine pure_ (i := 14) (N := some 43) (v := ?_) (a' := ?_) #[true, true, true, true, true, true, true, false, true, true, true, true, true, true, true, false, false, false, false] rfl rfl (any_of HT_.out (by kernel_rfl)) (fun _ _ _ h => h) (Or.inl ⟨by rfl, ?_⟩) ?_ ?_
        rotate_left
        ·intro w'
         go_simp
         with_reducible rfl
        rotate_left
        ·simp only [Act.put, List.setIfInBounds_toArray, List.set_cons_zero, List.set_cons_succ, i64_w, i32_w]
         rfl
        refine join_ (σ := Nat) 1 #[true, true, true, true, true, true, true, true, true, true, true, true, true, true, true, true, true, true, false] (fun s_ => [(36, .agg #[.bool t193, .int .u64 t194, .int .u64 t195]), (44, .agg #[.bool t196, .int .u64 t197, .int .u64 t198]), (45, .agg #[.bool t199, .int .u64 t200, .int .u64 t201]), (7, .pointer (some ⟨s_, 0, none⟩))]) (fun s_ w' => (w'.cell? ⟨gb187, 0, none⟩ = some (.int .i64 a0_0) ∧ w'.cell? ⟨gb187, 1, none⟩ = some (.int .i64 a0_1) ∧ w'.cell? ⟨gb188, 0, none⟩ = some (.int .i64 a1_0) ∧ w'.cell? ⟨gb188, 1, none⟩ = some (.int .i64 a1_1)) ∧ (w'.heap[gb187]? = some (.cells #[.int .i64 a0_0, .int .i64 a0_1] 24 (0, 0))) ∧ (w'.heap[gb188]? = some (.cells #[.int .i64 a1_0, .int .i64 a1_1] 24 (0, 0))) ∧ (w'.heap[gb189]? = some (.cells #[.int .i64 0, .int .i64 0] 24 (0, 0))) ∧ (w'.heap[s_]? = some (.cells #[.bool false, .int .u64 0, .int .u64 0] 91 (0, 0))) ∧ (w.heap.size ≤ s_) ∧ (w.heap.size ≤ s_) ∧ (gb187 ≠ s_) ∧ (s_ ≠ gb187) ∧ (gb188 ≠ s_) ∧ (s_ ≠ gb188) ∧ (gb189 ≠ s_) ∧ (s_ ≠ gb189) ∧ (Below w.heap.size w w')) ?_ ?_
        rotate_left
        ·intro hCont
         refine two_ (i := 7) (j := 17) (Ni := some 36) (Nj := some 7) #[true, true, true, true, true, true, true, true, true, true, true, true, true, true, true, false, false, false, false] #[true, true, true, true, true, true, true, false, true, true, true, true, true, true, true, false, false, true, false] rfl rfl rfl rfl (two_of HT_.out (by kernel_rfl)) (by decide) (by decide) (fun K hK => ?_) (fun K hK => ?_)
         ·skip
          refine goes_ Tryd.func69 (by kernel_rfl) rfl #[.int .i64 a0_0, .int .u64 (IntKind.u64.wrap (Int.tdiv (IntKind.u64.wrap (a1_1)) t192))] (by rfl) rfl rfl aq ?_
          with_reducible refine (frac_times.calls a0_0 (IntKind.u64.wrap (Int.tdiv (IntKind.u64.wrap (a1_1)) t192)) t193 t194 t195 _ A27.out).mono ?_
          rintro e w120 ⟨rfl, hb⟩
          refine ⟨_, rfl, ?_⟩
          have n0_ := bb BK187 hb
          have n1_ := bb BK188 hb
          have n2_ := bb BK189 hb
          have n3_ := Aside0.mk (below_step (hq HB) hb)
          clear BK187
          clear BK188
          clear BK189
          clear HB
          have BK187 := n0_
          have BK188 := n1_
          have BK189 := n2_
          have HB := n3_
          clear n0_ n1_ n2_ n3_
          (try clear hb)
          (try clear hb2)
          (try clear hk)
          (try clear hi)
          refine hK.out _ _ ⟨(blk_cell BK187.out 0).trans rfl, (blk_cell BK187.out 1).trans rfl, (blk_cell BK188.out 0).trans rfl, (blk_cell BK188.out 1).trans rfl⟩ (fun hHeld => ?_)
          clear hK K
          refine norm_ (a' := ?_) ?_ ?_
          rotate_left
          ·show Act.put _ (some 36) _ = _
           simp only [Act.put, List.setIfInBounds_toArray, List.set_cons_zero, List.set_cons_succ, i64_w, i32_w]
           rfl
          refine two_ (i := 15) (j := 17) (Ni := some 44) (Nj := some 7) #[true, true, true, true, true, true, true, true, true, true, true, true, true, true, true, true, false, false, false] #[true, true, true, true, true, true, true, true, true, true, true, true, true, true, true, false, false, true, false] rfl rfl rfl rfl (two_of HT_.out (by kernel_rfl)) (by decide) (by decide) (fun K hK => ?_) (fun K hK => ?_)
          ·skip
           refine goes_ Tryd.func69 (by kernel_rfl) rfl #[.int .i64 a1_0, .int .u64 (IntKind.u64.wrap (Int.tdiv (IntKind.u64.wrap (a0_1)) t192))] (by rfl) rfl rfl aq ?_
           with_reducible refine (frac_times.calls a1_0 (IntKind.u64.wrap (Int.tdiv (IntKind.u64.wrap (a0_1)) t192)) t196 t197 t198 _ A28.out).mono ?_
           rintro e w121 ⟨rfl, hb⟩
           refine ⟨_, rfl, ?_⟩
           have n0_ := bb BK187 hb
           have n1_ := bb BK188 hb
           have n2_ := bb BK189 hb
           have n3_ := Aside0.mk (below_step (hq HB) hb)
           clear BK187
           clear BK188
           clear BK189
           clear HB
           have BK187 := n0_
           have BK188 := n1_
           have BK189 := n2_
           have HB := n3_
           clear n0_ n1_ n2_ n3_
           (try clear hb)
           (try clear hb2)
           (try clear hk)
           (try clear hi)
           refine hK.out _ _ ⟨(blk_cell BK187.out 0).trans rfl, (blk_cell BK187.out 1).trans rfl, (blk_cell BK188.out 0).trans rfl, (blk_cell BK188.out 1).trans rfl⟩ (fun hHeld => ?_)
           clear hK K
           refine norm_ (a' := ?_) ?_ ?_
           rotate_left
           ·show Act.put _ (some 44) _ = _
            simp only [Act.put, List.setIfInBounds_toArray, List.set_cons_zero, List.set_cons_succ, i64_w, i32_w]
            rfl
           refine two_ (i := 16) (j := 17) (Ni := some 45) (Nj := some 7) #[true, true, true, true, true, true, true, true, true, true, true, true, true, true, true, true, true, false, false] #[true, true, true, true, true, true, true, true, true, true, true, true, true, true, true, true, false, true, false] rfl rfl rfl rfl (two_of HT_.out (by kernel_rfl)) (by decide) (by decide) (fun K hK => ?_) (fun K hK => ?_)
           ·skip
            refine goes_ Tryd.func70 (by kernel_rfl) rfl #[.agg #[.bool t193, .int .u64 t194, .int .u64 t195], .agg #[.bool t196, .int .u64 t197, .int .u64 t198]] (by rfl) rfl rfl aq ?_
            with_reducible refine (frac_long_plus.calls kj2 t193 t194 t195 t196 t197 t198 t199 t200 t201 _ A29.out).mono ?_
            rintro e w122 ⟨rfl, hb⟩
            refine ⟨_, rfl, ?_⟩
            have n0_ := bb BK187 hb
            have n1_ := bb BK188 hb
            have n2_ := bb BK189 hb
            have n3_ := Aside0.mk (below_step (hq HB) hb)
            clear BK187
            clear BK188
            clear BK189
            clear HB
            have BK187 := n0_
            have BK188 := n1_
            have BK189 := n2_
            have HB := n3_
            clear n0_ n1_ n2_ n3_
            (try clear hb)
            (try clear hb2)
            (try clear hk)
            (try clear hi)
            refine hK.out _ _ ⟨(blk_cell BK187.out 0).trans rfl, (blk_cell BK187.out 1).trans rfl, (blk_cell BK188.out 0).trans rfl, (blk_cell BK188.out 1).trans rfl⟩ (fun hHeld => ?_)
            clear hK K
            refine norm_ (a' := ?_) ?_ ?_
            rotate_left
            ·show Act.put _ (some 45) _ = _
             simp only [Act.put, List.setIfInBounds_toArray, List.set_cons_zero, List.set_cons_succ, i64_w, i32_w]
             rfl
            refine one_ (i := 17) (N := some 7) #[true, true, true, true, true, true, true, true, true, true, true, true, true, true, true, true, true, true, false] rfl rfl (one_of HT_.out (by kernel_rfl)) (by decide) (fun K hK => ?_)
            refine box_step ?hg (N := 7) ?hd (cs := #[.bool false, .int .u64 0, .int .u64 0]) (t := 91) ?hr ?_; (case hd => rfl); (case hg => rfl); (case hr => first | (go_simp; done) | (go_simp; rfl))
            intro gb202 hg w123 hbox hb
            have n0_ := bb BK187 hb
            have n1_ := bb BK188 hb
            have n2_ := bb BK189 hb
            have n3_ := Aside0.mk (below_step (hq HB) hb)
            have n4_ := Aside0.mk (hbox)
            have n5_ := Aside0.mk ((by rw [hg]; exact (below_size (hq HB)) : w.heap.size ≤ gb202))
            have n6_ := Aside0.mk ((by rw [hg]; exact (below_size (hq HB)) : w.heap.size ≤ gb202))
            have n7_ := nl BK187 hg
            have n8_ := ng BK187 hg
            have n9_ := nl BK188 hg
            have n10_ := ng BK188 hg
            have n11_ := nl BK189 hg
            have n12_ := ng BK189 hg
            clear BK187
            clear BK188
            clear BK189
            clear HB
            have BK187 := n0_
            have BK188 := n1_
            have BK189 := n2_
            have HB := n3_
            have BK202 := n4_
            have GW202 := n5_
            have GE202 := n6_
            have NB187_202 := n7_
            have NB202_187 := n8_
            have NB188_202 := n9_
            have NB202_188 := n10_
            have NB189_202 := n11_
            have NB202_189 := n12_
            clear n0_ n1_ n2_ n3_ n4_ n5_ n6_ n7_ n8_ n9_ n10_ n11_ n12_
            clear hb hbox hg
            refine hK.out _ _ ⟨(blk_cell BK187.out 0).trans rfl, (blk_cell BK187.out 1).trans rfl, (blk_cell BK188.out 0).trans rfl, (blk_cell BK188.out 1).trans rfl⟩ (fun hHeld => ?_)
            clear hK K
            refine norm_ (a' := ?_) ?_ ?_
            rotate_left
            ·show Act.put _ (some 7) _ = _
             simp only [Act.put, List.setIfInBounds_toArray, List.set_cons_zero, List.set_cons_succ, i64_w, i32_w]
             rfl
            exact norm_ (by simp only [putAll, Act.put, List.setIfInBounds_toArray, List.set_cons_zero, List.set_cons_succ]) (hCont (gb202) _ ⟨hHeld, (bq BK187), (bq BK188), (bq BK189), (bq BK202), GW202.out, GE202.out, NB187_202.out, NB202_187.out, NB188_202.out, NB202_188.out, NB189_202.out, NB202_189.out, (hq HB)⟩)
           ·skip
            refine box_step ?hg (N := 7) ?hd (cs := #[.bool false, .int .u64 0, .int .u64 0]) (t := 91) ?hr ?_; (case hd => rfl); (case hg => rfl); (case hr => first | (go_simp; done) | (go_simp; rfl))
            intro gb202 hg w122 hbox hb
            have n0_ := bb BK187 hb
            have n1_ := bb BK188 hb
            have n2_ := bb BK189 hb
            have n3_ := Aside0.mk (below_step (hq HB) hb)
            have n4_ := Aside0.mk (hbox)
            have n5_ := Aside0.mk ((by rw [hg]; exact (below_size (hq HB)) : w.heap.size ≤ gb202))
            have n6_ := Aside0.mk ((by rw [hg]; exact (below_size (hq HB)) : w.heap.size ≤ gb202))
            have n7_ := nl BK187 hg
            have n8_ := ng BK187 hg
            have n9_ := nl BK188 hg
            have n10_ := ng BK188 hg
            have n11_ := nl BK189 hg
            have n12_ := ng BK189 hg
            clear BK187
            clear BK188
            clear BK189
            clear HB
            have BK187 := n0_
            have BK188 := n1_
            have BK189 := n2_
            have HB := n3_
            have BK202 := n4_
            have GW202 := n5_
            have GE202 := n6_
            have NB187_202 := n7_
            have NB202_187 := n8_
            have NB188_202 := n9_
            have NB202_188 := n10_
            have NB189_202 := n11_
            have NB202_189 := n12_
            clear n0_ n1_ n2_ n3_ n4_ n5_ n6_ n7_ n8_ n9_ n10_ n11_ n12_
            clear hb hbox hg
            refine hK.out _ _ ⟨(blk_cell BK187.out 0).trans rfl, (blk_cell BK187.out 1).trans rfl, (blk_cell BK188.out 0).trans rfl, (blk_cell BK188.out 1).trans rfl⟩ (fun hHeld => ?_)
            clear hK K
            refine norm_ (a' := ?_) ?_ ?_
            rotate_left
            ·show Act.put _ (some 7) _ = _
             simp only [Act.put, List.setIfInBounds_toArray, List.set_cons_zero, List.set_cons_succ, i64_w, i32_w]
             rfl
            refine one_ (i := 16) (N := some 45) #[true, true, true, true, true, true, true, true, true, true, true, true, true, true, true, true, true, true, false] rfl rfl (one_of HT_.out (by kernel_rfl)) (by decide) (fun K hK => ?_)
            refine goes_ Tryd.func70 (by kernel_rfl) rfl #[.agg #[.bool t193, .int .u64 t194, .int .u64 t195], .agg #[.bool t196, .int .u64 t197, .int .u64 t198]] (by rfl) rfl rfl aq ?_
            with_reducible refine (frac_long_plus.calls kj2 t193 t194 t195 t196 t197 t198 t199 t200 t201 _ A29.out).mono ?_
            rintro e w123 ⟨rfl, hb⟩
            refine ⟨_, rfl, ?_⟩
            have n0_ := bb BK187 hb
            have n1_ := bb BK188 hb
            have n2_ := bb BK189 hb
            have n3_ := bb BK202 hb
            have n4_ := Aside0.mk (below_step (hq HB) hb)
            clear BK187
            clear BK188
            clear BK189
            clear BK202
            clear HB
            have BK187 := n0_
            have BK188 := n1_
            have BK189 := n2_
            have BK202 := n3_
            have HB := n4_
            clear n0_ n1_ n2_ n3_ n4_
            (try clear hb)
            (try clear hb2)
            (try clear hk)
            (try clear hi)
            refine hK.out _ _ ⟨(blk_cell BK187.out 0).trans rfl, (blk_cell BK187.out 1).trans rfl, (blk_cell BK188.out 0).trans rfl, (blk_cell BK188.out 1).trans rfl⟩ (fun hHeld => ?_)
            clear hK K
            refine norm_ (a' := ?_) ?_ ?_
            rotate_left
            ·show Act.put _ (some 45) _ = _
             simp only [Act.put, List.setIfInBounds_toArray, List.set_cons_zero, List.set_cons_succ, i64_w, i32_w]
             rfl
            exact norm_ (by simp only [putAll, Act.put, List.setIfInBounds_toArray, List.set_cons_zero, List.set_cons_succ]) (hCont (gb202) _ ⟨hHeld, (bq BK187), (bq BK188), (bq BK189), (bq BK202), GW202.out, GE202.out, NB187_202.out, NB202_187.out, NB188_202.out, NB202_188.out, NB189_202.out, NB202_189.out, (hq HB)⟩)
          ·skip
           refine box_step ?hg (N := 7) ?hd (cs := #[.bool false, .int .u64 0, .int .u64 0]) (t := 91) ?hr ?_; (case hd => rfl); (case hg => rfl); (case hr => first | (go_simp; done) | (go_simp; rfl))
           intro gb202 hg w121 hbox hb
           have n0_ := bb BK187 hb
           have n1_ := bb BK188 hb
           have n2_ := bb BK189 hb
           have n3_ := Aside0.mk (below_step (hq HB) hb)
           have n4_ := Aside0.mk (hbox)
           have n5_ := Aside0.mk ((by rw [hg]; exact (below_size (hq HB)) : w.heap.size ≤ gb202))
           have n6_ := Aside0.mk ((by rw [hg]; exact (below_size (hq HB)) : w.heap.size ≤ gb202))
           have n7_ := nl BK187 hg
           have n8_ := ng BK187 hg
           have n9_ := nl BK188 hg
           have n10_ := ng BK188 hg
           have n11_ := nl BK189 hg
           have n12_ := ng BK189 hg
           clear BK187
           clear BK188
           clear BK189
           clear HB
           have BK187 := n0_
           have BK188 := n1_
           have BK189 := n2_
           have HB := n3_
           have BK202 := n4_
           have GW202 := n5_
           have GE202 := n6_
           have NB187_202 := n7_
           have NB202_187 := n8_
           have NB188_202 := n9_
           have NB202_188 := n10_
           have NB189_202 := n11_
           have NB202_189 := n12_
           clear n0_ n1_ n2_ n3_ n4_ n5_ n6_ n7_ n8_ n9_ n10_ n11_ n12_
           clear hb hbox hg
           refine hK.out _ _ ⟨(blk_cell BK187.out 0).trans rfl, (blk_cell BK187.out 1).trans rfl, (blk_cell BK188.out 0).trans rfl, (blk_cell BK188.out 1).trans rfl⟩ (fun hHeld => ?_)
           clear hK K
           refine norm_ (a' := ?_) ?_ ?_
           rotate_left
           ·show Act.put _ (some 7) _ = _
            simp only [Act.put, List.setIfInBounds_toArray, List.set_cons_zero, List.set_cons_succ, i64_w, i32_w]
            rfl
           refine one_ (i := 15) (N := some 44) #[true, true, true, true, true, true, true, true, true, true, true, true, true, true, true, true, false, true, false] rfl rfl (one_of HT_.out (by kernel_rfl)) (by decide) (fun K hK => ?_)
           refine goes_ Tryd.func69 (by kernel_rfl) rfl #[.int .i64 a1_0, .int .u64 (IntKind.u64.wrap (Int.tdiv (IntKind.u64.wrap (a0_1)) t192))] (by rfl) rfl rfl aq ?_
           with_reducible refine (frac_times.calls a1_0 (IntKind.u64.wrap (Int.tdiv (IntKind.u64.wrap (a0_1)) t192)) t196 t197 t198 _ A28.out).mono ?_
           rintro e w122 ⟨rfl, hb⟩
           refine ⟨_, rfl, ?_⟩
           have n0_ := bb BK187 hb
           have n1_ := bb BK188 hb
           have n2_ := bb BK189 hb
           have n3_ := bb BK202 hb
           have n4_ := Aside0.mk (below_step (hq HB) hb)
           clear BK187
           clear BK188
           clear BK189
           clear BK202
           clear HB
           have BK187 := n0_
           have BK188 := n1_
           have BK189 := n2_
           have BK202 := n3_
           have HB := n4_
           clear n0_ n1_ n2_ n3_ n4_
           (try clear hb)
           (try clear hb2)
           (try clear hk)
           (try clear hi)
           refine hK.out _ _ ⟨(blk_cell BK187.out 0).trans rfl, (blk_cell BK187.out 1).trans rfl, (blk_cell BK188.out 0).trans rfl, (blk_cell BK188.out 1).trans rfl⟩ (fun hHeld => ?_)
           clear hK K
           refine norm_ (a' := ?_) ?_ ?_
           rotate_left
           ·show Act.put _ (some 44) _ = _
            simp only [Act.put, List.setIfInBounds_toArray, List.set_cons_zero, List.set_cons_succ, i64_w, i32_w]
            rfl
           refine one_ (i := 16) (N := some 45) #[true, true, true, true, true, true, true, true, true, true, true, true, true, true, true, true, true, true, false] rfl rfl (one_of HT_.out (by kernel_rfl)) (by decide) (fun K hK => ?_)
           refine goes_ Tryd.func70 (by kernel_rfl) rfl #[.agg #[.bool t193, .int .u64 t194, .int .u64 t195], .agg #[.bool t196, .int .u64 t197, .int .u64 t198]] (by rfl) rfl rfl aq ?_
           with_reducible refine (frac_long_plus.calls kj2 t193 t194 t195 t196 t197 t198 t199 t200 t201 _ A29.out).mono ?_
           rintro e w123 ⟨rfl, hb⟩
           refine ⟨_, rfl, ?_⟩
           have n0_ := bb BK187 hb
           have n1_ := bb BK188 hb
           have n2_ := bb BK189 hb
           have n3_ := bb BK202 hb
           have n4_ := Aside0.mk (below_step (hq HB) hb)
           clear BK187
           clear BK188
           clear BK189
           clear BK202
           clear HB
           have BK187 := n0_
           have BK188 := n1_
           have BK189 := n2_
           have BK202 := n3_
           have HB := n4_
           clear n0_ n1_ n2_ n3_ n4_
           (try clear hb)
           (try clear hb2)
           (try clear hk)
           (try clear hi)
           refine hK.out _ _ ⟨(blk_cell BK187.out 0).trans rfl, (blk_cell BK187.out 1).trans rfl, (blk_cell BK188.out 0).trans rfl, (blk_cell BK188.out 1).trans rfl⟩ (fun hHeld => ?_)
           clear hK K
           refine norm_ (a' := ?_) ?_ ?_
           rotate_left
           ·show Act.put _ (some 45) _ = _
            simp only [Act.put, List.setIfInBounds_toArray, List.set_cons_zero, List.set_cons_succ, i64_w, i32_w]
            rfl
           exact norm_ (by simp only [putAll, Act.put, List.setIfInBounds_toArray, List.set_cons_zero, List.set_cons_succ]) (hCont (gb202) _ ⟨hHeld, (bq BK187), (bq BK188), (bq BK189), (bq BK202), GW202.out, GE202.out, NB187_202.out, NB202_187.out, NB188_202.out, NB202_188.out, NB189_202.out, NB202_189.out, (hq HB)⟩)
         ·skip
          refine box_step ?hg (N := 7) ?hd (cs := #[.bool false, .int .u64 0, .int .u64 0]) (t := 91) ?hr ?_; (case hd => rfl); (case hg => rfl); (case hr => first | (go_simp; done) | (go_simp; rfl))
          intro gb202 hg w120 hbox hb
          have n0_ := bb BK187 hb
          have n1_ := bb BK188 hb
          have n2_ := bb BK189 hb
          have n3_ := Aside0.mk (below_step (hq HB) hb)
          have n4_ := Aside0.mk (hbox)
          have n5_ := Aside0.mk ((by rw [hg]; exact (below_size (hq HB)) : w.heap.size ≤ gb202))
          have n6_ := Aside0.mk ((by rw [hg]; exact (below_size (hq HB)) : w.heap.size ≤ gb202))
          have n7_ := nl BK187 hg
          have n8_ := ng BK187 hg
          have n9_ := nl BK188 hg
          have n10_ := ng BK188 hg
          have n11_ := nl BK189 hg
          have n12_ := ng BK189 hg
          clear BK187
          clear BK188
          clear BK189
          clear HB
          have BK187 := n0_
          have BK188 := n1_
          have BK189 := n2_
          have HB := n3_
          have BK202 := n4_
          have GW202 := n5_
          have GE202 := n6_
          have NB187_202 := n7_
          have NB202_187 := n8_
          have NB188_202 := n9_
          have NB202_188 := n10_
          have NB189_202 := n11_
          have NB202_189 := n12_
          clear n0_ n1_ n2_ n3_ n4_ n5_ n6_ n7_ n8_ n9_ n10_ n11_ n12_
          clear hb hbox hg
          refine hK.out _ _ ⟨(blk_cell BK187.out 0).trans rfl, (blk_cell BK187.out 1).trans rfl, (blk_cell BK188.out 0).trans rfl, (blk_cell BK188.out 1).trans rfl⟩ (fun hHeld => ?_)
          clear hK K
          refine norm_ (a' := ?_) ?_ ?_
          rotate_left
          ·show Act.put _ (some 7) _ = _
           simp only [Act.put, List.setIfInBounds_toArray, List.set_cons_zero, List.set_cons_succ, i64_w, i32_w]
           rfl
          refine one_ (i := 7) (N := some 36) #[true, true, true, true, true, true, true, true, true, true, true, true, true, true, true, false, false, true, false] rfl rfl (one_of HT_.out (by kernel_rfl)) (by decide) (fun K hK => ?_)
          refine goes_ Tryd.func69 (by kernel_rfl) rfl #[.int .i64 a0_0, .int .u64 (IntKind.u64.wrap (Int.tdiv (IntKind.u64.wrap (a1_1)) t192))] (by rfl) rfl rfl aq ?_
          with_reducible refine (frac_times.calls a0_0 (IntKind.u64.wrap (Int.tdiv (IntKind.u64.wrap (a1_1)) t192)) t193 t194 t195 _ A27.out).mono ?_
          rintro e w121 ⟨rfl, hb⟩
          refine ⟨_, rfl, ?_⟩
          have n0_ := bb BK187 hb
          have n1_ := bb BK188 hb
          have n2_ := bb BK189 hb
          have n3_ := bb BK202 hb
          have n4_ := Aside0.mk (below_step (hq HB) hb)
          clear BK187
          clear BK188
          clear BK189
          clear BK202
          clear HB
          have BK187 := n0_
          have BK188 := n1_
          have BK189 := n2_
          have BK202 := n3_
          have HB := n4_
          clear n0_ n1_ n2_ n3_ n4_
          (try clear hb)
          (try clear hb2)
          (try clear hk)
          (try clear hi)
          refine hK.out _ _ ⟨(blk_cell BK187.out 0).trans rfl, (blk_cell BK187.out 1).trans rfl, (blk_cell BK188.out 0).trans rfl, (blk_cell BK188.out 1).trans rfl⟩ (fun hHeld => ?_)
          clear hK K
          refine norm_ (a' := ?_) ?_ ?_
          rotate_left
          ·show Act.put _ (some 36) _ = _
           simp only [Act.put, List.setIfInBounds_toArray, List.set_cons_zero, List.set_cons_succ, i64_w, i32_w]
           rfl
          refine one_ (i := 15) (N := some 44) #[true, true, true, true, true, true, true, true, true, true, true, true, true, true, true, true, false, true, false] rfl rfl (one_of HT_.out (by kernel_rfl)) (by decide) (fun K hK => ?_)
          refine goes_ Tryd.func69 (by kernel_rfl) rfl #[.int .i64 a1_0, .int .u64 (IntKind.u64.wrap (Int.tdiv (IntKind.u64.wrap (a0_1)) t192))] (by rfl) rfl rfl aq ?_
          with_reducible refine (frac_times.calls a1_0 (IntKind.u64.wrap (Int.tdiv (IntKind.u64.wrap (a0_1)) t192)) t196 t197 t198 _ A28.out).mono ?_
          rintro e w122 ⟨rfl, hb⟩
          refine ⟨_, rfl, ?_⟩
          have n0_ := bb BK187 hb
          have n1_ := bb BK188 hb
          have n2_ := bb BK189 hb
          have n3_ := bb BK202 hb
          have n4_ := Aside0.mk (below_step (hq HB) hb)
          clear BK187
          clear BK188
          clear BK189
          clear BK202
          clear HB
          have BK187 := n0_
          have BK188 := n1_
          have BK189 := n2_
          have BK202 := n3_
          have HB := n4_
          clear n0_ n1_ n2_ n3_ n4_
          (try clear hb)
          (try clear hb2)
          (try clear hk)
          (try clear hi)
          refine hK.out _ _ ⟨(blk_cell BK187.out 0).trans rfl, (blk_cell BK187.out 1).trans rfl, (blk_cell BK188.out 0).trans rfl, (blk_cell BK188.out 1).trans rfl⟩ (fun hHeld => ?_)
          clear hK K
          refine norm_ (a' := ?_) ?_ ?_
          rotate_left
          ·show Act.put _ (some 44) _ = _
           simp only [Act.put, List.setIfInBounds_toArray, List.set_cons_zero, List.set_cons_succ, i64_w, i32_w]
           rfl
          refine one_ (i := 16) (N := some 45) #[true, true, true, true, true, true, true, true, true, true, true, true, true, true, true, true, true, true, false] rfl rfl (one_of HT_.out (by kernel_rfl)) (by decide) (fun K hK => ?_)
          refine goes_ Tryd.func70 (by kernel_rfl) rfl #[.agg #[.bool t193, .int .u64 t194, .int .u64 t195], .agg #[.bool t196, .int .u64 t197, .int .u64 t198]] (by rfl) rfl rfl aq ?_
          with_reducible refine (frac_long_plus.calls kj2 t193 t194 t195 t196 t197 t198 t199 t200 t201 _ A29.out).mono ?_
          rintro e w123 ⟨rfl, hb⟩
          refine ⟨_, rfl, ?_⟩
          have n0_ := bb BK187 hb
          have n1_ := bb BK188 hb
          have n2_ := bb BK189 hb
          have n3_ := bb BK202 hb
          have n4_ := Aside0.mk (below_step (hq HB) hb)
          clear BK187
          clear BK188
          clear BK189
          clear BK202
          clear HB
          have BK187 := n0_
          have BK188 := n1_
          have BK189 := n2_
          have BK202 := n3_
          have HB := n4_
          clear n0_ n1_ n2_ n3_ n4_
          (try clear hb)
          (try clear hb2)
          (try clear hk)
          (try clear hi)
          refine hK.out _ _ ⟨(blk_cell BK187.out 0).trans rfl, (blk_cell BK187.out 1).trans rfl, (blk_cell BK188.out 0).trans rfl, (blk_cell BK188.out 1).trans rfl⟩ (fun hHeld => ?_)
          clear hK K
          refine norm_ (a' := ?_) ?_ ?_
          rotate_left
          ·show Act.put _ (some 45) _ = _
           simp only [Act.put, List.setIfInBounds_toArray, List.set_cons_zero, List.set_cons_succ, i64_w, i32_w]
           rfl
          exact norm_ (by simp only [putAll, Act.put, List.setIfInBounds_toArray, List.set_cons_zero, List.set_cons_succ]) (hCont (gb202) _ ⟨hHeld, (bq BK187), (bq BK188), (bq BK189), (bq BK202), GW202.out, GE202.out, NB187_202.out, NB202_187.out, NB188_202.out, NB202_188.out, NB189_202.out, NB202_189.out, (hq HB)⟩)
        rintro gb202 w124 ⟨hS_, h0_, h1_, h2_, h3_, h4_, h5_, h6_, h7_, h8_, h9_, h10_, h11_, h12_⟩
        have n0_ : Aside0 (w124.heap[gb187]? = some (.cells #[.int .i64 a0_0, .int .i64 a0_1] 24 (0, 0))) := ⟨h0_⟩
        have n1_ : Aside0 (w124.heap[gb188]? = some (.cells #[.int .i64 a1_0, .int .i64 a1_1] 24 (0, 0))) := ⟨h1_⟩
        have n2_ : Aside0 (w124.heap[gb189]? = some (.cells #[.int .i64 0, .int .i64 0] 24 (0, 0))) := ⟨h2_⟩
        have n3_ : Aside0 (w124.heap[gb202]? = some (.cells #[.bool false, .int .u64 0, .int .u64 0] 91 (0, 0))) := ⟨h3_⟩
        have n4_ : Aside0 (w.heap.size ≤ gb202) := ⟨h4_⟩
        have n5_ : Aside0 (w.heap.size ≤ gb202) := ⟨h5_⟩
        have n6_ : Aside0 (gb187 ≠ gb202) := ⟨h6_⟩
        have n7_ : Aside0 (gb202 ≠ gb187) := ⟨h7_⟩
        have n8_ : Aside0 (gb188 ≠ gb202) := ⟨h8_⟩
        have n9_ : Aside0 (gb202 ≠ gb188) := ⟨h9_⟩
        have n10_ : Aside0 (gb189 ≠ gb202) := ⟨h10_⟩
        have n11_ : Aside0 (gb202 ≠ gb189) := ⟨h11_⟩
        have n12_ : Aside0 (Below w.heap.size w w124) := ⟨h12_⟩
        clear BK187
        clear BK188
        clear BK189
        clear HB
        clear h0_ h1_ h2_ h3_ h4_ h5_ h6_ h7_ h8_ h9_ h10_ h11_ h12_
        have BK187 := n0_
        have BK188 := n1_
        have BK189 := n2_
        have BK202 := n3_
        have GW202 := n4_
        have GE202 := n5_
        have NB187_202 := n6_
        have NB202_187 := n7_
        have NB188_202 := n8_
        have NB202_188 := n9_
        have NB189_202 := n10_
        have NB202_189 := n11_
        have HB := n12_
        clear n0_ n1_ n2_ n3_ n4_ n5_ n6_ n7_ n8_ n9_ n10_ n11_ n12_
        have hHeld : w124.cell? ⟨gb187, 0, none⟩ = some (.int .i64 a0_0) ∧ w124.cell? ⟨gb187, 1, none⟩ = some (.int .i64 a0_1) ∧ w124.cell? ⟨gb188, 0, none⟩ = some (.int .i64 a1_0) ∧ w124.cell? ⟨gb188, 1, none⟩ = some (.int .i64 a1_1) := hS_
        refine norm_ (a' := ?_) ?_ ?_
        rotate_left
        ·simp only [putAll, Act.put, List.setIfInBounds_toArray, List.set_cons_zero, List.set_cons_succ]
         rfl
        refine one_ (i := 18) (N := none) #[true, true, true, true, true, true, true, true, true, true, true, true, true, true, true, true, true, true, true] rfl rfl (one_of HT_.out (by kernel_rfl)) (by decide) (fun K hK => ?_)
        have hs125 : w124.cell? ⟨gb202, 0, none⟩ = some (.bool false) := (blk_cell BK202.out 0).trans rfl
        have hfs125 := blk_frozen BK202.out 0
        have hns125_0 := NB187_202.out
        have hns125_1 := NB188_202.out
        have hns125_2 := NB189_202.out
        have hms125_0 := NB202_187.out
        have hms125_1 := NB202_188.out
        have hms125_2 := NB202_189.out
        have hs126 : w124.cell? ⟨gb202, 1, none⟩ = some (.int .u64 0) := (blk_cell BK202.out 1).trans rfl
        have hfs126 := blk_frozen BK202.out 1
        have hns126_0 := NB187_202.out
        have hns126_1 := NB188_202.out
        have hns126_2 := NB189_202.out
        have hms126_0 := NB202_187.out
        have hms126_1 := NB202_188.out
        have hms126_2 := NB202_189.out
        have hs127 : w124.cell? ⟨gb202, 2, none⟩ = some (.int .u64 0) := (blk_cell BK202.out 2).trans rfl
        have hfs127 := blk_frozen BK202.out 2
        have hns127_0 := NB187_202.out
        have hns127_1 := NB188_202.out
        have hns127_2 := NB189_202.out
        have hms127_0 := NB202_187.out
        have hms127_1 := NB202_188.out
        have hms127_2 := NB202_189.out
        refine skip_ (w1 := ?_) (by rfl) rfl ?_ ?_
        rotate_left
        ·go_simp
         rfl
        refine hK.out _ _ ⟨((cell_far (p := ⟨gb202, _, none⟩) NB187_202.out _).trans (((cell_far (p := ⟨gb202, _, none⟩) NB187_202.out _).trans (((cell_far (p := ⟨gb202, _, none⟩) NB187_202.out _).trans (hHeld.1)))))), ((cell_far (p := ⟨gb202, _, none⟩) NB187_202.out _).trans (((cell_far (p := ⟨gb202, _, none⟩) NB187_202.out _).trans (((cell_far (p := ⟨gb202, _, none⟩) NB187_202.out _).trans (hHeld.2.1)))))), ((cell_far (p := ⟨gb202, _, none⟩) NB188_202.out _).trans (((cell_far (p := ⟨gb202, _, none⟩) NB188_202.out _).trans (((cell_far (p := ⟨gb202, _, none⟩) NB188_202.out _).trans (hHeld.2.2.1)))))), ((cell_far (p := ⟨gb202, _, none⟩) NB188_202.out _).trans (((cell_far (p := ⟨gb202, _, none⟩) NB188_202.out _).trans (((cell_far (p := ⟨gb202, _, none⟩) NB188_202.out _).trans (hHeld.2.2.2))))))⟩ (fun hHeld => ?_)
        clear hK K
        refine done_ (done_of HT_.out (by kernel_rfl)) ?_
        have hnb128 := NB202_187.out
        have hnc128 := NB187_202.out
        have hnb129 := NB202_188.out
        have hnc129 := NB188_202.out
        have hnb130 := NB202_189.out
        have hnc130 := NB189_202.out
        have hcz131_0 : w124.cell? ⟨gb202, 0, none⟩ = some (.bool false) := (blk_cell BK202.out 0).trans rfl
        have hcz131_1 : w124.cell? ⟨gb202, 1, none⟩ = some (.int .u64 0) := (blk_cell BK202.out 1).trans rfl
        have hcz131_2 : w124.cell? ⟨gb202, 2, none⟩ = some (.int .u64 0) := (blk_cell BK202.out 2).trans rfl
        have hfz131_0 := blk_frozen BK202.out 0
        have hfz131_1 := blk_frozen BK202.out 1
        have hfz131_2 := blk_frozen BK202.out 2
        try go_wp2_with (first | ((with_reducible refine gate_callee (f := 71) rfl ?_); refine goesL_ (some 55) rfl rfl Tryd.func71 (by kernel_rfl) rfl #[.int .u64 t200, .int .u64 t201, .int .u64 t192] rfl aq ?_; (with_reducible refine (bits_Rem64.calls kj2 t200 t201 t192 t203 _ A51.out).mono ?_); rintro e w132 ⟨rfl, hb⟩; refine ⟨_, rfl, ?_⟩; have n0_ := Aside0.mk (blk_below (g := gb187) (o := .cells #[.int .i64 a0_0, .int .i64 a0_1] 24 (0, 0)) (by (with_reducible repeat (first | refine bN ?_ _ | refine bd ?_ | refine ba ?_ _)); refine blk_far ?_ NB187_202.out _; (with_reducible repeat (first | refine bN ?_ _ | refine bd ?_ | refine ba ?_ _)); refine blk_far ?_ NB187_202.out _; (with_reducible repeat (first | refine bN ?_ _ | refine bd ?_ | refine ba ?_ _)); refine blk_far ?_ NB187_202.out _; (with_reducible repeat (first | refine bN ?_ _ | refine bd ?_ | refine ba ?_ _)); exact BK187.out) hb); have n1_ := Aside0.mk (blk_below (g := gb188) (o := .cells #[.int .i64 a1_0, .int .i64 a1_1] 24 (0, 0)) (by (with_reducible repeat (first | refine bN ?_ _ | refine bd ?_ | refine ba ?_ _)); refine blk_far ?_ NB188_202.out _; (with_reducible repeat (first | refine bN ?_ _ | refine bd ?_ | refine ba ?_ _)); refine blk_far ?_ NB188_202.out _; (with_reducible repeat (first | refine bN ?_ _ | refine bd ?_ | refine ba ?_ _)); refine blk_far ?_ NB188_202.out _; (with_reducible repeat (first | refine bN ?_ _ | refine bd ?_ | refine ba ?_ _)); exact BK188.out) hb); have n2_ := Aside0.mk (blk_below (g := gb189) (o := .cells #[.int .i64 0, .int .i64 0] 24 (0, 0)) (by (with_reducible repeat (first | refine bN ?_ _ | refine bd ?_ | refine ba ?_ _)); refine blk_far ?_ NB189_202.out _; (with_reducible repeat (first | refine bN ?_ _ | refine bd ?_ | refine ba ?_ _)); refine blk_far ?_ NB189_202.out _; (with_reducible repeat (first | refine bN ?_ _ | refine bd ?_ | refine ba ?_ _)); refine blk_far ?_ NB189_202.out _; (with_reducible repeat (first | refine bN ?_ _ | refine bd ?_ | refine ba ?_ _)); exact BK189.out) hb); have n3_ := Aside0.mk (blk_below (g := gb202) (o := .cells #[.bool t199, .int .u64 t200, .int .u64 t201] 91 (0, 0)) (by (with_reducible repeat (first | refine bN ?_ _ | refine bd ?_ | refine ba ?_ _)); refine blk_put (cs := #[.bool t199, .int .u64 t200, .int .u64 0]) ?_ 2 _ rfl; (with_reducible repeat (first | refine bN ?_ _ | refine bd ?_ | refine ba ?_ _)); refine blk_put (cs := #[.bool t199, .int .u64 0, .int .u64 0]) ?_ 1 _ rfl; (with_reducible repeat (first | refine bN ?_ _ | refine bd ?_ | refine ba ?_ _)); refine blk_put (cs := #[.bool false, .int .u64 0, .int .u64 0]) ?_ 0 _ rfl; (with_reducible repeat (first | refine bN ?_ _ | refine bd ?_ | refine ba ?_ _)); exact BK202.out) hb); have n4_ := Aside0.mk (below_step (hq HB) hb); clear BK187; clear BK188; clear BK189; clear BK202; clear HB; have BK187 := n0_; have BK188 := n1_; have BK189 := n2_; have BK202 := n3_; have HB := n4_; clear n0_ n1_ n2_ n3_ n4_; (try clear hb); (try clear hb2); (try clear hk); (try clear hi)) | ((with_reducible refine gate_callee (f := 56) rfl ?_); refine goesL_ (some 57) rfl rfl Tryd.func56 (by kernel_rfl) rfl #[.int .u64 t203, .int .u64 t192] rfl aq ?_; (with_reducible refine (frac_gcd_uint64.calls kj2 t203 t192 t204 _ A52.out).mono ?_); rintro e w133 ⟨rfl, hb⟩; refine ⟨_, rfl, ?_⟩; have n0_ := bb BK187 hb; have n1_ := bb BK188 hb; have n2_ := bb BK189 hb; have n3_ := bb BK202 hb; have n4_ := Aside0.mk (below_step (hq HB) hb); clear BK187; clear BK188; clear BK189; clear BK202; clear HB; have BK187 := n0_; have BK188 := n1_; have BK189 := n2_; have BK202 := n3_; have HB := n4_; clear n0_ n1_ n2_ n3_ n4_; (try clear hb); (try clear hb2); (try clear hk); (try clear hi); have hcz134_0 : w133.cell? ⟨gb202, 0, none⟩ = some (.bool t199) := (blk_cell BK202.out 0).trans rfl; have hcz134_1 : w133.cell? ⟨gb202, 1, none⟩ = some (.int .u64 t200) := (blk_cell BK202.out 1).trans rfl; have hcz134_2 : w133.cell? ⟨gb202, 2, none⟩ = some (.int .u64 t201) := (blk_cell BK202.out 2).trans rfl; have hfz134_0 := blk_frozen BK202.out 0; have hfz134_1 := blk_frozen BK202.out 1; have hfz134_2 := blk_frozen BK202.out 2) | ((with_reducible refine gate_callee (f := 72) rfl ?_); refine goesL_ (some 61) rfl rfl Tryd.func72 (by kernel_rfl) rfl #[.agg #[.bool t199, .int .u64 t200, .int .u64 t201], .int .u64 t204] rfl aq ?_; (with_reducible refine (frac_long_over.calls kj2 t199 t200 t201 t204 t205 false _ A53.out).mono ?_); rintro e w135 ⟨rfl, hb⟩; refine ⟨_, rfl, ?_⟩; have n0_ := bb BK187 hb; have n1_ := bb BK188 hb; have n2_ := bb BK189 hb; have n3_ := bb BK202 hb; have n4_ := Aside0.mk (below_step (hq HB) hb); clear BK187; clear BK188; clear BK189; clear BK202; clear HB; have BK187 := n0_; have BK188 := n1_; have BK189 := n2_; have BK202 := n3_; have HB := n4_; clear n0_ n1_ n2_ n3_ n4_; (try clear hb); (try clear hb2); (try clear hk); (try clear hi)))
        have n0_ := Aside0.mk (blk_drew BK187.out)
        have n1_ := Aside0.mk (blk_drew BK188.out)
        have n2_ := Aside0.mk (blk_drew BK189.out)
        have n3_ := Aside0.mk (blk_drew BK202.out)
        have n4_ := Aside0.mk (below_drew1 HB.out)
        clear BK187
        clear BK188
        clear BK189
        clear BK202
        clear HB
        have BK187 := n0_
        have BK188 := n1_
        have BK189 := n2_
        have BK202 := n3_
        have HB := n4_
        clear n0_ n1_ n2_ n3_ n4_
        refine start_ (n := 16) (S := fun w' => w'.cell? ⟨gb187, 0, none⟩ = some (.int .i64 a0_0) ∧ w'.cell? ⟨gb187, 1, none⟩ = some (.int .i64 a0_1) ∧ w'.cell? ⟨gb188, 0, none⟩ = some (.int .i64 a1_0) ∧ w'.cell? ⟨gb188, 1, none⟩ = some (.int .i64 a1_1)) (ds := []) #[false, false, false, false, false, false, false, false, false, false, false, false, false, false, false, false] (by kernel_rfl) rfl rfl ⟨(blk_cell BK187.out 0).trans rfl, (blk_cell BK187.out 1).trans rfl, (blk_cell BK188.out 0).trans rfl, (blk_cell BK188.out 1).trans rfl⟩ (fun hHeld => ?_); refine with_tabW frac_Add.tab9 frac_Add.bits9 (fun HT_ HW_ => ?_)
        generalize w135.drew = w136 at BK187 BK188 BK189 BK202 HB hHeld ⊢
        refine pure_ (i := 0) (N := some 65) (v := ?_) (a' := ?_) #[true, false, false, false, false, false, false, false, false, false, false, false, false, false, false, false] rfl rfl (any_of HT_.out (by kernel_rfl)) (fun _ _ _ h => h) (Or.inl ⟨by rfl, ?_⟩) ?_ ?_
        rotate_left
        ·intro w'
         go_simp
         with_reducible rfl
        rotate_left
        ·simp only [Act.put, List.setIfInBounds_toArray, List.set_cons_zero, List.set_cons_succ, i64_w, i32_w]
         rfl
        refine pure_ (i := 3) (N := some 68) (v := ?_) (a' := ?_) #[true, false, false, true, false, false, false, false, false, false, false, false, false, false, false, false] rfl rfl (any_of HT_.out (by kernel_rfl)) (fun _ _ _ h => h) (Or.inl ⟨by rfl, ?_⟩) ?_ ?_
        rotate_left
        ·intro w'
         go_simp
         with_reducible rfl
        rotate_left
        ·simp only [Act.put, List.setIfInBounds_toArray, List.set_cons_zero, List.set_cons_succ, i64_w, i32_w]
         rfl
        refine pure_ (i := 5) (N := some 70) (v := ?_) (a' := ?_) #[true, false, false, true, false, true, false, false, false, false, false, false, false, false, false, false] rfl rfl (any_of HT_.out (by kernel_rfl)) (fun _ _ _ h => h) (Or.inl ⟨by rfl, ?_⟩) ?_ ?_
        rotate_left
        ·intro w'
         go_simp
         with_reducible rfl
        rotate_left
        ·simp only [Act.put, List.setIfInBounds_toArray, List.set_cons_zero, List.set_cons_succ, i64_w, i32_w]
         rfl
        refine pure_ (i := 8) (N := some 73) (v := ?_) (a' := ?_) #[true, false, false, true, false, true, false, false, true, false, false, false, false, false, false, false] rfl rfl (any_of HT_.out (by kernel_rfl)) (fun _ _ _ h => h) (Or.inl ⟨by rfl, ?_⟩) ?_ ?_
        rotate_left
        ·intro w'
         go_simp
         with_reducible rfl
        rotate_left
        ·simp only [Act.put, List.setIfInBounds_toArray, List.set_cons_zero, List.set_cons_succ, i64_w, i32_w]
         rfl
        refine take_ (i := 1) (N := some 66) (v := ?_) (a' := ?_) #[true, true, false, true, false, true, false, false, true, false, false, false, false, false, false, false] rfl rfl (take_ofW HT_.out HW_.out (by kernel_rfl)) (fun _ _ _ h => h) (Or.inl ⟨by rfl, ?_⟩) hHeld ?_ ?_
        rotate_left
        ·rintro w' ⟨s0, s1, s2, s3⟩
         go_simp
         with_reducible rfl
        rotate_left
        ·simp only [Act.put, List.setIfInBounds_toArray, List.set_cons_zero, List.set_cons_succ, i64_w, i32_w]
         rfl
        refine pure_ (i := 2) (N := some 67) (v := ?_) (a' := ?_) #[true, true, true, true, false, true, false, false, true, false, false, false, false, false, false, false] rfl rfl (any_of HT_.out (by kernel_rfl)) (fun _ _ _ h => h) (Or.inl ⟨by rfl, ?_⟩) ?_ ?_
        rotate_left
        ·intro w'
         go_simp
         with_reducible rfl
        rotate_left
        ·simp only [Act.put, List.setIfInBounds_toArray, List.set_cons_zero, List.set_cons_succ, i64_w, i32_w]
         rfl
        refine pure_ (i := 4) (N := some 69) (v := ?_) (a' := ?_) #[true, true, true, true, true, true, false, false, true, false, false, false, false, false, false, false] rfl rfl (any_of HT_.out (by kernel_rfl)) (fun _ _ _ h => h) (Or.inl ⟨by rfl, ?_⟩) ?_ ?_
        rotate_left
        ·intro w'
         go_simp
         with_reducible rfl
        rotate_left
        ·simp only [Act.put, List.setIfInBounds_toArray, List.set_cons_zero, List.set_cons_succ, i64_w, i32_w]
         rfl
        refine take_ (i := 6) (N := some 71) (v := ?_) (a' := ?_) #[true, true, true, true, true, true, true, false, true, false, false, false, false, false, false, false] rfl rfl (take_ofW HT_.out HW_.out (by kernel_rfl)) (fun _ _ _ h => h) (Or.inl ⟨by rfl, ?_⟩) hHeld ?_ ?_
        rotate_left
        ·rintro w' ⟨s0, s1, s2, s3⟩
         go_simp
         with_reducible rfl
        rotate_left
        ·simp only [Act.put, List.setIfInBounds_toArray, List.set_cons_zero, List.set_cons_succ, i64_w, i32_w]
         rfl
        refine pure_ (i := 7) (N := some 72) (v := ?_) (a' := ?_) #[true, true, true, true, true, true, true, true, true, false, false, false, false, false, false, false] rfl rfl (any_of HT_.out (by kernel_rfl)) (fun _ _ _ h => h) (Or.inl ⟨by rfl, ?_⟩) ?_ ?_
        rotate_left
        ·intro w'
         go_simp
         with_reducible rfl
        rotate_left
        ·simp only [Act.put, List.setIfInBounds_toArray, List.set_cons_zero, List.set_cons_succ, i64_w, i32_w]
         rfl
        refine pure_ (i := 9) (N := some 74) (v := ?_) (a' := ?_) #[true, true, true, true, true, true, true, true, true, true, false, false, false, false, false, false] rfl rfl (any_of HT_.out (by kernel_rfl)) (fun _ _ _ h => h) (Or.inl ⟨by rfl, ?_⟩) ?_ ?_
        rotate_left
        ·intro w'
         go_simp
         with_reducible rfl
        rotate_left
        ·simp only [Act.put, List.setIfInBounds_toArray, List.set_cons_zero, List.set_cons_succ, i64_w, i32_w]
         rfl
        refine one_ (i := 10) (N := some 75) #[true, true, true, true, true, true, true, true, true, true, true, false, false, false, false, false] rfl rfl (one_of HT_.out (by kernel_rfl)) (by decide) (fun K hK => ?_)
        refine goes_ Tryd.func61 (by kernel_rfl) rfl #[.int .u64 (IntKind.u64.wrap (Int.tdiv (IntKind.u64.wrap (a0_1)) t192)), .int .u64 (IntKind.u64.wrap (Int.tdiv (IntKind.u64.wrap (a1_1)) t204))] (by rfl) rfl rfl aq ?_
        with_reducible refine (bits_Mul64.calls (IntKind.u64.wrap (Int.tdiv (IntKind.u64.wrap (a0_1)) t192)) (IntKind.u64.wrap (Int.tdiv (IntKind.u64.wrap (a1_1)) t204)) t207 t208 _ A55.out).mono ?_
        rintro e w137 ⟨rfl, hb⟩
        refine ⟨_, rfl, ?_⟩
        have n0_ := bb BK187 hb
        have n1_ := bb BK188 hb
        have n2_ := bb BK189 hb
        have n3_ := bb BK202 hb
        have n4_ := Aside0.mk (below_step (hq HB) hb)
        clear BK187
        clear BK188
        clear BK189
        clear BK202
        clear HB
        have BK187 := n0_
        have BK188 := n1_
        have BK189 := n2_
        have BK202 := n3_
        have HB := n4_
        clear n0_ n1_ n2_ n3_ n4_
        (try clear hb)
        (try clear hb2)
        (try clear hk)
        (try clear hi)
        refine hK.out _ _ ⟨(blk_cell BK187.out 0).trans rfl, (blk_cell BK187.out 1).trans rfl, (blk_cell BK188.out 0).trans rfl, (blk_cell BK188.out 1).trans rfl⟩ (fun hHeld => ?_)
        clear hK K
        refine norm_ (a' := ?_) ?_ ?_
        rotate_left
        ·show Act.put _ (some 75) _ = _
         simp only [Act.put, List.setIfInBounds_toArray, List.set_cons_zero, List.set_cons_succ, i64_w, i32_w]
         rfl
        refine pure_ (i := 11) (N := some 64) (v := ?_) (a' := ?_) #[true, true, true, true, true, true, true, true, true, true, true, true, false, false, false, false] rfl rfl (any_of HT_.out (by kernel_rfl)) (fun _ _ _ h => h) (Or.inl ⟨by rfl, ?_⟩) ?_ ?_
        rotate_left
        ·intro w'
         go_simp
         with_reducible rfl
        rotate_left
        ·simp only [Act.put, List.setIfInBounds_toArray, List.set_cons_zero, List.set_cons_succ, i64_w, i32_w]
         rfl
        refine pure_ (i := 12) (N := some 76) (v := ?_) (a' := ?_) #[true, true, true, true, true, true, true, true, true, true, true, true, true, false, false, false] rfl rfl (any_of HT_.out (by kernel_rfl)) (fun _ _ _ h => h) (Or.inl ⟨by rfl, ?_⟩) ?_ ?_
        rotate_left
        ·intro w'
         go_simp
         with_reducible rfl
        rotate_left
        ·simp only [Act.put, List.setIfInBounds_toArray, List.set_cons_zero, List.set_cons_succ, i64_w, i32_w]
         rfl
        refine pure_ (i := 13) (N := some 77) (v := ?_) (a' := ?_) #[true, true, true, true, true, true, true, true, true, true, true, true, true, true, false, false] rfl rfl (any_of HT_.out (by kernel_rfl)) (fun _ _ _ h => h) (Or.inl ⟨by rfl, ?_⟩) ?_ ?_
        rotate_left
        ·intro w'
         go_simp
         with_reducible rfl
        rotate_left
        ·simp only [Act.put, List.setIfInBounds_toArray, List.set_cons_zero, List.set_cons_succ, i64_w, i32_w]
         rfl
        refine pure_ (i := 14) (N := some 11) (v := ?_) (a' := ?_) #[true, true, true, true, true, true, true, true, true, true, true, true, true, true, true, false] rfl rfl (any_of HT_.out (by kernel_rfl)) (fun _ _ _ h => h) (Or.inl ⟨by rfl, ?_⟩) ?_ ?_
        rotate_left
        ·intro w'
         go_simp
         with_reducible rfl
        rotate_left
        ·simp only [Act.put, List.setIfInBounds_toArray, List.set_cons_zero, List.set_cons_succ, i64_w, i32_w]
         rfl
        refine pure_ (i := 15) (N := some 12) (v := ?_) (a' := ?_) #[true, true, true, true, true, true, true, true, true, true, true, true, true, true, true, true] rfl rfl (any_of HT_.out (by kernel_rfl)) (fun _ _ _ h => h) (Or.inl ⟨by rfl, ?_⟩) ?_ ?_
        rotate_left
        ·intro w'
         go_simp
         with_reducible rfl
        rotate_left
        ·simp only [Act.put, List.setIfInBounds_toArray, List.set_cons_zero, List.set_cons_succ, i64_w, i32_w]
         rfl
        refine done_ (done_of HT_.out (by kernel_rfl)) ?_
        have hcz138_0 : w137.cell? ⟨gb189, 0, none⟩ = some (.int .i64 0) := (blk_cell BK189.out 0).trans rfl
        have hcz138_1 : w137.cell? ⟨gb189, 1, none⟩ = some (.int .i64 0) := (blk_cell BK189.out 1).trans rfl
        have hfz138_0 := blk_frozen BK189.out 0
        have hfz138_1 := blk_frozen BK189.out 1
        try go_wp2
        refine bodyPost_ret (results_ct rfl _ _ gb189 24 #[.int .i64 0, .int .i64 0] (0, 0) _ rfl (by (with_reducible repeat (first | refine bN ?_ _ | refine bd ?_ | refine ba ?_ _)); refine blk_put (cs := #[.int .i64 0, .int .i64 0]) ?_ 1 _ rfl; (with_reducible repeat (first | refine bN ?_ _ | refine bd ?_ | refine ba ?_ _)); refine blk_put (cs := #[.int .i64 0, .int .i64 0]) ?_ 0 _ rfl; (with_reducible repeat (first | refine bN ?_ _ | refine bd ?_ | refine ba ?_ _)); exact BK189.out) Tryd.underlying24 rfl (by kernel_rfl)) rfl ?_
        exact ⟨by first | rfl | (simp [errW_none, errW_some] <;> rfl) | (simp [*, errW_none, errW_some] <;> rfl), by repeat (first | (with_reducible first | exact HB.out | apply below_alloc | apply pw_below_drewN | apply below_drew1 | refine below_set ?_ GE187.out | refine below_set ?_ GE188.out | refine below_set ?_ GE189.out | refine below_set ?_ GE202.out) | exact HB.out)⟩

end Go.Proofs.YtjpgommmkjgddaaDoor.P
