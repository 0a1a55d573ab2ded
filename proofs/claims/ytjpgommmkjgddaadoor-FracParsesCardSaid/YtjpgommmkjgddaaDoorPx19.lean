-- Written by this session's own copy of a printing program (wip/tools); Lean checks it.
import Derived.Test.YtjpgommmkjgddaaDoorPx0
import Derived.Test.YtjpgommmkjgddaaDoorPx1
import Derived.Test.YtjpgommmkjgddaaDoorPx12
import Derived.Test.YtjpgommmkjgddaaDoorPx17
import Derived.Test.YtjpgommmkjgddaaDoorPx18
import Derived.Test.YtjpgommmkjgddaaDoorHParse
namespace Go.Proofs.YtjpgommmkjgddaaDoor.P
open Go.RowKit Go.Proofs.YtjpgommmkjgddaaDoorW.PrintWords Go.Proofs.YtjpgommmkjgddaaDoorW.PrintLast Go.Proofs.YtjpgommmkjgddaaDoorW.PrintMore
attribute [local go_sem] max2_int min2_int max_two min_two max_three min_three max_four min_four   -- for this text's walks alone
set_option linter.unusedVariables false
set_option linter.unusedSimpArgs false

attribute [local go_sem high] eqA24
/-! ### intervalmonref03_Parse: function 34 -/
mutual
def intervalmonref03_Parse.j0 : Nat → ByteArray → Int → Bool → Int → Int → Option (Int × Int × Int)
 | 0, _, _, _, _, _ => none
 | k + 1, x0, x5, x18, x434000, x434001 => if x18 = true then (intervalmonref03_Parse.j1 k x0 1 x434000 x434001) else (intervalmonref03_Parse.j1 k x0 x5 x434000 x434001)
def intervalmonref03_Parse.j1 : Nat → ByteArray → Int → Int → Int → Option (Int × Int × Int)
 | 0, _, _, _, _ => none
 | k + 1, x0, x5, x434000, x434001 => (intervalmonref03_digits.f k x0 x5).bind fun bt434 => (if bt434.2 < 0 then (some (0, 0, 2)) else (if x5 = 1 then (intervalmonref03_Parse.j2 k x0 bt434.2 (wrap64 (-bt434.1)) x434001) else (intervalmonref03_Parse.j2 k x0 bt434.2 bt434.1 x434001)))
def intervalmonref03_Parse.j2 : Nat → ByteArray → Int → Int → Int → Option (Int × Int × Int)
 | 0, _, _, _, _ => none
 | k + 1, x0, x7, x434000, x434001 => if x7 < (x0.size : Int) then (if 0 ≤ x7 then (intervalmonref03_Parse.j3 k x0 x7 ((bt x0 x7) == 47) x434000 x434001) else (none)) else (intervalmonref03_Parse.j3 k x0 x7 false x434000 x434001)
def intervalmonref03_Parse.j3 : Nat → ByteArray → Int → Bool → Int → Int → Option (Int × Int × Int)
 | 0, _, _, _, _, _ => none
 | k + 1, x0, x7, x44, x434000, x434001 => if x44 = true then ((intervalmonref03_digits.f k x0 (wrap64 (x7 + 1))).bind fun bt436 => (if bt436.2 < 0 then (some (0, 0, 2)) else (if bt436.2 < (x0.size : Int) then (some (0, 0, 2)) else ((intervalmonref03_Text.f k x434000 bt436.1).bind fun t438 => (if t438.toList = x0.toList then (some (x434000, bt436.1, 0)) else (some (0, 0, 2))))))) else (if x7 < (x0.size : Int) then (some (0, 0, 2)) else ((intervalmonref03_Text.f k x434000 x434001).bind fun t439 => (if t439.toList = x0.toList then (some (x434000, x434001, 0)) else (some (0, 0, 2)))))
end
def intervalmonref03_Parse.f (k : Nat) (a0 : ByteArray) : Option (Int × Int × Int) := if (a0.size : Int) > 0 then (if 0 < (a0.size : Int) then (intervalmonref03_Parse.j0 k a0 0 ((bt a0 0) == 45) 0 1) else (none)) else (intervalmonref03_Parse.j0 k a0 0 false 0 1)
theorem intervalmonref03_Parse.mono_l : ∀ k, (∀ y0 y1 y2 y3 y4, LeO (intervalmonref03_Parse.j0 k y0 y1 y2 y3 y4) (intervalmonref03_Parse.j0 (k + 1) y0 y1 y2 y3 y4)) ∧ (∀ y0 y1 y2 y3, LeO (intervalmonref03_Parse.j1 k y0 y1 y2 y3) (intervalmonref03_Parse.j1 (k + 1) y0 y1 y2 y3)) ∧ (∀ y0 y1 y2 y3, LeO (intervalmonref03_Parse.j2 k y0 y1 y2 y3) (intervalmonref03_Parse.j2 (k + 1) y0 y1 y2 y3)) ∧ (∀ y0 y1 y2 y3 y4, LeO (intervalmonref03_Parse.j3 k y0 y1 y2 y3 y4) (intervalmonref03_Parse.j3 (k + 1) y0 y1 y2 y3 y4))
 | 0 => ⟨fun _ _ _ _ _ r h => by simp [intervalmonref03_Parse.j0] at h, fun _ _ _ _ r h => by simp [intervalmonref03_Parse.j1] at h, fun _ _ _ _ r h => by simp [intervalmonref03_Parse.j2] at h, fun _ _ _ _ _ r h => by simp [intervalmonref03_Parse.j3] at h⟩
 | k + 1 => by
  obtain ⟨ih0, ih1, ih2, ih3⟩ := intervalmonref03_Parse.mono_l k
  refine ⟨?_, ?_, ?_, ?_⟩
  ·intro y0 y1 y2 y3 y4
   unfold intervalmonref03_Parse.j0
   repeat' first
   | (with_reducible exact ih0 _ _ _ _ _)
   | (with_reducible exact ih1 _ _ _ _)
   | (with_reducible exact ih2 _ _ _ _)
   | (with_reducible exact ih3 _ _ _ _ _)
   | (with_reducible exact intervalmonref03_Text.mono _ _ _)
   | (with_reducible exact intervalmonref03_digits.mono _ _ _)
   | (with_reducible exact LeO.refl _)
   | (with_reducible exact LeO.none _)
   | (with_reducible refine LeO.ite ?_ ?_)
   | (with_reducible refine LeO.bind ?_ (fun _ => ?_))
   | exact ih0 _ _ _ _ _
   | exact ih1 _ _ _ _
   | exact ih2 _ _ _ _
   | exact ih3 _ _ _ _ _
   | exact intervalmonref03_Text.mono _ _ _
   | exact intervalmonref03_digits.mono _ _ _
   | exact LeO.none _
   | refine LeO.ite ?_ ?_
   | refine LeO.bind ?_ (fun _ => ?_)
  ·intro y0 y1 y2 y3
   unfold intervalmonref03_Parse.j1
   repeat' first
   | (with_reducible exact ih0 _ _ _ _ _)
   | (with_reducible exact ih1 _ _ _ _)
   | (with_reducible exact ih2 _ _ _ _)
   | (with_reducible exact ih3 _ _ _ _ _)
   | (with_reducible exact intervalmonref03_Text.mono _ _ _)
   | (with_reducible exact intervalmonref03_digits.mono _ _ _)
   | (with_reducible exact LeO.refl _)
   | (with_reducible exact LeO.none _)
   | (with_reducible refine LeO.ite ?_ ?_)
   | (with_reducible refine LeO.bind ?_ (fun _ => ?_))
   | exact ih0 _ _ _ _ _
   | exact ih1 _ _ _ _
   | exact ih2 _ _ _ _
   | exact ih3 _ _ _ _ _
   | exact intervalmonref03_Text.mono _ _ _
   | exact intervalmonref03_digits.mono _ _ _
   | exact LeO.none _
   | refine LeO.ite ?_ ?_
   | refine LeO.bind ?_ (fun _ => ?_)
  ·intro y0 y1 y2 y3
   unfold intervalmonref03_Parse.j2
   repeat' first
   | (with_reducible exact ih0 _ _ _ _ _)
   | (with_reducible exact ih1 _ _ _ _)
   | (with_reducible exact ih2 _ _ _ _)
   | (with_reducible exact ih3 _ _ _ _ _)
   | (with_reducible exact intervalmonref03_Text.mono _ _ _)
   | (with_reducible exact intervalmonref03_digits.mono _ _ _)
   | (with_reducible exact LeO.refl _)
   | (with_reducible exact LeO.none _)
   | (with_reducible refine LeO.ite ?_ ?_)
   | (with_reducible refine LeO.bind ?_ (fun _ => ?_))
   | exact ih0 _ _ _ _ _
   | exact ih1 _ _ _ _
   | exact ih2 _ _ _ _
   | exact ih3 _ _ _ _ _
   | exact intervalmonref03_Text.mono _ _ _
   | exact intervalmonref03_digits.mono _ _ _
   | exact LeO.none _
   | refine LeO.ite ?_ ?_
   | refine LeO.bind ?_ (fun _ => ?_)
  ·intro y0 y1 y2 y3 y4
   unfold intervalmonref03_Parse.j3
   repeat' first
   | (with_reducible exact ih0 _ _ _ _ _)
   | (with_reducible exact ih1 _ _ _ _)
   | (with_reducible exact ih2 _ _ _ _)
   | (with_reducible exact ih3 _ _ _ _ _)
   | (with_reducible exact intervalmonref03_Text.mono _ _ _)
   | (with_reducible exact intervalmonref03_digits.mono _ _ _)
   | (with_reducible exact LeO.refl _)
   | (with_reducible exact LeO.none _)
   | (with_reducible refine LeO.ite ?_ ?_)
   | (with_reducible refine LeO.bind ?_ (fun _ => ?_))
   | exact ih0 _ _ _ _ _
   | exact ih1 _ _ _ _
   | exact ih2 _ _ _ _
   | exact ih3 _ _ _ _ _
   | exact intervalmonref03_Text.mono _ _ _
   | exact intervalmonref03_digits.mono _ _ _
   | exact LeO.none _
   | refine LeO.ite ?_ ?_
   | refine LeO.bind ?_ (fun _ => ?_)
theorem intervalmonref03_Parse.mono : ∀ a0 k, LeO (intervalmonref03_Parse.f k a0) (intervalmonref03_Parse.f (k + 1) a0) := by
 intro a0 k
 obtain ⟨ih0, ih1, ih2, ih3⟩ := intervalmonref03_Parse.mono_l k
 unfold intervalmonref03_Parse.f
 repeat' first
   | (with_reducible exact ih0 _ _ _ _ _)
   | (with_reducible exact ih1 _ _ _ _)
   | (with_reducible exact ih2 _ _ _ _)
   | (with_reducible exact ih3 _ _ _ _ _)
   | (with_reducible exact intervalmonref03_Text.mono _ _ _)
   | (with_reducible exact intervalmonref03_digits.mono _ _ _)
   | (with_reducible exact LeO.refl _)
   | (with_reducible exact LeO.none _)
   | (with_reducible refine LeO.ite ?_ ?_)
   | (with_reducible refine LeO.bind ?_ (fun _ => ?_))
   | exact ih0 _ _ _ _ _
   | exact ih1 _ _ _ _
   | exact ih2 _ _ _ _
   | exact ih3 _ _ _ _ _
   | exact intervalmonref03_Text.mono _ _ _
   | exact intervalmonref03_digits.mono _ _ _
   | exact LeO.none _
   | refine LeO.ite ?_ ?_
   | refine LeO.bind ?_ (fun _ => ?_)
set_option maxHeartbeats 8000000 in
set_option maxRecDepth 100000 in
theorem intervalmonref03_Parse.calls (k : Nat) (a0 : ByteArray) (r1 : Int) (r2 : Int) (r3 : Int) (w : World) (h : intervalmonref03_Parse.f k a0 = some (r1, r2, r3)) :
  Calls Tryd.prog 34 #[.string a0] w fun e w' => e = .returned (.tuple #[.agg #[.int .i64 r1, .int .i64 r2], .int .i64 r3]) ∧ Below w.heap.size w w' := by
 have hu24 := Tryd.underlying24
 have HB := Aside0.mk (Below.refl w.heap.size w)
 have H : (if (a0.size : Int) > 0 then (if 0 < (a0.size : Int) then (intervalmonref03_Parse.j0 k a0 0 ((bt a0 0) == 45) 0 1) else (none)) else (intervalmonref03_Parse.j0 k a0 0 false 0 1)) = some (r1, r2, r3) := h
 clear h
 have HC2 := Aside0.mk H
 clear H
 go_enter Tryd.func34, Tryd.ntmps34
 go_upto_region 3 with (first | ((with_reducible refine gate_dst (N := 2) rfl ?_); refine box_event ?hg (N := 2) ?hd (cs := #[.int .i64 0, .int .i64 0]) (t := 24) ?hr ?_; (case hd => rfl); (case hg => rfl); (case hr => first | (go_simp; done) | (go_simp; rfl)); intro gb432 hg w3 hbox hb; have n0_ := Aside0.mk (below_step (hq HB) hb); have n1_ := Aside0.mk (hbox); have n2_ := Aside0.mk ((by rw [hg]; exact (below_size (hq HB)) : w.heap.size ≤ gb432)); have n3_ := Aside0.mk ((by rw [hg]; exact (below_size (hq HB)) : w.heap.size ≤ gb432)); clear HB; have HB := n0_; have BK432 := n1_; have GW432 := n2_; have GE432 := n3_; clear n0_ n1_ n2_ n3_; clear hb hbox hg) | ((with_reducible refine gate_dst (N := 4) rfl ?_); refine box_event ?hg (N := 4) ?hd (cs := #[.int .i64 0, .int .i64 0]) (t := 24) ?hr ?_; (case hd => rfl); (case hg => rfl); (case hr => first | (go_simp; done) | (go_simp; rfl)); intro gb433 hg w4 hbox hb; have n0_ := bb BK432 hb; have n1_ := Aside0.mk (below_step (hq HB) hb); have n2_ := Aside0.mk (hbox); have n3_ := Aside0.mk ((by rw [hg]; exact (below_size (hq HB)) : w.heap.size ≤ gb433)); have n4_ := Aside0.mk ((by rw [hg]; exact (below_size (hq HB)) : w.heap.size ≤ gb433)); have n5_ := nl BK432 hg; have n6_ := ng BK432 hg; clear BK432; clear HB; have BK432 := n0_; have HB := n1_; have BK433 := n2_; have GW433 := n3_; have GE433 := n4_; have NB432_433 := n5_; have NB433_432 := n6_; clear n0_ n1_ n2_ n3_ n4_ n5_ n6_; clear hb hbox hg; have hnb5 := NB433_432.out; have hnc5 := NB432_433.out; have hcz6_0 : w4.cell? ⟨gb433, 0, none⟩ = some (.int .i64 0) := (blk_cell BK433.out 0).trans rfl; have hcz6_1 : w4.cell? ⟨gb433, 1, none⟩ = some (.int .i64 0) := (blk_cell BK433.out 1).trans rfl; have hfz6_0 := blk_frozen BK433.out 0; have hfz6_1 := blk_frozen BK433.out 1))
 (try simp only [Act.put, List.setIfInBounds_toArray, List.set_cons_zero, List.set_cons_succ])
 go_cut [18] (fun v18 wc => ∃ (kq : Nat) (x18_1 : Bool), v18 = .bool x18_1 ∧ Aside0 (intervalmonref03_Parse.j0 kq a0 0 x18_1 0 1 = some (r1, r2, r3)) ∧ Aside0 (kq ≤ k) ∧ Aside0 (wc.heap[gb432]? = some (.cells #[.int .i64 0, .int .i64 0] 24 (0, 0))) ∧ Aside0 (wc.heap[gb433]? = some (.cells #[.int .i64 0, .int .i64 1] 24 (0, 0))) ∧ Aside0 (Below w.heap.size w wc))
 case first =>
  have H := HC2.out
  clear HC2
  by_cases c7 : (a0.size : Int) > 0
  ·rw [if_pos c7] at H
   have c7b0 : decide (0 < (a0.size : Int)) = true := decide_eq_true c7
   have c7b1 : decide (0 < a0.size) = true := decide_eq_true (by omega)
   clear c7
   (first | rw [c7b0] | (simp only [i64_w, i32_w]; rw [c7b0]) | skip)
   by_cases c8 : 0 < (a0.size : Int)
   ·rw [if_pos c8] at H
    have c8b0 : decide (0 < (a0.size : Int)) = true := decide_eq_true c8
    have c8b1 : decide (0 < a0.size) = true := decide_eq_true (by omega)
    clear c8
    have H' := Aside0.mk H
    clear H
    have p9 : 0 ≤ (0 : Int) := (by omega)
    have q9 : 0 < a0.size := (by have : (0 : Int) < (a0.size : Int) := of_decide_eq_true (by first | (with_reducible assumption) | assumption); omega)
    have hx9 : ∀ h : 0 < a0.size, ((a0[0]'h).toNat : Int) = bt a0 0 := bt_at a0 0
    clear p9
    have qi9 : (0 < (a0.size : Int)) = True := eq_true (of_decide_eq_true (by first | (with_reducible assumption) | assumption))
    replace q9 := eq_true q9
    go_wp2
    go_meet
    case rel => exact ⟨_, (((bt a0 0) == 45)), (by first | rfl | (simp; done) | (simp [*]; done)), H', ⟨by first | omega | exact Nat.le_refl _⟩, ⟨by (with_reducible repeat (first | refine bN ?_ _ | refine bd ?_ | refine ba ?_ _)); refine blk_far ?_ NB432_433.out _; (with_reducible repeat (first | refine bN ?_ _ | refine bd ?_ | refine ba ?_ _)); refine blk_far ?_ NB432_433.out _; (with_reducible repeat (first | refine bN ?_ _ | refine bd ?_ | refine ba ?_ _)); exact BK432.out⟩, ⟨by (with_reducible repeat (first | refine bN ?_ _ | refine bd ?_ | refine ba ?_ _)); refine blk_put (cs := #[.int .i64 0, .int .i64 0]) ?_ 1 _ rfl; (with_reducible repeat (first | refine bN ?_ _ | refine bd ?_ | refine ba ?_ _)); refine blk_put (cs := #[.int .i64 0, .int .i64 0]) ?_ 0 _ rfl; (with_reducible repeat (first | refine bN ?_ _ | refine bd ?_ | refine ba ?_ _)); exact BK433.out⟩, ⟨by repeat (first | (with_reducible first | exact HB.out | apply below_alloc | apply pw_below_drewN | apply below_drew1 | refine below_set ?_ GE432.out | refine below_set ?_ GE433.out) | exact HB.out)⟩⟩
   ·rw [if_neg c8] at H
    exact absurd H (by simp)
  ·rw [if_neg c7] at H
   have c7b0 : decide (0 < (a0.size : Int)) = false := decide_eq_false c7
   have c7b1 : decide (0 < a0.size) = false := decide_eq_false (by omega)
   clear c7
   (first | rw [c7b0] | (simp only [i64_w, i32_w]; rw [c7b0]) | skip)
   have H' := Aside0.mk H
   clear H
   go_wp2
   go_meet
   case rel => exact ⟨_, (false), (by first | rfl | (simp; done) | (simp [*]; done)), H', ⟨by first | omega | exact Nat.le_refl _⟩, ⟨by (with_reducible repeat (first | refine bN ?_ _ | refine bd ?_ | refine ba ?_ _)); refine blk_far ?_ NB432_433.out _; (with_reducible repeat (first | refine bN ?_ _ | refine bd ?_ | refine ba ?_ _)); refine blk_far ?_ NB432_433.out _; (with_reducible repeat (first | refine bN ?_ _ | refine bd ?_ | refine ba ?_ _)); exact BK432.out⟩, ⟨by (with_reducible repeat (first | refine bN ?_ _ | refine bd ?_ | refine ba ?_ _)); refine blk_put (cs := #[.int .i64 0, .int .i64 0]) ?_ 1 _ rfl; (with_reducible repeat (first | refine bN ?_ _ | refine bd ?_ | refine ba ?_ _)); refine blk_put (cs := #[.int .i64 0, .int .i64 0]) ?_ 0 _ rfl; (with_reducible repeat (first | refine bN ?_ _ | refine bd ?_ | refine ba ?_ _)); exact BK433.out⟩, ⟨by repeat (first | (with_reducible first | exact HB.out | apply below_alloc | apply pw_below_drewN | apply below_drew1 | refine below_set ?_ GE432.out | refine below_set ?_ GE433.out) | exact HB.out)⟩⟩
 case rest =>
  clear HC2
  try clear p2
  try clear c3
  try clear c5
  try clear c7
  try clear c7b0
  try clear c7b1
  try clear c8
  try clear c8b0
  try clear c8b1
  try clear p9
  try clear q9
  try clear hx9
  try clear qi9
  try clear hcz6_0
  try clear hcz6_1
  try clear hfz6_0
  try clear hfz6_1
  try clear p9
  try clear q9
  obtain ⟨kq, x18_1, rfl, HA, HJ1, BK432, BK433, HB⟩ := hcut
  cases kq with
  | zero => exact absurd HA.out (by simp [intervalmonref03_Parse.j0])
  | succ kj1 =>
   have H := HA.out
   clear HA
   simp only [intervalmonref03_Parse.j0] at H
   have HC10 := Aside0.mk H
   clear H
   go_upto_if 18 with (fail)
   go_cut [5] (fun v5 wc => ∃ (kq : Nat) (x5_9 : Int), v5 = .int .i64 x5_9 ∧ Aside0 (intervalmonref03_Parse.j1 kq a0 x5_9 0 1 = some (r1, r2, r3)) ∧ Aside0 (kq ≤ kj1) ∧ Aside0 (wc.heap[gb432]? = some (.cells #[.int .i64 0, .int .i64 0] 24 (0, 0))) ∧ Aside0 (wc.heap[gb433]? = some (.cells #[.int .i64 0, .int .i64 1] 24 (0, 0))) ∧ Aside0 (Below w.heap.size w wc))
   case first =>
    have H := HC10.out
    clear HC10
    by_cases c11 : x18_1 = true
    ·subst c11
     have H1 : (intervalmonref03_Parse.j1 kj1 a0 1 0 1) = some (r1, r2, r3) := by rw [if_pos rfl] at H; exact H
     clear H
     have H := H1
     clear H1
     have H' := Aside0.mk H
     clear H
     go_wp2
     go_meet
     case rel => exact ⟨_, (1), (by first | rfl | (simp; done) | (simp [*]; done)), H', ⟨by have := HJ1.out; first | omega | exact Nat.le_refl _⟩, ⟨by (with_reducible repeat (first | refine bN ?_ _ | refine bd ?_ | refine ba ?_ _)); exact BK432.out⟩, ⟨by (with_reducible repeat (first | refine bN ?_ _ | refine bd ?_ | refine ba ?_ _)); exact BK433.out⟩, ⟨by repeat (first | (with_reducible first | exact HB.out | apply below_alloc | apply pw_below_drewN | apply below_drew1 | refine below_set ?_ GE432.out | refine below_set ?_ GE433.out) | exact HB.out)⟩⟩
    ·replace c11 := Bool.eq_false_iff.mpr c11
     subst c11
     have H1 : (intervalmonref03_Parse.j1 kj1 a0 0 0 1) = some (r1, r2, r3) := by rw [if_neg (show ¬ (false = true) by decide)] at H; exact H
     clear H
     have H := H1
     clear H1
     have H' := Aside0.mk H
     clear H
     go_wp2
     go_meet
     case rel => exact ⟨_, (0), (by first | rfl | (simp; done) | (simp [*]; done)), H', ⟨by have := HJ1.out; first | omega | exact Nat.le_refl _⟩, ⟨by (with_reducible repeat (first | refine bN ?_ _ | refine bd ?_ | refine ba ?_ _)); exact BK432.out⟩, ⟨by (with_reducible repeat (first | refine bN ?_ _ | refine bd ?_ | refine ba ?_ _)); exact BK433.out⟩, ⟨by repeat (first | (with_reducible first | exact HB.out | apply below_alloc | apply pw_below_drewN | apply below_drew1 | refine below_set ?_ GE432.out | refine below_set ?_ GE433.out) | exact HB.out)⟩⟩
   case rest =>
    clear HC10
    try clear c1
    try clear p2
    try clear c3
    try clear c5
    try clear c7
    try clear c7b0
    try clear c7b1
    try clear c8
    try clear c8b0
    try clear c8b1
    try clear p9
    try clear q9
    try clear hx9
    try clear qi9
    try clear c11
    try clear hcz6_0
    try clear hcz6_1
    try clear hfz6_0
    try clear hfz6_1
    try clear p2
    try clear p9
    try clear q9
    obtain ⟨kq, x5_9, rfl, HA, HJ9, BK432, BK433, HB⟩ := hcut
    cases kq with
    | zero => exact absurd HA.out (by simp [intervalmonref03_Parse.j1])
    | succ kj9 =>
     have H := HA.out
     clear HA
     simp only [intervalmonref03_Parse.j1] at H
     replace H := Option.bind_eq_some_iff.mp H
     obtain ⟨⟨t434, t435⟩, A120, H⟩ := H
     replace H : (if t435 < 0 then (some (0, 0, 2)) else (if x5_9 = 1 then (intervalmonref03_Parse.j2 kj9 a0 t435 (wrap64 (-t434)) 1) else (intervalmonref03_Parse.j2 kj9 a0 t435 t434 1))) = some (r1, r2, r3) := H
     have A12 := Aside0.mk A120
     clear A120
     by_cases c13 : t435 < 0
     ·rw [if_pos c13] at H
      have c13b0 : decide (t435 < 0) = true := decide_eq_true c13
      clear c13
      simp only [Option.some.injEq, Prod.mk.injEq] at H
      obtain ⟨rfl, rfl, rfl⟩ := H
      go_wp2_with (first | ((with_reducible refine gate_callee (f := 68) rfl ?_); refine goesL_ (some 22) rfl rfl Tryd.func68 (by kernel_rfl) rfl #[.string a0, .int .i64 x5_9] rfl aq ?_; (with_reducible refine (intervalmonref03_digits.calls kj9 a0 x5_9 t434 t435 _ A12.out).mono ?_); rintro e w14 ⟨rfl, hb⟩; refine ⟨_, rfl, ?_⟩; have n0_ := bb BK432 hb; have n1_ := bb BK433 hb; have n2_ := Aside0.mk (below_step (hq HB) hb); clear BK432; clear BK433; clear HB; have BK432 := n0_; have BK433 := n1_; have HB := n2_; clear n0_ n1_ n2_; (try clear hb); (try clear hb2); (try clear hk); (try clear hi); have hnb15 := NB432_433.out; have hnc15 := NB433_432.out; have hcz16_0 : w14.cell? ⟨gb432, 0, none⟩ = some (.int .i64 0) := (blk_cell BK432.out 0).trans rfl; have hcz16_1 : w14.cell? ⟨gb432, 1, none⟩ = some (.int .i64 0) := (blk_cell BK432.out 1).trans rfl; have hfz16_0 := blk_frozen BK432.out 0; have hfz16_1 := blk_frozen BK432.out 1))
      refine bodyPost_ret (results_ct rfl _ _ gb432 24 #[.int .i64 0, .int .i64 0] (0, 0) _ rfl (by (with_reducible repeat (first | refine bN ?_ _ | refine bd ?_ | refine ba ?_ _)); refine blk_put (cs := #[.int .i64 0, .int .i64 0]) ?_ 1 _ rfl; (with_reducible repeat (first | refine bN ?_ _ | refine bd ?_ | refine ba ?_ _)); refine blk_put (cs := #[.int .i64 0, .int .i64 0]) ?_ 0 _ rfl; (with_reducible repeat (first | refine bN ?_ _ | refine bd ?_ | refine ba ?_ _)); exact BK432.out) Tryd.underlying24 rfl (by kernel_rfl)) rfl ?_
      exact ⟨by first | rfl | (simp [errW_none, errW_some] <;> rfl) | (simp [*, errW_none, errW_some] <;> rfl), by repeat (first | (with_reducible first | exact HB.out | apply below_alloc | apply pw_below_drewN | apply below_drew1 | refine below_set ?_ GE432.out | refine below_set ?_ GE433.out) | exact HB.out)⟩
     ·rw [if_neg c13] at H
      have c13b0 : decide (t435 < 0) = false := decide_eq_false c13
      clear c13
      have HC17 := Aside0.mk H
      clear H
      go_upto_if 31 with (first | ((with_reducible refine gate_callee (f := 68) rfl ?_); refine goesL_ (some 22) rfl rfl Tryd.func68 (by kernel_rfl) rfl #[.string a0, .int .i64 x5_9] rfl aq ?_; (with_reducible refine (intervalmonref03_digits.calls kj9 a0 x5_9 t434 t435 _ A12.out).mono ?_); rintro e w18 ⟨rfl, hb⟩; refine ⟨_, rfl, ?_⟩; have n0_ := bb BK432 hb; have n1_ := bb BK433 hb; have n2_ := Aside0.mk (below_step (hq HB) hb); clear BK432; clear BK433; clear HB; have BK432 := n0_; have BK433 := n1_; have HB := n2_; clear n0_ n1_ n2_; (try clear hb); (try clear hb2); (try clear hk); (try clear hi); have hnb19 := NB433_432.out; have hnc19 := NB432_433.out; have hcz20_0 : w18.cell? ⟨gb433, 0, none⟩ = some (.int .i64 0) := (blk_cell BK433.out 0).trans rfl; have hcz20_1 : w18.cell? ⟨gb433, 1, none⟩ = some (.int .i64 1) := (blk_cell BK433.out 1).trans rfl; have hfz20_0 := blk_frozen BK433.out 0; have hfz20_1 := blk_frozen BK433.out 1))
      (try simp only [Act.put, List.setIfInBounds_toArray, List.set_cons_zero, List.set_cons_succ])
      go_cut [] (fun wc => ∃ (kq : Nat) (x434000_16 : Int), Aside0 (intervalmonref03_Parse.j2 kq a0 t435 x434000_16 1 = some (r1, r2, r3)) ∧ Aside0 (kq ≤ kj9) ∧ Aside0 (wc.heap[gb432]? = some (.cells #[.int .i64 0, .int .i64 0] 24 (0, 0))) ∧ Aside0 (wc.heap[gb433]? = some (.cells #[.int .i64 x434000_16, .int .i64 1] 24 (0, 0))) ∧ Aside0 (Below w.heap.size w wc))
      case first =>
       have H := HC17.out
       clear HC17
       by_cases c21 : x5_9 = 1
       ·rw [if_pos c21] at H
        have c21b0 : (x5_9 == 1) = true := beq_iff_eq.mpr c21
        have c21b1 : (x5_9 != 1) = false := bne_eq_false_iff_eq.mpr c21
        clear c21
        (first | rw [c21b0] | (simp only [i64_w, i32_w]; rw [c21b0]) | skip)
        have H' := Aside0.mk H
        clear H
        have hnb22 := NB433_432.out
        have hnc22 := NB432_433.out
        have hcz23_0 : w18.cell? ⟨gb433, 0, none⟩ = some (.int .i64 0) := (blk_cell BK433.out 0).trans rfl
        have hcz23_1 : w18.cell? ⟨gb433, 1, none⟩ = some (.int .i64 1) := (blk_cell BK433.out 1).trans rfl
        have hfz23_0 := blk_frozen BK433.out 0
        have hfz23_1 := blk_frozen BK433.out 1
        go_wp2
        go_meet
        case rel => exact ⟨_, (wrap64 (-t434)), H', ⟨by have := HJ1.out; have := HJ9.out; first | omega | exact Nat.le_refl _⟩, ⟨by (with_reducible repeat (first | refine bN ?_ _ | refine bd ?_ | refine ba ?_ _)); refine blk_far ?_ NB432_433.out _; (with_reducible repeat (first | refine bN ?_ _ | refine bd ?_ | refine ba ?_ _)); refine blk_far ?_ NB432_433.out _; (with_reducible repeat (first | refine bN ?_ _ | refine bd ?_ | refine ba ?_ _)); exact BK432.out⟩, ⟨by (with_reducible repeat (first | refine bN ?_ _ | refine bd ?_ | refine ba ?_ _)); refine blk_put (cs := #[.int .i64 t434, .int .i64 1]) ?_ 0 _ rfl; (with_reducible repeat (first | refine bN ?_ _ | refine bd ?_ | refine ba ?_ _)); refine blk_put (cs := #[.int .i64 0, .int .i64 1]) ?_ 0 _ rfl; (with_reducible repeat (first | refine bN ?_ _ | refine bd ?_ | refine ba ?_ _)); exact BK433.out⟩, ⟨by repeat (first | (with_reducible first | exact HB.out | apply below_alloc | apply pw_below_drewN | apply below_drew1 | refine below_set ?_ GE432.out | refine below_set ?_ GE433.out) | exact HB.out)⟩⟩
       ·rw [if_neg c21] at H
        have c21b0 : (x5_9 == 1) = false := beq_eq_false_iff_ne.mpr c21
        have c21b1 : (x5_9 != 1) = true := bne_iff_ne.mpr c21
        (first | rw [c21b0] | (simp only [i64_w, i32_w]; rw [c21b0]) | skip)
        have H' := Aside0.mk H
        clear H
        go_wp2
        go_meet
        case rel => exact ⟨_, (t434), H', ⟨by have := HJ1.out; have := HJ9.out; first | omega | exact Nat.le_refl _⟩, ⟨by (with_reducible repeat (first | refine bN ?_ _ | refine bd ?_ | refine ba ?_ _)); refine blk_far ?_ NB432_433.out _; (with_reducible repeat (first | refine bN ?_ _ | refine bd ?_ | refine ba ?_ _)); exact BK432.out⟩, ⟨by (with_reducible repeat (first | refine bN ?_ _ | refine bd ?_ | refine ba ?_ _)); refine blk_put (cs := #[.int .i64 0, .int .i64 1]) ?_ 0 _ rfl; (with_reducible repeat (first | refine bN ?_ _ | refine bd ?_ | refine ba ?_ _)); exact BK433.out⟩, ⟨by repeat (first | (with_reducible first | exact HB.out | apply below_alloc | apply pw_below_drewN | apply below_drew1 | refine below_set ?_ GE432.out | refine below_set ?_ GE433.out) | exact HB.out)⟩⟩
      case rest =>
       clear HC17
       try clear c1
       try clear c2
       try clear p2
       try clear c3
       try clear c5
       try clear c6
       try clear p6
       try clear c7
       try clear c7b0
       try clear c7b1
       try clear c8
       try clear c8b0
       try clear c8b1
       try clear p9
       try clear q9
       try clear hx9
       try clear qi9
       try clear c11
       try clear c13
       try clear c13b0
       try clear c15
       try clear c19
       try clear c21
       try clear c21b0
       try clear c21b1
       try clear c22
       try clear hcz16_0
       try clear hcz16_1
       try clear hcz20_0
       try clear hcz20_1
       try clear hcz23_0
       try clear hcz23_1
       try clear hcz6_0
       try clear hcz6_1
       try clear hfz16_0
       try clear hfz16_1
       try clear hfz20_0
       try clear hfz20_1
       try clear hfz23_0
       try clear hfz23_1
       try clear hfz6_0
       try clear hfz6_1
       try clear p2
       try clear p9
       try clear q9
       obtain ⟨kq, x434000_16, HA, HJ16, BK432, BK433, HB⟩ := hcut
       cases kq with
       | zero => exact absurd HA.out (by simp [intervalmonref03_Parse.j2])
       | succ kj16 =>
        have H := HA.out
        clear HA
        simp only [intervalmonref03_Parse.j2] at H
        have HC24 := Aside0.mk H
        clear H
        go_upto_region 11 with (fail)
        go_cut [44] (fun v44 wc => ∃ (kq : Nat) (x44_23 : Bool), v44 = .bool x44_23 ∧ Aside0 (intervalmonref03_Parse.j3 kq a0 t435 x44_23 x434000_16 1 = some (r1, r2, r3)) ∧ Aside0 (kq ≤ kj16) ∧ Aside0 (wc.heap[gb432]? = some (.cells #[.int .i64 0, .int .i64 0] 24 (0, 0))) ∧ Aside0 (wc.heap[gb433]? = some (.cells #[.int .i64 x434000_16, .int .i64 1] 24 (0, 0))) ∧ Aside0 (Below w.heap.size w wc))
        case first =>
         have H := HC24.out
         clear HC24
         by_cases c25 : t435 < (a0.size : Int)
         ·rw [if_pos c25] at H
          have c25b0 : decide (t435 < (a0.size : Int)) = true := decide_eq_true c25
          clear c25
          (first | rw [c25b0] | (simp only [i64_w, i32_w]; rw [c25b0]) | skip)
          by_cases c26 : 0 ≤ t435
          ·rw [if_pos c26] at H
           have c26b0 : decide (0 ≤ t435) = true := decide_eq_true c26
           clear c26
           have H' := Aside0.mk H
           clear H
           have p27 : 0 ≤ (t435 : Int) := of_decide_eq_true (by first | (with_reducible assumption) | assumption)
           have q27 : t435 < (a0.size : Int) := of_decide_eq_true (by first | (with_reducible assumption) | assumption)
           have hx27 := bt_at a0 t435
           replace p27 := eq_true p27
           replace q27 := eq_true q27
           go_wp2
           go_meet
           case rel => exact ⟨_, (((bt a0 t435) == 47)), (by first | rfl | (simp; done) | (simp [*]; done)), H', ⟨by have := HJ1.out; have := HJ9.out; have := HJ16.out; first | omega | exact Nat.le_refl _⟩, ⟨by (with_reducible repeat (first | refine bN ?_ _ | refine bd ?_ | refine ba ?_ _)); exact BK432.out⟩, ⟨by (with_reducible repeat (first | refine bN ?_ _ | refine bd ?_ | refine ba ?_ _)); exact BK433.out⟩, ⟨by repeat (first | (with_reducible first | exact HB.out | apply below_alloc | apply pw_below_drewN | apply below_drew1 | refine below_set ?_ GE432.out | refine below_set ?_ GE433.out) | exact HB.out)⟩⟩
          ·rw [if_neg c26] at H
           exact absurd H (by simp)
         ·rw [if_neg c25] at H
          have c25b0 : decide (t435 < (a0.size : Int)) = false := decide_eq_false c25
          clear c25
          (first | rw [c25b0] | (simp only [i64_w, i32_w]; rw [c25b0]) | skip)
          have H' := Aside0.mk H
          clear H
          go_wp2
          go_meet
          case rel => exact ⟨_, (false), (by first | rfl | (simp; done) | (simp [*]; done)), H', ⟨by have := HJ1.out; have := HJ9.out; have := HJ16.out; first | omega | exact Nat.le_refl _⟩, ⟨by (with_reducible repeat (first | refine bN ?_ _ | refine bd ?_ | refine ba ?_ _)); exact BK432.out⟩, ⟨by (with_reducible repeat (first | refine bN ?_ _ | refine bd ?_ | refine ba ?_ _)); exact BK433.out⟩, ⟨by repeat (first | (with_reducible first | exact HB.out | apply below_alloc | apply pw_below_drewN | apply below_drew1 | refine below_set ?_ GE432.out | refine below_set ?_ GE433.out) | exact HB.out)⟩⟩
        case rest =>
         clear HC24
         try clear c1
         try clear c2
         try clear p2
         try clear q2
         try clear hx2
         try clear c3
         try clear c5
         try clear c6
         try clear p6
         try clear c7
         try clear c7b0
         try clear c7b1
         try clear c8
         try clear c8b0
         try clear c8b1
         try clear p9
         try clear q9
         try clear hx9
         try clear qi9
         try clear c11
         try clear c13
         try clear c13b0
         try clear c15
         try clear c19
         try clear c21
         try clear c21b0
         try clear c21b1
         try clear c22
         try clear c25
         try clear c25b0
         try clear c26
         try clear c26b0
         try clear p27
         try clear q27
         try clear hx27
         try clear hcz16_0
         try clear hcz16_1
         try clear hcz20_0
         try clear hcz20_1
         try clear hcz23_0
         try clear hcz23_1
         try clear hcz6_0
         try clear hcz6_1
         try clear hfz16_0
         try clear hfz16_1
         try clear hfz20_0
         try clear hfz20_1
         try clear hfz23_0
         try clear hfz23_1
         try clear hfz6_0
         try clear hfz6_1
         try clear p2
         try clear p27
         try clear p6
         try clear p9
         try clear q27
         try clear q9
         obtain ⟨kq, x44_23, rfl, HA, HJ23, BK432, BK433, HB⟩ := hcut
         cases kq with
         | zero => exact absurd HA.out (by simp [intervalmonref03_Parse.j3])
         | succ kj23 =>
          have H := HA.out
          clear HA
          simp only [intervalmonref03_Parse.j3] at H
          by_cases c28 : x44_23 = true
          ·subst c28
           have H1 : ((intervalmonref03_digits.f kj23 a0 (wrap64 (t435 + 1))).bind fun bt436 => (if bt436.2 < 0 then (some (0, 0, 2)) else (if bt436.2 < (a0.size : Int) then (some (0, 0, 2)) else ((intervalmonref03_Text.f kj23 x434000_16 bt436.1).bind fun t438 => (if t438.toList = a0.toList then (some (x434000_16, bt436.1, 0)) else (some (0, 0, 2))))))) = some (r1, r2, r3) := by rw [if_pos rfl] at H; exact H
           clear H
           have H := H1
           clear H1
           replace H := Option.bind_eq_some_iff.mp H
           obtain ⟨⟨t436, t437⟩, A290, H⟩ := H
           replace H : (if t437 < 0 then (some (0, 0, 2)) else (if t437 < (a0.size : Int) then (some (0, 0, 2)) else ((intervalmonref03_Text.f kj23 x434000_16 t436).bind fun t438 => (if t438.toList = a0.toList then (some (x434000_16, t436, 0)) else (some (0, 0, 2)))))) = some (r1, r2, r3) := H
           have A29 := Aside0.mk A290
           clear A290
           by_cases c30 : t437 < 0
           ·rw [if_pos c30] at H
            have c30b0 : decide (t437 < 0) = true := decide_eq_true c30
            clear c30
            simp only [Option.some.injEq, Prod.mk.injEq] at H
            obtain ⟨rfl, rfl, rfl⟩ := H
            go_wp2_with (first | ((with_reducible refine gate_callee (f := 68) rfl ?_); refine goesL_ (some 49) rfl rfl Tryd.func68 (by kernel_rfl) rfl #[.string a0, .int .i64 (wrap64 (t435 + 1))] rfl aq ?_; (with_reducible refine (intervalmonref03_digits.calls kj23 a0 (wrap64 (t435 + 1)) t436 t437 _ A29.out).mono ?_); rintro e w31 ⟨rfl, hb⟩; refine ⟨_, rfl, ?_⟩; have n0_ := bb BK432 hb; have n1_ := bb BK433 hb; have n2_ := Aside0.mk (below_step (hq HB) hb); clear BK432; clear BK433; clear HB; have BK432 := n0_; have BK433 := n1_; have HB := n2_; clear n0_ n1_ n2_; (try clear hb); (try clear hb2); (try clear hk); (try clear hi); have hnb32 := NB432_433.out; have hnc32 := NB433_432.out; have hcz33_0 : w31.cell? ⟨gb432, 0, none⟩ = some (.int .i64 0) := (blk_cell BK432.out 0).trans rfl; have hcz33_1 : w31.cell? ⟨gb432, 1, none⟩ = some (.int .i64 0) := (blk_cell BK432.out 1).trans rfl; have hfz33_0 := blk_frozen BK432.out 0; have hfz33_1 := blk_frozen BK432.out 1))
            refine bodyPost_ret (results_ct rfl _ _ gb432 24 #[.int .i64 0, .int .i64 0] (0, 0) _ rfl (by (with_reducible repeat (first | refine bN ?_ _ | refine bd ?_ | refine ba ?_ _)); refine blk_put (cs := #[.int .i64 0, .int .i64 0]) ?_ 1 _ rfl; (with_reducible repeat (first | refine bN ?_ _ | refine bd ?_ | refine ba ?_ _)); refine blk_put (cs := #[.int .i64 0, .int .i64 0]) ?_ 0 _ rfl; (with_reducible repeat (first | refine bN ?_ _ | refine bd ?_ | refine ba ?_ _)); exact BK432.out) Tryd.underlying24 rfl (by kernel_rfl)) rfl ?_
            exact ⟨by first | rfl | (simp [errW_none, errW_some] <;> rfl) | (simp [*, errW_none, errW_some] <;> rfl), by repeat (first | (with_reducible first | exact HB.out | apply below_alloc | apply pw_below_drewN | apply below_drew1 | refine below_set ?_ GE432.out | refine below_set ?_ GE433.out) | exact HB.out)⟩
           ·rw [if_neg c30] at H
            have c30b0 : decide (t437 < 0) = false := decide_eq_false c30
            clear c30
            by_cases c34 : t437 < (a0.size : Int)
            ·rw [if_pos c34] at H
             have c34b0 : decide (t437 < (a0.size : Int)) = true := decide_eq_true c34
             clear c34
             simp only [Option.some.injEq, Prod.mk.injEq] at H
             obtain ⟨rfl, rfl, rfl⟩ := H
             go_wp2_with (first | ((with_reducible refine gate_callee (f := 68) rfl ?_); refine goesL_ (some 49) rfl rfl Tryd.func68 (by kernel_rfl) rfl #[.string a0, .int .i64 (wrap64 (t435 + 1))] rfl aq ?_; (with_reducible refine (intervalmonref03_digits.calls kj23 a0 (wrap64 (t435 + 1)) t436 t437 _ A29.out).mono ?_); rintro e w35 ⟨rfl, hb⟩; refine ⟨_, rfl, ?_⟩; have n0_ := bb BK432 hb; have n1_ := bb BK433 hb; have n2_ := Aside0.mk (below_step (hq HB) hb); clear BK432; clear BK433; clear HB; have BK432 := n0_; have BK433 := n1_; have HB := n2_; clear n0_ n1_ n2_; (try clear hb); (try clear hb2); (try clear hk); (try clear hi); have hnb36 := NB433_432.out; have hnc36 := NB432_433.out; have hcz37_0 : w35.cell? ⟨gb433, 0, none⟩ = some (.int .i64 x434000_16) := (blk_cell BK433.out 0).trans rfl; have hcz37_1 : w35.cell? ⟨gb433, 1, none⟩ = some (.int .i64 1) := (blk_cell BK433.out 1).trans rfl; have hfz37_0 := blk_frozen BK433.out 0; have hfz37_1 := blk_frozen BK433.out 1; have hcz38_0 : w35.cell? ⟨gb432, 0, none⟩ = some (.int .i64 0) := (blk_cell BK432.out 0).trans rfl; have hcz38_1 : w35.cell? ⟨gb432, 1, none⟩ = some (.int .i64 0) := (blk_cell BK432.out 1).trans rfl; have hfz38_0 := blk_frozen BK432.out 0; have hfz38_1 := blk_frozen BK432.out 1))
             refine bodyPost_ret (results_ct rfl _ _ gb432 24 #[.int .i64 0, .int .i64 0] (0, 0) _ rfl (by (with_reducible repeat (first | refine bN ?_ _ | refine bd ?_ | refine ba ?_ _)); refine blk_put (cs := #[.int .i64 0, .int .i64 0]) ?_ 1 _ rfl; (with_reducible repeat (first | refine bN ?_ _ | refine bd ?_ | refine ba ?_ _)); refine blk_put (cs := #[.int .i64 0, .int .i64 0]) ?_ 0 _ rfl; (with_reducible repeat (first | refine bN ?_ _ | refine bd ?_ | refine ba ?_ _)); refine blk_far ?_ NB432_433.out _; (with_reducible repeat (first | refine bN ?_ _ | refine bd ?_ | refine ba ?_ _)); exact BK432.out) Tryd.underlying24 rfl (by kernel_rfl)) rfl ?_
             exact ⟨by first | rfl | (simp [errW_none, errW_some] <;> rfl) | (simp [*, errW_none, errW_some] <;> rfl), by repeat (first | (with_reducible first | exact HB.out | apply below_alloc | apply pw_below_drewN | apply below_drew1 | refine below_set ?_ GE432.out | refine below_set ?_ GE433.out) | exact HB.out)⟩
            ·rw [if_neg c34] at H
             have c34b0 : decide (t437 < (a0.size : Int)) = false := decide_eq_false c34
             clear c34
             replace H := Option.bind_eq_some_iff.mp H
             obtain ⟨t438, A390, H⟩ := H
             replace H : (if t438.toList = a0.toList then (some (x434000_16, t436, 0)) else (some (0, 0, 2))) = some (r1, r2, r3) := H
             have A39 := Aside0.mk A390
             clear A390
             by_cases c40 : t438.toList = a0.toList
             ·rw [if_pos c40] at H
              have c40b0 : (t438.toList == a0.toList) = true := beq_iff_eq.mpr c40
              have c40b1 : (t438.toList != a0.toList) = false := bne_eq_false_iff_eq.mpr c40
              clear c40
              simp only [Option.some.injEq, Prod.mk.injEq] at H
              obtain ⟨rfl, rfl, rfl⟩ := H
              go_wp2_with (first | ((with_reducible refine gate_callee (f := 68) rfl ?_); refine goesL_ (some 49) rfl rfl Tryd.func68 (by kernel_rfl) rfl #[.string a0, .int .i64 (wrap64 (t435 + 1))] rfl aq ?_; (with_reducible refine (intervalmonref03_digits.calls kj23 a0 (wrap64 (t435 + 1)) t436 t437 _ A29.out).mono ?_); rintro e w41 ⟨rfl, hb⟩; refine ⟨_, rfl, ?_⟩; have n0_ := bb BK432 hb; have n1_ := bb BK433 hb; have n2_ := Aside0.mk (below_step (hq HB) hb); clear BK432; clear BK433; clear HB; have BK432 := n0_; have BK433 := n1_; have HB := n2_; clear n0_ n1_ n2_; (try clear hb); (try clear hb2); (try clear hk); (try clear hi); have hnb42 := NB433_432.out; have hnc42 := NB432_433.out; have hcz43_0 : w41.cell? ⟨gb433, 0, none⟩ = some (.int .i64 x434000_16) := (blk_cell BK433.out 0).trans rfl; have hcz43_1 : w41.cell? ⟨gb433, 1, none⟩ = some (.int .i64 1) := (blk_cell BK433.out 1).trans rfl; have hfz43_0 := blk_frozen BK433.out 0; have hfz43_1 := blk_frozen BK433.out 1) | (go_at_call 32; (with_reducible refine (intervalmonref03_Text.calls kj23 x434000_16 t436 t438 _ A39.out).mono ?_); rintro e w44 ⟨rfl, hb⟩; have n0_ := Aside0.mk (blk_below (g := gb432) (o := .cells #[.int .i64 0, .int .i64 0] 24 (0, 0)) (by (with_reducible repeat (first | refine bN ?_ _ | refine bd ?_ | refine ba ?_ _)); refine blk_far ?_ NB432_433.out _; (with_reducible repeat (first | refine bN ?_ _ | refine bd ?_ | refine ba ?_ _)); exact BK432.out) hb); have n1_ := Aside0.mk (blk_below (g := gb433) (o := .cells #[.int .i64 x434000_16, .int .i64 t436] 24 (0, 0)) (by (with_reducible repeat (first | refine bN ?_ _ | refine bd ?_ | refine ba ?_ _)); refine blk_put (cs := #[.int .i64 x434000_16, .int .i64 1]) ?_ 1 _ rfl; (with_reducible repeat (first | refine bN ?_ _ | refine bd ?_ | refine ba ?_ _)); exact BK433.out) hb); have n2_ := Aside0.mk (below_step (hq HB) hb); clear BK432; clear BK433; clear HB; have BK432 := n0_; have BK433 := n1_; have HB := n2_; clear n0_ n1_ n2_; (try clear hb); (try clear hb2); (try clear hk); (try clear hi); have hcz45_0 : w44.cell? ⟨gb433, 0, none⟩ = some (.int .i64 x434000_16) := (blk_cell BK433.out 0).trans rfl; have hcz45_1 : w44.cell? ⟨gb433, 1, none⟩ = some (.int .i64 t436) := (blk_cell BK433.out 1).trans rfl; have hfz45_0 := blk_frozen BK433.out 0; have hfz45_1 := blk_frozen BK433.out 1; have hcz46_0 : w44.cell? ⟨gb432, 0, none⟩ = some (.int .i64 0) := (blk_cell BK432.out 0).trans rfl; have hcz46_1 : w44.cell? ⟨gb432, 1, none⟩ = some (.int .i64 0) := (blk_cell BK432.out 1).trans rfl; have hfz46_0 := blk_frozen BK432.out 0; have hfz46_1 := blk_frozen BK432.out 1))
              refine bodyPost_ret (results_ct rfl _ _ gb432 24 #[.int .i64 x434000_16, .int .i64 t436] (0, 0) _ rfl (by (with_reducible repeat (first | refine bN ?_ _ | refine bd ?_ | refine ba ?_ _)); refine blk_put (cs := #[.int .i64 x434000_16, .int .i64 0]) ?_ 1 _ rfl; (with_reducible repeat (first | refine bN ?_ _ | refine bd ?_ | refine ba ?_ _)); refine blk_put (cs := #[.int .i64 0, .int .i64 0]) ?_ 0 _ rfl; (with_reducible repeat (first | refine bN ?_ _ | refine bd ?_ | refine ba ?_ _)); exact BK432.out) Tryd.underlying24 rfl (by kernel_rfl)) rfl ?_
              exact ⟨by first | rfl | (simp [errW_none, errW_some] <;> rfl) | (simp [*, errW_none, errW_some] <;> rfl), by repeat (first | (with_reducible first | exact HB.out | apply below_alloc | apply pw_below_drewN | apply below_drew1 | refine below_set ?_ GE432.out | refine below_set ?_ GE433.out) | exact HB.out)⟩
             ·rw [if_neg c40] at H
              have c40b0 : (t438.toList == a0.toList) = false := beq_eq_false_iff_ne.mpr c40
              have c40b1 : (t438.toList != a0.toList) = true := bne_iff_ne.mpr c40
              simp only [Option.some.injEq, Prod.mk.injEq] at H
              obtain ⟨rfl, rfl, rfl⟩ := H
              go_wp2_with (first | ((with_reducible refine gate_callee (f := 68) rfl ?_); refine goesL_ (some 49) rfl rfl Tryd.func68 (by kernel_rfl) rfl #[.string a0, .int .i64 (wrap64 (t435 + 1))] rfl aq ?_; (with_reducible refine (intervalmonref03_digits.calls kj23 a0 (wrap64 (t435 + 1)) t436 t437 _ A29.out).mono ?_); rintro e w47 ⟨rfl, hb⟩; refine ⟨_, rfl, ?_⟩; have n0_ := bb BK432 hb; have n1_ := bb BK433 hb; have n2_ := Aside0.mk (below_step (hq HB) hb); clear BK432; clear BK433; clear HB; have BK432 := n0_; have BK433 := n1_; have HB := n2_; clear n0_ n1_ n2_; (try clear hb); (try clear hb2); (try clear hk); (try clear hi); have hnb48 := NB433_432.out; have hnc48 := NB432_433.out; have hcz49_0 : w47.cell? ⟨gb433, 0, none⟩ = some (.int .i64 x434000_16) := (blk_cell BK433.out 0).trans rfl; have hcz49_1 : w47.cell? ⟨gb433, 1, none⟩ = some (.int .i64 1) := (blk_cell BK433.out 1).trans rfl; have hfz49_0 := blk_frozen BK433.out 0; have hfz49_1 := blk_frozen BK433.out 1) | (go_at_call 32; (with_reducible refine (intervalmonref03_Text.calls kj23 x434000_16 t436 t438 _ A39.out).mono ?_); rintro e w50 ⟨rfl, hb⟩; have n0_ := Aside0.mk (blk_below (g := gb432) (o := .cells #[.int .i64 0, .int .i64 0] 24 (0, 0)) (by (with_reducible repeat (first | refine bN ?_ _ | refine bd ?_ | refine ba ?_ _)); refine blk_far ?_ NB432_433.out _; (with_reducible repeat (first | refine bN ?_ _ | refine bd ?_ | refine ba ?_ _)); exact BK432.out) hb); have n1_ := Aside0.mk (blk_below (g := gb433) (o := .cells #[.int .i64 x434000_16, .int .i64 t436] 24 (0, 0)) (by (with_reducible repeat (first | refine bN ?_ _ | refine bd ?_ | refine ba ?_ _)); refine blk_put (cs := #[.int .i64 x434000_16, .int .i64 1]) ?_ 1 _ rfl; (with_reducible repeat (first | refine bN ?_ _ | refine bd ?_ | refine ba ?_ _)); exact BK433.out) hb); have n2_ := Aside0.mk (below_step (hq HB) hb); clear BK432; clear BK433; clear HB; have BK432 := n0_; have BK433 := n1_; have HB := n2_; clear n0_ n1_ n2_; (try clear hb); (try clear hb2); (try clear hk); (try clear hi); have hcz51_0 : w50.cell? ⟨gb432, 0, none⟩ = some (.int .i64 0) := (blk_cell BK432.out 0).trans rfl; have hcz51_1 : w50.cell? ⟨gb432, 1, none⟩ = some (.int .i64 0) := (blk_cell BK432.out 1).trans rfl; have hfz51_0 := blk_frozen BK432.out 0; have hfz51_1 := blk_frozen BK432.out 1))
              refine bodyPost_ret (results_ct rfl _ _ gb432 24 #[.int .i64 0, .int .i64 0] (0, 0) _ rfl (by (with_reducible repeat (first | refine bN ?_ _ | refine bd ?_ | refine ba ?_ _)); refine blk_put (cs := #[.int .i64 0, .int .i64 0]) ?_ 1 _ rfl; (with_reducible repeat (first | refine bN ?_ _ | refine bd ?_ | refine ba ?_ _)); refine blk_put (cs := #[.int .i64 0, .int .i64 0]) ?_ 0 _ rfl; (with_reducible repeat (first | refine bN ?_ _ | refine bd ?_ | refine ba ?_ _)); exact BK432.out) Tryd.underlying24 rfl (by kernel_rfl)) rfl ?_
              exact ⟨by first | rfl | (simp [errW_none, errW_some] <;> rfl) | (simp [*, errW_none, errW_some] <;> rfl), by repeat (first | (with_reducible first | exact HB.out | apply below_alloc | apply pw_below_drewN | apply below_drew1 | refine below_set ?_ GE432.out | refine below_set ?_ GE433.out) | exact HB.out)⟩
          ·replace c28 := Bool.eq_false_iff.mpr c28
           subst c28
           have H1 : (if t435 < (a0.size : Int) then (some (0, 0, 2)) else ((intervalmonref03_Text.f kj23 x434000_16 1).bind fun t439 => (if t439.toList = a0.toList then (some (x434000_16, 1, 0)) else (some (0, 0, 2))))) = some (r1, r2, r3) := by rw [if_neg (show ¬ (false = true) by decide)] at H; exact H
           clear H
           have H := H1
           clear H1
           by_cases c52 : t435 < (a0.size : Int)
           ·rw [if_pos c52] at H
            have c52b0 : decide (t435 < (a0.size : Int)) = true := decide_eq_true c52
            clear c52
            simp only [Option.some.injEq, Prod.mk.injEq] at H
            obtain ⟨rfl, rfl, rfl⟩ := H
            have hnb53 := NB432_433.out
            have hnc53 := NB433_432.out
            have hcz54_0 : wc.cell? ⟨gb432, 0, none⟩ = some (.int .i64 0) := (blk_cell BK432.out 0).trans rfl
            have hcz54_1 : wc.cell? ⟨gb432, 1, none⟩ = some (.int .i64 0) := (blk_cell BK432.out 1).trans rfl
            have hfz54_0 := blk_frozen BK432.out 0
            have hfz54_1 := blk_frozen BK432.out 1
            go_wp2
            refine bodyPost_ret (results_ct rfl _ _ gb432 24 #[.int .i64 0, .int .i64 0] (0, 0) _ rfl (by (with_reducible repeat (first | refine bN ?_ _ | refine bd ?_ | refine ba ?_ _)); refine blk_put (cs := #[.int .i64 0, .int .i64 0]) ?_ 1 _ rfl; (with_reducible repeat (first | refine bN ?_ _ | refine bd ?_ | refine ba ?_ _)); refine blk_put (cs := #[.int .i64 0, .int .i64 0]) ?_ 0 _ rfl; (with_reducible repeat (first | refine bN ?_ _ | refine bd ?_ | refine ba ?_ _)); exact BK432.out) Tryd.underlying24 rfl (by kernel_rfl)) rfl ?_
            exact ⟨by first | rfl | (simp [errW_none, errW_some] <;> rfl) | (simp [*, errW_none, errW_some] <;> rfl), by repeat (first | (with_reducible first | exact HB.out | apply below_alloc | apply pw_below_drewN | apply below_drew1 | refine below_set ?_ GE432.out | refine below_set ?_ GE433.out) | exact HB.out)⟩
           ·rw [if_neg c52] at H
            have c52b0 : decide (t435 < (a0.size : Int)) = false := decide_eq_false c52
            clear c52
            replace H := Option.bind_eq_some_iff.mp H
            obtain ⟨t439, A550, H⟩ := H
            replace H : (if t439.toList = a0.toList then (some (x434000_16, 1, 0)) else (some (0, 0, 2))) = some (r1, r2, r3) := H
            have A55 := Aside0.mk A550
            clear A550
            by_cases c56 : t439.toList = a0.toList
            ·rw [if_pos c56] at H
             have c56b0 : (t439.toList == a0.toList) = true := beq_iff_eq.mpr c56
             have c56b1 : (t439.toList != a0.toList) = false := bne_eq_false_iff_eq.mpr c56
             clear c56
             simp only [Option.some.injEq, Prod.mk.injEq] at H
             obtain ⟨rfl, rfl, rfl⟩ := H
             have hnb57 := NB433_432.out
             have hnc57 := NB432_433.out
             have hcz58_0 : wc.cell? ⟨gb433, 0, none⟩ = some (.int .i64 x434000_16) := (blk_cell BK433.out 0).trans rfl
             have hcz58_1 : wc.cell? ⟨gb433, 1, none⟩ = some (.int .i64 1) := (blk_cell BK433.out 1).trans rfl
             have hfz58_0 := blk_frozen BK433.out 0
             have hfz58_1 := blk_frozen BK433.out 1
             go_wp2_with (first | (go_at_call 32; (with_reducible refine (intervalmonref03_Text.calls kj23 x434000_16 1 t439 _ A55.out).mono ?_); rintro e w59 ⟨rfl, hb⟩; have n0_ := bb BK432 hb; have n1_ := bb BK433 hb; have n2_ := Aside0.mk (below_step (hq HB) hb); clear BK432; clear BK433; clear HB; have BK432 := n0_; have BK433 := n1_; have HB := n2_; clear n0_ n1_ n2_; (try clear hb); (try clear hb2); (try clear hk); (try clear hi); have hcz60_0 : w59.cell? ⟨gb433, 0, none⟩ = some (.int .i64 x434000_16) := (blk_cell BK433.out 0).trans rfl; have hcz60_1 : w59.cell? ⟨gb433, 1, none⟩ = some (.int .i64 1) := (blk_cell BK433.out 1).trans rfl; have hfz60_0 := blk_frozen BK433.out 0; have hfz60_1 := blk_frozen BK433.out 1; have hcz61_0 : w59.cell? ⟨gb432, 0, none⟩ = some (.int .i64 0) := (blk_cell BK432.out 0).trans rfl; have hcz61_1 : w59.cell? ⟨gb432, 1, none⟩ = some (.int .i64 0) := (blk_cell BK432.out 1).trans rfl; have hfz61_0 := blk_frozen BK432.out 0; have hfz61_1 := blk_frozen BK432.out 1))
             refine bodyPost_ret (results_ct rfl _ _ gb432 24 #[.int .i64 x434000_16, .int .i64 1] (0, 0) _ rfl (by (with_reducible repeat (first | refine bN ?_ _ | refine bd ?_ | refine ba ?_ _)); refine blk_put (cs := #[.int .i64 x434000_16, .int .i64 0]) ?_ 1 _ rfl; (with_reducible repeat (first | refine bN ?_ _ | refine bd ?_ | refine ba ?_ _)); refine blk_put (cs := #[.int .i64 0, .int .i64 0]) ?_ 0 _ rfl; (with_reducible repeat (first | refine bN ?_ _ | refine bd ?_ | refine ba ?_ _)); exact BK432.out) Tryd.underlying24 rfl (by kernel_rfl)) rfl ?_
             exact ⟨by first | rfl | (simp [errW_none, errW_some] <;> rfl) | (simp [*, errW_none, errW_some] <;> rfl), by repeat (first | (with_reducible first | exact HB.out | apply below_alloc | apply pw_below_drewN | apply below_drew1 | refine below_set ?_ GE432.out | refine below_set ?_ GE433.out) | exact HB.out)⟩
            ·rw [if_neg c56] at H
             have c56b0 : (t439.toList == a0.toList) = false := beq_eq_false_iff_ne.mpr c56
             have c56b1 : (t439.toList != a0.toList) = true := bne_iff_ne.mpr c56
             simp only [Option.some.injEq, Prod.mk.injEq] at H
             obtain ⟨rfl, rfl, rfl⟩ := H
             have hnb62 := NB433_432.out
             have hnc62 := NB432_433.out
             have hcz63_0 : wc.cell? ⟨gb433, 0, none⟩ = some (.int .i64 x434000_16) := (blk_cell BK433.out 0).trans rfl
             have hcz63_1 : wc.cell? ⟨gb433, 1, none⟩ = some (.int .i64 1) := (blk_cell BK433.out 1).trans rfl
             have hfz63_0 := blk_frozen BK433.out 0
             have hfz63_1 := blk_frozen BK433.out 1
             go_wp2_with (first | (go_at_call 32; (with_reducible refine (intervalmonref03_Text.calls kj23 x434000_16 1 t439 _ A55.out).mono ?_); rintro e w64 ⟨rfl, hb⟩; have n0_ := bb BK432 hb; have n1_ := bb BK433 hb; have n2_ := Aside0.mk (below_step (hq HB) hb); clear BK432; clear BK433; clear HB; have BK432 := n0_; have BK433 := n1_; have HB := n2_; clear n0_ n1_ n2_; (try clear hb); (try clear hb2); (try clear hk); (try clear hi); have hcz65_0 : w64.cell? ⟨gb432, 0, none⟩ = some (.int .i64 0) := (blk_cell BK432.out 0).trans rfl; have hcz65_1 : w64.cell? ⟨gb432, 1, none⟩ = some (.int .i64 0) := (blk_cell BK432.out 1).trans rfl; have hfz65_0 := blk_frozen BK432.out 0; have hfz65_1 := blk_frozen BK432.out 1))
             refine bodyPost_ret (results_ct rfl _ _ gb432 24 #[.int .i64 0, .int .i64 0] (0, 0) _ rfl (by (with_reducible repeat (first | refine bN ?_ _ | refine bd ?_ | refine ba ?_ _)); refine blk_put (cs := #[.int .i64 0, .int .i64 0]) ?_ 1 _ rfl; (with_reducible repeat (first | refine bN ?_ _ | refine bd ?_ | refine ba ?_ _)); refine blk_put (cs := #[.int .i64 0, .int .i64 0]) ?_ 0 _ rfl; (with_reducible repeat (first | refine bN ?_ _ | refine bd ?_ | refine ba ?_ _)); exact BK432.out) Tryd.underlying24 rfl (by kernel_rfl)) rfl ?_
             exact ⟨by first | rfl | (simp [errW_none, errW_some] <;> rfl) | (simp [*, errW_none, errW_some] <;> rfl), by repeat (first | (with_reducible first | exact HB.out | apply below_alloc | apply pw_below_drewN | apply below_drew1 | refine below_set ?_ GE432.out | refine below_set ?_ GE433.out) | exact HB.out)⟩

/-! ### intervalmonlaw03_FracParses: function 7 -/
def intervalmonlaw03_FracParses.f (k : Nat) (a0 : ByteArray) : Option (Bool) := (intervalmonref01_Short.f a0 45).bind fun t440 => ((frac_Parse.f k t440).bind fun bt441 => ((intervalmonref03_Parse.f k t440).bind fun bt445 => (if (bt441.1 == bt445.1 && (bt441.2.1 == bt445.2.1)) = true then (if bt441.2.2 = bt445.2.2 then ((intervalmonlaw03_lives.f k).bind fun t449 => (some t449)) else (some false)) else (some false))))
theorem intervalmonlaw03_FracParses.mono : ∀ a0 k, LeO (intervalmonlaw03_FracParses.f k a0) (intervalmonlaw03_FracParses.f (k + 1) a0) := by
 intro a0 k
 unfold intervalmonlaw03_FracParses.f
 repeat' first
   | (with_reducible exact frac_Parse.mono _ _)
   | (with_reducible exact intervalmonlaw03_lives.mono _)
   | (with_reducible exact intervalmonref03_Parse.mono _ _)
   | (with_reducible exact LeO.refl _)
   | (with_reducible exact LeO.none _)
   | (with_reducible refine LeO.ite ?_ ?_)
   | (with_reducible refine LeO.bind ?_ (fun _ => ?_))
   | exact frac_Parse.mono _ _
   | exact intervalmonlaw03_lives.mono _
   | exact intervalmonref03_Parse.mono _ _
   | exact LeO.none _
   | refine LeO.ite ?_ ?_
   | refine LeO.bind ?_ (fun _ => ?_)
set_option maxHeartbeats 8000000 in
set_option maxRecDepth 100000 in
theorem intervalmonlaw03_FracParses.calls (k : Nat) (a0 : ByteArray) (r : Bool) (w : World) (hGL : GL w) (h : intervalmonlaw03_FracParses.f k a0 = some r) (hT : r = true := by first | rfl | assumption) :
  Calls Tryd.prog 7 #[.string a0] w fun e w' => e = .returned (.bool r) ∧ Below w.heap.size w w' := by
 have HGL := Aside0.mk hGL
 clear hGL
 have hu24 := Tryd.underlying24
 have HT0 := Aside0.mk hT
 clear hT
 have HB := Aside0.mk (Below.refl w.heap.size w)
 have H : ((intervalmonref01_Short.f a0 45).bind fun t440 => ((frac_Parse.f k t440).bind fun bt441 => ((intervalmonref03_Parse.f k t440).bind fun bt445 => (if (bt441.1 == bt445.1 && (bt441.2.1 == bt445.2.1)) = true then (if bt441.2.2 = bt445.2.2 then ((intervalmonlaw03_lives.f k).bind fun t449 => (some t449)) else (some false)) else (some false))))) = some r := h
 clear h
 replace H := Option.bind_eq_some_iff.mp H
 obtain ⟨t440, A20, H⟩ := H
 replace H : ((frac_Parse.f k t440).bind fun bt441 => ((intervalmonref03_Parse.f k t440).bind fun bt445 => (if (bt441.1 == bt445.1 && (bt441.2.1 == bt445.2.1)) = true then (if bt441.2.2 = bt445.2.2 then ((intervalmonlaw03_lives.f k).bind fun t449 => (some t449)) else (some false)) else (some false)))) = some r := H
 have A2 := Aside0.mk A20
 clear A20
 replace H := Option.bind_eq_some_iff.mp H
 obtain ⟨⟨t441, t442, t443⟩, A30, H⟩ := H
 replace H : ((intervalmonref03_Parse.f k t440).bind fun bt445 => (if (t441 == bt445.1 && (t442 == bt445.2.1)) = true then (if t443 = bt445.2.2 then ((intervalmonlaw03_lives.f k).bind fun t449 => (some t449)) else (some false)) else (some false))) = some r := H
 have A3 := Aside0.mk A30
 clear A30
 replace H := Option.bind_eq_some_iff.mp H
 obtain ⟨⟨t445, t446, t447⟩, A40, H⟩ := H
 replace H : (if (t441 == t445 && (t442 == t446)) = true then (if t443 = t447 then ((intervalmonlaw03_lives.f k).bind fun t449 => (some t449)) else (some false)) else (some false)) = some r := H
 have A4 := Aside0.mk A40
 clear A40
 by_cases c5 : (t441 == t445 && (t442 == t446)) = true
 ·rw [if_pos c5] at H
  have c5b0 : (t441 == t445 && (t442 == t446)) = true := c5
  (try (have c5b1 : decide (t441 = t445 && (t442 == t446)) = true := by simpa using c5))
  (try (have c5b2 : (t441 == t445 && (t442 == t446)) = true := by simpa using c5))
  clear c5
  by_cases c6 : t443 = t447
  ·rw [if_pos c6] at H
   have c6b0 : (t443 == t447) = true := beq_iff_eq.mpr c6
   have c6b1 : (t443 != t447) = false := bne_eq_false_iff_eq.mpr c6
   clear c6
   replace H := Option.bind_eq_some_iff.mp H
   obtain ⟨t449, A70, H⟩ := H
   replace H : (some t449) = some r := H
   have A7 := Aside0.mk A70
   clear A70
   obtain rfl := Option.some.inj H
   go_enter Tryd.func7, Tryd.ntmps7
   go_wp2_with (first | ((with_reducible refine gate_callee (f := 33) rfl ?_); refine goesL_ (some 9) rfl rfl Tryd.func33 (by kernel_rfl) rfl #[.string a0, .int .i64 45] rfl aq ?_; (with_reducible refine (intervalmonref01_Short.calls a0 45 t440 _ A2.out).mono ?_); rintro e w8 ⟨rfl, hb⟩; refine ⟨_, rfl, ?_⟩; have n0_ := Aside0.mk (below_step (hq HB) hb); clear HB; have HB := n0_; clear n0_; (try clear hb); (try clear hb2); (try clear hk); (try clear hi)) | ((with_reducible refine gate_callee (f := 20) rfl ?_); refine goesL_ (some 12) rfl rfl Tryd.func20 (by kernel_rfl) rfl #[.string t440] rfl aq ?_; (with_reducible refine (frac_Parse.calls k t440 t441 t442 t443 _ (glq HGL HB) A3.out).mono ?_); rintro e w9 ⟨rfl, hb⟩; refine ⟨_, rfl, ?_⟩; have n0_ := Aside0.mk (below_step (hq HB) hb); clear HB; have HB := n0_; clear n0_; (try clear hb); (try clear hb2); (try clear hk); (try clear hi)) | ((with_reducible refine gate_dst (N := 4) rfl ?_); refine box_event ?hg (N := 4) ?hd (cs := #[.int .i64 0, .int .i64 0]) (t := 24) ?hr ?_; (case hd => rfl); (case hg => rfl); (case hr => first | (go_simp; done) | (go_simp; rfl)); intro gb444 hg w10 hbox hb; have n0_ := Aside0.mk (below_step (hq HB) hb); have n1_ := Aside0.mk (hbox); have n2_ := Aside0.mk ((by rw [hg]; exact (below_size (hq HB)) : w.heap.size ≤ gb444)); have n3_ := Aside0.mk ((by rw [hg]; exact (below_size (hq HB)) : w.heap.size ≤ gb444)); clear HB; have HB := n0_; have BK444 := n1_; have GW444 := n2_; have GE444 := n3_; clear n0_ n1_ n2_ n3_; clear hb hbox hg; have hcz11_0 : w10.cell? ⟨gb444, 0, none⟩ = some (.int .i64 0) := (blk_cell BK444.out 0).trans rfl; have hcz11_1 : w10.cell? ⟨gb444, 1, none⟩ = some (.int .i64 0) := (blk_cell BK444.out 1).trans rfl; have hfz11_0 := blk_frozen BK444.out 0; have hfz11_1 := blk_frozen BK444.out 1) | ((with_reducible refine gate_callee (f := 34) rfl ?_); refine goesL_ (some 17) rfl rfl Tryd.func34 (by kernel_rfl) rfl #[.string t440] rfl aq ?_; (with_reducible refine (intervalmonref03_Parse.calls k t440 t445 t446 t447 _ A4.out).mono ?_); rintro e w12 ⟨rfl, hb⟩; refine ⟨_, rfl, ?_⟩; have n0_ := Aside0.mk (blk_below (g := gb444) (o := .cells #[.int .i64 t441, .int .i64 t442] 24 (0, 0)) (by (with_reducible repeat (first | refine bN ?_ _ | refine bd ?_ | refine ba ?_ _)); refine blk_put (cs := #[.int .i64 t441, .int .i64 0]) ?_ 1 _ rfl; (with_reducible repeat (first | refine bN ?_ _ | refine bd ?_ | refine ba ?_ _)); refine blk_put (cs := #[.int .i64 0, .int .i64 0]) ?_ 0 _ rfl; (with_reducible repeat (first | refine bN ?_ _ | refine bd ?_ | refine ba ?_ _)); exact BK444.out) hb); have n1_ := Aside0.mk (below_step (hq HB) hb); clear BK444; clear HB; have BK444 := n0_; have HB := n1_; clear n0_ n1_; (try clear hb); (try clear hb2); (try clear hk); (try clear hi)) | ((with_reducible refine gate_dst (N := 6) rfl ?_); refine box_event ?hg (N := 6) ?hd (cs := #[.int .i64 0, .int .i64 0]) (t := 24) ?hr ?_; (case hd => rfl); (case hg => rfl); (case hr => first | (go_simp; done) | (go_simp; rfl)); intro gb448 hg w13 hbox hb; have n0_ := bb BK444 hb; have n1_ := Aside0.mk (below_step (hq HB) hb); have n2_ := Aside0.mk (hbox); have n3_ := Aside0.mk ((by rw [hg]; exact (below_size (hq HB)) : w.heap.size ≤ gb448)); have n4_ := Aside0.mk ((by rw [hg]; exact (below_size (hq HB)) : w.heap.size ≤ gb448)); have n5_ := nl BK444 hg; have n6_ := ng BK444 hg; clear BK444; clear HB; have BK444 := n0_; have HB := n1_; have BK448 := n2_; have GW448 := n3_; have GE448 := n4_; have NB444_448 := n5_; have NB448_444 := n6_; clear n0_ n1_ n2_ n3_ n4_ n5_ n6_; clear hb hbox hg; have hnb14 := NB448_444.out; have hnc14 := NB444_448.out; have hcz15_0 : w13.cell? ⟨gb448, 0, none⟩ = some (.int .i64 0) := (blk_cell BK448.out 0).trans rfl; have hcz15_1 : w13.cell? ⟨gb448, 1, none⟩ = some (.int .i64 0) := (blk_cell BK448.out 1).trans rfl; have hfz15_0 := blk_frozen BK448.out 0; have hfz15_1 := blk_frozen BK448.out 1; have hcz16_0 : w13.cell? ⟨gb444, 0, none⟩ = some (.int .i64 t441) := (blk_cell BK444.out 0).trans rfl; have hcz16_1 : w13.cell? ⟨gb444, 1, none⟩ = some (.int .i64 t442) := (blk_cell BK444.out 1).trans rfl; have hfz16_0 := blk_frozen BK444.out 0; have hfz16_1 := blk_frozen BK444.out 1) | (go_at_call 24; (with_reducible refine (intervalmonlaw03_lives.calls k  t449 _ (glq HGL HB) A7.out).mono ?_); rintro e w17 ⟨rfl, hb⟩; have n0_ := Aside0.mk (blk_below (g := gb444) (o := .cells #[.int .i64 t441, .int .i64 t442] 24 (0, 0)) (by (with_reducible repeat (first | refine bN ?_ _ | refine bd ?_ | refine ba ?_ _)); refine blk_far ?_ NB444_448.out _; (with_reducible repeat (first | refine bN ?_ _ | refine bd ?_ | refine ba ?_ _)); refine blk_far ?_ NB444_448.out _; (with_reducible repeat (first | refine bN ?_ _ | refine bd ?_ | refine ba ?_ _)); exact BK444.out) hb); have n1_ := Aside0.mk (blk_below (g := gb448) (o := .cells #[.int .i64 t445, .int .i64 t446] 24 (0, 0)) (by (with_reducible repeat (first | refine bN ?_ _ | refine bd ?_ | refine ba ?_ _)); refine blk_put (cs := #[.int .i64 t445, .int .i64 0]) ?_ 1 _ rfl; (with_reducible repeat (first | refine bN ?_ _ | refine bd ?_ | refine ba ?_ _)); refine blk_put (cs := #[.int .i64 0, .int .i64 0]) ?_ 0 _ rfl; (with_reducible repeat (first | refine bN ?_ _ | refine bd ?_ | refine ba ?_ _)); exact BK448.out) hb); have n2_ := Aside0.mk (below_step (hq HB) hb); clear BK444; clear BK448; clear HB; have BK444 := n0_; have BK448 := n1_; have HB := n2_; clear n0_ n1_ n2_; (try clear hb); (try clear hb2); (try clear hk); (try clear hi)))
   go_ret
   exact ⟨by first | rfl | (simp [errW_none, errW_some] <;> rfl) | (simp [*, errW_none, errW_some] <;> rfl), by repeat (first | (with_reducible first | exact HB.out | apply below_alloc | apply pw_below_drewN | apply below_drew1 | refine below_set ?_ GE444.out | refine below_set ?_ GE448.out) | exact HB.out)⟩
  ·rw [if_neg c6] at H
   have c6b0 : (t443 == t447) = false := beq_eq_false_iff_ne.mpr c6
   have c6b1 : (t443 != t447) = true := bne_iff_ne.mpr c6
   exact absurd ((Option.some.inj H).trans HT0.out) (by decide)
 ·rw [if_neg c5] at H
  have c5b0 : (t441 == t445 && (t442 == t446)) = false := by simpa using c5
  (try (have c5b1 : decide (t441 = t445 && (t442 == t446)) = false := by simpa using c5))
  (try (have c5b2 : (t441 == t445 && (t442 == t446)) = false := by simpa using c5))
  (try (have c5b3 : ¬ (t441 = t445 && (t442 == t446)) := by simpa using c5))
  clear c5
  exact absurd ((Option.some.inj H).trans HT0.out) (by decide)

def intervalmonlaw03_FracParses.Pure : Prop := ∀ (a0 : ByteArray), a0.size ≤ 140737488351232 → ∃ k, intervalmonlaw03_FracParses.f k a0 = some true

/-! ### intervalmonref03_short: function 63 -/
def intervalmonref03_short.f (a0_0 : Int) (a0_1 : Int) : Option (Bool) := (intervalmonref03_Size.f a0_0).bind fun t451 => (if t451 ≤ 1073741824 then (some (decide (a0_1 ≤ 1073741824))) else (some false))
set_option maxHeartbeats 8000000 in
set_option maxRecDepth 100000 in
theorem intervalmonref03_short.calls (a0_0 : Int) (a0_1 : Int) (r : Bool) (w : World) (h : intervalmonref03_short.f a0_0 a0_1 = some r) :
  Calls Tryd.prog 63 #[.agg #[.int .i64 a0_0, .int .i64 a0_1]] w fun e w' => e = .returned (.bool r) ∧ Below w.heap.size w w' := by
 have hu24 := Tryd.underlying24
 have HB := Aside0.mk (Below.refl w.heap.size w)
 have H : ((intervalmonref03_Size.f a0_0).bind fun t451 => (if t451 ≤ 1073741824 then (some (decide (a0_1 ≤ 1073741824))) else (some false))) = some r := h
 clear h
 replace H := Option.bind_eq_some_iff.mp H
 obtain ⟨t451, A20, H⟩ := H
 replace H : (if t451 ≤ 1073741824 then (some (decide (a0_1 ≤ 1073741824))) else (some false)) = some r := H
 have A2 := Aside0.mk A20
 clear A20
 by_cases c3 : t451 ≤ 1073741824
 ·rw [if_pos c3] at H
  have c3b0 : decide (t451 ≤ 1073741824) = true := decide_eq_true c3
  clear c3
  obtain rfl := Option.some.inj H
  go_enter Tryd.func63, Tryd.ntmps63
  go_wp2_with (first | ((with_reducible refine gate_dst (N := 1) rfl ?_); refine box_event ?hg (N := 1) ?hd (cs := #[.int .i64 a0_0, .int .i64 a0_1]) (t := 24) ?hr ?_; (case hd => rfl); (case hg => rfl); (case hr => first | (go_simp; done) | (go_simp; rfl)); intro gb450 hg w4 hbox hb; have n0_ := Aside0.mk (below_step (hq HB) hb); have n1_ := Aside0.mk (hbox); have n2_ := Aside0.mk ((by rw [hg]; exact (below_size (hq HB)) : w.heap.size ≤ gb450)); have n3_ := Aside0.mk ((by rw [hg]; exact (below_size (hq HB)) : w.heap.size ≤ gb450)); clear HB; have HB := n0_; have BK450 := n1_; have GW450 := n2_; have GE450 := n3_; clear n0_ n1_ n2_ n3_; clear hb hbox hg; have hcz5_0 : w4.cell? ⟨gb450, 0, none⟩ = some (.int .i64 a0_0) := (blk_cell BK450.out 0).trans rfl; have hcz5_1 : w4.cell? ⟨gb450, 1, none⟩ = some (.int .i64 a0_1) := (blk_cell BK450.out 1).trans rfl; have hfz5_0 := blk_frozen BK450.out 0; have hfz5_1 := blk_frozen BK450.out 1) | ((with_reducible refine gate_callee (f := 59) rfl ?_); refine goesL_ (some 5) rfl rfl Tryd.func59 (by kernel_rfl) rfl #[.int .i64 a0_0] rfl aq ?_; (with_reducible refine (intervalmonref03_Size.calls a0_0 t451 _ A2.out).mono ?_); rintro e w6 ⟨rfl, hb⟩; refine ⟨_, rfl, ?_⟩; have n0_ := bb BK450 hb; have n1_ := Aside0.mk (below_step (hq HB) hb); clear BK450; clear HB; have BK450 := n0_; have HB := n1_; clear n0_ n1_; (try clear hb); (try clear hb2); (try clear hk); (try clear hi); have hcz7_0 : w6.cell? ⟨gb450, 0, none⟩ = some (.int .i64 a0_0) := (blk_cell BK450.out 0).trans rfl; have hcz7_1 : w6.cell? ⟨gb450, 1, none⟩ = some (.int .i64 a0_1) := (blk_cell BK450.out 1).trans rfl; have hfz7_0 := blk_frozen BK450.out 0; have hfz7_1 := blk_frozen BK450.out 1))
  go_ret
  exact ⟨by first | rfl | (simp [errW_none, errW_some] <;> rfl) | (simp [*, errW_none, errW_some] <;> rfl), by repeat (first | (with_reducible first | exact HB.out | apply below_alloc | apply pw_below_drewN | apply below_drew1 | refine below_set ?_ GE450.out) | exact HB.out)⟩
 ·rw [if_neg c3] at H
  have c3b0 : decide (t451 ≤ 1073741824) = false := decide_eq_false c3
  clear c3
  obtain rfl := Option.some.inj H
  go_enter Tryd.func63, Tryd.ntmps63
  go_wp2_with (first | ((with_reducible refine gate_dst (N := 1) rfl ?_); refine box_event ?hg (N := 1) ?hd (cs := #[.int .i64 a0_0, .int .i64 a0_1]) (t := 24) ?hr ?_; (case hd => rfl); (case hg => rfl); (case hr => first | (go_simp; done) | (go_simp; rfl)); intro gb450 hg w8 hbox hb; have n0_ := Aside0.mk (below_step (hq HB) hb); have n1_ := Aside0.mk (hbox); have n2_ := Aside0.mk ((by rw [hg]; exact (below_size (hq HB)) : w.heap.size ≤ gb450)); have n3_ := Aside0.mk ((by rw [hg]; exact (below_size (hq HB)) : w.heap.size ≤ gb450)); clear HB; have HB := n0_; have BK450 := n1_; have GW450 := n2_; have GE450 := n3_; clear n0_ n1_ n2_ n3_; clear hb hbox hg; have hcz9_0 : w8.cell? ⟨gb450, 0, none⟩ = some (.int .i64 a0_0) := (blk_cell BK450.out 0).trans rfl; have hcz9_1 : w8.cell? ⟨gb450, 1, none⟩ = some (.int .i64 a0_1) := (blk_cell BK450.out 1).trans rfl; have hfz9_0 := blk_frozen BK450.out 0; have hfz9_1 := blk_frozen BK450.out 1) | ((with_reducible refine gate_callee (f := 59) rfl ?_); refine goesL_ (some 5) rfl rfl Tryd.func59 (by kernel_rfl) rfl #[.int .i64 a0_0] rfl aq ?_; (with_reducible refine (intervalmonref03_Size.calls a0_0 t451 _ A2.out).mono ?_); rintro e w10 ⟨rfl, hb⟩; refine ⟨_, rfl, ?_⟩; have n0_ := bb BK450 hb; have n1_ := Aside0.mk (below_step (hq HB) hb); clear BK450; clear HB; have BK450 := n0_; have HB := n1_; clear n0_ n1_; (try clear hb); (try clear hb2); (try clear hk); (try clear hi)))
  go_ret
  exact ⟨by first | rfl | (simp [errW_none, errW_some] <;> rfl) | (simp [*, errW_none, errW_some] <;> rfl), by repeat (first | (with_reducible first | exact HB.out | apply below_alloc | apply pw_below_drewN | apply below_drew1 | refine below_set ?_ GE450.out) | exact HB.out)⟩

/-! ### intervalmonref03_From: function 65 -/
def intervalmonref03_From.f (a0 : Int) : Option (Int × Int × Int × Int × Int × Int × Int × Int) := some (Int.tmod a0 4294967296, IntKind.u64.wrap (Int.tdiv a0 4294967296), 0, 0, 0, 0, 0, 0)
set_option maxHeartbeats 8000000 in
set_option maxRecDepth 100000 in
theorem intervalmonref03_From.calls (a0 : Int) (r1 : Int) (r2 : Int) (r3 : Int) (r4 : Int) (r5 : Int) (r6 : Int) (r7 : Int) (r8 : Int) (w : World) (h : intervalmonref03_From.f a0 = some (r1, r2, r3, r4, r5, r6, r7, r8)) :
  Calls Tryd.prog 65 #[.int .u64 a0] w fun e w' => e = .returned (.agg #[.int .u64 r1, .int .u64 r2, .int .u64 r3, .int .u64 r4, .int .u64 r5, .int .u64 r6, .int .u64 r7, .int .u64 r8]) ∧ Below w.heap.size w w' := by
 have hu84 := Tryd.underlying84
 have HB := Aside0.mk (Below.refl w.heap.size w)
 have H : (some (Int.tmod a0 4294967296, IntKind.u64.wrap (Int.tdiv a0 4294967296), 0, 0, 0, 0, 0, 0)) = some (r1, r2, r3, r4, r5, r6, r7, r8) := h
 clear h
 simp only [Option.some.injEq, Prod.mk.injEq] at H
 obtain ⟨rfl, rfl, rfl, rfl, rfl, rfl, rfl, rfl⟩ := H
 go_enter Tryd.func65, Tryd.ntmps65
 go_wp2_with (first | ((with_reducible refine gate_dst (N := 2) rfl ?_); refine box_event ?hg (N := 2) ?hd (cs := #[.int .u64 0, .int .u64 0, .int .u64 0, .int .u64 0, .int .u64 0, .int .u64 0, .int .u64 0, .int .u64 0]) (t := 84) ?hr ?_; (case hd => rfl); (case hg => rfl); (case hr => first | (go_simp; done) | (go_simp; rfl)); intro gb452 hg w2 hbox hb; have n0_ := Aside0.mk (below_step (hq HB) hb); have n1_ := Aside0.mk (hbox); have n2_ := Aside0.mk ((by rw [hg]; exact (below_size (hq HB)) : w.heap.size ≤ gb452)); have n3_ := Aside0.mk ((by rw [hg]; exact (below_size (hq HB)) : w.heap.size ≤ gb452)); clear HB; have HB := n0_; have BK452 := n1_; have GW452 := n2_; have GE452 := n3_; clear n0_ n1_ n2_ n3_; clear hb hbox hg) | ((with_reducible refine gate_dst (N := 3) rfl ?_); refine box_event ?hg (N := 3) ?hd (cs := #[.int .u64 0, .int .u64 0, .int .u64 0, .int .u64 0, .int .u64 0, .int .u64 0, .int .u64 0, .int .u64 0]) (t := 84) ?hr ?_; (case hd => rfl); (case hg => rfl); (case hr => first | (go_simp; done) | (go_simp; rfl)); intro gb453 hg w3 hbox hb; have n0_ := bb BK452 hb; have n1_ := Aside0.mk (below_step (hq HB) hb); have n2_ := Aside0.mk (hbox); have n3_ := Aside0.mk ((by rw [hg]; exact (below_size (hq HB)) : w.heap.size ≤ gb453)); have n4_ := Aside0.mk ((by rw [hg]; exact (below_size (hq HB)) : w.heap.size ≤ gb453)); have n5_ := nl BK452 hg; have n6_ := ng BK452 hg; clear BK452; clear HB; have BK452 := n0_; have HB := n1_; have BK453 := n2_; have GW453 := n3_; have GE453 := n4_; have NB452_453 := n5_; have NB453_452 := n6_; clear n0_ n1_ n2_ n3_ n4_ n5_ n6_; clear hb hbox hg; have hnb4 := NB453_452.out; have hnc4 := NB452_453.out; have hcz5_0 : w3.cell? ⟨gb453, 0, none⟩ = some (.int .u64 0) := (blk_cell BK453.out 0).trans rfl; have hcz5_1 : w3.cell? ⟨gb453, 1, none⟩ = some (.int .u64 0) := (blk_cell BK453.out 1).trans rfl; have hcz5_2 : w3.cell? ⟨gb453, 2, none⟩ = some (.int .u64 0) := (blk_cell BK453.out 2).trans rfl; have hcz5_3 : w3.cell? ⟨gb453, 3, none⟩ = some (.int .u64 0) := (blk_cell BK453.out 3).trans rfl; have hcz5_4 : w3.cell? ⟨gb453, 4, none⟩ = some (.int .u64 0) := (blk_cell BK453.out 4).trans rfl; have hcz5_5 : w3.cell? ⟨gb453, 5, none⟩ = some (.int .u64 0) := (blk_cell BK453.out 5).trans rfl; have hcz5_6 : w3.cell? ⟨gb453, 6, none⟩ = some (.int .u64 0) := (blk_cell BK453.out 6).trans rfl; have hcz5_7 : w3.cell? ⟨gb453, 7, none⟩ = some (.int .u64 0) := (blk_cell BK453.out 7).trans rfl; have hfz5_0 := blk_frozen BK453.out 0; have hfz5_1 := blk_frozen BK453.out 1; have hfz5_2 := blk_frozen BK453.out 2; have hfz5_3 := blk_frozen BK453.out 3; have hfz5_4 := blk_frozen BK453.out 4; have hfz5_5 := blk_frozen BK453.out 5; have hfz5_6 := blk_frozen BK453.out 6; have hfz5_7 := blk_frozen BK453.out 7; have hcz6_0 : w3.cell? ⟨gb452, 0, none⟩ = some (.int .u64 0) := (blk_cell BK452.out 0).trans rfl; have hcz6_1 : w3.cell? ⟨gb452, 1, none⟩ = some (.int .u64 0) := (blk_cell BK452.out 1).trans rfl; have hcz6_2 : w3.cell? ⟨gb452, 2, none⟩ = some (.int .u64 0) := (blk_cell BK452.out 2).trans rfl; have hcz6_3 : w3.cell? ⟨gb452, 3, none⟩ = some (.int .u64 0) := (blk_cell BK452.out 3).trans rfl; have hcz6_4 : w3.cell? ⟨gb452, 4, none⟩ = some (.int .u64 0) := (blk_cell BK452.out 4).trans rfl; have hcz6_5 : w3.cell? ⟨gb452, 5, none⟩ = some (.int .u64 0) := (blk_cell BK452.out 5).trans rfl; have hcz6_6 : w3.cell? ⟨gb452, 6, none⟩ = some (.int .u64 0) := (blk_cell BK452.out 6).trans rfl; have hcz6_7 : w3.cell? ⟨gb452, 7, none⟩ = some (.int .u64 0) := (blk_cell BK452.out 7).trans rfl; have hfz6_0 := blk_frozen BK452.out 0; have hfz6_1 := blk_frozen BK452.out 1; have hfz6_2 := blk_frozen BK452.out 2; have hfz6_3 := blk_frozen BK452.out 3; have hfz6_4 := blk_frozen BK452.out 4; have hfz6_5 := blk_frozen BK452.out 5; have hfz6_6 := blk_frozen BK452.out 6; have hfz6_7 := blk_frozen BK452.out 7))
 refine bodyPost_ret (results_cell_row rfl _ _ gb452 84 #[.int .u64 (Int.tmod a0 4294967296), .int .u64 (IntKind.u64.wrap (Int.tdiv a0 4294967296)), .int .u64 0, .int .u64 0, .int .u64 0, .int .u64 0, .int .u64 0, .int .u64 0] (0, 0) _ rfl (by (with_reducible repeat (first | refine bN ?_ _ | refine bd ?_ | refine ba ?_ _)); refine blk_put (cs := #[.int .u64 (Int.tmod a0 4294967296), .int .u64 (IntKind.u64.wrap (Int.tdiv a0 4294967296)), .int .u64 0, .int .u64 0, .int .u64 0, .int .u64 0, .int .u64 0, .int .u64 0]) ?_ 7 _ rfl; (with_reducible repeat (first | refine bN ?_ _ | refine bd ?_ | refine ba ?_ _)); refine blk_put (cs := #[.int .u64 (Int.tmod a0 4294967296), .int .u64 (IntKind.u64.wrap (Int.tdiv a0 4294967296)), .int .u64 0, .int .u64 0, .int .u64 0, .int .u64 0, .int .u64 0, .int .u64 0]) ?_ 6 _ rfl; (with_reducible repeat (first | refine bN ?_ _ | refine bd ?_ | refine ba ?_ _)); refine blk_put (cs := #[.int .u64 (Int.tmod a0 4294967296), .int .u64 (IntKind.u64.wrap (Int.tdiv a0 4294967296)), .int .u64 0, .int .u64 0, .int .u64 0, .int .u64 0, .int .u64 0, .int .u64 0]) ?_ 5 _ rfl; (with_reducible repeat (first | refine bN ?_ _ | refine bd ?_ | refine ba ?_ _)); refine blk_put (cs := #[.int .u64 (Int.tmod a0 4294967296), .int .u64 (IntKind.u64.wrap (Int.tdiv a0 4294967296)), .int .u64 0, .int .u64 0, .int .u64 0, .int .u64 0, .int .u64 0, .int .u64 0]) ?_ 4 _ rfl; (with_reducible repeat (first | refine bN ?_ _ | refine bd ?_ | refine ba ?_ _)); refine blk_put (cs := #[.int .u64 (Int.tmod a0 4294967296), .int .u64 (IntKind.u64.wrap (Int.tdiv a0 4294967296)), .int .u64 0, .int .u64 0, .int .u64 0, .int .u64 0, .int .u64 0, .int .u64 0]) ?_ 3 _ rfl; (with_reducible repeat (first | refine bN ?_ _ | refine bd ?_ | refine ba ?_ _)); refine blk_put (cs := #[.int .u64 (Int.tmod a0 4294967296), .int .u64 (IntKind.u64.wrap (Int.tdiv a0 4294967296)), .int .u64 0, .int .u64 0, .int .u64 0, .int .u64 0, .int .u64 0, .int .u64 0]) ?_ 2 _ rfl; (with_reducible repeat (first | refine bN ?_ _ | refine bd ?_ | refine ba ?_ _)); refine blk_put (cs := #[.int .u64 (Int.tmod a0 4294967296), .int .u64 0, .int .u64 0, .int .u64 0, .int .u64 0, .int .u64 0, .int .u64 0, .int .u64 0]) ?_ 1 _ rfl; (with_reducible repeat (first | refine bN ?_ _ | refine bd ?_ | refine ba ?_ _)); refine blk_put (cs := #[.int .u64 0, .int .u64 0, .int .u64 0, .int .u64 0, .int .u64 0, .int .u64 0, .int .u64 0, .int .u64 0]) ?_ 0 _ rfl; (with_reducible repeat (first | refine bN ?_ _ | refine bd ?_ | refine ba ?_ _)); refine blk_far ?_ NB452_453.out _; (with_reducible repeat (first | refine bN ?_ _ | refine bd ?_ | refine ba ?_ _)); refine blk_far ?_ NB452_453.out _; (with_reducible repeat (first | refine bN ?_ _ | refine bd ?_ | refine ba ?_ _)); exact BK452.out) Tryd.underlying84 rfl (by kernel_rfl)) rfl ?_
 exact ⟨by first | rfl | (simp [errW_none, errW_some] <;> rfl) | (simp [*, errW_none, errW_some] <;> rfl), by repeat (first | (with_reducible first | exact HB.out | apply below_alloc | apply pw_below_drewN | apply below_drew1 | refine below_set ?_ GE452.out | refine below_set ?_ GE453.out) | exact HB.out)⟩

end Go.Proofs.YtjpgommmkjgddaaDoor.P
