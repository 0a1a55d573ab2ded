-- Written by this session's own copy of a printing program (wip/tools); Lean checks it.
import Derived.Test.YtjpgommmkjgddaaDoorPx0
import Derived.Test.YtjpgommmkjgddaaDoorPx1
import Derived.Test.YtjpgommmkjgddaaDoorPx4
import Derived.Test.YtjpgommmkjgddaaDoorPx12
import Derived.Test.YtjpgommmkjgddaaDoorPx15
import Derived.Test.YtjpgommmkjgddaaDoorHParse
namespace Go.Proofs.YtjpgommmkjgddaaDoor.P
open Go.RowKit Go.Proofs.YtjpgommmkjgddaaDoorW.PrintWords Go.Proofs.YtjpgommmkjgddaaDoorW.PrintLast Go.Proofs.YtjpgommmkjgddaaDoorW.PrintMore
attribute [local go_sem] max2_int min2_int max_two min_two max_three min_three max_four min_four   -- for this text's walks alone
set_option linter.unusedVariables false
set_option linter.unusedSimpArgs false

attribute [local go_sem high] eqA24
/-! ### intervalmonref03_Valid: function 62 -/
def intervalmonref03_Valid.f (k : Nat) (a0_0 : Int) (a0_1 : Int) : Option (Bool) := if a0_1 < 1 then (some false) else ((intervalmonref03_New.f k a0_0 a0_1).bind fun bt410 => (if bt410.2.2 = 0 then (some (a0_0 == bt410.1 && (a0_1 == bt410.2.1))) else (some false)))
theorem intervalmonref03_Valid.mono : ∀ a0 a1 k, LeO (intervalmonref03_Valid.f k a0 a1) (intervalmonref03_Valid.f (k + 1) a0 a1) := by
 intro a0 a1 k
 unfold intervalmonref03_Valid.f
 repeat' first
   | (with_reducible exact intervalmonref03_New.mono _ _ _)
   | (with_reducible exact LeO.refl _)
   | (with_reducible exact LeO.none _)
   | (with_reducible refine LeO.ite ?_ ?_)
   | (with_reducible refine LeO.bind ?_ (fun _ => ?_))
   | exact intervalmonref03_New.mono _ _ _
   | exact LeO.none _
   | refine LeO.ite ?_ ?_
   | refine LeO.bind ?_ (fun _ => ?_)
set_option maxHeartbeats 8000000 in
set_option maxRecDepth 100000 in
theorem intervalmonref03_Valid.calls (k : Nat) (a0_0 : Int) (a0_1 : Int) (r : Bool) (w : World) (h : intervalmonref03_Valid.f k a0_0 a0_1 = some r) :
  Calls Tryd.prog 62 #[.agg #[.int .i64 a0_0, .int .i64 a0_1]] w fun e w' => e = .returned (.bool r) ∧ Below w.heap.size w w' := by
 have hu24 := Tryd.underlying24
 have HB := Aside0.mk (Below.refl w.heap.size w)
 have H : (if a0_1 < 1 then (some false) else ((intervalmonref03_New.f k a0_0 a0_1).bind fun bt410 => (if bt410.2.2 = 0 then (some (a0_0 == bt410.1 && (a0_1 == bt410.2.1))) else (some false)))) = some r := h
 clear h
 by_cases c2 : a0_1 < 1
 ·rw [if_pos c2] at H
  have c2b0 : decide (a0_1 < 1) = true := decide_eq_true c2
  clear c2
  obtain rfl := Option.some.inj H
  go_enter Tryd.func62, Tryd.ntmps62
  go_wp2_with (first | ((with_reducible refine gate_dst (N := 1) rfl ?_); refine box_event ?hg (N := 1) ?hd (cs := #[.int .i64 a0_0, .int .i64 a0_1]) (t := 24) ?hr ?_; (case hd => rfl); (case hg => rfl); (case hr => first | (go_simp; done) | (go_simp; rfl)); intro gb409 hg w3 hbox hb; have n0_ := Aside0.mk (below_step (hq HB) hb); have n1_ := Aside0.mk (hbox); have n2_ := Aside0.mk ((by rw [hg]; exact (below_size (hq HB)) : w.heap.size ≤ gb409)); have n3_ := Aside0.mk ((by rw [hg]; exact (below_size (hq HB)) : w.heap.size ≤ gb409)); clear HB; have HB := n0_; have BK409 := n1_; have GW409 := n2_; have GE409 := n3_; clear n0_ n1_ n2_ n3_; clear hb hbox hg; have hcz4_0 : w3.cell? ⟨gb409, 0, none⟩ = some (.int .i64 a0_0) := (blk_cell BK409.out 0).trans rfl; have hcz4_1 : w3.cell? ⟨gb409, 1, none⟩ = some (.int .i64 a0_1) := (blk_cell BK409.out 1).trans rfl; have hfz4_0 := blk_frozen BK409.out 0; have hfz4_1 := blk_frozen BK409.out 1))
  go_ret
  exact ⟨by first | rfl | (simp [errW_none, errW_some] <;> rfl) | (simp [*, errW_none, errW_some] <;> rfl), by repeat (first | (with_reducible first | exact HB.out | apply below_alloc | apply pw_below_drewN | apply below_drew1 | refine below_set ?_ GE409.out) | exact HB.out)⟩
 ·rw [if_neg c2] at H
  have c2b0 : decide (a0_1 < 1) = false := decide_eq_false c2
  clear c2
  replace H := Option.bind_eq_some_iff.mp H
  obtain ⟨⟨t410, t411, t412⟩, A50, H⟩ := H
  replace H : (if t412 = 0 then (some (a0_0 == t410 && (a0_1 == t411))) else (some false)) = some r := H
  have A5 := Aside0.mk A50
  clear A50
  by_cases c6 : t412 = 0
  ·rw [if_pos c6] at H
   have c6b0 : (t412 == 0) = true := beq_iff_eq.mpr c6
   have c6b1 : (t412 != 0) = false := bne_eq_false_iff_eq.mpr c6
   clear c6
   obtain rfl := Option.some.inj H
   go_enter Tryd.func62, Tryd.ntmps62
   go_wp2_with (first | ((with_reducible refine gate_dst (N := 1) rfl ?_); refine box_event ?hg (N := 1) ?hd (cs := #[.int .i64 a0_0, .int .i64 a0_1]) (t := 24) ?hr ?_; (case hd => rfl); (case hg => rfl); (case hr => first | (go_simp; done) | (go_simp; rfl)); intro gb409 hg w7 hbox hb; have n0_ := Aside0.mk (below_step (hq HB) hb); have n1_ := Aside0.mk (hbox); have n2_ := Aside0.mk ((by rw [hg]; exact (below_size (hq HB)) : w.heap.size ≤ gb409)); have n3_ := Aside0.mk ((by rw [hg]; exact (below_size (hq HB)) : w.heap.size ≤ gb409)); clear HB; have HB := n0_; have BK409 := n1_; have GW409 := n2_; have GE409 := n3_; clear n0_ n1_ n2_ n3_; clear hb hbox hg; have hcz8_0 : w7.cell? ⟨gb409, 0, none⟩ = some (.int .i64 a0_0) := (blk_cell BK409.out 0).trans rfl; have hcz8_1 : w7.cell? ⟨gb409, 1, none⟩ = some (.int .i64 a0_1) := (blk_cell BK409.out 1).trans rfl; have hfz8_0 := blk_frozen BK409.out 0; have hfz8_1 := blk_frozen BK409.out 1) | ((with_reducible refine gate_callee (f := 26) rfl ?_); refine goesL_ (some 13) rfl rfl Tryd.func26 (by kernel_rfl) rfl #[.int .i64 a0_0, .int .i64 a0_1] rfl aq ?_; (with_reducible refine (intervalmonref03_New.calls k a0_0 a0_1 t410 t411 t412 _ A5.out).mono ?_); rintro e w9 ⟨rfl, hb⟩; refine ⟨_, rfl, ?_⟩; have n0_ := bb BK409 hb; have n1_ := Aside0.mk (below_step (hq HB) hb); clear BK409; clear HB; have BK409 := n0_; have HB := n1_; clear n0_ n1_; (try clear hb); (try clear hb2); (try clear hk); (try clear hi)) | ((with_reducible refine gate_dst (N := 3) rfl ?_); refine box_event ?hg (N := 3) ?hd (cs := #[.int .i64 0, .int .i64 0]) (t := 24) ?hr ?_; (case hd => rfl); (case hg => rfl); (case hr => first | (go_simp; done) | (go_simp; rfl)); intro gb413 hg w10 hbox hb; have n0_ := bb BK409 hb; have n1_ := Aside0.mk (below_step (hq HB) hb); have n2_ := Aside0.mk (hbox); have n3_ := Aside0.mk ((by rw [hg]; exact (below_size (hq HB)) : w.heap.size ≤ gb413)); have n4_ := Aside0.mk ((by rw [hg]; exact (below_size (hq HB)) : w.heap.size ≤ gb413)); have n5_ := nl BK409 hg; have n6_ := ng BK409 hg; clear BK409; clear HB; have BK409 := n0_; have HB := n1_; have BK413 := n2_; have GW413 := n3_; have GE413 := n4_; have NB409_413 := n5_; have NB413_409 := n6_; clear n0_ n1_ n2_ n3_ n4_ n5_ n6_; clear hb hbox hg; have hnb11 := NB413_409.out; have hnc11 := NB409_413.out; have hcz12_0 : w10.cell? ⟨gb413, 0, none⟩ = some (.int .i64 0) := (blk_cell BK413.out 0).trans rfl; have hcz12_1 : w10.cell? ⟨gb413, 1, none⟩ = some (.int .i64 0) := (blk_cell BK413.out 1).trans rfl; have hfz12_0 := blk_frozen BK413.out 0; have hfz12_1 := blk_frozen BK413.out 1; have hcz13_0 : w10.cell? ⟨gb409, 0, none⟩ = some (.int .i64 a0_0) := (blk_cell BK409.out 0).trans rfl; have hcz13_1 : w10.cell? ⟨gb409, 1, none⟩ = some (.int .i64 a0_1) := (blk_cell BK409.out 1).trans rfl; have hfz13_0 := blk_frozen BK409.out 0; have hfz13_1 := blk_frozen BK409.out 1))
   go_ret
   exact ⟨by first | rfl | (simp [errW_none, errW_some] <;> rfl) | (simp [*, errW_none, errW_some] <;> rfl), by repeat (first | (with_reducible first | exact HB.out | apply below_alloc | apply pw_below_drewN | apply below_drew1 | refine below_set ?_ GE409.out | refine below_set ?_ GE413.out) | exact HB.out)⟩
  ·rw [if_neg c6] at H
   have c6b0 : (t412 == 0) = false := beq_eq_false_iff_ne.mpr c6
   have c6b1 : (t412 != 0) = true := bne_iff_ne.mpr c6
   obtain rfl := Option.some.inj H
   go_enter Tryd.func62, Tryd.ntmps62
   go_wp2_with (first | ((with_reducible refine gate_dst (N := 1) rfl ?_); refine box_event ?hg (N := 1) ?hd (cs := #[.int .i64 a0_0, .int .i64 a0_1]) (t := 24) ?hr ?_; (case hd => rfl); (case hg => rfl); (case hr => first | (go_simp; done) | (go_simp; rfl)); intro gb409 hg w14 hbox hb; have n0_ := Aside0.mk (below_step (hq HB) hb); have n1_ := Aside0.mk (hbox); have n2_ := Aside0.mk ((by rw [hg]; exact (below_size (hq HB)) : w.heap.size ≤ gb409)); have n3_ := Aside0.mk ((by rw [hg]; exact (below_size (hq HB)) : w.heap.size ≤ gb409)); clear HB; have HB := n0_; have BK409 := n1_; have GW409 := n2_; have GE409 := n3_; clear n0_ n1_ n2_ n3_; clear hb hbox hg; have hcz15_0 : w14.cell? ⟨gb409, 0, none⟩ = some (.int .i64 a0_0) := (blk_cell BK409.out 0).trans rfl; have hcz15_1 : w14.cell? ⟨gb409, 1, none⟩ = some (.int .i64 a0_1) := (blk_cell BK409.out 1).trans rfl; have hfz15_0 := blk_frozen BK409.out 0; have hfz15_1 := blk_frozen BK409.out 1) | ((with_reducible refine gate_callee (f := 26) rfl ?_); refine goesL_ (some 13) rfl rfl Tryd.func26 (by kernel_rfl) rfl #[.int .i64 a0_0, .int .i64 a0_1] rfl aq ?_; (with_reducible refine (intervalmonref03_New.calls k a0_0 a0_1 t410 t411 t412 _ A5.out).mono ?_); rintro e w16 ⟨rfl, hb⟩; refine ⟨_, rfl, ?_⟩; have n0_ := bb BK409 hb; have n1_ := Aside0.mk (below_step (hq HB) hb); clear BK409; clear HB; have BK409 := n0_; have HB := n1_; clear n0_ n1_; (try clear hb); (try clear hb2); (try clear hk); (try clear hi)) | ((with_reducible refine gate_dst (N := 3) rfl ?_); refine box_event ?hg (N := 3) ?hd (cs := #[.int .i64 0, .int .i64 0]) (t := 24) ?hr ?_; (case hd => rfl); (case hg => rfl); (case hr => first | (go_simp; done) | (go_simp; rfl)); intro gb413 hg w17 hbox hb; have n0_ := bb BK409 hb; have n1_ := Aside0.mk (below_step (hq HB) hb); have n2_ := Aside0.mk (hbox); have n3_ := Aside0.mk ((by rw [hg]; exact (below_size (hq HB)) : w.heap.size ≤ gb413)); have n4_ := Aside0.mk ((by rw [hg]; exact (below_size (hq HB)) : w.heap.size ≤ gb413)); have n5_ := nl BK409 hg; have n6_ := ng BK409 hg; clear BK409; clear HB; have BK409 := n0_; have HB := n1_; have BK413 := n2_; have GW413 := n3_; have GE413 := n4_; have NB409_413 := n5_; have NB413_409 := n6_; clear n0_ n1_ n2_ n3_ n4_ n5_ n6_; clear hb hbox hg; have hnb18 := NB413_409.out; have hnc18 := NB409_413.out; have hcz19_0 : w17.cell? ⟨gb413, 0, none⟩ = some (.int .i64 0) := (blk_cell BK413.out 0).trans rfl; have hcz19_1 : w17.cell? ⟨gb413, 1, none⟩ = some (.int .i64 0) := (blk_cell BK413.out 1).trans rfl; have hfz19_0 := blk_frozen BK413.out 0; have hfz19_1 := blk_frozen BK413.out 1))
   go_ret
   exact ⟨by first | rfl | (simp [errW_none, errW_some] <;> rfl) | (simp [*, errW_none, errW_some] <;> rfl), by repeat (first | (with_reducible first | exact HB.out | apply below_alloc | apply pw_below_drewN | apply below_drew1 | refine below_set ?_ GE409.out | refine below_set ?_ GE413.out) | exact HB.out)⟩

/-! ### intervalmonref01_Decimal: function 67 -/
def intervalmonref01_Decimal.l0 : Nat → Int → ByteArray → ByteArray → Int → Option (ByteArray)
 | 0, _, _, _, _ => none
 | k + 1, x0, x3, x4, x5 => if x5 = 0 then (if x0 < 0 then (if 1 + x4.size ≤ 9223372036854775807 then (some ((⟨#[45]⟩ : ByteArray) ++ x4)) else (none)) else (some x4)) else (if (Int.tmod x5 10) < 0 then (if 0 ≤ (wrap64 (-(Int.tmod x5 10))) then (if (wrap64 (-(Int.tmod x5 10))) ≤ (wrap64 ((wrap64 (-(Int.tmod x5 10))) + 1)) then (if (wrap64 ((wrap64 (-(Int.tmod x5 10))) + 1)) ≤ (x3.size : Int) then (if (x3.extract ((wrap64 (-(Int.tmod x5 10))) : Int).toNat ((wrap64 ((wrap64 (-(Int.tmod x5 10))) + 1)) : Int).toNat).size + x4.size ≤ 9223372036854775807 then (intervalmonref01_Decimal.l0 k x0 x3 ((x3.extract ((wrap64 (-(Int.tmod x5 10))) : Int).toNat ((wrap64 ((wrap64 (-(Int.tmod x5 10))) + 1)) : Int).toNat) ++ x4) (wrap64 (Int.tdiv x5 10))) else (none)) else (none)) else (none)) else (none)) else (if 0 ≤ (Int.tmod x5 10) then (if (Int.tmod x5 10) ≤ (wrap64 ((Int.tmod x5 10) + 1)) then (if (wrap64 ((Int.tmod x5 10) + 1)) ≤ (x3.size : Int) then (if (x3.extract ((Int.tmod x5 10) : Int).toNat ((wrap64 ((Int.tmod x5 10) + 1)) : Int).toNat).size + x4.size ≤ 9223372036854775807 then (intervalmonref01_Decimal.l0 k x0 x3 ((x3.extract ((Int.tmod x5 10) : Int).toNat ((wrap64 ((Int.tmod x5 10) + 1)) : Int).toNat) ++ x4) (wrap64 (Int.tdiv x5 10))) else (none)) else (none)) else (none)) else (none)))
def intervalmonref01_Decimal.f (k : Nat) (a0 : Int) : Option (ByteArray) := if a0 = 0 then (some (⟨#[48]⟩ : ByteArray)) else (intervalmonref01_Decimal.l0 k a0 (⟨#[48, 49, 50, 51, 52, 53, 54, 55, 56, 57]⟩ : ByteArray) (⟨#[]⟩ : ByteArray) a0)
theorem intervalmonref01_Decimal.mono_l : ∀ k, (∀ y0 y1 y2 y3, LeO (intervalmonref01_Decimal.l0 k y0 y1 y2 y3) (intervalmonref01_Decimal.l0 (k + 1) y0 y1 y2 y3))
 | 0 => fun _ _ _ _ r h => by simp [intervalmonref01_Decimal.l0] at h
 | k + 1 => by
  have ih0 := intervalmonref01_Decimal.mono_l k
  ·intro y0 y1 y2 y3
   unfold intervalmonref01_Decimal.l0
   repeat' first
   | (with_reducible exact ih0 _ _ _ _)
   | (with_reducible exact LeO.refl _)
   | (with_reducible exact LeO.none _)
   | (with_reducible refine LeO.ite ?_ ?_)
   | (with_reducible refine LeO.bind ?_ (fun _ => ?_))
   | exact ih0 _ _ _ _
   | exact LeO.none _
   | refine LeO.ite ?_ ?_
   | refine LeO.bind ?_ (fun _ => ?_)
theorem intervalmonref01_Decimal.mono : ∀ a0 k, LeO (intervalmonref01_Decimal.f k a0) (intervalmonref01_Decimal.f (k + 1) a0) := by
 intro a0 k
 have ih0 := intervalmonref01_Decimal.mono_l k
 unfold intervalmonref01_Decimal.f
 repeat' first
   | (with_reducible exact ih0 _ _ _ _)
   | (with_reducible exact LeO.refl _)
   | (with_reducible exact LeO.none _)
   | (with_reducible refine LeO.ite ?_ ?_)
   | (with_reducible refine LeO.bind ?_ (fun _ => ?_))
   | exact ih0 _ _ _ _
   | exact LeO.none _
   | refine LeO.ite ?_ ?_
   | refine LeO.bind ?_ (fun _ => ?_)
set_option maxHeartbeats 8000000 in
set_option maxRecDepth 100000 in
theorem intervalmonref01_Decimal.calls (k : Nat) (a0 : Int) (r : ByteArray) (w : World) (h : intervalmonref01_Decimal.f k a0 = some r) :
  Calls Tryd.prog 67 #[.int .i64 a0] w fun e w' => e = .returned (.string r) ∧ Below w.heap.size w w' := by
 have HB := Aside0.mk (Below.refl w.heap.size w)
 have H : (if a0 = 0 then (some (⟨#[48]⟩ : ByteArray)) else (intervalmonref01_Decimal.l0 k a0 (⟨#[48, 49, 50, 51, 52, 53, 54, 55, 56, 57]⟩ : ByteArray) (⟨#[]⟩ : ByteArray) a0)) = some r := h
 clear h
 by_cases c2 : a0 = 0
 ·rw [if_pos c2] at H
  have c2b0 : (a0 == 0) = true := beq_iff_eq.mpr c2
  have c2b1 : (a0 != 0) = false := bne_eq_false_iff_eq.mpr c2
  clear c2
  obtain rfl := Option.some.inj H
  go_enter Tryd.func67, Tryd.ntmps67
  go_wp2
  go_ret
  exact ⟨by first | rfl | (simp [errW_none, errW_some] <;> rfl) | (simp [*, errW_none, errW_some] <;> rfl), by repeat (first | (with_reducible first | exact HB.out | apply below_alloc | apply pw_below_drewN | apply below_drew1) | exact HB.out)⟩
 ·rw [if_neg c2] at H
  have c2b0 : (a0 == 0) = false := beq_eq_false_iff_ne.mpr c2
  have c2b1 : (a0 != 0) = true := bne_iff_ne.mpr c2
  have H' := Aside0.mk H
  clear H
  go_enter Tryd.func67, Tryd.ntmps67
  go_wp2
  go_loopg [4, 5] k (fun kq v4 v5 w' => ∃ (x4_1 : ByteArray) (x5_1 : Int), v4 = .string x4_1 ∧ v5 = .int .i64 x5_1 ∧ Aside0 (intervalmonref01_Decimal.l0 kq a0 (⟨#[48, 49, 50, 51, 52, 53, 54, 55, 56, 57]⟩ : ByteArray) x4_1 x5_1 = some r) ∧ Aside0 (kq ≤ k) ∧ Aside0 (Below w.heap.size w w'))
  case atStart => exact ⟨((⟨#[]⟩ : ByteArray)), (a0), (by first | rfl | (simp; done) | (simp [*]; done)), (by first | rfl | (simp; done) | (simp [*]; done)), H', ⟨Nat.le_refl _⟩, ⟨by repeat (first | (with_reducible first | exact HB.out | apply below_alloc | apply pw_below_drewN | apply below_drew1) | exact HB.out)⟩⟩
  case round =>
   clear H'
   try clear c2
   try clear c2b0
   try clear c2b1
   try clear p2
   obtain ⟨x4_1, x5_1, rfl, rfl, HA, HK1, HB⟩ := hrel
   cases gk with
   | zero => exact absurd HA.out (by simp [intervalmonref01_Decimal.l0])
   | succ k1 =>
    have H := HA.out
    clear HA
    simp only [intervalmonref01_Decimal.l0] at H
    by_cases c3 : x5_1 = 0
    ·rw [if_pos c3] at H
     have c3b0 : (x5_1 == 0) = true := beq_iff_eq.mpr c3
     have c3b1 : (x5_1 != 0) = false := bne_eq_false_iff_eq.mpr c3
     clear c3
     by_cases c4 : a0 < 0
     ·rw [if_pos c4] at H
      have c4b0 : decide (a0 < 0) = true := decide_eq_true c4
      clear c4
      by_cases c5 : 1 + x4_1.size ≤ 9223372036854775807
      ·rw [if_pos c5] at H
       have c5b0 := eq_true c5
       have c5b1 : decide (1 + x4_1.size ≤ 9223372036854775807) = true := decide_eq_true c5
       try have c5b2 : (9223372036854775807 < 1 + x4_1.size) = False := eq_false (Nat.not_lt.2 c5)
       obtain rfl := Option.some.inj H
       go_wp2
       go_ret
       exact ⟨by first | rfl | (simp [errW_none, errW_some] <;> rfl) | (simp [*, errW_none, errW_some] <;> rfl), by repeat (first | (with_reducible first | exact HB.out | apply below_alloc | apply pw_below_drewN | apply below_drew1) | exact HB.out)⟩
      ·rw [if_neg c5] at H
       exact absurd H (by simp)
     ·rw [if_neg c4] at H
      have c4b0 : decide (a0 < 0) = false := decide_eq_false c4
      clear c4
      obtain rfl := Option.some.inj H
      go_wp2
      go_ret
      exact ⟨by first | rfl | (simp [errW_none, errW_some] <;> rfl) | (simp [*, errW_none, errW_some] <;> rfl), by repeat (first | (with_reducible first | exact HB.out | apply below_alloc | apply pw_below_drewN | apply below_drew1) | exact HB.out)⟩
    ·rw [if_neg c3] at H
     have c3b0 : (x5_1 == 0) = false := beq_eq_false_iff_ne.mpr c3
     have c3b1 : (x5_1 != 0) = true := bne_iff_ne.mpr c3
     by_cases c6 : (Int.tmod x5_1 10) < 0
     ·rw [if_pos c6] at H
      have c6b0 : decide ((Int.tmod x5_1 10) < 0) = true := decide_eq_true c6
      clear c6
      obtain ⟨ji7, hji7⟩ : ∃ j_ : Int, (wrap64 (-(Int.tmod x5_1 10))) = j_ := ⟨_, rfl⟩
      replace H : (if 0 ≤ (ji7) then (if (ji7) ≤ (wrap64 ((ji7) + 1)) then (if (wrap64 ((ji7) + 1)) ≤ ((⟨#[48, 49, 50, 51, 52, 53, 54, 55, 56, 57]⟩ : ByteArray).size : Int) then (if ((⟨#[48, 49, 50, 51, 52, 53, 54, 55, 56, 57]⟩ : ByteArray).extract ((ji7) : Int).toNat ((wrap64 ((ji7) + 1)) : Int).toNat).size + x4_1.size ≤ 9223372036854775807 then (intervalmonref01_Decimal.l0 k1 a0 (⟨#[48, 49, 50, 51, 52, 53, 54, 55, 56, 57]⟩ : ByteArray) (((⟨#[48, 49, 50, 51, 52, 53, 54, 55, 56, 57]⟩ : ByteArray).extract ((ji7) : Int).toNat ((wrap64 ((ji7) + 1)) : Int).toNat) ++ x4_1) (wrap64 (Int.tdiv x5_1 10))) else (none)) else (none)) else (none)) else (none)) = some r := by first | (rw [hji7] at H; exact H) | (simp only [hji7] at H ⊢; exact H)
      have hji7w : (IntKind.i64.wrap (-(Int.tmod x5_1 10))) = ji7 := (i64_w _).trans hji7
      by_cases c8 : 0 ≤ (ji7)
      ·rw [if_pos c8] at H
       have c8b0 := eq_true c8
       have c8b1 : decide (0 ≤ (ji7)) = true := decide_eq_true c8
       clear c8
       by_cases c9 : (ji7) ≤ (wrap64 ((ji7) + 1))
       ·rw [if_pos c9] at H
        have c9b0 := eq_true c9
        have c9b1 : decide ((ji7) ≤ (wrap64 ((ji7) + 1))) = true := decide_eq_true c9
        by_cases c10 : (wrap64 ((ji7) + 1)) ≤ ((⟨#[48, 49, 50, 51, 52, 53, 54, 55, 56, 57]⟩ : ByteArray).size : Int)
        ·rw [if_pos c10] at H
         have c10b0 := eq_true c10
         have c10b4 : ((wrap64 ((ji7) + 1)) ≤ 10) = True := c10b0
         have c10b1 : decide ((wrap64 ((ji7) + 1)) ≤ ((⟨#[48, 49, 50, 51, 52, 53, 54, 55, 56, 57]⟩ : ByteArray).size : Int)) = true := decide_eq_true c10
         by_cases c11 : ((⟨#[48, 49, 50, 51, 52, 53, 54, 55, 56, 57]⟩ : ByteArray).extract ((ji7) : Int).toNat ((wrap64 ((ji7) + 1)) : Int).toNat).size + x4_1.size ≤ 9223372036854775807
         ·rw [if_pos c11] at H
          have c11b0 := eq_true c11
          have c11b1 : decide (((⟨#[48, 49, 50, 51, 52, 53, 54, 55, 56, 57]⟩ : ByteArray).extract ((ji7) : Int).toNat ((wrap64 ((ji7) + 1)) : Int).toNat).size + x4_1.size ≤ 9223372036854775807) = true := decide_eq_true c11
          try have c11b2 : (9223372036854775807 < ((⟨#[48, 49, 50, 51, 52, 53, 54, 55, 56, 57]⟩ : ByteArray).extract ((ji7) : Int).toNat ((wrap64 ((ji7) + 1)) : Int).toNat).size + x4_1.size) = False := eq_false (Nat.not_lt.2 c11)
          have H' := Aside0.mk H
          clear H
          go_wp2
          go_roundg k1
          case measure => have := HK1.out; omega
          case rel => exact ⟨(((⟨#[48, 49, 50, 51, 52, 53, 54, 55, 56, 57]⟩ : ByteArray).extract ((ji7) : Int).toNat ((wrap64 ((ji7) + 1)) : Int).toNat) ++ x4_1), (wrap64 (Int.tdiv x5_1 10)), (by first | rfl | (simp; done) | (simp only [← hji7] <;> (first | rfl | simp)) | (simp [*]; done)), (by first | rfl | (simp; done) | (simp [*]; done)), H', ⟨by have := HK1.out; omega⟩, ⟨by repeat (first | (with_reducible first | exact HB.out | apply below_alloc | apply pw_below_drewN | apply below_drew1) | exact HB.out)⟩⟩
         ·rw [if_neg c11] at H
          exact absurd H (by simp)
        ·rw [if_neg c10] at H
         exact absurd H (by simp)
       ·rw [if_neg c9] at H
        exact absurd H (by simp)
      ·rw [if_neg c8] at H
       exact absurd H (by simp)
     ·rw [if_neg c6] at H
      have c6b0 : decide ((Int.tmod x5_1 10) < 0) = false := decide_eq_false c6
      clear c6
      obtain ⟨ji12, hji12⟩ : ∃ j_ : Int, (Int.tmod x5_1 10) = j_ := ⟨_, rfl⟩
      replace H : (if 0 ≤ (ji12) then (if (ji12) ≤ (wrap64 ((ji12) + 1)) then (if (wrap64 ((ji12) + 1)) ≤ ((⟨#[48, 49, 50, 51, 52, 53, 54, 55, 56, 57]⟩ : ByteArray).size : Int) then (if ((⟨#[48, 49, 50, 51, 52, 53, 54, 55, 56, 57]⟩ : ByteArray).extract ((ji12) : Int).toNat ((wrap64 ((ji12) + 1)) : Int).toNat).size + x4_1.size ≤ 9223372036854775807 then (intervalmonref01_Decimal.l0 k1 a0 (⟨#[48, 49, 50, 51, 52, 53, 54, 55, 56, 57]⟩ : ByteArray) (((⟨#[48, 49, 50, 51, 52, 53, 54, 55, 56, 57]⟩ : ByteArray).extract ((ji12) : Int).toNat ((wrap64 ((ji12) + 1)) : Int).toNat) ++ x4_1) (wrap64 (Int.tdiv x5_1 10))) else (none)) else (none)) else (none)) else (none)) = some r := by first | (rw [hji12] at H; exact H) | (simp only [hji12] at H ⊢; exact H)
      (try rw [hji12] at c6b0)
      by_cases c13 : 0 ≤ (ji12)
      ·rw [if_pos c13] at H
       have c13b0 := eq_true c13
       have c13b1 : decide (0 ≤ (ji12)) = true := decide_eq_true c13
       clear c13
       by_cases c14 : (ji12) ≤ (wrap64 ((ji12) + 1))
       ·rw [if_pos c14] at H
        have c14b0 := eq_true c14
        have c14b1 : decide ((ji12) ≤ (wrap64 ((ji12) + 1))) = true := decide_eq_true c14
        by_cases c15 : (wrap64 ((ji12) + 1)) ≤ ((⟨#[48, 49, 50, 51, 52, 53, 54, 55, 56, 57]⟩ : ByteArray).size : Int)
        ·rw [if_pos c15] at H
         have c15b0 := eq_true c15
         have c15b4 : ((wrap64 ((ji12) + 1)) ≤ 10) = True := c15b0
         have c15b1 : decide ((wrap64 ((ji12) + 1)) ≤ ((⟨#[48, 49, 50, 51, 52, 53, 54, 55, 56, 57]⟩ : ByteArray).size : Int)) = true := decide_eq_true c15
         by_cases c16 : ((⟨#[48, 49, 50, 51, 52, 53, 54, 55, 56, 57]⟩ : ByteArray).extract ((ji12) : Int).toNat ((wrap64 ((ji12) + 1)) : Int).toNat).size + x4_1.size ≤ 9223372036854775807
         ·rw [if_pos c16] at H
          have c16b0 := eq_true c16
          have c16b1 : decide (((⟨#[48, 49, 50, 51, 52, 53, 54, 55, 56, 57]⟩ : ByteArray).extract ((ji12) : Int).toNat ((wrap64 ((ji12) + 1)) : Int).toNat).size + x4_1.size ≤ 9223372036854775807) = true := decide_eq_true c16
          try have c16b2 : (9223372036854775807 < ((⟨#[48, 49, 50, 51, 52, 53, 54, 55, 56, 57]⟩ : ByteArray).extract ((ji12) : Int).toNat ((wrap64 ((ji12) + 1)) : Int).toNat).size + x4_1.size) = False := eq_false (Nat.not_lt.2 c16)
          have H' := Aside0.mk H
          clear H
          go_wp2
          go_roundg k1
          case measure => have := HK1.out; omega
          case rel => exact ⟨(((⟨#[48, 49, 50, 51, 52, 53, 54, 55, 56, 57]⟩ : ByteArray).extract ((ji12) : Int).toNat ((wrap64 ((ji12) + 1)) : Int).toNat) ++ x4_1), (wrap64 (Int.tdiv x5_1 10)), (by first | rfl | (simp; done) | (simp only [← hji12] <;> (first | rfl | simp)) | (simp [*]; done)), (by first | rfl | (simp; done) | (simp [*]; done)), H', ⟨by have := HK1.out; omega⟩, ⟨by repeat (first | (with_reducible first | exact HB.out | apply below_alloc | apply pw_below_drewN | apply below_drew1) | exact HB.out)⟩⟩
         ·rw [if_neg c16] at H
          exact absurd H (by simp)
        ·rw [if_neg c15] at H
         exact absurd H (by simp)
       ·rw [if_neg c14] at H
        exact absurd H (by simp)
      ·rw [if_neg c13] at H
       exact absurd H (by simp)

/-! ### intervalmonref03_Text: function 32 -/
def intervalmonref03_Text.f (k : Nat) (a0_0 : Int) (a0_1 : Int) : Option (ByteArray) := (intervalmonref03_Valid.f k a0_0 a0_1).bind fun t415 => (if t415 = true then (if a0_1 = 1 then ((intervalmonref01_Decimal.f k a0_0).bind fun t416 => (some t416)) else ((intervalmonref01_Decimal.f k a0_0).bind fun t417 => (if t417.size + 1 ≤ 9223372036854775807 then ((intervalmonref01_Decimal.f k a0_1).bind fun t418 => (if (t417 ++ (⟨#[47]⟩ : ByteArray)).size + t418.size ≤ 9223372036854775807 then (some ((t417 ++ (⟨#[47]⟩ : ByteArray)) ++ t418)) else (none))) else (none)))) else (some (⟨#[]⟩ : ByteArray)))
theorem intervalmonref03_Text.mono : ∀ a0 a1 k, LeO (intervalmonref03_Text.f k a0 a1) (intervalmonref03_Text.f (k + 1) a0 a1) := by
 intro a0 a1 k
 unfold intervalmonref03_Text.f
 repeat' first
   | (with_reducible exact intervalmonref01_Decimal.mono _ _)
   | (with_reducible exact intervalmonref03_Valid.mono _ _ _)
   | (with_reducible exact LeO.refl _)
   | (with_reducible exact LeO.none _)
   | (with_reducible refine LeO.ite ?_ ?_)
   | (with_reducible refine LeO.bind ?_ (fun _ => ?_))
   | exact intervalmonref01_Decimal.mono _ _
   | exact intervalmonref03_Valid.mono _ _ _
   | exact LeO.none _
   | refine LeO.ite ?_ ?_
   | refine LeO.bind ?_ (fun _ => ?_)
def intervalmonref03_Text.T6 : Bool × List (List Nat × List Nat) := (true, [([], []), ([0], [0]), ([1], [1]), ([2], [2]), ([], []), ([4], [4]), ([5, 2], [5]), ([3, 6], [3, 6]), ([7, 6, 0, 1, 2, 3, 4, 5, 6, 7], [7])])
def intervalmonref03_Text.B6 : List Nat := [0, 1, 3, 7, 0, 16, 55, 127, 255]
theorem intervalmonref03_Text.tab6 : rtab .any (opsOf Tryd.f32 6) = intervalmonref03_Text.T6 := by kernel_rfl
theorem intervalmonref03_Text.bits6 : waitsOk intervalmonref03_Text.T6.2 intervalmonref03_Text.B6 = true := by kernel_rfl
set_option maxHeartbeats 8000000 in
set_option maxRecDepth 100000 in
theorem intervalmonref03_Text.calls (k : Nat) (a0_0 : Int) (a0_1 : Int) (r : ByteArray) (w : World) (h : intervalmonref03_Text.f k a0_0 a0_1 = some r) :
  Calls Tryd.prog 32 #[.agg #[.int .i64 a0_0, .int .i64 a0_1]] w fun e w' => e = .returned (.string r) ∧ Below w.heap.size w w' := by
 have hu24 := Tryd.underlying24
 have HB := Aside0.mk (Below.refl w.heap.size w)
 have H : ((intervalmonref03_Valid.f k a0_0 a0_1).bind fun t415 => (if t415 = true then (if a0_1 = 1 then ((intervalmonref01_Decimal.f k a0_0).bind fun t416 => (some t416)) else ((intervalmonref01_Decimal.f k a0_0).bind fun t417 => (if t417.size + 1 ≤ 9223372036854775807 then ((intervalmonref01_Decimal.f k a0_1).bind fun t418 => (if (t417 ++ (⟨#[47]⟩ : ByteArray)).size + t418.size ≤ 9223372036854775807 then (some ((t417 ++ (⟨#[47]⟩ : ByteArray)) ++ t418)) else (none))) else (none)))) else (some (⟨#[]⟩ : ByteArray)))) = some r := h
 clear h
 replace H := Option.bind_eq_some_iff.mp H
 obtain ⟨t415, A20, H⟩ := H
 replace H : (if t415 = true then (if a0_1 = 1 then ((intervalmonref01_Decimal.f k a0_0).bind fun t416 => (some t416)) else ((intervalmonref01_Decimal.f k a0_0).bind fun t417 => (if t417.size + 1 ≤ 9223372036854775807 then ((intervalmonref01_Decimal.f k a0_1).bind fun t418 => (if (t417 ++ (⟨#[47]⟩ : ByteArray)).size + t418.size ≤ 9223372036854775807 then (some ((t417 ++ (⟨#[47]⟩ : ByteArray)) ++ t418)) else (none))) else (none)))) else (some (⟨#[]⟩ : ByteArray))) = some r := H
 have A2 := Aside0.mk A20
 clear A20
 by_cases c3 : t415 = true
 ·subst c3
  have H1 : (if a0_1 = 1 then ((intervalmonref01_Decimal.f k a0_0).bind fun t416 => (some t416)) else ((intervalmonref01_Decimal.f k a0_0).bind fun t417 => (if t417.size + 1 ≤ 9223372036854775807 then ((intervalmonref01_Decimal.f k a0_1).bind fun t418 => (if (t417 ++ (⟨#[47]⟩ : ByteArray)).size + t418.size ≤ 9223372036854775807 then (some ((t417 ++ (⟨#[47]⟩ : ByteArray)) ++ t418)) else (none))) else (none)))) = some r := by rw [if_pos rfl] at H; exact H
  clear H
  have H := H1
  clear H1
  by_cases c4 : a0_1 = 1
  ·rw [if_pos c4] at H
   have c4b0 : (a0_1 == 1) = true := beq_iff_eq.mpr c4
   have c4b1 : (a0_1 != 1) = false := bne_eq_false_iff_eq.mpr c4
   clear c4
   replace H := Option.bind_eq_some_iff.mp H
   obtain ⟨t416, A50, H⟩ := H
   replace H : (some t416) = some r := H
   have A5 := Aside0.mk A50
   clear A50
   obtain rfl := Option.some.inj H
   go_enter Tryd.func32, Tryd.ntmps32
   go_wp2_with (first | ((with_reducible refine gate_dst (N := 1) rfl ?_); refine box_event ?hg (N := 1) ?hd (cs := #[.int .i64 a0_0, .int .i64 a0_1]) (t := 24) ?hr ?_; (case hd => rfl); (case hg => rfl); (case hr => first | (go_simp; done) | (go_simp; rfl)); intro gb414 hg w6 hbox hb; have n0_ := Aside0.mk (below_step (hq HB) hb); have n1_ := Aside0.mk (hbox); have n2_ := Aside0.mk ((by rw [hg]; exact (below_size (hq HB)) : w.heap.size ≤ gb414)); have n3_ := Aside0.mk ((by rw [hg]; exact (below_size (hq HB)) : w.heap.size ≤ gb414)); clear HB; have HB := n0_; have BK414 := n1_; have GW414 := n2_; have GE414 := n3_; clear n0_ n1_ n2_ n3_; clear hb hbox hg; have hcz7_0 : w6.cell? ⟨gb414, 0, none⟩ = some (.int .i64 a0_0) := (blk_cell BK414.out 0).trans rfl; have hcz7_1 : w6.cell? ⟨gb414, 1, none⟩ = some (.int .i64 a0_1) := (blk_cell BK414.out 1).trans rfl; have hfz7_0 := blk_frozen BK414.out 0; have hfz7_1 := blk_frozen BK414.out 1) | ((with_reducible refine gate_callee (f := 62) rfl ?_); refine goesL_ (some 5) rfl rfl Tryd.func62 (by kernel_rfl) rfl #[.agg #[.int .i64 a0_0, .int .i64 a0_1]] rfl aq ?_; (with_reducible refine (intervalmonref03_Valid.calls k a0_0 a0_1 true _ A2.out).mono ?_); rintro e w8 ⟨rfl, hb⟩; refine ⟨_, rfl, ?_⟩; have n0_ := bb BK414 hb; have n1_ := Aside0.mk (below_step (hq HB) hb); clear BK414; clear HB; have BK414 := n0_; have HB := n1_; clear n0_ n1_; (try clear hb); (try clear hb2); (try clear hk); (try clear hi); have hcz9_0 : w8.cell? ⟨gb414, 0, none⟩ = some (.int .i64 a0_0) := (blk_cell BK414.out 0).trans rfl; have hcz9_1 : w8.cell? ⟨gb414, 1, none⟩ = some (.int .i64 a0_1) := (blk_cell BK414.out 1).trans rfl; have hfz9_0 := blk_frozen BK414.out 0; have hfz9_1 := blk_frozen BK414.out 1) | ((with_reducible refine gate_callee (f := 67) rfl ?_); refine goesL_ (some 13) rfl rfl Tryd.func67 (by kernel_rfl) rfl #[.int .i64 a0_0] rfl aq ?_; (with_reducible refine (intervalmonref01_Decimal.calls k a0_0 t416 _ A5.out).mono ?_); rintro e w10 ⟨rfl, hb⟩; refine ⟨_, rfl, ?_⟩; have n0_ := bb BK414 hb; have n1_ := Aside0.mk (below_step (hq HB) hb); clear BK414; clear HB; have BK414 := n0_; have HB := n1_; clear n0_ n1_; (try clear hb); (try clear hb2); (try clear hk); (try clear hi)))
   go_ret
   exact ⟨by first | rfl | (simp [errW_none, errW_some] <;> rfl) | (simp [*, errW_none, errW_some] <;> rfl), by repeat (first | (with_reducible first | exact HB.out | apply below_alloc | apply pw_below_drewN | apply below_drew1 | refine below_set ?_ GE414.out) | exact HB.out)⟩
  ·rw [if_neg c4] at H
   have c4b0 : (a0_1 == 1) = false := beq_eq_false_iff_ne.mpr c4
   have c4b1 : (a0_1 != 1) = true := bne_iff_ne.mpr c4
   replace H := Option.bind_eq_some_iff.mp H
   obtain ⟨t417, A110, H⟩ := H
   replace H : (if t417.size + 1 ≤ 9223372036854775807 then ((intervalmonref01_Decimal.f k a0_1).bind fun t418 => (if (t417 ++ (⟨#[47]⟩ : ByteArray)).size + t418.size ≤ 9223372036854775807 then (some ((t417 ++ (⟨#[47]⟩ : ByteArray)) ++ t418)) else (none))) else (none)) = some r := H
   have A11 := Aside0.mk A110
   clear A110
   by_cases c12 : t417.size + 1 ≤ 9223372036854775807
   ·rw [if_pos c12] at H
    have c12b0 := eq_true c12
    have c12b1 : decide (t417.size + 1 ≤ 9223372036854775807) = true := decide_eq_true c12
    try have c12b2 : (9223372036854775807 < t417.size + 1) = False := eq_false (Nat.not_lt.2 c12)
    replace H := Option.bind_eq_some_iff.mp H
    obtain ⟨t418, A130, H⟩ := H
    replace H : (if (t417 ++ (⟨#[47]⟩ : ByteArray)).size + t418.size ≤ 9223372036854775807 then (some ((t417 ++ (⟨#[47]⟩ : ByteArray)) ++ t418)) else (none)) = some r := H
    have A13 := Aside0.mk A130
    clear A130
    by_cases c14 : (t417 ++ (⟨#[47]⟩ : ByteArray)).size + t418.size ≤ 9223372036854775807
    ·rw [if_pos c14] at H
     have c14b0 := eq_true c14
     have c14b1 : decide ((t417 ++ (⟨#[47]⟩ : ByteArray)).size + t418.size ≤ 9223372036854775807) = true := decide_eq_true c14
     try have c14b2 : (9223372036854775807 < (t417 ++ (⟨#[47]⟩ : ByteArray)).size + t418.size) = False := eq_false (Nat.not_lt.2 c14)
     try (have c14b3 := c14b2; simp only [ByteArray.size_append, show (⟨#[47]⟩ : ByteArray).size = 1 from rfl] at c14b3)
     obtain rfl := Option.some.inj H
     go_enter Tryd.func32, Tryd.ntmps32
     try go_wp2_with (first | ((with_reducible refine gate_dst (N := 1) rfl ?_); refine box_event ?hg (N := 1) ?hd (cs := #[.int .i64 a0_0, .int .i64 a0_1]) (t := 24) ?hr ?_; (case hd => rfl); (case hg => rfl); (case hr => first | (go_simp; done) | (go_simp; rfl)); intro gb414 hg w15 hbox hb; have n0_ := Aside0.mk (below_step (hq HB) hb); have n1_ := Aside0.mk (hbox); have n2_ := Aside0.mk ((by rw [hg]; exact (below_size (hq HB)) : w.heap.size ≤ gb414)); have n3_ := Aside0.mk ((by rw [hg]; exact (below_size (hq HB)) : w.heap.size ≤ gb414)); clear HB; have HB := n0_; have BK414 := n1_; have GW414 := n2_; have GE414 := n3_; clear n0_ n1_ n2_ n3_; clear hb hbox hg; have hcz16_0 : w15.cell? ⟨gb414, 0, none⟩ = some (.int .i64 a0_0) := (blk_cell BK414.out 0).trans rfl; have hcz16_1 : w15.cell? ⟨gb414, 1, none⟩ = some (.int .i64 a0_1) := (blk_cell BK414.out 1).trans rfl; have hfz16_0 := blk_frozen BK414.out 0; have hfz16_1 := blk_frozen BK414.out 1) | ((with_reducible refine gate_callee (f := 62) rfl ?_); refine goesL_ (some 5) rfl rfl Tryd.func62 (by kernel_rfl) rfl #[.agg #[.int .i64 a0_0, .int .i64 a0_1]] rfl aq ?_; (with_reducible refine (intervalmonref03_Valid.calls k a0_0 a0_1 true _ A2.out).mono ?_); rintro e w17 ⟨rfl, hb⟩; refine ⟨_, rfl, ?_⟩; have n0_ := bb BK414 hb; have n1_ := Aside0.mk (below_step (hq HB) hb); clear BK414; clear HB; have BK414 := n0_; have HB := n1_; clear n0_ n1_; (try clear hb); (try clear hb2); (try clear hk); (try clear hi); have hcz18_0 : w17.cell? ⟨gb414, 0, none⟩ = some (.int .i64 a0_0) := (blk_cell BK414.out 0).trans rfl; have hcz18_1 : w17.cell? ⟨gb414, 1, none⟩ = some (.int .i64 a0_1) := (blk_cell BK414.out 1).trans rfl; have hfz18_0 := blk_frozen BK414.out 0; have hfz18_1 := blk_frozen BK414.out 1))
     have n0_ := Aside0.mk (blk_drew BK414.out)
     have n1_ := Aside0.mk (below_drew1 HB.out)
     clear BK414
     clear HB
     have BK414 := n0_
     have HB := n1_
     clear n0_ n1_
     refine start_ (n := 9) (S := fun w' => w'.cell? ⟨gb414, 0, none⟩ = some (.int .i64 a0_0) ∧ w'.cell? ⟨gb414, 1, none⟩ = some (.int .i64 a0_1)) (ds := []) #[false, false, false, false, false, false, false, false, false] (by kernel_rfl) rfl rfl ⟨(blk_cell BK414.out 0).trans rfl, (blk_cell BK414.out 1).trans rfl⟩ (fun hHeld => ?_); refine with_tabW intervalmonref03_Text.tab6 intervalmonref03_Text.bits6 (fun HT_ HW_ => ?_)
     generalize w17.drew = w19 at BK414 HB hHeld ⊢
     refine pure_ (i := 0) (N := some 14) (v := ?_) (a' := ?_) #[true, false, false, false, false, false, false, false, false] rfl rfl (any_of HT_.out (by kernel_rfl)) (fun _ _ _ h => h) (Or.inl ⟨by rfl, ?_⟩) ?_ ?_
     rotate_left
     ·intro w'
      go_simp
      with_reducible rfl
     rotate_left
     ·simp only [Act.put, List.setIfInBounds_toArray, List.set_cons_zero, List.set_cons_succ, i64_w, i32_w]
      rfl
     refine pure_ (i := 4) (N := some 18) (v := ?_) (a' := ?_) #[true, false, false, false, true, false, false, false, false] rfl rfl (any_of HT_.out (by kernel_rfl)) (fun _ _ _ h => h) (Or.inl ⟨by rfl, ?_⟩) ?_ ?_
     rotate_left
     ·intro w'
      go_simp
      with_reducible rfl
     rotate_left
     ·simp only [Act.put, List.setIfInBounds_toArray, List.set_cons_zero, List.set_cons_succ, i64_w, i32_w]
      rfl
     refine take_ (i := 1) (N := some 15) (v := ?_) (a' := ?_) #[true, true, false, false, true, false, false, false, false] rfl rfl (take_ofW HT_.out HW_.out (by kernel_rfl)) (fun _ _ _ h => h) (Or.inl ⟨by rfl, ?_⟩) hHeld ?_ ?_
     rotate_left
     ·rintro w' ⟨s0, s1⟩
      go_simp
      with_reducible rfl
     rotate_left
     ·simp only [Act.put, List.setIfInBounds_toArray, List.set_cons_zero, List.set_cons_succ, i64_w, i32_w]
      rfl
     refine take_ (i := 5) (N := some 19) (v := ?_) (a' := ?_) #[true, true, false, false, true, true, false, false, false] rfl rfl (take_ofW HT_.out HW_.out (by kernel_rfl)) (fun _ _ _ h => h) (Or.inl ⟨by rfl, ?_⟩) hHeld ?_ ?_
     rotate_left
     ·rintro w' ⟨s0, s1⟩
      go_simp
      with_reducible rfl
     rotate_left
     ·simp only [Act.put, List.setIfInBounds_toArray, List.set_cons_zero, List.set_cons_succ, i64_w, i32_w]
      rfl
     refine one_ (i := 2) (N := some 16) #[true, true, true, false, true, true, false, false, false] rfl rfl (one_of HT_.out (by kernel_rfl)) (by decide) (fun K hK => ?_)
     refine goes_ Tryd.func67 (by kernel_rfl) rfl #[.int .i64 a0_0] (by rfl) rfl rfl aq ?_
     with_reducible refine (intervalmonref01_Decimal.calls k a0_0 t417 _ A11.out).mono ?_
     rintro e w20 ⟨rfl, hb⟩
     refine ⟨_, rfl, ?_⟩
     have n0_ := bb BK414 hb
     have n1_ := Aside0.mk (below_step (hq HB) hb)
     clear BK414
     clear HB
     have BK414 := n0_
     have HB := n1_
     clear n0_ n1_
     (try clear hb)
     (try clear hb2)
     (try clear hk)
     (try clear hi)
     refine hK.out _ _ ⟨(blk_cell BK414.out 0).trans rfl, (blk_cell BK414.out 1).trans rfl⟩ (fun hHeld => ?_)
     clear hK K
     refine norm_ (a' := ?_) ?_ ?_
     rotate_left
     ·show Act.put _ (some 16) _ = _
      simp only [Act.put, List.setIfInBounds_toArray, List.set_cons_zero, List.set_cons_succ, i64_w, i32_w]
      rfl
     refine pure_ (i := 3) (N := some 17) (v := ?_) (a' := ?_) #[true, true, true, true, true, true, false, false, false] rfl rfl (any_of HT_.out (by kernel_rfl)) (fun _ _ _ h => h) (Or.inl ⟨by rfl, ?_⟩) ?_ ?_
     rotate_left
     ·intro w'
      go_simp
      with_reducible rfl
     rotate_left
     ·simp only [Act.put, List.setIfInBounds_toArray, List.set_cons_zero, List.set_cons_succ, i64_w, i32_w]
      rfl
     refine one_ (i := 6) (N := some 20) #[true, true, true, true, true, true, true, false, false] rfl rfl (one_of HT_.out (by kernel_rfl)) (by decide) (fun K hK => ?_)
     refine goes_ Tryd.func67 (by kernel_rfl) rfl #[.int .i64 a0_1] (by rfl) rfl rfl aq ?_
     with_reducible refine (intervalmonref01_Decimal.calls k a0_1 t418 _ A13.out).mono ?_
     rintro e w21 ⟨rfl, hb⟩
     refine ⟨_, rfl, ?_⟩
     have n0_ := bb BK414 hb
     have n1_ := Aside0.mk (below_step (hq HB) hb)
     clear BK414
     clear HB
     have BK414 := n0_
     have HB := n1_
     clear n0_ n1_
     (try clear hb)
     (try clear hb2)
     (try clear hk)
     (try clear hi)
     refine hK.out _ _ ⟨(blk_cell BK414.out 0).trans rfl, (blk_cell BK414.out 1).trans rfl⟩ (fun hHeld => ?_)
     clear hK K
     refine norm_ (a' := ?_) ?_ ?_
     rotate_left
     ·show Act.put _ (some 20) _ = _
      simp only [Act.put, List.setIfInBounds_toArray, List.set_cons_zero, List.set_cons_succ, i64_w, i32_w]
      rfl
     refine pure_ (i := 7) (N := some 21) (v := ?_) (a' := ?_) #[true, true, true, true, true, true, true, true, false] rfl rfl (any_of HT_.out (by kernel_rfl)) (fun _ _ _ h => h) (Or.inl ⟨by rfl, ?_⟩) ?_ ?_
     rotate_left
     ·intro w'
      go_simp
      with_reducible rfl
     rotate_left
     ·simp only [Act.put, List.setIfInBounds_toArray, List.set_cons_zero, List.set_cons_succ, i64_w, i32_w]
      rfl
     refine pure_ (i := 8) (N := some 2) (v := ?_) (a' := ?_) #[true, true, true, true, true, true, true, true, true] rfl rfl (any_of HT_.out (by kernel_rfl)) (fun _ _ _ h => h) (Or.inl ⟨by rfl, ?_⟩) ?_ ?_
     rotate_left
     ·intro w'
      go_simp
      with_reducible rfl
     rotate_left
     ·simp only [Act.put, List.setIfInBounds_toArray, List.set_cons_zero, List.set_cons_succ, i64_w, i32_w]
      rfl
     refine done_ (done_of HT_.out (by kernel_rfl)) ?_
     try go_wp2
     go_ret
     exact ⟨by first | rfl | (simp [errW_none, errW_some] <;> rfl) | (simp [*, errW_none, errW_some] <;> rfl), by repeat (first | (with_reducible first | exact HB.out | apply below_alloc | apply pw_below_drewN | apply below_drew1 | refine below_set ?_ GE414.out) | exact HB.out)⟩
    ·rw [if_neg c14] at H
     exact absurd H (by simp)
   ·rw [if_neg c12] at H
    exact absurd H (by simp)
 ·replace c3 := Bool.eq_false_iff.mpr c3
  subst c3
  have H1 : (some (⟨#[]⟩ : ByteArray)) = some r := by rw [if_neg (show ¬ (false = true) by decide)] at H; exact H
  clear H
  have H := H1
  clear H1
  obtain rfl := Option.some.inj H
  go_enter Tryd.func32, Tryd.ntmps32
  go_wp2_with (first | ((with_reducible refine gate_dst (N := 1) rfl ?_); refine box_event ?hg (N := 1) ?hd (cs := #[.int .i64 a0_0, .int .i64 a0_1]) (t := 24) ?hr ?_; (case hd => rfl); (case hg => rfl); (case hr => first | (go_simp; done) | (go_simp; rfl)); intro gb414 hg w22 hbox hb; have n0_ := Aside0.mk (below_step (hq HB) hb); have n1_ := Aside0.mk (hbox); have n2_ := Aside0.mk ((by rw [hg]; exact (below_size (hq HB)) : w.heap.size ≤ gb414)); have n3_ := Aside0.mk ((by rw [hg]; exact (below_size (hq HB)) : w.heap.size ≤ gb414)); clear HB; have HB := n0_; have BK414 := n1_; have GW414 := n2_; have GE414 := n3_; clear n0_ n1_ n2_ n3_; clear hb hbox hg; have hcz23_0 : w22.cell? ⟨gb414, 0, none⟩ = some (.int .i64 a0_0) := (blk_cell BK414.out 0).trans rfl; have hcz23_1 : w22.cell? ⟨gb414, 1, none⟩ = some (.int .i64 a0_1) := (blk_cell BK414.out 1).trans rfl; have hfz23_0 := blk_frozen BK414.out 0; have hfz23_1 := blk_frozen BK414.out 1) | ((with_reducible refine gate_callee (f := 62) rfl ?_); refine goesL_ (some 5) rfl rfl Tryd.func62 (by kernel_rfl) rfl #[.agg #[.int .i64 a0_0, .int .i64 a0_1]] rfl aq ?_; (with_reducible refine (intervalmonref03_Valid.calls k a0_0 a0_1 false _ A2.out).mono ?_); rintro e w24 ⟨rfl, hb⟩; refine ⟨_, rfl, ?_⟩; have n0_ := bb BK414 hb; have n1_ := Aside0.mk (below_step (hq HB) hb); clear BK414; clear HB; have BK414 := n0_; have HB := n1_; clear n0_ n1_; (try clear hb); (try clear hb2); (try clear hk); (try clear hi)))
  go_ret
  exact ⟨by first | rfl | (simp [errW_none, errW_some] <;> rfl) | (simp [*, errW_none, errW_some] <;> rfl), by repeat (first | (with_reducible first | exact HB.out | apply below_alloc | apply pw_below_drewN | apply below_drew1 | refine below_set ?_ GE414.out) | exact HB.out)⟩

/-! ### intervalmonlaw03_FracTexts: function 6 -/
def intervalmonlaw03_FracTexts.f (k : Nat) (a0 : Int) (a1 : Int) : Option (Bool) := (intervalmonref03_Of.f k a0 a1).bind fun bt419 => ((frac_Text.f k bt419.1 bt419.2).bind fun t422 => ((frac_Parse.f k t422).bind fun bt423 => ((intervalmonref03_Text.f k bt419.1 bt419.2).bind fun t428 => (if t422.toList = t428.toList then (if bt423.2.2 = 0 then (if (bt419.1 == bt423.1 && (bt419.2 == bt423.2.1)) = true then ((frac_Text.f k a0 a1).bind fun t429 => ((intervalmonref03_Text.f k a0 a1).bind fun t430 => (if t429.toList = t430.toList then ((intervalmonlaw03_lives.f k).bind fun t431 => (some t431)) else (some false)))) else (some false)) else (some false)) else (some false)))))
theorem intervalmonlaw03_FracTexts.mono : ∀ a0 a1 k, LeO (intervalmonlaw03_FracTexts.f k a0 a1) (intervalmonlaw03_FracTexts.f (k + 1) a0 a1) := by
 intro a0 a1 k
 unfold intervalmonlaw03_FracTexts.f
 repeat' first
   | (with_reducible exact frac_Parse.mono _ _)
   | (with_reducible exact frac_Text.mono _ _ _)
   | (with_reducible exact intervalmonlaw03_lives.mono _)
   | (with_reducible exact intervalmonref03_Of.mono _ _ _)
   | (with_reducible exact intervalmonref03_Text.mono _ _ _)
   | (with_reducible exact LeO.refl _)
   | (with_reducible exact LeO.none _)
   | (with_reducible refine LeO.ite ?_ ?_)
   | (with_reducible refine LeO.bind ?_ (fun _ => ?_))
   | exact frac_Parse.mono _ _
   | exact frac_Text.mono _ _ _
   | exact intervalmonlaw03_lives.mono _
   | exact intervalmonref03_Of.mono _ _ _
   | exact intervalmonref03_Text.mono _ _ _
   | exact LeO.none _
   | refine LeO.ite ?_ ?_
   | refine LeO.bind ?_ (fun _ => ?_)
def intervalmonlaw03_FracTexts.T5 : Bool × List (List Nat × List Nat) := (true, [([], []), ([], []), ([1], [1]), ([0, 2], [0, 2]), ([3, 2], [3]), ([4], [4]), ([5, 4], [4, 5]), ([4, 6], [4, 6]), ([7, 4], [7]), ([8], [8]), ([8], [8]), ([9, 10, 8], [8, 9, 10]), ([8, 11], [8, 11]), ([12, 8], [12]), ([13], [13]), ([14, 13, 13], [13, 14]), ([13], [13]), ([16, 15, 13], [13, 16]), ([15, 17, 13], [13, 15, 17]), ([13, 18], [13, 18]), ([19, 17], [19]), ([20, 20], [20]), ([20, 21], [20, 21]), ([22, 21, 0, 1, 2, 3, 4, 5, 6, 7, 8, 9, 10, 11, 12, 13, 14, 15, 16, 17, 18, 19, 20, 21, 22], [22])])
def intervalmonlaw03_FracTexts.B5 : List Nat := [0, 0, 2, 7, 15, 31, 63, 127, 255, 511, 511, 2047, 4095, 8191, 16383, 32767, 16383, 131071, 262143, 524287, 1048575, 2097151, 4194303, 8388607]
theorem intervalmonlaw03_FracTexts.tab5 : rtab .any (opsOf Tryd.f6 5) = intervalmonlaw03_FracTexts.T5 := by kernel_rfl
theorem intervalmonlaw03_FracTexts.bits5 : waitsOk intervalmonlaw03_FracTexts.T5.2 intervalmonlaw03_FracTexts.B5 = true := by kernel_rfl
set_option maxHeartbeats 8000000 in
set_option maxRecDepth 100000 in
theorem intervalmonlaw03_FracTexts.calls (k : Nat) (a0 : Int) (a1 : Int) (r : Bool) (w : World) (hGL : GL w) (h : intervalmonlaw03_FracTexts.f k a0 a1 = some r) (hT : r = true := by first | rfl | assumption) :
  Calls Tryd.prog 6 #[.int .i64 a0, .int .i64 a1] w fun e w' => e = .returned (.bool r) ∧ Below w.heap.size w w' := by
 have HGL := Aside0.mk hGL
 clear hGL
 have hu24 := Tryd.underlying24
 have HT0 := Aside0.mk hT
 clear hT
 have HB := Aside0.mk (Below.refl w.heap.size w)
 have H : ((intervalmonref03_Of.f k a0 a1).bind fun bt419 => ((frac_Text.f k bt419.1 bt419.2).bind fun t422 => ((frac_Parse.f k t422).bind fun bt423 => ((intervalmonref03_Text.f k bt419.1 bt419.2).bind fun t428 => (if t422.toList = t428.toList then (if bt423.2.2 = 0 then (if (bt419.1 == bt423.1 && (bt419.2 == bt423.2.1)) = true then ((frac_Text.f k a0 a1).bind fun t429 => ((intervalmonref03_Text.f k a0 a1).bind fun t430 => (if t429.toList = t430.toList then ((intervalmonlaw03_lives.f k).bind fun t431 => (some t431)) else (some false)))) else (some false)) else (some false)) else (some false)))))) = some r := h
 clear h
 replace H := Option.bind_eq_some_iff.mp H
 obtain ⟨⟨t419, t420⟩, A30, H⟩ := H
 replace H : ((frac_Text.f k t419 t420).bind fun t422 => ((frac_Parse.f k t422).bind fun bt423 => ((intervalmonref03_Text.f k t419 t420).bind fun t428 => (if t422.toList = t428.toList then (if bt423.2.2 = 0 then (if (t419 == bt423.1 && (t420 == bt423.2.1)) = true then ((frac_Text.f k a0 a1).bind fun t429 => ((intervalmonref03_Text.f k a0 a1).bind fun t430 => (if t429.toList = t430.toList then ((intervalmonlaw03_lives.f k).bind fun t431 => (some t431)) else (some false)))) else (some false)) else (some false)) else (some false))))) = some r := H
 have A3 := Aside0.mk A30
 clear A30
 replace H := Option.bind_eq_some_iff.mp H
 obtain ⟨t422, A40, H⟩ := H
 replace H : ((frac_Parse.f k t422).bind fun bt423 => ((intervalmonref03_Text.f k t419 t420).bind fun t428 => (if t422.toList = t428.toList then (if bt423.2.2 = 0 then (if (t419 == bt423.1 && (t420 == bt423.2.1)) = true then ((frac_Text.f k a0 a1).bind fun t429 => ((intervalmonref03_Text.f k a0 a1).bind fun t430 => (if t429.toList = t430.toList then ((intervalmonlaw03_lives.f k).bind fun t431 => (some t431)) else (some false)))) else (some false)) else (some false)) else (some false)))) = some r := H
 have A4 := Aside0.mk A40
 clear A40
 replace H := Option.bind_eq_some_iff.mp H
 obtain ⟨⟨t423, t424, t425⟩, A50, H⟩ := H
 replace H : ((intervalmonref03_Text.f k t419 t420).bind fun t428 => (if t422.toList = t428.toList then (if t425 = 0 then (if (t419 == t423 && (t420 == t424)) = true then ((frac_Text.f k a0 a1).bind fun t429 => ((intervalmonref03_Text.f k a0 a1).bind fun t430 => (if t429.toList = t430.toList then ((intervalmonlaw03_lives.f k).bind fun t431 => (some t431)) else (some false)))) else (some false)) else (some false)) else (some false))) = some r := H
 have A5 := Aside0.mk A50
 clear A50
 replace H := Option.bind_eq_some_iff.mp H
 obtain ⟨t428, A60, H⟩ := H
 replace H : (if t422.toList = t428.toList then (if t425 = 0 then (if (t419 == t423 && (t420 == t424)) = true then ((frac_Text.f k a0 a1).bind fun t429 => ((intervalmonref03_Text.f k a0 a1).bind fun t430 => (if t429.toList = t430.toList then ((intervalmonlaw03_lives.f k).bind fun t431 => (some t431)) else (some false)))) else (some false)) else (some false)) else (some false)) = some r := H
 have A6 := Aside0.mk A60
 clear A60
 by_cases c7 : t422.toList = t428.toList
 ·rw [if_pos c7] at H
  have c7b0 : (t422.toList == t428.toList) = true := beq_iff_eq.mpr c7
  have c7b1 : (t422.toList != t428.toList) = false := bne_eq_false_iff_eq.mpr c7
  clear c7
  by_cases c8 : t425 = 0
  ·rw [if_pos c8] at H
   have c8b0 : (t425 == 0) = true := beq_iff_eq.mpr c8
   have c8b1 : (t425 != 0) = false := bne_eq_false_iff_eq.mpr c8
   clear c8
   by_cases c9 : (t419 == t423 && (t420 == t424)) = true
   ·rw [if_pos c9] at H
    have c9b0 : (t419 == t423 && (t420 == t424)) = true := c9
    (try (have c9b1 : decide (t419 = t423 && (t420 == t424)) = true := by simpa using c9))
    (try (have c9b2 : (t419 == t423 && (t420 == t424)) = true := by simpa using c9))
    clear c9
    replace H := Option.bind_eq_some_iff.mp H
    obtain ⟨t429, A100, H⟩ := H
    replace H : ((intervalmonref03_Text.f k a0 a1).bind fun t430 => (if t429.toList = t430.toList then ((intervalmonlaw03_lives.f k).bind fun t431 => (some t431)) else (some false))) = some r := H
    have A10 := Aside0.mk A100
    clear A100
    replace H := Option.bind_eq_some_iff.mp H
    obtain ⟨t430, A110, H⟩ := H
    replace H : (if t429.toList = t430.toList then ((intervalmonlaw03_lives.f k).bind fun t431 => (some t431)) else (some false)) = some r := H
    have A11 := Aside0.mk A110
    clear A110
    by_cases c12 : t429.toList = t430.toList
    ·rw [if_pos c12] at H
     have c12b0 : (t429.toList == t430.toList) = true := beq_iff_eq.mpr c12
     have c12b1 : (t429.toList != t430.toList) = false := bne_eq_false_iff_eq.mpr c12
     clear c12
     replace H := Option.bind_eq_some_iff.mp H
     obtain ⟨t431, A130, H⟩ := H
     replace H : (some t431) = some r := H
     have A13 := Aside0.mk A130
     clear A130
     obtain rfl := Option.some.inj H
     go_enter Tryd.func6, Tryd.ntmps6
     try go_wp2_with (first | ((with_reducible refine gate_callee (f := 13) rfl ?_); refine goesL_ (some 12) rfl rfl Tryd.func13 (by kernel_rfl) rfl #[.int .i64 a0, .int .i64 a1] rfl aq ?_; (with_reducible refine (intervalmonref03_Of.calls k a0 a1 t419 t420 _ A3.out).mono ?_); rintro e w14 ⟨rfl, hb⟩; refine ⟨_, rfl, ?_⟩; have n0_ := Aside0.mk (below_step (hq HB) hb); clear HB; have HB := n0_; clear n0_; (try clear hb); (try clear hb2); (try clear hk); (try clear hi)) | ((with_reducible refine gate_dst (N := 5) rfl ?_); refine box_event ?hg (N := 5) ?hd (cs := #[.int .i64 0, .int .i64 0]) (t := 24) ?hr ?_; (case hd => rfl); (case hg => rfl); (case hr => first | (go_simp; done) | (go_simp; rfl)); intro gb421 hg w15 hbox hb; have n0_ := Aside0.mk (below_step (hq HB) hb); have n1_ := Aside0.mk (hbox); have n2_ := Aside0.mk ((by rw [hg]; exact (below_size (hq HB)) : w.heap.size ≤ gb421)); have n3_ := Aside0.mk ((by rw [hg]; exact (below_size (hq HB)) : w.heap.size ≤ gb421)); clear HB; have HB := n0_; have BK421 := n1_; have GW421 := n2_; have GE421 := n3_; clear n0_ n1_ n2_ n3_; clear hb hbox hg; have hcz16_0 : w15.cell? ⟨gb421, 0, none⟩ = some (.int .i64 0) := (blk_cell BK421.out 0).trans rfl; have hcz16_1 : w15.cell? ⟨gb421, 1, none⟩ = some (.int .i64 0) := (blk_cell BK421.out 1).trans rfl; have hfz16_0 := blk_frozen BK421.out 0; have hfz16_1 := blk_frozen BK421.out 1) | ((with_reducible refine gate_callee (f := 16) rfl ?_); refine goesL_ (some 14) rfl rfl Tryd.func16 (by kernel_rfl) rfl #[.agg #[.int .i64 t419, .int .i64 t420]] rfl aq ?_; (with_reducible refine (frac_Text.calls k t419 t420 t422 _ (glq HGL HB) A4.out).mono ?_); rintro e w17 ⟨rfl, hb⟩; refine ⟨_, rfl, ?_⟩; have n0_ := Aside0.mk (blk_below (g := gb421) (o := .cells #[.int .i64 t419, .int .i64 t420] 24 (0, 0)) (by (with_reducible repeat (first | refine bN ?_ _ | refine bd ?_ | refine ba ?_ _)); refine blk_put (cs := #[.int .i64 t419, .int .i64 0]) ?_ 1 _ rfl; (with_reducible repeat (first | refine bN ?_ _ | refine bd ?_ | refine ba ?_ _)); refine blk_put (cs := #[.int .i64 0, .int .i64 0]) ?_ 0 _ rfl; (with_reducible repeat (first | refine bN ?_ _ | refine bd ?_ | refine ba ?_ _)); exact BK421.out) hb); have n1_ := Aside0.mk (below_step (hq HB) hb); clear BK421; clear HB; have BK421 := n0_; have HB := n1_; clear n0_ n1_; (try clear hb); (try clear hb2); (try clear hk); (try clear hi)) | ((with_reducible refine gate_callee (f := 20) rfl ?_); refine goesL_ (some 17) rfl rfl Tryd.func20 (by kernel_rfl) rfl #[.string t422] rfl aq ?_; (with_reducible refine (frac_Parse.calls k t422 t423 t424 t425 _ (glq HGL HB) A5.out).mono ?_); rintro e w18 ⟨rfl, hb⟩; refine ⟨_, rfl, ?_⟩; have n0_ := bb BK421 hb; have n1_ := Aside0.mk (below_step (hq HB) hb); clear BK421; clear HB; have BK421 := n0_; have HB := n1_; clear n0_ n1_; (try clear hb); (try clear hb2); (try clear hk); (try clear hi)) | ((with_reducible refine gate_dst (N := 7) rfl ?_); refine box_event ?hg (N := 7) ?hd (cs := #[.int .i64 0, .int .i64 0]) (t := 24) ?hr ?_; (case hd => rfl); (case hg => rfl); (case hr => first | (go_simp; done) | (go_simp; rfl)); intro gb426 hg w19 hbox hb; have n0_ := bb BK421 hb; have n1_ := Aside0.mk (below_step (hq HB) hb); have n2_ := Aside0.mk (hbox); have n3_ := Aside0.mk ((by rw [hg]; exact (below_size (hq HB)) : w.heap.size ≤ gb426)); have n4_ := Aside0.mk ((by rw [hg]; exact (below_size (hq HB)) : w.heap.size ≤ gb426)); have n5_ := nl BK421 hg; have n6_ := ng BK421 hg; clear BK421; clear HB; have BK421 := n0_; have HB := n1_; have BK426 := n2_; have GW426 := n3_; have GE426 := n4_; have NB421_426 := n5_; have NB426_421 := n6_; clear n0_ n1_ n2_ n3_ n4_ n5_ n6_; clear hb hbox hg; have hnb20 := NB426_421.out; have hnc20 := NB421_426.out; have hcz21_0 : w19.cell? ⟨gb426, 0, none⟩ = some (.int .i64 0) := (blk_cell BK426.out 0).trans rfl; have hcz21_1 : w19.cell? ⟨gb426, 1, none⟩ = some (.int .i64 0) := (blk_cell BK426.out 1).trans rfl; have hfz21_0 := blk_frozen BK426.out 0; have hfz21_1 := blk_frozen BK426.out 1) | ((with_reducible refine gate_dst (N := 9) rfl ?_); refine box_event ?hg (N := 9) ?hd (cs := #[.int .i64 0, .int .i64 0]) (t := 24) ?hr ?_; (case hd => rfl); (case hg => rfl); (case hr => first | (go_simp; done) | (go_simp; rfl)); intro gb427 hg w22 hbox hb; have n0_ := Aside0.mk (blk_below (g := gb421) (o := .cells #[.int .i64 t419, .int .i64 t420] 24 (0, 0)) (by (with_reducible repeat (first | refine bN ?_ _ | refine bd ?_ | refine ba ?_ _)); refine blk_far ?_ NB421_426.out _; (with_reducible repeat (first | refine bN ?_ _ | refine bd ?_ | refine ba ?_ _)); refine blk_far ?_ NB421_426.out _; (with_reducible repeat (first | refine bN ?_ _ | refine bd ?_ | refine ba ?_ _)); exact BK421.out) hb); have n1_ := Aside0.mk (blk_below (g := gb426) (o := .cells #[.int .i64 t423, .int .i64 t424] 24 (0, 0)) (by (with_reducible repeat (first | refine bN ?_ _ | refine bd ?_ | refine ba ?_ _)); refine blk_put (cs := #[.int .i64 t423, .int .i64 0]) ?_ 1 _ rfl; (with_reducible repeat (first | refine bN ?_ _ | refine bd ?_ | refine ba ?_ _)); refine blk_put (cs := #[.int .i64 0, .int .i64 0]) ?_ 0 _ rfl; (with_reducible repeat (first | refine bN ?_ _ | refine bd ?_ | refine ba ?_ _)); exact BK426.out) hb); have n2_ := Aside0.mk (below_step (hq HB) hb); have n3_ := Aside0.mk (hbox); have n4_ := Aside0.mk ((by rw [hg]; exact (below_size (hq HB)) : w.heap.size ≤ gb427)); have n5_ := Aside0.mk ((by rw [hg]; exact (below_size (hq HB)) : w.heap.size ≤ gb427)); have n6_ := Aside0.mk ((by rw [hg]; exact Nat.ne_of_lt (blk_lt (g := gb421) (o := .cells #[.int .i64 t419, .int .i64 t420] 24 (0, 0)) (by (with_reducible repeat (first | refine bN ?_ _ | refine bd ?_ | refine ba ?_ _)); refine blk_far ?_ NB421_426.out _; (with_reducible repeat (first | refine bN ?_ _ | refine bd ?_ | refine ba ?_ _)); refine blk_far ?_ NB421_426.out _; (with_reducible repeat (first | refine bN ?_ _ | refine bd ?_ | refine ba ?_ _)); exact BK421.out)) : gb421 ≠ gb427)); have n7_ := Aside0.mk ((by rw [hg]; exact Nat.ne_of_gt (blk_lt (g := gb421) (o := .cells #[.int .i64 t419, .int .i64 t420] 24 (0, 0)) (by (with_reducible repeat (first | refine bN ?_ _ | refine bd ?_ | refine ba ?_ _)); refine blk_far ?_ NB421_426.out _; (with_reducible repeat (first | refine bN ?_ _ | refine bd ?_ | refine ba ?_ _)); refine blk_far ?_ NB421_426.out _; (with_reducible repeat (first | refine bN ?_ _ | refine bd ?_ | refine ba ?_ _)); exact BK421.out)) : gb427 ≠ gb421)); have n8_ := Aside0.mk ((by rw [hg]; exact Nat.ne_of_lt (blk_lt (g := gb426) (o := .cells #[.int .i64 t423, .int .i64 t424] 24 (0, 0)) (by (with_reducible repeat (first | refine bN ?_ _ | refine bd ?_ | refine ba ?_ _)); refine blk_put (cs := #[.int .i64 t423, .int .i64 0]) ?_ 1 _ rfl; (with_reducible repeat (first | refine bN ?_ _ | refine bd ?_ | refine ba ?_ _)); refine blk_put (cs := #[.int .i64 0, .int .i64 0]) ?_ 0 _ rfl; (with_reducible repeat (first | refine bN ?_ _ | refine bd ?_ | refine ba ?_ _)); exact BK426.out)) : gb426 ≠ gb427)); have n9_ := Aside0.mk ((by rw [hg]; exact Nat.ne_of_gt (blk_lt (g := gb426) (o := .cells #[.int .i64 t423, .int .i64 t424] 24 (0, 0)) (by (with_reducible repeat (first | refine bN ?_ _ | refine bd ?_ | refine ba ?_ _)); refine blk_put (cs := #[.int .i64 t423, .int .i64 0]) ?_ 1 _ rfl; (with_reducible repeat (first | refine bN ?_ _ | refine bd ?_ | refine ba ?_ _)); refine blk_put (cs := #[.int .i64 0, .int .i64 0]) ?_ 0 _ rfl; (with_reducible repeat (first | refine bN ?_ _ | refine bd ?_ | refine ba ?_ _)); exact BK426.out)) : gb427 ≠ gb426)); clear BK421; clear BK426; clear HB; have BK421 := n0_; have BK426 := n1_; have HB := n2_; have BK427 := n3_; have GW427 := n4_; have GE427 := n5_; have NB421_427 := n6_; have NB427_421 := n7_; have NB426_427 := n8_; have NB427_426 := n9_; clear n0_ n1_ n2_ n3_ n4_ n5_ n6_ n7_ n8_ n9_; clear hb hbox hg; have hnb23 := NB427_421.out; have hnc23 := NB421_427.out; have hnb24 := NB427_426.out; have hnc24 := NB426_427.out; have hcz25_0 : w22.cell? ⟨gb427, 0, none⟩ = some (.int .i64 0) := (blk_cell BK427.out 0).trans rfl; have hcz25_1 : w22.cell? ⟨gb427, 1, none⟩ = some (.int .i64 0) := (blk_cell BK427.out 1).trans rfl; have hfz25_0 := blk_frozen BK427.out 0; have hfz25_1 := blk_frozen BK427.out 1))
     have n0_ : Aside0 (((w22.setCell ⟨gb427, 0, none⟩ (.int .i64 a0)).setCell ⟨gb427, 1, none⟩ (.int .i64 a1)).heap[gb421]? = some (.cells #[.int .i64 t419, .int .i64 t420] 24 (0, 0))) := ⟨by (with_reducible repeat (first | refine bN ?_ _ | refine bd ?_ | refine ba ?_ _)); refine blk_far ?_ NB421_427.out _; (with_reducible repeat (first | refine bN ?_ _ | refine bd ?_ | refine ba ?_ _)); refine blk_far ?_ NB421_427.out _; (with_reducible repeat (first | refine bN ?_ _ | refine bd ?_ | refine ba ?_ _)); exact BK421.out⟩
     have n1_ : Aside0 (((w22.setCell ⟨gb427, 0, none⟩ (.int .i64 a0)).setCell ⟨gb427, 1, none⟩ (.int .i64 a1)).heap[gb426]? = some (.cells #[.int .i64 t423, .int .i64 t424] 24 (0, 0))) := ⟨by (with_reducible repeat (first | refine bN ?_ _ | refine bd ?_ | refine ba ?_ _)); refine blk_far ?_ NB426_427.out _; (with_reducible repeat (first | refine bN ?_ _ | refine bd ?_ | refine ba ?_ _)); refine blk_far ?_ NB426_427.out _; (with_reducible repeat (first | refine bN ?_ _ | refine bd ?_ | refine ba ?_ _)); exact BK426.out⟩
     have n2_ : Aside0 (((w22.setCell ⟨gb427, 0, none⟩ (.int .i64 a0)).setCell ⟨gb427, 1, none⟩ (.int .i64 a1)).heap[gb427]? = some (.cells #[.int .i64 a0, .int .i64 a1] 24 (0, 0))) := ⟨by (with_reducible repeat (first | refine bN ?_ _ | refine bd ?_ | refine ba ?_ _)); refine blk_put (cs := #[.int .i64 a0, .int .i64 0]) ?_ 1 _ rfl; (with_reducible repeat (first | refine bN ?_ _ | refine bd ?_ | refine ba ?_ _)); refine blk_put (cs := #[.int .i64 0, .int .i64 0]) ?_ 0 _ rfl; (with_reducible repeat (first | refine bN ?_ _ | refine bd ?_ | refine ba ?_ _)); exact BK427.out⟩
     have n3_ : Aside0 (Below w.heap.size w ((w22.setCell ⟨gb427, 0, none⟩ (.int .i64 a0)).setCell ⟨gb427, 1, none⟩ (.int .i64 a1))) := ⟨by repeat (first | (with_reducible first | exact HB.out | apply below_alloc | apply pw_below_drewN | apply below_drew1 | refine below_set ?_ GE421.out | refine below_set ?_ GE426.out | refine below_set ?_ GE427.out) | exact HB.out)⟩
     (try clear BK421)
     (try clear BK426)
     (try clear BK427)
     (try clear HB)
     generalize ((w22.setCell ⟨gb427, 0, none⟩ (.int .i64 a0)).setCell ⟨gb427, 1, none⟩ (.int .i64 a1)) = w26 at n0_ n1_ n2_ n3_ ⊢
     have BK421 := n0_
     have BK426 := n1_
     have BK427 := n2_
     have HB := n3_
     clear n0_ n1_ n2_ n3_
     have n0_ := Aside0.mk (blk_drew BK421.out)
     have n1_ := Aside0.mk (blk_drew BK426.out)
     have n2_ := Aside0.mk (blk_drew BK427.out)
     have n3_ := Aside0.mk (below_drew1 HB.out)
     clear BK421
     clear BK426
     clear BK427
     clear HB
     have BK421 := n0_
     have BK426 := n1_
     have BK427 := n2_
     have HB := n3_
     clear n0_ n1_ n2_ n3_
     refine start_ (n := 24) (S := fun w' => w'.cell? ⟨gb421, 0, none⟩ = some (.int .i64 t419) ∧ w'.cell? ⟨gb421, 1, none⟩ = some (.int .i64 t420) ∧ w'.cell? ⟨gb426, 0, none⟩ = some (.int .i64 t423) ∧ w'.cell? ⟨gb426, 1, none⟩ = some (.int .i64 t424) ∧ w'.cell? ⟨gb427, 0, none⟩ = some (.int .i64 a0) ∧ w'.cell? ⟨gb427, 1, none⟩ = some (.int .i64 a1)) (ds := []) #[false, false, false, false, false, false, false, false, false, false, false, false, false, false, false, false, false, false, false, false, false, false, false, false] (by kernel_rfl) rfl rfl ⟨(blk_cell BK421.out 0).trans rfl, (blk_cell BK421.out 1).trans rfl, (blk_cell BK426.out 0).trans rfl, (blk_cell BK426.out 1).trans rfl, (blk_cell BK427.out 0).trans rfl, (blk_cell BK427.out 1).trans rfl⟩ (fun hHeld => ?_); refine with_tabW intervalmonlaw03_FracTexts.tab5 intervalmonlaw03_FracTexts.bits5 (fun HT_ HW_ => ?_)
     generalize w26.drew = w27 at BK421 BK426 BK427 HB hHeld ⊢
     refine pure_ (i := 0) (N := some 23) (v := ?_) (a' := ?_) #[true, false, false, false, false, false, false, false, false, false, false, false, false, false, false, false, false, false, false, false, false, false, false, false] rfl rfl (any_of HT_.out (by kernel_rfl)) (fun _ _ _ h => h) (Or.inl ⟨by rfl, ?_⟩) ?_ ?_
     rotate_left
     ·intro w'
      go_simp
      with_reducible rfl
     rotate_left
     ·simp only [Act.put, List.setIfInBounds_toArray, List.set_cons_zero, List.set_cons_succ, i64_w, i32_w]
      rfl
     refine take_ (i := 1) (N := some 24) (v := ?_) (a' := ?_) #[true, true, false, false, false, false, false, false, false, false, false, false, false, false, false, false, false, false, false, false, false, false, false, false] rfl rfl (take_ofW HT_.out HW_.out (by kernel_rfl)) (fun _ _ _ h => h) (Or.inl ⟨by rfl, ?_⟩) hHeld ?_ ?_
     rotate_left
     ·rintro w' ⟨s0, s1, s2, s3, s4, s5⟩
      go_simp
      with_reducible rfl
     rotate_left
     ·simp only [Act.put, List.setIfInBounds_toArray, List.set_cons_zero, List.set_cons_succ, i64_w, i32_w]
      rfl
     refine one_ (i := 2) (N := some 25) #[true, true, true, false, false, false, false, false, false, false, false, false, false, false, false, false, false, false, false, false, false, false, false, false] rfl rfl (one_of HT_.out (by kernel_rfl)) (by decide) (fun K hK => ?_)
     refine goes_ Tryd.func32 (by kernel_rfl) rfl #[.agg #[.int .i64 t419, .int .i64 t420]] (by rfl) rfl rfl aq ?_
     with_reducible refine (intervalmonref03_Text.calls k t419 t420 t428 _ A6.out).mono ?_
     rintro e w28 ⟨rfl, hb⟩
     refine ⟨_, rfl, ?_⟩
     have n0_ := bb BK421 hb
     have n1_ := bb BK426 hb
     have n2_ := bb BK427 hb
     have n3_ := Aside0.mk (below_step (hq HB) hb)
     clear BK421
     clear BK426
     clear BK427
     clear HB
     have BK421 := n0_
     have BK426 := n1_
     have BK427 := n2_
     have HB := n3_
     clear n0_ n1_ n2_ n3_
     (try clear hb)
     (try clear hb2)
     (try clear hk)
     (try clear hi)
     refine hK.out _ _ ⟨(blk_cell BK421.out 0).trans rfl, (blk_cell BK421.out 1).trans rfl, (blk_cell BK426.out 0).trans rfl, (blk_cell BK426.out 1).trans rfl, (blk_cell BK427.out 0).trans rfl, (blk_cell BK427.out 1).trans rfl⟩ (fun hHeld => ?_)
     clear hK K
     refine norm_ (a' := ?_) ?_ ?_
     rotate_left
     ·show Act.put _ (some 25) _ = _
      simp only [Act.put, List.setIfInBounds_toArray, List.set_cons_zero, List.set_cons_succ, i64_w, i32_w]
      rfl
     refine pure_ (i := 3) (N := some 26) (v := ?_) (a' := ?_) #[true, true, true, true, false, false, false, false, false, false, false, false, false, false, false, false, false, false, false, false, false, false, false, false] rfl rfl (any_of HT_.out (by kernel_rfl)) (fun _ _ _ h => h) (Or.inl ⟨by rfl, ?_⟩) ?_ ?_
     rotate_left
     ·intro w'
      go_simp
      with_reducible rfl
     rotate_left
     ·simp only [Act.put, List.setIfInBounds_toArray, List.set_cons_zero, List.set_cons_succ, i64_w, i32_w]
      rfl
     refine pure_ (i := 4) (N := some 27) (v := ?_) (a' := ?_) #[true, true, true, true, true, false, false, false, false, false, false, false, false, false, false, false, false, false, false, false, false, false, false, false] rfl rfl (any_of HT_.out (by kernel_rfl)) (fun _ _ _ h => h) (Or.inl ⟨by rfl, ?_⟩) ?_ ?_
     rotate_left
     ·intro w'
      go_simp
      with_reducible rfl
     rotate_left
     ·simp only [Act.put, List.setIfInBounds_toArray, List.set_cons_zero, List.set_cons_succ, i64_w, i32_w]
      rfl
     refine pure_ (i := 5) (N := some 28) (v := ?_) (a' := ?_) #[true, true, true, true, true, true, false, false, false, false, false, false, false, false, false, false, false, false, false, false, false, false, false, false] rfl rfl (any_of HT_.out (by kernel_rfl)) (fun _ _ _ h => h) (Or.inl ⟨by rfl, ?_⟩) ?_ ?_
     rotate_left
     ·intro w'
      go_simp
      with_reducible rfl
     rotate_left
     ·simp only [Act.put, List.setIfInBounds_toArray, List.set_cons_zero, List.set_cons_succ, i64_w, i32_w]
      rfl
     refine pure_ (i := 6) (N := some 29) (v := ?_) (a' := ?_) #[true, true, true, true, true, true, true, false, false, false, false, false, false, false, false, false, false, false, false, false, false, false, false, false] rfl rfl (any_of HT_.out (by kernel_rfl)) (fun _ _ _ h => h) (Or.inl ⟨by rfl, ?_⟩) ?_ ?_
     rotate_left
     ·intro w'
      go_simp
      with_reducible rfl
     rotate_left
     ·simp only [Act.put, List.setIfInBounds_toArray, List.set_cons_zero, List.set_cons_succ, i64_w, i32_w]
      rfl
     refine pure_ (i := 7) (N := some 30) (v := ?_) (a' := ?_) #[true, true, true, true, true, true, true, true, false, false, false, false, false, false, false, false, false, false, false, false, false, false, false, false] rfl rfl (any_of HT_.out (by kernel_rfl)) (fun _ _ _ h => h) (Or.inl ⟨by rfl, ?_⟩) ?_ ?_
     rotate_left
     ·intro w'
      go_simp
      with_reducible rfl
     rotate_left
     ·simp only [Act.put, List.setIfInBounds_toArray, List.set_cons_zero, List.set_cons_succ, i64_w, i32_w]
      rfl
     refine pure_ (i := 8) (N := some 31) (v := ?_) (a' := ?_) #[true, true, true, true, true, true, true, true, true, false, false, false, false, false, false, false, false, false, false, false, false, false, false, false] rfl rfl (any_of HT_.out (by kernel_rfl)) (fun _ _ _ h => h) (Or.inl ⟨by rfl, ?_⟩) ?_ ?_
     rotate_left
     ·intro w'
      go_simp
      with_reducible rfl
     rotate_left
     ·simp only [Act.put, List.setIfInBounds_toArray, List.set_cons_zero, List.set_cons_succ, i64_w, i32_w]
      rfl
     refine take_ (i := 9) (N := some 32) (v := ?_) (a' := ?_) #[true, true, true, true, true, true, true, true, true, true, false, false, false, false, false, false, false, false, false, false, false, false, false, false] rfl rfl (take_ofW HT_.out HW_.out (by kernel_rfl)) (fun _ _ _ h => h) (Or.inl ⟨by rfl, ?_⟩) hHeld ?_ ?_
     rotate_left
     ·rintro w' ⟨s0, s1, s2, s3, s4, s5⟩
      go_simp
      with_reducible rfl
     rotate_left
     ·simp only [Act.put, List.setIfInBounds_toArray, List.set_cons_zero, List.set_cons_succ, i64_w, i32_w]
      rfl
     refine take_ (i := 10) (N := some 33) (v := ?_) (a' := ?_) #[true, true, true, true, true, true, true, true, true, true, true, false, false, false, false, false, false, false, false, false, false, false, false, false] rfl rfl (take_ofW HT_.out HW_.out (by kernel_rfl)) (fun _ _ _ h => h) (Or.inl ⟨by rfl, ?_⟩) hHeld ?_ ?_
     rotate_left
     ·rintro w' ⟨s0, s1, s2, s3, s4, s5⟩
      go_simp
      with_reducible rfl
     rotate_left
     ·simp only [Act.put, List.setIfInBounds_toArray, List.set_cons_zero, List.set_cons_succ, i64_w, i32_w]
      rfl
     refine pure_ (i := 11) (N := some 34) (v := ?_) (a' := ?_) #[true, true, true, true, true, true, true, true, true, true, true, true, false, false, false, false, false, false, false, false, false, false, false, false] rfl rfl (any_of HT_.out (by kernel_rfl)) (fun _ _ _ h => h) (Or.inl ⟨by rfl, ?_⟩) ?_ ?_
     rotate_left
     ·intro w'
      go_simp
      with_reducible rfl
     rotate_left
     ·simp only [Act.put, List.setIfInBounds_toArray, List.set_cons_zero, List.set_cons_succ, i64_w, i32_w]
      rfl
     refine pure_ (i := 12) (N := some 35) (v := ?_) (a' := ?_) #[true, true, true, true, true, true, true, true, true, true, true, true, true, false, false, false, false, false, false, false, false, false, false, false] rfl rfl (any_of HT_.out (by kernel_rfl)) (fun _ _ _ h => h) (Or.inl ⟨by rfl, ?_⟩) ?_ ?_
     rotate_left
     ·intro w'
      go_simp
      with_reducible rfl
     rotate_left
     ·simp only [Act.put, List.setIfInBounds_toArray, List.set_cons_zero, List.set_cons_succ, i64_w, i32_w]
      rfl
     refine pure_ (i := 13) (N := some 36) (v := ?_) (a' := ?_) #[true, true, true, true, true, true, true, true, true, true, true, true, true, true, false, false, false, false, false, false, false, false, false, false] rfl rfl (any_of HT_.out (by kernel_rfl)) (fun _ _ _ h => h) (Or.inl ⟨by rfl, ?_⟩) ?_ ?_
     rotate_left
     ·intro w'
      go_simp
      with_reducible rfl
     rotate_left
     ·simp only [Act.put, List.setIfInBounds_toArray, List.set_cons_zero, List.set_cons_succ, i64_w, i32_w]
      rfl
     refine take_ (i := 14) (N := some 37) (v := ?_) (a' := ?_) #[true, true, true, true, true, true, true, true, true, true, true, true, true, true, true, false, false, false, false, false, false, false, false, false] rfl rfl (take_ofW HT_.out HW_.out (by kernel_rfl)) (fun _ _ _ h => h) (Or.inl ⟨by rfl, ?_⟩) hHeld ?_ ?_
     rotate_left
     ·rintro w' ⟨s0, s1, s2, s3, s4, s5⟩
      go_simp
      with_reducible rfl
     rotate_left
     ·simp only [Act.put, List.setIfInBounds_toArray, List.set_cons_zero, List.set_cons_succ, i64_w, i32_w]
      rfl
     refine take_ (i := 16) (N := some 39) (v := ?_) (a' := ?_) #[true, true, true, true, true, true, true, true, true, true, true, true, true, true, true, false, true, false, false, false, false, false, false, false] rfl rfl (take_ofW HT_.out HW_.out (by kernel_rfl)) (fun _ _ _ h => h) (Or.inl ⟨by rfl, ?_⟩) hHeld ?_ ?_
     rotate_left
     ·rintro w' ⟨s0, s1, s2, s3, s4, s5⟩
      go_simp
      with_reducible rfl
     rotate_left
     ·simp only [Act.put, List.setIfInBounds_toArray, List.set_cons_zero, List.set_cons_succ, i64_w, i32_w]
      rfl
     refine one_ (i := 15) (N := some 38) #[true, true, true, true, true, true, true, true, true, true, true, true, true, true, true, true, true, false, false, false, false, false, false, false] rfl rfl (one_of HT_.out (by kernel_rfl)) (by decide) (fun K hK => ?_)
     refine goes_ Tryd.func16 (by kernel_rfl) rfl #[.agg #[.int .i64 a0, .int .i64 a1]] (by rfl) rfl rfl aq ?_
     with_reducible refine (frac_Text.calls k a0 a1 t429 _ (glq HGL HB) A10.out).mono ?_
     rintro e w29 ⟨rfl, hb⟩
     refine ⟨_, rfl, ?_⟩
     have n0_ := bb BK421 hb
     have n1_ := bb BK426 hb
     have n2_ := bb BK427 hb
     have n3_ := Aside0.mk (below_step (hq HB) hb)
     clear BK421
     clear BK426
     clear BK427
     clear HB
     have BK421 := n0_
     have BK426 := n1_
     have BK427 := n2_
     have HB := n3_
     clear n0_ n1_ n2_ n3_
     (try clear hb)
     (try clear hb2)
     (try clear hk)
     (try clear hi)
     refine hK.out _ _ ⟨(blk_cell BK421.out 0).trans rfl, (blk_cell BK421.out 1).trans rfl, (blk_cell BK426.out 0).trans rfl, (blk_cell BK426.out 1).trans rfl, (blk_cell BK427.out 0).trans rfl, (blk_cell BK427.out 1).trans rfl⟩ (fun hHeld => ?_)
     clear hK K
     refine norm_ (a' := ?_) ?_ ?_
     rotate_left
     ·show Act.put _ (some 38) _ = _
      simp only [Act.put, List.setIfInBounds_toArray, List.set_cons_zero, List.set_cons_succ, i64_w, i32_w]
      rfl
     refine one_ (i := 17) (N := some 40) #[true, true, true, true, true, true, true, true, true, true, true, true, true, true, true, true, true, true, false, false, false, false, false, false] rfl rfl (one_of HT_.out (by kernel_rfl)) (by decide) (fun K hK => ?_)
     refine goes_ Tryd.func32 (by kernel_rfl) rfl #[.agg #[.int .i64 a0, .int .i64 a1]] (by rfl) rfl rfl aq ?_
     with_reducible refine (intervalmonref03_Text.calls k a0 a1 t430 _ A11.out).mono ?_
     rintro e w30 ⟨rfl, hb⟩
     refine ⟨_, rfl, ?_⟩
     have n0_ := bb BK421 hb
     have n1_ := bb BK426 hb
     have n2_ := bb BK427 hb
     have n3_ := Aside0.mk (below_step (hq HB) hb)
     clear BK421
     clear BK426
     clear BK427
     clear HB
     have BK421 := n0_
     have BK426 := n1_
     have BK427 := n2_
     have HB := n3_
     clear n0_ n1_ n2_ n3_
     (try clear hb)
     (try clear hb2)
     (try clear hk)
     (try clear hi)
     refine hK.out _ _ ⟨(blk_cell BK421.out 0).trans rfl, (blk_cell BK421.out 1).trans rfl, (blk_cell BK426.out 0).trans rfl, (blk_cell BK426.out 1).trans rfl, (blk_cell BK427.out 0).trans rfl, (blk_cell BK427.out 1).trans rfl⟩ (fun hHeld => ?_)
     clear hK K
     refine norm_ (a' := ?_) ?_ ?_
     rotate_left
     ·show Act.put _ (some 40) _ = _
      simp only [Act.put, List.setIfInBounds_toArray, List.set_cons_zero, List.set_cons_succ, i64_w, i32_w]
      rfl
     refine pure_ (i := 18) (N := some 41) (v := ?_) (a' := ?_) #[true, true, true, true, true, true, true, true, true, true, true, true, true, true, true, true, true, true, true, false, false, false, false, false] rfl rfl (any_of HT_.out (by kernel_rfl)) (fun _ _ _ h => h) (Or.inl ⟨by rfl, ?_⟩) ?_ ?_
     rotate_left
     ·intro w'
      go_simp
      with_reducible rfl
     rotate_left
     ·simp only [Act.put, List.setIfInBounds_toArray, List.set_cons_zero, List.set_cons_succ, i64_w, i32_w]
      rfl
     refine pure_ (i := 19) (N := some 42) (v := ?_) (a' := ?_) #[true, true, true, true, true, true, true, true, true, true, true, true, true, true, true, true, true, true, true, true, false, false, false, false] rfl rfl (any_of HT_.out (by kernel_rfl)) (fun _ _ _ h => h) (Or.inl ⟨by rfl, ?_⟩) ?_ ?_
     rotate_left
     ·intro w'
      go_simp
      with_reducible rfl
     rotate_left
     ·simp only [Act.put, List.setIfInBounds_toArray, List.set_cons_zero, List.set_cons_succ, i64_w, i32_w]
      rfl
     refine pure_ (i := 20) (N := some 43) (v := ?_) (a' := ?_) #[true, true, true, true, true, true, true, true, true, true, true, true, true, true, true, true, true, true, true, true, true, false, false, false] rfl rfl (any_of HT_.out (by kernel_rfl)) (fun _ _ _ h => h) (Or.inl ⟨by rfl, ?_⟩) ?_ ?_
     rotate_left
     ·intro w'
      go_simp
      with_reducible rfl
     rotate_left
     ·simp only [Act.put, List.setIfInBounds_toArray, List.set_cons_zero, List.set_cons_succ, i64_w, i32_w]
      rfl
     refine one_ (i := 21) (N := some 44) #[true, true, true, true, true, true, true, true, true, true, true, true, true, true, true, true, true, true, true, true, true, true, false, false] rfl rfl (one_of HT_.out (by kernel_rfl)) (by decide) (fun K hK => ?_)
     refine goes_ Tryd.func24 (by kernel_rfl) rfl #[] (by rfl) rfl rfl aq ?_
     with_reducible refine (intervalmonlaw03_lives.calls k  t431 _ (glq HGL HB) A13.out).mono ?_
     rintro e w31 ⟨rfl, hb⟩
     refine ⟨_, rfl, ?_⟩
     have n0_ := bb BK421 hb
     have n1_ := bb BK426 hb
     have n2_ := bb BK427 hb
     have n3_ := Aside0.mk (below_step (hq HB) hb)
     clear BK421
     clear BK426
     clear BK427
     clear HB
     have BK421 := n0_
     have BK426 := n1_
     have BK427 := n2_
     have HB := n3_
     clear n0_ n1_ n2_ n3_
     (try clear hb)
     (try clear hb2)
     (try clear hk)
     (try clear hi)
     refine hK.out _ _ ⟨(blk_cell BK421.out 0).trans rfl, (blk_cell BK421.out 1).trans rfl, (blk_cell BK426.out 0).trans rfl, (blk_cell BK426.out 1).trans rfl, (blk_cell BK427.out 0).trans rfl, (blk_cell BK427.out 1).trans rfl⟩ (fun hHeld => ?_)
     clear hK K
     refine norm_ (a' := ?_) ?_ ?_
     rotate_left
     ·show Act.put _ (some 44) _ = _
      simp only [Act.put, List.setIfInBounds_toArray, List.set_cons_zero, List.set_cons_succ, i64_w, i32_w]
      rfl
     refine pure_ (i := 22) (N := some 45) (v := ?_) (a' := ?_) #[true, true, true, true, true, true, true, true, true, true, true, true, true, true, true, true, true, true, true, true, true, true, true, false] rfl rfl (any_of HT_.out (by kernel_rfl)) (fun _ _ _ h => h) (Or.inl ⟨by rfl, ?_⟩) ?_ ?_
     rotate_left
     ·intro w'
      go_simp
      with_reducible rfl
     rotate_left
     ·simp only [Act.put, List.setIfInBounds_toArray, List.set_cons_zero, List.set_cons_succ, i64_w, i32_w]
      rfl
     refine pure_ (i := 23) (N := some 4) (v := ?_) (a' := ?_) #[true, true, true, true, true, true, true, true, true, true, true, true, true, true, true, true, true, true, true, true, true, true, true, true] rfl rfl (any_of HT_.out (by kernel_rfl)) (fun _ _ _ h => h) (Or.inl ⟨by rfl, ?_⟩) ?_ ?_
     rotate_left
     ·intro w'
      go_simp
      with_reducible rfl
     rotate_left
     ·simp only [Act.put, List.setIfInBounds_toArray, List.set_cons_zero, List.set_cons_succ, i64_w, i32_w]
      rfl
     refine done_ (done_of HT_.out (by kernel_rfl)) ?_
     try go_wp2
     go_ret
     exact ⟨by first | rfl | (simp [errW_none, errW_some] <;> rfl) | (simp [*, errW_none, errW_some] <;> rfl), by repeat (first | (with_reducible first | exact HB.out | apply below_alloc | apply pw_below_drewN | apply below_drew1 | refine below_set ?_ GE421.out | refine below_set ?_ GE426.out | refine below_set ?_ GE427.out) | exact HB.out)⟩
    ·rw [if_neg c12] at H
     have c12b0 : (t429.toList == t430.toList) = false := beq_eq_false_iff_ne.mpr c12
     have c12b1 : (t429.toList != t430.toList) = true := bne_iff_ne.mpr c12
     exact absurd ((Option.some.inj H).trans HT0.out) (by decide)
   ·rw [if_neg c9] at H
    have c9b0 : (t419 == t423 && (t420 == t424)) = false := by simpa using c9
    (try (have c9b1 : decide (t419 = t423 && (t420 == t424)) = false := by simpa using c9))
    (try (have c9b2 : (t419 == t423 && (t420 == t424)) = false := by simpa using c9))
    (try (have c9b3 : ¬ (t419 = t423 && (t420 == t424)) := by simpa using c9))
    clear c9
    exact absurd ((Option.some.inj H).trans HT0.out) (by decide)
  ·rw [if_neg c8] at H
   have c8b0 : (t425 == 0) = false := beq_eq_false_iff_ne.mpr c8
   have c8b1 : (t425 != 0) = true := bne_iff_ne.mpr c8
   exact absurd ((Option.some.inj H).trans HT0.out) (by decide)
 ·rw [if_neg c7] at H
  have c7b0 : (t422.toList == t428.toList) = false := beq_eq_false_iff_ne.mpr c7
  have c7b1 : (t422.toList != t428.toList) = true := bne_iff_ne.mpr c7
  exact absurd ((Option.some.inj H).trans HT0.out) (by decide)

def intervalmonlaw03_FracTexts.Pure : Prop := ∀ (a0 : Int) (a1 : Int), (Lit.int .i64 a0).wf = true → (Lit.int .i64 a1).wf = true → ∃ k, intervalmonlaw03_FracTexts.f k a0 a1 = some true

end Go.Proofs.YtjpgommmkjgddaaDoor.P
