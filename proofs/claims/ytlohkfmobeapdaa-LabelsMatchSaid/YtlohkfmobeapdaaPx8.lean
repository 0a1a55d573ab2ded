-- Written by this session's own copy of a printing program (wip/tools); Lean checks it.
import Derived.Test.YtlohkfmobeapdaaPx0
import Derived.Test.YtlohkfmobeapdaaPx1
import Derived.Test.YtlohkfmobeapdaaPx3
import Derived.Test.YtlohkfmobeapdaaPx4
import Derived.Test.YtlohkfmobeapdaaPx7
import Derived.Test.YtlohkfmobeapdaaHNewAll
namespace Go.Proofs.Ytlohkfmobeapdaa.P
open Go.RowKit Go.Proofs.YtlohkfmobeapdaaW.PrintWords Go.Proofs.YtlohkfmobeapdaaW.PrintLast Go.Proofs.YtlohkfmobeapdaaW.PrintMore
attribute [local go_sem] max2_int min2_int max_two min_two max_three min_three max_four min_four   -- for this text's walks alone
set_option linter.unusedVariables false
set_option linter.unusedSimpArgs false

attribute [local go_sem high] eqA33
/-! ### labels_Valid: function 27 -/
def labels_Valid.l0 : Nat → List (S33) → List (S33) → Int → Int → Option (Bool)
 | 0, _, _, _, _ => none
 | k + 1, x0, x14, x15, x16 => if x16 < x15 then (if 0 ≤ x16 then (if x16 < (x14.length : Int) then (if x16 < (x0.length : Int) then (if (!((((rd_T33 x14 x16).f0).toList) == (((rd_T33 x0 x16).f0).toList)) || (!((((rd_T33 x14 x16).f1).toList) == (((rd_T33 x0 x16).f1).toList)))) = true then (some false) else (labels_Valid.l0 k x0 x14 x15 (wrap64 (x16 + 1)))) else (none)) else (none)) else (none)) else (some true)
def labels_Valid.f (k : Nat) (l0 : List (S33)) : Option (Bool) := (labels_New.f l0).bind fun bt256 => (if bt256.2 = 0 then (labels_Valid.l0 k l0 bt256.1 (bt256.1.length : Int) 0) else (some false))
theorem labels_Valid.mono_l : ∀ k, (∀ y0 y1 y2 y3, LeO (labels_Valid.l0 k y0 y1 y2 y3) (labels_Valid.l0 (k + 1) y0 y1 y2 y3))
 | 0 => fun _ _ _ _ r h => by simp [labels_Valid.l0] at h
 | k + 1 => by
  have ih0 := labels_Valid.mono_l k
  ·intro y0 y1 y2 y3
   unfold labels_Valid.l0
   repeat' first
   | (with_reducible exact ih0 _ _ _ _)
   | (with_reducible exact LeO.refl _)
   | (with_reducible exact LeO.none _)
   | (with_reducible refine LeO.ite ?_ ?_)
   | (with_reducible refine LeO.bind ?_ (fun _ => ?_))
   | exact ih0 _ _ _ _
   | exact LeO.none _
   | refine LeO.ite ?_ ?_
   | refine LeO.bind ?_ (fun _ => ?_)
theorem labels_Valid.mono : ∀ a0 k, LeO (labels_Valid.f k a0) (labels_Valid.f (k + 1) a0) := by
 intro a0 k
 have ih0 := labels_Valid.mono_l k
 unfold labels_Valid.f
 repeat' first
   | (with_reducible exact ih0 _ _ _ _)
   | (with_reducible exact LeO.refl _)
   | (with_reducible exact LeO.none _)
   | (with_reducible refine LeO.ite ?_ ?_)
   | (with_reducible refine LeO.bind ?_ (fun _ => ?_))
   | exact ih0 _ _ _ _
   | exact LeO.none _
   | refine LeO.ite ?_ ?_
   | refine LeO.bind ?_ (fun _ => ?_)
set_option maxHeartbeats 8000000 in
set_option maxRecDepth 100000 in
theorem labels_Valid.calls (k : Nat) (A0 : Option Addr) (c0 : Nat) (l0 : List (S33)) (r : Bool) (w : World) (hr0 : Kd.C k33 w A0 l0.length l0) (hc0 : l0.length ≤ c0) (h : labels_Valid.f k l0 = some r) :
  Calls Try.prog 27 #[.slice A0 l0.length c0] w fun e w' => e = .returned (.bool r) ∧ Below w.heap.size w w' := by
 have hu33 := Try.underlying33
 have HR0 := Aside0.mk hr0
 have HC0 := Aside0.mk hc0
 clear hr0 hc0
 have HB := Aside0.mk (Below.refl w.heap.size w)
 have H : ((labels_New.f l0).bind fun bt256 => (if bt256.2 = 0 then (labels_Valid.l0 k l0 bt256.1 (bt256.1.length : Int) 0) else (some false))) = some r := h
 clear h
 replace H := Option.bind_eq_some_iff.mp H
 obtain ⟨⟨t256, t257⟩, A20, H⟩ := H
 replace H : (if t257 = 0 then (labels_Valid.l0 k l0 t256 (t256.length : Int) 0) else (some false)) = some r := H
 have A2 := Aside0.mk A20
 clear A20
 by_cases c3 : t257 = 0
 ·rw [if_pos c3] at H
  have c3b0 : (t257 == 0) = true := beq_iff_eq.mpr c3
  have c3b1 : (t257 != 0) = false := bne_eq_false_iff_eq.mpr c3
  clear c3
  have H' := Aside0.mk H
  clear H
  go_enter Try.func27, Try.ntmps27
  go_wp2_with (first | (go_at_call 24; (with_reducible refine (labels_New.calls _ _ l0 t256 t257 _ ?side1 ?side2 A2.out).mono ?_); (case side1 => repeat (first | exact HR0.out | (with_reducible refine Kd.C_alloc ?_ _) | (with_reducible refine Kd.C_drewN ?_ _) | (with_reducible refine Kd.C_drew ?_))); (case side2 => exact HC0.out); rintro e w4 ⟨v258, rfl, ho0, hb⟩; have n0_ := Aside0.mk (Kd.R_lower ho0 (below_size (hq HB))); have n1_ := Aside0.mk (below_step (hq HB) hb); clear HB; have HO259 := n0_; have HB := n1_; clear n0_ n1_; (try clear hb); (try clear hb2); (try clear hk); (try clear hi); (try clear ho0); obtain ⟨Ao5, co5, eo5⟩ := Kd.R_slice HO259.out; subst eo5))
  repeat (go_quiet (first | (go_at_call 24; (with_reducible refine (labels_New.calls _ _ l0 t256 t257 _ ?side1 ?side2 A2.out).mono ?_); (case side1 => repeat (first | exact HR0.out | (with_reducible refine Kd.C_alloc ?_ _) | (with_reducible refine Kd.C_drewN ?_ _) | (with_reducible refine Kd.C_drew ?_))); (case side2 => exact HC0.out); rintro e w4 ⟨v258, rfl, ho0, hb⟩; have n0_ := Aside0.mk (Kd.R_lower ho0 (below_size (hq HB))); have n1_ := Aside0.mk (below_step (hq HB) hb); clear HB; have HO259 := n0_; have HB := n1_; clear n0_ n1_; (try clear hb); (try clear hb2); (try clear hk); (try clear hi); (try clear ho0); obtain ⟨Ao5, co5, eo5⟩ := Kd.R_slice HO259.out; subst eo5)); try go_wp2_with (first | (go_at_call 24; (with_reducible refine (labels_New.calls _ _ l0 t256 t257 _ ?side1 ?side2 A2.out).mono ?_); (case side1 => repeat (first | exact HR0.out | (with_reducible refine Kd.C_alloc ?_ _) | (with_reducible refine Kd.C_drewN ?_ _) | (with_reducible refine Kd.C_drew ?_))); (case side2 => exact HC0.out); rintro e w4 ⟨v258, rfl, ho0, hb⟩; have n0_ := Aside0.mk (Kd.R_lower ho0 (below_size (hq HB))); have n1_ := Aside0.mk (below_step (hq HB) hb); clear HB; have HO259 := n0_; have HB := n1_; clear n0_ n1_; (try clear hb); (try clear hb2); (try clear hk); (try clear hi); (try clear ho0); obtain ⟨Ao5, co5, eo5⟩ := Kd.R_slice HO259.out; subst eo5)))
  go_loopg [16] k (fun kq v16 w' => ∃ (x16_1 : Int), v16 = .int .i64 x16_1 ∧ Aside0 (labels_Valid.l0 kq l0 t256 (t256.length : Int) x16_1 = some r) ∧ Aside0 (kq ≤ k) ∧ Aside0 (Kd.R k33 33 w' w.heap.size (fun _ => True) (.slice Ao5 t256.length co5) t256) ∧ Aside0 (Below w.heap.size w w'))
  case atStart => exact ⟨(0), (by first | rfl | (simp; done) | (simp [*]; done)), H', ⟨Nat.le_refl _⟩, ⟨by (with_reducible repeat (first | apply Kd.R_alloc | apply Kd.R_drewN | apply Kd.R_drew)); exact HO259.out⟩, ⟨by repeat (first | (with_reducible first | exact HB.out | apply below_alloc | apply pw_below_drewN | apply below_drew1) | exact HB.out)⟩⟩
  case round =>
   clear H'
   try clear c2
   try clear p2
   try clear c3
   try clear c3b0
   try clear c3b1
   obtain ⟨x16_1, rfl, HA, HK1, HO_14, HB⟩ := hrel
   cases gk with
   | zero => exact absurd HA.out (by simp [labels_Valid.l0])
   | succ k1 =>
    have H := HA.out
    clear HA
    simp only [labels_Valid.l0] at H
    by_cases c6 : x16_1 < (t256.length : Int)
    ·rw [if_pos c6] at H
     have c6b0 : decide (x16_1 < (t256.length : Int)) = true := decide_eq_true c6
     clear c6
     by_cases c7 : 0 ≤ x16_1
     ·rw [if_pos c7] at H
      have c7b0 : decide (0 ≤ x16_1) = true := decide_eq_true c7
      clear c7
      by_cases c8 : x16_1 < (t256.length : Int)
      ·rw [if_pos c8] at H
       have c8b0 : decide (x16_1 < (t256.length : Int)) = true := decide_eq_true c8
       clear c8
       by_cases c9 : x16_1 < (l0.length : Int)
       ·rw [if_pos c9] at H
        have c9b0 : decide (x16_1 < (l0.length : Int)) = true := decide_eq_true c9
        clear c9
        by_cases c10 : (!((((rd_T33 t256 x16_1).f0).toList) == (((rd_T33 l0 x16_1).f0).toList)) || (!((((rd_T33 t256 x16_1).f1).toList) == (((rd_T33 l0 x16_1).f1).toList)))) = true
        ·rw [if_pos c10] at H
         have c10b0 : (!((((rd_T33 t256 x16_1).f0).toList) == (((rd_T33 l0 x16_1).f0).toList)) || (!((((rd_T33 t256 x16_1).f1).toList) == (((rd_T33 l0 x16_1).f1).toList)))) = true := c10
         clear c10
         obtain rfl := Option.some.inj H
         have p260 : 0 ≤ (x16_1 : Int) := of_decide_eq_true (by first | (with_reducible assumption) | assumption)
         have q260 : x16_1 < (t256.length : Int) := of_decide_eq_true (by first | (with_reducible assumption) | assumption)
         try (obtain ⟨Az260_, cz260_, ez260_⟩ := Kd.R_slice HO_14.out; subst ez260_)
         obtain ⟨ad260, e260, hx260_0, hx260_1⟩ := at_T33 (Kd.R_reads' HO_14.out).2.2 x16_1 p260 q260
         cases e260
         replace p260 := eq_true p260
         replace q260 := eq_true q260
         go_wp2_with (first | ((with_reducible refine gate_dst (N := 6) rfl ?_); refine box_event ?hg (N := 6) ?hd (cs := #[.string (⟨#[]⟩ : ByteArray), .string (⟨#[]⟩ : ByteArray)]) (t := 33) ?hr ?_; (case hd => rfl); (case hg => rfl); (case hr => first | (go_simp; done) | (go_simp; rfl)); intro gb261 hg w11 hbox hb; have n0_ := Aside0.mk (Kd.R_below (Kd.R_elderB (rq HO_14) gb261 (Nat.le_of_eq hg.symm)) hb); have n1_ := Aside0.mk (below_step (hq HB) hb); have n2_ := Aside0.mk (hbox); have n3_ := Aside0.mk ((by rw [hg]; exact (below_size (hq HB)) : w.heap.size ≤ gb261)); have n4_ := Aside0.mk ((by rw [hg]; exact (below_size (hq HB)) : w.heap.size ≤ gb261)); clear HO_14; clear HB; have HO_14 := n0_; have HB := n1_; have BK261 := n2_; have GW261 := n3_; have GE261 := n4_; clear n0_ n1_ n2_ n3_ n4_; clear hb hbox hg; have hcz12_0 : w11.cell? ⟨gb261, 0, none⟩ = some (.string (⟨#[]⟩ : ByteArray)) := (blk_cell BK261.out 0).trans rfl; have hcz12_1 : w11.cell? ⟨gb261, 1, none⟩ = some (.string (⟨#[]⟩ : ByteArray)) := (blk_cell BK261.out 1).trans rfl; have hfz12_0 := blk_frozen BK261.out 0; have hfz12_1 := blk_frozen BK261.out 1; have p262 : 0 ≤ (x16_1 : Int) := of_decide_eq_true (by first | (with_reducible assumption) | assumption); have q262 : x16_1 < (l0.length : Int) := of_decide_eq_true (by first | (with_reducible assumption) | assumption); obtain ⟨ad262, e262, hx262_0, hx262_1⟩ := at_T33 HR0.out x16_1 p262 q262; cases e262; have hn262_0 : ad262.block ≠ gb261 := Nat.ne_of_lt (Nat.lt_of_lt_of_le (by have := World.block_lt_of_cell? _ _ hx262_0; first | rwa [add_block] at this | exact this) GW261.out); have hn262_1 : ad262.block ≠ gb261 := Nat.ne_of_lt (Nat.lt_of_lt_of_le (by have := World.block_lt_of_cell? _ _ hx262_0; first | rwa [add_block] at this | exact this) GW261.out); (try replace hx262_0 := (HB.out.cell (World.block_lt_of_cell? w _ hx262_0)).trans hx262_0); (try replace hx262_1 := (HB.out.cell (World.block_lt_of_cell? w _ hx262_1)).trans hx262_1); replace hx262_0 := (cell_far (p := ⟨gb261, 0, none⟩) (by first | (rw [add_block]; exact hn262_0) | (show (Addr.add _ _).block ≠ _; rw [add_block]; exact hn262_0) | exact hn262_0) (.string ((rd_T33 t256 x16_1).f0))).trans hx262_0; replace hx262_1 := (cell_far (p := ⟨gb261, 0, none⟩) (by first | (rw [add_block]; exact hn262_0) | (show (Addr.add _ _).block ≠ _; rw [add_block]; exact hn262_0) | exact hn262_0) (.string ((rd_T33 t256 x16_1).f0))).trans hx262_1; replace hx262_0 := (cell_far (p := ⟨gb261, 1, none⟩) (by first | (rw [add_block]; exact hn262_1) | (show (Addr.add _ _).block ≠ _; rw [add_block]; exact hn262_1) | exact hn262_1) (.string ((rd_T33 t256 x16_1).f1))).trans hx262_0; replace hx262_1 := (cell_far (p := ⟨gb261, 1, none⟩) (by first | (rw [add_block]; exact hn262_1) | (show (Addr.add _ _).block ≠ _; rw [add_block]; exact hn262_1) | exact hn262_1) (.string ((rd_T33 t256 x16_1).f1))).trans hx262_1; (try have hy262_0 := fun (n_ : Nat) => (show ((((w11.drewN n_).setCell ⟨gb261, 0, none⟩ (.string ((rd_T33 t256 x16_1).f0))).setCell ⟨gb261, 1, none⟩ (.string ((rd_T33 t256 x16_1).f1)))).cell? _ = some _ from hx262_0)); (try have hy262_1 := fun (n_ : Nat) => (show ((((w11.drewN n_).setCell ⟨gb261, 0, none⟩ (.string ((rd_T33 t256 x16_1).f0))).setCell ⟨gb261, 1, none⟩ (.string ((rd_T33 t256 x16_1).f1)))).cell? _ = some _ from hx262_1)); clear hn262_0; clear hn262_1; replace p262 := eq_true p262; replace q262 := eq_true q262))
         repeat (go_quiet (first | ((with_reducible refine gate_dst (N := 6) rfl ?_); refine box_event ?hg (N := 6) ?hd (cs := #[.string (⟨#[]⟩ : ByteArray), .string (⟨#[]⟩ : ByteArray)]) (t := 33) ?hr ?_; (case hd => rfl); (case hg => rfl); (case hr => first | (go_simp; done) | (go_simp; rfl)); intro gb261 hg w11 hbox hb; have n0_ := Aside0.mk (Kd.R_below (Kd.R_elderB (rq HO_14) gb261 (Nat.le_of_eq hg.symm)) hb); have n1_ := Aside0.mk (below_step (hq HB) hb); have n2_ := Aside0.mk (hbox); have n3_ := Aside0.mk ((by rw [hg]; exact (below_size (hq HB)) : w.heap.size ≤ gb261)); have n4_ := Aside0.mk ((by rw [hg]; exact (below_size (hq HB)) : w.heap.size ≤ gb261)); clear HO_14; clear HB; have HO_14 := n0_; have HB := n1_; have BK261 := n2_; have GW261 := n3_; have GE261 := n4_; clear n0_ n1_ n2_ n3_ n4_; clear hb hbox hg; have hcz12_0 : w11.cell? ⟨gb261, 0, none⟩ = some (.string (⟨#[]⟩ : ByteArray)) := (blk_cell BK261.out 0).trans rfl; have hcz12_1 : w11.cell? ⟨gb261, 1, none⟩ = some (.string (⟨#[]⟩ : ByteArray)) := (blk_cell BK261.out 1).trans rfl; have hfz12_0 := blk_frozen BK261.out 0; have hfz12_1 := blk_frozen BK261.out 1; have p262 : 0 ≤ (x16_1 : Int) := of_decide_eq_true (by first | (with_reducible assumption) | assumption); have q262 : x16_1 < (l0.length : Int) := of_decide_eq_true (by first | (with_reducible assumption) | assumption); obtain ⟨ad262, e262, hx262_0, hx262_1⟩ := at_T33 HR0.out x16_1 p262 q262; cases e262; have hn262_0 : ad262.block ≠ gb261 := Nat.ne_of_lt (Nat.lt_of_lt_of_le (by have := World.block_lt_of_cell? _ _ hx262_0; first | rwa [add_block] at this | exact this) GW261.out); have hn262_1 : ad262.block ≠ gb261 := Nat.ne_of_lt (Nat.lt_of_lt_of_le (by have := World.block_lt_of_cell? _ _ hx262_0; first | rwa [add_block] at this | exact this) GW261.out); (try replace hx262_0 := (HB.out.cell (World.block_lt_of_cell? w _ hx262_0)).trans hx262_0); (try replace hx262_1 := (HB.out.cell (World.block_lt_of_cell? w _ hx262_1)).trans hx262_1); replace hx262_0 := (cell_far (p := ⟨gb261, 0, none⟩) (by first | (rw [add_block]; exact hn262_0) | (show (Addr.add _ _).block ≠ _; rw [add_block]; exact hn262_0) | exact hn262_0) (.string ((rd_T33 t256 x16_1).f0))).trans hx262_0; replace hx262_1 := (cell_far (p := ⟨gb261, 0, none⟩) (by first | (rw [add_block]; exact hn262_0) | (show (Addr.add _ _).block ≠ _; rw [add_block]; exact hn262_0) | exact hn262_0) (.string ((rd_T33 t256 x16_1).f0))).trans hx262_1; replace hx262_0 := (cell_far (p := ⟨gb261, 1, none⟩) (by first | (rw [add_block]; exact hn262_1) | (show (Addr.add _ _).block ≠ _; rw [add_block]; exact hn262_1) | exact hn262_1) (.string ((rd_T33 t256 x16_1).f1))).trans hx262_0; replace hx262_1 := (cell_far (p := ⟨gb261, 1, none⟩) (by first | (rw [add_block]; exact hn262_1) | (show (Addr.add _ _).block ≠ _; rw [add_block]; exact hn262_1) | exact hn262_1) (.string ((rd_T33 t256 x16_1).f1))).trans hx262_1; (try have hy262_0 := fun (n_ : Nat) => (show ((((w11.drewN n_).setCell ⟨gb261, 0, none⟩ (.string ((rd_T33 t256 x16_1).f0))).setCell ⟨gb261, 1, none⟩ (.string ((rd_T33 t256 x16_1).f1)))).cell? _ = some _ from hx262_0)); (try have hy262_1 := fun (n_ : Nat) => (show ((((w11.drewN n_).setCell ⟨gb261, 0, none⟩ (.string ((rd_T33 t256 x16_1).f0))).setCell ⟨gb261, 1, none⟩ (.string ((rd_T33 t256 x16_1).f1)))).cell? _ = some _ from hx262_1)); clear hn262_0; clear hn262_1; replace p262 := eq_true p262; replace q262 := eq_true q262)); try go_wp2_with (first | ((with_reducible refine gate_dst (N := 6) rfl ?_); refine box_event ?hg (N := 6) ?hd (cs := #[.string (⟨#[]⟩ : ByteArray), .string (⟨#[]⟩ : ByteArray)]) (t := 33) ?hr ?_; (case hd => rfl); (case hg => rfl); (case hr => first | (go_simp; done) | (go_simp; rfl)); intro gb261 hg w11 hbox hb; have n0_ := Aside0.mk (Kd.R_below (Kd.R_elderB (rq HO_14) gb261 (Nat.le_of_eq hg.symm)) hb); have n1_ := Aside0.mk (below_step (hq HB) hb); have n2_ := Aside0.mk (hbox); have n3_ := Aside0.mk ((by rw [hg]; exact (below_size (hq HB)) : w.heap.size ≤ gb261)); have n4_ := Aside0.mk ((by rw [hg]; exact (below_size (hq HB)) : w.heap.size ≤ gb261)); clear HO_14; clear HB; have HO_14 := n0_; have HB := n1_; have BK261 := n2_; have GW261 := n3_; have GE261 := n4_; clear n0_ n1_ n2_ n3_ n4_; clear hb hbox hg; have hcz12_0 : w11.cell? ⟨gb261, 0, none⟩ = some (.string (⟨#[]⟩ : ByteArray)) := (blk_cell BK261.out 0).trans rfl; have hcz12_1 : w11.cell? ⟨gb261, 1, none⟩ = some (.string (⟨#[]⟩ : ByteArray)) := (blk_cell BK261.out 1).trans rfl; have hfz12_0 := blk_frozen BK261.out 0; have hfz12_1 := blk_frozen BK261.out 1; have p262 : 0 ≤ (x16_1 : Int) := of_decide_eq_true (by first | (with_reducible assumption) | assumption); have q262 : x16_1 < (l0.length : Int) := of_decide_eq_true (by first | (with_reducible assumption) | assumption); obtain ⟨ad262, e262, hx262_0, hx262_1⟩ := at_T33 HR0.out x16_1 p262 q262; cases e262; have hn262_0 : ad262.block ≠ gb261 := Nat.ne_of_lt (Nat.lt_of_lt_of_le (by have := World.block_lt_of_cell? _ _ hx262_0; first | rwa [add_block] at this | exact this) GW261.out); have hn262_1 : ad262.block ≠ gb261 := Nat.ne_of_lt (Nat.lt_of_lt_of_le (by have := World.block_lt_of_cell? _ _ hx262_0; first | rwa [add_block] at this | exact this) GW261.out); (try replace hx262_0 := (HB.out.cell (World.block_lt_of_cell? w _ hx262_0)).trans hx262_0); (try replace hx262_1 := (HB.out.cell (World.block_lt_of_cell? w _ hx262_1)).trans hx262_1); replace hx262_0 := (cell_far (p := ⟨gb261, 0, none⟩) (by first | (rw [add_block]; exact hn262_0) | (show (Addr.add _ _).block ≠ _; rw [add_block]; exact hn262_0) | exact hn262_0) (.string ((rd_T33 t256 x16_1).f0))).trans hx262_0; replace hx262_1 := (cell_far (p := ⟨gb261, 0, none⟩) (by first | (rw [add_block]; exact hn262_0) | (show (Addr.add _ _).block ≠ _; rw [add_block]; exact hn262_0) | exact hn262_0) (.string ((rd_T33 t256 x16_1).f0))).trans hx262_1; replace hx262_0 := (cell_far (p := ⟨gb261, 1, none⟩) (by first | (rw [add_block]; exact hn262_1) | (show (Addr.add _ _).block ≠ _; rw [add_block]; exact hn262_1) | exact hn262_1) (.string ((rd_T33 t256 x16_1).f1))).trans hx262_0; replace hx262_1 := (cell_far (p := ⟨gb261, 1, none⟩) (by first | (rw [add_block]; exact hn262_1) | (show (Addr.add _ _).block ≠ _; rw [add_block]; exact hn262_1) | exact hn262_1) (.string ((rd_T33 t256 x16_1).f1))).trans hx262_1; (try have hy262_0 := fun (n_ : Nat) => (show ((((w11.drewN n_).setCell ⟨gb261, 0, none⟩ (.string ((rd_T33 t256 x16_1).f0))).setCell ⟨gb261, 1, none⟩ (.string ((rd_T33 t256 x16_1).f1)))).cell? _ = some _ from hx262_0)); (try have hy262_1 := fun (n_ : Nat) => (show ((((w11.drewN n_).setCell ⟨gb261, 0, none⟩ (.string ((rd_T33 t256 x16_1).f0))).setCell ⟨gb261, 1, none⟩ (.string ((rd_T33 t256 x16_1).f1)))).cell? _ = some _ from hx262_1)); clear hn262_0; clear hn262_1; replace p262 := eq_true p262; replace q262 := eq_true q262)))
         go_ret
         exact ⟨by first | rfl | (simp [errW_none, errW_some] <;> rfl) | (simp [*, errW_none, errW_some] <;> rfl), by repeat (first | (with_reducible first | exact HB.out | apply below_alloc | apply pw_below_drewN | apply below_drew1 | refine below_set ?_ GE261.out) | exact HB.out)⟩
        ·rw [if_neg c10] at H
         have c10b0 : (!((((rd_T33 t256 x16_1).f0).toList) == (((rd_T33 l0 x16_1).f0).toList)) || (!((((rd_T33 t256 x16_1).f1).toList) == (((rd_T33 l0 x16_1).f1).toList)))) = false := by simpa using c10
         clear c10
         have H' := Aside0.mk H
         clear H
         have p260 : 0 ≤ (x16_1 : Int) := of_decide_eq_true (by first | (with_reducible assumption) | assumption)
         have q260 : x16_1 < (t256.length : Int) := of_decide_eq_true (by first | (with_reducible assumption) | assumption)
         try (obtain ⟨Az260_, cz260_, ez260_⟩ := Kd.R_slice HO_14.out; subst ez260_)
         obtain ⟨ad260, e260, hx260_0, hx260_1⟩ := at_T33 (Kd.R_reads' HO_14.out).2.2 x16_1 p260 q260
         cases e260
         replace p260 := eq_true p260
         replace q260 := eq_true q260
         go_wp2_with (first | ((with_reducible refine gate_dst (N := 6) rfl ?_); refine box_event ?hg (N := 6) ?hd (cs := #[.string (⟨#[]⟩ : ByteArray), .string (⟨#[]⟩ : ByteArray)]) (t := 33) ?hr ?_; (case hd => rfl); (case hg => rfl); (case hr => first | (go_simp; done) | (go_simp; rfl)); intro gb261 hg w13 hbox hb; have n0_ := Aside0.mk (Kd.R_below (Kd.R_elderB (rq HO_14) gb261 (Nat.le_of_eq hg.symm)) hb); have n1_ := Aside0.mk (below_step (hq HB) hb); have n2_ := Aside0.mk (hbox); have n3_ := Aside0.mk ((by rw [hg]; exact (below_size (hq HB)) : w.heap.size ≤ gb261)); have n4_ := Aside0.mk ((by rw [hg]; exact (below_size (hq HB)) : w.heap.size ≤ gb261)); clear HO_14; clear HB; have HO_14 := n0_; have HB := n1_; have BK261 := n2_; have GW261 := n3_; have GE261 := n4_; clear n0_ n1_ n2_ n3_ n4_; clear hb hbox hg; have hcz14_0 : w13.cell? ⟨gb261, 0, none⟩ = some (.string (⟨#[]⟩ : ByteArray)) := (blk_cell BK261.out 0).trans rfl; have hcz14_1 : w13.cell? ⟨gb261, 1, none⟩ = some (.string (⟨#[]⟩ : ByteArray)) := (blk_cell BK261.out 1).trans rfl; have hfz14_0 := blk_frozen BK261.out 0; have hfz14_1 := blk_frozen BK261.out 1; have p262 : 0 ≤ (x16_1 : Int) := of_decide_eq_true (by first | (with_reducible assumption) | assumption); have q262 : x16_1 < (l0.length : Int) := of_decide_eq_true (by first | (with_reducible assumption) | assumption); obtain ⟨ad262, e262, hx262_0, hx262_1⟩ := at_T33 HR0.out x16_1 p262 q262; cases e262; have hn262_0 : ad262.block ≠ gb261 := Nat.ne_of_lt (Nat.lt_of_lt_of_le (by have := World.block_lt_of_cell? _ _ hx262_0; first | rwa [add_block] at this | exact this) GW261.out); have hn262_1 : ad262.block ≠ gb261 := Nat.ne_of_lt (Nat.lt_of_lt_of_le (by have := World.block_lt_of_cell? _ _ hx262_0; first | rwa [add_block] at this | exact this) GW261.out); (try replace hx262_0 := (HB.out.cell (World.block_lt_of_cell? w _ hx262_0)).trans hx262_0); (try replace hx262_1 := (HB.out.cell (World.block_lt_of_cell? w _ hx262_1)).trans hx262_1); replace hx262_0 := (cell_far (p := ⟨gb261, 0, none⟩) (by first | (rw [add_block]; exact hn262_0) | (show (Addr.add _ _).block ≠ _; rw [add_block]; exact hn262_0) | exact hn262_0) (.string ((rd_T33 t256 x16_1).f0))).trans hx262_0; replace hx262_1 := (cell_far (p := ⟨gb261, 0, none⟩) (by first | (rw [add_block]; exact hn262_0) | (show (Addr.add _ _).block ≠ _; rw [add_block]; exact hn262_0) | exact hn262_0) (.string ((rd_T33 t256 x16_1).f0))).trans hx262_1; replace hx262_0 := (cell_far (p := ⟨gb261, 1, none⟩) (by first | (rw [add_block]; exact hn262_1) | (show (Addr.add _ _).block ≠ _; rw [add_block]; exact hn262_1) | exact hn262_1) (.string ((rd_T33 t256 x16_1).f1))).trans hx262_0; replace hx262_1 := (cell_far (p := ⟨gb261, 1, none⟩) (by first | (rw [add_block]; exact hn262_1) | (show (Addr.add _ _).block ≠ _; rw [add_block]; exact hn262_1) | exact hn262_1) (.string ((rd_T33 t256 x16_1).f1))).trans hx262_1; (try have hy262_0 := fun (n_ : Nat) => (show ((((w13.drewN n_).setCell ⟨gb261, 0, none⟩ (.string ((rd_T33 t256 x16_1).f0))).setCell ⟨gb261, 1, none⟩ (.string ((rd_T33 t256 x16_1).f1)))).cell? _ = some _ from hx262_0)); (try have hy262_1 := fun (n_ : Nat) => (show ((((w13.drewN n_).setCell ⟨gb261, 0, none⟩ (.string ((rd_T33 t256 x16_1).f0))).setCell ⟨gb261, 1, none⟩ (.string ((rd_T33 t256 x16_1).f1)))).cell? _ = some _ from hx262_1)); clear hn262_0; clear hn262_1; replace p262 := eq_true p262; replace q262 := eq_true q262))
         repeat (go_quiet (first | ((with_reducible refine gate_dst (N := 6) rfl ?_); refine box_event ?hg (N := 6) ?hd (cs := #[.string (⟨#[]⟩ : ByteArray), .string (⟨#[]⟩ : ByteArray)]) (t := 33) ?hr ?_; (case hd => rfl); (case hg => rfl); (case hr => first | (go_simp; done) | (go_simp; rfl)); intro gb261 hg w13 hbox hb; have n0_ := Aside0.mk (Kd.R_below (Kd.R_elderB (rq HO_14) gb261 (Nat.le_of_eq hg.symm)) hb); have n1_ := Aside0.mk (below_step (hq HB) hb); have n2_ := Aside0.mk (hbox); have n3_ := Aside0.mk ((by rw [hg]; exact (below_size (hq HB)) : w.heap.size ≤ gb261)); have n4_ := Aside0.mk ((by rw [hg]; exact (below_size (hq HB)) : w.heap.size ≤ gb261)); clear HO_14; clear HB; have HO_14 := n0_; have HB := n1_; have BK261 := n2_; have GW261 := n3_; have GE261 := n4_; clear n0_ n1_ n2_ n3_ n4_; clear hb hbox hg; have hcz14_0 : w13.cell? ⟨gb261, 0, none⟩ = some (.string (⟨#[]⟩ : ByteArray)) := (blk_cell BK261.out 0).trans rfl; have hcz14_1 : w13.cell? ⟨gb261, 1, none⟩ = some (.string (⟨#[]⟩ : ByteArray)) := (blk_cell BK261.out 1).trans rfl; have hfz14_0 := blk_frozen BK261.out 0; have hfz14_1 := blk_frozen BK261.out 1; have p262 : 0 ≤ (x16_1 : Int) := of_decide_eq_true (by first | (with_reducible assumption) | assumption); have q262 : x16_1 < (l0.length : Int) := of_decide_eq_true (by first | (with_reducible assumption) | assumption); obtain ⟨ad262, e262, hx262_0, hx262_1⟩ := at_T33 HR0.out x16_1 p262 q262; cases e262; have hn262_0 : ad262.block ≠ gb261 := Nat.ne_of_lt (Nat.lt_of_lt_of_le (by have := World.block_lt_of_cell? _ _ hx262_0; first | rwa [add_block] at this | exact this) GW261.out); have hn262_1 : ad262.block ≠ gb261 := Nat.ne_of_lt (Nat.lt_of_lt_of_le (by have := World.block_lt_of_cell? _ _ hx262_0; first | rwa [add_block] at this | exact this) GW261.out); (try replace hx262_0 := (HB.out.cell (World.block_lt_of_cell? w _ hx262_0)).trans hx262_0); (try replace hx262_1 := (HB.out.cell (World.block_lt_of_cell? w _ hx262_1)).trans hx262_1); replace hx262_0 := (cell_far (p := ⟨gb261, 0, none⟩) (by first | (rw [add_block]; exact hn262_0) | (show (Addr.add _ _).block ≠ _; rw [add_block]; exact hn262_0) | exact hn262_0) (.string ((rd_T33 t256 x16_1).f0))).trans hx262_0; replace hx262_1 := (cell_far (p := ⟨gb261, 0, none⟩) (by first | (rw [add_block]; exact hn262_0) | (show (Addr.add _ _).block ≠ _; rw [add_block]; exact hn262_0) | exact hn262_0) (.string ((rd_T33 t256 x16_1).f0))).trans hx262_1; replace hx262_0 := (cell_far (p := ⟨gb261, 1, none⟩) (by first | (rw [add_block]; exact hn262_1) | (show (Addr.add _ _).block ≠ _; rw [add_block]; exact hn262_1) | exact hn262_1) (.string ((rd_T33 t256 x16_1).f1))).trans hx262_0; replace hx262_1 := (cell_far (p := ⟨gb261, 1, none⟩) (by first | (rw [add_block]; exact hn262_1) | (show (Addr.add _ _).block ≠ _; rw [add_block]; exact hn262_1) | exact hn262_1) (.string ((rd_T33 t256 x16_1).f1))).trans hx262_1; (try have hy262_0 := fun (n_ : Nat) => (show ((((w13.drewN n_).setCell ⟨gb261, 0, none⟩ (.string ((rd_T33 t256 x16_1).f0))).setCell ⟨gb261, 1, none⟩ (.string ((rd_T33 t256 x16_1).f1)))).cell? _ = some _ from hx262_0)); (try have hy262_1 := fun (n_ : Nat) => (show ((((w13.drewN n_).setCell ⟨gb261, 0, none⟩ (.string ((rd_T33 t256 x16_1).f0))).setCell ⟨gb261, 1, none⟩ (.string ((rd_T33 t256 x16_1).f1)))).cell? _ = some _ from hx262_1)); clear hn262_0; clear hn262_1; replace p262 := eq_true p262; replace q262 := eq_true q262)); try go_wp2_with (first | ((with_reducible refine gate_dst (N := 6) rfl ?_); refine box_event ?hg (N := 6) ?hd (cs := #[.string (⟨#[]⟩ : ByteArray), .string (⟨#[]⟩ : ByteArray)]) (t := 33) ?hr ?_; (case hd => rfl); (case hg => rfl); (case hr => first | (go_simp; done) | (go_simp; rfl)); intro gb261 hg w13 hbox hb; have n0_ := Aside0.mk (Kd.R_below (Kd.R_elderB (rq HO_14) gb261 (Nat.le_of_eq hg.symm)) hb); have n1_ := Aside0.mk (below_step (hq HB) hb); have n2_ := Aside0.mk (hbox); have n3_ := Aside0.mk ((by rw [hg]; exact (below_size (hq HB)) : w.heap.size ≤ gb261)); have n4_ := Aside0.mk ((by rw [hg]; exact (below_size (hq HB)) : w.heap.size ≤ gb261)); clear HO_14; clear HB; have HO_14 := n0_; have HB := n1_; have BK261 := n2_; have GW261 := n3_; have GE261 := n4_; clear n0_ n1_ n2_ n3_ n4_; clear hb hbox hg; have hcz14_0 : w13.cell? ⟨gb261, 0, none⟩ = some (.string (⟨#[]⟩ : ByteArray)) := (blk_cell BK261.out 0).trans rfl; have hcz14_1 : w13.cell? ⟨gb261, 1, none⟩ = some (.string (⟨#[]⟩ : ByteArray)) := (blk_cell BK261.out 1).trans rfl; have hfz14_0 := blk_frozen BK261.out 0; have hfz14_1 := blk_frozen BK261.out 1; have p262 : 0 ≤ (x16_1 : Int) := of_decide_eq_true (by first | (with_reducible assumption) | assumption); have q262 : x16_1 < (l0.length : Int) := of_decide_eq_true (by first | (with_reducible assumption) | assumption); obtain ⟨ad262, e262, hx262_0, hx262_1⟩ := at_T33 HR0.out x16_1 p262 q262; cases e262; have hn262_0 : ad262.block ≠ gb261 := Nat.ne_of_lt (Nat.lt_of_lt_of_le (by have := World.block_lt_of_cell? _ _ hx262_0; first | rwa [add_block] at this | exact this) GW261.out); have hn262_1 : ad262.block ≠ gb261 := Nat.ne_of_lt (Nat.lt_of_lt_of_le (by have := World.block_lt_of_cell? _ _ hx262_0; first | rwa [add_block] at this | exact this) GW261.out); (try replace hx262_0 := (HB.out.cell (World.block_lt_of_cell? w _ hx262_0)).trans hx262_0); (try replace hx262_1 := (HB.out.cell (World.block_lt_of_cell? w _ hx262_1)).trans hx262_1); replace hx262_0 := (cell_far (p := ⟨gb261, 0, none⟩) (by first | (rw [add_block]; exact hn262_0) | (show (Addr.add _ _).block ≠ _; rw [add_block]; exact hn262_0) | exact hn262_0) (.string ((rd_T33 t256 x16_1).f0))).trans hx262_0; replace hx262_1 := (cell_far (p := ⟨gb261, 0, none⟩) (by first | (rw [add_block]; exact hn262_0) | (show (Addr.add _ _).block ≠ _; rw [add_block]; exact hn262_0) | exact hn262_0) (.string ((rd_T33 t256 x16_1).f0))).trans hx262_1; replace hx262_0 := (cell_far (p := ⟨gb261, 1, none⟩) (by first | (rw [add_block]; exact hn262_1) | (show (Addr.add _ _).block ≠ _; rw [add_block]; exact hn262_1) | exact hn262_1) (.string ((rd_T33 t256 x16_1).f1))).trans hx262_0; replace hx262_1 := (cell_far (p := ⟨gb261, 1, none⟩) (by first | (rw [add_block]; exact hn262_1) | (show (Addr.add _ _).block ≠ _; rw [add_block]; exact hn262_1) | exact hn262_1) (.string ((rd_T33 t256 x16_1).f1))).trans hx262_1; (try have hy262_0 := fun (n_ : Nat) => (show ((((w13.drewN n_).setCell ⟨gb261, 0, none⟩ (.string ((rd_T33 t256 x16_1).f0))).setCell ⟨gb261, 1, none⟩ (.string ((rd_T33 t256 x16_1).f1)))).cell? _ = some _ from hx262_0)); (try have hy262_1 := fun (n_ : Nat) => (show ((((w13.drewN n_).setCell ⟨gb261, 0, none⟩ (.string ((rd_T33 t256 x16_1).f0))).setCell ⟨gb261, 1, none⟩ (.string ((rd_T33 t256 x16_1).f1)))).cell? _ = some _ from hx262_1)); clear hn262_0; clear hn262_1; replace p262 := eq_true p262; replace q262 := eq_true q262)))
         go_roundg k1
         case measure => have := HK1.out; omega
         case rel => exact ⟨(wrap64 (x16_1 + 1)), (by first | rfl | (simp; done) | (simp [*]; done)), H', ⟨by have := HK1.out; omega⟩, ⟨by (with_reducible repeat (first | apply Kd.R_alloc | apply Kd.R_drewN | apply Kd.R_drew)); exact Kd.R_mono (Kd.R_far (p := ⟨gb261, 1, none⟩) (Kd.R_far (p := ⟨gb261, 0, none⟩) (Kd.R_mono HO_14.out (fun k_ hk => (⟨hk, hk.2⟩ : _ ∧ k_ ≠ gb261))) (fun _ hk => hk.2) (.string ((rd_T33 t256 x16_1).f0))) (fun _ hk => hk.2) (.string ((rd_T33 t256 x16_1).f1))) (fun _ hk => trivial)⟩, ⟨by repeat (first | (with_reducible first | exact HB.out | apply below_alloc | apply pw_below_drewN | apply below_drew1 | refine below_set ?_ GE261.out) | exact HB.out)⟩⟩
       ·rw [if_neg c9] at H
        exact absurd H (by simp)
      ·rw [if_neg c8] at H
       exact absurd H (by simp)
     ·rw [if_neg c7] at H
      exact absurd H (by simp)
    ·rw [if_neg c6] at H
     have c6b0 : decide (x16_1 < (t256.length : Int)) = false := decide_eq_false c6
     clear c6
     obtain rfl := Option.some.inj H
     go_wp2
     repeat (go_quiet (fail); try go_wp2)
     go_ret
     exact ⟨by first | rfl | (simp [errW_none, errW_some] <;> rfl) | (simp [*, errW_none, errW_some] <;> rfl), by repeat (first | (with_reducible first | exact HB.out | apply below_alloc | apply pw_below_drewN | apply below_drew1) | exact HB.out)⟩
 ·rw [if_neg c3] at H
  have c3b0 : (t257 == 0) = false := beq_eq_false_iff_ne.mpr c3
  have c3b1 : (t257 != 0) = true := bne_iff_ne.mpr c3
  obtain rfl := Option.some.inj H
  go_enter Try.func27, Try.ntmps27
  go_wp2_with (first | (go_at_call 24; (with_reducible refine (labels_New.calls _ _ l0 t256 t257 _ ?side1 ?side2 A2.out).mono ?_); (case side1 => repeat (first | exact HR0.out | (with_reducible refine Kd.C_alloc ?_ _) | (with_reducible refine Kd.C_drewN ?_ _) | (with_reducible refine Kd.C_drew ?_))); (case side2 => exact HC0.out); rintro e w15 ⟨v258, rfl, ho0, hb⟩; have n0_ := Aside0.mk (Kd.R_lower ho0 (below_size (hq HB))); have n1_ := Aside0.mk (below_step (hq HB) hb); clear HB; have HO259 := n0_; have HB := n1_; clear n0_ n1_; (try clear hb); (try clear hb2); (try clear hk); (try clear hi); (try clear ho0)))
  repeat (go_quiet (first | (go_at_call 24; (with_reducible refine (labels_New.calls _ _ l0 t256 t257 _ ?side1 ?side2 A2.out).mono ?_); (case side1 => repeat (first | exact HR0.out | (with_reducible refine Kd.C_alloc ?_ _) | (with_reducible refine Kd.C_drewN ?_ _) | (with_reducible refine Kd.C_drew ?_))); (case side2 => exact HC0.out); rintro e w15 ⟨v258, rfl, ho0, hb⟩; have n0_ := Aside0.mk (Kd.R_lower ho0 (below_size (hq HB))); have n1_ := Aside0.mk (below_step (hq HB) hb); clear HB; have HO259 := n0_; have HB := n1_; clear n0_ n1_; (try clear hb); (try clear hb2); (try clear hk); (try clear hi); (try clear ho0))); try go_wp2_with (first | (go_at_call 24; (with_reducible refine (labels_New.calls _ _ l0 t256 t257 _ ?side1 ?side2 A2.out).mono ?_); (case side1 => repeat (first | exact HR0.out | (with_reducible refine Kd.C_alloc ?_ _) | (with_reducible refine Kd.C_drewN ?_ _) | (with_reducible refine Kd.C_drew ?_))); (case side2 => exact HC0.out); rintro e w15 ⟨v258, rfl, ho0, hb⟩; have n0_ := Aside0.mk (Kd.R_lower ho0 (below_size (hq HB))); have n1_ := Aside0.mk (below_step (hq HB) hb); clear HB; have HO259 := n0_; have HB := n1_; clear n0_ n1_; (try clear hb); (try clear hb2); (try clear hk); (try clear hi); (try clear ho0))))
  go_ret
  exact ⟨by first | rfl | (simp [errW_none, errW_some] <;> rfl) | (simp [*, errW_none, errW_some] <;> rfl), by repeat (first | (with_reducible first | exact HB.out | apply below_alloc | apply pw_below_drewN | apply below_drew1) | exact HB.out)⟩

/-! ### intervalmonref05_Valid: function 28 -/
def intervalmonref05_Valid.f (k : Nat) (l0 : List (S33)) : Option (Bool) := (intervalmonref05_New.f k l0).bind fun bt263 => (if bt263.2 = 0 then ((intervalmonref05_Same.f k bt263.1 l0).bind fun t267 => (some t267)) else (some false))
theorem intervalmonref05_Valid.mono : ∀ a0 k, LeO (intervalmonref05_Valid.f k a0) (intervalmonref05_Valid.f (k + 1) a0) := by
 intro a0 k
 unfold intervalmonref05_Valid.f
 repeat' first
   | (with_reducible exact intervalmonref05_New.mono _ _)
   | (with_reducible exact intervalmonref05_Same.mono _ _ _)
   | (with_reducible exact LeO.refl _)
   | (with_reducible exact LeO.none _)
   | (with_reducible refine LeO.ite ?_ ?_)
   | (with_reducible refine LeO.bind ?_ (fun _ => ?_))
   | exact intervalmonref05_New.mono _ _
   | exact intervalmonref05_Same.mono _ _ _
   | exact LeO.none _
   | refine LeO.ite ?_ ?_
   | refine LeO.bind ?_ (fun _ => ?_)
set_option maxHeartbeats 8000000 in
set_option maxRecDepth 100000 in
theorem intervalmonref05_Valid.calls (k : Nat) (A0 : Option Addr) (c0 : Nat) (l0 : List (S33)) (r : Bool) (w : World) (hr0 : Kd.C k33 w A0 l0.length l0) (hc0 : l0.length ≤ c0) (h : intervalmonref05_Valid.f k l0 = some r) :
  Calls Try.prog 28 #[.slice A0 l0.length c0] w fun e w' => e = .returned (.bool r) ∧ Below w.heap.size w w' := by
 have HR0 := Aside0.mk hr0
 have HC0 := Aside0.mk hc0
 clear hr0 hc0
 have HB := Aside0.mk (Below.refl w.heap.size w)
 have H : ((intervalmonref05_New.f k l0).bind fun bt263 => (if bt263.2 = 0 then ((intervalmonref05_Same.f k bt263.1 l0).bind fun t267 => (some t267)) else (some false))) = some r := h
 clear h
 replace H := Option.bind_eq_some_iff.mp H
 obtain ⟨⟨t263, t264⟩, A20, H⟩ := H
 replace H : (if t264 = 0 then ((intervalmonref05_Same.f k t263 l0).bind fun t267 => (some t267)) else (some false)) = some r := H
 have A2 := Aside0.mk A20
 clear A20
 by_cases c3 : t264 = 0
 ·rw [if_pos c3] at H
  have c3b0 : (t264 == 0) = true := beq_iff_eq.mpr c3
  have c3b1 : (t264 != 0) = false := bne_eq_false_iff_eq.mpr c3
  clear c3
  replace H := Option.bind_eq_some_iff.mp H
  obtain ⟨t267, A40, H⟩ := H
  replace H : (some t267) = some r := H
  have A4 := Aside0.mk A40
  clear A40
  obtain rfl := Option.some.inj H
  go_enter Try.func28, Try.ntmps28
  go_wp2_with (first | ((with_reducible refine gate_callee (f := 25) rfl ?_); refine goesL_ (some 7) rfl rfl Try.func25 (by kernel_rfl) rfl #[.slice A0 l0.length c0] rfl aq ?_; (with_reducible refine (intervalmonref05_New.calls k _ _ l0 t263 t264 _ ?side1 ?side2 A2.out).mono ?_); (case side1 => repeat (first | exact HR0.out | (with_reducible refine Kd.C_alloc ?_ _) | (with_reducible refine Kd.C_drewN ?_ _) | (with_reducible refine Kd.C_drew ?_))); (case side2 => exact HC0.out); rintro e w5 ⟨v265, rfl, ho0, hb⟩; refine ⟨_, rfl, ?_⟩; have n0_ := Aside0.mk (Kd.R_lower ho0 (below_size (hq HB))); have n1_ := Aside0.mk (below_step (hq HB) hb); clear HB; have HO266 := n0_; have HB := n1_; clear n0_ n1_; (try clear hb); (try clear hb2); (try clear hk); (try clear hi); (try clear ho0); obtain ⟨Ao6, co6, eo6⟩ := Kd.R_slice HO266.out; subst eo6) | (go_at_call 26; (with_reducible refine (intervalmonref05_Same.calls k _ _ t263 _ _ l0 t267 _ ?side1 ?side2 ?side3 ?side4 A4.out).mono ?_); (case side1 => repeat (first | exact (Kd.R_reads' HO266.out).2.2 | (with_reducible refine Kd.C_alloc ?_ _) | (with_reducible refine Kd.C_drewN ?_ _) | (with_reducible refine Kd.C_drew ?_))); (case side2 => exact (Kd.R_reads' HO266.out).2.1); (case side3 => repeat (first | exact (Kd.C_below HR0.out HB.out) | (with_reducible refine Kd.C_alloc ?_ _) | (with_reducible refine Kd.C_drewN ?_ _) | (with_reducible refine Kd.C_drew ?_))); (case side4 => exact HC0.out); rintro e w' ⟨rfl, ⟨nd, rfl⟩⟩))
  go_ret
  exact ⟨by first | rfl | (simp [errW_none, errW_some] <;> rfl) | (simp [*, errW_none, errW_some] <;> rfl), by repeat (first | (with_reducible first | exact HB.out | apply below_alloc | apply pw_below_drewN | apply below_drew1) | exact HB.out)⟩
 ·rw [if_neg c3] at H
  have c3b0 : (t264 == 0) = false := beq_eq_false_iff_ne.mpr c3
  have c3b1 : (t264 != 0) = true := bne_iff_ne.mpr c3
  obtain rfl := Option.some.inj H
  go_enter Try.func28, Try.ntmps28
  go_wp2_with (first | ((with_reducible refine gate_callee (f := 25) rfl ?_); refine goesL_ (some 7) rfl rfl Try.func25 (by kernel_rfl) rfl #[.slice A0 l0.length c0] rfl aq ?_; (with_reducible refine (intervalmonref05_New.calls k _ _ l0 t263 t264 _ ?side1 ?side2 A2.out).mono ?_); (case side1 => repeat (first | exact HR0.out | (with_reducible refine Kd.C_alloc ?_ _) | (with_reducible refine Kd.C_drewN ?_ _) | (with_reducible refine Kd.C_drew ?_))); (case side2 => exact HC0.out); rintro e w7 ⟨v265, rfl, ho0, hb⟩; refine ⟨_, rfl, ?_⟩; have n0_ := Aside0.mk (Kd.R_lower ho0 (below_size (hq HB))); have n1_ := Aside0.mk (below_step (hq HB) hb); clear HB; have HO266 := n0_; have HB := n1_; clear n0_ n1_; (try clear hb); (try clear hb2); (try clear hk); (try clear hi); (try clear ho0)))
  go_ret
  exact ⟨by first | rfl | (simp [errW_none, errW_some] <;> rfl) | (simp [*, errW_none, errW_some] <;> rfl), by repeat (first | (with_reducible first | exact HB.out | apply below_alloc | apply pw_below_drewN | apply below_drew1) | exact HB.out)⟩

/-! ### intervalmonlaw05_LabelsNew: function 5 -/
def intervalmonlaw05_LabelsNew.f (k : Nat) (l0 : List Int) : Option (Bool) := (intervalmonref05_Dirty.f k l0).bind fun t268 => ((labels_New.f t268).bind fun bt271 => ((intervalmonref05_New.f k t268).bind fun bt275 => (if bt271.2 = bt275.2 then ((intervalmonref05_Same.f k bt271.1 bt275.1).bind fun t279 => (if t279 = true then ((labels_Valid.f k t268).bind fun t280 => ((intervalmonref05_Valid.f k t268).bind fun t281 => (if (t280 == t281) = true then (if bt275.2 = 0 then ((labels_Valid.f k bt275.1).bind fun t282 => (if t282 = true then ((intervalmonlaw05_lives.f).bind fun t283 => (some t283)) else (some false))) else ((intervalmonlaw05_lives.f).bind fun t284 => (some t284))) else (some false)))) else (some false))) else (some false))))
theorem intervalmonlaw05_LabelsNew.mono : ∀ a0 k, LeO (intervalmonlaw05_LabelsNew.f k a0) (intervalmonlaw05_LabelsNew.f (k + 1) a0) := by
 intro a0 k
 unfold intervalmonlaw05_LabelsNew.f
 repeat' first
   | (with_reducible exact intervalmonref05_Dirty.mono _ _)
   | (with_reducible exact intervalmonref05_New.mono _ _)
   | (with_reducible exact intervalmonref05_Same.mono _ _ _)
   | (with_reducible exact intervalmonref05_Valid.mono _ _)
   | (with_reducible exact labels_Valid.mono _ _)
   | (with_reducible exact LeO.refl _)
   | (with_reducible exact LeO.none _)
   | (with_reducible refine LeO.ite ?_ ?_)
   | (with_reducible refine LeO.bind ?_ (fun _ => ?_))
   | exact intervalmonref05_Dirty.mono _ _
   | exact intervalmonref05_New.mono _ _
   | exact intervalmonref05_Same.mono _ _ _
   | exact intervalmonref05_Valid.mono _ _
   | exact labels_Valid.mono _ _
   | exact LeO.none _
   | refine LeO.ite ?_ ?_
   | refine LeO.bind ?_ (fun _ => ?_)
set_option maxHeartbeats 8000000 in
set_option maxRecDepth 100000 in
theorem intervalmonlaw05_LabelsNew.calls (k : Nat) (A0 : Option Addr) (c0 : Nat) (l0 : List Int) (r : Bool) (w : World) (hr0 : Kd.C (Kd.int .i64) w A0 l0.length l0) (hc0 : l0.length ≤ c0) (h : intervalmonlaw05_LabelsNew.f k l0 = some r) (hT : r = true := by first | rfl | assumption) :
  Calls Try.prog 5 #[.slice A0 l0.length c0] w fun e w' => e = .returned (.bool r) ∧ Below w.heap.size w w' := by
 have HT0 := Aside0.mk hT
 clear hT
 have HR0 := Aside0.mk hr0
 have HC0 := Aside0.mk hc0
 clear hr0 hc0
 have HB := Aside0.mk (Below.refl w.heap.size w)
 have H : ((intervalmonref05_Dirty.f k l0).bind fun t268 => ((labels_New.f t268).bind fun bt271 => ((intervalmonref05_New.f k t268).bind fun bt275 => (if bt271.2 = bt275.2 then ((intervalmonref05_Same.f k bt271.1 bt275.1).bind fun t279 => (if t279 = true then ((labels_Valid.f k t268).bind fun t280 => ((intervalmonref05_Valid.f k t268).bind fun t281 => (if (t280 == t281) = true then (if bt275.2 = 0 then ((labels_Valid.f k bt275.1).bind fun t282 => (if t282 = true then ((intervalmonlaw05_lives.f).bind fun t283 => (some t283)) else (some false))) else ((intervalmonlaw05_lives.f).bind fun t284 => (some t284))) else (some false)))) else (some false))) else (some false))))) = some r := h
 clear h
 replace H := Option.bind_eq_some_iff.mp H
 obtain ⟨t268, A20, H⟩ := H
 replace H : ((labels_New.f t268).bind fun bt271 => ((intervalmonref05_New.f k t268).bind fun bt275 => (if bt271.2 = bt275.2 then ((intervalmonref05_Same.f k bt271.1 bt275.1).bind fun t279 => (if t279 = true then ((labels_Valid.f k t268).bind fun t280 => ((intervalmonref05_Valid.f k t268).bind fun t281 => (if (t280 == t281) = true then (if bt275.2 = 0 then ((labels_Valid.f k bt275.1).bind fun t282 => (if t282 = true then ((intervalmonlaw05_lives.f).bind fun t283 => (some t283)) else (some false))) else ((intervalmonlaw05_lives.f).bind fun t284 => (some t284))) else (some false)))) else (some false))) else (some false)))) = some r := H
 have A2 := Aside0.mk A20
 clear A20
 replace H := Option.bind_eq_some_iff.mp H
 obtain ⟨⟨t271, t272⟩, A30, H⟩ := H
 replace H : ((intervalmonref05_New.f k t268).bind fun bt275 => (if t272 = bt275.2 then ((intervalmonref05_Same.f k t271 bt275.1).bind fun t279 => (if t279 = true then ((labels_Valid.f k t268).bind fun t280 => ((intervalmonref05_Valid.f k t268).bind fun t281 => (if (t280 == t281) = true then (if bt275.2 = 0 then ((labels_Valid.f k bt275.1).bind fun t282 => (if t282 = true then ((intervalmonlaw05_lives.f).bind fun t283 => (some t283)) else (some false))) else ((intervalmonlaw05_lives.f).bind fun t284 => (some t284))) else (some false)))) else (some false))) else (some false))) = some r := H
 have A3 := Aside0.mk A30
 clear A30
 replace H := Option.bind_eq_some_iff.mp H
 obtain ⟨⟨t275, t276⟩, A40, H⟩ := H
 replace H : (if t272 = t276 then ((intervalmonref05_Same.f k t271 t275).bind fun t279 => (if t279 = true then ((labels_Valid.f k t268).bind fun t280 => ((intervalmonref05_Valid.f k t268).bind fun t281 => (if (t280 == t281) = true then (if t276 = 0 then ((labels_Valid.f k t275).bind fun t282 => (if t282 = true then ((intervalmonlaw05_lives.f).bind fun t283 => (some t283)) else (some false))) else ((intervalmonlaw05_lives.f).bind fun t284 => (some t284))) else (some false)))) else (some false))) else (some false)) = some r := H
 have A4 := Aside0.mk A40
 clear A40
 by_cases c5 : t272 = t276
 ·rw [if_pos c5] at H
  have c5b0 : (t272 == t276) = true := beq_iff_eq.mpr c5
  have c5b1 : (t272 != t276) = false := bne_eq_false_iff_eq.mpr c5
  clear c5
  replace H := Option.bind_eq_some_iff.mp H
  obtain ⟨t279, A60, H⟩ := H
  replace H : (if t279 = true then ((labels_Valid.f k t268).bind fun t280 => ((intervalmonref05_Valid.f k t268).bind fun t281 => (if (t280 == t281) = true then (if t276 = 0 then ((labels_Valid.f k t275).bind fun t282 => (if t282 = true then ((intervalmonlaw05_lives.f).bind fun t283 => (some t283)) else (some false))) else ((intervalmonlaw05_lives.f).bind fun t284 => (some t284))) else (some false)))) else (some false)) = some r := H
  have A6 := Aside0.mk A60
  clear A60
  by_cases c7 : t279 = true
  ·subst c7
   have H1 : ((labels_Valid.f k t268).bind fun t280 => ((intervalmonref05_Valid.f k t268).bind fun t281 => (if (t280 == t281) = true then (if t276 = 0 then ((labels_Valid.f k t275).bind fun t282 => (if t282 = true then ((intervalmonlaw05_lives.f).bind fun t283 => (some t283)) else (some false))) else ((intervalmonlaw05_lives.f).bind fun t284 => (some t284))) else (some false)))) = some r := by rw [if_pos rfl] at H; exact H
   clear H
   have H := H1
   clear H1
   replace H := Option.bind_eq_some_iff.mp H
   obtain ⟨t280, A80, H⟩ := H
   replace H : ((intervalmonref05_Valid.f k t268).bind fun t281 => (if (t280 == t281) = true then (if t276 = 0 then ((labels_Valid.f k t275).bind fun t282 => (if t282 = true then ((intervalmonlaw05_lives.f).bind fun t283 => (some t283)) else (some false))) else ((intervalmonlaw05_lives.f).bind fun t284 => (some t284))) else (some false))) = some r := H
   have A8 := Aside0.mk A80
   clear A80
   replace H := Option.bind_eq_some_iff.mp H
   obtain ⟨t281, A90, H⟩ := H
   replace H : (if (t280 == t281) = true then (if t276 = 0 then ((labels_Valid.f k t275).bind fun t282 => (if t282 = true then ((intervalmonlaw05_lives.f).bind fun t283 => (some t283)) else (some false))) else ((intervalmonlaw05_lives.f).bind fun t284 => (some t284))) else (some false)) = some r := H
   have A9 := Aside0.mk A90
   clear A90
   by_cases c10 : (t280 == t281) = true
   ·rw [if_pos c10] at H
    have c10b0 : (t280 == t281) = true := c10
    (try (have c10b1 : decide (t280 = t281) = true := by simpa using c10))
    (try (have c10b2 : (t280 == t281) = true := by simpa using c10))
    clear c10
    by_cases c11 : t276 = 0
    ·rw [if_pos c11] at H
     have c11b0 : (t276 == 0) = true := beq_iff_eq.mpr c11
     have c11b1 : (t276 != 0) = false := bne_eq_false_iff_eq.mpr c11
     clear c11
     replace H := Option.bind_eq_some_iff.mp H
     obtain ⟨t282, A120, H⟩ := H
     replace H : (if t282 = true then ((intervalmonlaw05_lives.f).bind fun t283 => (some t283)) else (some false)) = some r := H
     have A12 := Aside0.mk A120
     clear A120
     by_cases c13 : t282 = true
     ·subst c13
      have H1 : ((intervalmonlaw05_lives.f).bind fun t283 => (some t283)) = some r := by rw [if_pos rfl] at H; exact H
      clear H
      have H := H1
      clear H1
      replace H := Option.bind_eq_some_iff.mp H
      obtain ⟨t283, A140, H⟩ := H
      replace H : (some t283) = some r := H
      have A14 := Aside0.mk A140
      clear A140
      obtain rfl := Option.some.inj H
      go_enter Try.func5, Try.ntmps5
      go_wp2_with (first | ((with_reducible refine gate_callee (f := 19) rfl ?_); refine goesL_ (some 9) rfl rfl Try.func19 (by kernel_rfl) rfl #[.slice A0 l0.length c0] rfl aq ?_; (with_reducible refine (intervalmonref05_Dirty.calls k _ _ l0 t268 _ ?side1 ?side2 A2.out).mono ?_); (case side1 => repeat (first | exact HR0.out | (with_reducible refine Kd.C_alloc ?_ _) | (with_reducible refine Kd.C_drewN ?_ _) | (with_reducible refine Kd.C_drew ?_))); (case side2 => exact HC0.out); rintro e w15 ⟨v269, rfl, ho0, hb⟩; refine ⟨_, rfl, ?_⟩; have n0_ := Aside0.mk (Kd.R_lower ho0 (below_size (hq HB))); have n1_ := Aside0.mk (below_step (hq HB) hb); clear HB; have HO270 := n0_; have HB := n1_; clear n0_ n1_; (try clear hb); (try clear hb2); (try clear hk); (try clear hi); (try clear ho0); obtain ⟨Ao16, co16, eo16⟩ := Kd.R_slice HO270.out; subst eo16) | ((with_reducible refine gate_callee (f := 24) rfl ?_); refine goesL_ (some 12) rfl rfl Try.func24 (by kernel_rfl) rfl #[.slice Ao16 t268.length co16] rfl aq ?_; (with_reducible refine (labels_New.calls _ _ t268 t271 t272 _ ?side1 ?side2 A3.out).mono ?_); (case side1 => repeat (first | exact (Kd.R_reads' HO270.out).2.2 | (with_reducible refine Kd.C_alloc ?_ _) | (with_reducible refine Kd.C_drewN ?_ _) | (with_reducible refine Kd.C_drew ?_))); (case side2 => exact (Kd.R_reads' HO270.out).2.1); rintro e w17 ⟨v273, rfl, ho0, hb⟩; refine ⟨_, rfl, ?_⟩; have n0_ := Aside0.mk (Kd.R_elder' (rq HO270) (Kd.R_base ho0) hb); have n1_ := Aside0.mk (Kd.R_lower (Kd.R_new' ho0 (Kd.R_lt (rq HO270))) (below_size (hq HB))); have n2_ := Aside0.mk (below_step (hq HB) hb); clear HO270; clear HB; have HO270 := n0_; have HO274 := n1_; have HB := n2_; clear n0_ n1_ n2_; (try clear hb); (try clear hb2); (try clear hk); (try clear hi); (try clear ho0)) | ((with_reducible refine gate_callee (f := 25) rfl ?_); refine goesL_ (some 17) rfl rfl Try.func25 (by kernel_rfl) rfl #[.slice Ao16 t268.length co16] rfl aq ?_; (with_reducible refine (intervalmonref05_New.calls k _ _ t268 t275 t276 _ ?side1 ?side2 A4.out).mono ?_); (case side1 => repeat (first | exact (Kd.R_reads' HO270.out).2.2 | (with_reducible refine Kd.C_alloc ?_ _) | (with_reducible refine Kd.C_drewN ?_ _) | (with_reducible refine Kd.C_drew ?_))); (case side2 => exact (Kd.R_reads' HO270.out).2.1); rintro e w18 ⟨v277, rfl, ho0, hb⟩; refine ⟨_, rfl, ?_⟩; have n0_ := Aside0.mk (Kd.R_elder' (rq HO270) (Kd.R_base ho0) hb); have n1_ := Aside0.mk (Kd.R_elder' (rq HO274) (Kd.R_base ho0) hb); have n2_ := Aside0.mk (Kd.R_lower (Kd.R_new' (Kd.R_new' ho0 (Kd.R_lt (rq HO270))) (Kd.R_lt (rq HO274))) (below_size (hq HB))); have n3_ := Aside0.mk (below_step (hq HB) hb); clear HO270; clear HO274; clear HB; have HO270 := n0_; have HO274 := n1_; have HO278 := n2_; have HB := n3_; clear n0_ n1_ n2_ n3_; (try clear hb); (try clear hb2); (try clear hk); (try clear hi); (try clear ho0); obtain ⟨Ao19, co19, eo19⟩ := Kd.R_slice HO274.out; subst eo19; obtain ⟨Ao20, co20, eo20⟩ := Kd.R_slice HO278.out; subst eo20) | (go_at_call 26; (with_reducible refine (intervalmonref05_Same.calls k _ _ t271 _ _ t275 true _ ?side1 ?side2 ?side3 ?side4 A6.out).mono ?_); (case side1 => repeat (first | exact (Kd.R_reads' HO274.out).2.2 | (with_reducible refine Kd.C_alloc ?_ _) | (with_reducible refine Kd.C_drewN ?_ _) | (with_reducible refine Kd.C_drew ?_))); (case side2 => exact (Kd.R_reads' HO274.out).2.1); (case side3 => repeat (first | exact (Kd.R_reads' HO278.out).2.2 | (with_reducible refine Kd.C_alloc ?_ _) | (with_reducible refine Kd.C_drewN ?_ _) | (with_reducible refine Kd.C_drew ?_))); (case side4 => exact (Kd.R_reads' HO278.out).2.1); rintro e w' ⟨rfl, ⟨nd, rfl⟩⟩) | (go_at_call 27; (with_reducible refine (labels_Valid.calls k _ _ t268 t280 _ ?side1 ?side2 A8.out).mono ?_); (case side1 => repeat (first | exact (Kd.R_reads' HO270.out).2.2 | (with_reducible refine Kd.C_alloc ?_ _) | (with_reducible refine Kd.C_drewN ?_ _) | (with_reducible refine Kd.C_drew ?_))); (case side2 => exact (Kd.R_reads' HO270.out).2.1); rintro e w21 ⟨rfl, hb⟩; have n0_ := Aside0.mk (Kd.R_below (rq HO270) hb); have n1_ := Aside0.mk (Kd.R_below (rq HO274) hb); have n2_ := Aside0.mk (Kd.R_below (rq HO278) hb); have n3_ := Aside0.mk (below_step (hq HB) hb); clear HO270; clear HO274; clear HO278; clear HB; have HO270 := n0_; have HO274 := n1_; have HO278 := n2_; have HB := n3_; clear n0_ n1_ n2_ n3_; (try clear hb); (try clear hb2); (try clear hk); (try clear hi)) | (go_at_call 28; (with_reducible refine (intervalmonref05_Valid.calls k _ _ t268 t281 _ ?side1 ?side2 A9.out).mono ?_); (case side1 => repeat (first | exact (Kd.R_reads' HO270.out).2.2 | (with_reducible refine Kd.C_alloc ?_ _) | (with_reducible refine Kd.C_drewN ?_ _) | (with_reducible refine Kd.C_drew ?_))); (case side2 => exact (Kd.R_reads' HO270.out).2.1); rintro e w22 ⟨rfl, hb⟩; have n0_ := Aside0.mk (Kd.R_below (rq HO270) hb); have n1_ := Aside0.mk (Kd.R_below (rq HO274) hb); have n2_ := Aside0.mk (Kd.R_below (rq HO278) hb); have n3_ := Aside0.mk (below_step (hq HB) hb); clear HO270; clear HO274; clear HO278; clear HB; have HO270 := n0_; have HO274 := n1_; have HO278 := n2_; have HB := n3_; clear n0_ n1_ n2_ n3_; (try clear hb); (try clear hb2); (try clear hk); (try clear hi)) | (go_at_call 27; (with_reducible refine (labels_Valid.calls k _ _ t275 true _ ?side1 ?side2 A12.out).mono ?_); (case side1 => repeat (first | exact (Kd.R_reads' HO278.out).2.2 | (with_reducible refine Kd.C_alloc ?_ _) | (with_reducible refine Kd.C_drewN ?_ _) | (with_reducible refine Kd.C_drew ?_))); (case side2 => exact (Kd.R_reads' HO278.out).2.1); rintro e w23 ⟨rfl, hb⟩; have n0_ := Aside0.mk (Kd.R_below (rq HO270) hb); have n1_ := Aside0.mk (Kd.R_below (rq HO274) hb); have n2_ := Aside0.mk (Kd.R_below (rq HO278) hb); have n3_ := Aside0.mk (below_step (hq HB) hb); clear HO270; clear HO274; clear HO278; clear HB; have HO270 := n0_; have HO274 := n1_; have HO278 := n2_; have HB := n3_; clear n0_ n1_ n2_ n3_; (try clear hb); (try clear hb2); (try clear hk); (try clear hi)) | (go_at_call 18; (with_reducible refine (intervalmonlaw05_lives.calls  t283 _ A14.out).mono ?_); rintro e w24 ⟨rfl, hb⟩; have n0_ := Aside0.mk (Kd.R_below (rq HO270) hb); have n1_ := Aside0.mk (Kd.R_below (rq HO274) hb); have n2_ := Aside0.mk (Kd.R_below (rq HO278) hb); have n3_ := Aside0.mk (below_step (hq HB) hb); clear HO270; clear HO274; clear HO278; clear HB; have HO270 := n0_; have HO274 := n1_; have HO278 := n2_; have HB := n3_; clear n0_ n1_ n2_ n3_; (try clear hb); (try clear hb2); (try clear hk); (try clear hi)))
      go_ret
      exact ⟨by first | rfl | (simp [errW_none, errW_some] <;> rfl) | (simp [*, errW_none, errW_some] <;> rfl), by repeat (first | (with_reducible first | exact HB.out | apply below_alloc | apply pw_below_drewN | apply below_drew1) | exact HB.out)⟩
     ·replace c13 := Bool.eq_false_iff.mpr c13
      subst c13
      have H1 : (some false) = some r := by rw [if_neg (show ¬ (false = true) by decide)] at H; exact H
      clear H
      have H := H1
      clear H1
      exact absurd ((Option.some.inj H).trans HT0.out) (by decide)
    ·rw [if_neg c11] at H
     have c11b0 : (t276 == 0) = false := beq_eq_false_iff_ne.mpr c11
     have c11b1 : (t276 != 0) = true := bne_iff_ne.mpr c11
     replace H := Option.bind_eq_some_iff.mp H
     obtain ⟨t284, A250, H⟩ := H
     replace H : (some t284) = some r := H
     have A25 := Aside0.mk A250
     clear A250
     obtain rfl := Option.some.inj H
     go_enter Try.func5, Try.ntmps5
     go_wp2_with (first | ((with_reducible refine gate_callee (f := 19) rfl ?_); refine goesL_ (some 9) rfl rfl Try.func19 (by kernel_rfl) rfl #[.slice A0 l0.length c0] rfl aq ?_; (with_reducible refine (intervalmonref05_Dirty.calls k _ _ l0 t268 _ ?side1 ?side2 A2.out).mono ?_); (case side1 => repeat (first | exact HR0.out | (with_reducible refine Kd.C_alloc ?_ _) | (with_reducible refine Kd.C_drewN ?_ _) | (with_reducible refine Kd.C_drew ?_))); (case side2 => exact HC0.out); rintro e w26 ⟨v269, rfl, ho0, hb⟩; refine ⟨_, rfl, ?_⟩; have n0_ := Aside0.mk (Kd.R_lower ho0 (below_size (hq HB))); have n1_ := Aside0.mk (below_step (hq HB) hb); clear HB; have HO270 := n0_; have HB := n1_; clear n0_ n1_; (try clear hb); (try clear hb2); (try clear hk); (try clear hi); (try clear ho0); obtain ⟨Ao27, co27, eo27⟩ := Kd.R_slice HO270.out; subst eo27) | ((with_reducible refine gate_callee (f := 24) rfl ?_); refine goesL_ (some 12) rfl rfl Try.func24 (by kernel_rfl) rfl #[.slice Ao27 t268.length co27] rfl aq ?_; (with_reducible refine (labels_New.calls _ _ t268 t271 t272 _ ?side1 ?side2 A3.out).mono ?_); (case side1 => repeat (first | exact (Kd.R_reads' HO270.out).2.2 | (with_reducible refine Kd.C_alloc ?_ _) | (with_reducible refine Kd.C_drewN ?_ _) | (with_reducible refine Kd.C_drew ?_))); (case side2 => exact (Kd.R_reads' HO270.out).2.1); rintro e w28 ⟨v273, rfl, ho0, hb⟩; refine ⟨_, rfl, ?_⟩; have n0_ := Aside0.mk (Kd.R_elder' (rq HO270) (Kd.R_base ho0) hb); have n1_ := Aside0.mk (Kd.R_lower (Kd.R_new' ho0 (Kd.R_lt (rq HO270))) (below_size (hq HB))); have n2_ := Aside0.mk (below_step (hq HB) hb); clear HO270; clear HB; have HO270 := n0_; have HO274 := n1_; have HB := n2_; clear n0_ n1_ n2_; (try clear hb); (try clear hb2); (try clear hk); (try clear hi); (try clear ho0)) | ((with_reducible refine gate_callee (f := 25) rfl ?_); refine goesL_ (some 17) rfl rfl Try.func25 (by kernel_rfl) rfl #[.slice Ao27 t268.length co27] rfl aq ?_; (with_reducible refine (intervalmonref05_New.calls k _ _ t268 t275 t276 _ ?side1 ?side2 A4.out).mono ?_); (case side1 => repeat (first | exact (Kd.R_reads' HO270.out).2.2 | (with_reducible refine Kd.C_alloc ?_ _) | (with_reducible refine Kd.C_drewN ?_ _) | (with_reducible refine Kd.C_drew ?_))); (case side2 => exact (Kd.R_reads' HO270.out).2.1); rintro e w29 ⟨v277, rfl, ho0, hb⟩; refine ⟨_, rfl, ?_⟩; have n0_ := Aside0.mk (Kd.R_elder' (rq HO270) (Kd.R_base ho0) hb); have n1_ := Aside0.mk (Kd.R_elder' (rq HO274) (Kd.R_base ho0) hb); have n2_ := Aside0.mk (Kd.R_lower (Kd.R_new' (Kd.R_new' ho0 (Kd.R_lt (rq HO270))) (Kd.R_lt (rq HO274))) (below_size (hq HB))); have n3_ := Aside0.mk (below_step (hq HB) hb); clear HO270; clear HO274; clear HB; have HO270 := n0_; have HO274 := n1_; have HO278 := n2_; have HB := n3_; clear n0_ n1_ n2_ n3_; (try clear hb); (try clear hb2); (try clear hk); (try clear hi); (try clear ho0); obtain ⟨Ao30, co30, eo30⟩ := Kd.R_slice HO274.out; subst eo30; obtain ⟨Ao31, co31, eo31⟩ := Kd.R_slice HO278.out; subst eo31) | (go_at_call 26; (with_reducible refine (intervalmonref05_Same.calls k _ _ t271 _ _ t275 true _ ?side1 ?side2 ?side3 ?side4 A6.out).mono ?_); (case side1 => repeat (first | exact (Kd.R_reads' HO274.out).2.2 | (with_reducible refine Kd.C_alloc ?_ _) | (with_reducible refine Kd.C_drewN ?_ _) | (with_reducible refine Kd.C_drew ?_))); (case side2 => exact (Kd.R_reads' HO274.out).2.1); (case side3 => repeat (first | exact (Kd.R_reads' HO278.out).2.2 | (with_reducible refine Kd.C_alloc ?_ _) | (with_reducible refine Kd.C_drewN ?_ _) | (with_reducible refine Kd.C_drew ?_))); (case side4 => exact (Kd.R_reads' HO278.out).2.1); rintro e w' ⟨rfl, ⟨nd, rfl⟩⟩) | (go_at_call 27; (with_reducible refine (labels_Valid.calls k _ _ t268 t280 _ ?side1 ?side2 A8.out).mono ?_); (case side1 => repeat (first | exact (Kd.R_reads' HO270.out).2.2 | (with_reducible refine Kd.C_alloc ?_ _) | (with_reducible refine Kd.C_drewN ?_ _) | (with_reducible refine Kd.C_drew ?_))); (case side2 => exact (Kd.R_reads' HO270.out).2.1); rintro e w32 ⟨rfl, hb⟩; have n0_ := Aside0.mk (Kd.R_below (rq HO270) hb); have n1_ := Aside0.mk (Kd.R_below (rq HO274) hb); have n2_ := Aside0.mk (Kd.R_below (rq HO278) hb); have n3_ := Aside0.mk (below_step (hq HB) hb); clear HO270; clear HO274; clear HO278; clear HB; have HO270 := n0_; have HO274 := n1_; have HO278 := n2_; have HB := n3_; clear n0_ n1_ n2_ n3_; (try clear hb); (try clear hb2); (try clear hk); (try clear hi)) | (go_at_call 28; (with_reducible refine (intervalmonref05_Valid.calls k _ _ t268 t281 _ ?side1 ?side2 A9.out).mono ?_); (case side1 => repeat (first | exact (Kd.R_reads' HO270.out).2.2 | (with_reducible refine Kd.C_alloc ?_ _) | (with_reducible refine Kd.C_drewN ?_ _) | (with_reducible refine Kd.C_drew ?_))); (case side2 => exact (Kd.R_reads' HO270.out).2.1); rintro e w33 ⟨rfl, hb⟩; have n0_ := Aside0.mk (Kd.R_below (rq HO270) hb); have n1_ := Aside0.mk (Kd.R_below (rq HO274) hb); have n2_ := Aside0.mk (Kd.R_below (rq HO278) hb); have n3_ := Aside0.mk (below_step (hq HB) hb); clear HO270; clear HO274; clear HO278; clear HB; have HO270 := n0_; have HO274 := n1_; have HO278 := n2_; have HB := n3_; clear n0_ n1_ n2_ n3_; (try clear hb); (try clear hb2); (try clear hk); (try clear hi)) | (go_at_call 18; (with_reducible refine (intervalmonlaw05_lives.calls  t284 _ A25.out).mono ?_); rintro e w34 ⟨rfl, hb⟩; have n0_ := Aside0.mk (Kd.R_below (rq HO270) hb); have n1_ := Aside0.mk (Kd.R_below (rq HO274) hb); have n2_ := Aside0.mk (Kd.R_below (rq HO278) hb); have n3_ := Aside0.mk (below_step (hq HB) hb); clear HO270; clear HO274; clear HO278; clear HB; have HO270 := n0_; have HO274 := n1_; have HO278 := n2_; have HB := n3_; clear n0_ n1_ n2_ n3_; (try clear hb); (try clear hb2); (try clear hk); (try clear hi)))
     go_ret
     exact ⟨by first | rfl | (simp [errW_none, errW_some] <;> rfl) | (simp [*, errW_none, errW_some] <;> rfl), by repeat (first | (with_reducible first | exact HB.out | apply below_alloc | apply pw_below_drewN | apply below_drew1) | exact HB.out)⟩
   ·rw [if_neg c10] at H
    have c10b0 : (t280 == t281) = false := by simpa using c10
    (try (have c10b1 : decide (t280 = t281) = false := by simpa using c10))
    (try (have c10b2 : (t280 == t281) = false := by simpa using c10))
    (try (have c10b3 : ¬ (t280 = t281) := by simpa using c10))
    clear c10
    exact absurd ((Option.some.inj H).trans HT0.out) (by decide)
  ·replace c7 := Bool.eq_false_iff.mpr c7
   subst c7
   have H1 : (some false) = some r := by rw [if_neg (show ¬ (false = true) by decide)] at H; exact H
   clear H
   have H := H1
   clear H1
   exact absurd ((Option.some.inj H).trans HT0.out) (by decide)
 ·rw [if_neg c5] at H
  have c5b0 : (t272 == t276) = false := beq_eq_false_iff_ne.mpr c5
  have c5b1 : (t272 != t276) = true := bne_iff_ne.mpr c5
  exact absurd ((Option.some.inj H).trans HT0.out) (by decide)

/-- THE ONE PURE STATEMENT of intervalmonlaw05_LabelsNew: yours. -/
def intervalmonlaw05_LabelsNew.Pure : Prop := ∀ (l0 : List Int), l0.length ≤ maxLen → l0.length * 8 ≤ 140737488351232 → (∀ x ∈ l0, (Lit.int .i64 x).wf = true) → ∃ k, intervalmonlaw05_LabelsNew.f k l0 = some true
theorem intervalmonlaw05_LabelsNew.walk (P : intervalmonlaw05_LabelsNew.Pure) (a0 : Option Addr) (len0 cap0 : Nat) (z0 : List Int) (w : World) (w0 : (a0 = none ∧ len0 = 0 ∧ cap0 = 0 ∧ z0 = []) ∨ ∃ x, a0 = some x ∧ len0 ≤ cap0 ∧ cap0 ≤ maxLen ∧ z0.length = cap0 ∧ (∀ i, i < z0.length → w.cell? (x.add i) = some (.int .i64 (z0.getD i 0))) ∧ ∀ n ∈ z0, (Lit.int .i64 n).wf = true) (y0 : len0 * 8 ≤ 140737488351232) :
  Calls Try.prog 5 #[.slice a0 len0 cap0] w fun e w' => e = .returned (.bool true) ∧ Below w.heap.size w w' := by
 obtain ⟨l0, rfl, hr0, hm0, hw0, hc0⟩ := ReadsInt.ofRowC w0
 obtain ⟨k, h⟩ := P l0 hm0 y0 hw0
 refine (intervalmonlaw05_LabelsNew.calls k _ _ l0 true w (Kd.C_of_reads (d := (0 : Int)) (h1 := fun _ => rfl) hr0) hc0 h).mono ?_
 rintro e w' ⟨rfl, hd⟩
 exact ⟨rfl, hd⟩

/-! ### intervalmonref05_Set: function 29 -/
def intervalmonref05_Set.l0 : Nat → List Int → List ByteArray → List ByteArray → Int → List (S33) → Int → Option ((List (S33)))
 | 0, _, _, _, _, _, _ => none
 | k + 1, x0, x3, x4, x5, x6, x7 => if x7 < (x3.length : Int) then (if (Int.tmod x5 2) = 1 then (if 0 ≤ x7 then ((intervalmonref01_Pick.f x0 (wrap64 (x7 + 1)) 6).bind fun t293 => (if 0 ≤ t293 then (if t293 < (x4.length : Int) then (if x6.length < 4398046511104 then (intervalmonref05_Set.l0 k x0 x3 x4 (wrap64 (Int.tdiv x5 2)) (x6 ++ [(⟨rdOf ByteArray.empty x3 x7, rdOf ByteArray.empty x4 t293⟩ : S33)]) (wrap64 (x7 + 1))) else (none)) else (none)) else (none))) else (none)) else (intervalmonref05_Set.l0 k x0 x3 x4 (wrap64 (Int.tdiv x5 2)) x6 (wrap64 (x7 + 1)))) else (some x6)
def intervalmonref05_Set.f (k : Nat) (l0 : List Int) : Option ((List (S33))) := (intervalmonref05_Names.f).bind fun t285 => ((intervalmonref05_values.f).bind fun t288 => ((intervalmonref01_Pick.f l0 0 64).bind fun t291 => (intervalmonref05_Set.l0 k l0 t285 t288 t291 ([] : List (S33)) 0)))
theorem intervalmonref05_Set.mono_l : ∀ k, (∀ y0 y1 y2 y3 y4 y5, LeO (intervalmonref05_Set.l0 k y0 y1 y2 y3 y4 y5) (intervalmonref05_Set.l0 (k + 1) y0 y1 y2 y3 y4 y5))
 | 0 => fun _ _ _ _ _ _ r h => by simp [intervalmonref05_Set.l0] at h
 | k + 1 => by
  have ih0 := intervalmonref05_Set.mono_l k
  ·intro y0 y1 y2 y3 y4 y5
   unfold intervalmonref05_Set.l0
   repeat' first
   | (with_reducible exact ih0 _ _ _ _ _ _)
   | (with_reducible exact LeO.refl _)
   | (with_reducible exact LeO.none _)
   | (with_reducible refine LeO.ite ?_ ?_)
   | (with_reducible refine LeO.bind ?_ (fun _ => ?_))
   | exact ih0 _ _ _ _ _ _
   | exact LeO.none _
   | refine LeO.ite ?_ ?_
   | refine LeO.bind ?_ (fun _ => ?_)
theorem intervalmonref05_Set.mono : ∀ a0 k, LeO (intervalmonref05_Set.f k a0) (intervalmonref05_Set.f (k + 1) a0) := by
 intro a0 k
 have ih0 := intervalmonref05_Set.mono_l k
 unfold intervalmonref05_Set.f
 repeat' first
   | (with_reducible exact ih0 _ _ _ _ _ _)
   | (with_reducible exact LeO.refl _)
   | (with_reducible exact LeO.none _)
   | (with_reducible refine LeO.ite ?_ ?_)
   | (with_reducible refine LeO.bind ?_ (fun _ => ?_))
   | exact ih0 _ _ _ _ _ _
   | exact LeO.none _
   | refine LeO.ite ?_ ?_
   | refine LeO.bind ?_ (fun _ => ?_)
def intervalmonref05_Set.T9 : Bool × List (List Nat × List Nat) := (true, [([], []), ([], []), ([], []), ([1, 2], [1, 2]), ([3], [3]), ([], []), ([], []), ([], []), ([7], [7]), ([6, 8], [6, 8]), ([5, 9], [5, 9]), ([10], [10]), ([4, 11], [4, 11]), ([12], [12]), ([0, 13, 9], [0, 13]), ([14, 14, 0, 1, 2, 3, 4, 5, 6, 7, 8, 9, 10, 11, 12, 13, 14], [0, 14])])
def intervalmonref05_Set.B9 : List Nat := [0, 0, 0, 6, 14, 0, 0, 0, 128, 448, 992, 2016, 4094, 8190, 16383, 32767]
theorem intervalmonref05_Set.tab9 : rtab .any (opsOf Try.f29 9) = intervalmonref05_Set.T9 := by kernel_rfl
theorem intervalmonref05_Set.bits9 : waitsOk intervalmonref05_Set.T9.2 intervalmonref05_Set.B9 = true := by kernel_rfl
set_option maxHeartbeats 8000000 in
set_option maxRecDepth 100000 in
theorem intervalmonref05_Set.calls (k : Nat) (A0 : Option Addr) (c0 : Nat) (l0 : List Int) (r : List (S33)) (w : World) (hr0 : Kd.C (Kd.int .i64) w A0 l0.length l0) (hc0 : l0.length ≤ c0) (h : intervalmonref05_Set.f k l0 = some r) :
  Calls Try.prog 29 #[.slice A0 l0.length c0] w fun e w' => ∃ v0_ : Value, e = .returned (v0_) ∧ Kd.R k33 33 w' w.heap.size (fun _ => True) v0_ r ∧ Below w.heap.size w w' := by
 have hu33 := Try.underlying33
 have HR0 := Aside0.mk hr0
 have HC0 := Aside0.mk hc0
 clear hr0 hc0
 have HB := Aside0.mk (Below.refl w.heap.size w)
 have H : ((intervalmonref05_Names.f).bind fun t285 => ((intervalmonref05_values.f).bind fun t288 => ((intervalmonref01_Pick.f l0 0 64).bind fun t291 => (intervalmonref05_Set.l0 k l0 t285 t288 t291 ([] : List (S33)) 0)))) = some r := h
 clear h
 replace H := Option.bind_eq_some_iff.mp H
 obtain ⟨t285, A20, H⟩ := H
 replace H : ((intervalmonref05_values.f).bind fun t288 => ((intervalmonref01_Pick.f l0 0 64).bind fun t291 => (intervalmonref05_Set.l0 k l0 t285 t288 t291 ([] : List (S33)) 0))) = some r := H
 have A2 := Aside0.mk A20
 clear A20
 replace H := Option.bind_eq_some_iff.mp H
 obtain ⟨t288, A30, H⟩ := H
 replace H : ((intervalmonref01_Pick.f l0 0 64).bind fun t291 => (intervalmonref05_Set.l0 k l0 t285 t288 t291 ([] : List (S33)) 0)) = some r := H
 have A3 := Aside0.mk A30
 clear A30
 replace H := Option.bind_eq_some_iff.mp H
 obtain ⟨t291, A40, H⟩ := H
 replace H : (intervalmonref05_Set.l0 k l0 t285 t288 t291 ([] : List (S33)) 0) = some r := H
 have A4 := Aside0.mk A40
 clear A40
 have H' := Aside0.mk H
 clear H
 go_enter Try.func29, Try.ntmps29
 go_wp2_with (first | ((with_reducible refine gate_callee (f := 32) rfl ?_); refine goesL_ (some 8) rfl rfl Try.func32 (by kernel_rfl) rfl #[] rfl aq ?_; (with_reducible refine (intervalmonref05_Names.calls  t285 _ A2.out).mono ?_); rintro e w5 ⟨v286, rfl, ho0, hb⟩; refine ⟨_, rfl, ?_⟩; have n0_ := Aside0.mk (Kd.R_lower ho0 (below_size (hq HB))); have n1_ := Aside0.mk (below_step (hq HB) hb); clear HB; have HO287 := n0_; have HB := n1_; clear n0_ n1_; (try clear hb); (try clear hb2); (try clear hk); (try clear hi); (try clear ho0)) | ((with_reducible refine gate_callee (f := 40) rfl ?_); refine goesL_ (some 9) rfl rfl Try.func40 (by kernel_rfl) rfl #[] rfl aq ?_; (with_reducible refine (intervalmonref05_values.calls  t288 _ A3.out).mono ?_); rintro e w6 ⟨v289, rfl, ho0, hb⟩; refine ⟨_, rfl, ?_⟩; have n0_ := Aside0.mk (Kd.R_elder' (rq HO287) (Kd.R_base ho0) hb); have n1_ := Aside0.mk (Kd.R_lower (Kd.R_new' ho0 (Kd.R_lt (rq HO287))) (below_size (hq HB))); have n2_ := Aside0.mk (below_step (hq HB) hb); clear HO287; clear HB; have HO287 := n0_; have HO290 := n1_; have HB := n2_; clear n0_ n1_ n2_; (try clear hb); (try clear hb2); (try clear hk); (try clear hi); (try clear ho0)) | ((with_reducible refine gate_callee (f := 41) rfl ?_); refine goesL_ (some 11) rfl rfl Try.func41 (by kernel_rfl) rfl #[.slice A0 l0.length c0, .int .i64 0, .int .i64 64] rfl aq ?_; (with_reducible refine (intervalmonref01_Pick.calls _ _ l0 0 64 t291 _ ?side1 ?side2 A4.out).mono ?_); (case side1 => repeat (first | exact (Kd.C_below HR0.out HB.out) | (with_reducible refine Kd.C_alloc ?_ _) | (with_reducible refine Kd.C_drewN ?_ _) | (with_reducible refine Kd.C_drew ?_))); (case side2 => exact HC0.out); rintro e w' ⟨rfl, ⟨nd, rfl⟩⟩; refine ⟨_, rfl, ?_⟩))
 go_loopg [5, 6, 7] k (fun kq v5 v6 v7 w' => ∃ (x5_1 : Int) (x6_1 : List (S33)) (x7_1 : Int), v5 = .int .i64 x5_1 ∧ v7 = .int .i64 x7_1 ∧ Aside0 (intervalmonref05_Set.l0 kq l0 t285 t288 x5_1 x6_1 x7_1 = some r) ∧ Aside0 (kq ≤ k) ∧ Aside0 (Kd.R Kd.string 9 w' w.heap.size (fun k_ => some k_ ≠ (v289 : Value).ownBlock) v286 t285) ∧ Aside0 (Kd.R Kd.string 9 w' w.heap.size (fun k_ => some k_ ≠ (v286 : Value).ownBlock) v289 t288) ∧ Aside0 (Kd.R k33 33 w' w.heap.size (fun _ => True) v6 x6_1) ∧ Aside0 (Below w.heap.size w w'))
 case atStart => exact ⟨(t291), (([] : List (S33))), (0), (by first | rfl | (simp; done) | (simp [*]; done)), (by first | rfl | (simp; done) | (simp [*]; done)), H', ⟨Nat.le_refl _⟩, ⟨by (with_reducible repeat (first | apply Kd.R_alloc | apply Kd.R_drewN | apply Kd.R_drew)); exact Kd.R_mono HO287.out (fun _ hk => hk.2)⟩, ⟨by (with_reducible repeat (first | apply Kd.R_alloc | apply Kd.R_drewN | apply Kd.R_drew)); exact Kd.R_mono HO290.out (fun _ hk => hk.2)⟩, ⟨by first | exact Kd.R_nil _ _ _ _ _ | exact Kd.N_nil _ _ _ _ _ | exact Kd.V_nil _ _ _ _ _ | exact Kd.Q_nil _ _ _ _ _ | exact Kd.S_nil _ _ _ _ _⟩, ⟨by repeat (first | (with_reducible first | exact HB.out | apply below_alloc | apply pw_below_drewN | apply below_drew1) | exact HB.out)⟩⟩
 case round =>
  clear H'
  try clear c2
  try clear p2
  try clear c3
  try clear c4
  obtain ⟨x5_1, x6_1, x7_1, rfl, rfl, HA, HK1, HO_3, HO_4, HO_6, HB⟩ := hrel
  cases gk with
  | zero => exact absurd HA.out (by simp [intervalmonref05_Set.l0])
  | succ k1 =>
   have H := HA.out
   clear HA
   simp only [intervalmonref05_Set.l0] at H
   by_cases c7 : x7_1 < (t285.length : Int)
   ·rw [if_pos c7] at H
    have c7b0 : decide (x7_1 < (t285.length : Int)) = true := decide_eq_true c7
    clear c7
    by_cases c8 : (Int.tmod x5_1 2) = 1
    ·rw [if_pos c8] at H
     have c8b0 : ((Int.tmod x5_1 2) == 1) = true := beq_iff_eq.mpr c8
     have c8b1 : ((Int.tmod x5_1 2) != 1) = false := bne_eq_false_iff_eq.mpr c8
     clear c8
     by_cases c9 : 0 ≤ x7_1
     ·rw [if_pos c9] at H
      have c9b0 : decide (0 ≤ x7_1) = true := decide_eq_true c9
      clear c9
      replace H := Option.bind_eq_some_iff.mp H
      obtain ⟨t293, A100, H⟩ := H
      replace H : (if 0 ≤ t293 then (if t293 < (t288.length : Int) then (if x6_1.length < 4398046511104 then (intervalmonref05_Set.l0 k1 l0 t285 t288 (wrap64 (Int.tdiv x5_1 2)) (x6_1 ++ [(⟨rdOf ByteArray.empty t285 x7_1, rdOf ByteArray.empty t288 t293⟩ : S33)]) (wrap64 (x7_1 + 1))) else (none)) else (none)) else (none)) = some r := H
      have A10 := Aside0.mk A100
      clear A100
      by_cases c11 : 0 ≤ t293
      ·rw [if_pos c11] at H
       have c11b0 : decide (0 ≤ t293) = true := decide_eq_true c11
       clear c11
       by_cases c12 : t293 < (t288.length : Int)
       ·rw [if_pos c12] at H
        have c12b0 : decide (t293 < (t288.length : Int)) = true := decide_eq_true c12
        clear c12
        by_cases c13 : x6_1.length < 4398046511104
        ·rw [if_pos c13] at H
         have LMc13 := Aside0.mk c13
         clear c13
         obtain ⟨y295, hy295⟩ : ∃ y_ : List (S33), y_ = (x6_1 ++ [(⟨rdOf ByteArray.empty t285 x7_1, rdOf ByteArray.empty t288 t293⟩ : S33)]) := ⟨_, rfl⟩
         replace H : (intervalmonref05_Set.l0 k1 l0 t285 t288 (wrap64 (Int.tdiv x5_1 2)) y295 (wrap64 (x7_1 + 1))) = some r := by first | (rw [hy295]; with_reducible exact H) | (have H2_ := (Option.bind_some _ _).symm.trans H; rw [hy295]; with_reducible exact H2_) | (have H2_ := (Option.bind_some _ _).symm.trans H; with_reducible exact H2_) | with_reducible exact H | (rw [hy295]; exact H) | exact H
         have Ny295 := Aside0.mk hy295
         clear hy295
         have H' := Aside0.mk H
         clear H
         obtain ⟨Ao14, co14, eo14⟩ := Kd.R_slice HO_3.out
         subst eo14
         try go_wp2
         have n0_ := Aside0.mk (Kd.R_drew HO_3.out)
         have n1_ := Aside0.mk (Kd.R_drew HO_4.out)
         have n2_ := Aside0.mk (Kd.R_drew HO_6.out)
         have n3_ := Aside0.mk (below_drew1 HB.out)
         clear HO_3
         clear HO_4
         clear HO_6
         clear HB
         have HO_3 := n0_
         have HO_4 := n1_
         have HO_6 := n2_
         have HB := n3_
         clear n0_ n1_ n2_ n3_
         have p292 : 0 ≤ (x7_1 : Int) := of_decide_eq_true (by first | (with_reducible assumption) | assumption)
         have q292 : x7_1 < (t285.length : Int) := of_decide_eq_true (by first | (with_reducible assumption) | assumption)
         try (obtain ⟨Az292_, cz292_, ez292_⟩ := Kd.R_slice HO_3.out; subst ez292_)
         obtain ⟨ad292, e292, hx292_0⟩ := Kd.at_string (Kd.R_reads' HO_3.out).2.2 x7_1 p292 q292
         cases e292
         replace p292 := eq_true p292
         replace q292 := eq_true q292
         have p294 : 0 ≤ (t293 : Int) := of_decide_eq_true (by first | (with_reducible assumption) | assumption)
         have q294 : t293 < (t288.length : Int) := of_decide_eq_true (by first | (with_reducible assumption) | assumption)
         try (obtain ⟨Az294_, cz294_, ez294_⟩ := Kd.R_slice HO_4.out; subst ez294_)
         obtain ⟨ad294, e294, hx294_0⟩ := Kd.at_string (Kd.R_reads' HO_4.out).2.2 t293 p294 q294
         cases e294
         replace p294 := eq_true p294
         replace q294 := eq_true q294
         refine start_ (n := 16) (S := fun w' => w'.cell? (ad292.add (x7_1).toNat) = some (.string (rdOf ByteArray.empty t285 x7_1)) ∧ w'.cell? (ad294.add (t293).toNat) = some (.string (rdOf ByteArray.empty t288 t293))) (ds := [13, 14]) #[false, false, false, false, false, false, false, false, false, false, false, false, false, false, false, false] (by kernel_rfl) rfl rfl ⟨hx292_0, hx294_0⟩ (fun hHeld => ?_); refine with_tabW intervalmonref05_Set.tab9 intervalmonref05_Set.bits9 (fun HT_ HW_ => ?_)
         generalize wr.drew = w15 at HO_3 HO_4 HO_6 HB hx292_0 hx294_0 hHeld ⊢
         refine pure_ (i := 0) (N := some 21) (v := ?_) (a' := ?_) #[true, false, false, false, false, false, false, false, false, false, false, false, false, false, false, false] rfl rfl (any_of HT_.out (by kernel_rfl)) (fun _ _ _ h => h) (Or.inl ⟨by rfl, ?_⟩) ?_ ?_
         rotate_left
         ·intro w'
          go_simp
          with_reducible rfl
         rotate_left
         ·simp only [Act.put, List.setIfInBounds_toArray, List.set_cons_zero, List.set_cons_succ, i64_w, i32_w]
          rfl
         refine pure_ (i := 1) (N := some 22) (v := ?_) (a' := ?_) #[true, true, false, false, false, false, false, false, false, false, false, false, false, false, false, false] rfl rfl (any_of HT_.out (by kernel_rfl)) (fun _ _ _ h => h) (Or.inl ⟨by rfl, ?_⟩) ?_ ?_
         rotate_left
         ·intro w'
          go_simp
          with_reducible rfl
         rotate_left
         ·simp only [Act.put, List.setIfInBounds_toArray, List.set_cons_zero, List.set_cons_succ, i64_w, i32_w]
          rfl
         refine pure_ (i := 2) (N := some 23) (v := ?_) (a' := ?_) #[true, true, true, false, false, false, false, false, false, false, false, false, false, false, false, false] rfl rfl (any_of HT_.out (by kernel_rfl)) (fun _ _ _ h => h) (Or.inl ⟨by rfl, ?_⟩) ?_ ?_
         rotate_left
         ·intro w'
          go_simp
          with_reducible rfl
         rotate_left
         ·simp only [Act.put, List.setIfInBounds_toArray, List.set_cons_zero, List.set_cons_succ, i64_w, i32_w]
          rfl
         refine pure_ (i := 3) (N := some 24) (v := ?_) (a' := ?_) #[true, true, true, true, false, false, false, false, false, false, false, false, false, false, false, false] rfl rfl (any_of HT_.out (by kernel_rfl)) (fun _ _ _ h => h) (Or.inl ⟨by rfl, ?_⟩) ?_ ?_
         rotate_left
         ·intro w'
          go_simp
          with_reducible rfl
         rotate_left
         ·simp only [Act.put, List.setIfInBounds_toArray, List.set_cons_zero, List.set_cons_succ, i64_w, i32_w]
          rfl
         refine pure_ (i := 5) (N := some 26) (v := ?_) (a' := ?_) #[true, true, true, true, false, true, false, false, false, false, false, false, false, false, false, false] rfl rfl (any_of HT_.out (by kernel_rfl)) (fun _ _ _ h => h) (Or.inl ⟨by rfl, ?_⟩) ?_ ?_
         rotate_left
         ·intro w'
          go_simp
          with_reducible rfl
         rotate_left
         ·simp only [Act.put, List.setIfInBounds_toArray, List.set_cons_zero, List.set_cons_succ, i64_w, i32_w]
          rfl
         refine pure_ (i := 6) (N := some 27) (v := ?_) (a' := ?_) #[true, true, true, true, false, true, true, false, false, false, false, false, false, false, false, false] rfl rfl (any_of HT_.out (by kernel_rfl)) (fun _ _ _ h => h) (Or.inl ⟨by rfl, ?_⟩) ?_ ?_
         rotate_left
         ·intro w'
          go_simp
          with_reducible rfl
         rotate_left
         ·simp only [Act.put, List.setIfInBounds_toArray, List.set_cons_zero, List.set_cons_succ, i64_w, i32_w]
          rfl
         refine pure_ (i := 7) (N := some 28) (v := ?_) (a' := ?_) #[true, true, true, true, false, true, true, true, false, false, false, false, false, false, false, false] rfl rfl (any_of HT_.out (by kernel_rfl)) (fun _ _ _ h => h) (Or.inl ⟨by rfl, ?_⟩) ?_ ?_
         rotate_left
         ·intro w'
          go_simp
          with_reducible rfl
         rotate_left
         ·simp only [Act.put, List.setIfInBounds_toArray, List.set_cons_zero, List.set_cons_succ, i64_w, i32_w]
          rfl
         refine pure_ (i := 8) (N := some 29) (v := ?_) (a' := ?_) #[true, true, true, true, false, true, true, true, true, false, false, false, false, false, false, false] rfl rfl (any_of HT_.out (by kernel_rfl)) (fun _ _ _ h => h) (Or.inl ⟨by rfl, ?_⟩) ?_ ?_
         rotate_left
         ·intro w'
          go_simp
          with_reducible rfl
         rotate_left
         ·simp only [Act.put, List.setIfInBounds_toArray, List.set_cons_zero, List.set_cons_succ, i64_w, i32_w]
          rfl
         refine take_ (i := 4) (N := some 25) (v := ?_) (a' := ?_) #[true, true, true, true, true, true, true, true, true, false, false, false, false, false, false, false] rfl rfl (take_ofW HT_.out HW_.out (by kernel_rfl)) (fun _ _ _ h => h) (Or.inl ⟨by rfl, ?_⟩) hHeld ?_ ?_
         rotate_left
         ·rintro w' ⟨s0, s1⟩
          go_simp
          with_reducible rfl
         rotate_left
         ·simp only [Act.put, List.setIfInBounds_toArray, List.set_cons_zero, List.set_cons_succ, i64_w, i32_w]
          rfl
         refine one_ (i := 9) (N := some 30) #[true, true, true, true, true, true, true, true, true, true, false, false, false, false, false, false] rfl rfl (one_of HT_.out (by kernel_rfl)) (by decide) (fun K hK => ?_)
         refine goes_ Try.func41 (by kernel_rfl) rfl #[.slice A0 l0.length c0, .int .i64 (wrap64 (x7_1 + 1)), .int .i64 6] (by rfl) rfl rfl aq ?_
         with_reducible refine (intervalmonref01_Pick.calls _ _ l0 (wrap64 (x7_1 + 1)) 6 t293 _ ?side1 ?side2 A10.out).mono ?_
         (case side1 => repeat (first | exact (Kd.C_below HR0.out HB.out) | (with_reducible refine Kd.C_alloc ?_ _) | (with_reducible refine Kd.C_drewN ?_ _) | (with_reducible refine Kd.C_drew ?_)))
         (case side2 => exact HC0.out)
         rintro e w' ⟨rfl, ⟨nd, rfl⟩⟩
         refine ⟨_, rfl, ?_⟩
         obtain ⟨Ao16, co16, eo16⟩ := Kd.R_slice HO_4.out
         (first | subst eo16 | (injection eo16 with f1_ f2_ f3_; have f4_ := f1_.symm; have f5_ := f3_.symm; clear f1_ f2_ f3_; subst f4_; subst f5_))
         refine hK.out _ _ ⟨hHeld.1, hHeld.2⟩ (fun hHeld => ?_)
         clear hK K
         refine norm_ (a' := ?_) ?_ ?_
         rotate_left
         ·show Act.put _ (some 30) _ = _
          simp only [Act.put, List.setIfInBounds_toArray, List.set_cons_zero, List.set_cons_succ, i64_w, i32_w]
          rfl
         refine pure_ (i := 10) (N := some 31) (v := ?_) (a' := ?_) #[true, true, true, true, true, true, true, true, true, true, true, false, false, false, false, false] rfl rfl (any_of HT_.out (by kernel_rfl)) (fun _ _ _ h => h) (Or.inl ⟨by rfl, ?_⟩) ?_ ?_
         rotate_left
         ·intro w'
          go_simp
          with_reducible rfl
         rotate_left
         ·simp only [Act.put, List.setIfInBounds_toArray, List.set_cons_zero, List.set_cons_succ, i64_w, i32_w]
          rfl
         refine take_ (i := 11) (N := some 32) (v := ?_) (a' := ?_) #[true, true, true, true, true, true, true, true, true, true, true, true, false, false, false, false] rfl rfl (take_ofW HT_.out HW_.out (by kernel_rfl)) (fun _ _ _ h => h) (Or.inl ⟨by rfl, ?_⟩) hHeld ?_ ?_
         rotate_left
         ·rintro w' ⟨s0, s1⟩
          go_simp
          with_reducible rfl
         rotate_left
         ·simp only [Act.put, List.setIfInBounds_toArray, List.set_cons_zero, List.set_cons_succ, i64_w, i32_w]
          rfl
         refine pure_ (i := 12) (N := some 33) (v := ?_) (a' := ?_) #[true, true, true, true, true, true, true, true, true, true, true, true, true, false, false, false] rfl rfl (any_of HT_.out (by kernel_rfl)) (fun _ _ _ h => h) (Or.inl ⟨by rfl, ?_⟩) ?_ ?_
         rotate_left
         ·intro w'
          go_simp
          with_reducible rfl
         rotate_left
         ·simp only [Act.put, List.setIfInBounds_toArray, List.set_cons_zero, List.set_cons_succ, i64_w, i32_w]
          rfl
         refine last_ (i := 13) (N := some 34) #[true, true, true, true, true, true, true, true, true, true, true, true, true, true, false, false] rfl rfl (one_of HT_.out (by kernel_rfl)) (by decide) (fun K hK => ?_)
         refine value_ (w1 := ?_) (v := ?_) (by rfl) rfl ?_ ?_
         rotate_left 2
         ·go_simp
          constructor
          ·rfl
          ·rfl
         refine hK.out _ _ ?_
         clear hK K
         refine norm_ (a' := ?_) ?_ ?_
         rotate_left
         ·show Act.put _ (some 34) _ = _
          simp only [Act.put, List.setIfInBounds_toArray, List.set_cons_zero, List.set_cons_succ, i64_w, i32_w]
          rfl
         refine last_ (i := 14) (N := some 35) #[true, true, true, true, true, true, true, true, true, true, true, true, true, true, true, false] rfl rfl (one_of HT_.out (by kernel_rfl)) (by decide) (fun K hK => ?_)
         refine Kd.R_append_step k33 (w0 := w) w.heap.size (by rfl) (.tmp 21) (.tmp 34) 30 33 (.agg #[(.string ⟨#[]⟩), (.string ⟨#[]⟩)]) 32 rfl Try.underlying30 info33 rfl (by decide) (by omega) u6 x6_1 (⟨rdOf ByteArray.empty t285 x7_1, rdOf ByteArray.empty t288 t293⟩ : S33) [.string (rdOf ByteArray.empty t285 x7_1), .string (rdOf ByteArray.empty t288 t293)] (fun _ => True) (fun _ => False) rfl rfl ?aP (fun _ hk => hk.elim) ?aF ?aO ?aB ?aS ?aL ?_
         (case aP => exact k33_mkM _ _ _ (⟨rdOf ByteArray.empty t285 x7_1, rdOf ByteArray.empty t288 t293⟩ : S33))
         (case aB => exact (hq HB))
         (case aF => exact (fun _ _ => trivial))
         (case aO => exact (rq HO_6))
         (case aS => exact (below_size (hq HB)))
         (case aL => have := LMc13.out; omega)
         intro v296 w17 ho hb hg hat
         rw [← Ny295.out] at ho
         have n0_ := Aside0.mk (Kd.R_over' (rq HO_3) (Kd.R_typed (rq HO_6)) (by decide) hg)
         have n1_ := Aside0.mk (Kd.R_over' (rq HO_4) (Kd.R_typed (rq HO_6)) (by decide) hg)
         have n2_ := Aside0.mk (hb)
         have n3_ := Aside0.mk (ho)
         clear HO_3
         clear HO_4
         clear HB
         clear HO_6
         have HO_3 := n0_
         have HO_4 := n1_
         have HB := n2_
         have HO297 := n3_
         clear n0_ n1_ n2_ n3_
         clear ho hb hg hat
         refine hK.out _ _ ?_
         clear hK K
         refine norm_ (a' := ?_) ?_ ?_
         rotate_left
         ·show Act.put _ (some 35) _ = _
          simp only [Act.put, List.setIfInBounds_toArray, List.set_cons_zero, List.set_cons_succ, i64_w, i32_w]
          rfl
         refine pure_ (i := 15) (N := some 6) (v := ?_) (a' := ?_) #[true, true, true, true, true, true, true, true, true, true, true, true, true, true, true, true] rfl rfl (any_of HT_.out (by kernel_rfl)) (fun _ _ _ h => h) (Or.inl ⟨by rfl, ?_⟩) ?_ ?_
         rotate_left
         ·intro w'
          go_simp
          with_reducible rfl
         rotate_left
         ·simp only [Act.put, List.setIfInBounds_toArray, List.set_cons_zero, List.set_cons_succ, i64_w, i32_w]
          rfl
         refine done_ (done_of HT_.out (by kernel_rfl)) ?_
         try go_wp2
         go_roundg k1
         case measure => have := HK1.out; omega
         case rel => exact ⟨(wrap64 (Int.tdiv x5_1 2)), (y295), (wrap64 (x7_1 + 1)), (by first | rfl | (simp; done) | (simp [*]; done)), (by first | rfl | (simp; done) | (simp [*]; done)), H', ⟨by have := HK1.out; omega⟩, ⟨by (with_reducible repeat (first | apply Kd.R_alloc | apply Kd.R_drewN | apply Kd.R_drew)); exact HO_3.out⟩, ⟨by (with_reducible repeat (first | apply Kd.R_alloc | apply Kd.R_drewN | apply Kd.R_drew)); exact HO_4.out⟩, ⟨by (with_reducible repeat (first | apply Kd.R_alloc | apply Kd.R_drewN | apply Kd.R_drew)); exact HO297.out⟩, ⟨by repeat (first | (with_reducible first | exact HB.out | apply below_alloc | apply pw_below_drewN | apply below_drew1) | exact HB.out)⟩⟩
        ·rw [if_neg c13] at H
         exact absurd H (by simp)
       ·rw [if_neg c12] at H
        exact absurd H (by simp)
      ·rw [if_neg c11] at H
       exact absurd H (by simp)
     ·rw [if_neg c9] at H
      exact absurd H (by simp)
    ·rw [if_neg c8] at H
     have c8b0 : ((Int.tmod x5_1 2) == 1) = false := beq_eq_false_iff_ne.mpr c8
     have c8b1 : ((Int.tmod x5_1 2) != 1) = true := bne_iff_ne.mpr c8
     have H' := Aside0.mk H
     clear H
     obtain ⟨Ao18, co18, eo18⟩ := Kd.R_slice HO_3.out
     subst eo18
     go_wp2
     go_roundg k1
     case measure => have := HK1.out; omega
     case rel => exact ⟨(wrap64 (Int.tdiv x5_1 2)), (x6_1), (wrap64 (x7_1 + 1)), (by first | rfl | (simp; done) | (simp [*]; done)), (by first | rfl | (simp; done) | (simp [*]; done)), H', ⟨by have := HK1.out; omega⟩, ⟨by (with_reducible repeat (first | apply Kd.R_alloc | apply Kd.R_drewN | apply Kd.R_drew)); exact HO_3.out⟩, ⟨by (with_reducible repeat (first | apply Kd.R_alloc | apply Kd.R_drewN | apply Kd.R_drew)); exact HO_4.out⟩, ⟨by (with_reducible repeat (first | apply Kd.R_alloc | apply Kd.R_drewN | apply Kd.R_drew)); exact HO_6.out⟩, ⟨by repeat (first | (with_reducible first | exact HB.out | apply below_alloc | apply pw_below_drewN | apply below_drew1) | exact HB.out)⟩⟩
   ·rw [if_neg c7] at H
    have c7b0 : decide (x7_1 < (t285.length : Int)) = false := decide_eq_false c7
    clear c7
    obtain rfl := Option.some.inj H
    obtain ⟨Ao19, co19, eo19⟩ := Kd.R_slice HO_3.out
    subst eo19
    go_wp2
    go_ret
    exact ⟨_, by first | rfl | (simp [errW_none, errW_some] <;> rfl) | (simp [*, errW_none, errW_some] <;> rfl), by (with_reducible repeat (first | apply Kd.R_alloc | apply Kd.R_drewN | apply Kd.R_drew)); exact HO_6.out, by repeat (first | (with_reducible first | exact HB.out | apply below_alloc | apply pw_below_drewN | apply below_drew1) | exact HB.out)⟩

/-! ### intervalmonref05_order: function 53 -/
def intervalmonref05_order.f (a0 : ByteArray) (a1 : ByteArray) : Option (Int) := if (Op.bytesLess a0.toList a1.toList) = true then (some (-1)) else (if (Op.bytesLess a1.toList a0.toList) = true then (some 1) else (some 0))
set_option maxHeartbeats 8000000 in
set_option maxRecDepth 100000 in
theorem intervalmonref05_order.calls (a0 : ByteArray) (a1 : ByteArray) (r : Int) (w : World) (h : intervalmonref05_order.f a0 a1 = some r) :
  Calls Try.prog 53 #[.string a0, .string a1] w fun e w' => e = .returned (.int .i64 r) ∧ Drawn0 w w' := by
 have H : (if (Op.bytesLess a0.toList a1.toList) = true then (some (-1)) else (if (Op.bytesLess a1.toList a0.toList) = true then (some 1) else (some 0))) = some r := h
 clear h
 by_cases c3 : (Op.bytesLess a0.toList a1.toList) = true
 ·rw [if_pos c3] at H
  have c3b0 : (Op.bytesLess a0.toList a1.toList) = true := c3
  clear c3
  obtain rfl := Option.some.inj H
  go_enter Try.func53, Try.ntmps53
  go_wp2
  go_ret
  exact ⟨by first | rfl | (simp; done) | (simp [*]; done), by repeat (first | exact Drawn0.refl _ | apply Drawn0.step)⟩
 ·rw [if_neg c3] at H
  have c3b0 : (Op.bytesLess a0.toList a1.toList) = false := by simpa using c3
  clear c3
  by_cases c4 : (Op.bytesLess a1.toList a0.toList) = true
  ·rw [if_pos c4] at H
   have c4b0 : (Op.bytesLess a1.toList a0.toList) = true := c4
   clear c4
   obtain rfl := Option.some.inj H
   go_enter Try.func53, Try.ntmps53
   go_wp2
   go_ret
   exact ⟨by first | rfl | (simp; done) | (simp [*]; done), by repeat (first | exact Drawn0.refl _ | apply Drawn0.step)⟩
  ·rw [if_neg c4] at H
   have c4b0 : (Op.bytesLess a1.toList a0.toList) = false := by simpa using c4
   clear c4
   obtain rfl := Option.some.inj H
   go_enter Try.func53, Try.ntmps53
   go_wp2
   go_ret
   exact ⟨by first | rfl | (simp; done) | (simp [*]; done), by repeat (first | exact Drawn0.refl _ | apply Drawn0.step)⟩

end Go.Proofs.Ytlohkfmobeapdaa.P
