-- Written by this session's own copy of a printing program (wip/tools); Lean checks it.
import Derived.Test.YtlohkfmobeapdaaPx0
import Derived.Test.YtlohkfmobeapdaaPx2
import Derived.Test.YtlohkfmobeapdaaPx3
import Derived.Test.YtlohkfmobeapdaaPx4
import Derived.Test.YtlohkfmobeapdaaPx7
import Derived.Test.YtlohkfmobeapdaaPx8
import Derived.Test.YtlohkfmobeapdaaPx10
namespace Go.Proofs.Ytlohkfmobeapdaa.P
open Go.RowKit Go.Proofs.YtlohkfmobeapdaaW.PrintWords Go.Proofs.YtlohkfmobeapdaaW.PrintLast Go.Proofs.YtlohkfmobeapdaaW.PrintMore
attribute [local go_sem] max2_int min2_int max_two min_two max_three min_three max_four min_four   -- for this text's walks alone
set_option linter.unusedVariables false
set_option linter.unusedSimpArgs false

/-! ### intervalmonlaw05_LabelsKeep: function 7 -/
mutual
def intervalmonlaw05_LabelsKeep.j1 : Nat → Int → List (S33) → List (S33) → List ByteArray → Option (Bool)
 | 0, _, _, _, _ => none
 | k + 1, x2, x7, x8, x9 => (intervalmonref05_Names.f).bind fun t349 => ((intervalmonref01_Around.f x2 6).bind fun t352 => (if 0 ≤ t352 then (if t352 < (t349.length : Int) then ((intervalmonref01_Around.f (wrap64 (Int.tdiv x2 6)) 6).bind fun t354 => (if 0 ≤ t354 then (if t354 < (t349.length : Int) then ((some (([rdOf ByteArray.empty t349 t352, rdOf ByteArray.empty t349 t354] : List ByteArray) : List ByteArray)).bind fun y356 => (if x9.length + y356.length < 8796093022208 then ((some (x9 ++ y356 : List ByteArray)).bind fun y359 => ((labels_Keep.f k x7 y359).bind fun t362 => ((labels_Keep.f k x8 y359).bind fun t365 => ((intervalmonref05_Keep.f k x7 y359).bind fun t368 => ((intervalmonref05_Same.f k t362 t368).bind fun t371 => (if t371 = true then ((intervalmonref05_Keep.f k x8 y359).bind fun t372 => ((intervalmonref05_Same.f k t365 t372).bind fun t375 => (if t375 = true then ((labels_Keep.f k t365 y359).bind fun t376 => ((intervalmonref05_Same.f k t376 t365).bind fun t379 => (if t379 = true then ((labels_Valid.f k t365).bind fun t380 => (if t380 = true then ((labels_Keep.f k x8 t349).bind fun t381 => ((intervalmonref05_Same.f k t381 x8).bind fun t384 => (if t384 = true then ((labels_Keep.f k x8 ([] : List ByteArray)).bind fun t385 => (if (t385.length : Int) = 0 then ((intervalmonlaw05_lives.f).bind fun t388 => (some t388)) else (some false))) else (some false)))) else (some false))) else (some false)))) else (some false)))) else (some false))))))) else (none))) else (none)) else (none))) else (none)) else (none)))
def intervalmonlaw05_LabelsKeep.l0 : Nat → List ByteArray → Int → List (S33) → List (S33) → List ByteArray → Int → Option (Bool)
 | 0, _, _, _, _, _, _ => none
 | k + 1, x1, x2, x7, x8, x9, x10 => if x10 < (x1.length : Int) then (if x10 < 8 then (if 0 ≤ x10 then (if x9.length < 8796093022208 then (intervalmonlaw05_LabelsKeep.l0 k x1 x2 x7 x8 (x9 ++ [rdOf ByteArray.empty x1 x10]) (wrap64 (x10 + 1))) else (none)) else (none)) else (intervalmonlaw05_LabelsKeep.j1 k x2 x7 x8 x9)) else (intervalmonlaw05_LabelsKeep.j1 k x2 x7 x8 x9)
end
def intervalmonlaw05_LabelsKeep.f (k : Nat) (l0 : List Int) (l1 : List ByteArray) (a2 : Int) : Option (Bool) := (intervalmonref05_Dirty.f k l0).bind fun t339 => ((intervalmonref05_Set.f k l0).bind fun t342 => (intervalmonlaw05_LabelsKeep.l0 k l1 a2 t339 t342 ([] : List ByteArray) 0))
theorem intervalmonlaw05_LabelsKeep.mono_l : ∀ k, (∀ y0 y1 y2 y3, LeO (intervalmonlaw05_LabelsKeep.j1 k y0 y1 y2 y3) (intervalmonlaw05_LabelsKeep.j1 (k + 1) y0 y1 y2 y3)) ∧ (∀ y0 y1 y2 y3 y4 y5, LeO (intervalmonlaw05_LabelsKeep.l0 k y0 y1 y2 y3 y4 y5) (intervalmonlaw05_LabelsKeep.l0 (k + 1) y0 y1 y2 y3 y4 y5))
 | 0 => ⟨fun _ _ _ _ r h => by simp [intervalmonlaw05_LabelsKeep.j1] at h, fun _ _ _ _ _ _ r h => by simp [intervalmonlaw05_LabelsKeep.l0] at h⟩
 | k + 1 => by
  obtain ⟨ih0, ih1⟩ := intervalmonlaw05_LabelsKeep.mono_l k
  refine ⟨?_, ?_⟩
  ·intro y0 y1 y2 y3
   unfold intervalmonlaw05_LabelsKeep.j1
   repeat' first
   | (with_reducible exact ih0 _ _ _ _)
   | (with_reducible exact ih1 _ _ _ _ _ _)
   | (with_reducible exact intervalmonref05_Dirty.mono _ _)
   | (with_reducible exact intervalmonref05_Keep.mono _ _ _)
   | (with_reducible exact intervalmonref05_Same.mono _ _ _)
   | (with_reducible exact intervalmonref05_Set.mono _ _)
   | (with_reducible exact labels_Keep.mono _ _ _)
   | (with_reducible exact labels_Valid.mono _ _)
   | (with_reducible exact LeO.refl _)
   | (with_reducible exact LeO.none _)
   | (with_reducible refine LeO.ite ?_ ?_)
   | (with_reducible refine LeO.bind ?_ (fun _ => ?_))
   | exact ih0 _ _ _ _
   | exact ih1 _ _ _ _ _ _
   | exact intervalmonref05_Dirty.mono _ _
   | exact intervalmonref05_Keep.mono _ _ _
   | exact intervalmonref05_Same.mono _ _ _
   | exact intervalmonref05_Set.mono _ _
   | exact labels_Keep.mono _ _ _
   | exact labels_Valid.mono _ _
   | exact LeO.none _
   | refine LeO.ite ?_ ?_
   | refine LeO.bind ?_ (fun _ => ?_)
  ·intro y0 y1 y2 y3 y4 y5
   unfold intervalmonlaw05_LabelsKeep.l0
   repeat' first
   | (with_reducible exact ih0 _ _ _ _)
   | (with_reducible exact ih1 _ _ _ _ _ _)
   | (with_reducible exact intervalmonref05_Dirty.mono _ _)
   | (with_reducible exact intervalmonref05_Keep.mono _ _ _)
   | (with_reducible exact intervalmonref05_Same.mono _ _ _)
   | (with_reducible exact intervalmonref05_Set.mono _ _)
   | (with_reducible exact labels_Keep.mono _ _ _)
   | (with_reducible exact labels_Valid.mono _ _)
   | (with_reducible exact LeO.refl _)
   | (with_reducible exact LeO.none _)
   | (with_reducible refine LeO.ite ?_ ?_)
   | (with_reducible refine LeO.bind ?_ (fun _ => ?_))
   | exact ih0 _ _ _ _
   | exact ih1 _ _ _ _ _ _
   | exact intervalmonref05_Dirty.mono _ _
   | exact intervalmonref05_Keep.mono _ _ _
   | exact intervalmonref05_Same.mono _ _ _
   | exact intervalmonref05_Set.mono _ _
   | exact labels_Keep.mono _ _ _
   | exact labels_Valid.mono _ _
   | exact LeO.none _
   | refine LeO.ite ?_ ?_
   | refine LeO.bind ?_ (fun _ => ?_)
theorem intervalmonlaw05_LabelsKeep.mono : ∀ a0 a1 a2 k, LeO (intervalmonlaw05_LabelsKeep.f k a0 a1 a2) (intervalmonlaw05_LabelsKeep.f (k + 1) a0 a1 a2) := by
 intro a0 a1 a2 k
 obtain ⟨ih0, ih1⟩ := intervalmonlaw05_LabelsKeep.mono_l k
 unfold intervalmonlaw05_LabelsKeep.f
 repeat' first
   | (with_reducible exact ih0 _ _ _ _)
   | (with_reducible exact ih1 _ _ _ _ _ _)
   | (with_reducible exact intervalmonref05_Dirty.mono _ _)
   | (with_reducible exact intervalmonref05_Keep.mono _ _ _)
   | (with_reducible exact intervalmonref05_Same.mono _ _ _)
   | (with_reducible exact intervalmonref05_Set.mono _ _)
   | (with_reducible exact labels_Keep.mono _ _ _)
   | (with_reducible exact labels_Valid.mono _ _)
   | (with_reducible exact LeO.refl _)
   | (with_reducible exact LeO.none _)
   | (with_reducible refine LeO.ite ?_ ?_)
   | (with_reducible refine LeO.bind ?_ (fun _ => ?_))
   | exact ih0 _ _ _ _
   | exact ih1 _ _ _ _ _ _
   | exact intervalmonref05_Dirty.mono _ _
   | exact intervalmonref05_Keep.mono _ _ _
   | exact intervalmonref05_Same.mono _ _ _
   | exact intervalmonref05_Set.mono _ _
   | exact labels_Keep.mono _ _ _
   | exact labels_Valid.mono _ _
   | exact LeO.none _
   | refine LeO.ite ?_ ?_
   | refine LeO.bind ?_ (fun _ => ?_)
def intervalmonlaw05_LabelsKeep.T9 : Bool × List (List Nat × List Nat) := (true, [([], []), ([], []), ([], []), ([2], [2]), ([1, 3], [1, 3]), ([4], [4]), ([], []), ([], []), ([7], [7]), ([8, 3], [8]), ([6, 9], [6, 9]), ([10], [10]), ([5, 11], [5, 11]), ([0, 12, 9], [0, 12]), ([13, 13, 0, 1, 2, 3, 4, 5, 6, 7, 8, 9, 10, 11, 12, 13], [0, 13])])
def intervalmonlaw05_LabelsKeep.B9 : List Nat := [0, 0, 0, 4, 14, 30, 0, 0, 128, 396, 972, 1996, 4094, 8191, 16383]
theorem intervalmonlaw05_LabelsKeep.tab9 : rtab .any (opsOf Try.f7 9) = intervalmonlaw05_LabelsKeep.T9 := by kernel_rfl
theorem intervalmonlaw05_LabelsKeep.bits9 : waitsOk intervalmonlaw05_LabelsKeep.T9.2 intervalmonlaw05_LabelsKeep.B9 = true := by kernel_rfl
set_option maxHeartbeats 8000000 in
set_option maxRecDepth 100000 in
theorem intervalmonlaw05_LabelsKeep.calls (k : Nat) (A0 : Option Addr) (c0 : Nat) (l0 : List Int) (A1 : Option Addr) (c1 : Nat) (l1 : List ByteArray) (a2 : Int) (r : Bool) (w : World) (hr0 : Kd.C (Kd.int .i64) w A0 l0.length l0) (hc0 : l0.length ≤ c0) (hr1 : Kd.C Kd.string w A1 l1.length l1) (hc1 : l1.length ≤ c1) (h : intervalmonlaw05_LabelsKeep.f k l0 l1 a2 = some r) (hT : r = true := by first | rfl | assumption) :
  Calls Try.prog 7 #[.slice A0 l0.length c0, .slice A1 l1.length c1, .int .i64 a2] w fun e w' => e = .returned (.bool r) ∧ Below w.heap.size w w' := by
 have HT0 := Aside0.mk hT
 clear hT
 have HR0 := Aside0.mk hr0
 have HC0 := Aside0.mk hc0
 clear hr0 hc0
 have HR1 := Aside0.mk hr1
 have HC1 := Aside0.mk hc1
 clear hr1 hc1
 have HB := Aside0.mk (Below.refl w.heap.size w)
 have H : ((intervalmonref05_Dirty.f k l0).bind fun t339 => ((intervalmonref05_Set.f k l0).bind fun t342 => (intervalmonlaw05_LabelsKeep.l0 k l1 a2 t339 t342 ([] : List ByteArray) 0))) = some r := h
 clear h
 replace H := Option.bind_eq_some_iff.mp H
 obtain ⟨t339, A40, H⟩ := H
 replace H : ((intervalmonref05_Set.f k l0).bind fun t342 => (intervalmonlaw05_LabelsKeep.l0 k l1 a2 t339 t342 ([] : List ByteArray) 0)) = some r := H
 have A4 := Aside0.mk A40
 clear A40
 replace H := Option.bind_eq_some_iff.mp H
 obtain ⟨t342, A50, H⟩ := H
 replace H : (intervalmonlaw05_LabelsKeep.l0 k l1 a2 t339 t342 ([] : List ByteArray) 0) = some r := H
 have A5 := Aside0.mk A50
 clear A50
 have HC6 := Aside0.mk H
 clear H
 go_enter Try.func7, Try.ntmps7
 go_upto_block 0 with (first | ((with_reducible refine gate_callee (f := 19) rfl ?_); refine goesL_ (some 15) rfl rfl Try.func19 (by kernel_rfl) rfl #[.slice A0 l0.length c0] rfl aq ?_; (with_reducible refine (intervalmonref05_Dirty.calls k _ _ l0 t339 _ ?side1 ?side2 A4.out).mono ?_); (case side1 => repeat (first | exact HR0.out | (with_reducible refine Kd.C_alloc ?_ _) | (with_reducible refine Kd.C_drewN ?_ _) | (with_reducible refine Kd.C_drew ?_))); (case side2 => exact HC0.out); rintro e w7 ⟨v340, rfl, ho0, hb⟩; refine ⟨_, rfl, ?_⟩; have n0_ := Aside0.mk (Kd.R_lower ho0 (below_size (hq HB))); have n1_ := Aside0.mk (below_step (hq HB) hb); clear HB; have HO341 := n0_; have HB := n1_; clear n0_ n1_; (try clear hb); (try clear hb2); (try clear hk); (try clear hi); (try clear ho0)) | ((with_reducible refine gate_callee (f := 29) rfl ?_); refine goesL_ (some 17) rfl rfl Try.func29 (by kernel_rfl) rfl #[.slice A0 l0.length c0] rfl aq ?_; (with_reducible refine (intervalmonref05_Set.calls k _ _ l0 t342 _ ?side1 ?side2 A5.out).mono ?_); (case side1 => repeat (first | exact (Kd.C_below HR0.out HB.out) | (with_reducible refine Kd.C_alloc ?_ _) | (with_reducible refine Kd.C_drewN ?_ _) | (with_reducible refine Kd.C_drew ?_))); (case side2 => exact HC0.out); rintro e w8 ⟨v343, rfl, ho0, hb⟩; refine ⟨_, rfl, ?_⟩; have n0_ := Aside0.mk (Kd.R_elder' (rq HO341) (Kd.R_base ho0) hb); have n1_ := Aside0.mk (Kd.R_lower (Kd.R_new' ho0 (Kd.R_lt (rq HO341))) (below_size (hq HB))); have n2_ := Aside0.mk (below_step (hq HB) hb); clear HO341; clear HB; have HO341 := n0_; have HO344 := n1_; have HB := n2_; clear n0_ n1_ n2_; (try clear hb); (try clear hb2); (try clear hk); (try clear hi); (try clear ho0)))
 (try simp only [Act.put, List.setIfInBounds_toArray, List.set_cons_zero, List.set_cons_succ])
 go_cut [9] (fun v9 wc => ∃ (kq : Nat) (x9_5 : List ByteArray), Aside0 (intervalmonlaw05_LabelsKeep.j1 kq a2 t339 t342 x9_5 = some r) ∧ Aside0 (kq ≤ k) ∧ Aside0 (Kd.R k33 33 wc w.heap.size (fun k_ => some k_ ≠ (v343 : Value).ownBlock) v340 t339) ∧ Aside0 (Kd.R k33 33 wc w.heap.size (fun k_ => some k_ ≠ (v340 : Value).ownBlock) v343 t342) ∧ Aside0 (Kd.R Kd.string 9 wc w.heap.size (fun _ => True) v9 x9_5) ∧ Aside0 (Below w.heap.size w wc))
 case first =>
  have H := HC6.out
  clear HC6
  have H' := Aside0.mk H
  clear H
  go_wp2
  go_loopg [9, 10] k (fun kq v9 v10 w' => ∃ (x9_1 : List ByteArray) (x10_1 : Int), v10 = .int .i64 x10_1 ∧ Aside0 (intervalmonlaw05_LabelsKeep.l0 kq l1 a2 t339 t342 x9_1 x10_1 = some r) ∧ Aside0 (kq ≤ k) ∧ Aside0 (Kd.R k33 33 w' w.heap.size (fun k_ => some k_ ≠ (v343 : Value).ownBlock) v340 t339) ∧ Aside0 (Kd.R k33 33 w' w.heap.size (fun k_ => some k_ ≠ (v340 : Value).ownBlock) v343 t342) ∧ Aside0 (Kd.R Kd.string 9 w' w.heap.size (fun _ => True) v9 x9_1) ∧ Aside0 (Below w.heap.size w w'))
  case atStart => exact ⟨(([] : List ByteArray)), (0), (by first | rfl | (simp; done) | (simp [*]; done)), H', ⟨Nat.le_refl _⟩, ⟨by (with_reducible repeat (first | apply Kd.R_alloc | apply Kd.R_drewN | apply Kd.R_drew)); exact Kd.R_mono HO341.out (fun _ hk => hk.2)⟩, ⟨by (with_reducible repeat (first | apply Kd.R_alloc | apply Kd.R_drewN | apply Kd.R_drew)); exact Kd.R_mono HO344.out (fun _ hk => hk.2)⟩, ⟨by first | exact Kd.R_nil _ _ _ _ _ | exact Kd.N_nil _ _ _ _ _ | exact Kd.V_nil _ _ _ _ _ | exact Kd.Q_nil _ _ _ _ _ | exact Kd.S_nil _ _ _ _ _⟩, ⟨by repeat (first | (with_reducible first | exact HB.out | apply below_alloc | apply pw_below_drewN | apply below_drew1) | exact HB.out)⟩⟩
  case round =>
   clear H'
   try clear c1
   try clear c2
   try clear p2
   try clear c7
   obtain ⟨x9_1, x10_1, rfl, HA, HK1, HO_7, HO_8, HO_9, HB⟩ := hrel
   cases gk with
   | zero => exact absurd HA.out (by simp [intervalmonlaw05_LabelsKeep.l0])
   | succ k1 =>
    have H := HA.out
    clear HA
    simp only [intervalmonlaw05_LabelsKeep.l0] at H
    by_cases c9 : x10_1 < (l1.length : Int)
    ·rw [if_pos c9] at H
     have c9b0 : decide (x10_1 < (l1.length : Int)) = true := decide_eq_true c9
     clear c9
     (first | rw [c9b0] | (simp only [i64_w, i32_w]; rw [c9b0]) | skip)
     by_cases c10 : x10_1 < 8
     ·rw [if_pos c10] at H
      have c10b0 : decide (x10_1 < 8) = true := decide_eq_true c10
      clear c10
      by_cases c11 : 0 ≤ x10_1
      ·rw [if_pos c11] at H
       have c11b0 : decide (0 ≤ x10_1) = true := decide_eq_true c11
       clear c11
       by_cases c12 : x9_1.length < 8796093022208
       ·rw [if_pos c12] at H
        have LMc12 := Aside0.mk c12
        clear c12
        obtain ⟨y346, hy346⟩ : ∃ y_ : List ByteArray, y_ = (x9_1 ++ [rdOf ByteArray.empty l1 x10_1]) := ⟨_, rfl⟩
        replace H : (intervalmonlaw05_LabelsKeep.l0 k1 l1 a2 t339 t342 y346 (wrap64 (x10_1 + 1))) = some r := by first | (rw [hy346]; with_reducible exact H) | (have H2_ := (Option.bind_some _ _).symm.trans H; rw [hy346]; with_reducible exact H2_) | (have H2_ := (Option.bind_some _ _).symm.trans H; with_reducible exact H2_) | with_reducible exact H | (rw [hy346]; exact H) | exact H
        have Ny346 := Aside0.mk hy346
        clear hy346
        have H' := Aside0.mk H
        clear H
        have p345 : 0 ≤ (x10_1 : Int) := of_decide_eq_true (by first | (with_reducible assumption) | assumption)
        have q345 : x10_1 < (l1.length : Int) := of_decide_eq_true (by first | (with_reducible assumption) | assumption)
        obtain ⟨ad345, e345, hx345_0⟩ := Kd.at_string HR1.out x10_1 p345 q345
        cases e345
        (try replace hx345_0 := (HB.out.cell (World.block_lt_of_cell? w _ hx345_0)).trans hx345_0)
        replace p345 := eq_true p345
        replace q345 := eq_true q345
        go_wp2_with (first | ((with_reducible refine gate_builtin (b := .append) (xs := #[.tmp 28, .tmp 33]) rfl ?_); (try (refine gate_guard (by rfl) ?_; dsimp only)); at_builtin; refine Kd.R_append Kd.string (w0 := w) w.heap.size rfl (.tmp 28) (.tmp 33) 46 9 (.string ⟨#[]⟩) 16 rfl Try.underlying46 info9 rfl (by decide) (by omega) u9 x9_1 (rdOf ByteArray.empty l1 x10_1) [.string (rdOf ByteArray.empty l1 x10_1)] (fun _ => True) (fun _ => False) rfl rfl ?aP (fun _ hk => hk.elim) ?aF ?aO ?aB ?aS ?aL ?_; (case aP => exact rfl); (case aB => exact (hq HB)); (case aF => exact (fun _ _ => trivial)); (case aO => exact (rq HO_9)); (case aS => exact (below_size (hq HB))); (case aL => have := LMc12.out; omega); intro v347 w13 ho hb hg hat; rw [← Ny346.out] at ho; have n0_ := Aside0.mk (Kd.R_over' (rq HO_7) (Kd.R_typed (rq HO_9)) (by decide) hg); have n1_ := Aside0.mk (Kd.R_over' (rq HO_8) (Kd.R_typed (rq HO_9)) (by decide) hg); have n2_ := Aside0.mk (hb); have n3_ := Aside0.mk (ho); clear HO_7; clear HO_8; clear HB; clear HO_9; have HO_7 := n0_; have HO_8 := n1_; have HB := n2_; have HO348 := n3_; clear n0_ n1_ n2_ n3_; clear ho hb hg hat))
        go_roundg k1
        case measure => have := HK1.out; omega
        case rel => exact ⟨(y346), (wrap64 (x10_1 + 1)), (by first | rfl | (simp; done) | (simp [*]; done)), H', ⟨by have := HK1.out; omega⟩, ⟨by (with_reducible repeat (first | apply Kd.R_alloc | apply Kd.R_drewN | apply Kd.R_drew)); exact HO_7.out⟩, ⟨by (with_reducible repeat (first | apply Kd.R_alloc | apply Kd.R_drewN | apply Kd.R_drew)); exact HO_8.out⟩, ⟨by (with_reducible repeat (first | apply Kd.R_alloc | apply Kd.R_drewN | apply Kd.R_drew)); exact HO348.out⟩, ⟨by repeat (first | (with_reducible first | exact HB.out | apply below_alloc | apply pw_below_drewN | apply below_drew1) | exact HB.out)⟩⟩
       ·rw [if_neg c12] at H
        exact absurd H (by simp)
      ·rw [if_neg c11] at H
       exact absurd H (by simp)
     ·rw [if_neg c10] at H
      have c10b0 : decide (x10_1 < 8) = false := decide_eq_false c10
      clear c10
      have H' := Aside0.mk H
      clear H
      go_wp2
      go_meet
      case rel => exact ⟨_, (x9_1), H', ⟨by have := HK1.out; first | omega | exact Nat.le_refl _⟩, ⟨by (with_reducible repeat (first | apply Kd.R_alloc | apply Kd.R_drewN | apply Kd.R_drew)); exact HO_7.out⟩, ⟨by (with_reducible repeat (first | apply Kd.R_alloc | apply Kd.R_drewN | apply Kd.R_drew)); exact HO_8.out⟩, ⟨by (with_reducible repeat (first | apply Kd.R_alloc | apply Kd.R_drewN | apply Kd.R_drew)); exact HO_9.out⟩, ⟨by repeat (first | (with_reducible first | exact HB.out | apply below_alloc | apply pw_below_drewN | apply below_drew1) | exact HB.out)⟩⟩
    ·rw [if_neg c9] at H
     have c9b0 : decide (x10_1 < (l1.length : Int)) = false := decide_eq_false c9
     clear c9
     (first | rw [c9b0] | (simp only [i64_w, i32_w]; rw [c9b0]) | skip)
     have H' := Aside0.mk H
     clear H
     go_wp2
     go_meet
     case rel => exact ⟨_, (x9_1), H', ⟨by have := HK1.out; first | omega | exact Nat.le_refl _⟩, ⟨by (with_reducible repeat (first | apply Kd.R_alloc | apply Kd.R_drewN | apply Kd.R_drew)); exact HO_7.out⟩, ⟨by (with_reducible repeat (first | apply Kd.R_alloc | apply Kd.R_drewN | apply Kd.R_drew)); exact HO_8.out⟩, ⟨by (with_reducible repeat (first | apply Kd.R_alloc | apply Kd.R_drewN | apply Kd.R_drew)); exact HO_9.out⟩, ⟨by repeat (first | (with_reducible first | exact HB.out | apply below_alloc | apply pw_below_drewN | apply below_drew1) | exact HB.out)⟩⟩
 case rest =>
  clear HC6
  try clear c1
  try clear c2
  try clear p2
  try clear p3
  try clear q3
  try clear hx3
  try clear p6
  try clear c7
  try clear c9
  try clear c9b0
  try clear c10
  try clear c10b0
  try clear c11
  try clear c11b0
  try clear c12
  try clear hx345_0
  try clear p2
  try clear p345
  try clear q345
  obtain ⟨kq, x9_5, HA, HJ5, HO_7, HO_8, HO_9, HB⟩ := hcut
  cases kq with
  | zero => exact absurd HA.out (by simp [intervalmonlaw05_LabelsKeep.j1])
  | succ kj5 =>
   have H := HA.out
   clear HA
   simp only [intervalmonlaw05_LabelsKeep.j1] at H
   replace H := Option.bind_eq_some_iff.mp H
   obtain ⟨t349, A140, H⟩ := H
   replace H : ((intervalmonref01_Around.f a2 6).bind fun t352 => (if 0 ≤ t352 then (if t352 < (t349.length : Int) then ((intervalmonref01_Around.f (wrap64 (Int.tdiv a2 6)) 6).bind fun t354 => (if 0 ≤ t354 then (if t354 < (t349.length : Int) then ((some (([rdOf ByteArray.empty t349 t352, rdOf ByteArray.empty t349 t354] : List ByteArray) : List ByteArray)).bind fun y356 => (if x9_5.length + y356.length < 8796093022208 then ((some (x9_5 ++ y356 : List ByteArray)).bind fun y359 => ((labels_Keep.f kj5 t339 y359).bind fun t362 => ((labels_Keep.f kj5 t342 y359).bind fun t365 => ((intervalmonref05_Keep.f kj5 t339 y359).bind fun t368 => ((intervalmonref05_Same.f kj5 t362 t368).bind fun t371 => (if t371 = true then ((intervalmonref05_Keep.f kj5 t342 y359).bind fun t372 => ((intervalmonref05_Same.f kj5 t365 t372).bind fun t375 => (if t375 = true then ((labels_Keep.f kj5 t365 y359).bind fun t376 => ((intervalmonref05_Same.f kj5 t376 t365).bind fun t379 => (if t379 = true then ((labels_Valid.f kj5 t365).bind fun t380 => (if t380 = true then ((labels_Keep.f kj5 t342 t349).bind fun t381 => ((intervalmonref05_Same.f kj5 t381 t342).bind fun t384 => (if t384 = true then ((labels_Keep.f kj5 t342 ([] : List ByteArray)).bind fun t385 => (if (t385.length : Int) = 0 then ((intervalmonlaw05_lives.f).bind fun t388 => (some t388)) else (some false))) else (some false)))) else (some false))) else (some false)))) else (some false)))) else (some false))))))) else (none))) else (none)) else (none))) else (none)) else (none))) = some r := H
   have A14 := Aside0.mk A140
   clear A140
   replace H := Option.bind_eq_some_iff.mp H
   obtain ⟨t352, A150, H⟩ := H
   replace H : (if 0 ≤ t352 then (if t352 < (t349.length : Int) then ((intervalmonref01_Around.f (wrap64 (Int.tdiv a2 6)) 6).bind fun t354 => (if 0 ≤ t354 then (if t354 < (t349.length : Int) then ((some (([rdOf ByteArray.empty t349 t352, rdOf ByteArray.empty t349 t354] : List ByteArray) : List ByteArray)).bind fun y356 => (if x9_5.length + y356.length < 8796093022208 then ((some (x9_5 ++ y356 : List ByteArray)).bind fun y359 => ((labels_Keep.f kj5 t339 y359).bind fun t362 => ((labels_Keep.f kj5 t342 y359).bind fun t365 => ((intervalmonref05_Keep.f kj5 t339 y359).bind fun t368 => ((intervalmonref05_Same.f kj5 t362 t368).bind fun t371 => (if t371 = true then ((intervalmonref05_Keep.f kj5 t342 y359).bind fun t372 => ((intervalmonref05_Same.f kj5 t365 t372).bind fun t375 => (if t375 = true then ((labels_Keep.f kj5 t365 y359).bind fun t376 => ((intervalmonref05_Same.f kj5 t376 t365).bind fun t379 => (if t379 = true then ((labels_Valid.f kj5 t365).bind fun t380 => (if t380 = true then ((labels_Keep.f kj5 t342 t349).bind fun t381 => ((intervalmonref05_Same.f kj5 t381 t342).bind fun t384 => (if t384 = true then ((labels_Keep.f kj5 t342 ([] : List ByteArray)).bind fun t385 => (if (t385.length : Int) = 0 then ((intervalmonlaw05_lives.f).bind fun t388 => (some t388)) else (some false))) else (some false)))) else (some false))) else (some false)))) else (some false)))) else (some false))))))) else (none))) else (none)) else (none))) else (none)) else (none)) = some r := H
   have A15 := Aside0.mk A150
   clear A150
   by_cases c16 : 0 ≤ t352
   ·rw [if_pos c16] at H
    have c16b0 : decide (0 ≤ t352) = true := decide_eq_true c16
    clear c16
    by_cases c17 : t352 < (t349.length : Int)
    ·rw [if_pos c17] at H
     have c17b0 : decide (t352 < (t349.length : Int)) = true := decide_eq_true c17
     clear c17
     replace H := Option.bind_eq_some_iff.mp H
     obtain ⟨t354, A180, H⟩ := H
     replace H : (if 0 ≤ t354 then (if t354 < (t349.length : Int) then ((some (([rdOf ByteArray.empty t349 t352, rdOf ByteArray.empty t349 t354] : List ByteArray) : List ByteArray)).bind fun y356 => (if x9_5.length + y356.length < 8796093022208 then ((some (x9_5 ++ y356 : List ByteArray)).bind fun y359 => ((labels_Keep.f kj5 t339 y359).bind fun t362 => ((labels_Keep.f kj5 t342 y359).bind fun t365 => ((intervalmonref05_Keep.f kj5 t339 y359).bind fun t368 => ((intervalmonref05_Same.f kj5 t362 t368).bind fun t371 => (if t371 = true then ((intervalmonref05_Keep.f kj5 t342 y359).bind fun t372 => ((intervalmonref05_Same.f kj5 t365 t372).bind fun t375 => (if t375 = true then ((labels_Keep.f kj5 t365 y359).bind fun t376 => ((intervalmonref05_Same.f kj5 t376 t365).bind fun t379 => (if t379 = true then ((labels_Valid.f kj5 t365).bind fun t380 => (if t380 = true then ((labels_Keep.f kj5 t342 t349).bind fun t381 => ((intervalmonref05_Same.f kj5 t381 t342).bind fun t384 => (if t384 = true then ((labels_Keep.f kj5 t342 ([] : List ByteArray)).bind fun t385 => (if (t385.length : Int) = 0 then ((intervalmonlaw05_lives.f).bind fun t388 => (some t388)) else (some false))) else (some false)))) else (some false))) else (some false)))) else (some false)))) else (some false))))))) else (none))) else (none)) else (none)) = some r := H
     have A18 := Aside0.mk A180
     clear A180
     by_cases c19 : 0 ≤ t354
     ·rw [if_pos c19] at H
      have c19b0 : decide (0 ≤ t354) = true := decide_eq_true c19
      clear c19
      by_cases c20 : t354 < (t349.length : Int)
      ·rw [if_pos c20] at H
       have c20b0 : decide (t354 < (t349.length : Int)) = true := decide_eq_true c20
       clear c20
       obtain ⟨y356, hy356⟩ : ∃ y_ : List ByteArray, y_ = (([rdOf ByteArray.empty t349 t352, rdOf ByteArray.empty t349 t354] : List ByteArray)) := ⟨_, rfl⟩
       replace H : (if x9_5.length + y356.length < 8796093022208 then ((some (x9_5 ++ y356 : List ByteArray)).bind fun y359 => ((labels_Keep.f kj5 t339 y359).bind fun t362 => ((labels_Keep.f kj5 t342 y359).bind fun t365 => ((intervalmonref05_Keep.f kj5 t339 y359).bind fun t368 => ((intervalmonref05_Same.f kj5 t362 t368).bind fun t371 => (if t371 = true then ((intervalmonref05_Keep.f kj5 t342 y359).bind fun t372 => ((intervalmonref05_Same.f kj5 t365 t372).bind fun t375 => (if t375 = true then ((labels_Keep.f kj5 t365 y359).bind fun t376 => ((intervalmonref05_Same.f kj5 t376 t365).bind fun t379 => (if t379 = true then ((labels_Valid.f kj5 t365).bind fun t380 => (if t380 = true then ((labels_Keep.f kj5 t342 t349).bind fun t381 => ((intervalmonref05_Same.f kj5 t381 t342).bind fun t384 => (if t384 = true then ((labels_Keep.f kj5 t342 ([] : List ByteArray)).bind fun t385 => (if (t385.length : Int) = 0 then ((intervalmonlaw05_lives.f).bind fun t388 => (some t388)) else (some false))) else (some false)))) else (some false))) else (some false)))) else (some false)))) else (some false))))))) else (none)) = some r := by first | (rw [hy356]; with_reducible exact H) | (have H2_ := (Option.bind_some _ _).symm.trans H; rw [hy356]; with_reducible exact H2_) | (have H2_ := (Option.bind_some _ _).symm.trans H; with_reducible exact H2_) | with_reducible exact H | (rw [hy356]; exact H) | exact H
       have Ny356 := Aside0.mk hy356
       clear hy356
       by_cases c21 : x9_5.length + y356.length < 8796093022208
       ·rw [if_pos c21] at H
        have LMc21 := Aside0.mk c21
        clear c21
        obtain ⟨y359, hy359⟩ : ∃ y_ : List ByteArray, y_ = (x9_5 ++ y356) := ⟨_, rfl⟩
        replace H : ((labels_Keep.f kj5 t339 y359).bind fun t362 => ((labels_Keep.f kj5 t342 y359).bind fun t365 => ((intervalmonref05_Keep.f kj5 t339 y359).bind fun t368 => ((intervalmonref05_Same.f kj5 t362 t368).bind fun t371 => (if t371 = true then ((intervalmonref05_Keep.f kj5 t342 y359).bind fun t372 => ((intervalmonref05_Same.f kj5 t365 t372).bind fun t375 => (if t375 = true then ((labels_Keep.f kj5 t365 y359).bind fun t376 => ((intervalmonref05_Same.f kj5 t376 t365).bind fun t379 => (if t379 = true then ((labels_Valid.f kj5 t365).bind fun t380 => (if t380 = true then ((labels_Keep.f kj5 t342 t349).bind fun t381 => ((intervalmonref05_Same.f kj5 t381 t342).bind fun t384 => (if t384 = true then ((labels_Keep.f kj5 t342 ([] : List ByteArray)).bind fun t385 => (if (t385.length : Int) = 0 then ((intervalmonlaw05_lives.f).bind fun t388 => (some t388)) else (some false))) else (some false)))) else (some false))) else (some false)))) else (some false)))) else (some false)))))) = some r := by first | (rw [hy359]; with_reducible exact H) | (have H2_ := (Option.bind_some _ _).symm.trans H; rw [hy359]; with_reducible exact H2_) | (have H2_ := (Option.bind_some _ _).symm.trans H; with_reducible exact H2_) | with_reducible exact H | (rw [hy359]; exact H) | exact H
        have Ny359 := Aside0.mk hy359
        clear hy359
        replace H := Option.bind_eq_some_iff.mp H
        obtain ⟨t362, A220, H⟩ := H
        replace H : ((labels_Keep.f kj5 t342 y359).bind fun t365 => ((intervalmonref05_Keep.f kj5 t339 y359).bind fun t368 => ((intervalmonref05_Same.f kj5 t362 t368).bind fun t371 => (if t371 = true then ((intervalmonref05_Keep.f kj5 t342 y359).bind fun t372 => ((intervalmonref05_Same.f kj5 t365 t372).bind fun t375 => (if t375 = true then ((labels_Keep.f kj5 t365 y359).bind fun t376 => ((intervalmonref05_Same.f kj5 t376 t365).bind fun t379 => (if t379 = true then ((labels_Valid.f kj5 t365).bind fun t380 => (if t380 = true then ((labels_Keep.f kj5 t342 t349).bind fun t381 => ((intervalmonref05_Same.f kj5 t381 t342).bind fun t384 => (if t384 = true then ((labels_Keep.f kj5 t342 ([] : List ByteArray)).bind fun t385 => (if (t385.length : Int) = 0 then ((intervalmonlaw05_lives.f).bind fun t388 => (some t388)) else (some false))) else (some false)))) else (some false))) else (some false)))) else (some false)))) else (some false))))) = some r := H
        have A22 := Aside0.mk A220
        clear A220
        replace H := Option.bind_eq_some_iff.mp H
        obtain ⟨t365, A230, H⟩ := H
        replace H : ((intervalmonref05_Keep.f kj5 t339 y359).bind fun t368 => ((intervalmonref05_Same.f kj5 t362 t368).bind fun t371 => (if t371 = true then ((intervalmonref05_Keep.f kj5 t342 y359).bind fun t372 => ((intervalmonref05_Same.f kj5 t365 t372).bind fun t375 => (if t375 = true then ((labels_Keep.f kj5 t365 y359).bind fun t376 => ((intervalmonref05_Same.f kj5 t376 t365).bind fun t379 => (if t379 = true then ((labels_Valid.f kj5 t365).bind fun t380 => (if t380 = true then ((labels_Keep.f kj5 t342 t349).bind fun t381 => ((intervalmonref05_Same.f kj5 t381 t342).bind fun t384 => (if t384 = true then ((labels_Keep.f kj5 t342 ([] : List ByteArray)).bind fun t385 => (if (t385.length : Int) = 0 then ((intervalmonlaw05_lives.f).bind fun t388 => (some t388)) else (some false))) else (some false)))) else (some false))) else (some false)))) else (some false)))) else (some false)))) = some r := H
        have A23 := Aside0.mk A230
        clear A230
        replace H := Option.bind_eq_some_iff.mp H
        obtain ⟨t368, A240, H⟩ := H
        replace H : ((intervalmonref05_Same.f kj5 t362 t368).bind fun t371 => (if t371 = true then ((intervalmonref05_Keep.f kj5 t342 y359).bind fun t372 => ((intervalmonref05_Same.f kj5 t365 t372).bind fun t375 => (if t375 = true then ((labels_Keep.f kj5 t365 y359).bind fun t376 => ((intervalmonref05_Same.f kj5 t376 t365).bind fun t379 => (if t379 = true then ((labels_Valid.f kj5 t365).bind fun t380 => (if t380 = true then ((labels_Keep.f kj5 t342 t349).bind fun t381 => ((intervalmonref05_Same.f kj5 t381 t342).bind fun t384 => (if t384 = true then ((labels_Keep.f kj5 t342 ([] : List ByteArray)).bind fun t385 => (if (t385.length : Int) = 0 then ((intervalmonlaw05_lives.f).bind fun t388 => (some t388)) else (some false))) else (some false)))) else (some false))) else (some false)))) else (some false)))) else (some false))) = some r := H
        have A24 := Aside0.mk A240
        clear A240
        replace H := Option.bind_eq_some_iff.mp H
        obtain ⟨t371, A250, H⟩ := H
        replace H : (if t371 = true then ((intervalmonref05_Keep.f kj5 t342 y359).bind fun t372 => ((intervalmonref05_Same.f kj5 t365 t372).bind fun t375 => (if t375 = true then ((labels_Keep.f kj5 t365 y359).bind fun t376 => ((intervalmonref05_Same.f kj5 t376 t365).bind fun t379 => (if t379 = true then ((labels_Valid.f kj5 t365).bind fun t380 => (if t380 = true then ((labels_Keep.f kj5 t342 t349).bind fun t381 => ((intervalmonref05_Same.f kj5 t381 t342).bind fun t384 => (if t384 = true then ((labels_Keep.f kj5 t342 ([] : List ByteArray)).bind fun t385 => (if (t385.length : Int) = 0 then ((intervalmonlaw05_lives.f).bind fun t388 => (some t388)) else (some false))) else (some false)))) else (some false))) else (some false)))) else (some false)))) else (some false)) = some r := H
        have A25 := Aside0.mk A250
        clear A250
        by_cases c26 : t371 = true
        ·subst c26
         have H1 : ((intervalmonref05_Keep.f kj5 t342 y359).bind fun t372 => ((intervalmonref05_Same.f kj5 t365 t372).bind fun t375 => (if t375 = true then ((labels_Keep.f kj5 t365 y359).bind fun t376 => ((intervalmonref05_Same.f kj5 t376 t365).bind fun t379 => (if t379 = true then ((labels_Valid.f kj5 t365).bind fun t380 => (if t380 = true then ((labels_Keep.f kj5 t342 t349).bind fun t381 => ((intervalmonref05_Same.f kj5 t381 t342).bind fun t384 => (if t384 = true then ((labels_Keep.f kj5 t342 ([] : List ByteArray)).bind fun t385 => (if (t385.length : Int) = 0 then ((intervalmonlaw05_lives.f).bind fun t388 => (some t388)) else (some false))) else (some false)))) else (some false))) else (some false)))) else (some false)))) = some r := by rw [if_pos rfl] at H; exact H
         clear H
         have H := H1
         clear H1
         replace H := Option.bind_eq_some_iff.mp H
         obtain ⟨t372, A270, H⟩ := H
         replace H : ((intervalmonref05_Same.f kj5 t365 t372).bind fun t375 => (if t375 = true then ((labels_Keep.f kj5 t365 y359).bind fun t376 => ((intervalmonref05_Same.f kj5 t376 t365).bind fun t379 => (if t379 = true then ((labels_Valid.f kj5 t365).bind fun t380 => (if t380 = true then ((labels_Keep.f kj5 t342 t349).bind fun t381 => ((intervalmonref05_Same.f kj5 t381 t342).bind fun t384 => (if t384 = true then ((labels_Keep.f kj5 t342 ([] : List ByteArray)).bind fun t385 => (if (t385.length : Int) = 0 then ((intervalmonlaw05_lives.f).bind fun t388 => (some t388)) else (some false))) else (some false)))) else (some false))) else (some false)))) else (some false))) = some r := H
         have A27 := Aside0.mk A270
         clear A270
         replace H := Option.bind_eq_some_iff.mp H
         obtain ⟨t375, A280, H⟩ := H
         replace H : (if t375 = true then ((labels_Keep.f kj5 t365 y359).bind fun t376 => ((intervalmonref05_Same.f kj5 t376 t365).bind fun t379 => (if t379 = true then ((labels_Valid.f kj5 t365).bind fun t380 => (if t380 = true then ((labels_Keep.f kj5 t342 t349).bind fun t381 => ((intervalmonref05_Same.f kj5 t381 t342).bind fun t384 => (if t384 = true then ((labels_Keep.f kj5 t342 ([] : List ByteArray)).bind fun t385 => (if (t385.length : Int) = 0 then ((intervalmonlaw05_lives.f).bind fun t388 => (some t388)) else (some false))) else (some false)))) else (some false))) else (some false)))) else (some false)) = some r := H
         have A28 := Aside0.mk A280
         clear A280
         by_cases c29 : t375 = true
         ·subst c29
          have H1 : ((labels_Keep.f kj5 t365 y359).bind fun t376 => ((intervalmonref05_Same.f kj5 t376 t365).bind fun t379 => (if t379 = true then ((labels_Valid.f kj5 t365).bind fun t380 => (if t380 = true then ((labels_Keep.f kj5 t342 t349).bind fun t381 => ((intervalmonref05_Same.f kj5 t381 t342).bind fun t384 => (if t384 = true then ((labels_Keep.f kj5 t342 ([] : List ByteArray)).bind fun t385 => (if (t385.length : Int) = 0 then ((intervalmonlaw05_lives.f).bind fun t388 => (some t388)) else (some false))) else (some false)))) else (some false))) else (some false)))) = some r := by rw [if_pos rfl] at H; exact H
          clear H
          have H := H1
          clear H1
          replace H := Option.bind_eq_some_iff.mp H
          obtain ⟨t376, A300, H⟩ := H
          replace H : ((intervalmonref05_Same.f kj5 t376 t365).bind fun t379 => (if t379 = true then ((labels_Valid.f kj5 t365).bind fun t380 => (if t380 = true then ((labels_Keep.f kj5 t342 t349).bind fun t381 => ((intervalmonref05_Same.f kj5 t381 t342).bind fun t384 => (if t384 = true then ((labels_Keep.f kj5 t342 ([] : List ByteArray)).bind fun t385 => (if (t385.length : Int) = 0 then ((intervalmonlaw05_lives.f).bind fun t388 => (some t388)) else (some false))) else (some false)))) else (some false))) else (some false))) = some r := H
          have A30 := Aside0.mk A300
          clear A300
          replace H := Option.bind_eq_some_iff.mp H
          obtain ⟨t379, A310, H⟩ := H
          replace H : (if t379 = true then ((labels_Valid.f kj5 t365).bind fun t380 => (if t380 = true then ((labels_Keep.f kj5 t342 t349).bind fun t381 => ((intervalmonref05_Same.f kj5 t381 t342).bind fun t384 => (if t384 = true then ((labels_Keep.f kj5 t342 ([] : List ByteArray)).bind fun t385 => (if (t385.length : Int) = 0 then ((intervalmonlaw05_lives.f).bind fun t388 => (some t388)) else (some false))) else (some false)))) else (some false))) else (some false)) = some r := H
          have A31 := Aside0.mk A310
          clear A310
          by_cases c32 : t379 = true
          ·subst c32
           have H1 : ((labels_Valid.f kj5 t365).bind fun t380 => (if t380 = true then ((labels_Keep.f kj5 t342 t349).bind fun t381 => ((intervalmonref05_Same.f kj5 t381 t342).bind fun t384 => (if t384 = true then ((labels_Keep.f kj5 t342 ([] : List ByteArray)).bind fun t385 => (if (t385.length : Int) = 0 then ((intervalmonlaw05_lives.f).bind fun t388 => (some t388)) else (some false))) else (some false)))) else (some false))) = some r := by rw [if_pos rfl] at H; exact H
           clear H
           have H := H1
           clear H1
           replace H := Option.bind_eq_some_iff.mp H
           obtain ⟨t380, A330, H⟩ := H
           replace H : (if t380 = true then ((labels_Keep.f kj5 t342 t349).bind fun t381 => ((intervalmonref05_Same.f kj5 t381 t342).bind fun t384 => (if t384 = true then ((labels_Keep.f kj5 t342 ([] : List ByteArray)).bind fun t385 => (if (t385.length : Int) = 0 then ((intervalmonlaw05_lives.f).bind fun t388 => (some t388)) else (some false))) else (some false)))) else (some false)) = some r := H
           have A33 := Aside0.mk A330
           clear A330
           by_cases c34 : t380 = true
           ·subst c34
            have H1 : ((labels_Keep.f kj5 t342 t349).bind fun t381 => ((intervalmonref05_Same.f kj5 t381 t342).bind fun t384 => (if t384 = true then ((labels_Keep.f kj5 t342 ([] : List ByteArray)).bind fun t385 => (if (t385.length : Int) = 0 then ((intervalmonlaw05_lives.f).bind fun t388 => (some t388)) else (some false))) else (some false)))) = some r := by rw [if_pos rfl] at H; exact H
            clear H
            have H := H1
            clear H1
            replace H := Option.bind_eq_some_iff.mp H
            obtain ⟨t381, A350, H⟩ := H
            replace H : ((intervalmonref05_Same.f kj5 t381 t342).bind fun t384 => (if t384 = true then ((labels_Keep.f kj5 t342 ([] : List ByteArray)).bind fun t385 => (if (t385.length : Int) = 0 then ((intervalmonlaw05_lives.f).bind fun t388 => (some t388)) else (some false))) else (some false))) = some r := H
            have A35 := Aside0.mk A350
            clear A350
            replace H := Option.bind_eq_some_iff.mp H
            obtain ⟨t384, A360, H⟩ := H
            replace H : (if t384 = true then ((labels_Keep.f kj5 t342 ([] : List ByteArray)).bind fun t385 => (if (t385.length : Int) = 0 then ((intervalmonlaw05_lives.f).bind fun t388 => (some t388)) else (some false))) else (some false)) = some r := H
            have A36 := Aside0.mk A360
            clear A360
            by_cases c37 : t384 = true
            ·subst c37
             have H1 : ((labels_Keep.f kj5 t342 ([] : List ByteArray)).bind fun t385 => (if (t385.length : Int) = 0 then ((intervalmonlaw05_lives.f).bind fun t388 => (some t388)) else (some false))) = some r := by rw [if_pos rfl] at H; exact H
             clear H
             have H := H1
             clear H1
             replace H := Option.bind_eq_some_iff.mp H
             obtain ⟨t385, A380, H⟩ := H
             replace H : (if (t385.length : Int) = 0 then ((intervalmonlaw05_lives.f).bind fun t388 => (some t388)) else (some false)) = some r := H
             have A38 := Aside0.mk A380
             clear A380
             by_cases c39 : (t385.length : Int) = 0
             ·rw [if_pos c39] at H
              have c39b0 : ((t385.length : Int) == 0) = true := beq_iff_eq.mpr c39
              have c39b1 : ((t385.length : Int) != 0) = false := bne_eq_false_iff_eq.mpr c39
              clear c39
              replace H := Option.bind_eq_some_iff.mp H
              obtain ⟨t388, A400, H⟩ := H
              replace H : (some t388) = some r := H
              have A40 := Aside0.mk A400
              clear A400
              obtain rfl := Option.some.inj H
              try go_wp2_with (first | ((with_reducible refine gate_callee (f := 32) rfl ?_); refine goesL_ (some 35) rfl rfl Try.func32 (by kernel_rfl) rfl #[] rfl aq ?_; (with_reducible refine (intervalmonref05_Names.calls  t349 _ A14.out).mono ?_); rintro e w41 ⟨v350, rfl, ho0, hb⟩; refine ⟨_, rfl, ?_⟩; have n0_ := Aside0.mk (Kd.R_below (rq HO_7) hb); have n1_ := Aside0.mk (Kd.R_below (rq HO_8) hb); have n2_ := Aside0.mk (Kd.R_elder' (rq HO_9) (Kd.R_base ho0) hb); have n3_ := Aside0.mk (Kd.R_lower (Kd.R_new' ho0 (Kd.R_lt (rq HO_9))) (below_size (hq HB))); have n4_ := Aside0.mk (below_step (hq HB) hb); clear HO_7; clear HO_8; clear HO_9; clear HB; have HO_7 := n0_; have HO_8 := n1_; have HO_9 := n2_; have HO351 := n3_; have HB := n4_; clear n0_ n1_ n2_ n3_ n4_; (try clear hb); (try clear hb2); (try clear hk); (try clear hi); (try clear ho0)))
              have n0_ := Aside0.mk (Kd.R_drew HO_7.out)
              have n1_ := Aside0.mk (Kd.R_drew HO_8.out)
              have n2_ := Aside0.mk (Kd.R_drew HO_9.out)
              have n3_ := Aside0.mk (Kd.R_drew HO351.out)
              have n4_ := Aside0.mk (below_drew1 HB.out)
              clear HO_7
              clear HO_8
              clear HO_9
              clear HO351
              clear HB
              have HO_7 := n0_
              have HO_8 := n1_
              have HO_9 := n2_
              have HO351 := n3_
              have HB := n4_
              clear n0_ n1_ n2_ n3_ n4_
              have p353 : 0 ≤ (t352 : Int) := of_decide_eq_true (by first | (with_reducible assumption) | assumption)
              have q353 : t352 < (t349.length : Int) := of_decide_eq_true (by first | (with_reducible assumption) | assumption)
              try (obtain ⟨Az353_, cz353_, ez353_⟩ := Kd.R_slice HO351.out; subst ez353_)
              obtain ⟨ad353, e353, hx353_0⟩ := Kd.at_string (Kd.R_reads' HO351.out).2.2 t352 p353 q353
              cases e353
              replace p353 := eq_true p353
              replace q353 := eq_true q353
              have p355 : 0 ≤ (t354 : Int) := of_decide_eq_true (by first | (with_reducible assumption) | assumption)
              have q355 : t354 < (t349.length : Int) := of_decide_eq_true (by first | (with_reducible assumption) | assumption)
              try (obtain ⟨Az355_, cz355_, ez355_⟩ := Kd.R_slice HO351.out; subst ez355_)
              obtain ⟨ad355, e355, hx355_0⟩ := Kd.at_string (Kd.R_reads' HO351.out).2.2 t354 p355 q355
              obtain rfl : ad353 = ad355 := (by injection e355)
              replace p355 := eq_true p355
              replace q355 := eq_true q355
              refine start_ (n := 15) (S := fun w' => w'.cell? (ad353.add (t352).toNat) = some (.string (rdOf ByteArray.empty t349 t352)) ∧ w'.cell? (ad353.add (t354).toNat) = some (.string (rdOf ByteArray.empty t349 t354))) (ds := [13]) #[false, false, false, false, false, false, false, false, false, false, false, false, false, false, false] (by kernel_rfl) rfl rfl ⟨hx353_0, hx355_0⟩ (fun hHeld => ?_); refine with_tabW intervalmonlaw05_LabelsKeep.tab9 intervalmonlaw05_LabelsKeep.bits9 (fun HT_ HW_ => ?_)
              generalize w41.drew = w42 at HO_7 HO_8 HO_9 HO351 HB hx353_0 hx355_0 hHeld ⊢
              refine pure_ (i := 0) (N := some 36) (v := ?_) (a' := ?_) #[true, false, false, false, false, false, false, false, false, false, false, false, false, false, false] rfl rfl (any_of HT_.out (by kernel_rfl)) (fun _ _ _ h => h) (Or.inl ⟨by rfl, ?_⟩) ?_ ?_
              rotate_left
              ·intro w'
               go_simp
               with_reducible rfl
              rotate_left
              ·simp only [Act.put, List.setIfInBounds_toArray, List.set_cons_zero, List.set_cons_succ, i64_w, i32_w]
               rfl
              refine pure_ (i := 1) (N := some 37) (v := ?_) (a' := ?_) #[true, true, false, false, false, false, false, false, false, false, false, false, false, false, false] rfl rfl (any_of HT_.out (by kernel_rfl)) (fun _ _ _ h => h) (Or.inl ⟨by rfl, ?_⟩) ?_ ?_
              rotate_left
              ·intro w'
               go_simp
               with_reducible rfl
              rotate_left
              ·simp only [Act.put, List.setIfInBounds_toArray, List.set_cons_zero, List.set_cons_succ, i64_w, i32_w]
               rfl
              refine pure_ (i := 2) (N := some 38) (v := ?_) (a' := ?_) #[true, true, true, false, false, false, false, false, false, false, false, false, false, false, false] rfl rfl (any_of HT_.out (by kernel_rfl)) (fun _ _ _ h => h) (Or.inl ⟨by rfl, ?_⟩) ?_ ?_
              rotate_left
              ·intro w'
               go_simp
               with_reducible rfl
              rotate_left
              ·simp only [Act.put, List.setIfInBounds_toArray, List.set_cons_zero, List.set_cons_succ, i64_w, i32_w]
               rfl
              refine pure_ (i := 6) (N := some 42) (v := ?_) (a' := ?_) #[true, true, true, false, false, false, true, false, false, false, false, false, false, false, false] rfl rfl (any_of HT_.out (by kernel_rfl)) (fun _ _ _ h => h) (Or.inl ⟨by rfl, ?_⟩) ?_ ?_
              rotate_left
              ·intro w'
               go_simp
               with_reducible rfl
              rotate_left
              ·simp only [Act.put, List.setIfInBounds_toArray, List.set_cons_zero, List.set_cons_succ, i64_w, i32_w]
               rfl
              refine pure_ (i := 7) (N := some 43) (v := ?_) (a' := ?_) #[true, true, true, false, false, false, true, true, false, false, false, false, false, false, false] rfl rfl (any_of HT_.out (by kernel_rfl)) (fun _ _ _ h => h) (Or.inl ⟨by rfl, ?_⟩) ?_ ?_
              rotate_left
              ·intro w'
               go_simp
               with_reducible rfl
              rotate_left
              ·simp only [Act.put, List.setIfInBounds_toArray, List.set_cons_zero, List.set_cons_succ, i64_w, i32_w]
               rfl
              refine pure_ (i := 8) (N := some 44) (v := ?_) (a' := ?_) #[true, true, true, false, false, false, true, true, true, false, false, false, false, false, false] rfl rfl (any_of HT_.out (by kernel_rfl)) (fun _ _ _ h => h) (Or.inl ⟨by rfl, ?_⟩) ?_ ?_
              rotate_left
              ·intro w'
               go_simp
               with_reducible rfl
              rotate_left
              ·simp only [Act.put, List.setIfInBounds_toArray, List.set_cons_zero, List.set_cons_succ, i64_w, i32_w]
               rfl
              refine one_ (i := 3) (N := some 39) #[true, true, true, true, false, false, true, true, true, false, false, false, false, false, false] rfl rfl (one_of HT_.out (by kernel_rfl)) (by decide) (fun K hK => ?_)
              refine goes_ Try.func11 (by kernel_rfl) rfl #[.int .i64 a2, .int .i64 6] (by rfl) rfl rfl aq ?_
              with_reducible refine (intervalmonref01_Around.calls a2 6 t352 _ A15.out).mono ?_
              rintro e w' ⟨rfl, ⟨nd, rfl⟩⟩
              refine ⟨_, rfl, ?_⟩
              obtain ⟨Ao43, co43, eo43⟩ := Kd.R_slice HO351.out
              (first | subst eo43 | (injection eo43 with f1_ f2_ f3_; have f4_ := f1_.symm; have f5_ := f3_.symm; clear f1_ f2_ f3_; subst f4_; subst f5_))
              refine hK.out _ _ ⟨hHeld.1, hHeld.2⟩ (fun hHeld => ?_)
              clear hK K
              refine norm_ (a' := ?_) ?_ ?_
              rotate_left
              ·show Act.put _ (some 39) _ = _
               simp only [Act.put, List.setIfInBounds_toArray, List.set_cons_zero, List.set_cons_succ, i64_w, i32_w]
               rfl
              refine pure_ (i := 4) (N := some 40) (v := ?_) (a' := ?_) #[true, true, true, true, true, false, true, true, true, false, false, false, false, false, false] rfl rfl (any_of HT_.out (by kernel_rfl)) (fun _ _ _ h => h) (Or.inl ⟨by rfl, ?_⟩) ?_ ?_
              rotate_left
              ·intro w'
               go_simp
               with_reducible rfl
              rotate_left
              ·simp only [Act.put, List.setIfInBounds_toArray, List.set_cons_zero, List.set_cons_succ, i64_w, i32_w]
               rfl
              refine take_ (i := 5) (N := some 41) (v := ?_) (a' := ?_) #[true, true, true, true, true, true, true, true, true, false, false, false, false, false, false] rfl rfl (take_ofW HT_.out HW_.out (by kernel_rfl)) (fun _ _ _ h => h) (Or.inl ⟨by rfl, ?_⟩) hHeld ?_ ?_
              rotate_left
              ·rintro w' ⟨s0, s1⟩
               go_simp
               with_reducible rfl
              rotate_left
              ·simp only [Act.put, List.setIfInBounds_toArray, List.set_cons_zero, List.set_cons_succ, i64_w, i32_w]
               rfl
              refine one_ (i := 9) (N := some 45) #[true, true, true, true, true, true, true, true, true, true, false, false, false, false, false] rfl rfl (one_of HT_.out (by kernel_rfl)) (by decide) (fun K hK => ?_)
              refine goes_ Try.func11 (by kernel_rfl) rfl #[.int .i64 (wrap64 (Int.tdiv a2 6)), .int .i64 6] (by rfl) rfl rfl aq ?_
              with_reducible refine (intervalmonref01_Around.calls (wrap64 (Int.tdiv a2 6)) 6 t354 _ A18.out).mono ?_
              rintro e w' ⟨rfl, ⟨nd, rfl⟩⟩
              refine ⟨_, rfl, ?_⟩
              refine hK.out _ _ ⟨hHeld.1, hHeld.2⟩ (fun hHeld => ?_)
              clear hK K
              refine norm_ (a' := ?_) ?_ ?_
              rotate_left
              ·show Act.put _ (some 45) _ = _
               simp only [Act.put, List.setIfInBounds_toArray, List.set_cons_zero, List.set_cons_succ, i64_w, i32_w]
               rfl
              refine pure_ (i := 10) (N := some 46) (v := ?_) (a' := ?_) #[true, true, true, true, true, true, true, true, true, true, true, false, false, false, false] rfl rfl (any_of HT_.out (by kernel_rfl)) (fun _ _ _ h => h) (Or.inl ⟨by rfl, ?_⟩) ?_ ?_
              rotate_left
              ·intro w'
               go_simp
               with_reducible rfl
              rotate_left
              ·simp only [Act.put, List.setIfInBounds_toArray, List.set_cons_zero, List.set_cons_succ, i64_w, i32_w]
               rfl
              refine take_ (i := 11) (N := some 47) (v := ?_) (a' := ?_) #[true, true, true, true, true, true, true, true, true, true, true, true, false, false, false] rfl rfl (take_ofW HT_.out HW_.out (by kernel_rfl)) (fun _ _ _ h => h) (Or.inl ⟨by rfl, ?_⟩) hHeld ?_ ?_
              rotate_left
              ·rintro w' ⟨s0, s1⟩
               go_simp
               with_reducible rfl
              rotate_left
              ·simp only [Act.put, List.setIfInBounds_toArray, List.set_cons_zero, List.set_cons_succ, i64_w, i32_w]
               rfl
              refine one_ (i := 12) (N := some 48) #[true, true, true, true, true, true, true, true, true, true, true, true, true, false, false] rfl rfl (one_of HT_.out (by kernel_rfl)) (by decide) (fun K hK => ?_)
              refine Kd.R_lit_step Kd.string _ 9 ?hg (N := 48) ?hd (xs := ([rdOf ByteArray.empty t349 t352, rdOf ByteArray.empty t349 t354] : List ByteArray)) (inner := [.string (rdOf ByteArray.empty t349 t352), .string (rdOf ByteArray.empty t349 t354)]) (ok := fun _ => True) (okp := fun _ => True) ?hr ?hp (fun _ hk => hk) trivial (Below.refl _ _) (Nat.le_refl _) (by simp) ?_; (case hd => rfl); (case hg => rfl); (case hr => first | (go_simp; done) | (go_simp; rfl)); (case hp => exact (Reps.one (show Kd.M Kd.string _ _ _ (rdOf ByteArray.empty t349 t352) [.string (rdOf ByteArray.empty t349 t352)] from rfl) (Reps.one (show Kd.M Kd.string _ _ _ (rdOf ByteArray.empty t349 t354) [.string (rdOf ByteArray.empty t349 t354)] from rfl) (Reps.none _ _))))
              intro v357 w44 ho45 hb hg_ hnew_
              have HS0_ := (hb.cell (World.block_lt_of_cell? _ _ (hHeld.1))).trans (hHeld.1)
              have HS1_ := (hb.cell (World.block_lt_of_cell? _ _ (hHeld.2))).trans (hHeld.2)
              clear hg_ hnew_
              (first | rw [← Ny356.out] at ho45 | (simp only [Int.reduceToNat] at ho45; rw [← Ny356.out] at ho45))
              have n0_ := Aside0.mk (Kd.R_below (rq HO_7) hb)
              have n1_ := Aside0.mk (Kd.R_below (rq HO_8) hb)
              have n2_ := Aside0.mk (Kd.R_elder' (rq HO_9) (Kd.R_base ho45) hb)
              have n3_ := Aside0.mk (Kd.R_elder' (rq HO351) (Kd.R_base ho45) hb)
              have n4_ := Aside0.mk (Kd.R_lower (Kd.R_new' (Kd.R_new' ho45 (Kd.R_lt (rq HO_9))) (Kd.R_lt (rq HO351))) (below_size (hq HB)))
              have n5_ := Aside0.mk (below_step (hq HB) hb)
              clear HO_7
              clear HO_8
              clear HO_9
              clear HO351
              clear HB
              have HO_7 := n0_
              have HO_8 := n1_
              have HO_9 := n2_
              have HO351 := n3_
              have HO358 := n4_
              have HB := n5_
              clear n0_ n1_ n2_ n3_ n4_ n5_
              clear hb ho45
              obtain ⟨Ao47, co47, eo47⟩ := Kd.R_slice HO358.out
              (first | subst eo47 | (injection eo47 with f1_ f2_ f3_; have f4_ := f1_.symm; have f5_ := f3_.symm; clear f1_ f2_ f3_; subst f4_; subst f5_))
              refine hK.out _ _ ⟨HS0_, HS1_⟩ (fun hHeld => ?_)
              clear hK K
              refine norm_ (a' := ?_) ?_ ?_
              rotate_left
              ·show Act.put _ (some 48) _ = _
               simp only [Act.put, List.setIfInBounds_toArray, List.set_cons_zero, List.set_cons_succ, i64_w, i32_w]
               rfl
              refine last_ (i := 13) (N := some 49) #[true, true, true, true, true, true, true, true, true, true, true, true, true, true, false] rfl rfl (one_of HT_.out (by kernel_rfl)) (by decide) (fun K hK => ?_)
              refine Kd.R_append_rows_step Kd.string (w0 := w) w.heap.size (by rfl) (.tmp 36) (.tmp 48) 46 9 (.string ⟨#[]⟩) 16 rfl Try.underlying46 info9 rfl (by decide) (by omega) u9 x9_5 y356 _ _ _ (fun k_ => some k_ ≠ (.slice (some ad353) t349.length co43 : Value).ownBlock ∧ some k_ ≠ (.slice Ao47 y356.length co47 : Value).ownBlock) (fun _ => False) rfl rfl ?aO ?aR (fun _ _ h => h) (fun _ h => h.elim) ?aF ?aB ?aS ?aL ?_
              (case aR => repeat (first | exact (Kd.R_reads' HO358.out).2.2 | (with_reducible refine Kd.C_alloc ?_ _) | (with_reducible refine Kd.C_drewN ?_ _) | (with_reducible refine Kd.C_drew ?_)))
              (case aB => exact (hq HB))
              (case aF => exact (fun k_ hk => ⟨Kd.fresh' (Kd.R_lt (rq HO351)) k_ hk, Kd.fresh' (Kd.R_lt (rq HO358)) k_ hk⟩))
              (case aO => exact (by (with_reducible repeat (first | apply Kd.R_alloc | apply Kd.R_drewN | apply Kd.R_drew)); exact Kd.R_mono HO_9.out (fun _ hk => ⟨hk.1.2, hk.2⟩)))
              (case aS => exact (below_size (hq HB)))
              (case aL => have := LMc21.out; omega)
              intro v360 w46 ho hb hg hat
              rw [← Ny359.out] at ho
              have n0_ := Aside0.mk (Kd.R_over' (rq HO_7) (Kd.R_typed (rq HO_9)) (by decide) hg)
              have n1_ := Aside0.mk (Kd.R_over' (rq HO_8) (Kd.R_typed (rq HO_9)) (by decide) hg)
              have n2_ := Aside0.mk (Kd.R_after (ok := (fun k_ => some k_ ≠ (.slice Ao47 y356.length co47 : Value).ownBlock)) (by (with_reducible repeat (first | apply Kd.R_alloc | apply Kd.R_drewN | apply Kd.R_drew)); exact Kd.R_mono HO351.out (fun _ hk => ⟨hk.2, hk.1.2⟩)) hg hat)
              have n3_ := Aside0.mk (Kd.R_after (ok := (fun k_ => some k_ ≠ (.slice (some ad353) t349.length co43 : Value).ownBlock)) (by (with_reducible repeat (first | apply Kd.R_alloc | apply Kd.R_drewN | apply Kd.R_drew)); exact Kd.R_mono HO358.out (fun _ hk => ⟨hk.2, hk.1.2⟩)) hg hat)
              have n4_ := Aside0.mk (hb)
              have n5_ := Aside0.mk (ho)
              clear HO_7
              clear HO_8
              clear HO351
              clear HO358
              clear HB
              clear HO_9
              have HO_7 := n0_
              have HO_8 := n1_
              have HO351 := n2_
              have HO358 := n3_
              have HB := n4_
              have HO361 := n5_
              clear n0_ n1_ n2_ n3_ n4_ n5_
              clear ho hb hg hat
              refine hK.out _ _ ?_
              clear hK K
              refine norm_ (a' := ?_) ?_ ?_
              rotate_left
              ·show Act.put _ (some 49) _ = _
               simp only [Act.put, List.setIfInBounds_toArray, List.set_cons_zero, List.set_cons_succ, i64_w, i32_w]
               rfl
              refine pure_ (i := 14) (N := some 9) (v := ?_) (a' := ?_) #[true, true, true, true, true, true, true, true, true, true, true, true, true, true, true] rfl rfl (any_of HT_.out (by kernel_rfl)) (fun _ _ _ h => h) (Or.inl ⟨by rfl, ?_⟩) ?_ ?_
              rotate_left
              ·intro w'
               go_simp
               with_reducible rfl
              rotate_left
              ·simp only [Act.put, List.setIfInBounds_toArray, List.set_cons_zero, List.set_cons_succ, i64_w, i32_w]
               rfl
              refine done_ (done_of HT_.out (by kernel_rfl)) ?_
              obtain ⟨Ao48, co48, eo48⟩ := Kd.R_slice HO_7.out
              subst eo48
              obtain ⟨Ao49, co49, eo49⟩ := Kd.R_slice HO361.out
              subst eo49
              try go_wp2_with (first | ((with_reducible refine gate_callee (f := 33) rfl ?_); refine goesL_ (some 52) rfl rfl Try.func33 (by kernel_rfl) rfl #[.slice Ao48 t339.length co48, .slice Ao49 y359.length co49] rfl aq ?_; (with_reducible refine (labels_Keep.calls kj5 _ _ t339 _ _ y359 t362 _ ?side1 ?side2 ?side3 ?side4 A22.out).mono ?_); (case side1 => repeat (first | exact (Kd.R_reads' HO_7.out).2.2 | (with_reducible refine Kd.C_alloc ?_ _) | (with_reducible refine Kd.C_drewN ?_ _) | (with_reducible refine Kd.C_drew ?_))); (case side2 => exact (Kd.R_reads' HO_7.out).2.1); (case side3 => repeat (first | exact (Kd.R_reads' HO361.out).2.2 | (with_reducible refine Kd.C_alloc ?_ _) | (with_reducible refine Kd.C_drewN ?_ _) | (with_reducible refine Kd.C_drew ?_))); (case side4 => exact (Kd.R_reads' HO361.out).2.1); rintro e w50 ⟨v363, rfl, ho0, hb⟩; refine ⟨_, rfl, ?_⟩; have n0_ := Aside0.mk (Kd.R_elder' (rq HO_7) (Kd.R_base ho0) hb); have n1_ := Aside0.mk (Kd.R_elder' (rq HO_8) (Kd.R_base ho0) hb); have n2_ := Aside0.mk (Kd.R_below (rq HO351) hb); have n3_ := Aside0.mk (Kd.R_below (rq HO358) hb); have n4_ := Aside0.mk (Kd.R_below (rq HO361) hb); have n5_ := Aside0.mk (Kd.R_lower (Kd.R_new' (Kd.R_new' ho0 (Kd.R_lt (rq HO_7))) (Kd.R_lt (rq HO_8))) (below_size (hq HB))); have n6_ := Aside0.mk (below_step (hq HB) hb); clear HO_7; clear HO_8; clear HO351; clear HO358; clear HO361; clear HB; have HO_7 := n0_; have HO_8 := n1_; have HO351 := n2_; have HO358 := n3_; have HO361 := n4_; have HO364 := n5_; have HB := n6_; clear n0_ n1_ n2_ n3_ n4_ n5_ n6_; (try clear hb); (try clear hb2); (try clear hk); (try clear hi); (try clear ho0); obtain ⟨Ao51, co51, eo51⟩ := Kd.R_slice HO_8.out; subst eo51) | ((with_reducible refine gate_callee (f := 33) rfl ?_); refine goesL_ (some 55) rfl rfl Try.func33 (by kernel_rfl) rfl #[.slice Ao51 t342.length co51, .slice Ao49 y359.length co49] rfl aq ?_; (with_reducible refine (labels_Keep.calls kj5 _ _ t342 _ _ y359 t365 _ ?side1 ?side2 ?side3 ?side4 A23.out).mono ?_); (case side1 => repeat (first | exact (Kd.R_reads' HO_8.out).2.2 | (with_reducible refine Kd.C_alloc ?_ _) | (with_reducible refine Kd.C_drewN ?_ _) | (with_reducible refine Kd.C_drew ?_))); (case side2 => exact (Kd.R_reads' HO_8.out).2.1); (case side3 => repeat (first | exact (Kd.R_reads' HO361.out).2.2 | (with_reducible refine Kd.C_alloc ?_ _) | (with_reducible refine Kd.C_drewN ?_ _) | (with_reducible refine Kd.C_drew ?_))); (case side4 => exact (Kd.R_reads' HO361.out).2.1); rintro e w52 ⟨v366, rfl, ho0, hb⟩; refine ⟨_, rfl, ?_⟩; have n0_ := Aside0.mk (Kd.R_elder' (rq HO_7) (Kd.R_base ho0) hb); have n1_ := Aside0.mk (Kd.R_elder' (rq HO_8) (Kd.R_base ho0) hb); have n2_ := Aside0.mk (Kd.R_below (rq HO351) hb); have n3_ := Aside0.mk (Kd.R_below (rq HO358) hb); have n4_ := Aside0.mk (Kd.R_below (rq HO361) hb); have n5_ := Aside0.mk (Kd.R_elder' (rq HO364) (Kd.R_base ho0) hb); have n6_ := Aside0.mk (Kd.R_lower (Kd.R_new' (Kd.R_new' (Kd.R_new' ho0 (Kd.R_lt (rq HO_7))) (Kd.R_lt (rq HO_8))) (Kd.R_lt (rq HO364))) (below_size (hq HB))); have n7_ := Aside0.mk (below_step (hq HB) hb); clear HO_7; clear HO_8; clear HO351; clear HO358; clear HO361; clear HO364; clear HB; have HO_7 := n0_; have HO_8 := n1_; have HO351 := n2_; have HO358 := n3_; have HO361 := n4_; have HO364 := n5_; have HO367 := n6_; have HB := n7_; clear n0_ n1_ n2_ n3_ n4_ n5_ n6_ n7_; (try clear hb); (try clear hb2); (try clear hk); (try clear hi); (try clear ho0)) | ((with_reducible refine gate_callee (f := 34) rfl ?_); refine goesL_ (some 59) rfl rfl Try.func34 (by kernel_rfl) rfl #[.slice Ao48 t339.length co48, .slice Ao49 y359.length co49] rfl aq ?_; (with_reducible refine (intervalmonref05_Keep.calls kj5 _ _ t339 _ _ y359 t368 _ ?side1 ?side2 ?side3 ?side4 A24.out).mono ?_); (case side1 => repeat (first | exact (Kd.R_reads' HO_7.out).2.2 | (with_reducible refine Kd.C_alloc ?_ _) | (with_reducible refine Kd.C_drewN ?_ _) | (with_reducible refine Kd.C_drew ?_))); (case side2 => exact (Kd.R_reads' HO_7.out).2.1); (case side3 => repeat (first | exact (Kd.R_reads' HO361.out).2.2 | (with_reducible refine Kd.C_alloc ?_ _) | (with_reducible refine Kd.C_drewN ?_ _) | (with_reducible refine Kd.C_drew ?_))); (case side4 => exact (Kd.R_reads' HO361.out).2.1); rintro e w53 ⟨v369, rfl, ho0, hb⟩; refine ⟨_, rfl, ?_⟩; have n0_ := Aside0.mk (Kd.R_elder' (rq HO_7) (Kd.R_base ho0) hb); have n1_ := Aside0.mk (Kd.R_elder' (rq HO_8) (Kd.R_base ho0) hb); have n2_ := Aside0.mk (Kd.R_below (rq HO351) hb); have n3_ := Aside0.mk (Kd.R_below (rq HO358) hb); have n4_ := Aside0.mk (Kd.R_below (rq HO361) hb); have n5_ := Aside0.mk (Kd.R_elder' (rq HO364) (Kd.R_base ho0) hb); have n6_ := Aside0.mk (Kd.R_elder' (rq HO367) (Kd.R_base ho0) hb); have n7_ := Aside0.mk (Kd.R_lower (Kd.R_new' (Kd.R_new' (Kd.R_new' (Kd.R_new' ho0 (Kd.R_lt (rq HO_7))) (Kd.R_lt (rq HO_8))) (Kd.R_lt (rq HO364))) (Kd.R_lt (rq HO367))) (below_size (hq HB))); have n8_ := Aside0.mk (below_step (hq HB) hb); clear HO_7; clear HO_8; clear HO351; clear HO358; clear HO361; clear HO364; clear HO367; clear HB; have HO_7 := n0_; have HO_8 := n1_; have HO351 := n2_; have HO358 := n3_; have HO361 := n4_; have HO364 := n5_; have HO367 := n6_; have HO370 := n7_; have HB := n8_; clear n0_ n1_ n2_ n3_ n4_ n5_ n6_ n7_ n8_; (try clear hb); (try clear hb2); (try clear hk); (try clear hi); (try clear ho0); obtain ⟨Ao54, co54, eo54⟩ := Kd.R_slice HO364.out; subst eo54; obtain ⟨Ao55, co55, eo55⟩ := Kd.R_slice HO370.out; subst eo55) | ((with_reducible refine gate_callee (f := 26) rfl ?_); refine goesL_ (some 60) rfl rfl Try.func26 (by kernel_rfl) rfl #[.slice Ao54 t362.length co54, .slice Ao55 t368.length co55] rfl aq ?_; (with_reducible refine (intervalmonref05_Same.calls kj5 _ _ t362 _ _ t368 true _ ?side1 ?side2 ?side3 ?side4 A25.out).mono ?_); (case side1 => repeat (first | exact (Kd.R_reads' HO364.out).2.2 | (with_reducible refine Kd.C_alloc ?_ _) | (with_reducible refine Kd.C_drewN ?_ _) | (with_reducible refine Kd.C_drew ?_))); (case side2 => exact (Kd.R_reads' HO364.out).2.1); (case side3 => repeat (first | exact (Kd.R_reads' HO370.out).2.2 | (with_reducible refine Kd.C_alloc ?_ _) | (with_reducible refine Kd.C_drewN ?_ _) | (with_reducible refine Kd.C_drew ?_))); (case side4 => exact (Kd.R_reads' HO370.out).2.1); rintro e w' ⟨rfl, ⟨nd, rfl⟩⟩; refine ⟨_, rfl, ?_⟩) | (go_at_call 34; (with_reducible refine (intervalmonref05_Keep.calls kj5 _ _ t342 _ _ y359 t372 _ ?side1 ?side2 ?side3 ?side4 A27.out).mono ?_); (case side1 => repeat (first | exact (Kd.R_reads' HO_8.out).2.2 | (with_reducible refine Kd.C_alloc ?_ _) | (with_reducible refine Kd.C_drewN ?_ _) | (with_reducible refine Kd.C_drew ?_))); (case side2 => exact (Kd.R_reads' HO_8.out).2.1); (case side3 => repeat (first | exact (Kd.R_reads' HO361.out).2.2 | (with_reducible refine Kd.C_alloc ?_ _) | (with_reducible refine Kd.C_drewN ?_ _) | (with_reducible refine Kd.C_drew ?_))); (case side4 => exact (Kd.R_reads' HO361.out).2.1); rintro e w56 ⟨v373, rfl, ho0, hb⟩; have n0_ := Aside0.mk (Kd.R_elder' (rq HO_7) (Kd.R_base ho0) hb); have n1_ := Aside0.mk (Kd.R_elder' (rq HO_8) (Kd.R_base ho0) hb); have n2_ := Aside0.mk (Kd.R_below (rq HO351) hb); have n3_ := Aside0.mk (Kd.R_below (rq HO358) hb); have n4_ := Aside0.mk (Kd.R_below (rq HO361) hb); have n5_ := Aside0.mk (Kd.R_elder' (rq HO364) (Kd.R_base ho0) hb); have n6_ := Aside0.mk (Kd.R_elder' (rq HO367) (Kd.R_base ho0) hb); have n7_ := Aside0.mk (Kd.R_elder' (rq HO370) (Kd.R_base ho0) hb); have n8_ := Aside0.mk (Kd.R_lower (Kd.R_new' (Kd.R_new' (Kd.R_new' (Kd.R_new' (Kd.R_new' ho0 (Kd.R_lt (rq HO_7))) (Kd.R_lt (rq HO_8))) (Kd.R_lt (rq HO364))) (Kd.R_lt (rq HO367))) (Kd.R_lt (rq HO370))) (below_size (hq HB))); have n9_ := Aside0.mk (below_step (hq HB) hb); clear HO_7; clear HO_8; clear HO351; clear HO358; clear HO361; clear HO364; clear HO367; clear HO370; clear HB; have HO_7 := n0_; have HO_8 := n1_; have HO351 := n2_; have HO358 := n3_; have HO361 := n4_; have HO364 := n5_; have HO367 := n6_; have HO370 := n7_; have HO374 := n8_; have HB := n9_; clear n0_ n1_ n2_ n3_ n4_ n5_ n6_ n7_ n8_ n9_; (try clear hb); (try clear hb2); (try clear hk); (try clear hi); (try clear ho0); obtain ⟨Ao57, co57, eo57⟩ := Kd.R_slice HO367.out; subst eo57; obtain ⟨Ao58, co58, eo58⟩ := Kd.R_slice HO374.out; subst eo58) | (go_at_call 26; (with_reducible refine (intervalmonref05_Same.calls kj5 _ _ t365 _ _ t372 true _ ?side1 ?side2 ?side3 ?side4 A28.out).mono ?_); (case side1 => repeat (first | exact (Kd.R_reads' HO367.out).2.2 | (with_reducible refine Kd.C_alloc ?_ _) | (with_reducible refine Kd.C_drewN ?_ _) | (with_reducible refine Kd.C_drew ?_))); (case side2 => exact (Kd.R_reads' HO367.out).2.1); (case side3 => repeat (first | exact (Kd.R_reads' HO374.out).2.2 | (with_reducible refine Kd.C_alloc ?_ _) | (with_reducible refine Kd.C_drewN ?_ _) | (with_reducible refine Kd.C_drew ?_))); (case side4 => exact (Kd.R_reads' HO374.out).2.1); rintro e w' ⟨rfl, ⟨nd, rfl⟩⟩) | (go_at_call 33; (with_reducible refine (labels_Keep.calls kj5 _ _ t365 _ _ y359 t376 _ ?side1 ?side2 ?side3 ?side4 A30.out).mono ?_); (case side1 => repeat (first | exact (Kd.R_reads' HO367.out).2.2 | (with_reducible refine Kd.C_alloc ?_ _) | (with_reducible refine Kd.C_drewN ?_ _) | (with_reducible refine Kd.C_drew ?_))); (case side2 => exact (Kd.R_reads' HO367.out).2.1); (case side3 => repeat (first | exact (Kd.R_reads' HO361.out).2.2 | (with_reducible refine Kd.C_alloc ?_ _) | (with_reducible refine Kd.C_drewN ?_ _) | (with_reducible refine Kd.C_drew ?_))); (case side4 => exact (Kd.R_reads' HO361.out).2.1); rintro e w59 ⟨v377, rfl, ho0, hb⟩; have n0_ := Aside0.mk (Kd.R_elder' (rq HO_7) (Kd.R_base ho0) hb); have n1_ := Aside0.mk (Kd.R_elder' (rq HO_8) (Kd.R_base ho0) hb); have n2_ := Aside0.mk (Kd.R_below (rq HO351) hb); have n3_ := Aside0.mk (Kd.R_below (rq HO358) hb); have n4_ := Aside0.mk (Kd.R_below (rq HO361) hb); have n5_ := Aside0.mk (Kd.R_elder' (rq HO364) (Kd.R_base ho0) hb); have n6_ := Aside0.mk (Kd.R_elder' (rq HO367) (Kd.R_base ho0) hb); have n7_ := Aside0.mk (Kd.R_elder' (rq HO370) (Kd.R_base ho0) hb); have n8_ := Aside0.mk (Kd.R_elder' (rq HO374) (Kd.R_base ho0) hb); have n9_ := Aside0.mk (Kd.R_lower (Kd.R_new' (Kd.R_new' (Kd.R_new' (Kd.R_new' (Kd.R_new' (Kd.R_new' ho0 (Kd.R_lt (rq HO_7))) (Kd.R_lt (rq HO_8))) (Kd.R_lt (rq HO364))) (Kd.R_lt (rq HO367))) (Kd.R_lt (rq HO370))) (Kd.R_lt (rq HO374))) (below_size (hq HB))); have n10_ := Aside0.mk (below_step (hq HB) hb); clear HO_7; clear HO_8; clear HO351; clear HO358; clear HO361; clear HO364; clear HO367; clear HO370; clear HO374; clear HB; have HO_7 := n0_; have HO_8 := n1_; have HO351 := n2_; have HO358 := n3_; have HO361 := n4_; have HO364 := n5_; have HO367 := n6_; have HO370 := n7_; have HO374 := n8_; have HO378 := n9_; have HB := n10_; clear n0_ n1_ n2_ n3_ n4_ n5_ n6_ n7_ n8_ n9_ n10_; (try clear hb); (try clear hb2); (try clear hk); (try clear hi); (try clear ho0); obtain ⟨Ao60, co60, eo60⟩ := Kd.R_slice HO378.out; subst eo60) | (go_at_call 26; (with_reducible refine (intervalmonref05_Same.calls kj5 _ _ t376 _ _ t365 true _ ?side1 ?side2 ?side3 ?side4 A31.out).mono ?_); (case side1 => repeat (first | exact (Kd.R_reads' HO378.out).2.2 | (with_reducible refine Kd.C_alloc ?_ _) | (with_reducible refine Kd.C_drewN ?_ _) | (with_reducible refine Kd.C_drew ?_))); (case side2 => exact (Kd.R_reads' HO378.out).2.1); (case side3 => repeat (first | exact (Kd.R_reads' HO367.out).2.2 | (with_reducible refine Kd.C_alloc ?_ _) | (with_reducible refine Kd.C_drewN ?_ _) | (with_reducible refine Kd.C_drew ?_))); (case side4 => exact (Kd.R_reads' HO367.out).2.1); rintro e w' ⟨rfl, ⟨nd, rfl⟩⟩) | (go_at_call 27; (with_reducible refine (labels_Valid.calls kj5 _ _ t365 true _ ?side1 ?side2 A33.out).mono ?_); (case side1 => repeat (first | exact (Kd.R_reads' HO367.out).2.2 | (with_reducible refine Kd.C_alloc ?_ _) | (with_reducible refine Kd.C_drewN ?_ _) | (with_reducible refine Kd.C_drew ?_))); (case side2 => exact (Kd.R_reads' HO367.out).2.1); rintro e w61 ⟨rfl, hb⟩; have n0_ := Aside0.mk (Kd.R_below (rq HO_7) hb); have n1_ := Aside0.mk (Kd.R_below (rq HO_8) hb); have n2_ := Aside0.mk (Kd.R_below (rq HO351) hb); have n3_ := Aside0.mk (Kd.R_below (rq HO358) hb); have n4_ := Aside0.mk (Kd.R_below (rq HO361) hb); have n5_ := Aside0.mk (Kd.R_below (rq HO364) hb); have n6_ := Aside0.mk (Kd.R_below (rq HO367) hb); have n7_ := Aside0.mk (Kd.R_below (rq HO370) hb); have n8_ := Aside0.mk (Kd.R_below (rq HO374) hb); have n9_ := Aside0.mk (Kd.R_below (rq HO378) hb); have n10_ := Aside0.mk (below_step (hq HB) hb); clear HO_7; clear HO_8; clear HO351; clear HO358; clear HO361; clear HO364; clear HO367; clear HO370; clear HO374; clear HO378; clear HB; have HO_7 := n0_; have HO_8 := n1_; have HO351 := n2_; have HO358 := n3_; have HO361 := n4_; have HO364 := n5_; have HO367 := n6_; have HO370 := n7_; have HO374 := n8_; have HO378 := n9_; have HB := n10_; clear n0_ n1_ n2_ n3_ n4_ n5_ n6_ n7_ n8_ n9_ n10_; (try clear hb); (try clear hb2); (try clear hk); (try clear hi)) | (go_at_call 33; (with_reducible refine (labels_Keep.calls kj5 _ _ t342 _ _ t349 t381 _ ?side1 ?side2 ?side3 ?side4 A35.out).mono ?_); (case side1 => repeat (first | exact (Kd.R_reads' HO_8.out).2.2 | (with_reducible refine Kd.C_alloc ?_ _) | (with_reducible refine Kd.C_drewN ?_ _) | (with_reducible refine Kd.C_drew ?_))); (case side2 => exact (Kd.R_reads' HO_8.out).2.1); (case side3 => repeat (first | exact (Kd.R_reads' HO351.out).2.2 | (with_reducible refine Kd.C_alloc ?_ _) | (with_reducible refine Kd.C_drewN ?_ _) | (with_reducible refine Kd.C_drew ?_))); (case side4 => exact (Kd.R_reads' HO351.out).2.1); rintro e w62 ⟨v382, rfl, ho0, hb⟩; have n0_ := Aside0.mk (Kd.R_elder' (rq HO_7) (Kd.R_base ho0) hb); have n1_ := Aside0.mk (Kd.R_elder' (rq HO_8) (Kd.R_base ho0) hb); have n2_ := Aside0.mk (Kd.R_below (rq HO351) hb); have n3_ := Aside0.mk (Kd.R_below (rq HO358) hb); have n4_ := Aside0.mk (Kd.R_below (rq HO361) hb); have n5_ := Aside0.mk (Kd.R_elder' (rq HO364) (Kd.R_base ho0) hb); have n6_ := Aside0.mk (Kd.R_elder' (rq HO367) (Kd.R_base ho0) hb); have n7_ := Aside0.mk (Kd.R_elder' (rq HO370) (Kd.R_base ho0) hb); have n8_ := Aside0.mk (Kd.R_elder' (rq HO374) (Kd.R_base ho0) hb); have n9_ := Aside0.mk (Kd.R_elder' (rq HO378) (Kd.R_base ho0) hb); have n10_ := Aside0.mk (Kd.R_lower (Kd.R_new' (Kd.R_new' (Kd.R_new' (Kd.R_new' (Kd.R_new' (Kd.R_new' (Kd.R_new' ho0 (Kd.R_lt (rq HO_7))) (Kd.R_lt (rq HO_8))) (Kd.R_lt (rq HO364))) (Kd.R_lt (rq HO367))) (Kd.R_lt (rq HO370))) (Kd.R_lt (rq HO374))) (Kd.R_lt (rq HO378))) (below_size (hq HB))); have n11_ := Aside0.mk (below_step (hq HB) hb); clear HO_7; clear HO_8; clear HO351; clear HO358; clear HO361; clear HO364; clear HO367; clear HO370; clear HO374; clear HO378; clear HB; have HO_7 := n0_; have HO_8 := n1_; have HO351 := n2_; have HO358 := n3_; have HO361 := n4_; have HO364 := n5_; have HO367 := n6_; have HO370 := n7_; have HO374 := n8_; have HO378 := n9_; have HO383 := n10_; have HB := n11_; clear n0_ n1_ n2_ n3_ n4_ n5_ n6_ n7_ n8_ n9_ n10_ n11_; (try clear hb); (try clear hb2); (try clear hk); (try clear hi); (try clear ho0); obtain ⟨Ao63, co63, eo63⟩ := Kd.R_slice HO383.out; subst eo63) | (go_at_call 26; (with_reducible refine (intervalmonref05_Same.calls kj5 _ _ t381 _ _ t342 true _ ?side1 ?side2 ?side3 ?side4 A36.out).mono ?_); (case side1 => repeat (first | exact (Kd.R_reads' HO383.out).2.2 | (with_reducible refine Kd.C_alloc ?_ _) | (with_reducible refine Kd.C_drewN ?_ _) | (with_reducible refine Kd.C_drew ?_))); (case side2 => exact (Kd.R_reads' HO383.out).2.1); (case side3 => repeat (first | exact (Kd.R_reads' HO_8.out).2.2 | (with_reducible refine Kd.C_alloc ?_ _) | (with_reducible refine Kd.C_drewN ?_ _) | (with_reducible refine Kd.C_drew ?_))); (case side4 => exact (Kd.R_reads' HO_8.out).2.1); rintro e w' ⟨rfl, ⟨nd, rfl⟩⟩) | (go_at_call 33; (refine (labels_Keep.calls kj5 _ _ t342 _ _ ([] : List ByteArray) t385 _ ?side1 ?side2 ?side3 ?side4 A38.out).mono ?_); (case side1 => repeat (first | exact (Kd.R_reads' HO_8.out).2.2 | (with_reducible refine Kd.C_alloc ?_ _) | (with_reducible refine Kd.C_drewN ?_ _) | (with_reducible refine Kd.C_drew ?_))); (case side2 => exact (Kd.R_reads' HO_8.out).2.1); (case side3 => exact Kd.C_nil _ _); (case side4 => exact Nat.le_refl _); rintro e w64 ⟨v386, rfl, ho0, hb⟩; have n0_ := Aside0.mk (Kd.R_elder' (rq HO_7) (Kd.R_base ho0) hb); have n1_ := Aside0.mk (Kd.R_elder' (rq HO_8) (Kd.R_base ho0) hb); have n2_ := Aside0.mk (Kd.R_below (rq HO351) hb); have n3_ := Aside0.mk (Kd.R_below (rq HO358) hb); have n4_ := Aside0.mk (Kd.R_below (rq HO361) hb); have n5_ := Aside0.mk (Kd.R_elder' (rq HO364) (Kd.R_base ho0) hb); have n6_ := Aside0.mk (Kd.R_elder' (rq HO367) (Kd.R_base ho0) hb); have n7_ := Aside0.mk (Kd.R_elder' (rq HO370) (Kd.R_base ho0) hb); have n8_ := Aside0.mk (Kd.R_elder' (rq HO374) (Kd.R_base ho0) hb); have n9_ := Aside0.mk (Kd.R_elder' (rq HO378) (Kd.R_base ho0) hb); have n10_ := Aside0.mk (Kd.R_elder' (rq HO383) (Kd.R_base ho0) hb); have n11_ := Aside0.mk (Kd.R_lower (Kd.R_new' (Kd.R_new' (Kd.R_new' (Kd.R_new' (Kd.R_new' (Kd.R_new' (Kd.R_new' (Kd.R_new' ho0 (Kd.R_lt (rq HO_7))) (Kd.R_lt (rq HO_8))) (Kd.R_lt (rq HO364))) (Kd.R_lt (rq HO367))) (Kd.R_lt (rq HO370))) (Kd.R_lt (rq HO374))) (Kd.R_lt (rq HO378))) (Kd.R_lt (rq HO383))) (below_size (hq HB))); have n12_ := Aside0.mk (below_step (hq HB) hb); clear HO_7; clear HO_8; clear HO351; clear HO358; clear HO361; clear HO364; clear HO367; clear HO370; clear HO374; clear HO378; clear HO383; clear HB; have HO_7 := n0_; have HO_8 := n1_; have HO351 := n2_; have HO358 := n3_; have HO361 := n4_; have HO364 := n5_; have HO367 := n6_; have HO370 := n7_; have HO374 := n8_; have HO378 := n9_; have HO383 := n10_; have HO387 := n11_; have HB := n12_; clear n0_ n1_ n2_ n3_ n4_ n5_ n6_ n7_ n8_ n9_ n10_ n11_ n12_; (try clear hb); (try clear hb2); (try clear hk); (try clear hi); (try clear ho0); obtain ⟨Ao65, co65, eo65⟩ := Kd.R_slice HO387.out; subst eo65) | (go_at_call 18; (with_reducible refine (intervalmonlaw05_lives.calls  t388 _ A40.out).mono ?_); rintro e w66 ⟨rfl, hb⟩; have n0_ := Aside0.mk (Kd.R_below (rq HO_7) hb); have n1_ := Aside0.mk (Kd.R_below (rq HO_8) hb); have n2_ := Aside0.mk (Kd.R_below (rq HO351) hb); have n3_ := Aside0.mk (Kd.R_below (rq HO358) hb); have n4_ := Aside0.mk (Kd.R_below (rq HO361) hb); have n5_ := Aside0.mk (Kd.R_below (rq HO364) hb); have n6_ := Aside0.mk (Kd.R_below (rq HO367) hb); have n7_ := Aside0.mk (Kd.R_below (rq HO370) hb); have n8_ := Aside0.mk (Kd.R_below (rq HO374) hb); have n9_ := Aside0.mk (Kd.R_below (rq HO378) hb); have n10_ := Aside0.mk (Kd.R_below (rq HO383) hb); have n11_ := Aside0.mk (Kd.R_below (rq HO387) hb); have n12_ := Aside0.mk (below_step (hq HB) hb); clear HO_7; clear HO_8; clear HO351; clear HO358; clear HO361; clear HO364; clear HO367; clear HO370; clear HO374; clear HO378; clear HO383; clear HO387; clear HB; have HO_7 := n0_; have HO_8 := n1_; have HO351 := n2_; have HO358 := n3_; have HO361 := n4_; have HO364 := n5_; have HO367 := n6_; have HO370 := n7_; have HO374 := n8_; have HO378 := n9_; have HO383 := n10_; have HO387 := n11_; have HB := n12_; clear n0_ n1_ n2_ n3_ n4_ n5_ n6_ n7_ n8_ n9_ n10_ n11_ n12_; (try clear hb); (try clear hb2); (try clear hk); (try clear hi)))
              go_ret
              exact ⟨by first | rfl | (simp [errW_none, errW_some] <;> rfl) | (simp [*, errW_none, errW_some] <;> rfl), by repeat (first | (with_reducible first | exact HB.out | apply below_alloc | apply pw_below_drewN | apply below_drew1) | exact HB.out)⟩
             ·rw [if_neg c39] at H
              have c39b0 : ((t385.length : Int) == 0) = false := beq_eq_false_iff_ne.mpr c39
              have c39b1 : ((t385.length : Int) != 0) = true := bne_iff_ne.mpr c39
              have c39b2 : ¬ (t385 = []) := fun h_ => c39 (by rw [h_]; rfl)
              exact absurd ((Option.some.inj H).trans HT0.out) (by decide)
            ·replace c37 := Bool.eq_false_iff.mpr c37
             subst c37
             have H1 : (some false) = some r := by rw [if_neg (show ¬ (false = true) by decide)] at H; exact H
             clear H
             have H := H1
             clear H1
             exact absurd ((Option.some.inj H).trans HT0.out) (by decide)
           ·replace c34 := Bool.eq_false_iff.mpr c34
            subst c34
            have H1 : (some false) = some r := by rw [if_neg (show ¬ (false = true) by decide)] at H; exact H
            clear H
            have H := H1
            clear H1
            exact absurd ((Option.some.inj H).trans HT0.out) (by decide)
          ·replace c32 := Bool.eq_false_iff.mpr c32
           subst c32
           have H1 : (some false) = some r := by rw [if_neg (show ¬ (false = true) by decide)] at H; exact H
           clear H
           have H := H1
           clear H1
           exact absurd ((Option.some.inj H).trans HT0.out) (by decide)
         ·replace c29 := Bool.eq_false_iff.mpr c29
          subst c29
          have H1 : (some false) = some r := by rw [if_neg (show ¬ (false = true) by decide)] at H; exact H
          clear H
          have H := H1
          clear H1
          exact absurd ((Option.some.inj H).trans HT0.out) (by decide)
        ·replace c26 := Bool.eq_false_iff.mpr c26
         subst c26
         have H1 : (some false) = some r := by rw [if_neg (show ¬ (false = true) by decide)] at H; exact H
         clear H
         have H := H1
         clear H1
         exact absurd ((Option.some.inj H).trans HT0.out) (by decide)
       ·rw [if_neg c21] at H
        exact absurd H (by simp)
      ·rw [if_neg c20] at H
       exact absurd H (by simp)
     ·rw [if_neg c19] at H
      exact absurd H (by simp)
    ·rw [if_neg c17] at H
     exact absurd H (by simp)
   ·rw [if_neg c16] at H
    exact absurd H (by simp)

end Go.Proofs.Ytlohkfmobeapdaa.P
