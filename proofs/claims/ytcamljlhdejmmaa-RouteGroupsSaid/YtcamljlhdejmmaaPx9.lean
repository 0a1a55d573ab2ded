-- Written by this session's own copy of a printing program (wip/tools); Lean checks it.
import Derived.Test.YtcamljlhdejmmaaPx0
import Derived.Test.YtcamljlhdejmmaaPx7
import Derived.Test.YtcamljlhdejmmaaPx8
namespace Go.Proofs.Ytcamljlhdejmmaa.P
open Go.RowKit Go.Proofs.YtcamljlhdejmmaaW.PrintWords Go.Proofs.YtcamljlhdejmmaaW.PrintLast Go.Proofs.YtcamljlhdejmmaaW.PrintMore
attribute [local go_sem] max2_int min2_int max_two min_two max_three min_three max_four min_four   -- for this text's walks alone
set_option linter.unusedVariables false
set_option linter.unusedSimpArgs false

/-! ### intervalmonref29_Groups: function 35 -/
mutual
def intervalmonref29_Groups.l0 : Nat → List (S73) → List ByteArray → List (List (S91)) → Int → Option ((List (List Int)))
 | 0, _, _, _, _ => none
 | k + 1, x0, x1, x5, x6 => if x6 < (x0.length : Int) then (if 0 ≤ x6 then ((intervalmonref05_Keep.f k ((rd_T73 x0 x6).f2) x1).bind fun t263 => (intervalmonref29_Groups.l1 k x0 x1 x5 x6 t263 (x5.length : Int))) else (none)) else (intervalmonref29_Groups.l2 k x0 x1 x5 ([] : List (List Int)) 0)
def intervalmonref29_Groups.l1 : Nat → List (S73) → List ByteArray → List (List (S91)) → Int → List (S91) → Int → Option ((List (List Int)))
 | 0, _, _, _, _, _, _ => none
 | k + 1, x0, x1, x5, x6, x7, x8 => if x8 > 0 then (if 0 ≤ (wrap64 (x8 - 1)) then (if (wrap64 (x8 - 1)) < (x5.length : Int) then ((intervalmonref05_Compare.f k x7 (rd_L9 x5 (wrap64 (x8 - 1)))).bind fun t267 => (if t267 < 0 then (intervalmonref29_Groups.l1 k x0 x1 x5 x6 x7 (wrap64 (x8 - 1))) else ((intervalmonref05_Same.f k x7 (rd_L9 x5 (wrap64 (x8 - 1)))).bind fun t269 => (if t269 = true then (intervalmonref29_Groups.l0 k x0 x1 x5 (wrap64 (x6 + 1))) else (if 0 ≤ x8 then (if x8 ≤ (x5.length : Int) then ((some (x5.take (x8 : Int).toNat : List (List (S91)))).bind fun y270 => (if ([] : List (List (S91))).length + y270.length < 5864062014805 then ((some (([] : List (List (S91))) ++ y270 : List (List (S91)))).bind fun y275 => (if y275.length < 5864062014805 then ((some (y275 ++ [x7] : List (List (S91)))).bind fun y278 => ((some (x5.drop (x8 : Int).toNat : List (List (S91)))).bind fun y281 => (if y278.length + y281.length < 5864062014805 then (intervalmonref29_Groups.l0 k x0 x1 (y278 ++ y281) (wrap64 (x6 + 1))) else (none)))) else (none))) else (none))) else (none)) else (none)))))) else (none)) else (none)) else (if 0 ≤ x8 then (if x8 ≤ (x5.length : Int) then ((some (x5.take (x8 : Int).toNat : List (List (S91)))).bind fun y289 => (if ([] : List (List (S91))).length + y289.length < 5864062014805 then ((some (([] : List (List (S91))) ++ y289 : List (List (S91)))).bind fun y294 => (if y294.length < 5864062014805 then ((some (y294 ++ [x7] : List (List (S91)))).bind fun y297 => ((some (x5.drop (x8 : Int).toNat : List (List (S91)))).bind fun y300 => (if y297.length + y300.length < 5864062014805 then (intervalmonref29_Groups.l0 k x0 x1 (y297 ++ y300) (wrap64 (x6 + 1))) else (none)))) else (none))) else (none))) else (none)) else (none))
def intervalmonref29_Groups.l2 : Nat → List (S73) → List ByteArray → List (List (S91)) → List (List Int) → Int → Option ((List (List Int)))
 | 0, _, _, _, _, _ => none
 | k + 1, x0, x1, x5, x10, x11 => if x11 < (x5.length : Int) then (intervalmonref29_Groups.l3 k x0 x1 x5 x10 x11 ([] : List Int) 0) else (some x10)
def intervalmonref29_Groups.l3 : Nat → List (S73) → List ByteArray → List (List (S91)) → List (List Int) → Int → List Int → Int → Option ((List (List Int)))
 | 0, _, _, _, _, _, _, _ => none
 | k + 1, x0, x1, x5, x10, x11, x12, x13 => if x13 < (x0.length : Int) then (if 0 ≤ x13 then ((intervalmonref05_Keep.f k ((rd_T73 x0 x13).f2) x1).bind fun t312 => (if 0 ≤ x11 then (if x11 < (x5.length : Int) then ((intervalmonref05_Same.f k t312 (rd_L9 x5 x11)).bind fun t316 => (if t316 = true then (if x12.length < 17592186044416 then (intervalmonref29_Groups.l3 k x0 x1 x5 x10 x11 (x12 ++ [x13]) (wrap64 (x13 + 1))) else (none)) else (intervalmonref29_Groups.l3 k x0 x1 x5 x10 x11 x12 (wrap64 (x13 + 1))))) else (none)) else (none))) else (none)) else (if x10.length < 5864062014805 then (intervalmonref29_Groups.l2 k x0 x1 x5 (x10 ++ [x12]) (wrap64 (x11 + 1))) else (none))
end
def intervalmonref29_Groups.f (k : Nat) (l0 : List (S73)) (l1 : List ByteArray) : Option ((List (List Int))) := intervalmonref29_Groups.l0 k l0 l1 ([] : List (List (S91))) 0
theorem intervalmonref29_Groups.mono_l : ∀ k, (∀ y0 y1 y2 y3, LeO (intervalmonref29_Groups.l0 k y0 y1 y2 y3) (intervalmonref29_Groups.l0 (k + 1) y0 y1 y2 y3)) ∧ (∀ y0 y1 y2 y3 y4 y5, LeO (intervalmonref29_Groups.l1 k y0 y1 y2 y3 y4 y5) (intervalmonref29_Groups.l1 (k + 1) y0 y1 y2 y3 y4 y5)) ∧ (∀ y0 y1 y2 y3 y4, LeO (intervalmonref29_Groups.l2 k y0 y1 y2 y3 y4) (intervalmonref29_Groups.l2 (k + 1) y0 y1 y2 y3 y4)) ∧ (∀ y0 y1 y2 y3 y4 y5 y6, LeO (intervalmonref29_Groups.l3 k y0 y1 y2 y3 y4 y5 y6) (intervalmonref29_Groups.l3 (k + 1) y0 y1 y2 y3 y4 y5 y6))
 | 0 => ⟨fun _ _ _ _ r h => by simp [intervalmonref29_Groups.l0] at h, fun _ _ _ _ _ _ r h => by simp [intervalmonref29_Groups.l1] at h, fun _ _ _ _ _ r h => by simp [intervalmonref29_Groups.l2] at h, fun _ _ _ _ _ _ _ r h => by simp [intervalmonref29_Groups.l3] at h⟩
 | k + 1 => by
  obtain ⟨ih0, ih1, ih2, ih3⟩ := intervalmonref29_Groups.mono_l k
  refine ⟨?_, ?_, ?_, ?_⟩
  ·intro y0 y1 y2 y3
   unfold intervalmonref29_Groups.l0
   repeat' first
   | (with_reducible exact ih0 _ _ _ _)
   | (with_reducible exact ih1 _ _ _ _ _ _)
   | (with_reducible exact ih2 _ _ _ _ _)
   | (with_reducible exact ih3 _ _ _ _ _ _ _)
   | (with_reducible exact intervalmonref05_Compare.mono _ _ _)
   | (with_reducible exact intervalmonref05_Keep.mono _ _ _)
   | (with_reducible exact intervalmonref05_Same.mono _ _ _)
   | (with_reducible exact LeO.refl _)
   | (with_reducible exact LeO.none _)
   | (with_reducible refine LeO.ite ?_ ?_)
   | (with_reducible refine LeO.bind ?_ (fun _ => ?_))
   | exact ih0 _ _ _ _
   | exact ih1 _ _ _ _ _ _
   | exact ih2 _ _ _ _ _
   | exact ih3 _ _ _ _ _ _ _
   | exact intervalmonref05_Compare.mono _ _ _
   | exact intervalmonref05_Keep.mono _ _ _
   | exact intervalmonref05_Same.mono _ _ _
   | exact LeO.none _
   | refine LeO.ite ?_ ?_
   | refine LeO.bind ?_ (fun _ => ?_)
  ·intro y0 y1 y2 y3 y4 y5
   unfold intervalmonref29_Groups.l1
   repeat' first
   | (with_reducible exact ih0 _ _ _ _)
   | (with_reducible exact ih1 _ _ _ _ _ _)
   | (with_reducible exact ih2 _ _ _ _ _)
   | (with_reducible exact ih3 _ _ _ _ _ _ _)
   | (with_reducible exact intervalmonref05_Compare.mono _ _ _)
   | (with_reducible exact intervalmonref05_Keep.mono _ _ _)
   | (with_reducible exact intervalmonref05_Same.mono _ _ _)
   | (with_reducible exact LeO.refl _)
   | (with_reducible exact LeO.none _)
   | (with_reducible refine LeO.ite ?_ ?_)
   | (with_reducible refine LeO.bind ?_ (fun _ => ?_))
   | exact ih0 _ _ _ _
   | exact ih1 _ _ _ _ _ _
   | exact ih2 _ _ _ _ _
   | exact ih3 _ _ _ _ _ _ _
   | exact intervalmonref05_Compare.mono _ _ _
   | exact intervalmonref05_Keep.mono _ _ _
   | exact intervalmonref05_Same.mono _ _ _
   | exact LeO.none _
   | refine LeO.ite ?_ ?_
   | refine LeO.bind ?_ (fun _ => ?_)
  ·intro y0 y1 y2 y3 y4
   unfold intervalmonref29_Groups.l2
   repeat' first
   | (with_reducible exact ih0 _ _ _ _)
   | (with_reducible exact ih1 _ _ _ _ _ _)
   | (with_reducible exact ih2 _ _ _ _ _)
   | (with_reducible exact ih3 _ _ _ _ _ _ _)
   | (with_reducible exact intervalmonref05_Compare.mono _ _ _)
   | (with_reducible exact intervalmonref05_Keep.mono _ _ _)
   | (with_reducible exact intervalmonref05_Same.mono _ _ _)
   | (with_reducible exact LeO.refl _)
   | (with_reducible exact LeO.none _)
   | (with_reducible refine LeO.ite ?_ ?_)
   | (with_reducible refine LeO.bind ?_ (fun _ => ?_))
   | exact ih0 _ _ _ _
   | exact ih1 _ _ _ _ _ _
   | exact ih2 _ _ _ _ _
   | exact ih3 _ _ _ _ _ _ _
   | exact intervalmonref05_Compare.mono _ _ _
   | exact intervalmonref05_Keep.mono _ _ _
   | exact intervalmonref05_Same.mono _ _ _
   | exact LeO.none _
   | refine LeO.ite ?_ ?_
   | refine LeO.bind ?_ (fun _ => ?_)
  ·intro y0 y1 y2 y3 y4 y5 y6
   unfold intervalmonref29_Groups.l3
   repeat' first
   | (with_reducible exact ih0 _ _ _ _)
   | (with_reducible exact ih1 _ _ _ _ _ _)
   | (with_reducible exact ih2 _ _ _ _ _)
   | (with_reducible exact ih3 _ _ _ _ _ _ _)
   | (with_reducible exact intervalmonref05_Compare.mono _ _ _)
   | (with_reducible exact intervalmonref05_Keep.mono _ _ _)
   | (with_reducible exact intervalmonref05_Same.mono _ _ _)
   | (with_reducible exact LeO.refl _)
   | (with_reducible exact LeO.none _)
   | (with_reducible refine LeO.ite ?_ ?_)
   | (with_reducible refine LeO.bind ?_ (fun _ => ?_))
   | exact ih0 _ _ _ _
   | exact ih1 _ _ _ _ _ _
   | exact ih2 _ _ _ _ _
   | exact ih3 _ _ _ _ _ _ _
   | exact intervalmonref05_Compare.mono _ _ _
   | exact intervalmonref05_Keep.mono _ _ _
   | exact intervalmonref05_Same.mono _ _ _
   | exact LeO.none _
   | refine LeO.ite ?_ ?_
   | refine LeO.bind ?_ (fun _ => ?_)
theorem intervalmonref29_Groups.mono : ∀ a0 a1 k, LeO (intervalmonref29_Groups.f k a0 a1) (intervalmonref29_Groups.f (k + 1) a0 a1) := by
 intro a0 a1 k
 obtain ⟨ih0, ih1, ih2, ih3⟩ := intervalmonref29_Groups.mono_l k
 unfold intervalmonref29_Groups.f
 repeat' first
   | (with_reducible exact ih0 _ _ _ _)
   | (with_reducible exact ih1 _ _ _ _ _ _)
   | (with_reducible exact ih2 _ _ _ _ _)
   | (with_reducible exact ih3 _ _ _ _ _ _ _)
   | (with_reducible exact intervalmonref05_Compare.mono _ _ _)
   | (with_reducible exact intervalmonref05_Keep.mono _ _ _)
   | (with_reducible exact intervalmonref05_Same.mono _ _ _)
   | (with_reducible exact LeO.refl _)
   | (with_reducible exact LeO.none _)
   | (with_reducible refine LeO.ite ?_ ?_)
   | (with_reducible refine LeO.bind ?_ (fun _ => ?_))
   | exact ih0 _ _ _ _
   | exact ih1 _ _ _ _ _ _
   | exact ih2 _ _ _ _ _
   | exact ih3 _ _ _ _ _ _ _
   | exact intervalmonref05_Compare.mono _ _ _
   | exact intervalmonref05_Keep.mono _ _ _
   | exact intervalmonref05_Same.mono _ _ _
   | exact LeO.none _
   | refine LeO.ite ?_ ?_
   | refine LeO.bind ?_ (fun _ => ?_)
def intervalmonref29_Groups.T22 : Bool × List (List Nat × List Nat) := (true, [([], []), ([], []), ([0, 1], [0, 1]), ([2], [2]), ([3], [3]), ([], []), ([4, 5], [4, 5]), ([], []), ([], []), ([7, 8], [7, 8]), ([9], [9]), ([6, 10, 6], [6, 10])])
def intervalmonref29_Groups.B22 : List Nat := [0, 0, 3, 7, 15, 0, 63, 0, 0, 384, 896, 2047]
theorem intervalmonref29_Groups.tab22 : rtab .any (opsOf Try.f35 22) = intervalmonref29_Groups.T22 := by kernel_rfl
theorem intervalmonref29_Groups.bits22 : waitsOk intervalmonref29_Groups.T22.2 intervalmonref29_Groups.B22 = true := by kernel_rfl
set_option maxHeartbeats 8000000 in
set_option maxRecDepth 100000 in
theorem intervalmonref29_Groups.calls (k : Nat) (A0 : Option Addr) (c0 : Nat) (l0 : List (S73)) (A1 : Option Addr) (c1 : Nat) (l1 : List ByteArray) (r : List (List Int)) (w : World) (hr0 : Kd.C k73 w A0 l0.length l0) (hc0 : l0.length ≤ c0) (hr1 : Kd.C Kd.string w A1 l1.length l1) (hc1 : l1.length ≤ c1) (h : intervalmonref29_Groups.f k l0 l1 = some r) :
  Calls Try.prog 35 #[.slice A0 l0.length c0, .slice A1 l1.length c1] w fun e w' => ∃ v0_ : Value, e = .returned (v0_) ∧ Kd.N (Kd.slice 3 (Kd.int .i64)) 22 w' w.heap.size (fun k_ => (w.heap.size ≤ k_)) v0_ r ∧ Below w.heap.size w w' := by
 have HR0 := Aside0.mk hr0
 have HC0 := Aside0.mk hc0
 clear hr0 hc0
 have HR1 := Aside0.mk hr1
 have HC1 := Aside0.mk hc1
 clear hr1 hc1
 have HB := Aside0.mk (Below.refl w.heap.size w)
 have H : (intervalmonref29_Groups.l0 k l0 l1 ([] : List (List (S91))) 0) = some r := h
 clear h
 have H' := Aside0.mk H
 clear H
 go_enter Try.func35, Try.ntmps35
 go_wp2
 go_loopg [5, 6] k (fun kq v5 v6 w' => ∃ (x5_1 : List (List (S91))) (x6_1 : Int), v6 = .int .i64 x6_1 ∧ Aside0 (intervalmonref29_Groups.l0 kq l0 l1 x5_1 x6_1 = some r) ∧ Aside0 (kq ≤ k) ∧ Aside0 (Kd.N (Kd.slice 91 k91) 70 w' w.heap.size (fun k_ => (w.heap.size ≤ k_)) v5 x5_1) ∧ Aside0 (Below w.heap.size w w'))
 case atStart => exact ⟨(([] : List (List (S91)))), (0), (by first | rfl | (simp; done) | (simp [*]; done)), H', ⟨Nat.le_refl _⟩, ⟨by first | exact Kd.S_nil _ _ _ _ _ | exact Kd.N_nil _ _ _ _ _ | exact Kd.V_nil _ _ _ _ _ | exact Kd.Q_nil _ _ _ _ _ | exact Kd.R_nil _ _ _ _ _⟩, ⟨by repeat (first | (with_reducible first | exact HB.out | apply below_alloc | apply pw_below_drewN | apply below_drew1) | exact HB.out)⟩⟩
 case round =>
  clear H'
  try clear c1
  try clear p2
  obtain ⟨x5_1, x6_1, rfl, HA, HK1, HO_5, HB⟩ := hrel
  cases gk with
  | zero => exact absurd HA.out (by simp [intervalmonref29_Groups.l0])
  | succ k1 =>
   have H := HA.out
   clear HA
   simp only [intervalmonref29_Groups.l0] at H
   by_cases c3 : x6_1 < (l0.length : Int)
   ·rw [if_pos c3] at H
    have c3b0 : decide (x6_1 < (l0.length : Int)) = true := decide_eq_true c3
    clear c3
    by_cases c4 : 0 ≤ x6_1
    ·rw [if_pos c4] at H
     have c4b0 : decide (0 ≤ x6_1) = true := decide_eq_true c4
     clear c4
     replace H := Option.bind_eq_some_iff.mp H
     obtain ⟨t263, A50, H⟩ := H
     replace H : (intervalmonref29_Groups.l1 k1 l0 l1 x5_1 x6_1 t263 (x5_1.length : Int)) = some r := H
     have A5 := Aside0.mk A50
     clear A50
     have H' := Aside0.mk H
     clear H
     have p262 : 0 ≤ (x6_1 : Int) := of_decide_eq_true (by first | (with_reducible assumption) | assumption)
     have q262 : x6_1 < (l0.length : Int) := of_decide_eq_true (by first | (with_reducible assumption) | assumption)
     obtain ⟨ad262, A262_2, c262_2, e262, hx262_0, hx262_1, hx262_2, hx262_3, hx262_4, hx262_5, hl262_2, hi262_2⟩ := at_T73 HR0.out x6_1 p262 q262
     cases e262
     (try replace hx262_0 := (HB.out.cell (World.block_lt_of_cell? w _ hx262_0)).trans hx262_0)
     (try replace hx262_1 := (HB.out.cell (World.block_lt_of_cell? w _ hx262_1)).trans hx262_1)
     (try replace hx262_2 := (HB.out.cell (World.block_lt_of_cell? w _ hx262_2)).trans hx262_2)
     (try replace hx262_3 := (HB.out.cell (World.block_lt_of_cell? w _ hx262_3)).trans hx262_3)
     (try replace hx262_4 := (HB.out.cell (World.block_lt_of_cell? w _ hx262_4)).trans hx262_4)
     (try replace hx262_5 := (HB.out.cell (World.block_lt_of_cell? w _ hx262_5)).trans hx262_5)
     have HR262_2 := Aside0.mk hi262_2
     have HC262_2 := Aside0.mk hl262_2
     clear hi262_2 hl262_2
     replace p262 := eq_true p262
     replace q262 := eq_true q262
     go_wp2_with (first | ((with_reducible refine gate_callee (f := 53) rfl ?_); refine goesL_ (some 26) rfl rfl Try.func53 (by kernel_rfl) rfl #[.slice A262_2 ((rd_T73 l0 x6_1).f2).length c262_2, .slice A1 l1.length c1] rfl aq ?_; (with_reducible refine (intervalmonref05_Keep.calls k1 _ _ ((rd_T73 l0 x6_1).f2) _ _ l1 t263 _ ?side1 ?side2 ?side3 ?side4 A5.out).mono ?_); (case side1 => repeat (first | exact (Kd.C_below HR262_2.out HB.out) | (with_reducible refine Kd.C_alloc ?_ _) | (with_reducible refine Kd.C_drewN ?_ _) | (with_reducible refine Kd.C_drew ?_))); (case side2 => exact HC262_2.out); (case side3 => repeat (first | exact (Kd.C_below HR1.out HB.out) | (with_reducible refine Kd.C_alloc ?_ _) | (with_reducible refine Kd.C_drewN ?_ _) | (with_reducible refine Kd.C_drew ?_))); (case side4 => exact HC1.out); rintro e w6 ⟨v264, rfl, ho0, hb⟩; refine ⟨_, rfl, ?_⟩; have n0_ := Aside0.mk (Kd.N_elder' (nq HO_5) (Kd.R_base ho0) hb); have n1_ := Aside0.mk (Kd.R_lower (Kd.R_newM (M := fun k_ => (w.heap.size ≤ k_)) ho0 (below_size (hq HB)) (fun k_ h_ => h_)) (below_size (hq HB))); have n2_ := Aside0.mk (below_step (hq HB) hb); clear HO_5; clear HB; have HO_5 := n0_; have HO265 := n1_; have HB := n2_; clear n0_ n1_ n2_; (try clear hb); (try clear hb2); (try clear hk); (try clear hi); (try clear ho0); obtain ⟨Ao7, co7, eo7⟩ := Kd.N_slice HO_5.out; subst eo7))
     go_loopg [8] k1 (fun kq v8 w' => ∃ (x8_2 : Int), v8 = .int .i64 x8_2 ∧ Aside0 (intervalmonref29_Groups.l1 kq l0 l1 x5_1 x6_1 t263 x8_2 = some r) ∧ Aside0 (kq ≤ k1) ∧ Aside0 (Kd.N (Kd.slice 91 k91) 70 w' w.heap.size (fun k_ => (w.heap.size ≤ k_) ∧ some k_ ≠ (v264 : Value).ownBlock) (.slice Ao7 x5_1.length co7) x5_1) ∧ Aside0 (Kd.R k91 91 w' w.heap.size (fun k_ => (w.heap.size ≤ k_)) v264 t263) ∧ Aside0 (Below w.heap.size w w'))
     case atStart => exact ⟨((x5_1.length : Int)), (by first | rfl | (simp; done) | (simp [*]; done)), H', ⟨Nat.le_refl _⟩, ⟨by (with_reducible repeat (first | apply Kd.N_alloc | apply Kd.N_drewN | apply Kd.N_drew)); exact HO_5.out⟩, ⟨by (with_reducible repeat (first | apply Kd.R_alloc | apply Kd.R_drewN | apply Kd.R_drew)); exact Kd.R_mono HO265.out (fun _ hk => hk.1)⟩, ⟨by repeat (first | (with_reducible first | exact HB.out | apply below_alloc | apply pw_below_drewN | apply below_drew1) | exact HB.out)⟩⟩
     case round =>
      clear H'
      try clear c1
      try clear c2
      try clear p2
      try clear q2
      try clear hx2
      try clear c3
      try clear c3b0
      try clear c4
      try clear c4b0
      try clear c5
      try clear hx262_0
      try clear hx262_1
      try clear hx262_2
      try clear hx262_3
      try clear hx262_4
      try clear hx262_5
      try clear p2
      try clear p262
      try clear q262
      obtain ⟨x8_2, rfl, HA, HK2, HO_5, HO_7, HB⟩ := hrel
      cases gk with
      | zero => exact absurd HA.out (by simp [intervalmonref29_Groups.l1])
      | succ k2 =>
       have H := HA.out
       clear HA
       simp only [intervalmonref29_Groups.l1] at H
       by_cases c8 : x8_2 > 0
       ·rw [if_pos c8] at H
        have c8b0 : decide (0 < x8_2) = true := decide_eq_true c8
        clear c8
        obtain ⟨ji9, hji9⟩ : ∃ j_ : Int, (wrap64 (x8_2 - 1)) = j_ := ⟨_, rfl⟩
        replace H : (if 0 ≤ (ji9) then (if (ji9) < (x5_1.length : Int) then ((intervalmonref05_Compare.f k2 t263 (rd_L9 x5_1 (ji9))).bind fun t267 => (if t267 < 0 then (intervalmonref29_Groups.l1 k2 l0 l1 x5_1 x6_1 t263 ji9) else ((intervalmonref05_Same.f k2 t263 (rd_L9 x5_1 (ji9))).bind fun t269 => (if t269 = true then (intervalmonref29_Groups.l0 k2 l0 l1 x5_1 (wrap64 (x6_1 + 1))) else (if 0 ≤ x8_2 then (if x8_2 ≤ (x5_1.length : Int) then ((some (x5_1.take (x8_2 : Int).toNat : List (List (S91)))).bind fun y270 => (if ([] : List (List (S91))).length + y270.length < 5864062014805 then ((some (([] : List (List (S91))) ++ y270 : List (List (S91)))).bind fun y275 => (if y275.length < 5864062014805 then ((some (y275 ++ [t263] : List (List (S91)))).bind fun y278 => ((some (x5_1.drop (x8_2 : Int).toNat : List (List (S91)))).bind fun y281 => (if y278.length + y281.length < 5864062014805 then (intervalmonref29_Groups.l0 k2 l0 l1 (y278 ++ y281) (wrap64 (x6_1 + 1))) else (none)))) else (none))) else (none))) else (none)) else (none)))))) else (none)) else (none)) = some r := by first | (rw [hji9] at H; exact H) | (simp only [hji9] at H ⊢; exact H)
        have hji9w : (IntKind.i64.wrap (x8_2 - 1)) = ji9 := (i64_w _).trans hji9
        by_cases c10 : 0 ≤ (ji9)
        ·rw [if_pos c10] at H
         have c10b0 : decide (0 ≤ (ji9)) = true := decide_eq_true c10
         clear c10
         by_cases c11 : (ji9) < (x5_1.length : Int)
         ·rw [if_pos c11] at H
          have c11b0 : decide ((ji9) < (x5_1.length : Int)) = true := decide_eq_true c11
          clear c11
          replace H := Option.bind_eq_some_iff.mp H
          obtain ⟨t267, A120, H⟩ := H
          replace H : (if t267 < 0 then (intervalmonref29_Groups.l1 k2 l0 l1 x5_1 x6_1 t263 ji9) else ((intervalmonref05_Same.f k2 t263 (rd_L9 x5_1 (ji9))).bind fun t269 => (if t269 = true then (intervalmonref29_Groups.l0 k2 l0 l1 x5_1 (wrap64 (x6_1 + 1))) else (if 0 ≤ x8_2 then (if x8_2 ≤ (x5_1.length : Int) then ((some (x5_1.take (x8_2 : Int).toNat : List (List (S91)))).bind fun y270 => (if ([] : List (List (S91))).length + y270.length < 5864062014805 then ((some (([] : List (List (S91))) ++ y270 : List (List (S91)))).bind fun y275 => (if y275.length < 5864062014805 then ((some (y275 ++ [t263] : List (List (S91)))).bind fun y278 => ((some (x5_1.drop (x8_2 : Int).toNat : List (List (S91)))).bind fun y281 => (if y278.length + y281.length < 5864062014805 then (intervalmonref29_Groups.l0 k2 l0 l1 (y278 ++ y281) (wrap64 (x6_1 + 1))) else (none)))) else (none))) else (none))) else (none)) else (none))))) = some r := H
          have A12 := Aside0.mk A120
          clear A120
          by_cases c13 : t267 < 0
          ·rw [if_pos c13] at H
           have c13b0 : decide (t267 < 0) = true := decide_eq_true c13
           clear c13
           have H' := Aside0.mk H
           clear H
           have p266 : 0 ≤ ((ji9) : Int) := of_decide_eq_true (by first | (with_reducible assumption) | assumption)
           have q266 : (ji9) < (x5_1.length : Int) := of_decide_eq_true (by first | (with_reducible assumption) | assumption)
           try (obtain ⟨Az266_, cz266_, ez266_⟩ := Kd.N_slice HO_5.out; subst ez266_)
           obtain ⟨ad266, A266_0, c266_0, e266, hx266_0, hl266_0, hi266_0⟩ := at_L9 (Kd.N_reads' HO_5.out).2.2 (ji9) p266 q266
           cases e266
           obtain ⟨ce266, hce266, hMe266, hcc266⟩ := Kd.N_get HO_5.out [] (ji9) p266 (by first | exact q266 | exact of_decide_eq_true (by first | (with_reducible assumption) | assumption) | (have e_ := (Kd.N_reads' HO_5.out).1; omega))
           obtain ⟨ua266_0, uc266_0, rfl, ul266_0, ge266_0⟩ := Kd.FK_slice_open hMe266
           have hv266_0 := hcc266 0 _ rfl
           rw [Nat.add_zero, show ((Kd.slice 91 k91)).sz = 1 from rfl, Nat.mul_one] at hv266_0
           replace hv266_0 := Option.some.inj (hv266_0.symm.trans hx266_0)
           injection hv266_0 with hva_ hvn_ hvc_
           rw [hva_] at ge266_0
           rw [hvc_] at ul266_0
           have HL266_0 := Aside0.mk (show Kd.V k91 91 _ w.heap.size _ _ (rd_L9 x5_1 (ji9)) from Kd.V_mk ul266_0 ge266_0)
           clear hva_ hvn_ hvc_ ge266_0 ul266_0
           clear hcc266 hce266
           have HR266_0 := Aside0.mk hi266_0
           have HC266_0 := Aside0.mk hl266_0
           clear hi266_0 hl266_0
           replace p266 := eq_true p266
           replace q266 := eq_true q266
           obtain ⟨Ao14, co14, eo14⟩ := Kd.R_slice HO_7.out
           subst eo14
           go_wp2_with (first | (go_at_call 54; (with_reducible refine (intervalmonref05_Compare.calls k2 _ _ t263 _ _ (rd_L9 x5_1 (ji9)) t267 _ ?side1 ?side2 ?side3 ?side4 A12.out).mono ?_); (case side1 => repeat (first | exact (Kd.R_reads' HO_7.out).2.2 | (with_reducible refine Kd.C_alloc ?_ _) | (with_reducible refine Kd.C_drewN ?_ _) | (with_reducible refine Kd.C_drew ?_))); (case side2 => exact (Kd.R_reads' HO_7.out).2.1); (case side3 => repeat (first | exact (by repeat (first | (with_reducible exact HR266_0.out) | (with_reducible refine Kd.C_alloc ?_ _) | (with_reducible refine Kd.C_drewN ?_ _) | (with_reducible refine Kd.C_drew ?_) | exact HR266_0.out)) | (with_reducible refine Kd.C_alloc ?_ _) | (with_reducible refine Kd.C_drewN ?_ _) | (with_reducible refine Kd.C_drew ?_))); (case side4 => exact HC266_0.out); rintro e w' ⟨rfl, ⟨nd, rfl⟩⟩))
           go_roundg k2
           case measure => have := HK1.out; have := HK2.out; omega
           case rel => exact ⟨(ji9), (by first | rfl | (simp; done) | (simp only [← hji9] <;> (first | rfl | simp)) | (simp [*]; done)), H', ⟨by have := HK1.out; have := HK2.out; omega⟩, ⟨by (with_reducible repeat (first | apply Kd.N_alloc | apply Kd.N_drewN | apply Kd.N_drew)); exact HO_5.out⟩, ⟨by (with_reducible repeat (first | apply Kd.R_alloc | apply Kd.R_drewN | apply Kd.R_drew)); exact HO_7.out⟩, ⟨by repeat (first | (with_reducible first | exact HB.out | apply below_alloc | apply pw_below_drewN | apply below_drew1) | exact HB.out)⟩⟩
          ·rw [if_neg c13] at H
           have c13b0 : decide (t267 < 0) = false := decide_eq_false c13
           clear c13
           replace H := Option.bind_eq_some_iff.mp H
           obtain ⟨t269, A150, H⟩ := H
           replace H : (if t269 = true then (intervalmonref29_Groups.l0 k2 l0 l1 x5_1 (wrap64 (x6_1 + 1))) else (if 0 ≤ x8_2 then (if x8_2 ≤ (x5_1.length : Int) then ((some (x5_1.take (x8_2 : Int).toNat : List (List (S91)))).bind fun y270 => (if ([] : List (List (S91))).length + y270.length < 5864062014805 then ((some (([] : List (List (S91))) ++ y270 : List (List (S91)))).bind fun y275 => (if y275.length < 5864062014805 then ((some (y275 ++ [t263] : List (List (S91)))).bind fun y278 => ((some (x5_1.drop (x8_2 : Int).toNat : List (List (S91)))).bind fun y281 => (if y278.length + y281.length < 5864062014805 then (intervalmonref29_Groups.l0 k2 l0 l1 (y278 ++ y281) (wrap64 (x6_1 + 1))) else (none)))) else (none))) else (none))) else (none)) else (none))) = some r := H
           have A15 := Aside0.mk A150
           clear A150
           by_cases c16 : t269 = true
           ·subst c16
            have H1 : (intervalmonref29_Groups.l0 k2 l0 l1 x5_1 (wrap64 (x6_1 + 1))) = some r := by rw [if_pos rfl] at H; exact H
            clear H
            have H := H1
            clear H1
            have H' := Aside0.mk H
            clear H
            have p266 : 0 ≤ ((ji9) : Int) := of_decide_eq_true (by first | (with_reducible assumption) | assumption)
            have q266 : (ji9) < (x5_1.length : Int) := of_decide_eq_true (by first | (with_reducible assumption) | assumption)
            try (obtain ⟨Az266_, cz266_, ez266_⟩ := Kd.N_slice HO_5.out; subst ez266_)
            obtain ⟨ad266, A266_0, c266_0, e266, hx266_0, hl266_0, hi266_0⟩ := at_L9 (Kd.N_reads' HO_5.out).2.2 (ji9) p266 q266
            cases e266
            obtain ⟨ce266, hce266, hMe266, hcc266⟩ := Kd.N_get HO_5.out [] (ji9) p266 (by first | exact q266 | exact of_decide_eq_true (by first | (with_reducible assumption) | assumption) | (have e_ := (Kd.N_reads' HO_5.out).1; omega))
            obtain ⟨ua266_0, uc266_0, rfl, ul266_0, ge266_0⟩ := Kd.FK_slice_open hMe266
            have hv266_0 := hcc266 0 _ rfl
            rw [Nat.add_zero, show ((Kd.slice 91 k91)).sz = 1 from rfl, Nat.mul_one] at hv266_0
            replace hv266_0 := Option.some.inj (hv266_0.symm.trans hx266_0)
            injection hv266_0 with hva_ hvn_ hvc_
            rw [hva_] at ge266_0
            rw [hvc_] at ul266_0
            have HL266_0 := Aside0.mk (show Kd.V k91 91 _ w.heap.size _ _ (rd_L9 x5_1 (ji9)) from Kd.V_mk ul266_0 ge266_0)
            clear hva_ hvn_ hvc_ ge266_0 ul266_0
            clear hcc266 hce266
            have HR266_0 := Aside0.mk hi266_0
            have HC266_0 := Aside0.mk hl266_0
            clear hi266_0 hl266_0
            replace p266 := eq_true p266
            replace q266 := eq_true q266
            obtain ⟨Ao17, co17, eo17⟩ := Kd.R_slice HO_7.out
            subst eo17
            go_wp2_with (first | (go_at_call 54; (with_reducible refine (intervalmonref05_Compare.calls k2 _ _ t263 _ _ (rd_L9 x5_1 (ji9)) t267 _ ?side1 ?side2 ?side3 ?side4 A12.out).mono ?_); (case side1 => repeat (first | exact (Kd.R_reads' HO_7.out).2.2 | (with_reducible refine Kd.C_alloc ?_ _) | (with_reducible refine Kd.C_drewN ?_ _) | (with_reducible refine Kd.C_drew ?_))); (case side2 => exact (Kd.R_reads' HO_7.out).2.1); (case side3 => repeat (first | exact (by repeat (first | (with_reducible exact HR266_0.out) | (with_reducible refine Kd.C_alloc ?_ _) | (with_reducible refine Kd.C_drewN ?_ _) | (with_reducible refine Kd.C_drew ?_) | exact HR266_0.out)) | (with_reducible refine Kd.C_alloc ?_ _) | (with_reducible refine Kd.C_drewN ?_ _) | (with_reducible refine Kd.C_drew ?_))); (case side4 => exact HC266_0.out); rintro e w' ⟨rfl, ⟨nd, rfl⟩⟩; have p268 : 0 ≤ ((ji9) : Int) := of_decide_eq_true (by first | (with_reducible assumption) | assumption); have q268 : (ji9) < (x5_1.length : Int) := of_decide_eq_true (by first | (with_reducible assumption) | assumption); obtain ⟨ad268, A268_0, c268_0, e268, hx268_0, hl268_0, hi268_0⟩ := at_L9 (Kd.N_reads' HO_5.out).2.2 (ji9) p268 q268; obtain rfl : ad266 = ad268 := (by injection e268); obtain ⟨ce268, hce268, hMe268, hcc268⟩ := Kd.N_get HO_5.out [] (ji9) p268 (by first | exact q268 | exact of_decide_eq_true (by first | (with_reducible assumption) | assumption) | (have e_ := (Kd.N_reads' HO_5.out).1; omega)); obtain ⟨ua268_0, uc268_0, rfl, ul268_0, ge268_0⟩ := Kd.FK_slice_open hMe268; have hv268_0 := hcc268 0 _ rfl; rw [Nat.add_zero, show ((Kd.slice 91 k91)).sz = 1 from rfl, Nat.mul_one] at hv268_0; replace hv268_0 := Option.some.inj (hv268_0.symm.trans hx268_0); injection hv268_0 with hva_ hvn_ hvc_; rw [hva_] at ge268_0; rw [hvc_] at ul268_0; have HL268_0 := Aside0.mk (show Kd.V k91 91 _ w.heap.size _ _ (rd_L9 x5_1 (ji9)) from Kd.V_mk ul268_0 ge268_0); clear hva_ hvn_ hvc_ ge268_0 ul268_0; clear hcc268 hce268; have HR268_0 := Aside0.mk hi268_0; have HC268_0 := Aside0.mk hl268_0; clear hi268_0 hl268_0; replace p268 := eq_true p268; replace q268 := eq_true q268; have ea_ := Option.some.inj (hx266_0.symm.trans hx268_0); injection ea_ with ea_ en_ ec_; subst ea_; subst ec_; clear en_) | (go_at_call 55; (with_reducible refine (intervalmonref05_Same.calls k2 _ _ t263 _ _ (rd_L9 x5_1 (ji9)) true _ ?side1 ?side2 ?side3 ?side4 A15.out).mono ?_); (case side1 => repeat (first | exact (Kd.R_reads' HO_7.out).2.2 | (with_reducible refine Kd.C_alloc ?_ _) | (with_reducible refine Kd.C_drewN ?_ _) | (with_reducible refine Kd.C_drew ?_))); (case side2 => exact (Kd.R_reads' HO_7.out).2.1); (case side3 => repeat (first | exact (by repeat (first | (with_reducible exact HR268_0.out) | (with_reducible refine Kd.C_alloc ?_ _) | (with_reducible refine Kd.C_drewN ?_ _) | (with_reducible refine Kd.C_drew ?_) | exact HR268_0.out)) | (with_reducible refine Kd.C_alloc ?_ _) | (with_reducible refine Kd.C_drewN ?_ _) | (with_reducible refine Kd.C_drew ?_))); (case side4 => exact HC268_0.out); rintro e w' ⟨rfl, ⟨nd, rfl⟩⟩))
            go_roundg k2
            case measure => have := HK1.out; have := HK2.out; omega
            case rel => exact ⟨(x5_1), (wrap64 (x6_1 + 1)), (by first | rfl | (simp; done) | (simp [*]; done)), H', ⟨by have := HK1.out; have := HK2.out; omega⟩, ⟨by (with_reducible repeat (first | apply Kd.N_alloc | apply Kd.N_drewN | apply Kd.N_drew)); exact Kd.N_mono HO_5.out (fun _ hk => hk.1)⟩, ⟨by repeat (first | (with_reducible first | exact HB.out | apply below_alloc | apply pw_below_drewN | apply below_drew1) | exact HB.out)⟩⟩
           ·replace c16 := Bool.eq_false_iff.mpr c16
            subst c16
            have H1 : (if 0 ≤ x8_2 then (if x8_2 ≤ (x5_1.length : Int) then ((some (x5_1.take (x8_2 : Int).toNat : List (List (S91)))).bind fun y270 => (if ([] : List (List (S91))).length + y270.length < 5864062014805 then ((some (([] : List (List (S91))) ++ y270 : List (List (S91)))).bind fun y275 => (if y275.length < 5864062014805 then ((some (y275 ++ [t263] : List (List (S91)))).bind fun y278 => ((some (x5_1.drop (x8_2 : Int).toNat : List (List (S91)))).bind fun y281 => (if y278.length + y281.length < 5864062014805 then (intervalmonref29_Groups.l0 k2 l0 l1 (y278 ++ y281) (wrap64 (x6_1 + 1))) else (none)))) else (none))) else (none))) else (none)) else (none)) = some r := by rw [if_neg (show ¬ (false = true) by decide)] at H; exact H
            clear H
            have H := H1
            clear H1
            by_cases c18 : 0 ≤ x8_2
            ·rw [if_pos c18] at H
             have c18b0 := eq_true c18
             have c18b1 : decide (0 ≤ x8_2) = true := decide_eq_true c18
             clear c18
             by_cases c19 : x8_2 ≤ (x5_1.length : Int)
             ·rw [if_pos c19] at H
              have c19b0 := eq_true c19
              have c19b1 : decide (x8_2 ≤ (x5_1.length : Int)) = true := decide_eq_true c19
              clear c19
              obtain ⟨y270, hy270⟩ : ∃ y_ : List (List (S91)), y_ = (x5_1.take (x8_2 : Int).toNat) := ⟨_, rfl⟩
              replace H : (if ([] : List (List (S91))).length + y270.length < 5864062014805 then ((some (([] : List (List (S91))) ++ y270 : List (List (S91)))).bind fun y275 => (if y275.length < 5864062014805 then ((some (y275 ++ [t263] : List (List (S91)))).bind fun y278 => ((some (x5_1.drop (x8_2 : Int).toNat : List (List (S91)))).bind fun y281 => (if y278.length + y281.length < 5864062014805 then (intervalmonref29_Groups.l0 k2 l0 l1 (y278 ++ y281) (wrap64 (x6_1 + 1))) else (none)))) else (none))) else (none)) = some r := by first | (rw [hy270]; with_reducible exact H) | (have H2_ := (Option.bind_some _ _).symm.trans H; rw [hy270]; with_reducible exact H2_) | (have H2_ := (Option.bind_some _ _).symm.trans H; with_reducible exact H2_) | with_reducible exact H | (rw [hy270]; exact H) | exact H
              have Ny270 := Aside0.mk hy270
              clear hy270
              by_cases c20 : ([] : List (List (S91))).length + y270.length < 5864062014805
              ·rw [if_pos c20] at H
               have LMc20 := Aside0.mk c20
               clear c20
               obtain ⟨y275, hy275⟩ : ∃ y_ : List (List (S91)), y_ = (([] : List (List (S91))) ++ y270) := ⟨_, rfl⟩
               replace H : (if y275.length < 5864062014805 then ((some (y275 ++ [t263] : List (List (S91)))).bind fun y278 => ((some (x5_1.drop (x8_2 : Int).toNat : List (List (S91)))).bind fun y281 => (if y278.length + y281.length < 5864062014805 then (intervalmonref29_Groups.l0 k2 l0 l1 (y278 ++ y281) (wrap64 (x6_1 + 1))) else (none)))) else (none)) = some r := by first | (rw [hy275]; with_reducible exact H) | (have H2_ := (Option.bind_some _ _).symm.trans H; rw [hy275]; with_reducible exact H2_) | (have H2_ := (Option.bind_some _ _).symm.trans H; with_reducible exact H2_) | with_reducible exact H | (rw [hy275]; exact H) | exact H
               have Ny275 := Aside0.mk hy275
               clear hy275
               by_cases c21 : y275.length < 5864062014805
               ·rw [if_pos c21] at H
                have LMc21 := Aside0.mk c21
                clear c21
                obtain ⟨y278, hy278⟩ : ∃ y_ : List (List (S91)), y_ = (y275 ++ [t263]) := ⟨_, rfl⟩
                replace H : ((some (x5_1.drop (x8_2 : Int).toNat : List (List (S91)))).bind fun y281 => (if y278.length + y281.length < 5864062014805 then (intervalmonref29_Groups.l0 k2 l0 l1 (y278 ++ y281) (wrap64 (x6_1 + 1))) else (none))) = some r := by first | (rw [hy278]; with_reducible exact H) | (have H2_ := (Option.bind_some _ _).symm.trans H; rw [hy278]; with_reducible exact H2_) | (have H2_ := (Option.bind_some _ _).symm.trans H; with_reducible exact H2_) | with_reducible exact H | (rw [hy278]; exact H) | exact H
                have Ny278 := Aside0.mk hy278
                clear hy278
                have c22b0 := eq_true (of_decide_eq_true (by first | (with_reducible assumption) | assumption) : 0 ≤ x8_2)
                have c23b0 := eq_true (of_decide_eq_true (by first | (with_reducible assumption) | assumption) : x8_2 ≤ (x5_1.length : Int))
                obtain ⟨y281, hy281⟩ : ∃ y_ : List (List (S91)), y_ = (x5_1.drop (x8_2 : Int).toNat) := ⟨_, rfl⟩
                replace H : (if y278.length + y281.length < 5864062014805 then (intervalmonref29_Groups.l0 k2 l0 l1 (y278 ++ y281) (wrap64 (x6_1 + 1))) else (none)) = some r := by first | (rw [hy281]; with_reducible exact H) | (have H2_ := (Option.bind_some _ _).symm.trans H; rw [hy281]; with_reducible exact H2_) | (have H2_ := (Option.bind_some _ _).symm.trans H; with_reducible exact H2_) | with_reducible exact H | (rw [hy281]; exact H) | exact H
                have Ny281 := Aside0.mk hy281
                clear hy281
                by_cases c24 : y278.length + y281.length < 5864062014805
                ·rw [if_pos c24] at H
                 have LMc24 := Aside0.mk c24
                 clear c24
                 obtain ⟨y286, hy286⟩ : ∃ y_ : List (List (S91)), y_ = (y278 ++ y281) := ⟨_, rfl⟩
                 replace H : (intervalmonref29_Groups.l0 k2 l0 l1 y286 (wrap64 (x6_1 + 1))) = some r := by first | (rw [hy286]; with_reducible exact H) | (have H2_ := (Option.bind_some _ _).symm.trans H; rw [hy286]; with_reducible exact H2_) | (have H2_ := (Option.bind_some _ _).symm.trans H; with_reducible exact H2_) | with_reducible exact H | (rw [hy286]; exact H) | exact H
                 have Ny286 := Aside0.mk hy286
                 clear hy286
                 have H' := Aside0.mk H
                 clear H
                 have p266 : 0 ≤ ((ji9) : Int) := of_decide_eq_true (by first | (with_reducible assumption) | assumption)
                 have q266 : (ji9) < (x5_1.length : Int) := of_decide_eq_true (by first | (with_reducible assumption) | assumption)
                 try (obtain ⟨Az266_, cz266_, ez266_⟩ := Kd.N_slice HO_5.out; subst ez266_)
                 obtain ⟨ad266, A266_0, c266_0, e266, hx266_0, hl266_0, hi266_0⟩ := at_L9 (Kd.N_reads' HO_5.out).2.2 (ji9) p266 q266
                 cases e266
                 obtain ⟨ce266, hce266, hMe266, hcc266⟩ := Kd.N_get HO_5.out [] (ji9) p266 (by first | exact q266 | exact of_decide_eq_true (by first | (with_reducible assumption) | assumption) | (have e_ := (Kd.N_reads' HO_5.out).1; omega))
                 obtain ⟨ua266_0, uc266_0, rfl, ul266_0, ge266_0⟩ := Kd.FK_slice_open hMe266
                 have hv266_0 := hcc266 0 _ rfl
                 rw [Nat.add_zero, show ((Kd.slice 91 k91)).sz = 1 from rfl, Nat.mul_one] at hv266_0
                 replace hv266_0 := Option.some.inj (hv266_0.symm.trans hx266_0)
                 injection hv266_0 with hva_ hvn_ hvc_
                 rw [hva_] at ge266_0
                 rw [hvc_] at ul266_0
                 have HL266_0 := Aside0.mk (show Kd.V k91 91 _ w.heap.size _ _ (rd_L9 x5_1 (ji9)) from Kd.V_mk ul266_0 ge266_0)
                 clear hva_ hvn_ hvc_ ge266_0 ul266_0
                 clear hcc266 hce266
                 have HR266_0 := Aside0.mk hi266_0
                 have HC266_0 := Aside0.mk hl266_0
                 clear hi266_0 hl266_0
                 replace p266 := eq_true p266
                 replace q266 := eq_true q266
                 obtain ⟨Ao25, co25, eo25⟩ := Kd.R_slice HO_7.out
                 subst eo25
                 go_wp2_with (first | (go_at_call 54; (with_reducible refine (intervalmonref05_Compare.calls k2 _ _ t263 _ _ (rd_L9 x5_1 (ji9)) t267 _ ?side1 ?side2 ?side3 ?side4 A12.out).mono ?_); (case side1 => repeat (first | exact (Kd.R_reads' HO_7.out).2.2 | (with_reducible refine Kd.C_alloc ?_ _) | (with_reducible refine Kd.C_drewN ?_ _) | (with_reducible refine Kd.C_drew ?_))); (case side2 => exact (Kd.R_reads' HO_7.out).2.1); (case side3 => repeat (first | exact (by repeat (first | (with_reducible exact HR266_0.out) | (with_reducible refine Kd.C_alloc ?_ _) | (with_reducible refine Kd.C_drewN ?_ _) | (with_reducible refine Kd.C_drew ?_) | exact HR266_0.out)) | (with_reducible refine Kd.C_alloc ?_ _) | (with_reducible refine Kd.C_drewN ?_ _) | (with_reducible refine Kd.C_drew ?_))); (case side4 => exact HC266_0.out); rintro e w' ⟨rfl, ⟨nd, rfl⟩⟩; have p268 : 0 ≤ ((ji9) : Int) := of_decide_eq_true (by first | (with_reducible assumption) | assumption); have q268 : (ji9) < (x5_1.length : Int) := of_decide_eq_true (by first | (with_reducible assumption) | assumption); obtain ⟨ad268, A268_0, c268_0, e268, hx268_0, hl268_0, hi268_0⟩ := at_L9 (Kd.N_reads' HO_5.out).2.2 (ji9) p268 q268; obtain rfl : ad266 = ad268 := (by injection e268); obtain ⟨ce268, hce268, hMe268, hcc268⟩ := Kd.N_get HO_5.out [] (ji9) p268 (by first | exact q268 | exact of_decide_eq_true (by first | (with_reducible assumption) | assumption) | (have e_ := (Kd.N_reads' HO_5.out).1; omega)); obtain ⟨ua268_0, uc268_0, rfl, ul268_0, ge268_0⟩ := Kd.FK_slice_open hMe268; have hv268_0 := hcc268 0 _ rfl; rw [Nat.add_zero, show ((Kd.slice 91 k91)).sz = 1 from rfl, Nat.mul_one] at hv268_0; replace hv268_0 := Option.some.inj (hv268_0.symm.trans hx268_0); injection hv268_0 with hva_ hvn_ hvc_; rw [hva_] at ge268_0; rw [hvc_] at ul268_0; have HL268_0 := Aside0.mk (show Kd.V k91 91 _ w.heap.size _ _ (rd_L9 x5_1 (ji9)) from Kd.V_mk ul268_0 ge268_0); clear hva_ hvn_ hvc_ ge268_0 ul268_0; clear hcc268 hce268; have HR268_0 := Aside0.mk hi268_0; have HC268_0 := Aside0.mk hl268_0; clear hi268_0 hl268_0; replace p268 := eq_true p268; replace q268 := eq_true q268; have ea_ := Option.some.inj (hx266_0.symm.trans hx268_0); injection ea_ with ea_ en_ ec_; subst ea_; subst ec_; clear en_) | (go_at_call 55; (with_reducible refine (intervalmonref05_Same.calls k2 _ _ t263 _ _ (rd_L9 x5_1 (ji9)) false _ ?side1 ?side2 ?side3 ?side4 A15.out).mono ?_); (case side1 => repeat (first | exact (Kd.R_reads' HO_7.out).2.2 | (with_reducible refine Kd.C_alloc ?_ _) | (with_reducible refine Kd.C_drewN ?_ _) | (with_reducible refine Kd.C_drew ?_))); (case side2 => exact (Kd.R_reads' HO_7.out).2.1); (case side3 => repeat (first | exact (by repeat (first | (with_reducible exact HR268_0.out) | (with_reducible refine Kd.C_alloc ?_ _) | (with_reducible refine Kd.C_drewN ?_ _) | (with_reducible refine Kd.C_drew ?_) | exact HR268_0.out)) | (with_reducible refine Kd.C_alloc ?_ _) | (with_reducible refine Kd.C_drewN ?_ _) | (with_reducible refine Kd.C_drew ?_))); (case side4 => exact HC268_0.out); rintro e w' ⟨rfl, ⟨nd, rfl⟩⟩; have q26 : (x8_2 : Int) ≤ ((x5_1.length : Int) : Int) := of_decide_eq_true (by first | (with_reducible assumption) | assumption); obtain ⟨i026, hi026, _, hsz26, _⟩ := info_parts info70; have hroom26 : x5_1.length ≤ co7 := (Kd.N_reads' HO_5.out).2.1; have hC26 : Kd.F (Kd.slice 91 k91) _ _ (some ad266) x5_1.length x5_1 := (Kd.V_at (base := w.heap.size) (Kd.N_V HO_5.out)).2.2; have hcut26 := cut_to (P := Try.prog) 87 70 .i64 Try.underlying87 hi026 (some ad266) x5_1.length co7 x8_2 (of_decide_eq_true (by first | (with_reducible assumption) | assumption)) q26 hroom26; have hr26 := Kd.F_take (m := (x8_2 : Int).toNat) hC26 (by omega); have hy26 : y270.length = (x8_2 : Int).toNat := (by rw [Ny270.out, List.length_take]; omega); rw [← Ny270.out] at hr26; rw [← hy26] at hcut26; have HO274 := Aside0.mk (show Kd.V (Kd.slice 91 k91) 70 _ w.heap.size _ (.slice (some ad266) y270.length co7) y270 from Kd.V_mk (by omega) hr26); have HC274 := Aside0.mk (show y270.length ≤ co7 from by omega); clear hr26 hC26 hroom26 hi026 hsz26; have KY26 := Aside0.mk hy26; clear hy26; replace q26 := eq_true q26) | ((with_reducible refine gate_builtin (b := .append) (xs := #[.tmp 54, .tmp 57]) rfl ?_); at_builtin; refine Kd.N_append_rows (Kd.slice 91 k91) (w0 := w) w.heap.size rfl (.tmp 54) (.tmp 57) 87 70 (.slice none 0 0) 24 rfl Try.underlying87 info70 rfl (by decide) (by omega) (.slice none 0 0) ([] : List (List (S91))) y270 _ _ _ (fun k_ => (w.heap.size ≤ k_) ∧ some k_ ≠ (.slice Ao25 t263.length co25 : Value).ownBlock) (fun k_ => ((fun k_ => (w.heap.size ≤ k_) ∧ some k_ ≠ (.slice Ao25 t263.length co25 : Value).ownBlock)) k_ ∧ some k_ ≠ (.slice none 0 0 : Value).ownBlock) rfl rfl ?aO ?aR (fun _ hk => hk) ?aF ?aB ?aS ?aL ?_; (case aR => exact (by skip; exact Kd.V_F (Kd.V_mono (ok' := (fun k_ => ((fun k_ => (w.heap.size ≤ k_) ∧ some k_ ≠ (.slice Ao25 t263.length co25 : Value).ownBlock)) k_ ∧ some k_ ≠ (.slice none 0 0 : Value).ownBlock)) (vq HO274) (fun k_ hk => ⟨⟨hk.1, hk.2⟩, (by simp [Value.ownBlock])⟩)))); (case aB => exact (hq HB)); (case aF => exact (fun k_ hk => ⟨(Nat.le_trans (below_size (hq HB)) hk), Kd.fresh' (Kd.R_lt (rq HO_7)) k_ hk⟩)); (case aO => exact ((Kd.N_nil _ _ _ _ (fun k_ => (w.heap.size ≤ k_) ∧ some k_ ≠ (.slice Ao25 t263.length co25 : Value).ownBlock)))); (case aS => exact (below_size (hq HB))); (case aL => have := LMc20.out; omega); intro v276 w27 ho hb hg hat; rw [← Ny275.out] at ho; have n0_ := Aside0.mk (Kd.N_afterv (Kd.N_apart_nil (nq HO_5)) hg hat); have n1_ := Aside0.mk (Kd.R_grown (rq HO_7) hg (fun _ _ => by simp [Value.ownBlock])); have n2_ := Aside0.mk (Kd.V_afterv (Kd.V_apart_nil (vq HL266_0)) hg hat); have n3_ := Aside0.mk (Kd.V_afterv (Kd.V_apart_nil (vq HL268_0)) hg hat); have n4_ := Aside0.mk (Kd.V_afterv (Kd.V_apart_nil (vq HO274)) hg hat); have n5_ := Aside0.mk (hb); have n6_ := Aside0.mk (ho); clear HO_5; clear HO_7; clear HL266_0; clear HL268_0; clear HO274; clear HB; have HO_5 := n0_; have HO_7 := n1_; have HL266_0 := n2_; have HL268_0 := n3_; have HO274 := n4_; have HB := n5_; have HO277 := n6_; clear n0_ n1_ n2_ n3_ n4_ n5_ n6_; clear ho hb hg hat) | ((with_reducible refine gate_builtin (b := .append) (xs := #[.tmp 59, .tmp 61]) rfl ?_); at_builtin; refine Kd.N_append (Kd.slice 91 k91) (w0 := w) w.heap.size rfl (.tmp 59) (.tmp 61) 87 70 (.slice none 0 0) 24 rfl Try.underlying87 info70 rfl (by decide) (by omega) v276 y275 t263 [.slice Ao25 t263.length co25] (fun k_ => (w.heap.size ≤ k_)) (fun k_ => ((fun k_ => (w.heap.size ≤ k_))) k_ ∧ some k_ ≠ (v276 : Value).ownBlock) rfl rfl ?aP (fun _ hk => hk) ?aF ?aO ?aB ?aS ?aL ?_; (case aP => exact (Kd.FK_slice_mk (Kd.R_reads' (Kd.R_mono (ok' := (fun k_ => ((fun k_ => (w.heap.size ≤ k_))) k_ ∧ some k_ ≠ (v276 : Value).ownBlock)) (Kd.R_apart' (HO_7.out) (Kd.N_typed HO277.out) (by decide)) (fun k_ hk => ⟨hk.1, hk.2⟩))).2.1 (Kd.R_F (Kd.R_mono (ok' := (fun k_ => ((fun k_ => (w.heap.size ≤ k_))) k_ ∧ some k_ ≠ (v276 : Value).ownBlock)) (Kd.R_apart' (HO_7.out) (Kd.N_typed HO277.out) (by decide)) (fun k_ hk => ⟨hk.1, hk.2⟩))))); (case aB => exact (hq HB)); (case aF => exact (fun k_ hk => (Nat.le_trans (below_size (hq HB)) hk))); (case aO => exact (by (with_reducible repeat (first | apply Kd.N_alloc | apply Kd.N_drewN | apply Kd.N_drew)); exact Kd.N_mono HO277.out (fun _ hk => hk.1))); (case aS => exact (below_size (hq HB))); (case aL => have := LMc21.out; omega); intro v279 w28 ho hb hg hat; rw [← Ny278.out] at ho; have n0_ := Aside0.mk (Kd.N_afterv (ok := (fun k_ => (w.heap.size ≤ k_) ∧ some k_ ≠ (.slice Ao25 t263.length co25 : Value).ownBlock)) (nq HO_5) hg hat); have n1_ := Aside0.mk (Kd.V_afterv (ok := (fun k_ => (w.heap.size ≤ k_) ∧ some k_ ≠ (.slice (some ad266) x5_1.length co7 : Value).ownBlock ∧ some k_ ≠ (.slice Ao25 t263.length co25 : Value).ownBlock)) (by (with_reducible repeat (first | apply Kd.V_alloc | apply Kd.V_drewN | apply Kd.V_drew)); exact Kd.V_mono HL266_0.out (fun _ hk => ⟨⟨hk.1.1.1, ⟨hk.1.2, hk.1.1.2⟩⟩, hk.2⟩)) hg hat); have n2_ := Aside0.mk (Kd.V_afterv (ok := (fun k_ => (w.heap.size ≤ k_) ∧ some k_ ≠ (.slice (some ad266) x5_1.length co7 : Value).ownBlock ∧ some k_ ≠ (.slice Ao25 t263.length co25 : Value).ownBlock)) (by (with_reducible repeat (first | apply Kd.V_alloc | apply Kd.V_drewN | apply Kd.V_drew)); exact Kd.V_mono HL268_0.out (fun _ hk => ⟨⟨hk.1.1.1, ⟨hk.1.2, hk.1.1.2⟩⟩, hk.2⟩)) hg hat); have n3_ := Aside0.mk (Kd.V_afterv (ok := (fun k_ => (w.heap.size ≤ k_) ∧ some k_ ≠ (.slice Ao25 t263.length co25 : Value).ownBlock)) (vq HO274) hg hat); have n4_ := Aside0.mk (hb); have n5_ := Aside0.mk (ho); clear HO_5; clear HL266_0; clear HL268_0; clear HO274; clear HB; clear HO277; clear HO_7; have HO_5 := n0_; have HL266_0 := n1_; have HL268_0 := n2_; have HO274 := n3_; have HB := n4_; have HO280 := n5_; clear n0_ n1_ n2_ n3_ n4_ n5_; clear ho hb hg hat; have q29 : (x8_2 : Int) ≤ ((x5_1.length : Int) : Int) := of_decide_eq_true (by first | (with_reducible assumption) | assumption); obtain ⟨i029, hi029, _, hsz29, _⟩ := info_parts info70; have hroom29 : x5_1.length ≤ co7 := (Kd.N_reads' HO_5.out).2.1; have hC29 : Kd.F (Kd.slice 91 k91) _ _ (some ad266) x5_1.length x5_1 := (Kd.V_at (base := w.heap.size) (Kd.N_V HO_5.out)).2.2; have q029 : (0 : Int) ≤ (x8_2 : Int) := of_decide_eq_true (by first | (with_reducible assumption) | assumption); have hcut29 := cut_from (P := Try.prog) 87 70 .i64 Try.underlying87 hi029 1 hsz29 (some ad266) x5_1.length co7 x8_2 q029 q29; have hr29 := Kd.F_cut (m := (x8_2 : Int).toNat) (c := co7) hC29 (by omega) hroom29; obtain ⟨A29, hA29⟩ : ∃ A1, A1 = (if co7 = (x8_2 : Int).toNat then (some ad266) else ((some ad266) : Option Addr).map (·.add ((x8_2 : Int).toNat * 1))) := ⟨_, rfl⟩; obtain ⟨c29, hc29⟩ : ∃ c1, c1 = co7 - (x8_2 : Int).toNat := ⟨_, rfl⟩; have hy29 : y281.length = x5_1.length - (x8_2 : Int).toNat := (by rw [Ny281.out, List.length_drop] <;> omega); rw [show (x5_1).drop (x8_2 : Int).toNat = y281 from Ny281.out.symm] at hr29; replace hr29 : Kd.F (Kd.slice 91 k91) _ _ A29 y281.length y281 := (by rw [hA29]; exact hr29); rw [← hy29, ← hA29, ← hc29] at hcut29; have HO285 := Aside0.mk (show Kd.V (Kd.slice 91 k91) 70 _ w.heap.size _ (.slice A29 y281.length c29) y281 from Kd.V_mk (by rw [hy29, hc29]; exact Nat.sub_le_sub_right hroom29 _) hr29); have HC285 := Aside0.mk (show y281.length ≤ c29 from by rw [hy29, hc29]; exact Nat.sub_le_sub_right hroom29 _); clear hr29 hC29 hroom29 hi029 hsz29 hc29; have KY29 := Aside0.mk hy29; have KA29 := Aside0.mk hA29; clear hy29 hA29; replace q29 := eq_true q29) | ((with_reducible refine gate_builtin (b := .append) (xs := #[.tmp 63, .tmp 66]) rfl ?_); at_builtin; refine Kd.N_append_rows (Kd.slice 91 k91) (w0 := w) w.heap.size rfl (.tmp 63) (.tmp 66) 87 70 (.slice none 0 0) 24 rfl Try.underlying87 info70 rfl (by decide) (by omega) v279 y278 y281 _ _ _ (fun k_ => (w.heap.size ≤ k_)) (fun k_ => ((fun k_ => (w.heap.size ≤ k_))) k_ ∧ some k_ ≠ (v279 : Value).ownBlock) rfl rfl ?aO ?aR (fun _ hk => hk) ?aF ?aB ?aS ?aL ?_; (case aR => exact (by skip; exact Kd.V_F (Kd.V_mono (ok' := (fun k_ => ((fun k_ => (w.heap.size ≤ k_))) k_ ∧ some k_ ≠ (v279 : Value).ownBlock)) (vq HO285) (fun k_ hk => ⟨hk.1.1, hk.2⟩)))); (case aB => exact (hq HB)); (case aF => exact (fun k_ hk => (Nat.le_trans (below_size (hq HB)) hk))); (case aO => exact (nq HO280)); (case aS => exact (below_size (hq HB))); (case aL => have := LMc24.out; omega); intro v287 w30 ho hb hg hat; rw [← Ny286.out] at ho; have n0_ := Aside0.mk (Kd.N_afterv (ok := (fun k_ => (w.heap.size ≤ k_))) (by (with_reducible repeat (first | apply Kd.N_alloc | apply Kd.N_drewN | apply Kd.N_drew)); exact Kd.N_mono HO_5.out (fun _ hk => ⟨hk.1.1, hk.2⟩)) hg hat); have n1_ := Aside0.mk (Kd.V_afterv (ok := (fun k_ => (w.heap.size ≤ k_) ∧ some k_ ≠ (.slice (some ad266) x5_1.length co7 : Value).ownBlock)) (by (with_reducible repeat (first | apply Kd.V_alloc | apply Kd.V_drewN | apply Kd.V_drew)); exact Kd.V_mono HL266_0.out (fun _ hk => ⟨⟨hk.1.1, hk.1.2.1⟩, hk.2⟩)) hg hat); have n2_ := Aside0.mk (Kd.V_afterv (ok := (fun k_ => (w.heap.size ≤ k_) ∧ some k_ ≠ (.slice (some ad266) x5_1.length co7 : Value).ownBlock)) (by (with_reducible repeat (first | apply Kd.V_alloc | apply Kd.V_drewN | apply Kd.V_drew)); exact Kd.V_mono HL268_0.out (fun _ hk => ⟨⟨hk.1.1, hk.1.2.1⟩, hk.2⟩)) hg hat); have n3_ := Aside0.mk (Kd.V_afterv (ok := (fun k_ => (w.heap.size ≤ k_))) (by (with_reducible repeat (first | apply Kd.V_alloc | apply Kd.V_drewN | apply Kd.V_drew)); exact Kd.V_mono HO274.out (fun _ hk => ⟨hk.1.1, hk.2⟩)) hg hat); have n4_ := Aside0.mk (Kd.V_afterv (ok := (fun k_ => (w.heap.size ≤ k_))) (by (with_reducible repeat (first | apply Kd.V_alloc | apply Kd.V_drewN | apply Kd.V_drew)); exact Kd.V_mono HO285.out (fun _ hk => ⟨hk.1.1, hk.2⟩)) hg hat); have n5_ := Aside0.mk (hb); have n6_ := Aside0.mk (ho); clear HO_5; clear HL266_0; clear HL268_0; clear HO274; clear HO285; clear HB; clear HO280; have HO_5 := n0_; have HL266_0 := n1_; have HL268_0 := n2_; have HO274 := n3_; have HO285 := n4_; have HB := n5_; have HO288 := n6_; clear n0_ n1_ n2_ n3_ n4_ n5_ n6_; clear ho hb hg hat))
                 go_roundg k2
                 case measure => have := HK1.out; have := HK2.out; omega
                 case rel => exact ⟨(y286), (wrap64 (x6_1 + 1)), (by first | rfl | (simp; done) | (simp [*]; done)), H', ⟨by have := HK1.out; have := HK2.out; omega⟩, ⟨by (with_reducible repeat (first | apply Kd.N_alloc | apply Kd.N_drewN | apply Kd.N_drew)); exact HO288.out⟩, ⟨by repeat (first | (with_reducible first | exact HB.out | apply below_alloc | apply pw_below_drewN | apply below_drew1) | exact HB.out)⟩⟩
                ·rw [if_neg c24] at H
                 exact absurd H (by simp)
               ·rw [if_neg c21] at H
                exact absurd H (by simp)
              ·rw [if_neg c20] at H
               exact absurd H (by simp)
             ·rw [if_neg c19] at H
              exact absurd H (by simp)
            ·rw [if_neg c18] at H
             exact absurd H (by simp)
         ·rw [if_neg c11] at H
          exact absurd H (by simp)
        ·rw [if_neg c10] at H
         exact absurd H (by simp)
       ·rw [if_neg c8] at H
        have c8b0 : decide (0 < x8_2) = false := decide_eq_false c8
        clear c8
        by_cases c31 : 0 ≤ x8_2
        ·rw [if_pos c31] at H
         have c31b0 := eq_true c31
         have c31b1 : decide (0 ≤ x8_2) = true := decide_eq_true c31
         clear c31
         by_cases c32 : x8_2 ≤ (x5_1.length : Int)
         ·rw [if_pos c32] at H
          have c32b0 := eq_true c32
          have c32b1 : decide (x8_2 ≤ (x5_1.length : Int)) = true := decide_eq_true c32
          clear c32
          obtain ⟨y289, hy289⟩ : ∃ y_ : List (List (S91)), y_ = (x5_1.take (x8_2 : Int).toNat) := ⟨_, rfl⟩
          replace H : (if ([] : List (List (S91))).length + y289.length < 5864062014805 then ((some (([] : List (List (S91))) ++ y289 : List (List (S91)))).bind fun y294 => (if y294.length < 5864062014805 then ((some (y294 ++ [t263] : List (List (S91)))).bind fun y297 => ((some (x5_1.drop (x8_2 : Int).toNat : List (List (S91)))).bind fun y300 => (if y297.length + y300.length < 5864062014805 then (intervalmonref29_Groups.l0 k2 l0 l1 (y297 ++ y300) (wrap64 (x6_1 + 1))) else (none)))) else (none))) else (none)) = some r := by first | (rw [hy289]; with_reducible exact H) | (have H2_ := (Option.bind_some _ _).symm.trans H; rw [hy289]; with_reducible exact H2_) | (have H2_ := (Option.bind_some _ _).symm.trans H; with_reducible exact H2_) | with_reducible exact H | (rw [hy289]; exact H) | exact H
          have Ny289 := Aside0.mk hy289
          clear hy289
          by_cases c33 : ([] : List (List (S91))).length + y289.length < 5864062014805
          ·rw [if_pos c33] at H
           have LMc33 := Aside0.mk c33
           clear c33
           obtain ⟨y294, hy294⟩ : ∃ y_ : List (List (S91)), y_ = (([] : List (List (S91))) ++ y289) := ⟨_, rfl⟩
           replace H : (if y294.length < 5864062014805 then ((some (y294 ++ [t263] : List (List (S91)))).bind fun y297 => ((some (x5_1.drop (x8_2 : Int).toNat : List (List (S91)))).bind fun y300 => (if y297.length + y300.length < 5864062014805 then (intervalmonref29_Groups.l0 k2 l0 l1 (y297 ++ y300) (wrap64 (x6_1 + 1))) else (none)))) else (none)) = some r := by first | (rw [hy294]; with_reducible exact H) | (have H2_ := (Option.bind_some _ _).symm.trans H; rw [hy294]; with_reducible exact H2_) | (have H2_ := (Option.bind_some _ _).symm.trans H; with_reducible exact H2_) | with_reducible exact H | (rw [hy294]; exact H) | exact H
           have Ny294 := Aside0.mk hy294
           clear hy294
           by_cases c34 : y294.length < 5864062014805
           ·rw [if_pos c34] at H
            have LMc34 := Aside0.mk c34
            clear c34
            obtain ⟨y297, hy297⟩ : ∃ y_ : List (List (S91)), y_ = (y294 ++ [t263]) := ⟨_, rfl⟩
            replace H : ((some (x5_1.drop (x8_2 : Int).toNat : List (List (S91)))).bind fun y300 => (if y297.length + y300.length < 5864062014805 then (intervalmonref29_Groups.l0 k2 l0 l1 (y297 ++ y300) (wrap64 (x6_1 + 1))) else (none))) = some r := by first | (rw [hy297]; with_reducible exact H) | (have H2_ := (Option.bind_some _ _).symm.trans H; rw [hy297]; with_reducible exact H2_) | (have H2_ := (Option.bind_some _ _).symm.trans H; with_reducible exact H2_) | with_reducible exact H | (rw [hy297]; exact H) | exact H
            have Ny297 := Aside0.mk hy297
            clear hy297
            have c35b0 := eq_true (of_decide_eq_true (by first | (with_reducible assumption) | assumption) : 0 ≤ x8_2)
            have c36b0 := eq_true (of_decide_eq_true (by first | (with_reducible assumption) | assumption) : x8_2 ≤ (x5_1.length : Int))
            obtain ⟨y300, hy300⟩ : ∃ y_ : List (List (S91)), y_ = (x5_1.drop (x8_2 : Int).toNat) := ⟨_, rfl⟩
            replace H : (if y297.length + y300.length < 5864062014805 then (intervalmonref29_Groups.l0 k2 l0 l1 (y297 ++ y300) (wrap64 (x6_1 + 1))) else (none)) = some r := by first | (rw [hy300]; with_reducible exact H) | (have H2_ := (Option.bind_some _ _).symm.trans H; rw [hy300]; with_reducible exact H2_) | (have H2_ := (Option.bind_some _ _).symm.trans H; with_reducible exact H2_) | with_reducible exact H | (rw [hy300]; exact H) | exact H
            have Ny300 := Aside0.mk hy300
            clear hy300
            by_cases c37 : y297.length + y300.length < 5864062014805
            ·rw [if_pos c37] at H
             have LMc37 := Aside0.mk c37
             clear c37
             obtain ⟨y305, hy305⟩ : ∃ y_ : List (List (S91)), y_ = (y297 ++ y300) := ⟨_, rfl⟩
             replace H : (intervalmonref29_Groups.l0 k2 l0 l1 y305 (wrap64 (x6_1 + 1))) = some r := by first | (rw [hy305]; with_reducible exact H) | (have H2_ := (Option.bind_some _ _).symm.trans H; rw [hy305]; with_reducible exact H2_) | (have H2_ := (Option.bind_some _ _).symm.trans H; with_reducible exact H2_) | with_reducible exact H | (rw [hy305]; exact H) | exact H
             have Ny305 := Aside0.mk hy305
             clear hy305
             have H' := Aside0.mk H
             clear H
             have q38 : (x8_2 : Int) ≤ ((x5_1.length : Int) : Int) := of_decide_eq_true (by first | (with_reducible assumption) | assumption)
             obtain ⟨i038, hi038, _, hsz38, _⟩ := info_parts info70
             have hroom38 : x5_1.length ≤ co7 := (Kd.N_reads' HO_5.out).2.1
             have hC38 : Kd.F (Kd.slice 91 k91) _ _ Ao7 x5_1.length x5_1 := (Kd.V_at (base := w.heap.size) (Kd.N_V HO_5.out)).2.2
             have hcut38 := cut_to (P := Try.prog) 87 70 .i64 Try.underlying87 hi038 Ao7 x5_1.length co7 x8_2 (of_decide_eq_true (by first | (with_reducible assumption) | assumption)) q38 hroom38
             have hr38 := Kd.F_take (m := (x8_2 : Int).toNat) hC38 (by omega)
             have hy38 : y289.length = (x8_2 : Int).toNat := (by rw [Ny289.out, List.length_take]; omega)
             rw [← Ny289.out] at hr38
             rw [← hy38] at hcut38
             have HO293 := Aside0.mk (show Kd.V (Kd.slice 91 k91) 70 _ w.heap.size _ (.slice Ao7 y289.length co7) y289 from Kd.V_mk (by omega) hr38)
             have HC293 := Aside0.mk (show y289.length ≤ co7 from by omega)
             clear hr38 hC38 hroom38 hi038 hsz38
             have KY38 := Aside0.mk hy38
             clear hy38
             replace q38 := eq_true q38
             go_wp2_with (first | ((with_reducible refine gate_builtin (b := .append) (xs := #[.tmp 54, .tmp 57]) rfl ?_); at_builtin; refine Kd.N_append_rows (Kd.slice 91 k91) (w0 := w) w.heap.size rfl (.tmp 54) (.tmp 57) 87 70 (.slice none 0 0) 24 rfl Try.underlying87 info70 rfl (by decide) (by omega) (.slice none 0 0) ([] : List (List (S91))) y289 _ _ _ (fun k_ => (w.heap.size ≤ k_) ∧ some k_ ≠ (v264 : Value).ownBlock) (fun k_ => ((fun k_ => (w.heap.size ≤ k_) ∧ some k_ ≠ (v264 : Value).ownBlock)) k_ ∧ some k_ ≠ (.slice none 0 0 : Value).ownBlock) rfl rfl ?aO ?aR (fun _ hk => hk) ?aF ?aB ?aS ?aL ?_; (case aR => exact (by skip; exact Kd.V_F (Kd.V_mono (ok' := (fun k_ => ((fun k_ => (w.heap.size ≤ k_) ∧ some k_ ≠ (v264 : Value).ownBlock)) k_ ∧ some k_ ≠ (.slice none 0 0 : Value).ownBlock)) (vq HO293) (fun k_ hk => ⟨⟨hk.1, hk.2⟩, (by simp [Value.ownBlock])⟩)))); (case aB => exact (hq HB)); (case aF => exact (fun k_ hk => ⟨(Nat.le_trans (below_size (hq HB)) hk), Kd.fresh' (Kd.R_lt (rq HO_7)) k_ hk⟩)); (case aO => exact ((Kd.N_nil _ _ _ _ (fun k_ => (w.heap.size ≤ k_) ∧ some k_ ≠ (v264 : Value).ownBlock)))); (case aS => exact (below_size (hq HB))); (case aL => have := LMc33.out; omega); intro v295 w39 ho hb hg hat; rw [← Ny294.out] at ho; have n0_ := Aside0.mk (Kd.N_afterv (Kd.N_apart_nil (nq HO_5)) hg hat); have n1_ := Aside0.mk (Kd.R_grown (rq HO_7) hg (fun _ _ => by simp [Value.ownBlock])); have n2_ := Aside0.mk (Kd.V_afterv (Kd.V_apart_nil (vq HO293)) hg hat); have n3_ := Aside0.mk (hb); have n4_ := Aside0.mk (ho); clear HO_5; clear HO_7; clear HO293; clear HB; have HO_5 := n0_; have HO_7 := n1_; have HO293 := n2_; have HB := n3_; have HO296 := n4_; clear n0_ n1_ n2_ n3_ n4_; clear ho hb hg hat; obtain ⟨Ao41, co41, eo41⟩ := Kd.R_slice HO_7.out; subst eo41) | ((with_reducible refine gate_builtin (b := .append) (xs := #[.tmp 59, .tmp 61]) rfl ?_); at_builtin; refine Kd.N_append (Kd.slice 91 k91) (w0 := w) w.heap.size rfl (.tmp 59) (.tmp 61) 87 70 (.slice none 0 0) 24 rfl Try.underlying87 info70 rfl (by decide) (by omega) v295 y294 t263 [.slice Ao41 t263.length co41] (fun k_ => (w.heap.size ≤ k_)) (fun k_ => ((fun k_ => (w.heap.size ≤ k_))) k_ ∧ some k_ ≠ (v295 : Value).ownBlock) rfl rfl ?aP (fun _ hk => hk) ?aF ?aO ?aB ?aS ?aL ?_; (case aP => exact (Kd.FK_slice_mk (Kd.R_reads' (Kd.R_mono (ok' := (fun k_ => ((fun k_ => (w.heap.size ≤ k_))) k_ ∧ some k_ ≠ (v295 : Value).ownBlock)) (Kd.R_apart' (HO_7.out) (Kd.N_typed HO296.out) (by decide)) (fun k_ hk => ⟨hk.1, hk.2⟩))).2.1 (Kd.R_F (Kd.R_mono (ok' := (fun k_ => ((fun k_ => (w.heap.size ≤ k_))) k_ ∧ some k_ ≠ (v295 : Value).ownBlock)) (Kd.R_apart' (HO_7.out) (Kd.N_typed HO296.out) (by decide)) (fun k_ hk => ⟨hk.1, hk.2⟩))))); (case aB => exact (hq HB)); (case aF => exact (fun k_ hk => (Nat.le_trans (below_size (hq HB)) hk))); (case aO => exact (by (with_reducible repeat (first | apply Kd.N_alloc | apply Kd.N_drewN | apply Kd.N_drew)); exact Kd.N_mono HO296.out (fun _ hk => hk.1))); (case aS => exact (below_size (hq HB))); (case aL => have := LMc34.out; omega); intro v298 w40 ho hb hg hat; rw [← Ny297.out] at ho; have n0_ := Aside0.mk (Kd.N_afterv (ok := (fun k_ => (w.heap.size ≤ k_) ∧ some k_ ≠ (.slice Ao41 t263.length co41 : Value).ownBlock)) (nq HO_5) hg hat); have n1_ := Aside0.mk (Kd.V_afterv (ok := (fun k_ => (w.heap.size ≤ k_) ∧ some k_ ≠ (.slice Ao41 t263.length co41 : Value).ownBlock)) (vq HO293) hg hat); have n2_ := Aside0.mk (hb); have n3_ := Aside0.mk (ho); clear HO_5; clear HO293; clear HB; clear HO296; clear HO_7; have HO_5 := n0_; have HO293 := n1_; have HB := n2_; have HO299 := n3_; clear n0_ n1_ n2_ n3_; clear ho hb hg hat; have q42 : (x8_2 : Int) ≤ ((x5_1.length : Int) : Int) := of_decide_eq_true (by first | (with_reducible assumption) | assumption); obtain ⟨i042, hi042, _, hsz42, _⟩ := info_parts info70; have hroom42 : x5_1.length ≤ co7 := (Kd.N_reads' HO_5.out).2.1; have hC42 : Kd.F (Kd.slice 91 k91) _ _ Ao7 x5_1.length x5_1 := (Kd.V_at (base := w.heap.size) (Kd.N_V HO_5.out)).2.2; have q042 : (0 : Int) ≤ (x8_2 : Int) := of_decide_eq_true (by first | (with_reducible assumption) | assumption); have hcut42 := cut_from (P := Try.prog) 87 70 .i64 Try.underlying87 hi042 1 hsz42 Ao7 x5_1.length co7 x8_2 q042 q42; have hr42 := Kd.F_cut (m := (x8_2 : Int).toNat) (c := co7) hC42 (by omega) hroom42; obtain ⟨A42, hA42⟩ : ∃ A1, A1 = (if co7 = (x8_2 : Int).toNat then Ao7 else (Ao7 : Option Addr).map (·.add ((x8_2 : Int).toNat * 1))) := ⟨_, rfl⟩; obtain ⟨c42, hc42⟩ : ∃ c1, c1 = co7 - (x8_2 : Int).toNat := ⟨_, rfl⟩; have hy42 : y300.length = x5_1.length - (x8_2 : Int).toNat := (by rw [Ny300.out, List.length_drop] <;> omega); rw [show (x5_1).drop (x8_2 : Int).toNat = y300 from Ny300.out.symm] at hr42; replace hr42 : Kd.F (Kd.slice 91 k91) _ _ A42 y300.length y300 := (by rw [hA42]; exact hr42); rw [← hy42, ← hA42, ← hc42] at hcut42; have HO304 := Aside0.mk (show Kd.V (Kd.slice 91 k91) 70 _ w.heap.size _ (.slice A42 y300.length c42) y300 from Kd.V_mk (by rw [hy42, hc42]; exact Nat.sub_le_sub_right hroom42 _) hr42); have HC304 := Aside0.mk (show y300.length ≤ c42 from by rw [hy42, hc42]; exact Nat.sub_le_sub_right hroom42 _); clear hr42 hC42 hroom42 hi042 hsz42 hc42; have KY42 := Aside0.mk hy42; have KA42 := Aside0.mk hA42; clear hy42 hA42; replace q42 := eq_true q42) | ((with_reducible refine gate_builtin (b := .append) (xs := #[.tmp 63, .tmp 66]) rfl ?_); at_builtin; refine Kd.N_append_rows (Kd.slice 91 k91) (w0 := w) w.heap.size rfl (.tmp 63) (.tmp 66) 87 70 (.slice none 0 0) 24 rfl Try.underlying87 info70 rfl (by decide) (by omega) v298 y297 y300 _ _ _ (fun k_ => (w.heap.size ≤ k_)) (fun k_ => ((fun k_ => (w.heap.size ≤ k_))) k_ ∧ some k_ ≠ (v298 : Value).ownBlock) rfl rfl ?aO ?aR (fun _ hk => hk) ?aF ?aB ?aS ?aL ?_; (case aR => exact (by skip; exact Kd.V_F (Kd.V_mono (ok' := (fun k_ => ((fun k_ => (w.heap.size ≤ k_))) k_ ∧ some k_ ≠ (v298 : Value).ownBlock)) (vq HO304) (fun k_ hk => ⟨hk.1.1, hk.2⟩)))); (case aB => exact (hq HB)); (case aF => exact (fun k_ hk => (Nat.le_trans (below_size (hq HB)) hk))); (case aO => exact (nq HO299)); (case aS => exact (below_size (hq HB))); (case aL => have := LMc37.out; omega); intro v306 w43 ho hb hg hat; rw [← Ny305.out] at ho; have n0_ := Aside0.mk (Kd.N_afterv (ok := (fun k_ => (w.heap.size ≤ k_))) (by (with_reducible repeat (first | apply Kd.N_alloc | apply Kd.N_drewN | apply Kd.N_drew)); exact Kd.N_mono HO_5.out (fun _ hk => ⟨hk.1.1, hk.2⟩)) hg hat); have n1_ := Aside0.mk (Kd.V_afterv (ok := (fun k_ => (w.heap.size ≤ k_))) (by (with_reducible repeat (first | apply Kd.V_alloc | apply Kd.V_drewN | apply Kd.V_drew)); exact Kd.V_mono HO293.out (fun _ hk => ⟨hk.1.1, hk.2⟩)) hg hat); have n2_ := Aside0.mk (Kd.V_afterv (ok := (fun k_ => (w.heap.size ≤ k_))) (by (with_reducible repeat (first | apply Kd.V_alloc | apply Kd.V_drewN | apply Kd.V_drew)); exact Kd.V_mono HO304.out (fun _ hk => ⟨hk.1.1, hk.2⟩)) hg hat); have n3_ := Aside0.mk (hb); have n4_ := Aside0.mk (ho); clear HO_5; clear HO293; clear HO304; clear HB; clear HO299; have HO_5 := n0_; have HO293 := n1_; have HO304 := n2_; have HB := n3_; have HO307 := n4_; clear n0_ n1_ n2_ n3_ n4_; clear ho hb hg hat))
             go_roundg k2
             case measure => have := HK1.out; have := HK2.out; omega
             case rel => exact ⟨(y305), (wrap64 (x6_1 + 1)), (by first | rfl | (simp; done) | (simp [*]; done)), H', ⟨by have := HK1.out; have := HK2.out; omega⟩, ⟨by (with_reducible repeat (first | apply Kd.N_alloc | apply Kd.N_drewN | apply Kd.N_drew)); exact HO307.out⟩, ⟨by repeat (first | (with_reducible first | exact HB.out | apply below_alloc | apply pw_below_drewN | apply below_drew1) | exact HB.out)⟩⟩
            ·rw [if_neg c37] at H
             exact absurd H (by simp)
           ·rw [if_neg c34] at H
            exact absurd H (by simp)
          ·rw [if_neg c33] at H
           exact absurd H (by simp)
         ·rw [if_neg c32] at H
          exact absurd H (by simp)
        ·rw [if_neg c31] at H
         exact absurd H (by simp)
    ·rw [if_neg c4] at H
     exact absurd H (by simp)
   ·rw [if_neg c3] at H
    have c3b0 : decide (x6_1 < (l0.length : Int)) = false := decide_eq_false c3
    clear c3
    have H' := Aside0.mk H
    clear H
    go_wp2
    go_loopg [10, 11] k1 (fun kq v10 v11 w' => ∃ (x10_2 : List (List Int)) (x11_2 : Int), v11 = .int .i64 x11_2 ∧ Aside0 (intervalmonref29_Groups.l2 kq l0 l1 x5_1 x10_2 x11_2 = some r) ∧ Aside0 (kq ≤ k1) ∧ Aside0 (Kd.N (Kd.slice 91 k91) 70 w' w.heap.size (fun k_ => (w.heap.size ≤ k_) ∧ some k_ ≠ (v10 : Value).ownBlock) u5 x5_1) ∧ Aside0 (Kd.N (Kd.slice 3 (Kd.int .i64)) 22 w' w.heap.size (fun k_ => (w.heap.size ≤ k_) ∧ some k_ ≠ (u5 : Value).ownBlock) v10 x10_2) ∧ Aside0 (Below w.heap.size w w'))
    case atStart => exact ⟨(([] : List (List Int))), (0), (by first | rfl | (simp; done) | (simp [*]; done)), H', ⟨Nat.le_refl _⟩, ⟨by (with_reducible repeat (first | apply Kd.N_alloc | apply Kd.N_drewN | apply Kd.N_drew)); exact Kd.N_mono HO_5.out (fun _ hk => ⟨hk, (by simp [Value.ownBlock])⟩)⟩, ⟨by first | exact Kd.S_nil _ _ _ _ _ | exact Kd.N_nil _ _ _ _ _ | exact Kd.V_nil _ _ _ _ _ | exact Kd.Q_nil _ _ _ _ _ | exact Kd.R_nil _ _ _ _ _⟩, ⟨by repeat (first | (with_reducible first | exact HB.out | apply below_alloc | apply pw_below_drewN | apply below_drew1) | exact HB.out)⟩⟩
    case round =>
     clear H'
     try clear c1
     try clear c2
     try clear p2
     try clear q2
     try clear hx2
     try clear c3
     try clear c3b0
     try clear q3
     try clear c4
     try clear c4b0
     try clear q4
     try clear c5
     try clear p6
     try clear c8
     try clear c8b0
     try clear c10
     try clear c10b0
     try clear c11
     try clear c11b0
     try clear c13
     try clear c13b0
     try clear c16
     try clear c18
     try clear c18b0
     try clear c18b1
     try clear c19
     try clear c19b0
     try clear c19b1
     try clear c20
     try clear c21
     try clear c22
     try clear c22b0
     try clear c23
     try clear c23b0
     try clear c24
     try clear c26
     try clear p26
     try clear q26
     try clear hx26
     try clear c29
     try clear q29
     try clear c31
     try clear c31b0
     try clear c31b1
     try clear c32
     try clear c32b0
     try clear c32b1
     try clear c33
     try clear c34
     try clear c35
     try clear c35b0
     try clear c36
     try clear c36b0
     try clear c37
     try clear q38
     try clear c42
     try clear q42
     try clear hx262_0
     try clear hx262_1
     try clear hx262_2
     try clear hx262_3
     try clear hx262_4
     try clear hx262_5
     try clear hx266_0
     try clear hx268_0
     try clear p2
     try clear p262
     try clear p266
     try clear p268
     try clear q029
     try clear q042
     try clear q2
     try clear q26
     try clear q262
     try clear q266
     try clear q268
     try clear q29
     try clear q38
     try clear q42
     obtain ⟨x10_2, x11_2, rfl, HA, HK2, HO_5, HO_10, HB⟩ := hrel
     cases gk with
     | zero => exact absurd HA.out (by simp [intervalmonref29_Groups.l2])
     | succ k2 =>
      have H := HA.out
      clear HA
      simp only [intervalmonref29_Groups.l2] at H
      by_cases c44 : x11_2 < (x5_1.length : Int)
      ·rw [if_pos c44] at H
       have c44b0 : decide (x11_2 < (x5_1.length : Int)) = true := decide_eq_true c44
       clear c44
       have H' := Aside0.mk H
       clear H
       obtain ⟨Ao45, co45, eo45⟩ := Kd.N_slice HO_5.out
       subst eo45
       go_wp2
       go_loopg [12, 13] k2 (fun kq v12 v13 w' => ∃ (x12_3 : List Int) (x13_3 : Int), v13 = .int .i64 x13_3 ∧ Aside0 (intervalmonref29_Groups.l3 kq l0 l1 x5_1 x10_2 x11_2 x12_3 x13_3 = some r) ∧ Aside0 (kq ≤ k2) ∧ Aside0 (Kd.N (Kd.slice 91 k91) 70 w' w.heap.size (fun k_ => (w.heap.size ≤ k_) ∧ some k_ ≠ (u10 : Value).ownBlock ∧ some k_ ≠ (v12 : Value).ownBlock) (.slice Ao45 x5_1.length co45) x5_1) ∧ Aside0 (Kd.N (Kd.slice 3 (Kd.int .i64)) 22 w' w.heap.size (fun k_ => (w.heap.size ≤ k_) ∧ some k_ ≠ ((.slice Ao45 x5_1.length co45) : Value).ownBlock ∧ some k_ ≠ (v12 : Value).ownBlock) u10 x10_2) ∧ Aside0 (Kd.R (Kd.int .i64) 3 w' w.heap.size (fun k_ => (w.heap.size ≤ k_)) v12 x12_3) ∧ Aside0 (Below w.heap.size w w'))
       case atStart => exact ⟨(([] : List Int)), (0), (by first | rfl | (simp; done) | (simp [*]; done)), H', ⟨Nat.le_refl _⟩, ⟨by (with_reducible repeat (first | apply Kd.N_alloc | apply Kd.N_drewN | apply Kd.N_drew)); exact Kd.N_mono HO_5.out (fun _ hk => ⟨hk.1, ⟨hk.2, (by simp [Value.ownBlock])⟩⟩)⟩, ⟨by (with_reducible repeat (first | apply Kd.N_alloc | apply Kd.N_drewN | apply Kd.N_drew)); exact Kd.N_mono HO_10.out (fun _ hk => ⟨hk.1, ⟨hk.2, (by simp [Value.ownBlock])⟩⟩)⟩, ⟨by first | exact Kd.R_nil _ _ _ _ _ | exact Kd.N_nil _ _ _ _ _ | exact Kd.V_nil _ _ _ _ _ | exact Kd.Q_nil _ _ _ _ _ | exact Kd.S_nil _ _ _ _ _⟩, ⟨by repeat (first | (with_reducible first | exact HB.out | apply below_alloc | apply pw_below_drewN | apply below_drew1) | exact HB.out)⟩⟩
       case round =>
        clear H'
        try clear c1
        try clear c2
        try clear p2
        try clear q2
        try clear hx2
        try clear c3
        try clear c3b0
        try clear q3
        try clear c4
        try clear c4b0
        try clear q4
        try clear c5
        try clear p6
        try clear c8
        try clear c8b0
        try clear c10
        try clear c10b0
        try clear c11
        try clear c11b0
        try clear c13
        try clear c13b0
        try clear c16
        try clear c18
        try clear c18b0
        try clear c18b1
        try clear c19
        try clear c19b0
        try clear c19b1
        try clear c20
        try clear c21
        try clear c22
        try clear c22b0
        try clear c23
        try clear c23b0
        try clear c24
        try clear c26
        try clear p26
        try clear q26
        try clear hx26
        try clear c29
        try clear q29
        try clear c31
        try clear c31b0
        try clear c31b1
        try clear c32
        try clear c32b0
        try clear c32b1
        try clear c33
        try clear c34
        try clear c35
        try clear c35b0
        try clear c36
        try clear c36b0
        try clear c37
        try clear q38
        try clear c42
        try clear q42
        try clear c44
        try clear c44b0
        try clear hx262_0
        try clear hx262_1
        try clear hx262_2
        try clear hx262_3
        try clear hx262_4
        try clear hx262_5
        try clear hx266_0
        try clear hx268_0
        try clear p2
        try clear p26
        try clear p262
        try clear p266
        try clear p268
        try clear p6
        try clear q029
        try clear q042
        try clear q2
        try clear q26
        try clear q262
        try clear q266
        try clear q268
        try clear q29
        try clear q3
        try clear q38
        try clear q4
        try clear q42
        obtain ⟨x12_3, x13_3, rfl, HA, HK3, HO_5, HO_10, HO_12, HB⟩ := hrel
        cases gk with
        | zero => exact absurd HA.out (by simp [intervalmonref29_Groups.l3])
        | succ k3 =>
         have H := HA.out
         clear HA
         simp only [intervalmonref29_Groups.l3] at H
         by_cases c46 : x13_3 < (l0.length : Int)
         ·rw [if_pos c46] at H
          have c46b0 : decide (x13_3 < (l0.length : Int)) = true := decide_eq_true c46
          clear c46
          by_cases c47 : 0 ≤ x13_3
          ·rw [if_pos c47] at H
           have c47b0 : decide (0 ≤ x13_3) = true := decide_eq_true c47
           clear c47
           replace H := Option.bind_eq_some_iff.mp H
           obtain ⟨t312, A480, H⟩ := H
           replace H : (if 0 ≤ x11_2 then (if x11_2 < (x5_1.length : Int) then ((intervalmonref05_Same.f k3 t312 (rd_L9 x5_1 x11_2)).bind fun t316 => (if t316 = true then (if x12_3.length < 17592186044416 then (intervalmonref29_Groups.l3 k3 l0 l1 x5_1 x10_2 x11_2 (x12_3 ++ [x13_3]) (wrap64 (x13_3 + 1))) else (none)) else (intervalmonref29_Groups.l3 k3 l0 l1 x5_1 x10_2 x11_2 x12_3 (wrap64 (x13_3 + 1))))) else (none)) else (none)) = some r := H
           have A48 := Aside0.mk A480
           clear A480
           by_cases c49 : 0 ≤ x11_2
           ·rw [if_pos c49] at H
            have c49b0 : decide (0 ≤ x11_2) = true := decide_eq_true c49
            clear c49
            by_cases c50 : x11_2 < (x5_1.length : Int)
            ·rw [if_pos c50] at H
             have c50b0 : decide (x11_2 < (x5_1.length : Int)) = true := decide_eq_true c50
             clear c50
             replace H := Option.bind_eq_some_iff.mp H
             obtain ⟨t316, A510, H⟩ := H
             replace H : (if t316 = true then (if x12_3.length < 17592186044416 then (intervalmonref29_Groups.l3 k3 l0 l1 x5_1 x10_2 x11_2 (x12_3 ++ [x13_3]) (wrap64 (x13_3 + 1))) else (none)) else (intervalmonref29_Groups.l3 k3 l0 l1 x5_1 x10_2 x11_2 x12_3 (wrap64 (x13_3 + 1)))) = some r := H
             have A51 := Aside0.mk A510
             clear A510
             by_cases c52 : t316 = true
             ·subst c52
              have H1 : (if x12_3.length < 17592186044416 then (intervalmonref29_Groups.l3 k3 l0 l1 x5_1 x10_2 x11_2 (x12_3 ++ [x13_3]) (wrap64 (x13_3 + 1))) else (none)) = some r := by rw [if_pos rfl] at H; exact H
              clear H
              have H := H1
              clear H1
              by_cases c53 : x12_3.length < 17592186044416
              ·rw [if_pos c53] at H
               have LMc53 := Aside0.mk c53
               clear c53
               obtain ⟨y317, hy317⟩ : ∃ y_ : List Int, y_ = (x12_3 ++ [x13_3]) := ⟨_, rfl⟩
               replace H : (intervalmonref29_Groups.l3 k3 l0 l1 x5_1 x10_2 x11_2 y317 (wrap64 (x13_3 + 1))) = some r := by first | (rw [hy317]; with_reducible exact H) | (have H2_ := (Option.bind_some _ _).symm.trans H; rw [hy317]; with_reducible exact H2_) | (have H2_ := (Option.bind_some _ _).symm.trans H; with_reducible exact H2_) | with_reducible exact H | (rw [hy317]; exact H) | exact H
               have Ny317 := Aside0.mk hy317
               clear hy317
               have H' := Aside0.mk H
               clear H
               try go_wp2
               have n0_ := Aside0.mk (Kd.N_drew HO_5.out)
               have n1_ := Aside0.mk (Kd.N_drew HO_10.out)
               have n2_ := Aside0.mk (Kd.R_drew HO_12.out)
               have n3_ := Aside0.mk (below_drew1 HB.out)
               clear HO_5
               clear HO_10
               clear HO_12
               clear HB
               have HO_5 := n0_
               have HO_10 := n1_
               have HO_12 := n2_
               have HB := n3_
               clear n0_ n1_ n2_ n3_
               have p311 : 0 ≤ (x13_3 : Int) := of_decide_eq_true (by first | (with_reducible assumption) | assumption)
               have q311 : x13_3 < (l0.length : Int) := of_decide_eq_true (by first | (with_reducible assumption) | assumption)
               obtain ⟨ad311, A311_2, c311_2, e311, hx311_0, hx311_1, hx311_2, hx311_3, hx311_4, hx311_5, hl311_2, hi311_2⟩ := at_T73 HR0.out x13_3 p311 q311
               have hw311_5 := hx311_5
               have hw311_4 := hx311_4
               have hw311_3 := hx311_3
               have hw311_2 := hx311_2
               have hw311_1 := hx311_1
               have hw311_0 := hx311_0
               cases e311
               (try replace hx311_0 := (HB.out.cell (World.block_lt_of_cell? w _ hx311_0)).trans hx311_0)
               (try replace hx311_1 := (HB.out.cell (World.block_lt_of_cell? w _ hx311_1)).trans hx311_1)
               (try replace hx311_2 := (HB.out.cell (World.block_lt_of_cell? w _ hx311_2)).trans hx311_2)
               (try replace hx311_3 := (HB.out.cell (World.block_lt_of_cell? w _ hx311_3)).trans hx311_3)
               (try replace hx311_4 := (HB.out.cell (World.block_lt_of_cell? w _ hx311_4)).trans hx311_4)
               (try replace hx311_5 := (HB.out.cell (World.block_lt_of_cell? w _ hx311_5)).trans hx311_5)
               have HR311_2 := Aside0.mk hi311_2
               have HC311_2 := Aside0.mk hl311_2
               clear hi311_2 hl311_2
               replace p311 := eq_true p311
               replace q311 := eq_true q311
               have p315 : 0 ≤ (x11_2 : Int) := of_decide_eq_true (by first | (with_reducible assumption) | assumption)
               have q315 : x11_2 < (x5_1.length : Int) := of_decide_eq_true (by first | (with_reducible assumption) | assumption)
               try (obtain ⟨Az315_, cz315_, ez315_⟩ := Kd.N_slice HO_5.out; subst ez315_)
               obtain ⟨ad315, A315_0, c315_0, e315, hx315_0, hl315_0, hi315_0⟩ := at_L9 (Kd.N_reads' HO_5.out).2.2 x11_2 p315 q315
               cases e315
               obtain ⟨ce315, hce315, hMe315, hcc315⟩ := Kd.N_get HO_5.out [] x11_2 p315 (by first | exact q315 | exact of_decide_eq_true (by first | (with_reducible assumption) | assumption) | (have e_ := (Kd.N_reads' HO_5.out).1; omega))
               obtain ⟨ua315_0, uc315_0, rfl, ul315_0, ge315_0⟩ := Kd.FK_slice_open hMe315
               have hv315_0 := hcc315 0 _ rfl
               rw [Nat.add_zero, show ((Kd.slice 91 k91)).sz = 1 from rfl, Nat.mul_one] at hv315_0
               replace hv315_0 := Option.some.inj (hv315_0.symm.trans hx315_0)
               injection hv315_0 with hva_ hvn_ hvc_
               rw [hva_] at ge315_0
               rw [hvc_] at ul315_0
               have HL315_0 := Aside0.mk (show Kd.V k91 91 _ w.heap.size _ _ (rd_L9 x5_1 x11_2) from Kd.V_mk ul315_0 ge315_0)
               clear hva_ hvn_ hvc_ ge315_0 ul315_0
               clear hcc315 hce315
               have HR315_0 := Aside0.mk hi315_0
               have HC315_0 := Aside0.mk hl315_0
               clear hi315_0 hl315_0
               replace p315 := eq_true p315
               replace q315 := eq_true q315
               refine start_ (n := 12) (S := fun w' => w'.cell? (ad311.add ((x13_3).toNat * 6)) = some (.string ((rd_T73 l0 x13_3).f0)) ∧ w'.cell? ⟨(ad311.add ((x13_3).toNat * 6)).block, (ad311.add ((x13_3).toNat * 6)).off + 1, none⟩ = some (.int .i64 ((rd_T73 l0 x13_3).f1)) ∧ w'.cell? ⟨(ad311.add ((x13_3).toNat * 6)).block, (ad311.add ((x13_3).toNat * 6)).off + 2, none⟩ = some (.slice A311_2 ((rd_T73 l0 x13_3).f2).length c311_2) ∧ w'.cell? ⟨(ad311.add ((x13_3).toNat * 6)).block, (ad311.add ((x13_3).toNat * 6)).off + 3, none⟩ = some (.int .i64 ((rd_T73 l0 x13_3).f3)) ∧ w'.cell? ⟨(ad311.add ((x13_3).toNat * 6)).block, (ad311.add ((x13_3).toNat * 6)).off + 4, none⟩ = some (.int .i64 ((rd_T73 l0 x13_3).f4)) ∧ w'.cell? ⟨(ad311.add ((x13_3).toNat * 6)).block, (ad311.add ((x13_3).toNat * 6)).off + 5, none⟩ = some (.int .i64 ((rd_T73 l0 x13_3).f5)) ∧ w'.cell? (ad315.add (x11_2).toNat) = some (.slice A315_0 (rd_L9 x5_1 x11_2).length c315_0)) (ds := []) #[false, false, false, false, false, false, false, false, false, false, false, false] (by kernel_rfl) rfl rfl ⟨((HB.out.cell (World.block_lt_of_cell? w _ hw311_0)).trans hw311_0), ((HB.out.cell (World.block_lt_of_cell? w _ hw311_1)).trans hw311_1), ((HB.out.cell (World.block_lt_of_cell? w _ hw311_2)).trans hw311_2), ((HB.out.cell (World.block_lt_of_cell? w _ hw311_3)).trans hw311_3), ((HB.out.cell (World.block_lt_of_cell? w _ hw311_4)).trans hw311_4), ((HB.out.cell (World.block_lt_of_cell? w _ hw311_5)).trans hw311_5), hx315_0⟩ (fun hHeld => ?_); refine with_tabW intervalmonref29_Groups.tab22 intervalmonref29_Groups.bits22 (fun HT_ HW_ => ?_)
               generalize wr.drew = w54 at HO_5 HO_10 HO_12 HB HL315_0 HR311_2 HR315_0 hx311_0 hx311_1 hx311_2 hx311_3 hx311_4 hx311_5 hx315_0 hHeld ⊢
               refine pure_ (i := 0) (N := some 80) (v := ?_) (a' := ?_) #[true, false, false, false, false, false, false, false, false, false, false, false] rfl rfl (any_of HT_.out (by kernel_rfl)) (fun _ _ _ h => h) (Or.inl ⟨by rfl, ?_⟩) ?_ ?_
               rotate_left
               ·intro w'
                go_simp
                with_reducible rfl
               rotate_left
               ·simp only [Act.put, List.setIfInBounds_toArray, List.set_cons_zero, List.set_cons_succ, i64_w, i32_w]
                rfl
               refine pure_ (i := 1) (N := some 81) (v := ?_) (a' := ?_) #[true, true, false, false, false, false, false, false, false, false, false, false] rfl rfl (any_of HT_.out (by kernel_rfl)) (fun _ _ _ h => h) (Or.inl ⟨by rfl, ?_⟩) ?_ ?_
               rotate_left
               ·intro w'
                go_simp
                with_reducible rfl
               rotate_left
               ·simp only [Act.put, List.setIfInBounds_toArray, List.set_cons_zero, List.set_cons_succ, i64_w, i32_w]
                rfl
               refine pure_ (i := 2) (N := some 82) (v := ?_) (a' := ?_) #[true, true, true, false, false, false, false, false, false, false, false, false] rfl rfl (any_of HT_.out (by kernel_rfl)) (fun _ _ _ h => h) (Or.inl ⟨by rfl, ?_⟩) ?_ ?_
               rotate_left
               ·intro w'
                go_simp
                with_reducible rfl
               rotate_left
               ·simp only [Act.put, List.setIfInBounds_toArray, List.set_cons_zero, List.set_cons_succ, i64_w, i32_w]
                rfl
               refine pure_ (i := 3) (N := some 83) (v := ?_) (a' := ?_) #[true, true, true, true, false, false, false, false, false, false, false, false] rfl rfl (any_of HT_.out (by kernel_rfl)) (fun _ _ _ h => h) (Or.inl ⟨by rfl, ?_⟩) ?_ ?_
               rotate_left
               ·intro w'
                go_simp
                with_reducible rfl
               rotate_left
               ·simp only [Act.put, List.setIfInBounds_toArray, List.set_cons_zero, List.set_cons_succ, i64_w, i32_w]
                rfl
               refine pure_ (i := 5) (N := some 85) (v := ?_) (a' := ?_) #[true, true, true, true, false, true, false, false, false, false, false, false] rfl rfl (any_of HT_.out (by kernel_rfl)) (fun _ _ _ h => h) (Or.inl ⟨by rfl, ?_⟩) ?_ ?_
               rotate_left
               ·intro w'
                go_simp
                with_reducible rfl
               rotate_left
               ·simp only [Act.put, List.setIfInBounds_toArray, List.set_cons_zero, List.set_cons_succ, i64_w, i32_w]
                rfl
               refine pure_ (i := 7) (N := some 87) (v := ?_) (a' := ?_) #[true, true, true, true, false, true, false, true, false, false, false, false] rfl rfl (any_of HT_.out (by kernel_rfl)) (fun _ _ _ h => h) (Or.inl ⟨by rfl, ?_⟩) ?_ ?_
               rotate_left
               ·intro w'
                go_simp
                with_reducible rfl
               rotate_left
               ·simp only [Act.put, List.setIfInBounds_toArray, List.set_cons_zero, List.set_cons_succ, i64_w, i32_w]
                rfl
               refine pure_ (i := 8) (N := some 88) (v := ?_) (a' := ?_) #[true, true, true, true, false, true, false, true, true, false, false, false] rfl rfl (any_of HT_.out (by kernel_rfl)) (fun _ _ _ h => h) (Or.inl ⟨by rfl, ?_⟩) ?_ ?_
               rotate_left
               ·intro w'
                go_simp
                with_reducible rfl
               rotate_left
               ·simp only [Act.put, List.setIfInBounds_toArray, List.set_cons_zero, List.set_cons_succ, i64_w, i32_w]
                rfl
               refine pure_ (i := 9) (N := some 89) (v := ?_) (a' := ?_) #[true, true, true, true, false, true, false, true, true, true, false, false] rfl rfl (any_of HT_.out (by kernel_rfl)) (fun _ _ _ h => h) (Or.inl ⟨by rfl, ?_⟩) ?_ ?_
               rotate_left
               ·intro w'
                go_simp
                with_reducible rfl
               rotate_left
               ·simp only [Act.put, List.setIfInBounds_toArray, List.set_cons_zero, List.set_cons_succ, i64_w, i32_w]
                rfl
               refine take_ (i := 4) (N := some 84) (v := ?_) (a' := ?_) #[true, true, true, true, true, true, false, true, true, true, false, false] rfl rfl (take_ofW HT_.out HW_.out (by kernel_rfl)) (fun _ _ _ h => h) (Or.inl ⟨by rfl, ?_⟩) hHeld ?_ ?_
               rotate_left
               ·rintro w' ⟨s0, s1, s2, s3, s4, s5, s6⟩
                go_simp
                with_reducible rfl
               rotate_left
               ·simp only [Act.put, List.setIfInBounds_toArray, List.set_cons_zero, List.set_cons_succ, i64_w, i32_w]
                rfl
               refine take_ (i := 10) (N := some 90) (v := ?_) (a' := ?_) #[true, true, true, true, true, true, false, true, true, true, true, false] rfl rfl (take_ofW HT_.out HW_.out (by kernel_rfl)) (fun _ _ _ h => h) (Or.inl ⟨by rfl, ?_⟩) hHeld ?_ ?_
               rotate_left
               ·rintro w' ⟨s0, s1, s2, s3, s4, s5, s6⟩
                go_simp
                with_reducible rfl
               rotate_left
               ·simp only [Act.put, List.setIfInBounds_toArray, List.set_cons_zero, List.set_cons_succ, i64_w, i32_w]
                rfl
               refine one_ (i := 6) (N := some 86) #[true, true, true, true, true, true, true, true, true, true, true, false] rfl rfl (one_of HT_.out (by kernel_rfl)) (by decide) (fun K hK => ?_)
               refine goes_ Try.func53 (by kernel_rfl) rfl #[.slice A311_2 ((rd_T73 l0 x13_3).f2).length c311_2, .slice A1 l1.length c1] (by rfl) rfl rfl aq ?_
               with_reducible refine (intervalmonref05_Keep.calls k3 _ _ ((rd_T73 l0 x13_3).f2) _ _ l1 t312 _ ?side1 ?side2 ?side3 ?side4 A48.out).mono ?_
               (case side1 => repeat (first | exact (Kd.C_below HR311_2.out HB.out) | (with_reducible refine Kd.C_alloc ?_ _) | (with_reducible refine Kd.C_drewN ?_ _) | (with_reducible refine Kd.C_drew ?_)))
               (case side2 => exact HC311_2.out)
               (case side3 => repeat (first | exact (Kd.C_below HR1.out HB.out) | (with_reducible refine Kd.C_alloc ?_ _) | (with_reducible refine Kd.C_drewN ?_ _) | (with_reducible refine Kd.C_drew ?_)))
               (case side4 => exact HC1.out)
               rintro e w55 ⟨v313, rfl, ho0, hb⟩
               have HS6_ := (hb.cell (World.block_lt_of_cell? _ _ (hHeld.2.2.2.2.2.2))).trans (hHeld.2.2.2.2.2.2)
               refine ⟨_, rfl, ?_⟩
               have n0_ := Aside0.mk (Kd.N_elder' (nq HO_5) (Kd.R_base ho0) hb)
               have n1_ := Aside0.mk (Kd.N_elder' (nq HO_10) (Kd.R_base ho0) hb)
               have n2_ := Aside0.mk (Kd.R_below (rq HO_12) hb)
               have n3_ := Aside0.mk (Kd.V_elder' (vq HL315_0) (Kd.R_base ho0) hb)
               have n4_ := Aside0.mk (Kd.R_lower (Kd.R_newM (M := fun k_ => (w.heap.size ≤ k_)) ho0 (below_size (hq HB)) (fun k_ h_ => h_)) (below_size (hq HB)))
               have n5_ := Aside0.mk (Kd.C_below (by repeat (first | (with_reducible exact HR315_0.out) | (with_reducible refine Kd.C_alloc ?_ _) | (with_reducible refine Kd.C_drewN ?_ _) | (with_reducible refine Kd.C_drew ?_) | exact HR315_0.out)) hb)
               have n6_ := Aside0.mk (below_step (hq HB) hb)
               clear HO_5
               clear HO_10
               clear HO_12
               clear HL315_0
               clear HR315_0
               clear HB
               have HO_5 := n0_
               have HO_10 := n1_
               have HO_12 := n2_
               have HL315_0 := n3_
               have HO314 := n4_
               have HR315_0 := n5_
               have HB := n6_
               clear n0_ n1_ n2_ n3_ n4_ n5_ n6_
               (try clear hb)
               (try clear hb2)
               (try clear hk)
               (try clear hi)
               (try clear ho0)
               obtain ⟨Ao56, co56, eo56⟩ := Kd.R_slice HO314.out
               (first | subst eo56 | (injection eo56 with f1_ f2_ f3_; have f4_ := f1_.symm; have f5_ := f3_.symm; clear f1_ f2_ f3_; subst f4_; subst f5_))
               refine hK.out _ _ ⟨((HB.out.cell (World.block_lt_of_cell? w _ hw311_0)).trans hw311_0), ((HB.out.cell (World.block_lt_of_cell? w _ hw311_1)).trans hw311_1), ((HB.out.cell (World.block_lt_of_cell? w _ hw311_2)).trans hw311_2), ((HB.out.cell (World.block_lt_of_cell? w _ hw311_3)).trans hw311_3), ((HB.out.cell (World.block_lt_of_cell? w _ hw311_4)).trans hw311_4), ((HB.out.cell (World.block_lt_of_cell? w _ hw311_5)).trans hw311_5), HS6_⟩ (fun hHeld => ?_)
               clear hK K
               refine norm_ (a' := ?_) ?_ ?_
               rotate_left
               ·show Act.put _ (some 86) _ = _
                simp only [Act.put, List.setIfInBounds_toArray, List.set_cons_zero, List.set_cons_succ, i64_w, i32_w]
                rfl
               refine one_ (i := 11) (N := some 91) #[true, true, true, true, true, true, true, true, true, true, true, true] rfl rfl (one_of HT_.out (by kernel_rfl)) (by decide) (fun K hK => ?_)
               refine goes_ Try.func55 (by kernel_rfl) rfl #[.slice Ao56 t312.length co56, .slice A315_0 (rd_L9 x5_1 x11_2).length c315_0] (by rfl) rfl rfl aq ?_
               with_reducible refine (intervalmonref05_Same.calls k3 _ _ t312 _ _ (rd_L9 x5_1 x11_2) true _ ?side1 ?side2 ?side3 ?side4 A51.out).mono ?_
               (case side1 => repeat (first | exact (Kd.R_reads' HO314.out).2.2 | (with_reducible refine Kd.C_alloc ?_ _) | (with_reducible refine Kd.C_drewN ?_ _) | (with_reducible refine Kd.C_drew ?_)))
               (case side2 => exact (Kd.R_reads' HO314.out).2.1)
               (case side3 => repeat (first | exact (by repeat (first | (with_reducible exact HR315_0.out) | (with_reducible refine Kd.C_alloc ?_ _) | (with_reducible refine Kd.C_drewN ?_ _) | (with_reducible refine Kd.C_drew ?_) | exact HR315_0.out)) | (with_reducible refine Kd.C_alloc ?_ _) | (with_reducible refine Kd.C_drewN ?_ _) | (with_reducible refine Kd.C_drew ?_)))
               (case side4 => exact HC315_0.out)
               rintro e w' ⟨rfl, ⟨nd, rfl⟩⟩
               refine ⟨_, rfl, ?_⟩
               refine hK.out _ _ ⟨((HB.out.cell (World.block_lt_of_cell? w _ hw311_0)).trans hw311_0), ((HB.out.cell (World.block_lt_of_cell? w _ hw311_1)).trans hw311_1), ((HB.out.cell (World.block_lt_of_cell? w _ hw311_2)).trans hw311_2), ((HB.out.cell (World.block_lt_of_cell? w _ hw311_3)).trans hw311_3), ((HB.out.cell (World.block_lt_of_cell? w _ hw311_4)).trans hw311_4), ((HB.out.cell (World.block_lt_of_cell? w _ hw311_5)).trans hw311_5), hHeld.2.2.2.2.2.2⟩ (fun hHeld => ?_)
               clear hK K
               refine norm_ (a' := ?_) ?_ ?_
               rotate_left
               ·show Act.put _ (some 91) _ = _
                simp only [Act.put, List.setIfInBounds_toArray, List.set_cons_zero, List.set_cons_succ, i64_w, i32_w]
                rfl
               refine done_ (done_of HT_.out (by kernel_rfl)) ?_
               try go_wp2_with (first | ((with_reducible refine gate_builtin (b := .append) (xs := #[.tmp 92, .tmp 94]) rfl ?_); at_builtin; refine Kd.R_append (Kd.int .i64) (w0 := w) w.heap.size rfl (.tmp 92) (.tmp 94) 22 3 (.int .i64 0) 8 rfl Try.underlying22 info3 rfl (by decide) (by omega) u12 x12_3 x13_3 [.int .i64 x13_3] (fun k_ => (w.heap.size ≤ k_)) (fun _ => False) rfl rfl ?aP (fun _ hk => hk.elim) ?aF ?aO ?aB ?aS ?aL ?_; (case aP => exact rfl); (case aB => exact (hq HB)); (case aF => exact (fun k_ hk => (Nat.le_trans (below_size (hq HB)) hk))); (case aO => exact (rq HO_12)); (case aS => exact (below_size (hq HB))); (case aL => have := LMc53.out; omega); intro v318 w57 ho hb hg hat; rw [← Ny317.out] at ho; have n0_ := Aside0.mk (Kd.N_afterv (ok := (fun k_ => (w.heap.size ≤ k_) ∧ some k_ ≠ (u10 : Value).ownBlock ∧ some k_ ≠ (.slice Ao56 t312.length co56 : Value).ownBlock)) (by (with_reducible repeat (first | apply Kd.N_alloc | apply Kd.N_drewN | apply Kd.N_drew)); exact Kd.N_mono HO_5.out (fun _ hk => ⟨⟨hk.1.1, ⟨hk.1.2.1, hk.2⟩⟩, hk.1.2.2⟩)) hg hat); have n1_ := Aside0.mk (Kd.N_afterv (ok := (fun k_ => (w.heap.size ≤ k_) ∧ some k_ ≠ (.slice (some ad315) x5_1.length co45 : Value).ownBlock ∧ some k_ ≠ (.slice Ao56 t312.length co56 : Value).ownBlock)) (by (with_reducible repeat (first | apply Kd.N_alloc | apply Kd.N_drewN | apply Kd.N_drew)); exact Kd.N_mono HO_10.out (fun _ hk => ⟨⟨hk.1.1, ⟨hk.1.2.1, hk.2⟩⟩, hk.1.2.2⟩)) hg hat); have n2_ := Aside0.mk (Kd.V_afterv (ok := (fun k_ => (w.heap.size ≤ k_) ∧ some k_ ≠ (.slice (some ad315) x5_1.length co45 : Value).ownBlock ∧ some k_ ≠ (u10 : Value).ownBlock ∧ some k_ ≠ (.slice Ao56 t312.length co56 : Value).ownBlock)) (by (with_reducible repeat (first | apply Kd.V_alloc | apply Kd.V_drewN | apply Kd.V_drew)); exact Kd.V_mono HL315_0.out (fun _ hk => ⟨⟨hk.1.1.1, ⟨hk.1.2, ⟨hk.1.1.2.1, hk.2⟩⟩⟩, hk.1.1.2.2⟩)) hg hat); have n3_ := Aside0.mk (Kd.R_over' (rq HO314) (Kd.R_typed (rq HO_12)) (by decide) hg); have n4_ := Aside0.mk (hb); have n5_ := Aside0.mk (ho); clear HO_5; clear HO_10; clear HL315_0; clear HO314; clear HB; clear HO_12; have HO_5 := n0_; have HO_10 := n1_; have HL315_0 := n2_; have HO314 := n3_; have HB := n4_; have HO319 := n5_; clear n0_ n1_ n2_ n3_ n4_ n5_; clear ho hb hg hat))
               go_roundg k3
               case measure => have := HK1.out; have := HK2.out; have := HK3.out; omega
               case rel => exact ⟨(y317), (wrap64 (x13_3 + 1)), (by first | rfl | (simp; done) | (simp [*]; done)), H', ⟨by have := HK1.out; have := HK2.out; have := HK3.out; omega⟩, ⟨by (with_reducible repeat (first | apply Kd.N_alloc | apply Kd.N_drewN | apply Kd.N_drew)); exact Kd.N_mono HO_5.out (fun _ hk => ⟨hk.1.1, ⟨hk.1.2.1, hk.2⟩⟩)⟩, ⟨by (with_reducible repeat (first | apply Kd.N_alloc | apply Kd.N_drewN | apply Kd.N_drew)); exact Kd.N_mono HO_10.out (fun _ hk => ⟨hk.1.1, ⟨hk.1.2.1, hk.2⟩⟩)⟩, ⟨by (with_reducible repeat (first | apply Kd.R_alloc | apply Kd.R_drewN | apply Kd.R_drew)); exact HO319.out⟩, ⟨by repeat (first | (with_reducible first | exact HB.out | apply below_alloc | apply pw_below_drewN | apply below_drew1) | exact HB.out)⟩⟩
              ·rw [if_neg c53] at H
               exact absurd H (by simp)
             ·replace c52 := Bool.eq_false_iff.mpr c52
              subst c52
              have H1 : (intervalmonref29_Groups.l3 k3 l0 l1 x5_1 x10_2 x11_2 x12_3 (wrap64 (x13_3 + 1))) = some r := by rw [if_neg (show ¬ (false = true) by decide)] at H; exact H
              clear H
              have H := H1
              clear H1
              have H' := Aside0.mk H
              clear H
              try go_wp2
              have n0_ := Aside0.mk (Kd.N_drew HO_5.out)
              have n1_ := Aside0.mk (Kd.N_drew HO_10.out)
              have n2_ := Aside0.mk (Kd.R_drew HO_12.out)
              have n3_ := Aside0.mk (below_drew1 HB.out)
              clear HO_5
              clear HO_10
              clear HO_12
              clear HB
              have HO_5 := n0_
              have HO_10 := n1_
              have HO_12 := n2_
              have HB := n3_
              clear n0_ n1_ n2_ n3_
              have p311 : 0 ≤ (x13_3 : Int) := of_decide_eq_true (by first | (with_reducible assumption) | assumption)
              have q311 : x13_3 < (l0.length : Int) := of_decide_eq_true (by first | (with_reducible assumption) | assumption)
              obtain ⟨ad311, A311_2, c311_2, e311, hx311_0, hx311_1, hx311_2, hx311_3, hx311_4, hx311_5, hl311_2, hi311_2⟩ := at_T73 HR0.out x13_3 p311 q311
              have hw311_5 := hx311_5
              have hw311_4 := hx311_4
              have hw311_3 := hx311_3
              have hw311_2 := hx311_2
              have hw311_1 := hx311_1
              have hw311_0 := hx311_0
              cases e311
              (try replace hx311_0 := (HB.out.cell (World.block_lt_of_cell? w _ hx311_0)).trans hx311_0)
              (try replace hx311_1 := (HB.out.cell (World.block_lt_of_cell? w _ hx311_1)).trans hx311_1)
              (try replace hx311_2 := (HB.out.cell (World.block_lt_of_cell? w _ hx311_2)).trans hx311_2)
              (try replace hx311_3 := (HB.out.cell (World.block_lt_of_cell? w _ hx311_3)).trans hx311_3)
              (try replace hx311_4 := (HB.out.cell (World.block_lt_of_cell? w _ hx311_4)).trans hx311_4)
              (try replace hx311_5 := (HB.out.cell (World.block_lt_of_cell? w _ hx311_5)).trans hx311_5)
              have HR311_2 := Aside0.mk hi311_2
              have HC311_2 := Aside0.mk hl311_2
              clear hi311_2 hl311_2
              replace p311 := eq_true p311
              replace q311 := eq_true q311
              have p315 : 0 ≤ (x11_2 : Int) := of_decide_eq_true (by first | (with_reducible assumption) | assumption)
              have q315 : x11_2 < (x5_1.length : Int) := of_decide_eq_true (by first | (with_reducible assumption) | assumption)
              try (obtain ⟨Az315_, cz315_, ez315_⟩ := Kd.N_slice HO_5.out; subst ez315_)
              obtain ⟨ad315, A315_0, c315_0, e315, hx315_0, hl315_0, hi315_0⟩ := at_L9 (Kd.N_reads' HO_5.out).2.2 x11_2 p315 q315
              cases e315
              obtain ⟨ce315, hce315, hMe315, hcc315⟩ := Kd.N_get HO_5.out [] x11_2 p315 (by first | exact q315 | exact of_decide_eq_true (by first | (with_reducible assumption) | assumption) | (have e_ := (Kd.N_reads' HO_5.out).1; omega))
              obtain ⟨ua315_0, uc315_0, rfl, ul315_0, ge315_0⟩ := Kd.FK_slice_open hMe315
              have hv315_0 := hcc315 0 _ rfl
              rw [Nat.add_zero, show ((Kd.slice 91 k91)).sz = 1 from rfl, Nat.mul_one] at hv315_0
              replace hv315_0 := Option.some.inj (hv315_0.symm.trans hx315_0)
              injection hv315_0 with hva_ hvn_ hvc_
              rw [hva_] at ge315_0
              rw [hvc_] at ul315_0
              have HL315_0 := Aside0.mk (show Kd.V k91 91 _ w.heap.size _ _ (rd_L9 x5_1 x11_2) from Kd.V_mk ul315_0 ge315_0)
              clear hva_ hvn_ hvc_ ge315_0 ul315_0
              clear hcc315 hce315
              have HR315_0 := Aside0.mk hi315_0
              have HC315_0 := Aside0.mk hl315_0
              clear hi315_0 hl315_0
              replace p315 := eq_true p315
              replace q315 := eq_true q315
              refine start_ (n := 12) (S := fun w' => w'.cell? (ad311.add ((x13_3).toNat * 6)) = some (.string ((rd_T73 l0 x13_3).f0)) ∧ w'.cell? ⟨(ad311.add ((x13_3).toNat * 6)).block, (ad311.add ((x13_3).toNat * 6)).off + 1, none⟩ = some (.int .i64 ((rd_T73 l0 x13_3).f1)) ∧ w'.cell? ⟨(ad311.add ((x13_3).toNat * 6)).block, (ad311.add ((x13_3).toNat * 6)).off + 2, none⟩ = some (.slice A311_2 ((rd_T73 l0 x13_3).f2).length c311_2) ∧ w'.cell? ⟨(ad311.add ((x13_3).toNat * 6)).block, (ad311.add ((x13_3).toNat * 6)).off + 3, none⟩ = some (.int .i64 ((rd_T73 l0 x13_3).f3)) ∧ w'.cell? ⟨(ad311.add ((x13_3).toNat * 6)).block, (ad311.add ((x13_3).toNat * 6)).off + 4, none⟩ = some (.int .i64 ((rd_T73 l0 x13_3).f4)) ∧ w'.cell? ⟨(ad311.add ((x13_3).toNat * 6)).block, (ad311.add ((x13_3).toNat * 6)).off + 5, none⟩ = some (.int .i64 ((rd_T73 l0 x13_3).f5)) ∧ w'.cell? (ad315.add (x11_2).toNat) = some (.slice A315_0 (rd_L9 x5_1 x11_2).length c315_0)) (ds := []) #[false, false, false, false, false, false, false, false, false, false, false, false] (by kernel_rfl) rfl rfl ⟨((HB.out.cell (World.block_lt_of_cell? w _ hw311_0)).trans hw311_0), ((HB.out.cell (World.block_lt_of_cell? w _ hw311_1)).trans hw311_1), ((HB.out.cell (World.block_lt_of_cell? w _ hw311_2)).trans hw311_2), ((HB.out.cell (World.block_lt_of_cell? w _ hw311_3)).trans hw311_3), ((HB.out.cell (World.block_lt_of_cell? w _ hw311_4)).trans hw311_4), ((HB.out.cell (World.block_lt_of_cell? w _ hw311_5)).trans hw311_5), hx315_0⟩ (fun hHeld => ?_); refine with_tabW intervalmonref29_Groups.tab22 intervalmonref29_Groups.bits22 (fun HT_ HW_ => ?_)
              generalize wr.drew = w58 at HO_5 HO_10 HO_12 HB HL315_0 HR311_2 HR315_0 hx311_0 hx311_1 hx311_2 hx311_3 hx311_4 hx311_5 hx315_0 hHeld ⊢
              refine pure_ (i := 0) (N := some 80) (v := ?_) (a' := ?_) #[true, false, false, false, false, false, false, false, false, false, false, false] rfl rfl (any_of HT_.out (by kernel_rfl)) (fun _ _ _ h => h) (Or.inl ⟨by rfl, ?_⟩) ?_ ?_
              rotate_left
              ·intro w'
               go_simp
               with_reducible rfl
              rotate_left
              ·simp only [Act.put, List.setIfInBounds_toArray, List.set_cons_zero, List.set_cons_succ, i64_w, i32_w]
               rfl
              refine pure_ (i := 1) (N := some 81) (v := ?_) (a' := ?_) #[true, true, false, false, false, false, false, false, false, false, false, false] rfl rfl (any_of HT_.out (by kernel_rfl)) (fun _ _ _ h => h) (Or.inl ⟨by rfl, ?_⟩) ?_ ?_
              rotate_left
              ·intro w'
               go_simp
               with_reducible rfl
              rotate_left
              ·simp only [Act.put, List.setIfInBounds_toArray, List.set_cons_zero, List.set_cons_succ, i64_w, i32_w]
               rfl
              refine pure_ (i := 2) (N := some 82) (v := ?_) (a' := ?_) #[true, true, true, false, false, false, false, false, false, false, false, false] rfl rfl (any_of HT_.out (by kernel_rfl)) (fun _ _ _ h => h) (Or.inl ⟨by rfl, ?_⟩) ?_ ?_
              rotate_left
              ·intro w'
               go_simp
               with_reducible rfl
              rotate_left
              ·simp only [Act.put, List.setIfInBounds_toArray, List.set_cons_zero, List.set_cons_succ, i64_w, i32_w]
               rfl
              refine pure_ (i := 3) (N := some 83) (v := ?_) (a' := ?_) #[true, true, true, true, false, false, false, false, false, false, false, false] rfl rfl (any_of HT_.out (by kernel_rfl)) (fun _ _ _ h => h) (Or.inl ⟨by rfl, ?_⟩) ?_ ?_
              rotate_left
              ·intro w'
               go_simp
               with_reducible rfl
              rotate_left
              ·simp only [Act.put, List.setIfInBounds_toArray, List.set_cons_zero, List.set_cons_succ, i64_w, i32_w]
               rfl
              refine pure_ (i := 5) (N := some 85) (v := ?_) (a' := ?_) #[true, true, true, true, false, true, false, false, false, false, false, false] rfl rfl (any_of HT_.out (by kernel_rfl)) (fun _ _ _ h => h) (Or.inl ⟨by rfl, ?_⟩) ?_ ?_
              rotate_left
              ·intro w'
               go_simp
               with_reducible rfl
              rotate_left
              ·simp only [Act.put, List.setIfInBounds_toArray, List.set_cons_zero, List.set_cons_succ, i64_w, i32_w]
               rfl
              refine pure_ (i := 7) (N := some 87) (v := ?_) (a' := ?_) #[true, true, true, true, false, true, false, true, false, false, false, false] rfl rfl (any_of HT_.out (by kernel_rfl)) (fun _ _ _ h => h) (Or.inl ⟨by rfl, ?_⟩) ?_ ?_
              rotate_left
              ·intro w'
               go_simp
               with_reducible rfl
              rotate_left
              ·simp only [Act.put, List.setIfInBounds_toArray, List.set_cons_zero, List.set_cons_succ, i64_w, i32_w]
               rfl
              refine pure_ (i := 8) (N := some 88) (v := ?_) (a' := ?_) #[true, true, true, true, false, true, false, true, true, false, false, false] rfl rfl (any_of HT_.out (by kernel_rfl)) (fun _ _ _ h => h) (Or.inl ⟨by rfl, ?_⟩) ?_ ?_
              rotate_left
              ·intro w'
               go_simp
               with_reducible rfl
              rotate_left
              ·simp only [Act.put, List.setIfInBounds_toArray, List.set_cons_zero, List.set_cons_succ, i64_w, i32_w]
               rfl
              refine pure_ (i := 9) (N := some 89) (v := ?_) (a' := ?_) #[true, true, true, true, false, true, false, true, true, true, false, false] rfl rfl (any_of HT_.out (by kernel_rfl)) (fun _ _ _ h => h) (Or.inl ⟨by rfl, ?_⟩) ?_ ?_
              rotate_left
              ·intro w'
               go_simp
               with_reducible rfl
              rotate_left
              ·simp only [Act.put, List.setIfInBounds_toArray, List.set_cons_zero, List.set_cons_succ, i64_w, i32_w]
               rfl
              refine take_ (i := 4) (N := some 84) (v := ?_) (a' := ?_) #[true, true, true, true, true, true, false, true, true, true, false, false] rfl rfl (take_ofW HT_.out HW_.out (by kernel_rfl)) (fun _ _ _ h => h) (Or.inl ⟨by rfl, ?_⟩) hHeld ?_ ?_
              rotate_left
              ·rintro w' ⟨s0, s1, s2, s3, s4, s5, s6⟩
               go_simp
               with_reducible rfl
              rotate_left
              ·simp only [Act.put, List.setIfInBounds_toArray, List.set_cons_zero, List.set_cons_succ, i64_w, i32_w]
               rfl
              refine take_ (i := 10) (N := some 90) (v := ?_) (a' := ?_) #[true, true, true, true, true, true, false, true, true, true, true, false] rfl rfl (take_ofW HT_.out HW_.out (by kernel_rfl)) (fun _ _ _ h => h) (Or.inl ⟨by rfl, ?_⟩) hHeld ?_ ?_
              rotate_left
              ·rintro w' ⟨s0, s1, s2, s3, s4, s5, s6⟩
               go_simp
               with_reducible rfl
              rotate_left
              ·simp only [Act.put, List.setIfInBounds_toArray, List.set_cons_zero, List.set_cons_succ, i64_w, i32_w]
               rfl
              refine one_ (i := 6) (N := some 86) #[true, true, true, true, true, true, true, true, true, true, true, false] rfl rfl (one_of HT_.out (by kernel_rfl)) (by decide) (fun K hK => ?_)
              refine goes_ Try.func53 (by kernel_rfl) rfl #[.slice A311_2 ((rd_T73 l0 x13_3).f2).length c311_2, .slice A1 l1.length c1] (by rfl) rfl rfl aq ?_
              with_reducible refine (intervalmonref05_Keep.calls k3 _ _ ((rd_T73 l0 x13_3).f2) _ _ l1 t312 _ ?side1 ?side2 ?side3 ?side4 A48.out).mono ?_
              (case side1 => repeat (first | exact (Kd.C_below HR311_2.out HB.out) | (with_reducible refine Kd.C_alloc ?_ _) | (with_reducible refine Kd.C_drewN ?_ _) | (with_reducible refine Kd.C_drew ?_)))
              (case side2 => exact HC311_2.out)
              (case side3 => repeat (first | exact (Kd.C_below HR1.out HB.out) | (with_reducible refine Kd.C_alloc ?_ _) | (with_reducible refine Kd.C_drewN ?_ _) | (with_reducible refine Kd.C_drew ?_)))
              (case side4 => exact HC1.out)
              rintro e w59 ⟨v313, rfl, ho0, hb⟩
              have HS6_ := (hb.cell (World.block_lt_of_cell? _ _ (hHeld.2.2.2.2.2.2))).trans (hHeld.2.2.2.2.2.2)
              refine ⟨_, rfl, ?_⟩
              have n0_ := Aside0.mk (Kd.N_elder' (nq HO_5) (Kd.R_base ho0) hb)
              have n1_ := Aside0.mk (Kd.N_elder' (nq HO_10) (Kd.R_base ho0) hb)
              have n2_ := Aside0.mk (Kd.R_below (rq HO_12) hb)
              have n3_ := Aside0.mk (Kd.V_elder' (vq HL315_0) (Kd.R_base ho0) hb)
              have n4_ := Aside0.mk (Kd.R_lower (Kd.R_newM (M := fun k_ => (w.heap.size ≤ k_)) ho0 (below_size (hq HB)) (fun k_ h_ => h_)) (below_size (hq HB)))
              have n5_ := Aside0.mk (Kd.C_below (by repeat (first | (with_reducible exact HR315_0.out) | (with_reducible refine Kd.C_alloc ?_ _) | (with_reducible refine Kd.C_drewN ?_ _) | (with_reducible refine Kd.C_drew ?_) | exact HR315_0.out)) hb)
              have n6_ := Aside0.mk (below_step (hq HB) hb)
              clear HO_5
              clear HO_10
              clear HO_12
              clear HL315_0
              clear HR315_0
              clear HB
              have HO_5 := n0_
              have HO_10 := n1_
              have HO_12 := n2_
              have HL315_0 := n3_
              have HO314 := n4_
              have HR315_0 := n5_
              have HB := n6_
              clear n0_ n1_ n2_ n3_ n4_ n5_ n6_
              (try clear hb)
              (try clear hb2)
              (try clear hk)
              (try clear hi)
              (try clear ho0)
              obtain ⟨Ao60, co60, eo60⟩ := Kd.R_slice HO314.out
              (first | subst eo60 | (injection eo60 with f1_ f2_ f3_; have f4_ := f1_.symm; have f5_ := f3_.symm; clear f1_ f2_ f3_; subst f4_; subst f5_))
              refine hK.out _ _ ⟨((HB.out.cell (World.block_lt_of_cell? w _ hw311_0)).trans hw311_0), ((HB.out.cell (World.block_lt_of_cell? w _ hw311_1)).trans hw311_1), ((HB.out.cell (World.block_lt_of_cell? w _ hw311_2)).trans hw311_2), ((HB.out.cell (World.block_lt_of_cell? w _ hw311_3)).trans hw311_3), ((HB.out.cell (World.block_lt_of_cell? w _ hw311_4)).trans hw311_4), ((HB.out.cell (World.block_lt_of_cell? w _ hw311_5)).trans hw311_5), HS6_⟩ (fun hHeld => ?_)
              clear hK K
              refine norm_ (a' := ?_) ?_ ?_
              rotate_left
              ·show Act.put _ (some 86) _ = _
               simp only [Act.put, List.setIfInBounds_toArray, List.set_cons_zero, List.set_cons_succ, i64_w, i32_w]
               rfl
              refine one_ (i := 11) (N := some 91) #[true, true, true, true, true, true, true, true, true, true, true, true] rfl rfl (one_of HT_.out (by kernel_rfl)) (by decide) (fun K hK => ?_)
              refine goes_ Try.func55 (by kernel_rfl) rfl #[.slice Ao60 t312.length co60, .slice A315_0 (rd_L9 x5_1 x11_2).length c315_0] (by rfl) rfl rfl aq ?_
              with_reducible refine (intervalmonref05_Same.calls k3 _ _ t312 _ _ (rd_L9 x5_1 x11_2) false _ ?side1 ?side2 ?side3 ?side4 A51.out).mono ?_
              (case side1 => repeat (first | exact (Kd.R_reads' HO314.out).2.2 | (with_reducible refine Kd.C_alloc ?_ _) | (with_reducible refine Kd.C_drewN ?_ _) | (with_reducible refine Kd.C_drew ?_)))
              (case side2 => exact (Kd.R_reads' HO314.out).2.1)
              (case side3 => repeat (first | exact (by repeat (first | (with_reducible exact HR315_0.out) | (with_reducible refine Kd.C_alloc ?_ _) | (with_reducible refine Kd.C_drewN ?_ _) | (with_reducible refine Kd.C_drew ?_) | exact HR315_0.out)) | (with_reducible refine Kd.C_alloc ?_ _) | (with_reducible refine Kd.C_drewN ?_ _) | (with_reducible refine Kd.C_drew ?_)))
              (case side4 => exact HC315_0.out)
              rintro e w' ⟨rfl, ⟨nd, rfl⟩⟩
              refine ⟨_, rfl, ?_⟩
              refine hK.out _ _ ⟨((HB.out.cell (World.block_lt_of_cell? w _ hw311_0)).trans hw311_0), ((HB.out.cell (World.block_lt_of_cell? w _ hw311_1)).trans hw311_1), ((HB.out.cell (World.block_lt_of_cell? w _ hw311_2)).trans hw311_2), ((HB.out.cell (World.block_lt_of_cell? w _ hw311_3)).trans hw311_3), ((HB.out.cell (World.block_lt_of_cell? w _ hw311_4)).trans hw311_4), ((HB.out.cell (World.block_lt_of_cell? w _ hw311_5)).trans hw311_5), hHeld.2.2.2.2.2.2⟩ (fun hHeld => ?_)
              clear hK K
              refine norm_ (a' := ?_) ?_ ?_
              rotate_left
              ·show Act.put _ (some 91) _ = _
               simp only [Act.put, List.setIfInBounds_toArray, List.set_cons_zero, List.set_cons_succ, i64_w, i32_w]
               rfl
              refine done_ (done_of HT_.out (by kernel_rfl)) ?_
              try go_wp2
              go_roundg k3
              case measure => have := HK1.out; have := HK2.out; have := HK3.out; omega
              case rel => exact ⟨(x12_3), (wrap64 (x13_3 + 1)), (by first | rfl | (simp; done) | (simp [*]; done)), H', ⟨by have := HK1.out; have := HK2.out; have := HK3.out; omega⟩, ⟨by (with_reducible repeat (first | apply Kd.N_alloc | apply Kd.N_drewN | apply Kd.N_drew)); exact Kd.N_mono HO_5.out (fun _ hk => ⟨hk.1.1, ⟨hk.1.2.1, hk.1.2.2⟩⟩)⟩, ⟨by (with_reducible repeat (first | apply Kd.N_alloc | apply Kd.N_drewN | apply Kd.N_drew)); exact Kd.N_mono HO_10.out (fun _ hk => ⟨hk.1.1, ⟨hk.1.2.1, hk.1.2.2⟩⟩)⟩, ⟨by (with_reducible repeat (first | apply Kd.R_alloc | apply Kd.R_drewN | apply Kd.R_drew)); exact HO_12.out⟩, ⟨by repeat (first | (with_reducible first | exact HB.out | apply below_alloc | apply pw_below_drewN | apply below_drew1) | exact HB.out)⟩⟩
            ·rw [if_neg c50] at H
             exact absurd H (by simp)
           ·rw [if_neg c49] at H
            exact absurd H (by simp)
          ·rw [if_neg c47] at H
           exact absurd H (by simp)
         ·rw [if_neg c46] at H
          have c46b0 : decide (x13_3 < (l0.length : Int)) = false := decide_eq_false c46
          clear c46
          by_cases c61 : x10_2.length < 5864062014805
          ·rw [if_pos c61] at H
           have LMc61 := Aside0.mk c61
           clear c61
           obtain ⟨y308, hy308⟩ : ∃ y_ : List (List Int), y_ = (x10_2 ++ [x12_3]) := ⟨_, rfl⟩
           replace H : (intervalmonref29_Groups.l2 k3 l0 l1 x5_1 y308 (wrap64 (x11_2 + 1))) = some r := by first | (rw [hy308]; with_reducible exact H) | (have H2_ := (Option.bind_some _ _).symm.trans H; rw [hy308]; with_reducible exact H2_) | (have H2_ := (Option.bind_some _ _).symm.trans H; with_reducible exact H2_) | with_reducible exact H | (rw [hy308]; exact H) | exact H
           have Ny308 := Aside0.mk hy308
           clear hy308
           have H' := Aside0.mk H
           clear H
           obtain ⟨Ao63, co63, eo63⟩ := Kd.R_slice HO_12.out
           subst eo63
           go_wp2_with (first | ((with_reducible refine gate_builtin (b := .append) (xs := #[.tmp 96, .tmp 98]) rfl ?_); at_builtin; refine Kd.N_append (Kd.slice 3 (Kd.int .i64)) (w0 := w) w.heap.size rfl (.tmp 96) (.tmp 98) 65 22 (.slice none 0 0) 24 rfl Try.underlying65 info22 rfl (by decide) (by omega) u10 x10_2 x12_3 [.slice Ao63 x12_3.length co63] (fun k_ => (w.heap.size ≤ k_) ∧ some k_ ≠ (.slice Ao45 x5_1.length co45 : Value).ownBlock) (fun k_ => ((fun k_ => (w.heap.size ≤ k_) ∧ some k_ ≠ (.slice Ao45 x5_1.length co45 : Value).ownBlock)) k_ ∧ some k_ ≠ (u10 : Value).ownBlock) rfl rfl ?aP (fun _ hk => hk) ?aF ?aO ?aB ?aS ?aL ?_; (case aP => exact (Kd.FK_slice_mk (Kd.R_reads' (Kd.R_mono (ok' := (fun k_ => ((fun k_ => (w.heap.size ≤ k_) ∧ some k_ ≠ (.slice Ao45 x5_1.length co45 : Value).ownBlock)) k_ ∧ some k_ ≠ (u10 : Value).ownBlock)) (Kd.R_apart' (Kd.R_apart' (HO_12.out) (Kd.N_typed HO_5.out) (by decide)) (Kd.N_typed HO_10.out) (by decide)) (fun k_ hk => ⟨⟨hk.1.1, hk.1.2⟩, hk.2⟩))).2.1 (Kd.R_F (Kd.R_mono (ok' := (fun k_ => ((fun k_ => (w.heap.size ≤ k_) ∧ some k_ ≠ (.slice Ao45 x5_1.length co45 : Value).ownBlock)) k_ ∧ some k_ ≠ (u10 : Value).ownBlock)) (Kd.R_apart' (Kd.R_apart' (HO_12.out) (Kd.N_typed HO_5.out) (by decide)) (Kd.N_typed HO_10.out) (by decide)) (fun k_ hk => ⟨⟨hk.1.1, hk.1.2⟩, hk.2⟩))))); (case aB => exact (hq HB)); (case aF => exact (fun k_ hk => ⟨(Nat.le_trans (below_size (hq HB)) hk), Kd.fresh' (Kd.N_lt (nq HO_5)) k_ hk⟩)); (case aO => exact (by (with_reducible repeat (first | apply Kd.N_alloc | apply Kd.N_drewN | apply Kd.N_drew)); exact Kd.N_mono HO_10.out (fun _ hk => ⟨hk.1, hk.2.1⟩))); (case aS => exact (below_size (hq HB))); (case aL => have := LMc61.out; omega); intro v309 w62 ho hb hg hat; rw [← Ny308.out] at ho; have n0_ := Aside0.mk (Kd.N_afterv (ok := (fun k_ => (w.heap.size ≤ k_) ∧ some k_ ≠ (.slice Ao63 x12_3.length co63 : Value).ownBlock)) (by (with_reducible repeat (first | apply Kd.N_alloc | apply Kd.N_drewN | apply Kd.N_drew)); exact Kd.N_mono HO_5.out (fun _ hk => ⟨⟨hk.1, hk.2.2⟩, hk.2.1⟩)) hg hat); have n1_ := Aside0.mk (hb); have n2_ := Aside0.mk (ho); clear HO_5; clear HB; clear HO_10; clear HO_12; have HO_5 := n0_; have HB := n1_; have HO310 := n2_; clear n0_ n1_ n2_; clear ho hb hg hat))
           go_roundg k3
           case measure => have := HK1.out; have := HK2.out; have := HK3.out; omega
           case rel => exact ⟨(y308), (wrap64 (x11_2 + 1)), (by first | rfl | (simp; done) | (simp [*]; done)), H', ⟨by have := HK1.out; have := HK2.out; have := HK3.out; omega⟩, ⟨by (with_reducible repeat (first | apply Kd.N_alloc | apply Kd.N_drewN | apply Kd.N_drew)); exact Kd.N_mono HO_5.out (fun _ hk => ⟨hk.1.1, hk.2⟩)⟩, ⟨by (with_reducible repeat (first | apply Kd.N_alloc | apply Kd.N_drewN | apply Kd.N_drew)); exact HO310.out⟩, ⟨by repeat (first | (with_reducible first | exact HB.out | apply below_alloc | apply pw_below_drewN | apply below_drew1) | exact HB.out)⟩⟩
          ·rw [if_neg c61] at H
           exact absurd H (by simp)
      ·rw [if_neg c44] at H
       have c44b0 : decide (x11_2 < (x5_1.length : Int)) = false := decide_eq_false c44
       clear c44
       obtain rfl := Option.some.inj H
       obtain ⟨Ao64, co64, eo64⟩ := Kd.N_slice HO_5.out
       subst eo64
       go_wp2
       go_ret
       exact ⟨_, by first | rfl | (simp [errW_none, errW_some] <;> rfl) | (simp [*, errW_none, errW_some] <;> rfl), by (with_reducible repeat (first | apply Kd.N_alloc | apply Kd.N_drewN | apply Kd.N_drew)); exact Kd.N_mono HO_10.out (fun _ hk => hk.1), by repeat (first | (with_reducible first | exact HB.out | apply below_alloc | apply pw_below_drewN | apply below_drew1) | exact HB.out)⟩

end Go.Proofs.Ytcamljlhdejmmaa.P
