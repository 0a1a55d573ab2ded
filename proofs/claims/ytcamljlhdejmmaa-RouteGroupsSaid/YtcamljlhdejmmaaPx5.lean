-- Written by this session's own copy of a printing program (wip/tools); Lean checks it.
import Derived.Test.YtcamljlhdejmmaaPx0
import Derived.Test.YtcamljlhdejmmaaPx4
namespace Go.Proofs.Ytcamljlhdejmmaa.P
open Go.RowKit Go.Proofs.YtcamljlhdejmmaaW.PrintWords Go.Proofs.YtcamljlhdejmmaaW.PrintLast Go.Proofs.YtcamljlhdejmmaaW.PrintMore
attribute [local go_sem] max2_int min2_int max_two min_two max_three min_three max_four min_four   -- for this text's walks alone
set_option linter.unusedVariables false
set_option linter.unusedSimpArgs false

/-! ### route_OnDuty: function 30 -/
mutual
def route_OnDuty.j0 : Nat → Int → List (S60) → Int → Int → Bool → Option (ByteArray × Int)
 | 0, _, _, _, _, _ => none
 | k + 1, x0, x1, x2, x3, x20 => if x20 = true then (some ((⟨#[]⟩ : ByteArray), 5)) else (if x3 < 0 then (some ((⟨#[]⟩ : ByteArray), 1)) else (route_OnDuty.l0 k x0 x2 x3 ([] : List ByteArray) x1 (x1.length : Int) 0))
def route_OnDuty.l0 : Nat → Int → Int → Int → List ByteArray → List (S60) → Int → Int → Option (ByteArray × Int)
 | 0, _, _, _, _, _, _, _ => none
 | k + 1, x0, x2, x3, x11, x30, x31, x32 => if x32 < x31 then (if 0 ≤ x32 then (if x32 < (x30.length : Int) then (if x0 = 0 then (none) else ((route_Shift_covers.f ((rd_T60 x30 x32).f0) ((rd_T60 x30 x32).f1) ((rd_T60 x30 x32).f2) (Int.tmod x2 x0)).bind fun t174 => (if t174 = true then ((slices_Contains_string_string.f k x11 ((rd_T60 x30 x32).f0)).bind fun t175 => (if t175 = true then (route_OnDuty.l0 k x0 x2 x3 x11 x30 x31 (wrap64 (x32 + 1))) else (if x11.length < 8796093022208 then (route_OnDuty.l0 k x0 x2 x3 (x11 ++ [(rd_T60 x30 x32).f0]) x30 x31 (wrap64 (x32 + 1))) else (none)))) else (route_OnDuty.l0 k x0 x2 x3 x11 x30 x31 (wrap64 (x32 + 1)))))) else (none)) else (none)) else (if 0 ≤ (mn x3 (wrap64 ((x11.length : Int) - 1))) then (if (mn x3 (wrap64 ((x11.length : Int) - 1))) < (x11.length : Int) then (some (rdOf ByteArray.empty x11 (mn x3 (wrap64 ((x11.length : Int) - 1))), 0)) else (none)) else (none))
end
def route_OnDuty.f (k : Nat) (a0 : Int) (l1 : List (S60)) (a2 : Int) (a3 : Int) : Option (ByteArray × Int) := (route_ValidRota.f k a0 l1).bind fun t170 => (if t170 = 0 then (if a2 < 0 then (route_OnDuty.j0 k a0 l1 a2 a3 true) else (route_OnDuty.j0 k a0 l1 a2 a3 (decide (a2 > 1048576)))) else (some ((⟨#[]⟩ : ByteArray), t170)))
theorem route_OnDuty.mono_l : ∀ k, (∀ y0 y1 y2 y3 y4, LeO (route_OnDuty.j0 k y0 y1 y2 y3 y4) (route_OnDuty.j0 (k + 1) y0 y1 y2 y3 y4)) ∧ (∀ y0 y1 y2 y3 y4 y5 y6, LeO (route_OnDuty.l0 k y0 y1 y2 y3 y4 y5 y6) (route_OnDuty.l0 (k + 1) y0 y1 y2 y3 y4 y5 y6))
 | 0 => ⟨fun _ _ _ _ _ r h => by simp [route_OnDuty.j0] at h, fun _ _ _ _ _ _ _ r h => by simp [route_OnDuty.l0] at h⟩
 | k + 1 => by
  obtain ⟨ih0, ih1⟩ := route_OnDuty.mono_l k
  refine ⟨?_, ?_⟩
  ·intro y0 y1 y2 y3 y4
   unfold route_OnDuty.j0
   repeat' first
   | (with_reducible exact ih0 _ _ _ _ _)
   | (with_reducible exact ih1 _ _ _ _ _ _ _)
   | (with_reducible exact route_ValidRota.mono _ _ _)
   | (with_reducible exact slices_Contains_string_string.mono _ _ _)
   | (with_reducible exact LeO.refl _)
   | (with_reducible exact LeO.none _)
   | (with_reducible refine LeO.ite ?_ ?_)
   | (with_reducible refine LeO.bind ?_ (fun _ => ?_))
   | exact ih0 _ _ _ _ _
   | exact ih1 _ _ _ _ _ _ _
   | exact route_ValidRota.mono _ _ _
   | exact slices_Contains_string_string.mono _ _ _
   | exact LeO.none _
   | refine LeO.ite ?_ ?_
   | refine LeO.bind ?_ (fun _ => ?_)
  ·intro y0 y1 y2 y3 y4 y5 y6
   unfold route_OnDuty.l0
   repeat' first
   | (with_reducible exact ih0 _ _ _ _ _)
   | (with_reducible exact ih1 _ _ _ _ _ _ _)
   | (with_reducible exact route_ValidRota.mono _ _ _)
   | (with_reducible exact slices_Contains_string_string.mono _ _ _)
   | (with_reducible exact LeO.refl _)
   | (with_reducible exact LeO.none _)
   | (with_reducible refine LeO.ite ?_ ?_)
   | (with_reducible refine LeO.bind ?_ (fun _ => ?_))
   | exact ih0 _ _ _ _ _
   | exact ih1 _ _ _ _ _ _ _
   | exact route_ValidRota.mono _ _ _
   | exact slices_Contains_string_string.mono _ _ _
   | exact LeO.none _
   | refine LeO.ite ?_ ?_
   | refine LeO.bind ?_ (fun _ => ?_)
theorem route_OnDuty.mono : ∀ a0 a1 a2 a3 k, LeO (route_OnDuty.f k a0 a1 a2 a3) (route_OnDuty.f (k + 1) a0 a1 a2 a3) := by
 intro a0 a1 a2 a3 k
 obtain ⟨ih0, ih1⟩ := route_OnDuty.mono_l k
 unfold route_OnDuty.f
 repeat' first
   | (with_reducible exact ih0 _ _ _ _ _)
   | (with_reducible exact ih1 _ _ _ _ _ _ _)
   | (with_reducible exact route_ValidRota.mono _ _ _)
   | (with_reducible exact slices_Contains_string_string.mono _ _ _)
   | (with_reducible exact LeO.refl _)
   | (with_reducible exact LeO.none _)
   | (with_reducible refine LeO.ite ?_ ?_)
   | (with_reducible refine LeO.bind ?_ (fun _ => ?_))
   | exact ih0 _ _ _ _ _
   | exact ih1 _ _ _ _ _ _ _
   | exact route_ValidRota.mono _ _ _
   | exact slices_Contains_string_string.mono _ _ _
   | exact LeO.none _
   | refine LeO.ite ?_ ?_
   | refine LeO.bind ?_ (fun _ => ?_)
def route_OnDuty.T12 : Bool × List (List Nat × List Nat) := (true, [([], []), ([], []), ([], []), ([1, 2], [1, 2]), ([0, 3], [0, 3]), ([4, 4], [4]), ([5], [5]), ([5], [5]), ([7, 5], [5, 7]), ([6, 8, 5, 5], [5, 6, 8]), ([9, 5], [5, 9]), ([5, 10], [5, 10])])
def route_OnDuty.B12 : List Nat := [0, 0, 0, 6, 15, 31, 63, 63, 191, 511, 1023, 2047]
theorem route_OnDuty.tab12 : rtab .any (opsOf Try.f30 12) = route_OnDuty.T12 := by kernel_rfl
theorem route_OnDuty.bits12 : waitsOk route_OnDuty.T12.2 route_OnDuty.B12 = true := by kernel_rfl
set_option maxHeartbeats 8000000 in
set_option maxRecDepth 100000 in
theorem route_OnDuty.calls (k : Nat) (a0 : Int) (A1 : Option Addr) (c1 : Nat) (l1 : List (S60)) (a2 : Int) (a3 : Int) (r1 : ByteArray) (r2 : Int) (w : World) (hr1 : Kd.C k60 w A1 l1.length l1) (hc1 : l1.length ≤ c1) (h : route_OnDuty.f k a0 l1 a2 a3 = some (r1, r2)) :
  Calls Try.prog 30 #[.int .i64 a0, .slice A1 l1.length c1, .int .i64 a2, .int .i64 a3] w fun e w' => e = .returned (.tuple #[.string r1, .int .i64 r2]) ∧ Below w.heap.size w w' := by
 have hu60 := Try.underlying60
 have HR1 := Aside0.mk hr1
 have HC1 := Aside0.mk hc1
 clear hr1 hc1
 have HB := Aside0.mk (Below.refl w.heap.size w)
 have H : ((route_ValidRota.f k a0 l1).bind fun t170 => (if t170 = 0 then (if a2 < 0 then (route_OnDuty.j0 k a0 l1 a2 a3 true) else (route_OnDuty.j0 k a0 l1 a2 a3 (decide (a2 > 1048576)))) else (some ((⟨#[]⟩ : ByteArray), t170)))) = some (r1, r2) := h
 clear h
 replace H := Option.bind_eq_some_iff.mp H
 obtain ⟨t170, A50, H⟩ := H
 replace H : (if t170 = 0 then (if a2 < 0 then (route_OnDuty.j0 k a0 l1 a2 a3 true) else (route_OnDuty.j0 k a0 l1 a2 a3 (decide (a2 > 1048576)))) else (some ((⟨#[]⟩ : ByteArray), t170))) = some (r1, r2) := H
 have A5 := Aside0.mk A50
 clear A50
 by_cases c6 : t170 = 0
 ·rw [if_pos c6] at H
  have c6b0 : (t170 == 0) = true := beq_iff_eq.mpr c6
  have c6b1 : (t170 != 0) = false := bne_eq_false_iff_eq.mpr c6
  clear c6
  have HC7 := Aside0.mk H
  clear H
  go_enter Try.func30, Try.ntmps30
  go_upto_region 4 with (first | ((with_reducible refine gate_callee (f := 26) rfl ?_); refine goesL_ (some 16) rfl rfl Try.func26 (by kernel_rfl) rfl #[.int .i64 a0, .slice A1 l1.length c1] rfl aq ?_; (with_reducible refine (route_ValidRota.calls k a0 _ _ l1 t170 _ ?side1 ?side2 A5.out).mono ?_); (case side1 => repeat (first | exact HR1.out | (with_reducible refine Kd.C_alloc ?_ _) | (with_reducible refine Kd.C_drewN ?_ _) | (with_reducible refine Kd.C_drew ?_))); (case side2 => exact HC1.out); rintro e w8 ⟨rfl, hb⟩; refine ⟨_, rfl, ?_⟩; have n0_ := Aside0.mk (below_step (hq HB) hb); clear HB; have HB := n0_; clear n0_; (try clear hb); (try clear hb2); (try clear hk); (try clear hi)))
  (try simp only [Act.put, List.setIfInBounds_toArray, List.set_cons_zero, List.set_cons_succ])
  go_cut [20] (fun v20 wc => ∃ (kq : Nat) (x20_6 : Bool), v20 = .bool x20_6 ∧ Aside0 (route_OnDuty.j0 kq a0 l1 a2 a3 x20_6 = some (r1, r2)) ∧ Aside0 (kq ≤ k) ∧ Aside0 (Below w.heap.size w wc))
  case first =>
   have H := HC7.out
   clear HC7
   by_cases c9 : a2 < 0
   ·rw [if_pos c9] at H
    have c9b0 : decide (a2 < 0) = true := decide_eq_true c9
    clear c9
    (first | rw [c9b0] | (simp only [i64_w, i32_w]; rw [c9b0]) | skip)
    have H' := Aside0.mk H
    clear H
    go_wp2
    go_meet
    case rel => exact ⟨_, (true), (by first | rfl | (simp; done) | (simp [*]; done)), H', ⟨by first | omega | exact Nat.le_refl _⟩, ⟨by repeat (first | (with_reducible first | exact HB.out | apply below_alloc | apply pw_below_drewN | apply below_drew1) | exact HB.out)⟩⟩
   ·rw [if_neg c9] at H
    have c9b0 : decide (a2 < 0) = false := decide_eq_false c9
    clear c9
    (first | rw [c9b0] | (simp only [i64_w, i32_w]; rw [c9b0]) | skip)
    have H' := Aside0.mk H
    clear H
    go_wp2
    go_meet
    case rel => exact ⟨_, (decide (a2 > 1048576)), (by first | rfl | (simp; done) | (simp [*]; done)), H', ⟨by first | omega | exact Nat.le_refl _⟩, ⟨by repeat (first | (with_reducible first | exact HB.out | apply below_alloc | apply pw_below_drewN | apply below_drew1) | exact HB.out)⟩⟩
  case rest =>
   clear HC7
   try clear c1
   try clear c2
   try clear p2
   try clear c3
   try clear c6
   try clear c6b0
   try clear c6b1
   try clear c9
   try clear c9b0
   obtain ⟨kq, x20_6, rfl, HA, HJ6, HB⟩ := hcut
   cases kq with
   | zero => exact absurd HA.out (by simp [route_OnDuty.j0])
   | succ kj6 =>
    have H := HA.out
    clear HA
    simp only [route_OnDuty.j0] at H
    by_cases c10 : x20_6 = true
    ·subst c10
     have H1 : (some ((⟨#[]⟩ : ByteArray), 5)) = some (r1, r2) := by rw [if_pos rfl] at H; exact H
     clear H
     have H := H1
     clear H1
     simp only [Option.some.injEq, Prod.mk.injEq] at H
     obtain ⟨rfl, rfl⟩ := H
     go_wp2
     go_ret2
     exact ⟨by first | rfl | (simp [errW_none, errW_some] <;> rfl) | (simp [*, errW_none, errW_some] <;> rfl), by repeat (first | (with_reducible first | exact HB.out | apply below_alloc | apply pw_below_drewN | apply below_drew1) | exact HB.out)⟩
    ·replace c10 := Bool.eq_false_iff.mpr c10
     subst c10
     have H1 : (if a3 < 0 then (some ((⟨#[]⟩ : ByteArray), 1)) else (route_OnDuty.l0 kj6 a0 a2 a3 ([] : List ByteArray) l1 (l1.length : Int) 0)) = some (r1, r2) := by rw [if_neg (show ¬ (false = true) by decide)] at H; exact H
     clear H
     have H := H1
     clear H1
     by_cases c11 : a3 < 0
     ·rw [if_pos c11] at H
      have c11b0 : decide (a3 < 0) = true := decide_eq_true c11
      clear c11
      simp only [Option.some.injEq, Prod.mk.injEq] at H
      obtain ⟨rfl, rfl⟩ := H
      go_wp2
      go_ret2
      exact ⟨by first | rfl | (simp [errW_none, errW_some] <;> rfl) | (simp [*, errW_none, errW_some] <;> rfl), by repeat (first | (with_reducible first | exact HB.out | apply below_alloc | apply pw_below_drewN | apply below_drew1) | exact HB.out)⟩
     ·rw [if_neg c11] at H
      have c11b0 : decide (a3 < 0) = false := decide_eq_false c11
      clear c11
      have H' := Aside0.mk H
      clear H
      go_wp2
      go_loopg [11, 32] kj6 (fun kq v11 v32 w' => ∃ (x11_2 : List ByteArray) (x32_2 : Int), v32 = .int .i64 x32_2 ∧ Aside0 (route_OnDuty.l0 kq a0 a2 a3 x11_2 l1 (l1.length : Int) x32_2 = some (r1, r2)) ∧ Aside0 (kq ≤ kj6) ∧ Aside0 (Kd.R Kd.string 9 w' w.heap.size (fun _ => True) v11 x11_2) ∧ Aside0 (Below w.heap.size w w'))
      case atStart => exact ⟨(([] : List ByteArray)), (0), (by first | rfl | (simp; done) | (simp [*]; done)), H', ⟨Nat.le_refl _⟩, ⟨by first | exact Kd.R_nil _ _ _ _ _ | exact Kd.N_nil _ _ _ _ _ | exact Kd.V_nil _ _ _ _ _ | exact Kd.Q_nil _ _ _ _ _ | exact Kd.S_nil _ _ _ _ _⟩, ⟨by repeat (first | (with_reducible first | exact HB.out | apply below_alloc | apply pw_below_drewN | apply below_drew1) | exact HB.out)⟩⟩
      case round =>
       clear H'
       try clear c1
       try clear c2
       try clear p2
       try clear c3
       try clear c6
       try clear c6b0
       try clear c6b1
       try clear c9
       try clear c9b0
       try clear c10
       try clear c11
       try clear c11b0
       try clear p2
       obtain ⟨x11_2, x32_2, rfl, HA, HK2, HO_11, HB⟩ := hrel
       cases gk with
       | zero => exact absurd HA.out (by simp [route_OnDuty.l0])
       | succ k2 =>
        have H := HA.out
        clear HA
        simp only [route_OnDuty.l0] at H
        by_cases c12 : x32_2 < (l1.length : Int)
        ·rw [if_pos c12] at H
         have c12b0 : decide (x32_2 < (l1.length : Int)) = true := decide_eq_true c12
         clear c12
         by_cases c13 : 0 ≤ x32_2
         ·rw [if_pos c13] at H
          have c13b0 : decide (0 ≤ x32_2) = true := decide_eq_true c13
          clear c13
          by_cases c14 : x32_2 < (l1.length : Int)
          ·rw [if_pos c14] at H
           have c14b0 : decide (x32_2 < (l1.length : Int)) = true := decide_eq_true c14
           clear c14
           by_cases c15 : a0 = 0
           ·rw [if_pos c15] at H
            exact absurd H (by simp)
           ·rw [if_neg c15] at H
            have c15b0 : (a0 == 0) = false := beq_eq_false_iff_ne.mpr c15
            have c15b1 : (a0 != 0) = true := bne_iff_ne.mpr c15
            replace H := Option.bind_eq_some_iff.mp H
            obtain ⟨t174, A160, H⟩ := H
            replace H : (if t174 = true then ((slices_Contains_string_string.f k2 x11_2 ((rd_T60 l1 x32_2).f0)).bind fun t175 => (if t175 = true then (route_OnDuty.l0 k2 a0 a2 a3 x11_2 l1 (l1.length : Int) (wrap64 (x32_2 + 1))) else (if x11_2.length < 8796093022208 then (route_OnDuty.l0 k2 a0 a2 a3 (x11_2 ++ [(rd_T60 l1 x32_2).f0]) l1 (l1.length : Int) (wrap64 (x32_2 + 1))) else (none)))) else (route_OnDuty.l0 k2 a0 a2 a3 x11_2 l1 (l1.length : Int) (wrap64 (x32_2 + 1)))) = some (r1, r2) := H
            have A16 := Aside0.mk A160
            clear A160
            by_cases c17 : t174 = true
            ·subst c17
             have H1 : ((slices_Contains_string_string.f k2 x11_2 ((rd_T60 l1 x32_2).f0)).bind fun t175 => (if t175 = true then (route_OnDuty.l0 k2 a0 a2 a3 x11_2 l1 (l1.length : Int) (wrap64 (x32_2 + 1))) else (if x11_2.length < 8796093022208 then (route_OnDuty.l0 k2 a0 a2 a3 (x11_2 ++ [(rd_T60 l1 x32_2).f0]) l1 (l1.length : Int) (wrap64 (x32_2 + 1))) else (none)))) = some (r1, r2) := by rw [if_pos rfl] at H; exact H
             clear H
             have H := H1
             clear H1
             replace H := Option.bind_eq_some_iff.mp H
             obtain ⟨t175, A180, H⟩ := H
             replace H : (if t175 = true then (route_OnDuty.l0 k2 a0 a2 a3 x11_2 l1 (l1.length : Int) (wrap64 (x32_2 + 1))) else (if x11_2.length < 8796093022208 then (route_OnDuty.l0 k2 a0 a2 a3 (x11_2 ++ [(rd_T60 l1 x32_2).f0]) l1 (l1.length : Int) (wrap64 (x32_2 + 1))) else (none))) = some (r1, r2) := H
             have A18 := Aside0.mk A180
             clear A180
             by_cases c19 : t175 = true
             ·subst c19
              have H1 : (route_OnDuty.l0 k2 a0 a2 a3 x11_2 l1 (l1.length : Int) (wrap64 (x32_2 + 1))) = some (r1, r2) := by rw [if_pos rfl] at H; exact H
              clear H
              have H := H1
              clear H1
              have H' := Aside0.mk H
              clear H
              have p172 : 0 ≤ (x32_2 : Int) := of_decide_eq_true (by first | (with_reducible assumption) | assumption)
              have q172 : x32_2 < (l1.length : Int) := of_decide_eq_true (by first | (with_reducible assumption) | assumption)
              obtain ⟨ad172, e172, hx172_0, hx172_1, hx172_2⟩ := at_T60 HR1.out x32_2 p172 q172
              cases e172
              (try replace hx172_0 := (HB.out.cell (World.block_lt_of_cell? w _ hx172_0)).trans hx172_0)
              (try replace hx172_1 := (HB.out.cell (World.block_lt_of_cell? w _ hx172_1)).trans hx172_1)
              (try replace hx172_2 := (HB.out.cell (World.block_lt_of_cell? w _ hx172_2)).trans hx172_2)
              replace p172 := eq_true p172
              replace q172 := eq_true q172
              try go_wp2_with (first | ((with_reducible refine gate_dst (N := 13) rfl ?_); refine box_event ?hg (N := 13) ?hd (cs := #[.string (⟨#[]⟩ : ByteArray), .int .i64 0, .int .i64 0]) (t := 60) ?hr ?_; (case hd => rfl); (case hg => rfl); (case hr => first | (go_simp; done) | (go_simp; rfl)); intro gb173 hg w20 hbox hb; have n0_ := Aside0.mk (Kd.R_below (rq HO_11) hb); have n1_ := Aside0.mk (below_step (hq HB) hb); have n2_ := Aside0.mk (hbox); have n3_ := Aside0.mk ((by rw [hg]; exact (below_size (hq HB)) : w.heap.size ≤ gb173)); have n4_ := Aside0.mk ((by rw [hg]; exact (below_size (hq HB)) : w.heap.size ≤ gb173)); clear HO_11; clear HB; have HO_11 := n0_; have HB := n1_; have BK173 := n2_; have GW173 := n3_; have GE173 := n4_; clear n0_ n1_ n2_ n3_ n4_; clear hb hbox hg; have hcz21_0 : w20.cell? ⟨gb173, 0, none⟩ = some (.string (⟨#[]⟩ : ByteArray)) := (blk_cell BK173.out 0).trans rfl; have hcz21_1 : w20.cell? ⟨gb173, 1, none⟩ = some (.int .i64 0) := (blk_cell BK173.out 1).trans rfl; have hcz21_2 : w20.cell? ⟨gb173, 2, none⟩ = some (.int .i64 0) := (blk_cell BK173.out 2).trans rfl; have hfz21_0 := blk_frozen BK173.out 0; have hfz21_1 := blk_frozen BK173.out 1; have hfz21_2 := blk_frozen BK173.out 2))
              have n0_ : Aside0 (Kd.R Kd.string 9 (((w20.setCell ⟨gb173, 0, none⟩ (.string ((rd_T60 l1 x32_2).f0))).setCell ⟨gb173, 1, none⟩ (.int .i64 ((rd_T60 l1 x32_2).f1))).setCell ⟨gb173, 2, none⟩ (.int .i64 ((rd_T60 l1 x32_2).f2))) w.heap.size (fun _ => True) u11 x11_2) := ⟨by (with_reducible repeat (first | apply Kd.R_alloc | apply Kd.R_drewN | apply Kd.R_drew)); exact Kd.R_mono (Kd.R_far (p := ⟨gb173, 2, none⟩) (Kd.R_far (p := ⟨gb173, 1, none⟩) (Kd.R_far (p := ⟨gb173, 0, none⟩) (Kd.R_types HO_11.out BK173.out (by decide)) (fun _ hk => hk.2) (.string ((rd_T60 l1 x32_2).f0))) (fun _ hk => hk.2) (.int .i64 ((rd_T60 l1 x32_2).f1))) (fun _ hk => hk.2) (.int .i64 ((rd_T60 l1 x32_2).f2))) (fun _ hk => trivial)⟩
              have n1_ : Aside0 ((((w20.setCell ⟨gb173, 0, none⟩ (.string ((rd_T60 l1 x32_2).f0))).setCell ⟨gb173, 1, none⟩ (.int .i64 ((rd_T60 l1 x32_2).f1))).setCell ⟨gb173, 2, none⟩ (.int .i64 ((rd_T60 l1 x32_2).f2))).heap[gb173]? = some (.cells #[.string ((rd_T60 l1 x32_2).f0), .int .i64 ((rd_T60 l1 x32_2).f1), .int .i64 ((rd_T60 l1 x32_2).f2)] 60 (0, 0))) := ⟨by (with_reducible repeat (first | refine blk_drewN ?_ _ | refine blk_drew ?_ | refine blk_alloc ?_ _)); refine blk_put (cs := #[.string ((rd_T60 l1 x32_2).f0), .int .i64 ((rd_T60 l1 x32_2).f1), .int .i64 0]) ?_ 2 _ rfl; (with_reducible repeat (first | refine blk_drewN ?_ _ | refine blk_drew ?_ | refine blk_alloc ?_ _)); refine blk_put (cs := #[.string ((rd_T60 l1 x32_2).f0), .int .i64 0, .int .i64 0]) ?_ 1 _ rfl; (with_reducible repeat (first | refine blk_drewN ?_ _ | refine blk_drew ?_ | refine blk_alloc ?_ _)); refine blk_put (cs := #[.string (⟨#[]⟩ : ByteArray), .int .i64 0, .int .i64 0]) ?_ 0 _ rfl; (with_reducible repeat (first | refine blk_drewN ?_ _ | refine blk_drew ?_ | refine blk_alloc ?_ _)); exact BK173.out⟩
              have n2_ : Aside0 (Below w.heap.size w (((w20.setCell ⟨gb173, 0, none⟩ (.string ((rd_T60 l1 x32_2).f0))).setCell ⟨gb173, 1, none⟩ (.int .i64 ((rd_T60 l1 x32_2).f1))).setCell ⟨gb173, 2, none⟩ (.int .i64 ((rd_T60 l1 x32_2).f2)))) := ⟨by repeat (first | (with_reducible first | exact HB.out | apply below_alloc | apply pw_below_drewN | apply below_drew1 | refine below_set ?_ GE173.out) | exact HB.out)⟩
              (try clear HO_11)
              (try clear BK173)
              (try clear HB)
              generalize (((w20.setCell ⟨gb173, 0, none⟩ (.string ((rd_T60 l1 x32_2).f0))).setCell ⟨gb173, 1, none⟩ (.int .i64 ((rd_T60 l1 x32_2).f1))).setCell ⟨gb173, 2, none⟩ (.int .i64 ((rd_T60 l1 x32_2).f2))) = w22 at n0_ n1_ n2_ ⊢
              have HO_11 := n0_
              have BK173 := n1_
              have HB := n2_
              clear n0_ n1_ n2_
              have n0_ := Aside0.mk (Kd.R_drew HO_11.out)
              have n1_ := Aside0.mk (blk_drew BK173.out)
              have n2_ := Aside0.mk (below_drew1 HB.out)
              clear HO_11
              clear BK173
              clear HB
              have HO_11 := n0_
              have BK173 := n1_
              have HB := n2_
              clear n0_ n1_ n2_
              refine start_ (n := 12) (S := fun w' => w'.cell? ⟨gb173, 0, none⟩ = some (.string ((rd_T60 l1 x32_2).f0)) ∧ w'.cell? ⟨gb173, 1, none⟩ = some (.int .i64 ((rd_T60 l1 x32_2).f1)) ∧ w'.cell? ⟨gb173, 2, none⟩ = some (.int .i64 ((rd_T60 l1 x32_2).f2))) (ds := []) #[false, false, false, false, false, false, false, false, false, false, false, false] (by kernel_rfl) rfl rfl ⟨(blk_cell BK173.out 0).trans rfl, (blk_cell BK173.out 1).trans rfl, (blk_cell BK173.out 2).trans rfl⟩ (fun hHeld => ?_); refine with_tabW route_OnDuty.tab12 route_OnDuty.bits12 (fun HT_ HW_ => ?_)
              generalize w22.drew = w23 at HO_11 BK173 HB hHeld ⊢
              refine pure_ (i := 1) (N := some 37) (v := ?_) (a' := ?_) #[false, true, false, false, false, false, false, false, false, false, false, false] rfl rfl (any_of HT_.out (by kernel_rfl)) (fun _ _ _ h => h) (Or.inl ⟨by rfl, ?_⟩) ?_ ?_
              rotate_left
              ·intro w'
               go_simp
               with_reducible rfl
              rotate_left
              ·simp only [Act.put, List.setIfInBounds_toArray, List.set_cons_zero, List.set_cons_succ, i64_w, i32_w]
               rfl
              refine pure_ (i := 2) (N := some 38) (v := ?_) (a' := ?_) #[false, true, true, false, false, false, false, false, false, false, false, false] rfl rfl (any_of HT_.out (by kernel_rfl)) (fun _ _ _ h => h) (Or.inl ⟨by rfl, ?_⟩) ?_ ?_
              rotate_left
              ·intro w'
               go_simp
               with_reducible rfl
              rotate_left
              ·simp only [Act.put, List.setIfInBounds_toArray, List.set_cons_zero, List.set_cons_succ, i64_w, i32_w]
               rfl
              refine pure_ (i := 3) (N := some 39) (v := ?_) (a' := ?_) #[false, true, true, true, false, false, false, false, false, false, false, false] rfl rfl (any_of HT_.out (by kernel_rfl)) (fun _ _ _ h => h) (Or.inl ⟨by rfl, ?_⟩) ?_ ?_
              rotate_left
              ·intro w'
               go_simp
               with_reducible rfl
              rotate_left
              ·simp only [Act.put, List.setIfInBounds_toArray, List.set_cons_zero, List.set_cons_succ, i64_w, i32_w]
               rfl
              refine take_ (i := 0) (N := some 36) (v := ?_) (a' := ?_) #[true, true, true, true, false, false, false, false, false, false, false, false] rfl rfl (take_ofW HT_.out HW_.out (by kernel_rfl)) (fun _ _ _ h => h) (Or.inl ⟨by rfl, ?_⟩) hHeld ?_ ?_
              rotate_left
              ·rintro w' ⟨s0, s1, s2⟩
               go_simp
               with_reducible rfl
              rotate_left
              ·simp only [Act.put, List.setIfInBounds_toArray, List.set_cons_zero, List.set_cons_succ, i64_w, i32_w]
               rfl
              refine one_ (i := 4) (N := some 40) #[true, true, true, true, true, false, false, false, false, false, false, false] rfl rfl (one_of HT_.out (by kernel_rfl)) (by decide) (fun K hK => ?_)
              refine goes_ Try.func42 (by kernel_rfl) rfl #[.agg #[.string ((rd_T60 l1 x32_2).f0), .int .i64 ((rd_T60 l1 x32_2).f1), .int .i64 ((rd_T60 l1 x32_2).f2)], .int .i64 (Int.tmod a2 a0)] (by rfl) rfl rfl aq ?_
              with_reducible refine (route_Shift_covers.calls ((rd_T60 l1 x32_2).f0) ((rd_T60 l1 x32_2).f1) ((rd_T60 l1 x32_2).f2) (Int.tmod a2 a0) true _ A16.out).mono ?_
              rintro e w24 ⟨rfl, hb⟩
              refine ⟨_, rfl, ?_⟩
              have n0_ := Aside0.mk (Kd.R_below (rq HO_11) hb)
              have n1_ := Aside0.mk (blk_below (g := gb173) (o := .cells #[.string ((rd_T60 l1 x32_2).f0), .int .i64 ((rd_T60 l1 x32_2).f1), .int .i64 ((rd_T60 l1 x32_2).f2)] 60 (0, 0)) (bq BK173) hb)
              have n2_ := Aside0.mk (below_step (hq HB) hb)
              clear HO_11
              clear BK173
              clear HB
              have HO_11 := n0_
              have BK173 := n1_
              have HB := n2_
              clear n0_ n1_ n2_
              (try clear hb)
              (try clear hb2)
              (try clear hk)
              (try clear hi)
              obtain ⟨Ao25, co25, eo25⟩ := Kd.R_slice HO_11.out
              (first | subst eo25 | (injection eo25 with f1_ f2_ f3_; have f4_ := f1_.symm; have f5_ := f3_.symm; clear f1_ f2_ f3_; subst f4_; subst f5_))
              refine hK.out _ _ ⟨(blk_cell BK173.out 0).trans rfl, (blk_cell BK173.out 1).trans rfl, (blk_cell BK173.out 2).trans rfl⟩ (fun hHeld => ?_)
              clear hK K
              refine norm_ (a' := ?_) ?_ ?_
              rotate_left
              ·show Act.put _ (some 40) _ = _
               simp only [Act.put, List.setIfInBounds_toArray, List.set_cons_zero, List.set_cons_succ, i64_w, i32_w]
               rfl
              refine pure_ (i := 5) (N := some 41) (v := ?_) (a' := ?_) #[true, true, true, true, true, true, false, false, false, false, false, false] rfl rfl (any_of HT_.out (by kernel_rfl)) (fun _ _ _ h => h) (Or.inl ⟨by rfl, ?_⟩) ?_ ?_
              rotate_left
              ·intro w'
               go_simp
               with_reducible rfl
              rotate_left
              ·simp only [Act.put, List.setIfInBounds_toArray, List.set_cons_zero, List.set_cons_succ, i64_w, i32_w]
               rfl
              refine pure_ (i := 6) (N := some 42) (v := ?_) (a' := ?_) #[true, true, true, true, true, true, true, false, false, false, false, false] rfl rfl (any_of HT_.out (by kernel_rfl)) (fun _ _ _ h => h) (Or.inl ⟨by rfl, ?_⟩) ?_ ?_
              rotate_left
              ·intro w'
               go_simp
               with_reducible rfl
              rotate_left
              ·simp only [Act.put, List.setIfInBounds_toArray, List.set_cons_zero, List.set_cons_succ, i64_w, i32_w]
               rfl
              refine pure_ (i := 7) (N := some 43) (v := ?_) (a' := ?_) #[true, true, true, true, true, true, true, true, false, false, false, false] rfl rfl (any_of HT_.out (by kernel_rfl)) (fun _ _ _ h => h) (Or.inl ⟨by rfl, ?_⟩) ?_ ?_
              rotate_left
              ·intro w'
               go_simp
               with_reducible rfl
              rotate_left
              ·simp only [Act.put, List.setIfInBounds_toArray, List.set_cons_zero, List.set_cons_succ, i64_w, i32_w]
               rfl
              refine take_ (i := 8) (N := some 44) (v := ?_) (a' := ?_) #[true, true, true, true, true, true, true, true, true, false, false, false] rfl rfl (take_ofW HT_.out HW_.out (by kernel_rfl)) (fun _ _ _ h => h) (Or.inl ⟨by rfl, ?_⟩) hHeld ?_ ?_
              rotate_left
              ·rintro w' ⟨s0, s1, s2⟩
               go_simp
               with_reducible rfl
              rotate_left
              ·simp only [Act.put, List.setIfInBounds_toArray, List.set_cons_zero, List.set_cons_succ, i64_w, i32_w]
               rfl
              refine one_ (i := 9) (N := some 45) #[true, true, true, true, true, true, true, true, true, true, false, false] rfl rfl (one_of HT_.out (by kernel_rfl)) (by decide) (fun K hK => ?_)
              refine goes_ Try.func46 (by kernel_rfl) rfl #[.slice Ao25 x11_2.length co25, .string ((rd_T60 l1 x32_2).f0)] (by rfl) rfl rfl aq ?_
              with_reducible refine (slices_Contains_string_string.calls k2 _ _ x11_2 ((rd_T60 l1 x32_2).f0) true _ ?side1 ?side2 A18.out).mono ?_
              (case side1 => repeat (first | exact (Kd.R_reads' HO_11.out).2.2 | (with_reducible refine Kd.C_alloc ?_ _) | (with_reducible refine Kd.C_drewN ?_ _) | (with_reducible refine Kd.C_drew ?_)))
              (case side2 => exact (Kd.R_reads' HO_11.out).2.1)
              rintro e w' ⟨rfl, ⟨nd, rfl⟩⟩
              refine ⟨_, rfl, ?_⟩
              refine hK.out _ _ ⟨(blk_cell BK173.out 0).trans rfl, (blk_cell BK173.out 1).trans rfl, (blk_cell BK173.out 2).trans rfl⟩ (fun hHeld => ?_)
              clear hK K
              refine norm_ (a' := ?_) ?_ ?_
              rotate_left
              ·show Act.put _ (some 45) _ = _
               simp only [Act.put, List.setIfInBounds_toArray, List.set_cons_zero, List.set_cons_succ, i64_w, i32_w]
               rfl
              refine pure_ (i := 10) (N := some 46) (v := ?_) (a' := ?_) #[true, true, true, true, true, true, true, true, true, true, true, false] rfl rfl (any_of HT_.out (by kernel_rfl)) (fun _ _ _ h => h) (Or.inl ⟨by rfl, ?_⟩) ?_ ?_
              rotate_left
              ·intro w'
               go_simp
               with_reducible rfl
              rotate_left
              ·simp only [Act.put, List.setIfInBounds_toArray, List.set_cons_zero, List.set_cons_succ, i64_w, i32_w]
               rfl
              refine pure_ (i := 11) (N := some 47) (v := ?_) (a' := ?_) #[true, true, true, true, true, true, true, true, true, true, true, true] rfl rfl (any_of HT_.out (by kernel_rfl)) (fun _ _ _ h => h) (Or.inl ⟨by rfl, ?_⟩) ?_ ?_
              rotate_left
              ·intro w'
               go_simp
               with_reducible rfl
              rotate_left
              ·simp only [Act.put, List.setIfInBounds_toArray, List.set_cons_zero, List.set_cons_succ, i64_w, i32_w]
               rfl
              refine done_ (done_of HT_.out (by kernel_rfl)) ?_
              try go_wp2
              go_roundg k2
              case measure => have := HJ6.out; have := HK2.out; omega
              case rel => exact ⟨(x11_2), (wrap64 (x32_2 + 1)), (by first | rfl | (simp; done) | (simp [*]; done)), H', ⟨by have := HJ6.out; have := HK2.out; omega⟩, ⟨by (with_reducible repeat (first | apply Kd.R_alloc | apply Kd.R_drewN | apply Kd.R_drew)); exact HO_11.out⟩, ⟨by repeat (first | (with_reducible first | exact HB.out | apply below_alloc | apply pw_below_drewN | apply below_drew1 | refine below_set ?_ GE173.out) | exact HB.out)⟩⟩
             ·replace c19 := Bool.eq_false_iff.mpr c19
              subst c19
              have H1 : (if x11_2.length < 8796093022208 then (route_OnDuty.l0 k2 a0 a2 a3 (x11_2 ++ [(rd_T60 l1 x32_2).f0]) l1 (l1.length : Int) (wrap64 (x32_2 + 1))) else (none)) = some (r1, r2) := by rw [if_neg (show ¬ (false = true) by decide)] at H; exact H
              clear H
              have H := H1
              clear H1
              by_cases c26 : x11_2.length < 8796093022208
              ·rw [if_pos c26] at H
               have LMc26 := Aside0.mk c26
               clear c26
               obtain ⟨y176, hy176⟩ : ∃ y_ : List ByteArray, y_ = (x11_2 ++ [(rd_T60 l1 x32_2).f0]) := ⟨_, rfl⟩
               replace H : (route_OnDuty.l0 k2 a0 a2 a3 y176 l1 (l1.length : Int) (wrap64 (x32_2 + 1))) = some (r1, r2) := by first | (rw [hy176]; with_reducible exact H) | (have H2_ := (Option.bind_some _ _).symm.trans H; rw [hy176]; with_reducible exact H2_) | (have H2_ := (Option.bind_some _ _).symm.trans H; with_reducible exact H2_) | with_reducible exact H | (rw [hy176]; exact H) | exact H
               have Ny176 := Aside0.mk hy176
               clear hy176
               have H' := Aside0.mk H
               clear H
               have p172 : 0 ≤ (x32_2 : Int) := of_decide_eq_true (by first | (with_reducible assumption) | assumption)
               have q172 : x32_2 < (l1.length : Int) := of_decide_eq_true (by first | (with_reducible assumption) | assumption)
               obtain ⟨ad172, e172, hx172_0, hx172_1, hx172_2⟩ := at_T60 HR1.out x32_2 p172 q172
               cases e172
               (try replace hx172_0 := (HB.out.cell (World.block_lt_of_cell? w _ hx172_0)).trans hx172_0)
               (try replace hx172_1 := (HB.out.cell (World.block_lt_of_cell? w _ hx172_1)).trans hx172_1)
               (try replace hx172_2 := (HB.out.cell (World.block_lt_of_cell? w _ hx172_2)).trans hx172_2)
               replace p172 := eq_true p172
               replace q172 := eq_true q172
               try go_wp2_with (first | ((with_reducible refine gate_dst (N := 13) rfl ?_); refine box_event ?hg (N := 13) ?hd (cs := #[.string (⟨#[]⟩ : ByteArray), .int .i64 0, .int .i64 0]) (t := 60) ?hr ?_; (case hd => rfl); (case hg => rfl); (case hr => first | (go_simp; done) | (go_simp; rfl)); intro gb173 hg w27 hbox hb; have n0_ := Aside0.mk (Kd.R_below (rq HO_11) hb); have n1_ := Aside0.mk (below_step (hq HB) hb); have n2_ := Aside0.mk (hbox); have n3_ := Aside0.mk ((by rw [hg]; exact (below_size (hq HB)) : w.heap.size ≤ gb173)); have n4_ := Aside0.mk ((by rw [hg]; exact (below_size (hq HB)) : w.heap.size ≤ gb173)); clear HO_11; clear HB; have HO_11 := n0_; have HB := n1_; have BK173 := n2_; have GW173 := n3_; have GE173 := n4_; clear n0_ n1_ n2_ n3_ n4_; clear hb hbox hg; have hcz28_0 : w27.cell? ⟨gb173, 0, none⟩ = some (.string (⟨#[]⟩ : ByteArray)) := (blk_cell BK173.out 0).trans rfl; have hcz28_1 : w27.cell? ⟨gb173, 1, none⟩ = some (.int .i64 0) := (blk_cell BK173.out 1).trans rfl; have hcz28_2 : w27.cell? ⟨gb173, 2, none⟩ = some (.int .i64 0) := (blk_cell BK173.out 2).trans rfl; have hfz28_0 := blk_frozen BK173.out 0; have hfz28_1 := blk_frozen BK173.out 1; have hfz28_2 := blk_frozen BK173.out 2))
               have n0_ : Aside0 (Kd.R Kd.string 9 (((w27.setCell ⟨gb173, 0, none⟩ (.string ((rd_T60 l1 x32_2).f0))).setCell ⟨gb173, 1, none⟩ (.int .i64 ((rd_T60 l1 x32_2).f1))).setCell ⟨gb173, 2, none⟩ (.int .i64 ((rd_T60 l1 x32_2).f2))) w.heap.size (fun _ => True) u11 x11_2) := ⟨by (with_reducible repeat (first | apply Kd.R_alloc | apply Kd.R_drewN | apply Kd.R_drew)); exact Kd.R_mono (Kd.R_far (p := ⟨gb173, 2, none⟩) (Kd.R_far (p := ⟨gb173, 1, none⟩) (Kd.R_far (p := ⟨gb173, 0, none⟩) (Kd.R_types HO_11.out BK173.out (by decide)) (fun _ hk => hk.2) (.string ((rd_T60 l1 x32_2).f0))) (fun _ hk => hk.2) (.int .i64 ((rd_T60 l1 x32_2).f1))) (fun _ hk => hk.2) (.int .i64 ((rd_T60 l1 x32_2).f2))) (fun _ hk => trivial)⟩
               have n1_ : Aside0 ((((w27.setCell ⟨gb173, 0, none⟩ (.string ((rd_T60 l1 x32_2).f0))).setCell ⟨gb173, 1, none⟩ (.int .i64 ((rd_T60 l1 x32_2).f1))).setCell ⟨gb173, 2, none⟩ (.int .i64 ((rd_T60 l1 x32_2).f2))).heap[gb173]? = some (.cells #[.string ((rd_T60 l1 x32_2).f0), .int .i64 ((rd_T60 l1 x32_2).f1), .int .i64 ((rd_T60 l1 x32_2).f2)] 60 (0, 0))) := ⟨by (with_reducible repeat (first | refine blk_drewN ?_ _ | refine blk_drew ?_ | refine blk_alloc ?_ _)); refine blk_put (cs := #[.string ((rd_T60 l1 x32_2).f0), .int .i64 ((rd_T60 l1 x32_2).f1), .int .i64 0]) ?_ 2 _ rfl; (with_reducible repeat (first | refine blk_drewN ?_ _ | refine blk_drew ?_ | refine blk_alloc ?_ _)); refine blk_put (cs := #[.string ((rd_T60 l1 x32_2).f0), .int .i64 0, .int .i64 0]) ?_ 1 _ rfl; (with_reducible repeat (first | refine blk_drewN ?_ _ | refine blk_drew ?_ | refine blk_alloc ?_ _)); refine blk_put (cs := #[.string (⟨#[]⟩ : ByteArray), .int .i64 0, .int .i64 0]) ?_ 0 _ rfl; (with_reducible repeat (first | refine blk_drewN ?_ _ | refine blk_drew ?_ | refine blk_alloc ?_ _)); exact BK173.out⟩
               have n2_ : Aside0 (Below w.heap.size w (((w27.setCell ⟨gb173, 0, none⟩ (.string ((rd_T60 l1 x32_2).f0))).setCell ⟨gb173, 1, none⟩ (.int .i64 ((rd_T60 l1 x32_2).f1))).setCell ⟨gb173, 2, none⟩ (.int .i64 ((rd_T60 l1 x32_2).f2)))) := ⟨by repeat (first | (with_reducible first | exact HB.out | apply below_alloc | apply pw_below_drewN | apply below_drew1 | refine below_set ?_ GE173.out) | exact HB.out)⟩
               (try clear HO_11)
               (try clear BK173)
               (try clear HB)
               generalize (((w27.setCell ⟨gb173, 0, none⟩ (.string ((rd_T60 l1 x32_2).f0))).setCell ⟨gb173, 1, none⟩ (.int .i64 ((rd_T60 l1 x32_2).f1))).setCell ⟨gb173, 2, none⟩ (.int .i64 ((rd_T60 l1 x32_2).f2))) = w29 at n0_ n1_ n2_ ⊢
               have HO_11 := n0_
               have BK173 := n1_
               have HB := n2_
               clear n0_ n1_ n2_
               have n0_ := Aside0.mk (Kd.R_drew HO_11.out)
               have n1_ := Aside0.mk (blk_drew BK173.out)
               have n2_ := Aside0.mk (below_drew1 HB.out)
               clear HO_11
               clear BK173
               clear HB
               have HO_11 := n0_
               have BK173 := n1_
               have HB := n2_
               clear n0_ n1_ n2_
               refine start_ (n := 12) (S := fun w' => w'.cell? ⟨gb173, 0, none⟩ = some (.string ((rd_T60 l1 x32_2).f0)) ∧ w'.cell? ⟨gb173, 1, none⟩ = some (.int .i64 ((rd_T60 l1 x32_2).f1)) ∧ w'.cell? ⟨gb173, 2, none⟩ = some (.int .i64 ((rd_T60 l1 x32_2).f2))) (ds := []) #[false, false, false, false, false, false, false, false, false, false, false, false] (by kernel_rfl) rfl rfl ⟨(blk_cell BK173.out 0).trans rfl, (blk_cell BK173.out 1).trans rfl, (blk_cell BK173.out 2).trans rfl⟩ (fun hHeld => ?_); refine with_tabW route_OnDuty.tab12 route_OnDuty.bits12 (fun HT_ HW_ => ?_)
               generalize w29.drew = w30 at HO_11 BK173 HB hHeld ⊢
               refine pure_ (i := 1) (N := some 37) (v := ?_) (a' := ?_) #[false, true, false, false, false, false, false, false, false, false, false, false] rfl rfl (any_of HT_.out (by kernel_rfl)) (fun _ _ _ h => h) (Or.inl ⟨by rfl, ?_⟩) ?_ ?_
               rotate_left
               ·intro w'
                go_simp
                with_reducible rfl
               rotate_left
               ·simp only [Act.put, List.setIfInBounds_toArray, List.set_cons_zero, List.set_cons_succ, i64_w, i32_w]
                rfl
               refine pure_ (i := 2) (N := some 38) (v := ?_) (a' := ?_) #[false, true, true, false, false, false, false, false, false, false, false, false] rfl rfl (any_of HT_.out (by kernel_rfl)) (fun _ _ _ h => h) (Or.inl ⟨by rfl, ?_⟩) ?_ ?_
               rotate_left
               ·intro w'
                go_simp
                with_reducible rfl
               rotate_left
               ·simp only [Act.put, List.setIfInBounds_toArray, List.set_cons_zero, List.set_cons_succ, i64_w, i32_w]
                rfl
               refine pure_ (i := 3) (N := some 39) (v := ?_) (a' := ?_) #[false, true, true, true, false, false, false, false, false, false, false, false] rfl rfl (any_of HT_.out (by kernel_rfl)) (fun _ _ _ h => h) (Or.inl ⟨by rfl, ?_⟩) ?_ ?_
               rotate_left
               ·intro w'
                go_simp
                with_reducible rfl
               rotate_left
               ·simp only [Act.put, List.setIfInBounds_toArray, List.set_cons_zero, List.set_cons_succ, i64_w, i32_w]
                rfl
               refine take_ (i := 0) (N := some 36) (v := ?_) (a' := ?_) #[true, true, true, true, false, false, false, false, false, false, false, false] rfl rfl (take_ofW HT_.out HW_.out (by kernel_rfl)) (fun _ _ _ h => h) (Or.inl ⟨by rfl, ?_⟩) hHeld ?_ ?_
               rotate_left
               ·rintro w' ⟨s0, s1, s2⟩
                go_simp
                with_reducible rfl
               rotate_left
               ·simp only [Act.put, List.setIfInBounds_toArray, List.set_cons_zero, List.set_cons_succ, i64_w, i32_w]
                rfl
               refine one_ (i := 4) (N := some 40) #[true, true, true, true, true, false, false, false, false, false, false, false] rfl rfl (one_of HT_.out (by kernel_rfl)) (by decide) (fun K hK => ?_)
               refine goes_ Try.func42 (by kernel_rfl) rfl #[.agg #[.string ((rd_T60 l1 x32_2).f0), .int .i64 ((rd_T60 l1 x32_2).f1), .int .i64 ((rd_T60 l1 x32_2).f2)], .int .i64 (Int.tmod a2 a0)] (by rfl) rfl rfl aq ?_
               with_reducible refine (route_Shift_covers.calls ((rd_T60 l1 x32_2).f0) ((rd_T60 l1 x32_2).f1) ((rd_T60 l1 x32_2).f2) (Int.tmod a2 a0) true _ A16.out).mono ?_
               rintro e w31 ⟨rfl, hb⟩
               refine ⟨_, rfl, ?_⟩
               have n0_ := Aside0.mk (Kd.R_below (rq HO_11) hb)
               have n1_ := Aside0.mk (blk_below (g := gb173) (o := .cells #[.string ((rd_T60 l1 x32_2).f0), .int .i64 ((rd_T60 l1 x32_2).f1), .int .i64 ((rd_T60 l1 x32_2).f2)] 60 (0, 0)) (bq BK173) hb)
               have n2_ := Aside0.mk (below_step (hq HB) hb)
               clear HO_11
               clear BK173
               clear HB
               have HO_11 := n0_
               have BK173 := n1_
               have HB := n2_
               clear n0_ n1_ n2_
               (try clear hb)
               (try clear hb2)
               (try clear hk)
               (try clear hi)
               obtain ⟨Ao32, co32, eo32⟩ := Kd.R_slice HO_11.out
               (first | subst eo32 | (injection eo32 with f1_ f2_ f3_; have f4_ := f1_.symm; have f5_ := f3_.symm; clear f1_ f2_ f3_; subst f4_; subst f5_))
               refine hK.out _ _ ⟨(blk_cell BK173.out 0).trans rfl, (blk_cell BK173.out 1).trans rfl, (blk_cell BK173.out 2).trans rfl⟩ (fun hHeld => ?_)
               clear hK K
               refine norm_ (a' := ?_) ?_ ?_
               rotate_left
               ·show Act.put _ (some 40) _ = _
                simp only [Act.put, List.setIfInBounds_toArray, List.set_cons_zero, List.set_cons_succ, i64_w, i32_w]
                rfl
               refine pure_ (i := 5) (N := some 41) (v := ?_) (a' := ?_) #[true, true, true, true, true, true, false, false, false, false, false, false] rfl rfl (any_of HT_.out (by kernel_rfl)) (fun _ _ _ h => h) (Or.inl ⟨by rfl, ?_⟩) ?_ ?_
               rotate_left
               ·intro w'
                go_simp
                with_reducible rfl
               rotate_left
               ·simp only [Act.put, List.setIfInBounds_toArray, List.set_cons_zero, List.set_cons_succ, i64_w, i32_w]
                rfl
               refine pure_ (i := 6) (N := some 42) (v := ?_) (a' := ?_) #[true, true, true, true, true, true, true, false, false, false, false, false] rfl rfl (any_of HT_.out (by kernel_rfl)) (fun _ _ _ h => h) (Or.inl ⟨by rfl, ?_⟩) ?_ ?_
               rotate_left
               ·intro w'
                go_simp
                with_reducible rfl
               rotate_left
               ·simp only [Act.put, List.setIfInBounds_toArray, List.set_cons_zero, List.set_cons_succ, i64_w, i32_w]
                rfl
               refine pure_ (i := 7) (N := some 43) (v := ?_) (a' := ?_) #[true, true, true, true, true, true, true, true, false, false, false, false] rfl rfl (any_of HT_.out (by kernel_rfl)) (fun _ _ _ h => h) (Or.inl ⟨by rfl, ?_⟩) ?_ ?_
               rotate_left
               ·intro w'
                go_simp
                with_reducible rfl
               rotate_left
               ·simp only [Act.put, List.setIfInBounds_toArray, List.set_cons_zero, List.set_cons_succ, i64_w, i32_w]
                rfl
               refine take_ (i := 8) (N := some 44) (v := ?_) (a' := ?_) #[true, true, true, true, true, true, true, true, true, false, false, false] rfl rfl (take_ofW HT_.out HW_.out (by kernel_rfl)) (fun _ _ _ h => h) (Or.inl ⟨by rfl, ?_⟩) hHeld ?_ ?_
               rotate_left
               ·rintro w' ⟨s0, s1, s2⟩
                go_simp
                with_reducible rfl
               rotate_left
               ·simp only [Act.put, List.setIfInBounds_toArray, List.set_cons_zero, List.set_cons_succ, i64_w, i32_w]
                rfl
               refine one_ (i := 9) (N := some 45) #[true, true, true, true, true, true, true, true, true, true, false, false] rfl rfl (one_of HT_.out (by kernel_rfl)) (by decide) (fun K hK => ?_)
               refine goes_ Try.func46 (by kernel_rfl) rfl #[.slice Ao32 x11_2.length co32, .string ((rd_T60 l1 x32_2).f0)] (by rfl) rfl rfl aq ?_
               with_reducible refine (slices_Contains_string_string.calls k2 _ _ x11_2 ((rd_T60 l1 x32_2).f0) false _ ?side1 ?side2 A18.out).mono ?_
               (case side1 => repeat (first | exact (Kd.R_reads' HO_11.out).2.2 | (with_reducible refine Kd.C_alloc ?_ _) | (with_reducible refine Kd.C_drewN ?_ _) | (with_reducible refine Kd.C_drew ?_)))
               (case side2 => exact (Kd.R_reads' HO_11.out).2.1)
               rintro e w' ⟨rfl, ⟨nd, rfl⟩⟩
               refine ⟨_, rfl, ?_⟩
               refine hK.out _ _ ⟨(blk_cell BK173.out 0).trans rfl, (blk_cell BK173.out 1).trans rfl, (blk_cell BK173.out 2).trans rfl⟩ (fun hHeld => ?_)
               clear hK K
               refine norm_ (a' := ?_) ?_ ?_
               rotate_left
               ·show Act.put _ (some 45) _ = _
                simp only [Act.put, List.setIfInBounds_toArray, List.set_cons_zero, List.set_cons_succ, i64_w, i32_w]
                rfl
               refine pure_ (i := 10) (N := some 46) (v := ?_) (a' := ?_) #[true, true, true, true, true, true, true, true, true, true, true, false] rfl rfl (any_of HT_.out (by kernel_rfl)) (fun _ _ _ h => h) (Or.inl ⟨by rfl, ?_⟩) ?_ ?_
               rotate_left
               ·intro w'
                go_simp
                with_reducible rfl
               rotate_left
               ·simp only [Act.put, List.setIfInBounds_toArray, List.set_cons_zero, List.set_cons_succ, i64_w, i32_w]
                rfl
               refine pure_ (i := 11) (N := some 47) (v := ?_) (a' := ?_) #[true, true, true, true, true, true, true, true, true, true, true, true] rfl rfl (any_of HT_.out (by kernel_rfl)) (fun _ _ _ h => h) (Or.inl ⟨by rfl, ?_⟩) ?_ ?_
               rotate_left
               ·intro w'
                go_simp
                with_reducible rfl
               rotate_left
               ·simp only [Act.put, List.setIfInBounds_toArray, List.set_cons_zero, List.set_cons_succ, i64_w, i32_w]
                rfl
               refine done_ (done_of HT_.out (by kernel_rfl)) ?_
               have hcz33_0 : w31.cell? ⟨gb173, 0, none⟩ = some (.string ((rd_T60 l1 x32_2).f0)) := (blk_cell BK173.out 0).trans rfl
               have hcz33_1 : w31.cell? ⟨gb173, 1, none⟩ = some (.int .i64 ((rd_T60 l1 x32_2).f1)) := (blk_cell BK173.out 1).trans rfl
               have hcz33_2 : w31.cell? ⟨gb173, 2, none⟩ = some (.int .i64 ((rd_T60 l1 x32_2).f2)) := (blk_cell BK173.out 2).trans rfl
               have hfz33_0 := blk_frozen BK173.out 0
               have hfz33_1 := blk_frozen BK173.out 1
               have hfz33_2 := blk_frozen BK173.out 2
               try go_wp2_with (first | ((with_reducible refine gate_builtin (b := .append) (xs := #[.tmp 48, .tmp 51]) rfl ?_); at_builtin; refine Kd.R_append Kd.string (w0 := w) w.heap.size rfl (.tmp 48) (.tmp 51) 57 9 (.string ⟨#[]⟩) 16 rfl Try.underlying57 info9 rfl (by decide) (by omega) (.slice Ao32 x11_2.length co32) x11_2 ((rd_T60 l1 x32_2).f0) [.string ((rd_T60 l1 x32_2).f0)] (fun _ => True) (fun _ => False) rfl rfl ?aP (fun _ hk => hk.elim) ?aF ?aO ?aB ?aS ?aL ?_; (case aP => exact rfl); (case aB => exact (hq HB)); (case aF => exact (fun _ _ => trivial)); (case aO => exact (rq HO_11)); (case aS => exact (below_size (hq HB))); (case aL => have := LMc26.out; omega); intro v177 w34 ho hb hg hat; rw [← Ny176.out] at ho; have n0_ := Aside0.mk (blk_grown (g := gb173) (o := .cells #[.string ((rd_T60 l1 x32_2).f0), .int .i64 ((rd_T60 l1 x32_2).f1), .int .i64 ((rd_T60 l1 x32_2).f2)] 60 (0, 0)) (bq BK173) hg (Kd.R_ne HO_11.out BK173.out (by decide))); have n1_ := Aside0.mk (hb); have n2_ := Aside0.mk (ho); clear BK173; clear HB; clear HO_11; have BK173 := n0_; have HB := n1_; have HO178 := n2_; clear n0_ n1_ n2_; clear ho hb hg hat))
               go_roundg k2
               case measure => have := HJ6.out; have := HK2.out; omega
               case rel => exact ⟨(y176), (wrap64 (x32_2 + 1)), (by first | rfl | (simp; done) | (simp [*]; done)), H', ⟨by have := HJ6.out; have := HK2.out; omega⟩, ⟨by (with_reducible repeat (first | apply Kd.R_alloc | apply Kd.R_drewN | apply Kd.R_drew)); exact HO178.out⟩, ⟨by repeat (first | (with_reducible first | exact HB.out | apply below_alloc | apply pw_below_drewN | apply below_drew1 | refine below_set ?_ GE173.out) | exact HB.out)⟩⟩
              ·rw [if_neg c26] at H
               exact absurd H (by simp)
            ·replace c17 := Bool.eq_false_iff.mpr c17
             subst c17
             have H1 : (route_OnDuty.l0 k2 a0 a2 a3 x11_2 l1 (l1.length : Int) (wrap64 (x32_2 + 1))) = some (r1, r2) := by rw [if_neg (show ¬ (false = true) by decide)] at H; exact H
             clear H
             have H := H1
             clear H1
             have H' := Aside0.mk H
             clear H
             have p172 : 0 ≤ (x32_2 : Int) := of_decide_eq_true (by first | (with_reducible assumption) | assumption)
             have q172 : x32_2 < (l1.length : Int) := of_decide_eq_true (by first | (with_reducible assumption) | assumption)
             obtain ⟨ad172, e172, hx172_0, hx172_1, hx172_2⟩ := at_T60 HR1.out x32_2 p172 q172
             cases e172
             (try replace hx172_0 := (HB.out.cell (World.block_lt_of_cell? w _ hx172_0)).trans hx172_0)
             (try replace hx172_1 := (HB.out.cell (World.block_lt_of_cell? w _ hx172_1)).trans hx172_1)
             (try replace hx172_2 := (HB.out.cell (World.block_lt_of_cell? w _ hx172_2)).trans hx172_2)
             replace p172 := eq_true p172
             replace q172 := eq_true q172
             try go_wp2_with (first | ((with_reducible refine gate_dst (N := 13) rfl ?_); refine box_event ?hg (N := 13) ?hd (cs := #[.string (⟨#[]⟩ : ByteArray), .int .i64 0, .int .i64 0]) (t := 60) ?hr ?_; (case hd => rfl); (case hg => rfl); (case hr => first | (go_simp; done) | (go_simp; rfl)); intro gb173 hg w35 hbox hb; have n0_ := Aside0.mk (Kd.R_below (rq HO_11) hb); have n1_ := Aside0.mk (below_step (hq HB) hb); have n2_ := Aside0.mk (hbox); have n3_ := Aside0.mk ((by rw [hg]; exact (below_size (hq HB)) : w.heap.size ≤ gb173)); have n4_ := Aside0.mk ((by rw [hg]; exact (below_size (hq HB)) : w.heap.size ≤ gb173)); clear HO_11; clear HB; have HO_11 := n0_; have HB := n1_; have BK173 := n2_; have GW173 := n3_; have GE173 := n4_; clear n0_ n1_ n2_ n3_ n4_; clear hb hbox hg; have hcz36_0 : w35.cell? ⟨gb173, 0, none⟩ = some (.string (⟨#[]⟩ : ByteArray)) := (blk_cell BK173.out 0).trans rfl; have hcz36_1 : w35.cell? ⟨gb173, 1, none⟩ = some (.int .i64 0) := (blk_cell BK173.out 1).trans rfl; have hcz36_2 : w35.cell? ⟨gb173, 2, none⟩ = some (.int .i64 0) := (blk_cell BK173.out 2).trans rfl; have hfz36_0 := blk_frozen BK173.out 0; have hfz36_1 := blk_frozen BK173.out 1; have hfz36_2 := blk_frozen BK173.out 2))
             have n0_ : Aside0 (Kd.R Kd.string 9 (((w35.setCell ⟨gb173, 0, none⟩ (.string ((rd_T60 l1 x32_2).f0))).setCell ⟨gb173, 1, none⟩ (.int .i64 ((rd_T60 l1 x32_2).f1))).setCell ⟨gb173, 2, none⟩ (.int .i64 ((rd_T60 l1 x32_2).f2))) w.heap.size (fun _ => True) u11 x11_2) := ⟨by (with_reducible repeat (first | apply Kd.R_alloc | apply Kd.R_drewN | apply Kd.R_drew)); exact Kd.R_mono (Kd.R_far (p := ⟨gb173, 2, none⟩) (Kd.R_far (p := ⟨gb173, 1, none⟩) (Kd.R_far (p := ⟨gb173, 0, none⟩) (Kd.R_types HO_11.out BK173.out (by decide)) (fun _ hk => hk.2) (.string ((rd_T60 l1 x32_2).f0))) (fun _ hk => hk.2) (.int .i64 ((rd_T60 l1 x32_2).f1))) (fun _ hk => hk.2) (.int .i64 ((rd_T60 l1 x32_2).f2))) (fun _ hk => trivial)⟩
             have n1_ : Aside0 ((((w35.setCell ⟨gb173, 0, none⟩ (.string ((rd_T60 l1 x32_2).f0))).setCell ⟨gb173, 1, none⟩ (.int .i64 ((rd_T60 l1 x32_2).f1))).setCell ⟨gb173, 2, none⟩ (.int .i64 ((rd_T60 l1 x32_2).f2))).heap[gb173]? = some (.cells #[.string ((rd_T60 l1 x32_2).f0), .int .i64 ((rd_T60 l1 x32_2).f1), .int .i64 ((rd_T60 l1 x32_2).f2)] 60 (0, 0))) := ⟨by (with_reducible repeat (first | refine blk_drewN ?_ _ | refine blk_drew ?_ | refine blk_alloc ?_ _)); refine blk_put (cs := #[.string ((rd_T60 l1 x32_2).f0), .int .i64 ((rd_T60 l1 x32_2).f1), .int .i64 0]) ?_ 2 _ rfl; (with_reducible repeat (first | refine blk_drewN ?_ _ | refine blk_drew ?_ | refine blk_alloc ?_ _)); refine blk_put (cs := #[.string ((rd_T60 l1 x32_2).f0), .int .i64 0, .int .i64 0]) ?_ 1 _ rfl; (with_reducible repeat (first | refine blk_drewN ?_ _ | refine blk_drew ?_ | refine blk_alloc ?_ _)); refine blk_put (cs := #[.string (⟨#[]⟩ : ByteArray), .int .i64 0, .int .i64 0]) ?_ 0 _ rfl; (with_reducible repeat (first | refine blk_drewN ?_ _ | refine blk_drew ?_ | refine blk_alloc ?_ _)); exact BK173.out⟩
             have n2_ : Aside0 (Below w.heap.size w (((w35.setCell ⟨gb173, 0, none⟩ (.string ((rd_T60 l1 x32_2).f0))).setCell ⟨gb173, 1, none⟩ (.int .i64 ((rd_T60 l1 x32_2).f1))).setCell ⟨gb173, 2, none⟩ (.int .i64 ((rd_T60 l1 x32_2).f2)))) := ⟨by repeat (first | (with_reducible first | exact HB.out | apply below_alloc | apply pw_below_drewN | apply below_drew1 | refine below_set ?_ GE173.out) | exact HB.out)⟩
             (try clear HO_11)
             (try clear BK173)
             (try clear HB)
             generalize (((w35.setCell ⟨gb173, 0, none⟩ (.string ((rd_T60 l1 x32_2).f0))).setCell ⟨gb173, 1, none⟩ (.int .i64 ((rd_T60 l1 x32_2).f1))).setCell ⟨gb173, 2, none⟩ (.int .i64 ((rd_T60 l1 x32_2).f2))) = w37 at n0_ n1_ n2_ ⊢
             have HO_11 := n0_
             have BK173 := n1_
             have HB := n2_
             clear n0_ n1_ n2_
             have n0_ := Aside0.mk (Kd.R_drew HO_11.out)
             have n1_ := Aside0.mk (blk_drew BK173.out)
             have n2_ := Aside0.mk (below_drew1 HB.out)
             clear HO_11
             clear BK173
             clear HB
             have HO_11 := n0_
             have BK173 := n1_
             have HB := n2_
             clear n0_ n1_ n2_
             refine start_ (n := 12) (S := fun w' => w'.cell? ⟨gb173, 0, none⟩ = some (.string ((rd_T60 l1 x32_2).f0)) ∧ w'.cell? ⟨gb173, 1, none⟩ = some (.int .i64 ((rd_T60 l1 x32_2).f1)) ∧ w'.cell? ⟨gb173, 2, none⟩ = some (.int .i64 ((rd_T60 l1 x32_2).f2))) (ds := []) #[false, false, false, false, false, false, false, false, false, false, false, false] (by kernel_rfl) rfl rfl ⟨(blk_cell BK173.out 0).trans rfl, (blk_cell BK173.out 1).trans rfl, (blk_cell BK173.out 2).trans rfl⟩ (fun hHeld => ?_); refine with_tabW route_OnDuty.tab12 route_OnDuty.bits12 (fun HT_ HW_ => ?_)
             generalize w37.drew = w38 at HO_11 BK173 HB hHeld ⊢
             refine pure_ (i := 1) (N := some 37) (v := ?_) (a' := ?_) #[false, true, false, false, false, false, false, false, false, false, false, false] rfl rfl (any_of HT_.out (by kernel_rfl)) (fun _ _ _ h => h) (Or.inl ⟨by rfl, ?_⟩) ?_ ?_
             rotate_left
             ·intro w'
              go_simp
              with_reducible rfl
             rotate_left
             ·simp only [Act.put, List.setIfInBounds_toArray, List.set_cons_zero, List.set_cons_succ, i64_w, i32_w]
              rfl
             refine pure_ (i := 2) (N := some 38) (v := ?_) (a' := ?_) #[false, true, true, false, false, false, false, false, false, false, false, false] rfl rfl (any_of HT_.out (by kernel_rfl)) (fun _ _ _ h => h) (Or.inl ⟨by rfl, ?_⟩) ?_ ?_
             rotate_left
             ·intro w'
              go_simp
              with_reducible rfl
             rotate_left
             ·simp only [Act.put, List.setIfInBounds_toArray, List.set_cons_zero, List.set_cons_succ, i64_w, i32_w]
              rfl
             refine pure_ (i := 3) (N := some 39) (v := ?_) (a' := ?_) #[false, true, true, true, false, false, false, false, false, false, false, false] rfl rfl (any_of HT_.out (by kernel_rfl)) (fun _ _ _ h => h) (Or.inl ⟨by rfl, ?_⟩) ?_ ?_
             rotate_left
             ·intro w'
              go_simp
              with_reducible rfl
             rotate_left
             ·simp only [Act.put, List.setIfInBounds_toArray, List.set_cons_zero, List.set_cons_succ, i64_w, i32_w]
              rfl
             refine take_ (i := 0) (N := some 36) (v := ?_) (a' := ?_) #[true, true, true, true, false, false, false, false, false, false, false, false] rfl rfl (take_ofW HT_.out HW_.out (by kernel_rfl)) (fun _ _ _ h => h) (Or.inl ⟨by rfl, ?_⟩) hHeld ?_ ?_
             rotate_left
             ·rintro w' ⟨s0, s1, s2⟩
              go_simp
              with_reducible rfl
             rotate_left
             ·simp only [Act.put, List.setIfInBounds_toArray, List.set_cons_zero, List.set_cons_succ, i64_w, i32_w]
              rfl
             refine one_ (i := 4) (N := some 40) #[true, true, true, true, true, false, false, false, false, false, false, false] rfl rfl (one_of HT_.out (by kernel_rfl)) (by decide) (fun K hK => ?_)
             refine goes_ Try.func42 (by kernel_rfl) rfl #[.agg #[.string ((rd_T60 l1 x32_2).f0), .int .i64 ((rd_T60 l1 x32_2).f1), .int .i64 ((rd_T60 l1 x32_2).f2)], .int .i64 (Int.tmod a2 a0)] (by rfl) rfl rfl aq ?_
             with_reducible refine (route_Shift_covers.calls ((rd_T60 l1 x32_2).f0) ((rd_T60 l1 x32_2).f1) ((rd_T60 l1 x32_2).f2) (Int.tmod a2 a0) false _ A16.out).mono ?_
             rintro e w39 ⟨rfl, hb⟩
             refine ⟨_, rfl, ?_⟩
             have n0_ := Aside0.mk (Kd.R_below (rq HO_11) hb)
             have n1_ := Aside0.mk (blk_below (g := gb173) (o := .cells #[.string ((rd_T60 l1 x32_2).f0), .int .i64 ((rd_T60 l1 x32_2).f1), .int .i64 ((rd_T60 l1 x32_2).f2)] 60 (0, 0)) (bq BK173) hb)
             have n2_ := Aside0.mk (below_step (hq HB) hb)
             clear HO_11
             clear BK173
             clear HB
             have HO_11 := n0_
             have BK173 := n1_
             have HB := n2_
             clear n0_ n1_ n2_
             (try clear hb)
             (try clear hb2)
             (try clear hk)
             (try clear hi)
             refine hK.out _ _ ⟨(blk_cell BK173.out 0).trans rfl, (blk_cell BK173.out 1).trans rfl, (blk_cell BK173.out 2).trans rfl⟩ (fun hHeld => ?_)
             clear hK K
             refine norm_ (a' := ?_) ?_ ?_
             rotate_left
             ·show Act.put _ (some 40) _ = _
              simp only [Act.put, List.setIfInBounds_toArray, List.set_cons_zero, List.set_cons_succ, i64_w, i32_w]
              rfl
             refine pure_ (i := 5) (N := some 41) (v := ?_) (a' := ?_) #[true, true, true, true, true, true, false, false, false, false, false, false] rfl rfl (any_of HT_.out (by kernel_rfl)) (fun _ _ _ h => h) (Or.inl ⟨by rfl, ?_⟩) ?_ ?_
             rotate_left
             ·intro w'
              go_simp
              with_reducible rfl
             rotate_left
             ·simp only [Act.put, List.setIfInBounds_toArray, List.set_cons_zero, List.set_cons_succ, i64_w, i32_w]
              rfl
             refine pure_ (i := 6) (N := some 42) (v := undef) (a' := ?_) #[true, true, true, true, true, true, true, false, false, false, false, false] rfl rfl (any_of HT_.out (by kernel_rfl)) (fun _ _ _ h => h) (Or.inr ⟨by rfl, rfl⟩) ?_ ?_
             rotate_left
             ·simp only [Act.put, List.setIfInBounds_toArray, List.set_cons_zero, List.set_cons_succ, i64_w, i32_w]
              rfl
             refine pure_ (i := 7) (N := some 43) (v := undef) (a' := ?_) #[true, true, true, true, true, true, true, true, false, false, false, false] rfl rfl (any_of HT_.out (by kernel_rfl)) (fun _ _ _ h => h) (Or.inr ⟨by rfl, rfl⟩) ?_ ?_
             rotate_left
             ·simp only [Act.put, List.setIfInBounds_toArray, List.set_cons_zero, List.set_cons_succ, i64_w, i32_w]
              rfl
             refine pure_ (i := 8) (N := some 44) (v := undef) (a' := ?_) #[true, true, true, true, true, true, true, true, true, false, false, false] rfl rfl (any_of HT_.out (by kernel_rfl)) (fun _ _ _ h => h) (Or.inr ⟨by rfl, rfl⟩) ?_ ?_
             rotate_left
             ·simp only [Act.put, List.setIfInBounds_toArray, List.set_cons_zero, List.set_cons_succ, i64_w, i32_w]
              rfl
             refine pure_ (i := 9) (N := some 45) (v := undef) (a' := ?_) #[true, true, true, true, true, true, true, true, true, true, false, false] rfl rfl (any_of HT_.out (by kernel_rfl)) (fun _ _ _ h => h) (Or.inr ⟨by rfl, rfl⟩) ?_ ?_
             rotate_left
             ·simp only [Act.put, List.setIfInBounds_toArray, List.set_cons_zero, List.set_cons_succ, i64_w, i32_w]
              rfl
             refine pure_ (i := 10) (N := some 46) (v := undef) (a' := ?_) #[true, true, true, true, true, true, true, true, true, true, true, false] rfl rfl (any_of HT_.out (by kernel_rfl)) (fun _ _ _ h => h) (Or.inr ⟨by rfl, rfl⟩) ?_ ?_
             rotate_left
             ·simp only [Act.put, List.setIfInBounds_toArray, List.set_cons_zero, List.set_cons_succ, i64_w, i32_w]
              rfl
             refine pure_ (i := 11) (N := some 47) (v := ?_) (a' := ?_) #[true, true, true, true, true, true, true, true, true, true, true, true] rfl rfl (any_of HT_.out (by kernel_rfl)) (fun _ _ _ h => h) (Or.inl ⟨by rfl, ?_⟩) ?_ ?_
             rotate_left
             ·intro w'
              go_simp
              with_reducible rfl
             rotate_left
             ·simp only [Act.put, List.setIfInBounds_toArray, List.set_cons_zero, List.set_cons_succ, i64_w, i32_w]
              rfl
             refine done_ (done_of HT_.out (by kernel_rfl)) ?_
             try go_wp2
             go_roundg k2
             case measure => have := HJ6.out; have := HK2.out; omega
             case rel => exact ⟨(x11_2), (wrap64 (x32_2 + 1)), (by first | rfl | (simp; done) | (simp [*]; done)), H', ⟨by have := HJ6.out; have := HK2.out; omega⟩, ⟨by (with_reducible repeat (first | apply Kd.R_alloc | apply Kd.R_drewN | apply Kd.R_drew)); exact HO_11.out⟩, ⟨by repeat (first | (with_reducible first | exact HB.out | apply below_alloc | apply pw_below_drewN | apply below_drew1 | refine below_set ?_ GE173.out) | exact HB.out)⟩⟩
          ·rw [if_neg c14] at H
           exact absurd H (by simp)
         ·rw [if_neg c13] at H
          exact absurd H (by simp)
        ·rw [if_neg c12] at H
         have c12b0 : decide (x32_2 < (l1.length : Int)) = false := decide_eq_false c12
         clear c12
         obtain ⟨ji40, hji40⟩ : ∃ j_ : Int, (mn a3 (wrap64 ((x11_2.length : Int) - 1))) = j_ := ⟨_, rfl⟩
         replace H : (if 0 ≤ (ji40) then (if (ji40) < (x11_2.length : Int) then (some (rdOf ByteArray.empty x11_2 (ji40), 0)) else (none)) else (none)) = some (r1, r2) := by first | (rw [hji40] at H; exact H) | (simp only [hji40] at H ⊢; exact H)
         have hji40_ : (if (wrap64 ((x11_2.length : Int) - 1)) < a3 then (wrap64 ((x11_2.length : Int) - 1)) else a3) = ji40 := hji40
         by_cases c41 : 0 ≤ (ji40)
         ·rw [if_pos c41] at H
          have c41b0 : decide (0 ≤ (ji40)) = true := decide_eq_true c41
          clear c41
          by_cases c42 : (ji40) < (x11_2.length : Int)
          ·rw [if_pos c42] at H
           have c42b0 : decide ((ji40) < (x11_2.length : Int)) = true := decide_eq_true c42
           clear c42
           simp only [Option.some.injEq, Prod.mk.injEq] at H
           obtain ⟨rfl, rfl⟩ := H
           obtain ⟨Ao43, co43, eo43⟩ := Kd.R_slice HO_11.out
           subst eo43
           have p171 : 0 ≤ ((ji40) : Int) := of_decide_eq_true (by first | (with_reducible assumption) | assumption)
           have q171 : (ji40) < (x11_2.length : Int) := of_decide_eq_true (by first | (with_reducible assumption) | assumption)
           try (obtain ⟨Az171_, cz171_, ez171_⟩ := Kd.R_slice HO_11.out; subst ez171_)
           obtain ⟨ad171, e171, hx171_0⟩ := Kd.at_string (Kd.R_reads' HO_11.out).2.2 (ji40) p171 q171
           cases e171
           replace p171 := eq_true p171
           replace q171 := eq_true q171
           go_wp2
           go_ret2
           exact ⟨by first | rfl | (simp [errW_none, errW_some] <;> rfl) | (simp only [← hji40]; first | rfl | (simp [errW_none, errW_some] <;> rfl)) | (simp [*, errW_none, errW_some] <;> rfl), by repeat (first | (with_reducible first | exact HB.out | apply below_alloc | apply pw_below_drewN | apply below_drew1) | exact HB.out)⟩
          ·rw [if_neg c42] at H
           exact absurd H (by simp)
         ·rw [if_neg c41] at H
          exact absurd H (by simp)
 ·rw [if_neg c6] at H
  have c6b0 : (t170 == 0) = false := beq_eq_false_iff_ne.mpr c6
  have c6b1 : (t170 != 0) = true := bne_iff_ne.mpr c6
  simp only [Option.some.injEq, Prod.mk.injEq] at H
  obtain ⟨rfl, rfl⟩ := H
  go_enter Try.func30, Try.ntmps30
  go_wp2_with (first | ((with_reducible refine gate_callee (f := 26) rfl ?_); refine goesL_ (some 16) rfl rfl Try.func26 (by kernel_rfl) rfl #[.int .i64 a0, .slice A1 l1.length c1] rfl aq ?_; (with_reducible refine (route_ValidRota.calls k a0 _ _ l1 t170 _ ?side1 ?side2 A5.out).mono ?_); (case side1 => repeat (first | exact HR1.out | (with_reducible refine Kd.C_alloc ?_ _) | (with_reducible refine Kd.C_drewN ?_ _) | (with_reducible refine Kd.C_drew ?_))); (case side2 => exact HC1.out); rintro e w44 ⟨rfl, hb⟩; refine ⟨_, rfl, ?_⟩; have n0_ := Aside0.mk (below_step (hq HB) hb); clear HB; have HB := n0_; clear n0_; (try clear hb); (try clear hb2); (try clear hk); (try clear hi)))
  go_ret2
  exact ⟨by first | rfl | (simp [errW_none, errW_some] <;> rfl) | (simp [*, errW_none, errW_some] <;> rfl), by repeat (first | (with_reducible first | exact HB.out | apply below_alloc | apply pw_below_drewN | apply below_drew1) | exact HB.out)⟩

end Go.Proofs.Ytcamljlhdejmmaa.P
