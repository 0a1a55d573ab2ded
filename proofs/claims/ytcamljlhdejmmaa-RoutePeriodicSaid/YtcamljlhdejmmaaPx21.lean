-- Written by this session's own copy of a printing program (wip/tools); Lean checks it.
import Derived.Test.YtcamljlhdejmmaaPx0
import Derived.Test.YtcamljlhdejmmaaPx9
import Derived.Test.YtcamljlhdejmmaaPx11
import Derived.Test.YtcamljlhdejmmaaPx19
import Derived.Test.YtcamljlhdejmmaaPx20
namespace Go.Proofs.Ytcamljlhdejmmaa.P
open Go.RowKit Go.Proofs.YtcamljlhdejmmaaW.PrintWords Go.Proofs.YtcamljlhdejmmaaW.PrintLast Go.Proofs.YtcamljlhdejmmaaW.PrintMore
attribute [local go_sem] max2_int min2_int max_two min_two max_three min_three max_four min_four   -- for this text's walks alone
set_option linter.unusedVariables false
set_option linter.unusedSimpArgs false

/-! ### intervalmonref01_Short: function 25 -/
def intervalmonref01_Short.f (a0 : ByteArray) (a1 : Int) : Option (ByteArray) := if (a0.size : Int) > a1 then (if 0 ≤ a1 then (if a1 ≤ (a0.size : Int) then (some (a0.extract 0 (a1 : Int).toNat)) else (none)) else (none)) else (some a0)
set_option maxHeartbeats 8000000 in
set_option maxRecDepth 100000 in
theorem intervalmonref01_Short.calls (a0 : ByteArray) (a1 : Int) (r : ByteArray) (w : World) (h : intervalmonref01_Short.f a0 a1 = some r) :
  Calls Try.prog 25 #[.string a0, .int .i64 a1] w fun e w' => e = .returned (.string r) ∧ Drawn0 w w' := by
 have H : (if (a0.size : Int) > a1 then (if 0 ≤ a1 then (if a1 ≤ (a0.size : Int) then (some (a0.extract 0 (a1 : Int).toNat)) else (none)) else (none)) else (some a0)) = some r := h
 clear h
 by_cases c3 : (a0.size : Int) > a1
 ·rw [if_pos c3] at H
  have c3b0 : decide (a1 < (a0.size : Int)) = true := decide_eq_true c3
  clear c3
  by_cases c4 : 0 ≤ a1
  ·rw [if_pos c4] at H
   have c4b0 := eq_true c4
   have c4b1 : decide (0 ≤ a1) = true := decide_eq_true c4
   clear c4
   by_cases c5 : a1 ≤ (a0.size : Int)
   ·rw [if_pos c5] at H
    have c5b0 := eq_true c5
    have c5b1 : decide (a1 ≤ (a0.size : Int)) = true := decide_eq_true c5
    clear c5
    obtain rfl := Option.some.inj H
    go_enter Try.func25, Try.ntmps25
    go_wp2
    go_ret
    exact ⟨by first | rfl | (simp; done) | (simp [*]; done), by repeat (first | exact Drawn0.refl _ | apply Drawn0.step)⟩
   ·rw [if_neg c5] at H
    exact absurd H (by simp)
  ·rw [if_neg c4] at H
   exact absurd H (by simp)
 ·rw [if_neg c3] at H
  have c3b0 : decide (a1 < (a0.size : Int)) = false := decide_eq_false c3
  clear c3
  obtain rfl := Option.some.inj H
  go_enter Try.func25, Try.ntmps25
  go_wp2
  go_ret
  exact ⟨by first | rfl | (simp; done) | (simp [*]; done), by repeat (first | exact Drawn0.refl _ | apply Drawn0.step)⟩

/-! ### intervalmonlaw29_shifts: function 27 -/
def intervalmonlaw29_shifts.l0 : Nat → List (S50) → List (S60) → Int → Option ((List (S60)))
 | 0, _, _, _ => none
 | k + 1, x0, x3, x4 => if x4 < (x0.length : Int) then (if 0 ≤ x4 then (if x3.length < 4398046511104 then (intervalmonlaw29_shifts.l0 k x0 (x3 ++ [(⟨(rd_T50 x0 x4).f0, (rd_T50 x0 x4).f1, (rd_T50 x0 x4).f2⟩ : S60)]) (wrap64 (x4 + 1))) else (none)) else (none)) else (some x3)
def intervalmonlaw29_shifts.f (k : Nat) (l0 : List (S50)) : Option ((List (S60))) := intervalmonlaw29_shifts.l0 k l0 ([] : List (S60)) 0
theorem intervalmonlaw29_shifts.mono_l : ∀ k, (∀ y0 y1 y2, LeO (intervalmonlaw29_shifts.l0 k y0 y1 y2) (intervalmonlaw29_shifts.l0 (k + 1) y0 y1 y2))
 | 0 => fun _ _ _ r h => by simp [intervalmonlaw29_shifts.l0] at h
 | k + 1 => by
  have ih0 := intervalmonlaw29_shifts.mono_l k
  ·intro y0 y1 y2
   unfold intervalmonlaw29_shifts.l0
   repeat' first
   | (with_reducible exact ih0 _ _ _)
   | (with_reducible exact LeO.refl _)
   | (with_reducible exact LeO.none _)
   | (with_reducible refine LeO.ite ?_ ?_)
   | (with_reducible refine LeO.bind ?_ (fun _ => ?_))
   | exact ih0 _ _ _
   | exact LeO.none _
   | refine LeO.ite ?_ ?_
   | refine LeO.bind ?_ (fun _ => ?_)
theorem intervalmonlaw29_shifts.mono : ∀ a0 k, LeO (intervalmonlaw29_shifts.f k a0) (intervalmonlaw29_shifts.f (k + 1) a0) := by
 intro a0 k
 have ih0 := intervalmonlaw29_shifts.mono_l k
 unfold intervalmonlaw29_shifts.f
 repeat' first
   | (with_reducible exact ih0 _ _ _)
   | (with_reducible exact LeO.refl _)
   | (with_reducible exact LeO.none _)
   | (with_reducible refine LeO.ite ?_ ?_)
   | (with_reducible refine LeO.bind ?_ (fun _ => ?_))
   | exact ih0 _ _ _
   | exact LeO.none _
   | refine LeO.ite ?_ ?_
   | refine LeO.bind ?_ (fun _ => ?_)
def intervalmonlaw29_shifts.T5 : Bool × List (List Nat × List Nat) := (true, [([], []), ([], []), ([], []), ([1, 2], [1, 2]), ([3], [3]), ([4], [4]), ([], []), ([], []), ([6, 7], [6, 7]), ([8], [8]), ([9], [9]), ([], []), ([], []), ([11, 12], [11, 12]), ([13], [13]), ([14], [14]), ([5, 10, 15], [5, 10, 15]), ([16], [16]), ([0, 17], [0, 17]), ([18, 18, 0, 1, 2, 3, 4, 5, 6, 7, 8, 9, 10, 11, 12, 13, 14, 15, 16, 17, 18], [0, 18])])
def intervalmonlaw29_shifts.B5 : List Nat := [0, 0, 0, 6, 14, 30, 0, 0, 192, 448, 960, 0, 0, 6144, 14336, 30720, 65534, 131070, 262143, 524287]
theorem intervalmonlaw29_shifts.tab5 : rtab .any (opsOf Try.f27 5) = intervalmonlaw29_shifts.T5 := by kernel_rfl
theorem intervalmonlaw29_shifts.bits5 : waitsOk intervalmonlaw29_shifts.T5.2 intervalmonlaw29_shifts.B5 = true := by kernel_rfl
set_option maxHeartbeats 8000000 in
set_option maxRecDepth 100000 in
theorem intervalmonlaw29_shifts.calls (k : Nat) (A0 : Option Addr) (c0 : Nat) (l0 : List (S50)) (r : List (S60)) (w : World) (hr0 : Kd.C k50 w A0 l0.length l0) (hc0 : l0.length ≤ c0) (h : intervalmonlaw29_shifts.f k l0 = some r) :
  Calls Try.prog 27 #[.slice A0 l0.length c0] w fun e w' => ∃ v0_ : Value, e = .returned (v0_) ∧ Kd.R k60 60 w' w.heap.size (fun _ => True) v0_ r ∧ Below w.heap.size w w' := by
 have hu60 := Try.underlying60
 have HR0 := Aside0.mk hr0
 have HC0 := Aside0.mk hc0
 clear hr0 hc0
 have HB := Aside0.mk (Below.refl w.heap.size w)
 have H : (intervalmonlaw29_shifts.l0 k l0 ([] : List (S60)) 0) = some r := h
 clear h
 have H' := Aside0.mk H
 clear H
 go_enter Try.func27, Try.ntmps27
 go_wp2
 go_loopg [3, 4] k (fun kq v3 v4 w' => ∃ (x3_1 : List (S60)) (x4_1 : Int), v4 = .int .i64 x4_1 ∧ Aside0 (intervalmonlaw29_shifts.l0 kq l0 x3_1 x4_1 = some r) ∧ Aside0 (kq ≤ k) ∧ Aside0 (Kd.R k60 60 w' w.heap.size (fun _ => True) v3 x3_1) ∧ Aside0 (Below w.heap.size w w'))
 case atStart => exact ⟨(([] : List (S60))), (0), (by first | rfl | (simp; done) | (simp [*]; done)), H', ⟨Nat.le_refl _⟩, ⟨by first | exact Kd.R_nil _ _ _ _ _ | exact Kd.N_nil _ _ _ _ _ | exact Kd.V_nil _ _ _ _ _ | exact Kd.Q_nil _ _ _ _ _ | exact Kd.S_nil _ _ _ _ _⟩, ⟨by repeat (first | (with_reducible first | exact HB.out | apply below_alloc | apply pw_below_drewN | apply below_drew1) | exact HB.out)⟩⟩
 case round =>
  clear H'
  obtain ⟨x3_1, x4_1, rfl, HA, HK1, HO_3, HB⟩ := hrel
  cases gk with
  | zero => exact absurd HA.out (by simp [intervalmonlaw29_shifts.l0])
  | succ k1 =>
   have H := HA.out
   clear HA
   simp only [intervalmonlaw29_shifts.l0] at H
   by_cases c2 : x4_1 < (l0.length : Int)
   ·rw [if_pos c2] at H
    have c2b0 : decide (x4_1 < (l0.length : Int)) = true := decide_eq_true c2
    clear c2
    by_cases c3 : 0 ≤ x4_1
    ·rw [if_pos c3] at H
     have c3b0 : decide (0 ≤ x4_1) = true := decide_eq_true c3
     clear c3
     by_cases c4 : x3_1.length < 4398046511104
     ·rw [if_pos c4] at H
      have LMc4 := Aside0.mk c4
      clear c4
      obtain ⟨y476, hy476⟩ : ∃ y_ : List (S60), y_ = (x3_1 ++ [(⟨(rd_T50 l0 x4_1).f0, (rd_T50 l0 x4_1).f1, (rd_T50 l0 x4_1).f2⟩ : S60)]) := ⟨_, rfl⟩
      replace H : (intervalmonlaw29_shifts.l0 k1 l0 y476 (wrap64 (x4_1 + 1))) = some r := by first | (rw [hy476]; with_reducible exact H) | (have H2_ := (Option.bind_some _ _).symm.trans H; rw [hy476]; with_reducible exact H2_) | (have H2_ := (Option.bind_some _ _).symm.trans H; with_reducible exact H2_) | with_reducible exact H | (rw [hy476]; exact H) | exact H
      have Ny476 := Aside0.mk hy476
      clear hy476
      have H' := Aside0.mk H
      clear H
      try go_wp2
      have n0_ := Aside0.mk (Kd.R_drew HO_3.out)
      have n1_ := Aside0.mk (below_drew1 HB.out)
      clear HO_3
      clear HB
      have HO_3 := n0_
      have HB := n1_
      clear n0_ n1_
      have p473 : 0 ≤ (x4_1 : Int) := of_decide_eq_true (by first | (with_reducible assumption) | assumption)
      have q473 : x4_1 < (l0.length : Int) := of_decide_eq_true (by first | (with_reducible assumption) | assumption)
      obtain ⟨ad473, e473, hx473_0, hx473_1, hx473_2⟩ := at_T50 HR0.out x4_1 p473 q473
      have hw473_2 := hx473_2
      have hw473_1 := hx473_1
      have hw473_0 := hx473_0
      cases e473
      (try replace hx473_0 := (HB.out.cell (World.block_lt_of_cell? w _ hx473_0)).trans hx473_0)
      (try replace hx473_1 := (HB.out.cell (World.block_lt_of_cell? w _ hx473_1)).trans hx473_1)
      (try replace hx473_2 := (HB.out.cell (World.block_lt_of_cell? w _ hx473_2)).trans hx473_2)
      replace p473 := eq_true p473
      replace q473 := eq_true q473
      have p474 : 0 ≤ (x4_1 : Int) := of_decide_eq_true (by first | (with_reducible assumption) | assumption)
      have q474 : x4_1 < (l0.length : Int) := of_decide_eq_true (by first | (with_reducible assumption) | assumption)
      obtain ⟨ad474, e474, hx474_0, hx474_1, hx474_2⟩ := at_T50 HR0.out x4_1 p474 q474
      have hw474_2 := hx474_2
      have hw474_1 := hx474_1
      have hw474_0 := hx474_0
      obtain rfl : ad473 = ad474 := (by injection e474)
      (try replace hx474_0 := (HB.out.cell (World.block_lt_of_cell? w _ hx474_0)).trans hx474_0)
      (try replace hx474_1 := (HB.out.cell (World.block_lt_of_cell? w _ hx474_1)).trans hx474_1)
      (try replace hx474_2 := (HB.out.cell (World.block_lt_of_cell? w _ hx474_2)).trans hx474_2)
      replace p474 := eq_true p474
      replace q474 := eq_true q474
      have p475 : 0 ≤ (x4_1 : Int) := of_decide_eq_true (by first | (with_reducible assumption) | assumption)
      have q475 : x4_1 < (l0.length : Int) := of_decide_eq_true (by first | (with_reducible assumption) | assumption)
      obtain ⟨ad475, e475, hx475_0, hx475_1, hx475_2⟩ := at_T50 HR0.out x4_1 p475 q475
      have hw475_2 := hx475_2
      have hw475_1 := hx475_1
      have hw475_0 := hx475_0
      obtain rfl : ad473 = ad475 := (by injection e475)
      (try replace hx475_0 := (HB.out.cell (World.block_lt_of_cell? w _ hx475_0)).trans hx475_0)
      (try replace hx475_1 := (HB.out.cell (World.block_lt_of_cell? w _ hx475_1)).trans hx475_1)
      (try replace hx475_2 := (HB.out.cell (World.block_lt_of_cell? w _ hx475_2)).trans hx475_2)
      replace p475 := eq_true p475
      replace q475 := eq_true q475
      refine start_ (n := 20) (S := fun w' => w'.cell? (ad473.add ((x4_1).toNat * 3)) = some (.string ((rd_T50 l0 x4_1).f0)) ∧ w'.cell? ⟨(ad473.add ((x4_1).toNat * 3)).block, (ad473.add ((x4_1).toNat * 3)).off + 1, none⟩ = some (.int .i64 ((rd_T50 l0 x4_1).f1)) ∧ w'.cell? ⟨(ad473.add ((x4_1).toNat * 3)).block, (ad473.add ((x4_1).toNat * 3)).off + 2, none⟩ = some (.int .i64 ((rd_T50 l0 x4_1).f2)) ∧ w'.cell? (ad473.add ((x4_1).toNat * 3)) = some (.string ((rd_T50 l0 x4_1).f0)) ∧ w'.cell? ⟨(ad473.add ((x4_1).toNat * 3)).block, (ad473.add ((x4_1).toNat * 3)).off + 1, none⟩ = some (.int .i64 ((rd_T50 l0 x4_1).f1)) ∧ w'.cell? ⟨(ad473.add ((x4_1).toNat * 3)).block, (ad473.add ((x4_1).toNat * 3)).off + 2, none⟩ = some (.int .i64 ((rd_T50 l0 x4_1).f2)) ∧ w'.cell? (ad473.add ((x4_1).toNat * 3)) = some (.string ((rd_T50 l0 x4_1).f0)) ∧ w'.cell? ⟨(ad473.add ((x4_1).toNat * 3)).block, (ad473.add ((x4_1).toNat * 3)).off + 1, none⟩ = some (.int .i64 ((rd_T50 l0 x4_1).f1)) ∧ w'.cell? ⟨(ad473.add ((x4_1).toNat * 3)).block, (ad473.add ((x4_1).toNat * 3)).off + 2, none⟩ = some (.int .i64 ((rd_T50 l0 x4_1).f2))) (ds := []) #[false, false, false, false, false, false, false, false, false, false, false, false, false, false, false, false, false, false, false, false] (by kernel_rfl) rfl rfl ⟨((HB.out.cell (World.block_lt_of_cell? w _ hw473_0)).trans hw473_0), ((HB.out.cell (World.block_lt_of_cell? w _ hw473_1)).trans hw473_1), ((HB.out.cell (World.block_lt_of_cell? w _ hw473_2)).trans hw473_2), ((HB.out.cell (World.block_lt_of_cell? w _ hw474_0)).trans hw474_0), ((HB.out.cell (World.block_lt_of_cell? w _ hw474_1)).trans hw474_1), ((HB.out.cell (World.block_lt_of_cell? w _ hw474_2)).trans hw474_2), ((HB.out.cell (World.block_lt_of_cell? w _ hw475_0)).trans hw475_0), ((HB.out.cell (World.block_lt_of_cell? w _ hw475_1)).trans hw475_1), ((HB.out.cell (World.block_lt_of_cell? w _ hw475_2)).trans hw475_2)⟩ (fun hHeld => ?_); refine with_tabW intervalmonlaw29_shifts.tab5 intervalmonlaw29_shifts.bits5 (fun HT_ HW_ => ?_)
      generalize wr.drew = w5 at HO_3 HB hx473_0 hx473_1 hx473_2 hx474_0 hx474_1 hx474_2 hx475_0 hx475_1 hx475_2 hHeld ⊢
      refine pure_ (i := 0) (N := some 11) (v := ?_) (a' := ?_) #[true, false, false, false, false, false, false, false, false, false, false, false, false, false, false, false, false, false, false, false] rfl rfl (any_of HT_.out (by kernel_rfl)) (fun _ _ _ h => h) (Or.inl ⟨by rfl, ?_⟩) ?_ ?_
      rotate_left
      ·intro w'
       go_simp
       with_reducible rfl
      rotate_left
      ·simp only [Act.put, List.setIfInBounds_toArray, List.set_cons_zero, List.set_cons_succ, i64_w, i32_w]
       rfl
      refine pure_ (i := 1) (N := some 12) (v := ?_) (a' := ?_) #[true, true, false, false, false, false, false, false, false, false, false, false, false, false, false, false, false, false, false, false] rfl rfl (any_of HT_.out (by kernel_rfl)) (fun _ _ _ h => h) (Or.inl ⟨by rfl, ?_⟩) ?_ ?_
      rotate_left
      ·intro w'
       go_simp
       with_reducible rfl
      rotate_left
      ·simp only [Act.put, List.setIfInBounds_toArray, List.set_cons_zero, List.set_cons_succ, i64_w, i32_w]
       rfl
      refine pure_ (i := 2) (N := some 13) (v := ?_) (a' := ?_) #[true, true, true, false, false, false, false, false, false, false, false, false, false, false, false, false, false, false, false, false] rfl rfl (any_of HT_.out (by kernel_rfl)) (fun _ _ _ h => h) (Or.inl ⟨by rfl, ?_⟩) ?_ ?_
      rotate_left
      ·intro w'
       go_simp
       with_reducible rfl
      rotate_left
      ·simp only [Act.put, List.setIfInBounds_toArray, List.set_cons_zero, List.set_cons_succ, i64_w, i32_w]
       rfl
      refine pure_ (i := 3) (N := some 14) (v := ?_) (a' := ?_) #[true, true, true, true, false, false, false, false, false, false, false, false, false, false, false, false, false, false, false, false] rfl rfl (any_of HT_.out (by kernel_rfl)) (fun _ _ _ h => h) (Or.inl ⟨by rfl, ?_⟩) ?_ ?_
      rotate_left
      ·intro w'
       go_simp
       with_reducible rfl
      rotate_left
      ·simp only [Act.put, List.setIfInBounds_toArray, List.set_cons_zero, List.set_cons_succ, i64_w, i32_w]
       rfl
      refine pure_ (i := 4) (N := some 15) (v := ?_) (a' := ?_) #[true, true, true, true, true, false, false, false, false, false, false, false, false, false, false, false, false, false, false, false] rfl rfl (any_of HT_.out (by kernel_rfl)) (fun _ _ _ h => h) (Or.inl ⟨by rfl, ?_⟩) ?_ ?_
      rotate_left
      ·intro w'
       go_simp
       with_reducible rfl
      rotate_left
      ·simp only [Act.put, List.setIfInBounds_toArray, List.set_cons_zero, List.set_cons_succ, i64_w, i32_w]
       rfl
      refine pure_ (i := 6) (N := some 17) (v := ?_) (a' := ?_) #[true, true, true, true, true, false, true, false, false, false, false, false, false, false, false, false, false, false, false, false] rfl rfl (any_of HT_.out (by kernel_rfl)) (fun _ _ _ h => h) (Or.inl ⟨by rfl, ?_⟩) ?_ ?_
      rotate_left
      ·intro w'
       go_simp
       with_reducible rfl
      rotate_left
      ·simp only [Act.put, List.setIfInBounds_toArray, List.set_cons_zero, List.set_cons_succ, i64_w, i32_w]
       rfl
      refine pure_ (i := 7) (N := some 18) (v := ?_) (a' := ?_) #[true, true, true, true, true, false, true, true, false, false, false, false, false, false, false, false, false, false, false, false] rfl rfl (any_of HT_.out (by kernel_rfl)) (fun _ _ _ h => h) (Or.inl ⟨by rfl, ?_⟩) ?_ ?_
      rotate_left
      ·intro w'
       go_simp
       with_reducible rfl
      rotate_left
      ·simp only [Act.put, List.setIfInBounds_toArray, List.set_cons_zero, List.set_cons_succ, i64_w, i32_w]
       rfl
      refine pure_ (i := 8) (N := some 19) (v := ?_) (a' := ?_) #[true, true, true, true, true, false, true, true, true, false, false, false, false, false, false, false, false, false, false, false] rfl rfl (any_of HT_.out (by kernel_rfl)) (fun _ _ _ h => h) (Or.inl ⟨by rfl, ?_⟩) ?_ ?_
      rotate_left
      ·intro w'
       go_simp
       with_reducible rfl
      rotate_left
      ·simp only [Act.put, List.setIfInBounds_toArray, List.set_cons_zero, List.set_cons_succ, i64_w, i32_w]
       rfl
      refine pure_ (i := 9) (N := some 20) (v := ?_) (a' := ?_) #[true, true, true, true, true, false, true, true, true, true, false, false, false, false, false, false, false, false, false, false] rfl rfl (any_of HT_.out (by kernel_rfl)) (fun _ _ _ h => h) (Or.inl ⟨by rfl, ?_⟩) ?_ ?_
      rotate_left
      ·intro w'
       go_simp
       with_reducible rfl
      rotate_left
      ·simp only [Act.put, List.setIfInBounds_toArray, List.set_cons_zero, List.set_cons_succ, i64_w, i32_w]
       rfl
      refine pure_ (i := 11) (N := some 22) (v := ?_) (a' := ?_) #[true, true, true, true, true, false, true, true, true, true, false, true, false, false, false, false, false, false, false, false] rfl rfl (any_of HT_.out (by kernel_rfl)) (fun _ _ _ h => h) (Or.inl ⟨by rfl, ?_⟩) ?_ ?_
      rotate_left
      ·intro w'
       go_simp
       with_reducible rfl
      rotate_left
      ·simp only [Act.put, List.setIfInBounds_toArray, List.set_cons_zero, List.set_cons_succ, i64_w, i32_w]
       rfl
      refine pure_ (i := 12) (N := some 23) (v := ?_) (a' := ?_) #[true, true, true, true, true, false, true, true, true, true, false, true, true, false, false, false, false, false, false, false] rfl rfl (any_of HT_.out (by kernel_rfl)) (fun _ _ _ h => h) (Or.inl ⟨by rfl, ?_⟩) ?_ ?_
      rotate_left
      ·intro w'
       go_simp
       with_reducible rfl
      rotate_left
      ·simp only [Act.put, List.setIfInBounds_toArray, List.set_cons_zero, List.set_cons_succ, i64_w, i32_w]
       rfl
      refine pure_ (i := 13) (N := some 24) (v := ?_) (a' := ?_) #[true, true, true, true, true, false, true, true, true, true, false, true, true, true, false, false, false, false, false, false] rfl rfl (any_of HT_.out (by kernel_rfl)) (fun _ _ _ h => h) (Or.inl ⟨by rfl, ?_⟩) ?_ ?_
      rotate_left
      ·intro w'
       go_simp
       with_reducible rfl
      rotate_left
      ·simp only [Act.put, List.setIfInBounds_toArray, List.set_cons_zero, List.set_cons_succ, i64_w, i32_w]
       rfl
      refine pure_ (i := 14) (N := some 25) (v := ?_) (a' := ?_) #[true, true, true, true, true, false, true, true, true, true, false, true, true, true, true, false, false, false, false, false] rfl rfl (any_of HT_.out (by kernel_rfl)) (fun _ _ _ h => h) (Or.inl ⟨by rfl, ?_⟩) ?_ ?_
      rotate_left
      ·intro w'
       go_simp
       with_reducible rfl
      rotate_left
      ·simp only [Act.put, List.setIfInBounds_toArray, List.set_cons_zero, List.set_cons_succ, i64_w, i32_w]
       rfl
      refine take_ (i := 5) (N := some 16) (v := ?_) (a' := ?_) #[true, true, true, true, true, true, true, true, true, true, false, true, true, true, true, false, false, false, false, false] rfl rfl (take_ofW HT_.out HW_.out (by kernel_rfl)) (fun _ _ _ h => h) (Or.inl ⟨by rfl, ?_⟩) hHeld ?_ ?_
      rotate_left
      ·rintro w' ⟨s0, s1, s2, s3, s4, s5, s6, s7, s8⟩
       go_simp
       with_reducible rfl
      rotate_left
      ·simp only [Act.put, List.setIfInBounds_toArray, List.set_cons_zero, List.set_cons_succ, i64_w, i32_w]
       rfl
      refine take_ (i := 10) (N := some 21) (v := ?_) (a' := ?_) #[true, true, true, true, true, true, true, true, true, true, true, true, true, true, true, false, false, false, false, false] rfl rfl (take_ofW HT_.out HW_.out (by kernel_rfl)) (fun _ _ _ h => h) (Or.inl ⟨by rfl, ?_⟩) hHeld ?_ ?_
      rotate_left
      ·rintro w' ⟨s0, s1, s2, s3, s4, s5, s6, s7, s8⟩
       go_simp
       with_reducible rfl
      rotate_left
      ·simp only [Act.put, List.setIfInBounds_toArray, List.set_cons_zero, List.set_cons_succ, i64_w, i32_w]
       rfl
      refine take_ (i := 15) (N := some 26) (v := ?_) (a' := ?_) #[true, true, true, true, true, true, true, true, true, true, true, true, true, true, true, true, false, false, false, false] rfl rfl (take_ofW HT_.out HW_.out (by kernel_rfl)) (fun _ _ _ h => h) (Or.inl ⟨by rfl, ?_⟩) hHeld ?_ ?_
      rotate_left
      ·rintro w' ⟨s0, s1, s2, s3, s4, s5, s6, s7, s8⟩
       go_simp
       with_reducible rfl
      rotate_left
      ·simp only [Act.put, List.setIfInBounds_toArray, List.set_cons_zero, List.set_cons_succ, i64_w, i32_w]
       rfl
      refine pure_ (i := 16) (N := some 27) (v := ?_) (a' := ?_) #[true, true, true, true, true, true, true, true, true, true, true, true, true, true, true, true, true, false, false, false] rfl rfl (any_of HT_.out (by kernel_rfl)) (fun _ _ _ h => h) (Or.inl ⟨by rfl, ?_⟩) ?_ ?_
      rotate_left
      ·intro w'
       go_simp
       with_reducible rfl
      rotate_left
      ·simp only [Act.put, List.setIfInBounds_toArray, List.set_cons_zero, List.set_cons_succ, i64_w, i32_w]
       rfl
      refine one_ (i := 17) (N := some 28) #[true, true, true, true, true, true, true, true, true, true, true, true, true, true, true, true, true, true, false, false] rfl rfl (one_of HT_.out (by kernel_rfl)) (by decide) (fun K hK => ?_)
      refine value_ (w1 := ?_) (v := ?_) (by rfl) rfl ?_ ?_
      rotate_left 2
      ·go_simp
       constructor
       ·rfl
       ·rfl
      refine hK.out _ _ ⟨(World.cell?_alloc_lt _ _ _ (World.block_lt_of_cell? _ _ (((HB.out.cell (World.block_lt_of_cell? w _ hw473_0)).trans hw473_0)))).trans (((HB.out.cell (World.block_lt_of_cell? w _ hw473_0)).trans hw473_0)), (World.cell?_alloc_lt _ _ _ (World.block_lt_of_cell? _ _ (((HB.out.cell (World.block_lt_of_cell? w _ hw473_1)).trans hw473_1)))).trans (((HB.out.cell (World.block_lt_of_cell? w _ hw473_1)).trans hw473_1)), (World.cell?_alloc_lt _ _ _ (World.block_lt_of_cell? _ _ (((HB.out.cell (World.block_lt_of_cell? w _ hw473_2)).trans hw473_2)))).trans (((HB.out.cell (World.block_lt_of_cell? w _ hw473_2)).trans hw473_2)), (World.cell?_alloc_lt _ _ _ (World.block_lt_of_cell? _ _ (((HB.out.cell (World.block_lt_of_cell? w _ hw474_0)).trans hw474_0)))).trans (((HB.out.cell (World.block_lt_of_cell? w _ hw474_0)).trans hw474_0)), (World.cell?_alloc_lt _ _ _ (World.block_lt_of_cell? _ _ (((HB.out.cell (World.block_lt_of_cell? w _ hw474_1)).trans hw474_1)))).trans (((HB.out.cell (World.block_lt_of_cell? w _ hw474_1)).trans hw474_1)), (World.cell?_alloc_lt _ _ _ (World.block_lt_of_cell? _ _ (((HB.out.cell (World.block_lt_of_cell? w _ hw474_2)).trans hw474_2)))).trans (((HB.out.cell (World.block_lt_of_cell? w _ hw474_2)).trans hw474_2)), (World.cell?_alloc_lt _ _ _ (World.block_lt_of_cell? _ _ (((HB.out.cell (World.block_lt_of_cell? w _ hw475_0)).trans hw475_0)))).trans (((HB.out.cell (World.block_lt_of_cell? w _ hw475_0)).trans hw475_0)), (World.cell?_alloc_lt _ _ _ (World.block_lt_of_cell? _ _ (((HB.out.cell (World.block_lt_of_cell? w _ hw475_1)).trans hw475_1)))).trans (((HB.out.cell (World.block_lt_of_cell? w _ hw475_1)).trans hw475_1)), (World.cell?_alloc_lt _ _ _ (World.block_lt_of_cell? _ _ (((HB.out.cell (World.block_lt_of_cell? w _ hw475_2)).trans hw475_2)))).trans (((HB.out.cell (World.block_lt_of_cell? w _ hw475_2)).trans hw475_2))⟩ (fun hHeld => ?_)
      clear hK K
      refine norm_ (a' := ?_) ?_ ?_
      rotate_left
      ·show Act.put _ (some 28) _ = _
       simp only [Act.put, List.setIfInBounds_toArray, List.set_cons_zero, List.set_cons_succ, i64_w, i32_w]
       rfl
      refine one_ (i := 18) (N := some 29) #[true, true, true, true, true, true, true, true, true, true, true, true, true, true, true, true, true, true, true, false] rfl rfl (one_of HT_.out (by kernel_rfl)) (by decide) (fun K hK => ?_)
      refine Kd.R_append_step k60 (w0 := w) w.heap.size (by rfl) (.tmp 11) (.tmp 28) 52 60 (.agg #[(.string ⟨#[]⟩), (.int .i64 0), (.int .i64 0)]) 32 rfl Try.underlying52 info60 rfl (by decide) (by omega) u3 x3_1 (⟨(rd_T50 l0 x4_1).f0, (rd_T50 l0 x4_1).f1, (rd_T50 l0 x4_1).f2⟩ : S60) [.string ((rd_T50 l0 x4_1).f0), .int .i64 ((rd_T50 l0 x4_1).f1), .int .i64 ((rd_T50 l0 x4_1).f2)] (fun _ => True) (fun _ => False) rfl rfl ?aP (fun _ hk => hk.elim) ?aF ?aO ?aB ?aS ?aL ?_
      (case aP => exact k60_mkM _ _ _ (⟨(rd_T50 l0 x4_1).f0, (rd_T50 l0 x4_1).f1, (rd_T50 l0 x4_1).f2⟩ : S60))
      (case aB => exact (hq HB))
      (case aF => exact (fun _ _ => trivial))
      (case aO => exact (rq HO_3))
      (case aS => exact (below_size (hq HB)))
      (case aL => have := LMc4.out; omega)
      intro v477 w6 ho hb hg hat
      rw [← Ny476.out] at ho
      have n0_ := Aside0.mk (hb)
      have n1_ := Aside0.mk (ho)
      clear HB
      clear HO_3
      have HB := n0_
      have HO478 := n1_
      clear n0_ n1_
      clear ho hb hg hat
      refine hK.out _ _ ⟨((HB.out.cell (World.block_lt_of_cell? w _ hw473_0)).trans hw473_0), ((HB.out.cell (World.block_lt_of_cell? w _ hw473_1)).trans hw473_1), ((HB.out.cell (World.block_lt_of_cell? w _ hw473_2)).trans hw473_2), ((HB.out.cell (World.block_lt_of_cell? w _ hw474_0)).trans hw474_0), ((HB.out.cell (World.block_lt_of_cell? w _ hw474_1)).trans hw474_1), ((HB.out.cell (World.block_lt_of_cell? w _ hw474_2)).trans hw474_2), ((HB.out.cell (World.block_lt_of_cell? w _ hw475_0)).trans hw475_0), ((HB.out.cell (World.block_lt_of_cell? w _ hw475_1)).trans hw475_1), ((HB.out.cell (World.block_lt_of_cell? w _ hw475_2)).trans hw475_2)⟩ (fun hHeld => ?_)
      clear hK K
      refine norm_ (a' := ?_) ?_ ?_
      rotate_left
      ·show Act.put _ (some 29) _ = _
       simp only [Act.put, List.setIfInBounds_toArray, List.set_cons_zero, List.set_cons_succ, i64_w, i32_w]
       rfl
      refine pure_ (i := 19) (N := some 3) (v := ?_) (a' := ?_) #[true, true, true, true, true, true, true, true, true, true, true, true, true, true, true, true, true, true, true, true] rfl rfl (any_of HT_.out (by kernel_rfl)) (fun _ _ _ h => h) (Or.inl ⟨by rfl, ?_⟩) ?_ ?_
      rotate_left
      ·intro w'
       go_simp
       with_reducible rfl
      rotate_left
      ·simp only [Act.put, List.setIfInBounds_toArray, List.set_cons_zero, List.set_cons_succ, i64_w, i32_w]
       rfl
      refine done_ (done_of HT_.out (by kernel_rfl)) ?_
      try go_wp2
      go_roundg k1
      case measure => have := HK1.out; omega
      case rel => exact ⟨(y476), (wrap64 (x4_1 + 1)), (by first | rfl | (simp; done) | (simp [*]; done)), H', ⟨by have := HK1.out; omega⟩, ⟨by (with_reducible repeat (first | apply Kd.R_alloc | apply Kd.R_drewN | apply Kd.R_drew)); exact HO478.out⟩, ⟨by repeat (first | (with_reducible first | exact HB.out | apply below_alloc | apply pw_below_drewN | apply below_drew1) | exact HB.out)⟩⟩
     ·rw [if_neg c4] at H
      exact absurd H (by simp)
    ·rw [if_neg c3] at H
     exact absurd H (by simp)
   ·rw [if_neg c2] at H
    have c2b0 : decide (x4_1 < (l0.length : Int)) = false := decide_eq_false c2
    clear c2
    obtain rfl := Option.some.inj H
    go_wp2
    go_ret
    exact ⟨_, by first | rfl | (simp [errW_none, errW_some] <;> rfl) | (simp [*, errW_none, errW_some] <;> rfl), by (with_reducible repeat (first | apply Kd.R_alloc | apply Kd.R_drewN | apply Kd.R_drew)); exact HO_3.out, by repeat (first | (with_reducible first | exact HB.out | apply below_alloc | apply pw_below_drewN | apply below_drew1) | exact HB.out)⟩

/-! ### intervalmonlaw29_RouteRota: function 7 -/
def intervalmonlaw29_RouteRota.j0 : Nat → Int → List (S50) → Bool → Option (Bool)
 | 0, _, _, _ => none
 | k + 1, x1, x14, x49 => if x49 = true then (some false) else ((intervalmonlaw29_shifts.f k x14).bind fun t501 => ((route_ValidRota.f k x1 t501).bind fun t504 => ((intervalmonref29_ValidRota.f k x1 x14).bind fun t505 => (if t504 = t505 then ((intervalmonlaw29_lives.f k).bind fun t506 => (some t506)) else (some false)))))
def intervalmonlaw29_RouteRota.f (k : Nat) (l0 : List Int) (a1 : Int) (a2 : ByteArray) (a3 : Int) (a4 : Int) : Option (Bool) := (intervalmonref29_Rota.f k l0 true).bind fun bt479 => ((intervalmonref01_Short.f a2 20).bind fun t483 => ((some (([(⟨t483, a3, a4⟩ : S50)] : List (S50)) : List (S50))).bind fun y484 => (if 0 < (y484.length : Int) then ((some (([(⟨(⟨#[97, 110, 110]⟩ : ByteArray), 0, a1⟩ : S50), (⟨(rd_T50 y484 0).f0, (rd_T50 y484 0).f1, (rd_T50 y484 0).f2⟩ : S50)] : List (S50)) : List (S50))).bind fun y488 => ((intervalmonlaw29_shifts.f k bt479.2).bind fun t491 => ((route_ValidRota.f k bt479.1 t491).bind fun t494 => ((intervalmonref29_ValidRota.f k bt479.1 bt479.2).bind fun t495 => (if t494 = t495 then ((intervalmonlaw29_shifts.f k y484).bind fun t496 => ((route_ValidRota.f k a1 t496).bind fun t499 => ((intervalmonref29_ValidRota.f k a1 y484).bind fun t500 => (intervalmonlaw29_RouteRota.j0 k a1 y488 (t499 != t500))))) else (intervalmonlaw29_RouteRota.j0 k a1 y488 true)))))) else (none))))
theorem intervalmonlaw29_RouteRota.mono_l : ∀ k, (∀ y0 y1 y2, LeO (intervalmonlaw29_RouteRota.j0 k y0 y1 y2) (intervalmonlaw29_RouteRota.j0 (k + 1) y0 y1 y2))
 | 0 => fun _ _ _ r h => by simp [intervalmonlaw29_RouteRota.j0] at h
 | k + 1 => by
  have ih0 := intervalmonlaw29_RouteRota.mono_l k
  ·intro y0 y1 y2
   unfold intervalmonlaw29_RouteRota.j0
   repeat' first
   | (with_reducible exact ih0 _ _ _)
   | (with_reducible exact intervalmonlaw29_lives.mono _)
   | (with_reducible exact intervalmonlaw29_shifts.mono _ _)
   | (with_reducible exact intervalmonref29_Rota.mono _ _ _)
   | (with_reducible exact intervalmonref29_ValidRota.mono _ _ _)
   | (with_reducible exact route_ValidRota.mono _ _ _)
   | (with_reducible exact LeO.refl _)
   | (with_reducible exact LeO.none _)
   | (with_reducible refine LeO.ite ?_ ?_)
   | (with_reducible refine LeO.bind ?_ (fun _ => ?_))
   | exact ih0 _ _ _
   | exact intervalmonlaw29_lives.mono _
   | exact intervalmonlaw29_shifts.mono _ _
   | exact intervalmonref29_Rota.mono _ _ _
   | exact intervalmonref29_ValidRota.mono _ _ _
   | exact route_ValidRota.mono _ _ _
   | exact LeO.none _
   | refine LeO.ite ?_ ?_
   | refine LeO.bind ?_ (fun _ => ?_)
theorem intervalmonlaw29_RouteRota.mono : ∀ a0 a1 a2 a3 a4 k, LeO (intervalmonlaw29_RouteRota.f k a0 a1 a2 a3 a4) (intervalmonlaw29_RouteRota.f (k + 1) a0 a1 a2 a3 a4) := by
 intro a0 a1 a2 a3 a4 k
 have ih0 := intervalmonlaw29_RouteRota.mono_l k
 unfold intervalmonlaw29_RouteRota.f
 repeat' first
   | (with_reducible exact ih0 _ _ _)
   | (with_reducible exact intervalmonlaw29_lives.mono _)
   | (with_reducible exact intervalmonlaw29_shifts.mono _ _)
   | (with_reducible exact intervalmonref29_Rota.mono _ _ _)
   | (with_reducible exact intervalmonref29_ValidRota.mono _ _ _)
   | (with_reducible exact route_ValidRota.mono _ _ _)
   | (with_reducible exact LeO.refl _)
   | (with_reducible exact LeO.none _)
   | (with_reducible refine LeO.ite ?_ ?_)
   | (with_reducible refine LeO.bind ?_ (fun _ => ?_))
   | exact ih0 _ _ _
   | exact intervalmonlaw29_lives.mono _
   | exact intervalmonlaw29_shifts.mono _ _
   | exact intervalmonref29_Rota.mono _ _ _
   | exact intervalmonref29_ValidRota.mono _ _ _
   | exact route_ValidRota.mono _ _ _
   | exact LeO.none _
   | refine LeO.ite ?_ ?_
   | refine LeO.bind ?_ (fun _ => ?_)
set_option maxHeartbeats 8000000 in
set_option maxRecDepth 100000 in
theorem intervalmonlaw29_RouteRota.calls (k : Nat) (A0 : Option Addr) (c0 : Nat) (l0 : List Int) (a1 : Int) (a2 : ByteArray) (a3 : Int) (a4 : Int) (r : Bool) (w : World) (hr0 : Kd.C (Kd.int .i64) w A0 l0.length l0) (hc0 : l0.length ≤ c0) (h : intervalmonlaw29_RouteRota.f k l0 a1 a2 a3 a4 = some r) :
  Calls Try.prog 7 #[.slice A0 l0.length c0, .int .i64 a1, .string a2, .int .i64 a3, .int .i64 a4] w fun e w' => e = .returned (.bool r) ∧ Below w.heap.size w w' := by
 have hu50 := Try.underlying50
 have HR0 := Aside0.mk hr0
 have HC0 := Aside0.mk hc0
 clear hr0 hc0
 have HB := Aside0.mk (Below.refl w.heap.size w)
 have H : ((intervalmonref29_Rota.f k l0 true).bind fun bt479 => ((intervalmonref01_Short.f a2 20).bind fun t483 => ((some (([(⟨t483, a3, a4⟩ : S50)] : List (S50)) : List (S50))).bind fun y484 => (if 0 < (y484.length : Int) then ((some (([(⟨(⟨#[97, 110, 110]⟩ : ByteArray), 0, a1⟩ : S50), (⟨(rd_T50 y484 0).f0, (rd_T50 y484 0).f1, (rd_T50 y484 0).f2⟩ : S50)] : List (S50)) : List (S50))).bind fun y488 => ((intervalmonlaw29_shifts.f k bt479.2).bind fun t491 => ((route_ValidRota.f k bt479.1 t491).bind fun t494 => ((intervalmonref29_ValidRota.f k bt479.1 bt479.2).bind fun t495 => (if t494 = t495 then ((intervalmonlaw29_shifts.f k y484).bind fun t496 => ((route_ValidRota.f k a1 t496).bind fun t499 => ((intervalmonref29_ValidRota.f k a1 y484).bind fun t500 => (intervalmonlaw29_RouteRota.j0 k a1 y488 (t499 != t500))))) else (intervalmonlaw29_RouteRota.j0 k a1 y488 true)))))) else (none))))) = some r := h
 clear h
 replace H := Option.bind_eq_some_iff.mp H
 obtain ⟨⟨t479, t480⟩, A60, H⟩ := H
 replace H : ((intervalmonref01_Short.f a2 20).bind fun t483 => ((some (([(⟨t483, a3, a4⟩ : S50)] : List (S50)) : List (S50))).bind fun y484 => (if 0 < (y484.length : Int) then ((some (([(⟨(⟨#[97, 110, 110]⟩ : ByteArray), 0, a1⟩ : S50), (⟨(rd_T50 y484 0).f0, (rd_T50 y484 0).f1, (rd_T50 y484 0).f2⟩ : S50)] : List (S50)) : List (S50))).bind fun y488 => ((intervalmonlaw29_shifts.f k t480).bind fun t491 => ((route_ValidRota.f k t479 t491).bind fun t494 => ((intervalmonref29_ValidRota.f k t479 t480).bind fun t495 => (if t494 = t495 then ((intervalmonlaw29_shifts.f k y484).bind fun t496 => ((route_ValidRota.f k a1 t496).bind fun t499 => ((intervalmonref29_ValidRota.f k a1 y484).bind fun t500 => (intervalmonlaw29_RouteRota.j0 k a1 y488 (t499 != t500))))) else (intervalmonlaw29_RouteRota.j0 k a1 y488 true)))))) else (none)))) = some r := H
 have A6 := Aside0.mk A60
 clear A60
 replace H := Option.bind_eq_some_iff.mp H
 obtain ⟨t483, A70, H⟩ := H
 replace H : ((some (([(⟨t483, a3, a4⟩ : S50)] : List (S50)) : List (S50))).bind fun y484 => (if 0 < (y484.length : Int) then ((some (([(⟨(⟨#[97, 110, 110]⟩ : ByteArray), 0, a1⟩ : S50), (⟨(rd_T50 y484 0).f0, (rd_T50 y484 0).f1, (rd_T50 y484 0).f2⟩ : S50)] : List (S50)) : List (S50))).bind fun y488 => ((intervalmonlaw29_shifts.f k t480).bind fun t491 => ((route_ValidRota.f k t479 t491).bind fun t494 => ((intervalmonref29_ValidRota.f k t479 t480).bind fun t495 => (if t494 = t495 then ((intervalmonlaw29_shifts.f k y484).bind fun t496 => ((route_ValidRota.f k a1 t496).bind fun t499 => ((intervalmonref29_ValidRota.f k a1 y484).bind fun t500 => (intervalmonlaw29_RouteRota.j0 k a1 y488 (t499 != t500))))) else (intervalmonlaw29_RouteRota.j0 k a1 y488 true)))))) else (none))) = some r := H
 have A7 := Aside0.mk A70
 clear A70
 obtain ⟨y484, hy484⟩ : ∃ y_ : List (S50), y_ = (([(⟨t483, a3, a4⟩ : S50)] : List (S50))) := ⟨_, rfl⟩
 replace H : (if 0 < (y484.length : Int) then ((some (([(⟨(⟨#[97, 110, 110]⟩ : ByteArray), 0, a1⟩ : S50), (⟨(rd_T50 y484 0).f0, (rd_T50 y484 0).f1, (rd_T50 y484 0).f2⟩ : S50)] : List (S50)) : List (S50))).bind fun y488 => ((intervalmonlaw29_shifts.f k t480).bind fun t491 => ((route_ValidRota.f k t479 t491).bind fun t494 => ((intervalmonref29_ValidRota.f k t479 t480).bind fun t495 => (if t494 = t495 then ((intervalmonlaw29_shifts.f k y484).bind fun t496 => ((route_ValidRota.f k a1 t496).bind fun t499 => ((intervalmonref29_ValidRota.f k a1 y484).bind fun t500 => (intervalmonlaw29_RouteRota.j0 k a1 y488 (t499 != t500))))) else (intervalmonlaw29_RouteRota.j0 k a1 y488 true)))))) else (none)) = some r := by first | (rw [hy484]; with_reducible exact H) | (have H2_ := (Option.bind_some _ _).symm.trans H; rw [hy484]; with_reducible exact H2_) | (have H2_ := (Option.bind_some _ _).symm.trans H; with_reducible exact H2_) | with_reducible exact H | (rw [hy484]; exact H) | exact H
 have Ny484 := Aside0.mk hy484
 clear hy484
 by_cases c8 : 0 < (y484.length : Int)
 ·rw [if_pos c8] at H
  have c8b0 : decide (0 < (y484.length : Int)) = true := decide_eq_true c8
  have c8b1 : decide (0 < y484.length) = true := decide_eq_true (by omega)
  clear c8
  obtain ⟨y488, hy488⟩ : ∃ y_ : List (S50), y_ = (([(⟨(⟨#[97, 110, 110]⟩ : ByteArray), 0, a1⟩ : S50), (⟨(rd_T50 y484 0).f0, (rd_T50 y484 0).f1, (rd_T50 y484 0).f2⟩ : S50)] : List (S50))) := ⟨_, rfl⟩
  replace H : ((intervalmonlaw29_shifts.f k t480).bind fun t491 => ((route_ValidRota.f k t479 t491).bind fun t494 => ((intervalmonref29_ValidRota.f k t479 t480).bind fun t495 => (if t494 = t495 then ((intervalmonlaw29_shifts.f k y484).bind fun t496 => ((route_ValidRota.f k a1 t496).bind fun t499 => ((intervalmonref29_ValidRota.f k a1 y484).bind fun t500 => (intervalmonlaw29_RouteRota.j0 k a1 y488 (t499 != t500))))) else (intervalmonlaw29_RouteRota.j0 k a1 y488 true))))) = some r := by first | (rw [hy488]; with_reducible exact H) | (have H2_ := (Option.bind_some _ _).symm.trans H; rw [hy488]; with_reducible exact H2_) | (have H2_ := (Option.bind_some _ _).symm.trans H; with_reducible exact H2_) | with_reducible exact H | (rw [hy488]; exact H) | exact H
  have Ny488 := Aside0.mk hy488
  clear hy488
  have HC9 := Aside0.mk H
  clear H
  go_enter Try.func7, Try.ntmps7
  go_upto_region 4 with (first | ((with_reducible refine gate_callee (f := 24) rfl ?_); refine goesL_ (some 17) rfl rfl Try.func24 (by kernel_rfl) rfl #[.slice A0 l0.length c0, .bool true] rfl aq ?_; (with_reducible refine (intervalmonref29_Rota.calls k _ _ l0 true t479 t480 _ ?side1 ?side2 A6.out).mono ?_); (case side1 => repeat (first | exact HR0.out | (with_reducible refine Kd.C_alloc ?_ _) | (with_reducible refine Kd.C_drewN ?_ _) | (with_reducible refine Kd.C_drew ?_))); (case side2 => exact HC0.out); rintro e w10 ⟨v481, rfl, ho0, hb⟩; refine ⟨_, rfl, ?_⟩; have n0_ := Aside0.mk (Kd.R_lower ho0 (below_size (hq HB))); have n1_ := Aside0.mk (below_step (hq HB) hb); clear HB; have HO482 := n0_; have HB := n1_; clear n0_ n1_; (try clear hb); (try clear hb2); (try clear hk); (try clear hi); (try clear ho0)) | ((with_reducible refine gate_callee (f := 25) rfl ?_); refine goesL_ (some 21) rfl rfl Try.func25 (by kernel_rfl) rfl #[.string a2, .int .i64 20] rfl aq ?_; (with_reducible refine (intervalmonref01_Short.calls a2 20 t483 _ A7.out).mono ?_); rintro e w' ⟨rfl, ⟨nd, rfl⟩⟩; refine ⟨_, rfl, ?_⟩) | ((with_reducible refine gate_dst (N := 25) rfl ?_); refine Kd.R_lit k50 _ 50 ?hg (N := 25) ?hd (xs := ([(⟨t483, a3, a4⟩ : S50)] : List (S50))) (inner := [.string t483, .int .i64 a3, .int .i64 a4]) (ok := fun _ => True) (okp := fun _ => True) ?hr ?hp (fun _ hk => hk) trivial (Below.refl _ _) (Nat.le_refl _) (by simp) ?_; (case hd => rfl); (case hg => rfl); (case hr => first | (go_simp; done) | (go_simp; rfl)); (case hp => exact (Reps.c3 (show Kd.M k50 _ _ _ (⟨t483, a3, a4⟩ : S50) [.string t483, .int .i64 a3, .int .i64 a4] from (k50_mkM _ _ _ (⟨t483, a3, a4⟩ : S50) )) (Reps.none _ _))); intro v485 w11 ho12 hb hg_ hnew_; clear hg_ hnew_; (first | rw [← Ny484.out] at ho12 | (simp only [Int.reduceToNat] at ho12; rw [← Ny484.out] at ho12)); have n0_ := Aside0.mk (Kd.R_elder' (rq HO482) (Kd.R_base ho12) hb); have n1_ := Aside0.mk (Kd.R_lower (Kd.R_new' ho12 (Kd.R_lt (rq HO482))) (below_size (hq HB))); have n2_ := Aside0.mk (below_step (hq HB) hb); clear HO482; clear HB; have HO482 := n0_; have HO486 := n1_; have HB := n2_; clear n0_ n1_ n2_; clear hb ho12; obtain ⟨Ao13, co13, eo13⟩ := Kd.R_slice HO486.out; subst eo13; have p487 : 0 ≤ (0 : Int) := (by omega); have q487 : 0 < (y484.length : Int) := of_decide_eq_true (by first | (with_reducible assumption) | assumption); obtain ⟨ad487, e487, hx487_0, hx487_1, hx487_2⟩ := at_T50 (Kd.R_reads' HO486.out).2.2 0 p487 q487; cases e487; have qi487 : (0 < y484.length) = True := eq_true (by omega); (try rw [show ((0 : Int)).toNat = 0 from rfl] at hx487_0); (try rw [show 0 * 3 = 0 from rfl] at hx487_0); (try rw [Addr.add_zero'] at hx487_0); (try rw [show ((0 : Int)).toNat = 0 from rfl] at hx487_1); (try rw [show 0 * 3 = 0 from rfl] at hx487_1); (try rw [Addr.add_zero'] at hx487_1); (try rw [show ((0 : Int)).toNat = 0 from rfl] at hx487_2); (try rw [show 0 * 3 = 0 from rfl] at hx487_2); (try rw [Addr.add_zero'] at hx487_2); replace p487 := eq_true p487; replace q487 := eq_true q487) | ((with_reducible refine gate_dst (N := 31) rfl ?_); refine Kd.R_lit k50 _ 50 ?hg (N := 31) ?hd (xs := ([(⟨(⟨#[97, 110, 110]⟩ : ByteArray), 0, a1⟩ : S50), (⟨(rd_T50 y484 0).f0, (rd_T50 y484 0).f1, (rd_T50 y484 0).f2⟩ : S50)] : List (S50))) (inner := [.string (⟨#[97, 110, 110]⟩ : ByteArray), .int .i64 0, .int .i64 a1, .string ((rd_T50 y484 0).f0), .int .i64 ((rd_T50 y484 0).f1), .int .i64 ((rd_T50 y484 0).f2)]) (ok := fun _ => True) (okp := fun _ => True) ?hr ?hp (fun _ hk => hk) trivial (Below.refl _ _) (Nat.le_refl _) (by simp) ?_; (case hd => rfl); (case hg => rfl); (case hr => first | (go_simp; done) | (go_simp; rfl)); (case hp => exact (Reps.c3 (show Kd.M k50 _ _ _ (⟨(⟨#[97, 110, 110]⟩ : ByteArray), 0, a1⟩ : S50) [.string (⟨#[97, 110, 110]⟩ : ByteArray), .int .i64 0, .int .i64 a1] from (k50_mkM _ _ _ (⟨(⟨#[97, 110, 110]⟩ : ByteArray), 0, a1⟩ : S50) )) (Reps.c3 (show Kd.M k50 _ _ _ (⟨(rd_T50 y484 0).f0, (rd_T50 y484 0).f1, (rd_T50 y484 0).f2⟩ : S50) [.string ((rd_T50 y484 0).f0), .int .i64 ((rd_T50 y484 0).f1), .int .i64 ((rd_T50 y484 0).f2)] from (k50_mkM _ _ _ (⟨(rd_T50 y484 0).f0, (rd_T50 y484 0).f1, (rd_T50 y484 0).f2⟩ : S50) )) (Reps.none _ _)))); intro v489 w14 ho15 hb hg_ hnew_; clear hg_ hnew_; (first | rw [← Ny488.out] at ho15 | (simp only [Int.reduceToNat] at ho15; rw [← Ny488.out] at ho15)); have n0_ := Aside0.mk (Kd.R_elder' (rq HO482) (Kd.R_base ho15) hb); have n1_ := Aside0.mk (Kd.R_elder' (rq HO486) (Kd.R_base ho15) hb); have n2_ := Aside0.mk (Kd.R_lower (Kd.R_new' (Kd.R_new' ho15 (Kd.R_lt (rq HO482))) (Kd.R_lt (rq HO486))) (below_size (hq HB))); have n3_ := Aside0.mk (below_step (hq HB) hb); clear HO482; clear HO486; clear HB; have HO482 := n0_; have HO486 := n1_; have HO490 := n2_; have HB := n3_; clear n0_ n1_ n2_ n3_; clear hb ho15))
  (try simp only [Act.put, List.setIfInBounds_toArray, List.set_cons_zero, List.set_cons_succ])
  go_cut [49] (fun v49 wc => ∃ (kq : Nat) (x49_8 : Bool), v49 = .bool x49_8 ∧ Aside0 (intervalmonlaw29_RouteRota.j0 kq a1 y488 x49_8 = some r) ∧ Aside0 (kq ≤ k) ∧ Aside0 (Kd.R k50 50 wc w.heap.size (fun _ => True) v489 y488) ∧ Aside0 (Below w.heap.size w wc))
  case first =>
   have H := HC9.out
   clear HC9
   replace H := Option.bind_eq_some_iff.mp H
   obtain ⟨t491, A160, H⟩ := H
   replace H : ((route_ValidRota.f k t479 t491).bind fun t494 => ((intervalmonref29_ValidRota.f k t479 t480).bind fun t495 => (if t494 = t495 then ((intervalmonlaw29_shifts.f k y484).bind fun t496 => ((route_ValidRota.f k a1 t496).bind fun t499 => ((intervalmonref29_ValidRota.f k a1 y484).bind fun t500 => (intervalmonlaw29_RouteRota.j0 k a1 y488 (t499 != t500))))) else (intervalmonlaw29_RouteRota.j0 k a1 y488 true)))) = some r := H
   have A16 := Aside0.mk A160
   clear A160
   replace H := Option.bind_eq_some_iff.mp H
   obtain ⟨t494, A170, H⟩ := H
   replace H : ((intervalmonref29_ValidRota.f k t479 t480).bind fun t495 => (if t494 = t495 then ((intervalmonlaw29_shifts.f k y484).bind fun t496 => ((route_ValidRota.f k a1 t496).bind fun t499 => ((intervalmonref29_ValidRota.f k a1 y484).bind fun t500 => (intervalmonlaw29_RouteRota.j0 k a1 y488 (t499 != t500))))) else (intervalmonlaw29_RouteRota.j0 k a1 y488 true))) = some r := H
   have A17 := Aside0.mk A170
   clear A170
   replace H := Option.bind_eq_some_iff.mp H
   obtain ⟨t495, A180, H⟩ := H
   replace H : (if t494 = t495 then ((intervalmonlaw29_shifts.f k y484).bind fun t496 => ((route_ValidRota.f k a1 t496).bind fun t499 => ((intervalmonref29_ValidRota.f k a1 y484).bind fun t500 => (intervalmonlaw29_RouteRota.j0 k a1 y488 (t499 != t500))))) else (intervalmonlaw29_RouteRota.j0 k a1 y488 true)) = some r := H
   have A18 := Aside0.mk A180
   clear A180
   by_cases c19 : t494 = t495
   ·rw [if_pos c19] at H
    have c19b0 : (t494 == t495) = true := beq_iff_eq.mpr c19
    have c19b1 : (t494 != t495) = false := bne_eq_false_iff_eq.mpr c19
    clear c19
    (first | rw [c19b0] | (simp only [i64_w, i32_w]; rw [c19b0]) | skip)
    replace H := Option.bind_eq_some_iff.mp H
    obtain ⟨t496, A200, H⟩ := H
    replace H : ((route_ValidRota.f k a1 t496).bind fun t499 => ((intervalmonref29_ValidRota.f k a1 y484).bind fun t500 => (intervalmonlaw29_RouteRota.j0 k a1 y488 (t499 != t500)))) = some r := H
    have A20 := Aside0.mk A200
    clear A200
    replace H := Option.bind_eq_some_iff.mp H
    obtain ⟨t499, A210, H⟩ := H
    replace H : ((intervalmonref29_ValidRota.f k a1 y484).bind fun t500 => (intervalmonlaw29_RouteRota.j0 k a1 y488 (t499 != t500))) = some r := H
    have A21 := Aside0.mk A210
    clear A210
    replace H := Option.bind_eq_some_iff.mp H
    obtain ⟨t500, A220, H⟩ := H
    replace H : (intervalmonlaw29_RouteRota.j0 k a1 y488 (t499 != t500)) = some r := H
    have A22 := Aside0.mk A220
    clear A220
    have H' := Aside0.mk H
    clear H
    obtain ⟨Ao23, co23, eo23⟩ := Kd.R_slice HO482.out
    subst eo23
    go_wp2_with (first | ((with_reducible refine gate_callee (f := 27) rfl ?_); refine goesL_ (some 34) rfl rfl Try.func27 (by kernel_rfl) rfl #[.slice Ao23 t480.length co23] rfl aq ?_; (with_reducible refine (intervalmonlaw29_shifts.calls k _ _ t480 t491 _ ?side1 ?side2 A16.out).mono ?_); (case side1 => repeat (first | exact (Kd.R_reads' HO482.out).2.2 | (with_reducible refine Kd.C_alloc ?_ _) | (with_reducible refine Kd.C_drewN ?_ _) | (with_reducible refine Kd.C_drew ?_))); (case side2 => exact (Kd.R_reads' HO482.out).2.1); rintro e w24 ⟨v492, rfl, ho0, hb⟩; refine ⟨_, rfl, ?_⟩; have n0_ := Aside0.mk (Kd.R_below (rq HO482) hb); have n1_ := Aside0.mk (Kd.R_below (rq HO486) hb); have n2_ := Aside0.mk (Kd.R_below (rq HO490) hb); have n3_ := Aside0.mk (Kd.R_lower ho0 (below_size (hq HB))); have n4_ := Aside0.mk (below_step (hq HB) hb); clear HO482; clear HO486; clear HO490; clear HB; have HO482 := n0_; have HO486 := n1_; have HO490 := n2_; have HO493 := n3_; have HB := n4_; clear n0_ n1_ n2_ n3_ n4_; (try clear hb); (try clear hb2); (try clear hk); (try clear hi); (try clear ho0); obtain ⟨Ao25, co25, eo25⟩ := Kd.R_slice HO493.out; subst eo25) | ((with_reducible refine gate_callee (f := 26) rfl ?_); refine goesL_ (some 35) rfl rfl Try.func26 (by kernel_rfl) rfl #[.int .i64 t479, .slice Ao25 t491.length co25] rfl aq ?_; (with_reducible refine (route_ValidRota.calls k t479 _ _ t491 t494 _ ?side1 ?side2 A17.out).mono ?_); (case side1 => repeat (first | exact (Kd.R_reads' HO493.out).2.2 | (with_reducible refine Kd.C_alloc ?_ _) | (with_reducible refine Kd.C_drewN ?_ _) | (with_reducible refine Kd.C_drew ?_))); (case side2 => exact (Kd.R_reads' HO493.out).2.1); rintro e w26 ⟨rfl, hb⟩; refine ⟨_, rfl, ?_⟩; have n0_ := Aside0.mk (Kd.R_below (rq HO482) hb); have n1_ := Aside0.mk (Kd.R_below (rq HO486) hb); have n2_ := Aside0.mk (Kd.R_below (rq HO490) hb); have n3_ := Aside0.mk (Kd.R_below (rq HO493) hb); have n4_ := Aside0.mk (below_step (hq HB) hb); clear HO482; clear HO486; clear HO490; clear HO493; clear HB; have HO482 := n0_; have HO486 := n1_; have HO490 := n2_; have HO493 := n3_; have HB := n4_; clear n0_ n1_ n2_ n3_ n4_; (try clear hb); (try clear hb2); (try clear hk); (try clear hi)) | ((with_reducible refine gate_callee (f := 28) rfl ?_); refine goesL_ (some 38) rfl rfl Try.func28 (by kernel_rfl) rfl #[.int .i64 t479, .slice Ao23 t480.length co23] rfl aq ?_; (with_reducible refine (intervalmonref29_ValidRota.calls k t479 _ _ t480 t495 _ ?side1 ?side2 A18.out).mono ?_); (case side1 => repeat (first | exact (Kd.R_reads' HO482.out).2.2 | (with_reducible refine Kd.C_alloc ?_ _) | (with_reducible refine Kd.C_drewN ?_ _) | (with_reducible refine Kd.C_drew ?_))); (case side2 => exact (Kd.R_reads' HO482.out).2.1); rintro e w' ⟨rfl, ⟨nd, rfl⟩⟩; refine ⟨_, rfl, ?_⟩) | (go_at_call 27; (with_reducible refine (intervalmonlaw29_shifts.calls k _ _ y484 t496 _ ?side1 ?side2 A20.out).mono ?_); (case side1 => repeat (first | exact (Kd.R_reads' HO486.out).2.2 | (with_reducible refine Kd.C_alloc ?_ _) | (with_reducible refine Kd.C_drewN ?_ _) | (with_reducible refine Kd.C_drew ?_))); (case side2 => exact (Kd.R_reads' HO486.out).2.1); rintro e w27 ⟨v497, rfl, ho0, hb⟩; have n0_ := Aside0.mk (Kd.R_below (rq HO482) hb); have n1_ := Aside0.mk (Kd.R_below (rq HO486) hb); have n2_ := Aside0.mk (Kd.R_below (rq HO490) hb); have n3_ := Aside0.mk (Kd.R_elder' (rq HO493) (Kd.R_base ho0) hb); have n4_ := Aside0.mk (Kd.R_lower (Kd.R_new' ho0 (Kd.R_lt (rq HO493))) (below_size (hq HB))); have n5_ := Aside0.mk (below_step (hq HB) hb); clear HO482; clear HO486; clear HO490; clear HO493; clear HB; have HO482 := n0_; have HO486 := n1_; have HO490 := n2_; have HO493 := n3_; have HO498 := n4_; have HB := n5_; clear n0_ n1_ n2_ n3_ n4_ n5_; (try clear hb); (try clear hb2); (try clear hk); (try clear hi); (try clear ho0); obtain ⟨Ao28, co28, eo28⟩ := Kd.R_slice HO498.out; subst eo28) | (go_at_call 26; (with_reducible refine (route_ValidRota.calls k a1 _ _ t496 t499 _ ?side1 ?side2 A21.out).mono ?_); (case side1 => repeat (first | exact (Kd.R_reads' HO498.out).2.2 | (with_reducible refine Kd.C_alloc ?_ _) | (with_reducible refine Kd.C_drewN ?_ _) | (with_reducible refine Kd.C_drew ?_))); (case side2 => exact (Kd.R_reads' HO498.out).2.1); rintro e w29 ⟨rfl, hb⟩; have n0_ := Aside0.mk (Kd.R_below (rq HO482) hb); have n1_ := Aside0.mk (Kd.R_below (rq HO486) hb); have n2_ := Aside0.mk (Kd.R_below (rq HO490) hb); have n3_ := Aside0.mk (Kd.R_below (rq HO493) hb); have n4_ := Aside0.mk (Kd.R_below (rq HO498) hb); have n5_ := Aside0.mk (below_step (hq HB) hb); clear HO482; clear HO486; clear HO490; clear HO493; clear HO498; clear HB; have HO482 := n0_; have HO486 := n1_; have HO490 := n2_; have HO493 := n3_; have HO498 := n4_; have HB := n5_; clear n0_ n1_ n2_ n3_ n4_ n5_; (try clear hb); (try clear hb2); (try clear hk); (try clear hi)) | (go_at_call 28; (with_reducible refine (intervalmonref29_ValidRota.calls k a1 _ _ y484 t500 _ ?side1 ?side2 A22.out).mono ?_); (case side1 => repeat (first | exact (Kd.R_reads' HO486.out).2.2 | (with_reducible refine Kd.C_alloc ?_ _) | (with_reducible refine Kd.C_drewN ?_ _) | (with_reducible refine Kd.C_drew ?_))); (case side2 => exact (Kd.R_reads' HO486.out).2.1); rintro e w' ⟨rfl, ⟨nd, rfl⟩⟩))
    go_meet
    case rel => exact ⟨_, ((t499 != t500)), (by first | rfl | (simp; done) | (simp [*]; done)), H', ⟨by first | omega | exact Nat.le_refl _⟩, ⟨by (with_reducible repeat (first | apply Kd.R_alloc | apply Kd.R_drewN | apply Kd.R_drew)); exact Kd.R_mono HO490.out (fun _ hk => trivial)⟩, ⟨by repeat (first | (with_reducible first | exact HB.out | apply below_alloc | apply pw_below_drewN | apply below_drew1) | exact HB.out)⟩⟩
   ·rw [if_neg c19] at H
    have c19b0 : (t494 == t495) = false := beq_eq_false_iff_ne.mpr c19
    have c19b1 : (t494 != t495) = true := bne_iff_ne.mpr c19
    (first | rw [c19b0] | (simp only [i64_w, i32_w]; rw [c19b0]) | skip)
    have H' := Aside0.mk H
    clear H
    obtain ⟨Ao30, co30, eo30⟩ := Kd.R_slice HO482.out
    subst eo30
    go_wp2_with (first | ((with_reducible refine gate_callee (f := 27) rfl ?_); refine goesL_ (some 34) rfl rfl Try.func27 (by kernel_rfl) rfl #[.slice Ao30 t480.length co30] rfl aq ?_; (with_reducible refine (intervalmonlaw29_shifts.calls k _ _ t480 t491 _ ?side1 ?side2 A16.out).mono ?_); (case side1 => repeat (first | exact (Kd.R_reads' HO482.out).2.2 | (with_reducible refine Kd.C_alloc ?_ _) | (with_reducible refine Kd.C_drewN ?_ _) | (with_reducible refine Kd.C_drew ?_))); (case side2 => exact (Kd.R_reads' HO482.out).2.1); rintro e w31 ⟨v492, rfl, ho0, hb⟩; refine ⟨_, rfl, ?_⟩; have n0_ := Aside0.mk (Kd.R_below (rq HO482) hb); have n1_ := Aside0.mk (Kd.R_below (rq HO486) hb); have n2_ := Aside0.mk (Kd.R_below (rq HO490) hb); have n3_ := Aside0.mk (Kd.R_lower ho0 (below_size (hq HB))); have n4_ := Aside0.mk (below_step (hq HB) hb); clear HO482; clear HO486; clear HO490; clear HB; have HO482 := n0_; have HO486 := n1_; have HO490 := n2_; have HO493 := n3_; have HB := n4_; clear n0_ n1_ n2_ n3_ n4_; (try clear hb); (try clear hb2); (try clear hk); (try clear hi); (try clear ho0); obtain ⟨Ao32, co32, eo32⟩ := Kd.R_slice HO493.out; subst eo32) | ((with_reducible refine gate_callee (f := 26) rfl ?_); refine goesL_ (some 35) rfl rfl Try.func26 (by kernel_rfl) rfl #[.int .i64 t479, .slice Ao32 t491.length co32] rfl aq ?_; (with_reducible refine (route_ValidRota.calls k t479 _ _ t491 t494 _ ?side1 ?side2 A17.out).mono ?_); (case side1 => repeat (first | exact (Kd.R_reads' HO493.out).2.2 | (with_reducible refine Kd.C_alloc ?_ _) | (with_reducible refine Kd.C_drewN ?_ _) | (with_reducible refine Kd.C_drew ?_))); (case side2 => exact (Kd.R_reads' HO493.out).2.1); rintro e w33 ⟨rfl, hb⟩; refine ⟨_, rfl, ?_⟩; have n0_ := Aside0.mk (Kd.R_below (rq HO482) hb); have n1_ := Aside0.mk (Kd.R_below (rq HO486) hb); have n2_ := Aside0.mk (Kd.R_below (rq HO490) hb); have n3_ := Aside0.mk (Kd.R_below (rq HO493) hb); have n4_ := Aside0.mk (below_step (hq HB) hb); clear HO482; clear HO486; clear HO490; clear HO493; clear HB; have HO482 := n0_; have HO486 := n1_; have HO490 := n2_; have HO493 := n3_; have HB := n4_; clear n0_ n1_ n2_ n3_ n4_; (try clear hb); (try clear hb2); (try clear hk); (try clear hi)) | ((with_reducible refine gate_callee (f := 28) rfl ?_); refine goesL_ (some 38) rfl rfl Try.func28 (by kernel_rfl) rfl #[.int .i64 t479, .slice Ao30 t480.length co30] rfl aq ?_; (with_reducible refine (intervalmonref29_ValidRota.calls k t479 _ _ t480 t495 _ ?side1 ?side2 A18.out).mono ?_); (case side1 => repeat (first | exact (Kd.R_reads' HO482.out).2.2 | (with_reducible refine Kd.C_alloc ?_ _) | (with_reducible refine Kd.C_drewN ?_ _) | (with_reducible refine Kd.C_drew ?_))); (case side2 => exact (Kd.R_reads' HO482.out).2.1); rintro e w' ⟨rfl, ⟨nd, rfl⟩⟩; refine ⟨_, rfl, ?_⟩))
    go_meet
    case rel => exact ⟨_, (true), (by first | rfl | (simp; done) | (simp [*]; done)), H', ⟨by first | omega | exact Nat.le_refl _⟩, ⟨by (with_reducible repeat (first | apply Kd.R_alloc | apply Kd.R_drewN | apply Kd.R_drew)); exact Kd.R_mono HO490.out (fun _ hk => trivial)⟩, ⟨by repeat (first | (with_reducible first | exact HB.out | apply below_alloc | apply pw_below_drewN | apply below_drew1) | exact HB.out)⟩⟩
  case rest =>
   clear HC9
   try clear c1
   try clear c2
   try clear p2
   try clear c3
   try clear p4
   try clear q4
   try clear hx4
   try clear qi4
   try clear c7
   try clear c8
   try clear c8b0
   try clear c8b1
   try clear c19
   try clear c19b0
   try clear c19b1
   try clear c24
   try clear c25
   try clear c26
   try clear c27
   try clear c28
   try clear hx487_0
   try clear hx487_1
   try clear hx487_2
   try clear p487
   try clear q487
   obtain ⟨kq, x49_8, rfl, HA, HJ8, HO_14, HB⟩ := hcut
   cases kq with
   | zero => exact absurd HA.out (by simp [intervalmonlaw29_RouteRota.j0])
   | succ kj8 =>
    have H := HA.out
    clear HA
    simp only [intervalmonlaw29_RouteRota.j0] at H
    by_cases c34 : x49_8 = true
    ·subst c34
     have H1 : (some false) = some r := by rw [if_pos rfl] at H; exact H
     clear H
     have H := H1
     clear H1
     obtain rfl := Option.some.inj H
     go_wp2
     go_ret
     exact ⟨by first | rfl | (simp [errW_none, errW_some] <;> rfl) | (simp [*, errW_none, errW_some] <;> rfl), by repeat (first | (with_reducible first | exact HB.out | apply below_alloc | apply pw_below_drewN | apply below_drew1) | exact HB.out)⟩
    ·replace c34 := Bool.eq_false_iff.mpr c34
     subst c34
     have H1 : ((intervalmonlaw29_shifts.f kj8 y488).bind fun t501 => ((route_ValidRota.f kj8 a1 t501).bind fun t504 => ((intervalmonref29_ValidRota.f kj8 a1 y488).bind fun t505 => (if t504 = t505 then ((intervalmonlaw29_lives.f kj8).bind fun t506 => (some t506)) else (some false))))) = some r := by rw [if_neg (show ¬ (false = true) by decide)] at H; exact H
     clear H
     have H := H1
     clear H1
     replace H := Option.bind_eq_some_iff.mp H
     obtain ⟨t501, A350, H⟩ := H
     replace H : ((route_ValidRota.f kj8 a1 t501).bind fun t504 => ((intervalmonref29_ValidRota.f kj8 a1 y488).bind fun t505 => (if t504 = t505 then ((intervalmonlaw29_lives.f kj8).bind fun t506 => (some t506)) else (some false)))) = some r := H
     have A35 := Aside0.mk A350
     clear A350
     replace H := Option.bind_eq_some_iff.mp H
     obtain ⟨t504, A360, H⟩ := H
     replace H : ((intervalmonref29_ValidRota.f kj8 a1 y488).bind fun t505 => (if t504 = t505 then ((intervalmonlaw29_lives.f kj8).bind fun t506 => (some t506)) else (some false))) = some r := H
     have A36 := Aside0.mk A360
     clear A360
     replace H := Option.bind_eq_some_iff.mp H
     obtain ⟨t505, A370, H⟩ := H
     replace H : (if t504 = t505 then ((intervalmonlaw29_lives.f kj8).bind fun t506 => (some t506)) else (some false)) = some r := H
     have A37 := Aside0.mk A370
     clear A370
     by_cases c38 : t504 = t505
     ·rw [if_pos c38] at H
      have c38b0 : (t504 == t505) = true := beq_iff_eq.mpr c38
      have c38b1 : (t504 != t505) = false := bne_eq_false_iff_eq.mpr c38
      clear c38
      replace H := Option.bind_eq_some_iff.mp H
      obtain ⟨t506, A390, H⟩ := H
      replace H : (some t506) = some r := H
      have A39 := Aside0.mk A390
      clear A390
      obtain rfl := Option.some.inj H
      obtain ⟨Ao40, co40, eo40⟩ := Kd.R_slice HO_14.out
      subst eo40
      go_wp2_with (first | ((with_reducible refine gate_callee (f := 27) rfl ?_); refine goesL_ (some 52) rfl rfl Try.func27 (by kernel_rfl) rfl #[.slice Ao40 y488.length co40] rfl aq ?_; (with_reducible refine (intervalmonlaw29_shifts.calls kj8 _ _ y488 t501 _ ?side1 ?side2 A35.out).mono ?_); (case side1 => repeat (first | exact (Kd.R_reads' HO_14.out).2.2 | (with_reducible refine Kd.C_alloc ?_ _) | (with_reducible refine Kd.C_drewN ?_ _) | (with_reducible refine Kd.C_drew ?_))); (case side2 => exact (Kd.R_reads' HO_14.out).2.1); rintro e w41 ⟨v502, rfl, ho0, hb⟩; refine ⟨_, rfl, ?_⟩; have n0_ := Aside0.mk (Kd.R_below (rq HO_14) hb); have n1_ := Aside0.mk (Kd.R_lower ho0 (below_size (hq HB))); have n2_ := Aside0.mk (below_step (hq HB) hb); clear HO_14; clear HB; have HO_14 := n0_; have HO503 := n1_; have HB := n2_; clear n0_ n1_ n2_; (try clear hb); (try clear hb2); (try clear hk); (try clear hi); (try clear ho0); obtain ⟨Ao42, co42, eo42⟩ := Kd.R_slice HO503.out; subst eo42) | ((with_reducible refine gate_callee (f := 26) rfl ?_); refine goesL_ (some 53) rfl rfl Try.func26 (by kernel_rfl) rfl #[.int .i64 a1, .slice Ao42 t501.length co42] rfl aq ?_; (with_reducible refine (route_ValidRota.calls kj8 a1 _ _ t501 t504 _ ?side1 ?side2 A36.out).mono ?_); (case side1 => repeat (first | exact (Kd.R_reads' HO503.out).2.2 | (with_reducible refine Kd.C_alloc ?_ _) | (with_reducible refine Kd.C_drewN ?_ _) | (with_reducible refine Kd.C_drew ?_))); (case side2 => exact (Kd.R_reads' HO503.out).2.1); rintro e w43 ⟨rfl, hb⟩; refine ⟨_, rfl, ?_⟩; have n0_ := Aside0.mk (Kd.R_below (rq HO_14) hb); have n1_ := Aside0.mk (Kd.R_below (rq HO503) hb); have n2_ := Aside0.mk (below_step (hq HB) hb); clear HO_14; clear HO503; clear HB; have HO_14 := n0_; have HO503 := n1_; have HB := n2_; clear n0_ n1_ n2_; (try clear hb); (try clear hb2); (try clear hk); (try clear hi)) | ((with_reducible refine gate_callee (f := 28) rfl ?_); refine goesL_ (some 56) rfl rfl Try.func28 (by kernel_rfl) rfl #[.int .i64 a1, .slice Ao40 y488.length co40] rfl aq ?_; (with_reducible refine (intervalmonref29_ValidRota.calls kj8 a1 _ _ y488 t505 _ ?side1 ?side2 A37.out).mono ?_); (case side1 => repeat (first | exact (Kd.R_reads' HO_14.out).2.2 | (with_reducible refine Kd.C_alloc ?_ _) | (with_reducible refine Kd.C_drewN ?_ _) | (with_reducible refine Kd.C_drew ?_))); (case side2 => exact (Kd.R_reads' HO_14.out).2.1); rintro e w' ⟨rfl, ⟨nd, rfl⟩⟩; refine ⟨_, rfl, ?_⟩) | (go_at_call 17; (with_reducible refine (intervalmonlaw29_lives.calls kj8  t506 _ A39.out).mono ?_); rintro e w44 ⟨rfl, hb⟩; have n0_ := Aside0.mk (Kd.R_below (rq HO_14) hb); have n1_ := Aside0.mk (Kd.R_below (rq HO503) hb); have n2_ := Aside0.mk (below_step (hq HB) hb); clear HO_14; clear HO503; clear HB; have HO_14 := n0_; have HO503 := n1_; have HB := n2_; clear n0_ n1_ n2_; (try clear hb); (try clear hb2); (try clear hk); (try clear hi)))
      go_ret
      exact ⟨by first | rfl | (simp [errW_none, errW_some] <;> rfl) | (simp [*, errW_none, errW_some] <;> rfl), by repeat (first | (with_reducible first | exact HB.out | apply below_alloc | apply pw_below_drewN | apply below_drew1) | exact HB.out)⟩
     ·rw [if_neg c38] at H
      have c38b0 : (t504 == t505) = false := beq_eq_false_iff_ne.mpr c38
      have c38b1 : (t504 != t505) = true := bne_iff_ne.mpr c38
      obtain rfl := Option.some.inj H
      obtain ⟨Ao45, co45, eo45⟩ := Kd.R_slice HO_14.out
      subst eo45
      go_wp2_with (first | ((with_reducible refine gate_callee (f := 27) rfl ?_); refine goesL_ (some 52) rfl rfl Try.func27 (by kernel_rfl) rfl #[.slice Ao45 y488.length co45] rfl aq ?_; (with_reducible refine (intervalmonlaw29_shifts.calls kj8 _ _ y488 t501 _ ?side1 ?side2 A35.out).mono ?_); (case side1 => repeat (first | exact (Kd.R_reads' HO_14.out).2.2 | (with_reducible refine Kd.C_alloc ?_ _) | (with_reducible refine Kd.C_drewN ?_ _) | (with_reducible refine Kd.C_drew ?_))); (case side2 => exact (Kd.R_reads' HO_14.out).2.1); rintro e w46 ⟨v502, rfl, ho0, hb⟩; refine ⟨_, rfl, ?_⟩; have n0_ := Aside0.mk (Kd.R_below (rq HO_14) hb); have n1_ := Aside0.mk (Kd.R_lower ho0 (below_size (hq HB))); have n2_ := Aside0.mk (below_step (hq HB) hb); clear HO_14; clear HB; have HO_14 := n0_; have HO503 := n1_; have HB := n2_; clear n0_ n1_ n2_; (try clear hb); (try clear hb2); (try clear hk); (try clear hi); (try clear ho0); obtain ⟨Ao47, co47, eo47⟩ := Kd.R_slice HO503.out; subst eo47) | ((with_reducible refine gate_callee (f := 26) rfl ?_); refine goesL_ (some 53) rfl rfl Try.func26 (by kernel_rfl) rfl #[.int .i64 a1, .slice Ao47 t501.length co47] rfl aq ?_; (with_reducible refine (route_ValidRota.calls kj8 a1 _ _ t501 t504 _ ?side1 ?side2 A36.out).mono ?_); (case side1 => repeat (first | exact (Kd.R_reads' HO503.out).2.2 | (with_reducible refine Kd.C_alloc ?_ _) | (with_reducible refine Kd.C_drewN ?_ _) | (with_reducible refine Kd.C_drew ?_))); (case side2 => exact (Kd.R_reads' HO503.out).2.1); rintro e w48 ⟨rfl, hb⟩; refine ⟨_, rfl, ?_⟩; have n0_ := Aside0.mk (Kd.R_below (rq HO_14) hb); have n1_ := Aside0.mk (Kd.R_below (rq HO503) hb); have n2_ := Aside0.mk (below_step (hq HB) hb); clear HO_14; clear HO503; clear HB; have HO_14 := n0_; have HO503 := n1_; have HB := n2_; clear n0_ n1_ n2_; (try clear hb); (try clear hb2); (try clear hk); (try clear hi)) | ((with_reducible refine gate_callee (f := 28) rfl ?_); refine goesL_ (some 56) rfl rfl Try.func28 (by kernel_rfl) rfl #[.int .i64 a1, .slice Ao45 y488.length co45] rfl aq ?_; (with_reducible refine (intervalmonref29_ValidRota.calls kj8 a1 _ _ y488 t505 _ ?side1 ?side2 A37.out).mono ?_); (case side1 => repeat (first | exact (Kd.R_reads' HO_14.out).2.2 | (with_reducible refine Kd.C_alloc ?_ _) | (with_reducible refine Kd.C_drewN ?_ _) | (with_reducible refine Kd.C_drew ?_))); (case side2 => exact (Kd.R_reads' HO_14.out).2.1); rintro e w' ⟨rfl, ⟨nd, rfl⟩⟩; refine ⟨_, rfl, ?_⟩))
      go_ret
      exact ⟨by first | rfl | (simp [errW_none, errW_some] <;> rfl) | (simp [*, errW_none, errW_some] <;> rfl), by repeat (first | (with_reducible first | exact HB.out | apply below_alloc | apply pw_below_drewN | apply below_drew1) | exact HB.out)⟩
 ·rw [if_neg c8] at H
  exact absurd H (by simp)

/-- THE ONE PURE STATEMENT of intervalmonlaw29_RouteRota: yours. -/
def intervalmonlaw29_RouteRota.Pure : Prop := ∀ (l0 : List Int) (a1 : Int) (a2 : ByteArray) (a3 : Int) (a4 : Int), l0.length ≤ maxLen → l0.length * 8 ≤ 140737488351232 → (∀ x ∈ l0, (Lit.int .i64 x).wf = true) → (Lit.int .i64 a1).wf = true → a2.size ≤ 140737488351232 → (Lit.int .i64 a3).wf = true → (Lit.int .i64 a4).wf = true → ∃ k, intervalmonlaw29_RouteRota.f k l0 a1 a2 a3 a4 = some true
theorem intervalmonlaw29_RouteRota.walk (P : intervalmonlaw29_RouteRota.Pure) (a0 : Option Addr) (len0 cap0 : Nat) (z0 : List Int) (a1 : Int) (a2 : ByteArray) (a3 : Int) (a4 : Int) (w : World) (w0 : (a0 = none ∧ len0 = 0 ∧ cap0 = 0 ∧ z0 = []) ∨ ∃ x, a0 = some x ∧ len0 ≤ cap0 ∧ cap0 ≤ maxLen ∧ z0.length = cap0 ∧ (∀ i, i < z0.length → w.cell? (x.add i) = some (.int .i64 (z0.getD i 0))) ∧ ∀ n ∈ z0, (Lit.int .i64 n).wf = true) (y0 : len0 * 8 ≤ 140737488351232) (w1 : (Lit.int .i64 a1).wf = true) (w2 : a2.size ≤ 140737488351232) (w3 : (Lit.int .i64 a3).wf = true) (w4 : (Lit.int .i64 a4).wf = true) :
  Calls Try.prog 7 #[.slice a0 len0 cap0, .int .i64 a1, .string a2, .int .i64 a3, .int .i64 a4] w fun e w' => e = .returned (.bool true) ∧ Below w.heap.size w w' := by
 obtain ⟨l0, rfl, hr0, hm0, hw0, hc0⟩ := ReadsInt.ofRowC w0
 obtain ⟨k, h⟩ := P l0 a1 a2 a3 a4 hm0 y0 hw0 w1 w2 w3 w4
 refine (intervalmonlaw29_RouteRota.calls k _ _ l0 a1 a2 a3 a4 true w (Kd.C_of_reads (d := (0 : Int)) (h1 := fun _ => rfl) hr0) hc0 h).mono ?_
 rintro e w' ⟨rfl, hd⟩
 exact ⟨rfl, hd⟩

end Go.Proofs.Ytcamljlhdejmmaa.P
