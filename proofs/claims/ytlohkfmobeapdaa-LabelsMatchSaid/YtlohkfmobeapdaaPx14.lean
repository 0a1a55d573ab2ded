-- Written by this session's own copy of a printing program (wip/tools); Lean checks it.
import Derived.Test.YtlohkfmobeapdaaPx0
import Derived.Test.YtlohkfmobeapdaaPx2
import Derived.Test.YtlohkfmobeapdaaPx3
import Derived.Test.YtlohkfmobeapdaaPx8
import Derived.Test.YtlohkfmobeapdaaPx12
import Derived.Test.YtlohkfmobeapdaaPx13
namespace Go.Proofs.Ytlohkfmobeapdaa.P
open Go.RowKit Go.Proofs.YtlohkfmobeapdaaW.PrintWords Go.Proofs.YtlohkfmobeapdaaW.PrintLast Go.Proofs.YtlohkfmobeapdaaW.PrintMore
attribute [local go_sem] max2_int min2_int max_two min_two max_three min_three max_four min_four   -- for this text's walks alone
set_option linter.unusedVariables false
set_option linter.unusedSimpArgs false

/-! ### intervalmonlaw05_LabelsMatch: function 8 -/
def intervalmonlaw05_LabelsMatch.f (k : Nat) (l0 : List Int) (l1 : List Int) (a2_0 : ByteArray) (a2_1 : Int) (a2_2 : ByteArray) : Option (Bool) := (intervalmonref05_Set.f k l0).bind fun t421 => ((intervalmonref05_Matchers.f k l1).bind fun t424 => ((intervalmonref05_Matchers.f k l1).bind fun t427 => ((some (([(⟨a2_0, a2_1, a2_2⟩ : S24)] : List (S24)) : List (S24))).bind fun y430 => (if t427.length + y430.length < 3518437208883 then ((some (t427 ++ y430 : List (S24))).bind fun y433 => ((intervalmonref01_Around.f a2_1 4).bind fun t436 => ((labels_Match.f k t421 t424).bind fun t438 => ((intervalmonref05_Match.f k t421 t424).bind fun t439 => (if (t438 == t439) = true then ((labels_Match.f k t421 y433).bind fun t440 => ((intervalmonref05_Match.f k t421 y433).bind fun t441 => (if (t440 == t441) = true then ((labels_Match.f k t421 (([(⟨a2_0, t436, a2_2⟩ : S24)] : List (S24)))).bind fun t445 => ((intervalmonref05_Match.f k t421 (([(⟨a2_0, t436, a2_2⟩ : S24)] : List (S24)))).bind fun t449 => (if (t445 == t449) = true then ((labels_Match.f k t421 ([] : List (S24))).bind fun t450 => (if t450 = true then ((intervalmonlaw05_lives.f).bind fun t451 => (some t451)) else (some false))) else (some false)))) else (some false)))) else (some false)))))) else (none)))))
theorem intervalmonlaw05_LabelsMatch.mono : ∀ a0 a1 a2 a3 a4 k, LeO (intervalmonlaw05_LabelsMatch.f k a0 a1 a2 a3 a4) (intervalmonlaw05_LabelsMatch.f (k + 1) a0 a1 a2 a3 a4) := by
 intro a0 a1 a2 a3 a4 k
 unfold intervalmonlaw05_LabelsMatch.f
 repeat' first
   | (with_reducible exact intervalmonref05_Match.mono _ _ _)
   | (with_reducible exact intervalmonref05_Matchers.mono _ _)
   | (with_reducible exact intervalmonref05_Set.mono _ _)
   | (with_reducible exact labels_Match.mono _ _ _)
   | (with_reducible exact LeO.refl _)
   | (with_reducible exact LeO.none _)
   | (with_reducible refine LeO.ite ?_ ?_)
   | (with_reducible refine LeO.bind ?_ (fun _ => ?_))
   | exact intervalmonref05_Match.mono _ _ _
   | exact intervalmonref05_Matchers.mono _ _
   | exact intervalmonref05_Set.mono _ _
   | exact labels_Match.mono _ _ _
   | exact LeO.none _
   | refine LeO.ite ?_ ?_
   | refine LeO.bind ?_ (fun _ => ?_)
def intervalmonlaw05_LabelsMatch.T4 : Bool × List (List Nat × List Nat) := (true, [([], []), ([0], [0]), ([], []), ([2], [2]), ([3], [3]), ([], []), ([5], [5]), ([1, 4, 6], [1, 4, 6]), ([], []), ([8, 7, 4, 0, 1, 2, 3, 4, 5, 6, 7, 8], [7, 8])])
def intervalmonlaw05_LabelsMatch.B4 : List Nat := [0, 1, 0, 4, 12, 0, 32, 127, 0, 511]
theorem intervalmonlaw05_LabelsMatch.tab4 : rtab .any (opsOf Try.f8 4) = intervalmonlaw05_LabelsMatch.T4 := by kernel_rfl
theorem intervalmonlaw05_LabelsMatch.bits4 : waitsOk intervalmonlaw05_LabelsMatch.T4.2 intervalmonlaw05_LabelsMatch.B4 = true := by kernel_rfl
def intervalmonlaw05_LabelsMatch.T5 : Bool × List (List Nat × List Nat) := (true, [([], []), ([], []), ([0, 1], [0, 1]), ([], []), ([], []), ([3, 4, 2], [3, 4]), ([2, 5], [2, 5]), ([6, 5], [6]), ([7], [7]), ([7], [7]), ([8, 9, 7, 7], [7, 8, 9]), ([7], [7]), ([7], [7]), ([11, 12, 10, 7], [7, 11, 12]), ([10, 13, 7], [7, 10, 13]), ([7, 14], [7, 14]), ([15, 13], [15]), ([16], [16]), ([16], [16]), ([18, 16], [16, 18]), ([17, 19, 16, 16], [16, 17, 19]), ([16], [16]), ([16], [16]), ([22, 16], [16, 22]), ([21, 23, 20, 16], [16, 21, 23]), ([20, 24, 16], [16, 20, 24]), ([16, 25], [16, 25]), ([26, 24], [26]), ([27], [27]), ([28, 27, 27], [27, 28]), ([27, 29], [27, 29]), ([30, 29], [30]), ([31, 31], [31]), ([31, 32], [31, 32]), ([33, 32, 0, 1, 2, 3, 4, 5, 6, 7, 8, 9, 10, 11, 12, 13, 14, 15, 16, 17, 18, 19, 20, 21, 22, 23, 24, 25, 26, 27, 28, 29, 30, 31, 32, 33], [33])])
def intervalmonlaw05_LabelsMatch.B5 : List Nat := [0, 0, 3, 0, 0, 31, 63, 127, 255, 255, 1023, 255, 255, 8191, 16383, 32767, 65535, 131071, 131071, 393215, 1048575, 131071, 131071, 4325375, 16777215, 33554431, 67108863, 134217727, 268435455, 536870911, 1073741823, 2147483647, 4294967295, 8589934591, 17179869183]
theorem intervalmonlaw05_LabelsMatch.tab5 : rtab .any (opsOf Try.f8 5) = intervalmonlaw05_LabelsMatch.T5 := by kernel_rfl
theorem intervalmonlaw05_LabelsMatch.bits5 : waitsOk intervalmonlaw05_LabelsMatch.T5.2 intervalmonlaw05_LabelsMatch.B5 = true := by kernel_rfl
set_option maxHeartbeats 8000000 in
set_option maxRecDepth 100000 in
theorem intervalmonlaw05_LabelsMatch.calls (k : Nat) (A0 : Option Addr) (c0 : Nat) (l0 : List Int) (A1 : Option Addr) (c1 : Nat) (l1 : List Int) (a2_0 : ByteArray) (a2_1 : Int) (a2_2 : ByteArray) (r : Bool) (w : World) (hr0 : Kd.C (Kd.int .i64) w A0 l0.length l0) (hc0 : l0.length ≤ c0) (hr1 : Kd.C (Kd.int .i64) w A1 l1.length l1) (hc1 : l1.length ≤ c1) (h : intervalmonlaw05_LabelsMatch.f k l0 l1 a2_0 a2_1 a2_2 = some r) (hT : r = true := by first | rfl | assumption) :
  Calls Try.prog 8 #[.slice A0 l0.length c0, .slice A1 l1.length c1, .agg #[.string a2_0, .int .i64 a2_1, .string a2_2]] w fun e w' => e = .returned (.bool r) ∧ Below w.heap.size w w' := by
 have hu24 := Try.underlying24
 have HT0 := Aside0.mk hT
 clear hT
 have HR0 := Aside0.mk hr0
 have HC0 := Aside0.mk hc0
 clear hr0 hc0
 have HR1 := Aside0.mk hr1
 have HC1 := Aside0.mk hc1
 clear hr1 hc1
 have HB := Aside0.mk (Below.refl w.heap.size w)
 have H : ((intervalmonref05_Set.f k l0).bind fun t421 => ((intervalmonref05_Matchers.f k l1).bind fun t424 => ((intervalmonref05_Matchers.f k l1).bind fun t427 => ((some (([(⟨a2_0, a2_1, a2_2⟩ : S24)] : List (S24)) : List (S24))).bind fun y430 => (if t427.length + y430.length < 3518437208883 then ((some (t427 ++ y430 : List (S24))).bind fun y433 => ((intervalmonref01_Around.f a2_1 4).bind fun t436 => ((labels_Match.f k t421 t424).bind fun t438 => ((intervalmonref05_Match.f k t421 t424).bind fun t439 => (if (t438 == t439) = true then ((labels_Match.f k t421 y433).bind fun t440 => ((intervalmonref05_Match.f k t421 y433).bind fun t441 => (if (t440 == t441) = true then ((labels_Match.f k t421 (([(⟨a2_0, t436, a2_2⟩ : S24)] : List (S24)))).bind fun t445 => ((intervalmonref05_Match.f k t421 (([(⟨a2_0, t436, a2_2⟩ : S24)] : List (S24)))).bind fun t449 => (if (t445 == t449) = true then ((labels_Match.f k t421 ([] : List (S24))).bind fun t450 => (if t450 = true then ((intervalmonlaw05_lives.f).bind fun t451 => (some t451)) else (some false))) else (some false)))) else (some false)))) else (some false)))))) else (none)))))) = some r := h
 clear h
 replace H := Option.bind_eq_some_iff.mp H
 obtain ⟨t421, A40, H⟩ := H
 replace H : ((intervalmonref05_Matchers.f k l1).bind fun t424 => ((intervalmonref05_Matchers.f k l1).bind fun t427 => ((some (([(⟨a2_0, a2_1, a2_2⟩ : S24)] : List (S24)) : List (S24))).bind fun y430 => (if t427.length + y430.length < 3518437208883 then ((some (t427 ++ y430 : List (S24))).bind fun y433 => ((intervalmonref01_Around.f a2_1 4).bind fun t436 => ((labels_Match.f k t421 t424).bind fun t438 => ((intervalmonref05_Match.f k t421 t424).bind fun t439 => (if (t438 == t439) = true then ((labels_Match.f k t421 y433).bind fun t440 => ((intervalmonref05_Match.f k t421 y433).bind fun t441 => (if (t440 == t441) = true then ((labels_Match.f k t421 (([(⟨a2_0, t436, a2_2⟩ : S24)] : List (S24)))).bind fun t445 => ((intervalmonref05_Match.f k t421 (([(⟨a2_0, t436, a2_2⟩ : S24)] : List (S24)))).bind fun t449 => (if (t445 == t449) = true then ((labels_Match.f k t421 ([] : List (S24))).bind fun t450 => (if t450 = true then ((intervalmonlaw05_lives.f).bind fun t451 => (some t451)) else (some false))) else (some false)))) else (some false)))) else (some false)))))) else (none))))) = some r := H
 have A4 := Aside0.mk A40
 clear A40
 replace H := Option.bind_eq_some_iff.mp H
 obtain ⟨t424, A50, H⟩ := H
 replace H : ((intervalmonref05_Matchers.f k l1).bind fun t427 => ((some (([(⟨a2_0, a2_1, a2_2⟩ : S24)] : List (S24)) : List (S24))).bind fun y430 => (if t427.length + y430.length < 3518437208883 then ((some (t427 ++ y430 : List (S24))).bind fun y433 => ((intervalmonref01_Around.f a2_1 4).bind fun t436 => ((labels_Match.f k t421 t424).bind fun t438 => ((intervalmonref05_Match.f k t421 t424).bind fun t439 => (if (t438 == t439) = true then ((labels_Match.f k t421 y433).bind fun t440 => ((intervalmonref05_Match.f k t421 y433).bind fun t441 => (if (t440 == t441) = true then ((labels_Match.f k t421 (([(⟨a2_0, t436, a2_2⟩ : S24)] : List (S24)))).bind fun t445 => ((intervalmonref05_Match.f k t421 (([(⟨a2_0, t436, a2_2⟩ : S24)] : List (S24)))).bind fun t449 => (if (t445 == t449) = true then ((labels_Match.f k t421 ([] : List (S24))).bind fun t450 => (if t450 = true then ((intervalmonlaw05_lives.f).bind fun t451 => (some t451)) else (some false))) else (some false)))) else (some false)))) else (some false)))))) else (none)))) = some r := H
 have A5 := Aside0.mk A50
 clear A50
 replace H := Option.bind_eq_some_iff.mp H
 obtain ⟨t427, A60, H⟩ := H
 replace H : ((some (([(⟨a2_0, a2_1, a2_2⟩ : S24)] : List (S24)) : List (S24))).bind fun y430 => (if t427.length + y430.length < 3518437208883 then ((some (t427 ++ y430 : List (S24))).bind fun y433 => ((intervalmonref01_Around.f a2_1 4).bind fun t436 => ((labels_Match.f k t421 t424).bind fun t438 => ((intervalmonref05_Match.f k t421 t424).bind fun t439 => (if (t438 == t439) = true then ((labels_Match.f k t421 y433).bind fun t440 => ((intervalmonref05_Match.f k t421 y433).bind fun t441 => (if (t440 == t441) = true then ((labels_Match.f k t421 (([(⟨a2_0, t436, a2_2⟩ : S24)] : List (S24)))).bind fun t445 => ((intervalmonref05_Match.f k t421 (([(⟨a2_0, t436, a2_2⟩ : S24)] : List (S24)))).bind fun t449 => (if (t445 == t449) = true then ((labels_Match.f k t421 ([] : List (S24))).bind fun t450 => (if t450 = true then ((intervalmonlaw05_lives.f).bind fun t451 => (some t451)) else (some false))) else (some false)))) else (some false)))) else (some false)))))) else (none))) = some r := H
 have A6 := Aside0.mk A60
 clear A60
 obtain ⟨y430, hy430⟩ : ∃ y_ : List (S24), y_ = (([(⟨a2_0, a2_1, a2_2⟩ : S24)] : List (S24))) := ⟨_, rfl⟩
 replace H : (if t427.length + y430.length < 3518437208883 then ((some (t427 ++ y430 : List (S24))).bind fun y433 => ((intervalmonref01_Around.f a2_1 4).bind fun t436 => ((labels_Match.f k t421 t424).bind fun t438 => ((intervalmonref05_Match.f k t421 t424).bind fun t439 => (if (t438 == t439) = true then ((labels_Match.f k t421 y433).bind fun t440 => ((intervalmonref05_Match.f k t421 y433).bind fun t441 => (if (t440 == t441) = true then ((labels_Match.f k t421 (([(⟨a2_0, t436, a2_2⟩ : S24)] : List (S24)))).bind fun t445 => ((intervalmonref05_Match.f k t421 (([(⟨a2_0, t436, a2_2⟩ : S24)] : List (S24)))).bind fun t449 => (if (t445 == t449) = true then ((labels_Match.f k t421 ([] : List (S24))).bind fun t450 => (if t450 = true then ((intervalmonlaw05_lives.f).bind fun t451 => (some t451)) else (some false))) else (some false)))) else (some false)))) else (some false)))))) else (none)) = some r := by first | (rw [hy430]; with_reducible exact H) | (have H2_ := (Option.bind_some _ _).symm.trans H; rw [hy430]; with_reducible exact H2_) | (have H2_ := (Option.bind_some _ _).symm.trans H; with_reducible exact H2_) | with_reducible exact H | (rw [hy430]; exact H) | exact H
 have Ny430 := Aside0.mk hy430
 clear hy430
 by_cases c7 : t427.length + y430.length < 3518437208883
 ·rw [if_pos c7] at H
  have LMc7 := Aside0.mk c7
  clear c7
  obtain ⟨y433, hy433⟩ : ∃ y_ : List (S24), y_ = (t427 ++ y430) := ⟨_, rfl⟩
  replace H : ((intervalmonref01_Around.f a2_1 4).bind fun t436 => ((labels_Match.f k t421 t424).bind fun t438 => ((intervalmonref05_Match.f k t421 t424).bind fun t439 => (if (t438 == t439) = true then ((labels_Match.f k t421 y433).bind fun t440 => ((intervalmonref05_Match.f k t421 y433).bind fun t441 => (if (t440 == t441) = true then ((labels_Match.f k t421 (([(⟨a2_0, t436, a2_2⟩ : S24)] : List (S24)))).bind fun t445 => ((intervalmonref05_Match.f k t421 (([(⟨a2_0, t436, a2_2⟩ : S24)] : List (S24)))).bind fun t449 => (if (t445 == t449) = true then ((labels_Match.f k t421 ([] : List (S24))).bind fun t450 => (if t450 = true then ((intervalmonlaw05_lives.f).bind fun t451 => (some t451)) else (some false))) else (some false)))) else (some false)))) else (some false))))) = some r := by first | (rw [hy433]; with_reducible exact H) | (have H2_ := (Option.bind_some _ _).symm.trans H; rw [hy433]; with_reducible exact H2_) | (have H2_ := (Option.bind_some _ _).symm.trans H; with_reducible exact H2_) | with_reducible exact H | (rw [hy433]; exact H) | exact H
  have Ny433 := Aside0.mk hy433
  clear hy433
  replace H := Option.bind_eq_some_iff.mp H
  obtain ⟨t436, A80, H⟩ := H
  replace H : ((labels_Match.f k t421 t424).bind fun t438 => ((intervalmonref05_Match.f k t421 t424).bind fun t439 => (if (t438 == t439) = true then ((labels_Match.f k t421 y433).bind fun t440 => ((intervalmonref05_Match.f k t421 y433).bind fun t441 => (if (t440 == t441) = true then ((labels_Match.f k t421 (([(⟨a2_0, t436, a2_2⟩ : S24)] : List (S24)))).bind fun t445 => ((intervalmonref05_Match.f k t421 (([(⟨a2_0, t436, a2_2⟩ : S24)] : List (S24)))).bind fun t449 => (if (t445 == t449) = true then ((labels_Match.f k t421 ([] : List (S24))).bind fun t450 => (if t450 = true then ((intervalmonlaw05_lives.f).bind fun t451 => (some t451)) else (some false))) else (some false)))) else (some false)))) else (some false)))) = some r := H
  have A8 := Aside0.mk A80
  clear A80
  replace H := Option.bind_eq_some_iff.mp H
  obtain ⟨t438, A90, H⟩ := H
  replace H : ((intervalmonref05_Match.f k t421 t424).bind fun t439 => (if (t438 == t439) = true then ((labels_Match.f k t421 y433).bind fun t440 => ((intervalmonref05_Match.f k t421 y433).bind fun t441 => (if (t440 == t441) = true then ((labels_Match.f k t421 (([(⟨a2_0, t436, a2_2⟩ : S24)] : List (S24)))).bind fun t445 => ((intervalmonref05_Match.f k t421 (([(⟨a2_0, t436, a2_2⟩ : S24)] : List (S24)))).bind fun t449 => (if (t445 == t449) = true then ((labels_Match.f k t421 ([] : List (S24))).bind fun t450 => (if t450 = true then ((intervalmonlaw05_lives.f).bind fun t451 => (some t451)) else (some false))) else (some false)))) else (some false)))) else (some false))) = some r := H
  have A9 := Aside0.mk A90
  clear A90
  replace H := Option.bind_eq_some_iff.mp H
  obtain ⟨t439, A100, H⟩ := H
  replace H : (if (t438 == t439) = true then ((labels_Match.f k t421 y433).bind fun t440 => ((intervalmonref05_Match.f k t421 y433).bind fun t441 => (if (t440 == t441) = true then ((labels_Match.f k t421 (([(⟨a2_0, t436, a2_2⟩ : S24)] : List (S24)))).bind fun t445 => ((intervalmonref05_Match.f k t421 (([(⟨a2_0, t436, a2_2⟩ : S24)] : List (S24)))).bind fun t449 => (if (t445 == t449) = true then ((labels_Match.f k t421 ([] : List (S24))).bind fun t450 => (if t450 = true then ((intervalmonlaw05_lives.f).bind fun t451 => (some t451)) else (some false))) else (some false)))) else (some false)))) else (some false)) = some r := H
  have A10 := Aside0.mk A100
  clear A100
  by_cases c11 : (t438 == t439) = true
  ·rw [if_pos c11] at H
   have c11b0 : (t438 == t439) = true := c11
   (try (have c11b1 : decide (t438 = t439) = true := by simpa using c11))
   (try (have c11b2 : (t438 == t439) = true := by simpa using c11))
   clear c11
   replace H := Option.bind_eq_some_iff.mp H
   obtain ⟨t440, A120, H⟩ := H
   replace H : ((intervalmonref05_Match.f k t421 y433).bind fun t441 => (if (t440 == t441) = true then ((labels_Match.f k t421 (([(⟨a2_0, t436, a2_2⟩ : S24)] : List (S24)))).bind fun t445 => ((intervalmonref05_Match.f k t421 (([(⟨a2_0, t436, a2_2⟩ : S24)] : List (S24)))).bind fun t449 => (if (t445 == t449) = true then ((labels_Match.f k t421 ([] : List (S24))).bind fun t450 => (if t450 = true then ((intervalmonlaw05_lives.f).bind fun t451 => (some t451)) else (some false))) else (some false)))) else (some false))) = some r := H
   have A12 := Aside0.mk A120
   clear A120
   replace H := Option.bind_eq_some_iff.mp H
   obtain ⟨t441, A130, H⟩ := H
   replace H : (if (t440 == t441) = true then ((labels_Match.f k t421 (([(⟨a2_0, t436, a2_2⟩ : S24)] : List (S24)))).bind fun t445 => ((intervalmonref05_Match.f k t421 (([(⟨a2_0, t436, a2_2⟩ : S24)] : List (S24)))).bind fun t449 => (if (t445 == t449) = true then ((labels_Match.f k t421 ([] : List (S24))).bind fun t450 => (if t450 = true then ((intervalmonlaw05_lives.f).bind fun t451 => (some t451)) else (some false))) else (some false)))) else (some false)) = some r := H
   have A13 := Aside0.mk A130
   clear A130
   by_cases c14 : (t440 == t441) = true
   ·rw [if_pos c14] at H
    have c14b0 : (t440 == t441) = true := c14
    (try (have c14b1 : decide (t440 = t441) = true := by simpa using c14))
    (try (have c14b2 : (t440 == t441) = true := by simpa using c14))
    clear c14
    obtain ⟨y442, hy442⟩ : ∃ y_ : List (S24), y_ = (([(⟨a2_0, t436, a2_2⟩ : S24)] : List (S24))) := ⟨_, rfl⟩
    replace H : ((labels_Match.f k t421 y442).bind fun t445 => ((intervalmonref05_Match.f k t421 (([(⟨a2_0, t436, a2_2⟩ : S24)] : List (S24)))).bind fun t449 => (if (t445 == t449) = true then ((labels_Match.f k t421 ([] : List (S24))).bind fun t450 => (if t450 = true then ((intervalmonlaw05_lives.f).bind fun t451 => (some t451)) else (some false))) else (some false)))) = some r := by first | (rw [hy442]; with_reducible exact H) | (have H2_ := (Option.bind_some _ _).symm.trans H; rw [hy442]; with_reducible exact H2_) | (have H2_ := (Option.bind_some _ _).symm.trans H; with_reducible exact H2_) | with_reducible exact H | (rw [hy442]; exact H) | exact H
    have Ny442 := Aside0.mk hy442
    clear hy442
    replace H := Option.bind_eq_some_iff.mp H
    obtain ⟨t445, A150, H⟩ := H
    replace H : ((intervalmonref05_Match.f k t421 (([(⟨a2_0, t436, a2_2⟩ : S24)] : List (S24)))).bind fun t449 => (if (t445 == t449) = true then ((labels_Match.f k t421 ([] : List (S24))).bind fun t450 => (if t450 = true then ((intervalmonlaw05_lives.f).bind fun t451 => (some t451)) else (some false))) else (some false))) = some r := H
    have A15 := Aside0.mk A150
    clear A150
    obtain ⟨y446, hy446⟩ : ∃ y_ : List (S24), y_ = (([(⟨a2_0, t436, a2_2⟩ : S24)] : List (S24))) := ⟨_, rfl⟩
    replace H : ((intervalmonref05_Match.f k t421 y446).bind fun t449 => (if (t445 == t449) = true then ((labels_Match.f k t421 ([] : List (S24))).bind fun t450 => (if t450 = true then ((intervalmonlaw05_lives.f).bind fun t451 => (some t451)) else (some false))) else (some false))) = some r := by first | (rw [hy446]; with_reducible exact H) | (have H2_ := (Option.bind_some _ _).symm.trans H; rw [hy446]; with_reducible exact H2_) | (have H2_ := (Option.bind_some _ _).symm.trans H; with_reducible exact H2_) | with_reducible exact H | (rw [hy446]; exact H) | exact H
    have Ny446 := Aside0.mk hy446
    clear hy446
    replace H := Option.bind_eq_some_iff.mp H
    obtain ⟨t449, A160, H⟩ := H
    replace H : (if (t445 == t449) = true then ((labels_Match.f k t421 ([] : List (S24))).bind fun t450 => (if t450 = true then ((intervalmonlaw05_lives.f).bind fun t451 => (some t451)) else (some false))) else (some false)) = some r := H
    have A16 := Aside0.mk A160
    clear A160
    by_cases c17 : (t445 == t449) = true
    ·rw [if_pos c17] at H
     have c17b0 : (t445 == t449) = true := c17
     (try (have c17b1 : decide (t445 = t449) = true := by simpa using c17))
     (try (have c17b2 : (t445 == t449) = true := by simpa using c17))
     clear c17
     replace H := Option.bind_eq_some_iff.mp H
     obtain ⟨t450, A180, H⟩ := H
     replace H : (if t450 = true then ((intervalmonlaw05_lives.f).bind fun t451 => (some t451)) else (some false)) = some r := H
     have A18 := Aside0.mk A180
     clear A180
     by_cases c19 : t450 = true
     ·subst c19
      have H1 : ((intervalmonlaw05_lives.f).bind fun t451 => (some t451)) = some r := by rw [if_pos rfl] at H; exact H
      clear H
      have H := H1
      clear H1
      replace H := Option.bind_eq_some_iff.mp H
      obtain ⟨t451, A200, H⟩ := H
      replace H : (some t451) = some r := H
      have A20 := Aside0.mk A200
      clear A200
      obtain rfl := Option.some.inj H
      go_enter Try.func8, Try.ntmps8
      try go_wp2_with (first | ((with_reducible refine gate_dst (N := 5) rfl ?_); (try (refine gate_guard (by rfl) ?_; dsimp only)); refine box_event ?hg (N := 5) ?hd (cs := #[.string a2_0, .int .i64 a2_1, .string a2_2]) (t := 24) ?hr ?_; (case hd => rfl); (case hg => rfl); (case hr => first | (go_simp; done) | (go_simp; rfl)); intro gb420 hg w21 hbox hb; have n0_ := Aside0.mk (below_step (hq HB) hb); have n1_ := Aside0.mk (hbox); have n2_ := Aside0.mk ((by rw [hg]; exact (below_size (hq HB)) : w.heap.size ≤ gb420)); have n3_ := Aside0.mk ((by rw [hg]; exact (below_size (hq HB)) : w.heap.size ≤ gb420)); clear HB; have HB := n0_; have BK420 := n1_; have GW420 := n2_; have GE420 := n3_; clear n0_ n1_ n2_ n3_; clear hb hbox hg) | ((with_reducible refine gate_callee (f := 29) rfl ?_); refine goesL_ (some 12) rfl rfl Try.func29 (by kernel_rfl) rfl #[.slice A0 l0.length c0] rfl aq ?_; (with_reducible refine (intervalmonref05_Set.calls k _ _ l0 t421 _ ?side1 ?side2 A4.out).mono ?_); (case side1 => repeat (first | exact (Kd.C_below HR0.out HB.out) | (with_reducible refine Kd.C_alloc ?_ _) | (with_reducible refine Kd.C_drewN ?_ _) | (with_reducible refine Kd.C_drew ?_))); (case side2 => exact HC0.out); rintro e w22 ⟨v422, rfl, ho0, hb⟩; refine ⟨_, rfl, ?_⟩; have n0_ := Aside0.mk (Kd.R_lower ho0 (below_size (hq HB))); have n1_ := Aside0.mk (blk_below (g := gb420) (o := .cells #[.string a2_0, .int .i64 a2_1, .string a2_2] 24 (0, 0)) (bq BK420) hb); have n2_ := Aside0.mk (below_step (hq HB) hb); clear BK420; clear HB; have HO423 := n0_; have BK420 := n1_; have HB := n2_; clear n0_ n1_ n2_; (try clear hb); (try clear hb2); (try clear hk); (try clear hi); (try clear ho0)) | ((with_reducible refine gate_callee (f := 35) rfl ?_); refine goesL_ (some 14) rfl rfl Try.func35 (by kernel_rfl) rfl #[.slice A1 l1.length c1] rfl aq ?_; (with_reducible refine (intervalmonref05_Matchers.calls k _ _ l1 t424 _ ?side1 ?side2 A5.out).mono ?_); (case side1 => repeat (first | exact (Kd.C_below HR1.out HB.out) | (with_reducible refine Kd.C_alloc ?_ _) | (with_reducible refine Kd.C_drewN ?_ _) | (with_reducible refine Kd.C_drew ?_))); (case side2 => exact HC1.out); rintro e w23 ⟨v425, rfl, ho0, hb⟩; refine ⟨_, rfl, ?_⟩; have n0_ := Aside0.mk (Kd.R_below (rq HO423) hb); have n1_ := Aside0.mk (Kd.R_lower (Kd.R_newB ho0 (g := gb420) (o := .cells #[.string a2_0, .int .i64 a2_1, .string a2_2] 24 (0, 0)) (bq BK420)) (below_size (hq HB))); have n2_ := Aside0.mk (blk_below (g := gb420) (o := .cells #[.string a2_0, .int .i64 a2_1, .string a2_2] 24 (0, 0)) (bq BK420) hb); have n3_ := Aside0.mk (below_step (hq HB) hb); clear HO423; clear BK420; clear HB; have HO423 := n0_; have HO426 := n1_; have BK420 := n2_; have HB := n3_; clear n0_ n1_ n2_ n3_; (try clear hb); (try clear hb2); (try clear hk); (try clear hi); (try clear ho0)))
      have n0_ := Aside0.mk (Kd.R_drew HO423.out)
      have n1_ := Aside0.mk (Kd.R_drew HO426.out)
      have n2_ := Aside0.mk (blk_drew BK420.out)
      have n3_ := Aside0.mk (below_drew1 HB.out)
      clear HO423
      clear HO426
      clear BK420
      clear HB
      have HO423 := n0_
      have HO426 := n1_
      have BK420 := n2_
      have HB := n3_
      clear n0_ n1_ n2_ n3_
      refine start_ (n := 6) (S := fun w' => w'.cell? ⟨gb420, 0, none⟩ = some (.string a2_0) ∧ w'.cell? ⟨gb420, 1, none⟩ = some (.int .i64 a2_1) ∧ w'.cell? ⟨gb420, 2, none⟩ = some (.string a2_2)) (ds := []) #[false, false, false, false, false, false] (by kernel_rfl) rfl rfl ⟨(blk_cell BK420.out 0).trans rfl, (blk_cell BK420.out 1).trans rfl, (blk_cell BK420.out 2).trans rfl⟩ (fun hHeld => ?_)
      generalize w23.drew = w24 at HO423 HO426 BK420 HB hHeld ⊢
      refine pure_ (i := 0) (N := some 15) (v := ?_) (a' := ?_) #[true, false, false, false, false, false] rfl rfl (by kernel_rfl) (fun _ _ _ h => h) (Or.inl ⟨by rfl, ?_⟩) ?_ ?_
      rotate_left
      ·intro w'
       go_simp
       with_reducible rfl
      rotate_left
      ·simp only [Act.put, List.setIfInBounds_toArray, List.set_cons_zero, List.set_cons_succ, i64_w, i32_w]
       rfl
      refine take_ (i := 2) (N := some 17) (v := ?_) (a' := ?_) #[true, false, true, false, false, false] rfl rfl (by kernel_rfl) (fun _ _ _ h => h) (Or.inl ⟨by rfl, ?_⟩) hHeld ?_ ?_
      rotate_left
      ·rintro w' ⟨s0, s1, s2⟩
       go_simp
       with_reducible rfl
      rotate_left
      ·simp only [Act.put, List.setIfInBounds_toArray, List.set_cons_zero, List.set_cons_succ, i64_w, i32_w]
       rfl
      refine join_ (σ := Value × Value) 2 #[true, true, true, true, false, false] (fun s_ => [(16, s_.1), (18, s_.2)]) (fun s_ w' => (w'.cell? ⟨gb420, 0, none⟩ = some (.string a2_0) ∧ w'.cell? ⟨gb420, 1, none⟩ = some (.int .i64 a2_1) ∧ w'.cell? ⟨gb420, 2, none⟩ = some (.string a2_2)) ∧ (Kd.R k33 33 w' w.heap.size (fun _ => True) v422 t421) ∧ (Kd.R k24 24 w' w.heap.size (fun k_ => some k_ ≠ (s_.1 : Value).ownBlock ∧ some k_ ≠ (s_.2 : Value).ownBlock ∧ k_ ≠ gb420) v425 t424) ∧ (Kd.R k24 24 w' w.heap.size (fun k_ => some k_ ≠ (v425 : Value).ownBlock ∧ some k_ ≠ (s_.2 : Value).ownBlock ∧ k_ ≠ gb420) s_.1 t427) ∧ (Kd.R k24 24 w' w.heap.size (fun k_ => some k_ ≠ (v425 : Value).ownBlock ∧ some k_ ≠ (s_.1 : Value).ownBlock ∧ k_ ≠ gb420) s_.2 y430) ∧ (w'.heap[gb420]? = some (.cells #[.string a2_0, .int .i64 a2_1, .string a2_2] 24 (0, 0))) ∧ (Below w.heap.size w w')) ?_ ?_
      rotate_left
      ·intro hCont
       refine two_ (i := 1) (j := 3) (Ni := some 16) (Nj := some 18) #[true, true, true, false, false, false] #[true, false, true, true, false, false] rfl rfl rfl rfl (by kernel_rfl) (by decide) (by decide) (fun K hK => ?_) (fun K hK => ?_)
       ·skip
        refine goes_ Try.func35 (by kernel_rfl) rfl #[.slice A1 l1.length c1] (by rfl) rfl rfl aq ?_
        with_reducible refine (intervalmonref05_Matchers.calls k _ _ l1 t427 _ ?side1 ?side2 A6.out).mono ?_
        (case side1 => repeat (first | exact (Kd.C_below HR1.out HB.out) | (with_reducible refine Kd.C_alloc ?_ _) | (with_reducible refine Kd.C_drewN ?_ _) | (with_reducible refine Kd.C_drew ?_)))
        (case side2 => exact HC1.out)
        rintro e w25 ⟨v428, rfl, ho0, hb⟩
        refine ⟨_, rfl, ?_⟩
        have n0_ := Aside0.mk (Kd.R_below (rq HO423) hb)
        have n1_ := Aside0.mk (Kd.R_elder' (rq HO426) (Kd.R_base ho0) hb)
        have n2_ := Aside0.mk (Kd.R_lower (Kd.R_newB (Kd.R_new' ho0 (Kd.R_lt (rq HO426))) (g := gb420) (o := .cells #[.string a2_0, .int .i64 a2_1, .string a2_2] 24 (0, 0)) (bq BK420)) (below_size (hq HB)))
        have n3_ := Aside0.mk (blk_below (g := gb420) (o := .cells #[.string a2_0, .int .i64 a2_1, .string a2_2] 24 (0, 0)) (bq BK420) hb)
        have n4_ := Aside0.mk (below_step (hq HB) hb)
        clear HO423
        clear HO426
        clear BK420
        clear HB
        have HO423 := n0_
        have HO426 := n1_
        have HO429 := n2_
        have BK420 := n3_
        have HB := n4_
        clear n0_ n1_ n2_ n3_ n4_
        (try clear hb)
        (try clear hb2)
        (try clear hk)
        (try clear hi)
        (try clear ho0)
        refine hK.out _ _ ⟨(blk_cell BK420.out 0).trans rfl, (blk_cell BK420.out 1).trans rfl, (blk_cell BK420.out 2).trans rfl⟩ (fun hHeld => ?_)
        clear hK K
        refine norm_ (a' := ?_) ?_ ?_
        rotate_left
        ·show Act.put _ (some 16) _ = _
         simp only [Act.put, List.setIfInBounds_toArray, List.set_cons_zero, List.set_cons_succ, i64_w, i32_w]
         rfl
        refine one_ (i := 3) (N := some 18) #[true, true, true, true, false, false] rfl rfl (by kernel_rfl) (by decide) (fun K hK => ?_)
        refine Kd.R_lit_step k24 _ 24 ?hg (N := 18) ?hd (xs := ([(⟨a2_0, a2_1, a2_2⟩ : S24)] : List (S24))) (inner := [.string a2_0, .int .i64 a2_1, .string a2_2]) (ok := fun _ => True) (okp := fun _ => True) ?hr ?hp (fun _ hk => hk) trivial (Below.refl _ _) (Nat.le_refl _) (by simp) ?_; (case hd => rfl); (case hg => rfl); (case hr => first | (go_simp; done) | (go_simp; rfl)); (case hp => exact (Reps.c3 (show Kd.M k24 _ _ _ (⟨a2_0, a2_1, a2_2⟩ : S24) [.string a2_0, .int .i64 a2_1, .string a2_2] from (k24_mkM _ _ _ (⟨a2_0, a2_1, a2_2⟩ : S24) )) (Reps.none _ _)))
        intro v431 w26 ho27 hb hg_ hnew_
        clear hg_ hnew_
        (first | rw [← Ny430.out] at ho27 | (simp only [Int.reduceToNat] at ho27; rw [← Ny430.out] at ho27))
        have n0_ := Aside0.mk (Kd.R_below (rq HO423) hb)
        have n1_ := Aside0.mk (Kd.R_elder' (rq HO426) (Kd.R_base ho27) hb)
        have n2_ := Aside0.mk (Kd.R_elder' (rq HO429) (Kd.R_base ho27) hb)
        have n3_ := Aside0.mk (Kd.R_lower (Kd.R_newB (Kd.R_new' (Kd.R_new' ho27 (Kd.R_lt (rq HO426))) (Kd.R_lt (rq HO429))) (g := gb420) (o := .cells #[.string a2_0, .int .i64 a2_1, .string a2_2] 24 (0, 0)) (bq BK420)) (below_size (hq HB)))
        have n4_ := Aside0.mk (blk_below (g := gb420) (o := .cells #[.string a2_0, .int .i64 a2_1, .string a2_2] 24 (0, 0)) (bq BK420) hb)
        have n5_ := Aside0.mk (below_step (hq HB) hb)
        clear HO423
        clear HO426
        clear HO429
        clear BK420
        clear HB
        have HO423 := n0_
        have HO426 := n1_
        have HO429 := n2_
        have HO432 := n3_
        have BK420 := n4_
        have HB := n5_
        clear n0_ n1_ n2_ n3_ n4_ n5_
        clear hb ho27
        refine hK.out _ _ ⟨(blk_cell BK420.out 0).trans rfl, (blk_cell BK420.out 1).trans rfl, (blk_cell BK420.out 2).trans rfl⟩ (fun hHeld => ?_)
        clear hK K
        refine norm_ (a' := ?_) ?_ ?_
        rotate_left
        ·show Act.put _ (some 18) _ = _
         simp only [Act.put, List.setIfInBounds_toArray, List.set_cons_zero, List.set_cons_succ, i64_w, i32_w]
         rfl
        exact norm_ (by simp only [putAll, Act.put, List.setIfInBounds_toArray, List.set_cons_zero, List.set_cons_succ]) (hCont (v428, v431) _ ⟨hHeld, (rq HO423), (by (with_reducible repeat (first | apply Kd.R_alloc | apply Kd.R_drewN | apply Kd.R_drew)); exact Kd.R_mono HO426.out (fun _ hk => ⟨hk.1.2, ⟨hk.2, hk.1.1.2⟩⟩)), (by (with_reducible repeat (first | apply Kd.R_alloc | apply Kd.R_drewN | apply Kd.R_drew)); exact Kd.R_mono HO429.out (fun _ hk => ⟨hk.1.1.2, ⟨hk.2, hk.1.2⟩⟩)), (by (with_reducible repeat (first | apply Kd.R_alloc | apply Kd.R_drewN | apply Kd.R_drew)); exact Kd.R_mono HO432.out (fun _ hk => ⟨hk.1.1.2, ⟨hk.1.2, hk.2⟩⟩)), (bq BK420), (hq HB)⟩)
       ·skip
        refine Kd.R_lit_step k24 _ 24 ?hg (N := 18) ?hd (xs := ([(⟨a2_0, a2_1, a2_2⟩ : S24)] : List (S24))) (inner := [.string a2_0, .int .i64 a2_1, .string a2_2]) (ok := fun _ => True) (okp := fun _ => True) ?hr ?hp (fun _ hk => hk) trivial (Below.refl _ _) (Nat.le_refl _) (by simp) ?_; (case hd => rfl); (case hg => rfl); (case hr => first | (go_simp; done) | (go_simp; rfl)); (case hp => exact (Reps.c3 (show Kd.M k24 _ _ _ (⟨a2_0, a2_1, a2_2⟩ : S24) [.string a2_0, .int .i64 a2_1, .string a2_2] from (k24_mkM _ _ _ (⟨a2_0, a2_1, a2_2⟩ : S24) )) (Reps.none _ _)))
        intro v431 w25 ho26 hb hg_ hnew_
        clear hg_ hnew_
        (first | rw [← Ny430.out] at ho26 | (simp only [Int.reduceToNat] at ho26; rw [← Ny430.out] at ho26))
        have n0_ := Aside0.mk (Kd.R_below (rq HO423) hb)
        have n1_ := Aside0.mk (Kd.R_elder' (rq HO426) (Kd.R_base ho26) hb)
        have n2_ := Aside0.mk (Kd.R_lower (Kd.R_newB (Kd.R_new' ho26 (Kd.R_lt (rq HO426))) (g := gb420) (o := .cells #[.string a2_0, .int .i64 a2_1, .string a2_2] 24 (0, 0)) (bq BK420)) (below_size (hq HB)))
        have n3_ := Aside0.mk (blk_below (g := gb420) (o := .cells #[.string a2_0, .int .i64 a2_1, .string a2_2] 24 (0, 0)) (bq BK420) hb)
        have n4_ := Aside0.mk (below_step (hq HB) hb)
        clear HO423
        clear HO426
        clear BK420
        clear HB
        have HO423 := n0_
        have HO426 := n1_
        have HO432 := n2_
        have BK420 := n3_
        have HB := n4_
        clear n0_ n1_ n2_ n3_ n4_
        clear hb ho26
        refine hK.out _ _ ⟨(blk_cell BK420.out 0).trans rfl, (blk_cell BK420.out 1).trans rfl, (blk_cell BK420.out 2).trans rfl⟩ (fun hHeld => ?_)
        clear hK K
        refine norm_ (a' := ?_) ?_ ?_
        rotate_left
        ·show Act.put _ (some 18) _ = _
         simp only [Act.put, List.setIfInBounds_toArray, List.set_cons_zero, List.set_cons_succ, i64_w, i32_w]
         rfl
        refine one_ (i := 1) (N := some 16) #[true, true, true, true, false, false] rfl rfl (by kernel_rfl) (by decide) (fun K hK => ?_)
        refine goes_ Try.func35 (by kernel_rfl) rfl #[.slice A1 l1.length c1] (by rfl) rfl rfl aq ?_
        with_reducible refine (intervalmonref05_Matchers.calls k _ _ l1 t427 _ ?side1 ?side2 A6.out).mono ?_
        (case side1 => repeat (first | exact (Kd.C_below HR1.out HB.out) | (with_reducible refine Kd.C_alloc ?_ _) | (with_reducible refine Kd.C_drewN ?_ _) | (with_reducible refine Kd.C_drew ?_)))
        (case side2 => exact HC1.out)
        rintro e w27 ⟨v428, rfl, ho0, hb⟩
        refine ⟨_, rfl, ?_⟩
        have n0_ := Aside0.mk (Kd.R_below (rq HO423) hb)
        have n1_ := Aside0.mk (Kd.R_elder' (rq HO426) (Kd.R_base ho0) hb)
        have n2_ := Aside0.mk (Kd.R_elder' (rq HO432) (Kd.R_base ho0) hb)
        have n3_ := Aside0.mk (Kd.R_lower (Kd.R_newB (Kd.R_new' (Kd.R_new' ho0 (Kd.R_lt (rq HO426))) (Kd.R_lt (rq HO432))) (g := gb420) (o := .cells #[.string a2_0, .int .i64 a2_1, .string a2_2] 24 (0, 0)) (bq BK420)) (below_size (hq HB)))
        have n4_ := Aside0.mk (blk_below (g := gb420) (o := .cells #[.string a2_0, .int .i64 a2_1, .string a2_2] 24 (0, 0)) (bq BK420) hb)
        have n5_ := Aside0.mk (below_step (hq HB) hb)
        clear HO423
        clear HO426
        clear HO432
        clear BK420
        clear HB
        have HO423 := n0_
        have HO426 := n1_
        have HO432 := n2_
        have HO429 := n3_
        have BK420 := n4_
        have HB := n5_
        clear n0_ n1_ n2_ n3_ n4_ n5_
        (try clear hb)
        (try clear hb2)
        (try clear hk)
        (try clear hi)
        (try clear ho0)
        refine hK.out _ _ ⟨(blk_cell BK420.out 0).trans rfl, (blk_cell BK420.out 1).trans rfl, (blk_cell BK420.out 2).trans rfl⟩ (fun hHeld => ?_)
        clear hK K
        refine norm_ (a' := ?_) ?_ ?_
        rotate_left
        ·show Act.put _ (some 16) _ = _
         simp only [Act.put, List.setIfInBounds_toArray, List.set_cons_zero, List.set_cons_succ, i64_w, i32_w]
         rfl
        exact norm_ (by simp only [putAll, Act.put, List.setIfInBounds_toArray, List.set_cons_zero, List.set_cons_succ]) (hCont (v428, v431) _ ⟨hHeld, (rq HO423), (by (with_reducible repeat (first | apply Kd.R_alloc | apply Kd.R_drewN | apply Kd.R_drew)); exact Kd.R_mono HO426.out (fun _ hk => ⟨hk.2, ⟨hk.1.2, hk.1.1.2⟩⟩)), (by (with_reducible repeat (first | apply Kd.R_alloc | apply Kd.R_drewN | apply Kd.R_drew)); exact Kd.R_mono HO429.out (fun _ hk => ⟨hk.1.1.2, ⟨hk.1.2, hk.2⟩⟩)), (by (with_reducible repeat (first | apply Kd.R_alloc | apply Kd.R_drewN | apply Kd.R_drew)); exact Kd.R_mono HO432.out (fun _ hk => ⟨hk.1.1.2, ⟨hk.2, hk.1.2⟩⟩)), (bq BK420), (hq HB)⟩)
      rintro ⟨v428, v431⟩ w28 ⟨hS_, h0_, h1_, h2_, h3_, h4_, h5_⟩
      have n0_ : Aside0 (Kd.R k33 33 w28 w.heap.size (fun _ => True) v422 t421) := ⟨h0_⟩
      have n1_ : Aside0 (Kd.R k24 24 w28 w.heap.size (fun k_ => some k_ ≠ (v428 : Value).ownBlock ∧ some k_ ≠ (v431 : Value).ownBlock ∧ k_ ≠ gb420) v425 t424) := ⟨h1_⟩
      have n2_ : Aside0 (Kd.R k24 24 w28 w.heap.size (fun k_ => some k_ ≠ (v425 : Value).ownBlock ∧ some k_ ≠ (v431 : Value).ownBlock ∧ k_ ≠ gb420) v428 t427) := ⟨h2_⟩
      have n3_ : Aside0 (Kd.R k24 24 w28 w.heap.size (fun k_ => some k_ ≠ (v425 : Value).ownBlock ∧ some k_ ≠ (v428 : Value).ownBlock ∧ k_ ≠ gb420) v431 y430) := ⟨h3_⟩
      have n4_ : Aside0 (w28.heap[gb420]? = some (.cells #[.string a2_0, .int .i64 a2_1, .string a2_2] 24 (0, 0))) := ⟨h4_⟩
      have n5_ : Aside0 (Below w.heap.size w w28) := ⟨h5_⟩
      clear HO423
      clear HO426
      clear BK420
      clear HB
      clear h0_ h1_ h2_ h3_ h4_ h5_
      have HO423 := n0_
      have HO426 := n1_
      have HO429 := n2_
      have HO432 := n3_
      have BK420 := n4_
      have HB := n5_
      clear n0_ n1_ n2_ n3_ n4_ n5_
      have hHeld : w28.cell? ⟨gb420, 0, none⟩ = some (.string a2_0) ∧ w28.cell? ⟨gb420, 1, none⟩ = some (.int .i64 a2_1) ∧ w28.cell? ⟨gb420, 2, none⟩ = some (.string a2_2) := hS_
      obtain ⟨Ao30, co30, eo30⟩ := Kd.R_slice HO432.out
      (first | subst eo30 | (injection eo30 with f1_ f2_ f3_; have f4_ := f1_.symm; have f5_ := f3_.symm; clear f1_ f2_ f3_; subst f4_; subst f5_))
      refine norm_ (a' := ?_) ?_ ?_
      rotate_left
      ·simp only [putAll, Act.put, List.setIfInBounds_toArray, List.set_cons_zero, List.set_cons_succ]
       rfl
      refine one_ (i := 4) (N := some 19) #[true, true, true, true, true, false] rfl rfl (by kernel_rfl) (by decide) (fun K hK => ?_)
      refine Kd.R_append_rows_step k24 (w0 := w) w.heap.size (by rfl) (.tmp 16) (.tmp 18) 50 24 (.agg #[(.string ⟨#[]⟩), (.int .i64 0), (.string ⟨#[]⟩)]) 40 rfl Try.underlying50 info24 rfl (by decide) (by omega) v428 t427 y430 _ _ _ (fun k_ => some k_ ≠ (v425 : Value).ownBlock ∧ some k_ ≠ (.slice Ao30 y430.length co30 : Value).ownBlock ∧ k_ ≠ gb420) (fun _ => False) rfl rfl ?aO ?aR (fun _ _ h => h) (fun _ h => h.elim) ?aF ?aB ?aS ?aL ?_
      (case aR => repeat (first | exact (Kd.R_reads' HO432.out).2.2 | (with_reducible refine Kd.C_alloc ?_ _) | (with_reducible refine Kd.C_drewN ?_ _) | (with_reducible refine Kd.C_drew ?_)))
      (case aB => exact (hq HB))
      (case aF => exact (fun k_ hk => ⟨Kd.fresh' (Kd.R_lt (rq HO426)) k_ hk, Kd.fresh' (Kd.R_lt (rq HO432)) k_ hk, Kd.freshB (g := gb420) (o := .cells #[.string a2_0, .int .i64 a2_1, .string a2_2] 24 (0, 0)) (bq BK420) k_ hk⟩))
      (case aO => exact (rq HO429))
      (case aS => exact (below_size (hq HB)))
      (case aL => have := LMc7.out; omega)
      intro v434 w29 ho hb hg hat
      rw [← Ny433.out] at ho
      have n0_ := Aside0.mk (blk_grown (g := gb420) (o := .cells #[.string a2_0, .int .i64 a2_1, .string a2_2] 24 (0, 0)) (bq BK420) hg (Kd.R_away HO429.out (fun _ hk => hk.2.2)))
      have n1_ := Aside0.mk (Kd.R_over' (rq HO423) (Kd.R_typed (rq HO429)) (by decide) hg)
      have n2_ := Aside0.mk (Kd.R_after (ok := (fun k_ => some k_ ≠ (.slice Ao30 y430.length co30 : Value).ownBlock ∧ k_ ≠ gb420)) (by (with_reducible repeat (first | apply Kd.R_alloc | apply Kd.R_drewN | apply Kd.R_drew)); exact Kd.R_mono HO426.out (fun _ hk => ⟨⟨hk.2.1, hk.2.2⟩, hk.1⟩)) hg hat)
      have n3_ := Aside0.mk (Kd.R_after (ok := (fun k_ => some k_ ≠ (v425 : Value).ownBlock ∧ k_ ≠ gb420)) (by (with_reducible repeat (first | apply Kd.R_alloc | apply Kd.R_drewN | apply Kd.R_drew)); exact Kd.R_mono HO432.out (fun _ hk => ⟨⟨hk.1, hk.2.2⟩, hk.2.1⟩)) hg hat)
      have n4_ := Aside0.mk (hb)
      have n5_ := Aside0.mk (ho)
      clear BK420
      clear HO423
      clear HO426
      clear HO432
      clear HB
      clear HO429
      have BK420 := n0_
      have HO423 := n1_
      have HO426 := n2_
      have HO432 := n3_
      have HB := n4_
      have HO435 := n5_
      clear n0_ n1_ n2_ n3_ n4_ n5_
      clear ho hb hg hat
      refine hK.out _ _ ⟨(blk_cell BK420.out 0).trans rfl, (blk_cell BK420.out 1).trans rfl, (blk_cell BK420.out 2).trans rfl⟩ (fun hHeld => ?_)
      clear hK K
      refine norm_ (a' := ?_) ?_ ?_
      rotate_left
      ·show Act.put _ (some 19) _ = _
       simp only [Act.put, List.setIfInBounds_toArray, List.set_cons_zero, List.set_cons_succ, i64_w, i32_w]
       rfl
      refine pure_ (i := 5) (N := some 9) (v := ?_) (a' := ?_) #[true, true, true, true, true, true] rfl rfl (by kernel_rfl) (fun _ _ _ h => h) (Or.inl ⟨by rfl, ?_⟩) ?_ ?_
      rotate_left
      ·intro w'
       go_simp
       with_reducible rfl
      rotate_left
      ·simp only [Act.put, List.setIfInBounds_toArray, List.set_cons_zero, List.set_cons_succ, i64_w, i32_w]
       rfl
      refine done_ (by kernel_rfl) ?_
      try go_wp2
      have n0_ := Aside0.mk (Kd.R_drew HO423.out)
      have n1_ := Aside0.mk (Kd.R_drew HO426.out)
      have n2_ := Aside0.mk (Kd.R_drew HO432.out)
      have n3_ := Aside0.mk (Kd.R_drew HO435.out)
      have n4_ := Aside0.mk (blk_drew BK420.out)
      have n5_ := Aside0.mk (below_drew1 HB.out)
      clear HO423
      clear HO426
      clear HO432
      clear HO435
      clear BK420
      clear HB
      have HO423 := n0_
      have HO426 := n1_
      have HO432 := n2_
      have HO435 := n3_
      have BK420 := n4_
      have HB := n5_
      clear n0_ n1_ n2_ n3_ n4_ n5_
      refine start_ (n := 10) (S := fun w' => w'.cell? ⟨gb420, 0, none⟩ = some (.string a2_0) ∧ w'.cell? ⟨gb420, 1, none⟩ = some (.int .i64 a2_1) ∧ w'.cell? ⟨gb420, 2, none⟩ = some (.string a2_2)) (ds := []) #[false, false, false, false, false, false, false, false, false, false] (by kernel_rfl) rfl rfl ⟨(blk_cell BK420.out 0).trans rfl, (blk_cell BK420.out 1).trans rfl, (blk_cell BK420.out 2).trans rfl⟩ (fun hHeld => ?_); refine with_tabW intervalmonlaw05_LabelsMatch.tab4 intervalmonlaw05_LabelsMatch.bits4 (fun HT_ HW_ => ?_)
      generalize w29.drew = w31 at HO423 HO426 HO432 HO435 BK420 HB hHeld ⊢
      refine pure_ (i := 0) (N := some 20) (v := ?_) (a' := ?_) #[true, false, false, false, false, false, false, false, false, false] rfl rfl (any_of HT_.out (by kernel_rfl)) (fun _ _ _ h => h) (Or.inl ⟨by rfl, ?_⟩) ?_ ?_
      rotate_left
      ·intro w'
       go_simp
       with_reducible rfl
      rotate_left
      ·simp only [Act.put, List.setIfInBounds_toArray, List.set_cons_zero, List.set_cons_succ, i64_w, i32_w]
       rfl
      refine pure_ (i := 2) (N := some 22) (v := ?_) (a' := ?_) #[true, false, true, false, false, false, false, false, false, false] rfl rfl (any_of HT_.out (by kernel_rfl)) (fun _ _ _ h => h) (Or.inl ⟨by rfl, ?_⟩) ?_ ?_
      rotate_left
      ·intro w'
       go_simp
       with_reducible rfl
      rotate_left
      ·simp only [Act.put, List.setIfInBounds_toArray, List.set_cons_zero, List.set_cons_succ, i64_w, i32_w]
       rfl
      refine pure_ (i := 5) (N := some 25) (v := ?_) (a' := ?_) #[true, false, true, false, false, true, false, false, false, false] rfl rfl (any_of HT_.out (by kernel_rfl)) (fun _ _ _ h => h) (Or.inl ⟨by rfl, ?_⟩) ?_ ?_
      rotate_left
      ·intro w'
       go_simp
       with_reducible rfl
      rotate_left
      ·simp only [Act.put, List.setIfInBounds_toArray, List.set_cons_zero, List.set_cons_succ, i64_w, i32_w]
       rfl
      refine take_ (i := 1) (N := some 21) (v := ?_) (a' := ?_) #[true, true, true, false, false, true, false, false, false, false] rfl rfl (take_ofW HT_.out HW_.out (by kernel_rfl)) (fun _ _ _ h => h) (Or.inl ⟨by rfl, ?_⟩) hHeld ?_ ?_
      rotate_left
      ·rintro w' ⟨s0, s1, s2⟩
       go_simp
       with_reducible rfl
      rotate_left
      ·simp only [Act.put, List.setIfInBounds_toArray, List.set_cons_zero, List.set_cons_succ, i64_w, i32_w]
       rfl
      refine take_ (i := 3) (N := some 23) (v := ?_) (a' := ?_) #[true, true, true, true, false, true, false, false, false, false] rfl rfl (take_ofW HT_.out HW_.out (by kernel_rfl)) (fun _ _ _ h => h) (Or.inl ⟨by rfl, ?_⟩) hHeld ?_ ?_
      rotate_left
      ·rintro w' ⟨s0, s1, s2⟩
       go_simp
       with_reducible rfl
      rotate_left
      ·simp only [Act.put, List.setIfInBounds_toArray, List.set_cons_zero, List.set_cons_succ, i64_w, i32_w]
       rfl
      refine take_ (i := 6) (N := some 26) (v := ?_) (a' := ?_) #[true, true, true, true, false, true, true, false, false, false] rfl rfl (take_ofW HT_.out HW_.out (by kernel_rfl)) (fun _ _ _ h => h) (Or.inl ⟨by rfl, ?_⟩) hHeld ?_ ?_
      rotate_left
      ·rintro w' ⟨s0, s1, s2⟩
       go_simp
       with_reducible rfl
      rotate_left
      ·simp only [Act.put, List.setIfInBounds_toArray, List.set_cons_zero, List.set_cons_succ, i64_w, i32_w]
       rfl
      refine join_ (σ := Nat) 1 #[true, true, true, true, true, true, true, true, true, false] (fun s_ => [(24, .int .i64 t436), (10, .pointer (some ⟨s_, 0, none⟩)), (27, .agg #[.string a2_0, .int .i64 t436, .string a2_2])]) (fun s_ w' => (w'.cell? ⟨gb420, 0, none⟩ = some (.string a2_0) ∧ w'.cell? ⟨gb420, 1, none⟩ = some (.int .i64 a2_1) ∧ w'.cell? ⟨gb420, 2, none⟩ = some (.string a2_2)) ∧ (Kd.R k33 33 w' w.heap.size (fun _ => True) v422 t421) ∧ (Kd.R k24 24 w' w.heap.size (fun k_ => some k_ ≠ (.slice Ao30 y430.length co30 : Value).ownBlock ∧ some k_ ≠ (v434 : Value).ownBlock ∧ k_ ≠ gb420 ∧ k_ ≠ s_) v425 t424) ∧ (Kd.R k24 24 w' w.heap.size (fun k_ => some k_ ≠ (v425 : Value).ownBlock ∧ some k_ ≠ (v434 : Value).ownBlock ∧ k_ ≠ gb420 ∧ k_ ≠ s_) (.slice Ao30 y430.length co30) y430) ∧ (Kd.R k24 24 w' w.heap.size (fun k_ => some k_ ≠ (v425 : Value).ownBlock ∧ some k_ ≠ (.slice Ao30 y430.length co30 : Value).ownBlock ∧ k_ ≠ gb420 ∧ k_ ≠ s_) v434 y433) ∧ (w'.heap[gb420]? = some (.cells #[.string a2_0, .int .i64 a2_1, .string a2_2] 24 (0, 0))) ∧ (w'.heap[s_]? = some (.cells #[.string (⟨#[]⟩ : ByteArray), .int .i64 0, .string (⟨#[]⟩ : ByteArray)] 24 (0, 0))) ∧ (w.heap.size ≤ s_) ∧ (w.heap.size ≤ s_) ∧ (gb420 ≠ s_) ∧ (s_ ≠ gb420) ∧ (Below w.heap.size w w')) ?_ ?_
      rotate_left
      ·intro hCont
       refine two_ (i := 4) (j := 8) (Ni := some 24) (Nj := some 10) #[true, true, true, true, true, true, true, false, false, false] #[true, true, true, true, false, true, true, false, true, false] rfl rfl rfl rfl (two_of HT_.out (by kernel_rfl)) (by decide) (by decide) (fun K hK => ?_) (fun K hK => ?_)
       ·skip
        refine goes_ Try.func11 (by kernel_rfl) rfl #[.int .i64 a2_1, .int .i64 4] (by rfl) rfl rfl aq ?_
        with_reducible refine (intervalmonref01_Around.calls a2_1 4 t436 _ A8.out).mono ?_
        rintro e w' ⟨rfl, ⟨nd, rfl⟩⟩
        refine ⟨_, rfl, ?_⟩
        refine hK.out _ _ ⟨(blk_cell BK420.out 0).trans rfl, (blk_cell BK420.out 1).trans rfl, (blk_cell BK420.out 2).trans rfl⟩ (fun hHeld => ?_)
        clear hK K
        refine norm_ (a' := ?_) ?_ ?_
        rotate_left
        ·show Act.put _ (some 24) _ = _
         simp only [Act.put, List.setIfInBounds_toArray, List.set_cons_zero, List.set_cons_succ, i64_w, i32_w]
         rfl
        refine pure_ (i := 7) (N := some 27) (v := ?_) (a' := ?_) #[true, true, true, true, true, true, true, true, false, false] rfl rfl (any_of HT_.out (by kernel_rfl)) (fun _ _ _ h => h) (Or.inl ⟨by rfl, ?_⟩) ?_ ?_
        rotate_left
        ·intro w'
         go_simp
         with_reducible rfl
        rotate_left
        ·simp only [Act.put, List.setIfInBounds_toArray, List.set_cons_zero, List.set_cons_succ, i64_w, i32_w]
         rfl
        refine one_ (i := 8) (N := some 10) #[true, true, true, true, true, true, true, true, true, false] rfl rfl (one_of HT_.out (by kernel_rfl)) (by decide) (fun K hK => ?_)
        refine box_step ?hg (N := 10) ?hd (cs := #[.string (⟨#[]⟩ : ByteArray), .int .i64 0, .string (⟨#[]⟩ : ByteArray)]) (t := 24) ?hr ?_; (case hd => rfl); (case hg => rfl); (case hr => first | (go_simp; done) | (go_simp; rfl))
        intro gb437 hg w32 hbox hb
        have n0_ := Aside0.mk (Kd.R_below (rq HO423) hb)
        have n1_ := Aside0.mk (Kd.R_below (Kd.R_elderB (rq HO426) gb437 (Nat.le_of_eq hg.symm)) hb)
        have n2_ := Aside0.mk (Kd.R_below (Kd.R_elderB (rq HO432) gb437 (Nat.le_of_eq hg.symm)) hb)
        have n3_ := Aside0.mk (Kd.R_below (Kd.R_elderB (rq HO435) gb437 (Nat.le_of_eq hg.symm)) hb)
        have n4_ := Aside0.mk (blk_below (g := gb420) (o := .cells #[.string a2_0, .int .i64 a2_1, .string a2_2] 24 (0, 0)) (bq BK420) hb)
        have n5_ := Aside0.mk (below_step (hq HB) hb)
        have n6_ := Aside0.mk (hbox)
        have n7_ := Aside0.mk ((by rw [hg]; exact (below_size (hq HB)) : w.heap.size ≤ gb437))
        have n8_ := Aside0.mk ((by rw [hg]; exact (below_size (hq HB)) : w.heap.size ≤ gb437))
        have n9_ := Aside0.mk ((by rw [hg]; exact Nat.ne_of_lt (blk_lt (g := gb420) (o := .cells #[.string a2_0, .int .i64 a2_1, .string a2_2] 24 (0, 0)) (bq BK420)) : gb420 ≠ gb437))
        have n10_ := Aside0.mk ((by rw [hg]; exact Nat.ne_of_gt (blk_lt (g := gb420) (o := .cells #[.string a2_0, .int .i64 a2_1, .string a2_2] 24 (0, 0)) (bq BK420)) : gb437 ≠ gb420))
        clear HO423
        clear HO426
        clear HO432
        clear HO435
        clear BK420
        clear HB
        have HO423 := n0_
        have HO426 := n1_
        have HO432 := n2_
        have HO435 := n3_
        have BK420 := n4_
        have HB := n5_
        have BK437 := n6_
        have GW437 := n7_
        have GE437 := n8_
        have NB420_437 := n9_
        have NB437_420 := n10_
        clear n0_ n1_ n2_ n3_ n4_ n5_ n6_ n7_ n8_ n9_ n10_
        clear hb hbox hg
        refine hK.out _ _ ⟨(blk_cell BK420.out 0).trans rfl, (blk_cell BK420.out 1).trans rfl, (blk_cell BK420.out 2).trans rfl⟩ (fun hHeld => ?_)
        clear hK K
        refine norm_ (a' := ?_) ?_ ?_
        rotate_left
        ·show Act.put _ (some 10) _ = _
         simp only [Act.put, List.setIfInBounds_toArray, List.set_cons_zero, List.set_cons_succ, i64_w, i32_w]
         rfl
        exact norm_ (by simp only [putAll, Act.put, List.setIfInBounds_toArray, List.set_cons_zero, List.set_cons_succ]) (hCont (gb437) _ ⟨hHeld, (rq HO423), (by (with_reducible repeat (first | apply Kd.R_alloc | apply Kd.R_drewN | apply Kd.R_drew)); exact Kd.R_mono HO426.out (fun _ hk => ⟨hk.1.1.1, ⟨hk.1.2, ⟨hk.1.1.2, hk.2⟩⟩⟩)), (by (with_reducible repeat (first | apply Kd.R_alloc | apply Kd.R_drewN | apply Kd.R_drew)); exact Kd.R_mono HO432.out (fun _ hk => ⟨hk.1.1.1, ⟨hk.1.2, ⟨hk.1.1.2, hk.2⟩⟩⟩)), (by (with_reducible repeat (first | apply Kd.R_alloc | apply Kd.R_drewN | apply Kd.R_drew)); exact Kd.R_mono HO435.out (fun _ hk => ⟨hk.1.1, ⟨hk.1.2.1, ⟨hk.1.2.2, hk.2⟩⟩⟩)), (bq BK420), (bq BK437), GW437.out, GE437.out, NB420_437.out, NB437_420.out, (hq HB)⟩)
       ·skip
        refine box_step ?hg (N := 10) ?hd (cs := #[.string (⟨#[]⟩ : ByteArray), .int .i64 0, .string (⟨#[]⟩ : ByteArray)]) (t := 24) ?hr ?_; (case hd => rfl); (case hg => rfl); (case hr => first | (go_simp; done) | (go_simp; rfl))
        intro gb437 hg w32 hbox hb
        have n0_ := Aside0.mk (Kd.R_below (rq HO423) hb)
        have n1_ := Aside0.mk (Kd.R_below (Kd.R_elderB (rq HO426) gb437 (Nat.le_of_eq hg.symm)) hb)
        have n2_ := Aside0.mk (Kd.R_below (Kd.R_elderB (rq HO432) gb437 (Nat.le_of_eq hg.symm)) hb)
        have n3_ := Aside0.mk (Kd.R_below (Kd.R_elderB (rq HO435) gb437 (Nat.le_of_eq hg.symm)) hb)
        have n4_ := Aside0.mk (blk_below (g := gb420) (o := .cells #[.string a2_0, .int .i64 a2_1, .string a2_2] 24 (0, 0)) (bq BK420) hb)
        have n5_ := Aside0.mk (below_step (hq HB) hb)
        have n6_ := Aside0.mk (hbox)
        have n7_ := Aside0.mk ((by rw [hg]; exact (below_size (hq HB)) : w.heap.size ≤ gb437))
        have n8_ := Aside0.mk ((by rw [hg]; exact (below_size (hq HB)) : w.heap.size ≤ gb437))
        have n9_ := Aside0.mk ((by rw [hg]; exact Nat.ne_of_lt (blk_lt (g := gb420) (o := .cells #[.string a2_0, .int .i64 a2_1, .string a2_2] 24 (0, 0)) (bq BK420)) : gb420 ≠ gb437))
        have n10_ := Aside0.mk ((by rw [hg]; exact Nat.ne_of_gt (blk_lt (g := gb420) (o := .cells #[.string a2_0, .int .i64 a2_1, .string a2_2] 24 (0, 0)) (bq BK420)) : gb437 ≠ gb420))
        clear HO423
        clear HO426
        clear HO432
        clear HO435
        clear BK420
        clear HB
        have HO423 := n0_
        have HO426 := n1_
        have HO432 := n2_
        have HO435 := n3_
        have BK420 := n4_
        have HB := n5_
        have BK437 := n6_
        have GW437 := n7_
        have GE437 := n8_
        have NB420_437 := n9_
        have NB437_420 := n10_
        clear n0_ n1_ n2_ n3_ n4_ n5_ n6_ n7_ n8_ n9_ n10_
        clear hb hbox hg
        refine hK.out _ _ ⟨(blk_cell BK420.out 0).trans rfl, (blk_cell BK420.out 1).trans rfl, (blk_cell BK420.out 2).trans rfl⟩ (fun hHeld => ?_)
        clear hK K
        refine norm_ (a' := ?_) ?_ ?_
        rotate_left
        ·show Act.put _ (some 10) _ = _
         simp only [Act.put, List.setIfInBounds_toArray, List.set_cons_zero, List.set_cons_succ, i64_w, i32_w]
         rfl
        refine one_ (i := 4) (N := some 24) #[true, true, true, true, true, true, true, false, true, false] rfl rfl (one_of HT_.out (by kernel_rfl)) (by decide) (fun K hK => ?_)
        refine goes_ Try.func11 (by kernel_rfl) rfl #[.int .i64 a2_1, .int .i64 4] (by rfl) rfl rfl aq ?_
        with_reducible refine (intervalmonref01_Around.calls a2_1 4 t436 _ A8.out).mono ?_
        rintro e w' ⟨rfl, ⟨nd, rfl⟩⟩
        refine ⟨_, rfl, ?_⟩
        refine hK.out _ _ ⟨(blk_cell BK420.out 0).trans rfl, (blk_cell BK420.out 1).trans rfl, (blk_cell BK420.out 2).trans rfl⟩ (fun hHeld => ?_)
        clear hK K
        refine norm_ (a' := ?_) ?_ ?_
        rotate_left
        ·show Act.put _ (some 24) _ = _
         simp only [Act.put, List.setIfInBounds_toArray, List.set_cons_zero, List.set_cons_succ, i64_w, i32_w]
         rfl
        refine pure_ (i := 7) (N := some 27) (v := ?_) (a' := ?_) #[true, true, true, true, true, true, true, true, true, false] rfl rfl (any_of HT_.out (by kernel_rfl)) (fun _ _ _ h => h) (Or.inl ⟨by rfl, ?_⟩) ?_ ?_
        rotate_left
        ·intro w'
         go_simp
         with_reducible rfl
        rotate_left
        ·simp only [Act.put, List.setIfInBounds_toArray, List.set_cons_zero, List.set_cons_succ, i64_w, i32_w]
         rfl
        exact norm_ (by simp only [putAll, Act.put, List.setIfInBounds_toArray, List.set_cons_zero, List.set_cons_succ]) (hCont (gb437) _ ⟨hHeld, (rq HO423), (by (with_reducible repeat (first | apply Kd.R_alloc | apply Kd.R_drewN | apply Kd.R_drew)); exact Kd.R_mono HO426.out (fun _ hk => ⟨hk.1.1.1, ⟨hk.1.2, ⟨hk.1.1.2, hk.2⟩⟩⟩)), (by (with_reducible repeat (first | apply Kd.R_alloc | apply Kd.R_drewN | apply Kd.R_drew)); exact Kd.R_mono HO432.out (fun _ hk => ⟨hk.1.1.1, ⟨hk.1.2, ⟨hk.1.1.2, hk.2⟩⟩⟩)), (by (with_reducible repeat (first | apply Kd.R_alloc | apply Kd.R_drewN | apply Kd.R_drew)); exact Kd.R_mono HO435.out (fun _ hk => ⟨hk.1.1, ⟨hk.1.2.1, ⟨hk.1.2.2, hk.2⟩⟩⟩)), (bq BK420), (bq BK437), GW437.out, GE437.out, NB420_437.out, NB437_420.out, (hq HB)⟩)
      rintro gb437 w33 ⟨hS_, h0_, h1_, h2_, h3_, h4_, h5_, h6_, h7_, h8_, h9_, h10_⟩
      have n0_ : Aside0 (Kd.R k33 33 w33 w.heap.size (fun _ => True) v422 t421) := ⟨h0_⟩
      have n1_ : Aside0 (Kd.R k24 24 w33 w.heap.size (fun k_ => some k_ ≠ (.slice Ao30 y430.length co30 : Value).ownBlock ∧ some k_ ≠ (v434 : Value).ownBlock ∧ k_ ≠ gb420 ∧ k_ ≠ gb437) v425 t424) := ⟨h1_⟩
      have n2_ : Aside0 (Kd.R k24 24 w33 w.heap.size (fun k_ => some k_ ≠ (v425 : Value).ownBlock ∧ some k_ ≠ (v434 : Value).ownBlock ∧ k_ ≠ gb420 ∧ k_ ≠ gb437) (.slice Ao30 y430.length co30) y430) := ⟨h2_⟩
      have n3_ : Aside0 (Kd.R k24 24 w33 w.heap.size (fun k_ => some k_ ≠ (v425 : Value).ownBlock ∧ some k_ ≠ (.slice Ao30 y430.length co30 : Value).ownBlock ∧ k_ ≠ gb420 ∧ k_ ≠ gb437) v434 y433) := ⟨h3_⟩
      have n4_ : Aside0 (w33.heap[gb420]? = some (.cells #[.string a2_0, .int .i64 a2_1, .string a2_2] 24 (0, 0))) := ⟨h4_⟩
      have n5_ : Aside0 (w33.heap[gb437]? = some (.cells #[.string (⟨#[]⟩ : ByteArray), .int .i64 0, .string (⟨#[]⟩ : ByteArray)] 24 (0, 0))) := ⟨h5_⟩
      have n6_ : Aside0 (w.heap.size ≤ gb437) := ⟨h6_⟩
      have n7_ : Aside0 (w.heap.size ≤ gb437) := ⟨h7_⟩
      have n8_ : Aside0 (gb420 ≠ gb437) := ⟨h8_⟩
      have n9_ : Aside0 (gb437 ≠ gb420) := ⟨h9_⟩
      have n10_ : Aside0 (Below w.heap.size w w33) := ⟨h10_⟩
      clear HO423
      clear HO426
      clear HO432
      clear HO435
      clear BK420
      clear HB
      clear h0_ h1_ h2_ h3_ h4_ h5_ h6_ h7_ h8_ h9_ h10_
      have HO423 := n0_
      have HO426 := n1_
      have HO432 := n2_
      have HO435 := n3_
      have BK420 := n4_
      have BK437 := n5_
      have GW437 := n6_
      have GE437 := n7_
      have NB420_437 := n8_
      have NB437_420 := n9_
      have HB := n10_
      clear n0_ n1_ n2_ n3_ n4_ n5_ n6_ n7_ n8_ n9_ n10_
      have hHeld : w33.cell? ⟨gb420, 0, none⟩ = some (.string a2_0) ∧ w33.cell? ⟨gb420, 1, none⟩ = some (.int .i64 a2_1) ∧ w33.cell? ⟨gb420, 2, none⟩ = some (.string a2_2) := hS_
      refine norm_ (a' := ?_) ?_ ?_
      rotate_left
      ·simp only [putAll, Act.put, List.setIfInBounds_toArray, List.set_cons_zero, List.set_cons_succ]
       rfl
      refine one_ (i := 9) (N := none) #[true, true, true, true, true, true, true, true, true, true] rfl rfl (one_of HT_.out (by kernel_rfl)) (by decide) (fun K hK => ?_)
      have hs34 : w33.cell? ⟨gb437, 0, none⟩ = some (.string (⟨#[]⟩ : ByteArray)) := (blk_cell BK437.out 0).trans rfl
      have hfs34 := blk_frozen BK437.out 0
      have hns34_0 := NB420_437.out
      have hms34_0 := NB437_420.out
      have hs35 : w33.cell? ⟨gb437, 1, none⟩ = some (.int .i64 0) := (blk_cell BK437.out 1).trans rfl
      have hfs35 := blk_frozen BK437.out 1
      have hns35_0 := NB420_437.out
      have hms35_0 := NB437_420.out
      have hs36 : w33.cell? ⟨gb437, 2, none⟩ = some (.string (⟨#[]⟩ : ByteArray)) := (blk_cell BK437.out 2).trans rfl
      have hfs36 := blk_frozen BK437.out 2
      have hns36_0 := NB420_437.out
      have hms36_0 := NB437_420.out
      refine skip_ (w1 := ?_) (by rfl) rfl ?_ ?_
      rotate_left
      ·go_simp
       rfl
      refine hK.out _ _ ⟨((cell_far (p := ⟨gb437, _, none⟩) NB420_437.out _).trans (((cell_far (p := ⟨gb437, _, none⟩) NB420_437.out _).trans (((cell_far (p := ⟨gb437, _, none⟩) NB420_437.out _).trans (hHeld.1)))))), ((cell_far (p := ⟨gb437, _, none⟩) NB420_437.out _).trans (((cell_far (p := ⟨gb437, _, none⟩) NB420_437.out _).trans (((cell_far (p := ⟨gb437, _, none⟩) NB420_437.out _).trans (hHeld.2.1)))))), ((cell_far (p := ⟨gb437, _, none⟩) NB420_437.out _).trans (((cell_far (p := ⟨gb437, _, none⟩) NB420_437.out _).trans (((cell_far (p := ⟨gb437, _, none⟩) NB420_437.out _).trans (hHeld.2.2))))))⟩ (fun hHeld => ?_)
      clear hK K
      refine done_ (done_of HT_.out (by kernel_rfl)) ?_
      obtain ⟨Ao37, co37, eo37⟩ := Kd.R_slice HO423.out
      subst eo37
      obtain ⟨Ao38, co38, eo38⟩ := Kd.R_slice HO426.out
      subst eo38
      obtain ⟨Ao39, co39, eo39⟩ := Kd.R_slice HO435.out
      subst eo39
      try go_wp2
      have n0_ : Aside0 (Kd.R k33 33 (((w33.setCell ⟨gb437, 0, none⟩ (.string a2_0)).setCell ⟨gb437, 1, none⟩ (.int .i64 t436)).setCell ⟨gb437, 2, none⟩ (.string a2_2)) w.heap.size (fun _ => True) (.slice Ao37 t421.length co37) t421) := ⟨by (with_reducible repeat (first | apply Kd.R_alloc | apply Kd.R_drewN | apply Kd.R_drew)); exact Kd.R_mono (Kd.R_far (p := ⟨gb437, 2, none⟩) (Kd.R_far (p := ⟨gb437, 1, none⟩) (Kd.R_far (p := ⟨gb437, 0, none⟩) (Kd.R_types HO423.out BK437.out (by decide)) (fun _ hk => hk.2) (.string a2_0)) (fun _ hk => hk.2) (.int .i64 t436)) (fun _ hk => hk.2) (.string a2_2)) (fun _ hk => trivial)⟩
      have n1_ : Aside0 (Kd.R k24 24 (((w33.setCell ⟨gb437, 0, none⟩ (.string a2_0)).setCell ⟨gb437, 1, none⟩ (.int .i64 t436)).setCell ⟨gb437, 2, none⟩ (.string a2_2)) w.heap.size (fun k_ => some k_ ≠ (.slice Ao30 y430.length co30 : Value).ownBlock ∧ some k_ ≠ (.slice Ao39 y433.length co39 : Value).ownBlock ∧ k_ ≠ gb420 ∧ k_ ≠ gb437) (.slice Ao38 t424.length co38) t424) := ⟨by (with_reducible repeat (first | apply Kd.R_alloc | apply Kd.R_drewN | apply Kd.R_drew)); exact Kd.R_mono (Kd.R_far (p := ⟨gb437, 2, none⟩) (Kd.R_far (p := ⟨gb437, 1, none⟩) (Kd.R_far (p := ⟨gb437, 0, none⟩) (Kd.R_mono HO426.out (fun k_ hk => (⟨hk, hk.2.2.2⟩ : _ ∧ k_ ≠ gb437))) (fun _ hk => hk.2) (.string a2_0)) (fun _ hk => hk.2) (.int .i64 t436)) (fun _ hk => hk.2) (.string a2_2)) (fun _ hk => ⟨hk.1.1, ⟨hk.1.2.1, ⟨hk.1.2.2.1, hk.1.2.2.2⟩⟩⟩)⟩
      have n2_ : Aside0 (Kd.R k24 24 (((w33.setCell ⟨gb437, 0, none⟩ (.string a2_0)).setCell ⟨gb437, 1, none⟩ (.int .i64 t436)).setCell ⟨gb437, 2, none⟩ (.string a2_2)) w.heap.size (fun k_ => some k_ ≠ (.slice Ao38 t424.length co38 : Value).ownBlock ∧ some k_ ≠ (.slice Ao39 y433.length co39 : Value).ownBlock ∧ k_ ≠ gb420 ∧ k_ ≠ gb437) (.slice Ao30 y430.length co30) y430) := ⟨by (with_reducible repeat (first | apply Kd.R_alloc | apply Kd.R_drewN | apply Kd.R_drew)); exact Kd.R_mono (Kd.R_far (p := ⟨gb437, 2, none⟩) (Kd.R_far (p := ⟨gb437, 1, none⟩) (Kd.R_far (p := ⟨gb437, 0, none⟩) (Kd.R_mono HO432.out (fun k_ hk => (⟨hk, hk.2.2.2⟩ : _ ∧ k_ ≠ gb437))) (fun _ hk => hk.2) (.string a2_0)) (fun _ hk => hk.2) (.int .i64 t436)) (fun _ hk => hk.2) (.string a2_2)) (fun _ hk => ⟨hk.1.1, ⟨hk.1.2.1, ⟨hk.1.2.2.1, hk.1.2.2.2⟩⟩⟩)⟩
      have n3_ : Aside0 (Kd.R k24 24 (((w33.setCell ⟨gb437, 0, none⟩ (.string a2_0)).setCell ⟨gb437, 1, none⟩ (.int .i64 t436)).setCell ⟨gb437, 2, none⟩ (.string a2_2)) w.heap.size (fun k_ => some k_ ≠ (.slice Ao38 t424.length co38 : Value).ownBlock ∧ some k_ ≠ (.slice Ao30 y430.length co30 : Value).ownBlock ∧ k_ ≠ gb420 ∧ k_ ≠ gb437) (.slice Ao39 y433.length co39) y433) := ⟨by (with_reducible repeat (first | apply Kd.R_alloc | apply Kd.R_drewN | apply Kd.R_drew)); exact Kd.R_mono (Kd.R_far (p := ⟨gb437, 2, none⟩) (Kd.R_far (p := ⟨gb437, 1, none⟩) (Kd.R_far (p := ⟨gb437, 0, none⟩) (Kd.R_mono HO435.out (fun k_ hk => (⟨hk, hk.2.2.2⟩ : _ ∧ k_ ≠ gb437))) (fun _ hk => hk.2) (.string a2_0)) (fun _ hk => hk.2) (.int .i64 t436)) (fun _ hk => hk.2) (.string a2_2)) (fun _ hk => ⟨hk.1.1, ⟨hk.1.2.1, ⟨hk.1.2.2.1, hk.1.2.2.2⟩⟩⟩)⟩
      have n4_ : Aside0 ((((w33.setCell ⟨gb437, 0, none⟩ (.string a2_0)).setCell ⟨gb437, 1, none⟩ (.int .i64 t436)).setCell ⟨gb437, 2, none⟩ (.string a2_2)).heap[gb420]? = some (.cells #[.string a2_0, .int .i64 a2_1, .string a2_2] 24 (0, 0))) := ⟨by (with_reducible repeat (first | refine blk_drewN ?_ _ | refine blk_drew ?_ | refine blk_alloc ?_ _)); refine blk_far ?_ NB420_437.out _; (with_reducible repeat (first | refine blk_drewN ?_ _ | refine blk_drew ?_ | refine blk_alloc ?_ _)); refine blk_far ?_ NB420_437.out _; (with_reducible repeat (first | refine blk_drewN ?_ _ | refine blk_drew ?_ | refine blk_alloc ?_ _)); refine blk_far ?_ NB420_437.out _; (with_reducible repeat (first | refine blk_drewN ?_ _ | refine blk_drew ?_ | refine blk_alloc ?_ _)); exact BK420.out⟩
      have n5_ : Aside0 ((((w33.setCell ⟨gb437, 0, none⟩ (.string a2_0)).setCell ⟨gb437, 1, none⟩ (.int .i64 t436)).setCell ⟨gb437, 2, none⟩ (.string a2_2)).heap[gb437]? = some (.cells #[.string a2_0, .int .i64 t436, .string a2_2] 24 (0, 0))) := ⟨by (with_reducible repeat (first | refine blk_drewN ?_ _ | refine blk_drew ?_ | refine blk_alloc ?_ _)); refine blk_put (cs := #[.string a2_0, .int .i64 t436, .string (⟨#[]⟩ : ByteArray)]) ?_ 2 _ rfl; (with_reducible repeat (first | refine blk_drewN ?_ _ | refine blk_drew ?_ | refine blk_alloc ?_ _)); refine blk_put (cs := #[.string a2_0, .int .i64 0, .string (⟨#[]⟩ : ByteArray)]) ?_ 1 _ rfl; (with_reducible repeat (first | refine blk_drewN ?_ _ | refine blk_drew ?_ | refine blk_alloc ?_ _)); refine blk_put (cs := #[.string (⟨#[]⟩ : ByteArray), .int .i64 0, .string (⟨#[]⟩ : ByteArray)]) ?_ 0 _ rfl; (with_reducible repeat (first | refine blk_drewN ?_ _ | refine blk_drew ?_ | refine blk_alloc ?_ _)); exact BK437.out⟩
      have n6_ : Aside0 (Below w.heap.size w (((w33.setCell ⟨gb437, 0, none⟩ (.string a2_0)).setCell ⟨gb437, 1, none⟩ (.int .i64 t436)).setCell ⟨gb437, 2, none⟩ (.string a2_2))) := ⟨by repeat (first | (with_reducible first | exact HB.out | apply below_alloc | apply pw_below_drewN | apply below_drew1 | refine below_set ?_ GE420.out | refine below_set ?_ GE437.out) | exact HB.out)⟩
      (try clear HO423)
      (try clear HO426)
      (try clear HO432)
      (try clear HO435)
      (try clear BK420)
      (try clear BK437)
      (try clear HB)
      generalize (((w33.setCell ⟨gb437, 0, none⟩ (.string a2_0)).setCell ⟨gb437, 1, none⟩ (.int .i64 t436)).setCell ⟨gb437, 2, none⟩ (.string a2_2)) = w40 at n0_ n1_ n2_ n3_ n4_ n5_ n6_ ⊢
      have HO423 := n0_
      have HO426 := n1_
      have HO432 := n2_
      have HO435 := n3_
      have BK420 := n4_
      have BK437 := n5_
      have HB := n6_
      clear n0_ n1_ n2_ n3_ n4_ n5_ n6_
      have n0_ := Aside0.mk (Kd.R_drew HO423.out)
      have n1_ := Aside0.mk (Kd.R_drew HO426.out)
      have n2_ := Aside0.mk (Kd.R_drew HO432.out)
      have n3_ := Aside0.mk (Kd.R_drew HO435.out)
      have n4_ := Aside0.mk (blk_drew BK420.out)
      have n5_ := Aside0.mk (blk_drew BK437.out)
      have n6_ := Aside0.mk (below_drew1 HB.out)
      clear HO423
      clear HO426
      clear HO432
      clear HO435
      clear BK420
      clear BK437
      clear HB
      have HO423 := n0_
      have HO426 := n1_
      have HO432 := n2_
      have HO435 := n3_
      have BK420 := n4_
      have BK437 := n5_
      have HB := n6_
      clear n0_ n1_ n2_ n3_ n4_ n5_ n6_
      refine start_ (n := 35) (S := fun w' => w'.cell? ⟨gb437, 0, none⟩ = some (.string a2_0) ∧ w'.cell? ⟨gb437, 1, none⟩ = some (.int .i64 t436) ∧ w'.cell? ⟨gb437, 2, none⟩ = some (.string a2_2)) (ds := []) #[false, false, false, false, false, false, false, false, false, false, false, false, false, false, false, false, false, false, false, false, false, false, false, false, false, false, false, false, false, false, false, false, false, false, false] (by kernel_rfl) rfl rfl ⟨(blk_cell BK437.out 0).trans rfl, (blk_cell BK437.out 1).trans rfl, (blk_cell BK437.out 2).trans rfl⟩ (fun hHeld => ?_); refine with_tabW intervalmonlaw05_LabelsMatch.tab5 intervalmonlaw05_LabelsMatch.bits5 (fun HT_ HW_ => ?_)
      generalize w40.drew = w41 at HO423 HO426 HO432 HO435 BK420 BK437 HB hHeld ⊢
      refine pure_ (i := 0) (N := some 28) (v := ?_) (a' := ?_) #[true, false, false, false, false, false, false, false, false, false, false, false, false, false, false, false, false, false, false, false, false, false, false, false, false, false, false, false, false, false, false, false, false, false, false] rfl rfl (any_of HT_.out (by kernel_rfl)) (fun _ _ _ h => h) (Or.inl ⟨by rfl, ?_⟩) ?_ ?_
      rotate_left
      ·intro w'
       go_simp
       with_reducible rfl
      rotate_left
      ·simp only [Act.put, List.setIfInBounds_toArray, List.set_cons_zero, List.set_cons_succ, i64_w, i32_w]
       rfl
      refine pure_ (i := 1) (N := some 29) (v := ?_) (a' := ?_) #[true, true, false, false, false, false, false, false, false, false, false, false, false, false, false, false, false, false, false, false, false, false, false, false, false, false, false, false, false, false, false, false, false, false, false] rfl rfl (any_of HT_.out (by kernel_rfl)) (fun _ _ _ h => h) (Or.inl ⟨by rfl, ?_⟩) ?_ ?_
      rotate_left
      ·intro w'
       go_simp
       with_reducible rfl
      rotate_left
      ·simp only [Act.put, List.setIfInBounds_toArray, List.set_cons_zero, List.set_cons_succ, i64_w, i32_w]
       rfl
      refine pure_ (i := 3) (N := some 31) (v := ?_) (a' := ?_) #[true, true, false, true, false, false, false, false, false, false, false, false, false, false, false, false, false, false, false, false, false, false, false, false, false, false, false, false, false, false, false, false, false, false, false] rfl rfl (any_of HT_.out (by kernel_rfl)) (fun _ _ _ h => h) (Or.inl ⟨by rfl, ?_⟩) ?_ ?_
      rotate_left
      ·intro w'
       go_simp
       with_reducible rfl
      rotate_left
      ·simp only [Act.put, List.setIfInBounds_toArray, List.set_cons_zero, List.set_cons_succ, i64_w, i32_w]
       rfl
      refine pure_ (i := 4) (N := some 32) (v := ?_) (a' := ?_) #[true, true, false, true, true, false, false, false, false, false, false, false, false, false, false, false, false, false, false, false, false, false, false, false, false, false, false, false, false, false, false, false, false, false, false] rfl rfl (any_of HT_.out (by kernel_rfl)) (fun _ _ _ h => h) (Or.inl ⟨by rfl, ?_⟩) ?_ ?_
      rotate_left
      ·intro w'
       go_simp
       with_reducible rfl
      rotate_left
      ·simp only [Act.put, List.setIfInBounds_toArray, List.set_cons_zero, List.set_cons_succ, i64_w, i32_w]
       rfl
      refine one_ (i := 2) (N := some 30) #[true, true, true, true, true, false, false, false, false, false, false, false, false, false, false, false, false, false, false, false, false, false, false, false, false, false, false, false, false, false, false, false, false, false, false] rfl rfl (one_of HT_.out (by kernel_rfl)) (by decide) (fun K hK => ?_)
      refine goes_ Try.func36 (by kernel_rfl) rfl #[.slice Ao37 t421.length co37, .slice Ao38 t424.length co38] (by rfl) rfl rfl aq ?_
      with_reducible refine (labels_Match.calls k _ _ t421 _ _ t424 t438 _ ?side1 ?side2 ?side3 ?side4 A9.out).mono ?_
      (case side1 => repeat (first | exact (Kd.R_reads' HO423.out).2.2 | (with_reducible refine Kd.C_alloc ?_ _) | (with_reducible refine Kd.C_drewN ?_ _) | (with_reducible refine Kd.C_drew ?_)))
      (case side2 => exact (Kd.R_reads' HO423.out).2.1)
      (case side3 => repeat (first | exact (Kd.R_reads' HO426.out).2.2 | (with_reducible refine Kd.C_alloc ?_ _) | (with_reducible refine Kd.C_drewN ?_ _) | (with_reducible refine Kd.C_drew ?_)))
      (case side4 => exact (Kd.R_reads' HO426.out).2.1)
      rintro e w42 ⟨rfl, hb⟩
      refine ⟨_, rfl, ?_⟩
      have n0_ := Aside0.mk (Kd.R_below (rq HO423) hb)
      have n1_ := Aside0.mk (Kd.R_below (rq HO426) hb)
      have n2_ := Aside0.mk (Kd.R_below (rq HO432) hb)
      have n3_ := Aside0.mk (Kd.R_below (rq HO435) hb)
      have n4_ := Aside0.mk (blk_below (g := gb420) (o := .cells #[.string a2_0, .int .i64 a2_1, .string a2_2] 24 (0, 0)) (bq BK420) hb)
      have n5_ := Aside0.mk (blk_below (g := gb437) (o := .cells #[.string a2_0, .int .i64 t436, .string a2_2] 24 (0, 0)) (bq BK437) hb)
      have n6_ := Aside0.mk (below_step (hq HB) hb)
      clear HO423
      clear HO426
      clear HO432
      clear HO435
      clear BK420
      clear BK437
      clear HB
      have HO423 := n0_
      have HO426 := n1_
      have HO432 := n2_
      have HO435 := n3_
      have BK420 := n4_
      have BK437 := n5_
      have HB := n6_
      clear n0_ n1_ n2_ n3_ n4_ n5_ n6_
      (try clear hb)
      (try clear hb2)
      (try clear hk)
      (try clear hi)
      refine hK.out _ _ ⟨(blk_cell BK437.out 0).trans rfl, (blk_cell BK437.out 1).trans rfl, (blk_cell BK437.out 2).trans rfl⟩ (fun hHeld => ?_)
      clear hK K
      refine norm_ (a' := ?_) ?_ ?_
      rotate_left
      ·show Act.put _ (some 30) _ = _
       simp only [Act.put, List.setIfInBounds_toArray, List.set_cons_zero, List.set_cons_succ, i64_w, i32_w]
       rfl
      refine one_ (i := 5) (N := some 33) #[true, true, true, true, true, true, false, false, false, false, false, false, false, false, false, false, false, false, false, false, false, false, false, false, false, false, false, false, false, false, false, false, false, false, false] rfl rfl (one_of HT_.out (by kernel_rfl)) (by decide) (fun K hK => ?_)
      refine goes_ Try.func37 (by kernel_rfl) rfl #[.slice Ao37 t421.length co37, .slice Ao38 t424.length co38] (by rfl) rfl rfl aq ?_
      with_reducible refine (intervalmonref05_Match.calls k _ _ t421 _ _ t424 t439 _ ?side1 ?side2 ?side3 ?side4 A10.out).mono ?_
      (case side1 => repeat (first | exact (Kd.R_reads' HO423.out).2.2 | (with_reducible refine Kd.C_alloc ?_ _) | (with_reducible refine Kd.C_drewN ?_ _) | (with_reducible refine Kd.C_drew ?_)))
      (case side2 => exact (Kd.R_reads' HO423.out).2.1)
      (case side3 => repeat (first | exact (Kd.R_reads' HO426.out).2.2 | (with_reducible refine Kd.C_alloc ?_ _) | (with_reducible refine Kd.C_drewN ?_ _) | (with_reducible refine Kd.C_drew ?_)))
      (case side4 => exact (Kd.R_reads' HO426.out).2.1)
      rintro e w43 ⟨rfl, hb⟩
      refine ⟨_, rfl, ?_⟩
      have n0_ := Aside0.mk (Kd.R_below (rq HO423) hb)
      have n1_ := Aside0.mk (Kd.R_below (rq HO426) hb)
      have n2_ := Aside0.mk (Kd.R_below (rq HO432) hb)
      have n3_ := Aside0.mk (Kd.R_below (rq HO435) hb)
      have n4_ := Aside0.mk (blk_below (g := gb420) (o := .cells #[.string a2_0, .int .i64 a2_1, .string a2_2] 24 (0, 0)) (bq BK420) hb)
      have n5_ := Aside0.mk (blk_below (g := gb437) (o := .cells #[.string a2_0, .int .i64 t436, .string a2_2] 24 (0, 0)) (bq BK437) hb)
      have n6_ := Aside0.mk (below_step (hq HB) hb)
      clear HO423
      clear HO426
      clear HO432
      clear HO435
      clear BK420
      clear BK437
      clear HB
      have HO423 := n0_
      have HO426 := n1_
      have HO432 := n2_
      have HO435 := n3_
      have BK420 := n4_
      have BK437 := n5_
      have HB := n6_
      clear n0_ n1_ n2_ n3_ n4_ n5_ n6_
      (try clear hb)
      (try clear hb2)
      (try clear hk)
      (try clear hi)
      refine hK.out _ _ ⟨(blk_cell BK437.out 0).trans rfl, (blk_cell BK437.out 1).trans rfl, (blk_cell BK437.out 2).trans rfl⟩ (fun hHeld => ?_)
      clear hK K
      refine norm_ (a' := ?_) ?_ ?_
      rotate_left
      ·show Act.put _ (some 33) _ = _
       simp only [Act.put, List.setIfInBounds_toArray, List.set_cons_zero, List.set_cons_succ, i64_w, i32_w]
       rfl
      refine pure_ (i := 6) (N := some 34) (v := ?_) (a' := ?_) #[true, true, true, true, true, true, true, false, false, false, false, false, false, false, false, false, false, false, false, false, false, false, false, false, false, false, false, false, false, false, false, false, false, false, false] rfl rfl (any_of HT_.out (by kernel_rfl)) (fun _ _ _ h => h) (Or.inl ⟨by rfl, ?_⟩) ?_ ?_
      rotate_left
      ·intro w'
       go_simp
       with_reducible rfl
      rotate_left
      ·simp only [Act.put, List.setIfInBounds_toArray, List.set_cons_zero, List.set_cons_succ, i64_w, i32_w]
       rfl
      refine pure_ (i := 7) (N := some 35) (v := ?_) (a' := ?_) #[true, true, true, true, true, true, true, true, false, false, false, false, false, false, false, false, false, false, false, false, false, false, false, false, false, false, false, false, false, false, false, false, false, false, false] rfl rfl (any_of HT_.out (by kernel_rfl)) (fun _ _ _ h => h) (Or.inl ⟨by rfl, ?_⟩) ?_ ?_
      rotate_left
      ·intro w'
       go_simp
       with_reducible rfl
      rotate_left
      ·simp only [Act.put, List.setIfInBounds_toArray, List.set_cons_zero, List.set_cons_succ, i64_w, i32_w]
       rfl
      refine pure_ (i := 8) (N := some 36) (v := ?_) (a' := ?_) #[true, true, true, true, true, true, true, true, true, false, false, false, false, false, false, false, false, false, false, false, false, false, false, false, false, false, false, false, false, false, false, false, false, false, false] rfl rfl (any_of HT_.out (by kernel_rfl)) (fun _ _ _ h => h) (Or.inl ⟨by rfl, ?_⟩) ?_ ?_
      rotate_left
      ·intro w'
       go_simp
       with_reducible rfl
      rotate_left
      ·simp only [Act.put, List.setIfInBounds_toArray, List.set_cons_zero, List.set_cons_succ, i64_w, i32_w]
       rfl
      refine pure_ (i := 9) (N := some 37) (v := ?_) (a' := ?_) #[true, true, true, true, true, true, true, true, true, true, false, false, false, false, false, false, false, false, false, false, false, false, false, false, false, false, false, false, false, false, false, false, false, false, false] rfl rfl (any_of HT_.out (by kernel_rfl)) (fun _ _ _ h => h) (Or.inl ⟨by rfl, ?_⟩) ?_ ?_
      rotate_left
      ·intro w'
       go_simp
       with_reducible rfl
      rotate_left
      ·simp only [Act.put, List.setIfInBounds_toArray, List.set_cons_zero, List.set_cons_succ, i64_w, i32_w]
       rfl
      refine pure_ (i := 11) (N := some 39) (v := ?_) (a' := ?_) #[true, true, true, true, true, true, true, true, true, true, false, true, false, false, false, false, false, false, false, false, false, false, false, false, false, false, false, false, false, false, false, false, false, false, false] rfl rfl (any_of HT_.out (by kernel_rfl)) (fun _ _ _ h => h) (Or.inl ⟨by rfl, ?_⟩) ?_ ?_
      rotate_left
      ·intro w'
       go_simp
       with_reducible rfl
      rotate_left
      ·simp only [Act.put, List.setIfInBounds_toArray, List.set_cons_zero, List.set_cons_succ, i64_w, i32_w]
       rfl
      refine pure_ (i := 12) (N := some 40) (v := ?_) (a' := ?_) #[true, true, true, true, true, true, true, true, true, true, false, true, true, false, false, false, false, false, false, false, false, false, false, false, false, false, false, false, false, false, false, false, false, false, false] rfl rfl (any_of HT_.out (by kernel_rfl)) (fun _ _ _ h => h) (Or.inl ⟨by rfl, ?_⟩) ?_ ?_
      rotate_left
      ·intro w'
       go_simp
       with_reducible rfl
      rotate_left
      ·simp only [Act.put, List.setIfInBounds_toArray, List.set_cons_zero, List.set_cons_succ, i64_w, i32_w]
       rfl
      refine one_ (i := 10) (N := some 38) #[true, true, true, true, true, true, true, true, true, true, true, true, true, false, false, false, false, false, false, false, false, false, false, false, false, false, false, false, false, false, false, false, false, false, false] rfl rfl (one_of HT_.out (by kernel_rfl)) (by decide) (fun K hK => ?_)
      refine goes_ Try.func36 (by kernel_rfl) rfl #[.slice Ao37 t421.length co37, .slice Ao39 y433.length co39] (by rfl) rfl rfl aq ?_
      with_reducible refine (labels_Match.calls k _ _ t421 _ _ y433 t440 _ ?side1 ?side2 ?side3 ?side4 A12.out).mono ?_
      (case side1 => repeat (first | exact (Kd.R_reads' HO423.out).2.2 | (with_reducible refine Kd.C_alloc ?_ _) | (with_reducible refine Kd.C_drewN ?_ _) | (with_reducible refine Kd.C_drew ?_)))
      (case side2 => exact (Kd.R_reads' HO423.out).2.1)
      (case side3 => repeat (first | exact (Kd.R_reads' HO435.out).2.2 | (with_reducible refine Kd.C_alloc ?_ _) | (with_reducible refine Kd.C_drewN ?_ _) | (with_reducible refine Kd.C_drew ?_)))
      (case side4 => exact (Kd.R_reads' HO435.out).2.1)
      rintro e w44 ⟨rfl, hb⟩
      refine ⟨_, rfl, ?_⟩
      have n0_ := Aside0.mk (Kd.R_below (rq HO423) hb)
      have n1_ := Aside0.mk (Kd.R_below (rq HO426) hb)
      have n2_ := Aside0.mk (Kd.R_below (rq HO432) hb)
      have n3_ := Aside0.mk (Kd.R_below (rq HO435) hb)
      have n4_ := Aside0.mk (blk_below (g := gb420) (o := .cells #[.string a2_0, .int .i64 a2_1, .string a2_2] 24 (0, 0)) (bq BK420) hb)
      have n5_ := Aside0.mk (blk_below (g := gb437) (o := .cells #[.string a2_0, .int .i64 t436, .string a2_2] 24 (0, 0)) (bq BK437) hb)
      have n6_ := Aside0.mk (below_step (hq HB) hb)
      clear HO423
      clear HO426
      clear HO432
      clear HO435
      clear BK420
      clear BK437
      clear HB
      have HO423 := n0_
      have HO426 := n1_
      have HO432 := n2_
      have HO435 := n3_
      have BK420 := n4_
      have BK437 := n5_
      have HB := n6_
      clear n0_ n1_ n2_ n3_ n4_ n5_ n6_
      (try clear hb)
      (try clear hb2)
      (try clear hk)
      (try clear hi)
      refine hK.out _ _ ⟨(blk_cell BK437.out 0).trans rfl, (blk_cell BK437.out 1).trans rfl, (blk_cell BK437.out 2).trans rfl⟩ (fun hHeld => ?_)
      clear hK K
      refine norm_ (a' := ?_) ?_ ?_
      rotate_left
      ·show Act.put _ (some 38) _ = _
       simp only [Act.put, List.setIfInBounds_toArray, List.set_cons_zero, List.set_cons_succ, i64_w, i32_w]
       rfl
      refine one_ (i := 13) (N := some 41) #[true, true, true, true, true, true, true, true, true, true, true, true, true, true, false, false, false, false, false, false, false, false, false, false, false, false, false, false, false, false, false, false, false, false, false] rfl rfl (one_of HT_.out (by kernel_rfl)) (by decide) (fun K hK => ?_)
      refine goes_ Try.func37 (by kernel_rfl) rfl #[.slice Ao37 t421.length co37, .slice Ao39 y433.length co39] (by rfl) rfl rfl aq ?_
      with_reducible refine (intervalmonref05_Match.calls k _ _ t421 _ _ y433 t441 _ ?side1 ?side2 ?side3 ?side4 A13.out).mono ?_
      (case side1 => repeat (first | exact (Kd.R_reads' HO423.out).2.2 | (with_reducible refine Kd.C_alloc ?_ _) | (with_reducible refine Kd.C_drewN ?_ _) | (with_reducible refine Kd.C_drew ?_)))
      (case side2 => exact (Kd.R_reads' HO423.out).2.1)
      (case side3 => repeat (first | exact (Kd.R_reads' HO435.out).2.2 | (with_reducible refine Kd.C_alloc ?_ _) | (with_reducible refine Kd.C_drewN ?_ _) | (with_reducible refine Kd.C_drew ?_)))
      (case side4 => exact (Kd.R_reads' HO435.out).2.1)
      rintro e w45 ⟨rfl, hb⟩
      refine ⟨_, rfl, ?_⟩
      have n0_ := Aside0.mk (Kd.R_below (rq HO423) hb)
      have n1_ := Aside0.mk (Kd.R_below (rq HO426) hb)
      have n2_ := Aside0.mk (Kd.R_below (rq HO432) hb)
      have n3_ := Aside0.mk (Kd.R_below (rq HO435) hb)
      have n4_ := Aside0.mk (blk_below (g := gb420) (o := .cells #[.string a2_0, .int .i64 a2_1, .string a2_2] 24 (0, 0)) (bq BK420) hb)
      have n5_ := Aside0.mk (blk_below (g := gb437) (o := .cells #[.string a2_0, .int .i64 t436, .string a2_2] 24 (0, 0)) (bq BK437) hb)
      have n6_ := Aside0.mk (below_step (hq HB) hb)
      clear HO423
      clear HO426
      clear HO432
      clear HO435
      clear BK420
      clear BK437
      clear HB
      have HO423 := n0_
      have HO426 := n1_
      have HO432 := n2_
      have HO435 := n3_
      have BK420 := n4_
      have BK437 := n5_
      have HB := n6_
      clear n0_ n1_ n2_ n3_ n4_ n5_ n6_
      (try clear hb)
      (try clear hb2)
      (try clear hk)
      (try clear hi)
      refine hK.out _ _ ⟨(blk_cell BK437.out 0).trans rfl, (blk_cell BK437.out 1).trans rfl, (blk_cell BK437.out 2).trans rfl⟩ (fun hHeld => ?_)
      clear hK K
      refine norm_ (a' := ?_) ?_ ?_
      rotate_left
      ·show Act.put _ (some 41) _ = _
       simp only [Act.put, List.setIfInBounds_toArray, List.set_cons_zero, List.set_cons_succ, i64_w, i32_w]
       rfl
      refine pure_ (i := 14) (N := some 42) (v := ?_) (a' := ?_) #[true, true, true, true, true, true, true, true, true, true, true, true, true, true, true, false, false, false, false, false, false, false, false, false, false, false, false, false, false, false, false, false, false, false, false] rfl rfl (any_of HT_.out (by kernel_rfl)) (fun _ _ _ h => h) (Or.inl ⟨by rfl, ?_⟩) ?_ ?_
      rotate_left
      ·intro w'
       go_simp
       with_reducible rfl
      rotate_left
      ·simp only [Act.put, List.setIfInBounds_toArray, List.set_cons_zero, List.set_cons_succ, i64_w, i32_w]
       rfl
      refine pure_ (i := 15) (N := some 43) (v := ?_) (a' := ?_) #[true, true, true, true, true, true, true, true, true, true, true, true, true, true, true, true, false, false, false, false, false, false, false, false, false, false, false, false, false, false, false, false, false, false, false] rfl rfl (any_of HT_.out (by kernel_rfl)) (fun _ _ _ h => h) (Or.inl ⟨by rfl, ?_⟩) ?_ ?_
      rotate_left
      ·intro w'
       go_simp
       with_reducible rfl
      rotate_left
      ·simp only [Act.put, List.setIfInBounds_toArray, List.set_cons_zero, List.set_cons_succ, i64_w, i32_w]
       rfl
      refine pure_ (i := 16) (N := some 44) (v := ?_) (a' := ?_) #[true, true, true, true, true, true, true, true, true, true, true, true, true, true, true, true, true, false, false, false, false, false, false, false, false, false, false, false, false, false, false, false, false, false, false] rfl rfl (any_of HT_.out (by kernel_rfl)) (fun _ _ _ h => h) (Or.inl ⟨by rfl, ?_⟩) ?_ ?_
      rotate_left
      ·intro w'
       go_simp
       with_reducible rfl
      rotate_left
      ·simp only [Act.put, List.setIfInBounds_toArray, List.set_cons_zero, List.set_cons_succ, i64_w, i32_w]
       rfl
      refine pure_ (i := 17) (N := some 45) (v := ?_) (a' := ?_) #[true, true, true, true, true, true, true, true, true, true, true, true, true, true, true, true, true, true, false, false, false, false, false, false, false, false, false, false, false, false, false, false, false, false, false] rfl rfl (any_of HT_.out (by kernel_rfl)) (fun _ _ _ h => h) (Or.inl ⟨by rfl, ?_⟩) ?_ ?_
      rotate_left
      ·intro w'
       go_simp
       with_reducible rfl
      rotate_left
      ·simp only [Act.put, List.setIfInBounds_toArray, List.set_cons_zero, List.set_cons_succ, i64_w, i32_w]
       rfl
      refine pure_ (i := 21) (N := some 49) (v := ?_) (a' := ?_) #[true, true, true, true, true, true, true, true, true, true, true, true, true, true, true, true, true, true, false, false, false, true, false, false, false, false, false, false, false, false, false, false, false, false, false] rfl rfl (any_of HT_.out (by kernel_rfl)) (fun _ _ _ h => h) (Or.inl ⟨by rfl, ?_⟩) ?_ ?_
      rotate_left
      ·intro w'
       go_simp
       with_reducible rfl
      rotate_left
      ·simp only [Act.put, List.setIfInBounds_toArray, List.set_cons_zero, List.set_cons_succ, i64_w, i32_w]
       rfl
      refine take_ (i := 18) (N := some 46) (v := ?_) (a' := ?_) #[true, true, true, true, true, true, true, true, true, true, true, true, true, true, true, true, true, true, true, false, false, true, false, false, false, false, false, false, false, false, false, false, false, false, false] rfl rfl (take_ofW HT_.out HW_.out (by kernel_rfl)) (fun _ _ _ h => h) (Or.inl ⟨by rfl, ?_⟩) hHeld ?_ ?_
      rotate_left
      ·rintro w' ⟨s0, s1, s2⟩
       go_simp
       with_reducible rfl
      rotate_left
      ·simp only [Act.put, List.setIfInBounds_toArray, List.set_cons_zero, List.set_cons_succ, i64_w, i32_w]
       rfl
      refine take_ (i := 22) (N := some 50) (v := ?_) (a' := ?_) #[true, true, true, true, true, true, true, true, true, true, true, true, true, true, true, true, true, true, true, false, false, true, true, false, false, false, false, false, false, false, false, false, false, false, false] rfl rfl (take_ofW HT_.out HW_.out (by kernel_rfl)) (fun _ _ _ h => h) (Or.inl ⟨by rfl, ?_⟩) hHeld ?_ ?_
      rotate_left
      ·rintro w' ⟨s0, s1, s2⟩
       go_simp
       with_reducible rfl
      rotate_left
      ·simp only [Act.put, List.setIfInBounds_toArray, List.set_cons_zero, List.set_cons_succ, i64_w, i32_w]
       rfl
      refine join_ (σ := Value × Value) 11 #[true, true, true, true, true, true, true, true, true, true, true, true, true, true, true, true, true, true, true, true, true, true, true, true, false, false, false, false, false, false, false, false, false, false, false] (fun s_ => [(47, s_.1), (48, .bool t445), (51, s_.2)]) (fun s_ w' => (w'.cell? ⟨gb437, 0, none⟩ = some (.string a2_0) ∧ w'.cell? ⟨gb437, 1, none⟩ = some (.int .i64 t436) ∧ w'.cell? ⟨gb437, 2, none⟩ = some (.string a2_2)) ∧ (Kd.R k33 33 w' w.heap.size (fun _ => True) (.slice Ao37 t421.length co37) t421) ∧ (Kd.R k24 24 w' w.heap.size (fun k_ => some k_ ≠ (.slice Ao30 y430.length co30 : Value).ownBlock ∧ some k_ ≠ (.slice Ao39 y433.length co39 : Value).ownBlock ∧ some k_ ≠ (s_.1 : Value).ownBlock ∧ some k_ ≠ (s_.2 : Value).ownBlock ∧ k_ ≠ gb420 ∧ k_ ≠ gb437) (.slice Ao38 t424.length co38) t424) ∧ (Kd.R k24 24 w' w.heap.size (fun k_ => some k_ ≠ (.slice Ao38 t424.length co38 : Value).ownBlock ∧ some k_ ≠ (.slice Ao39 y433.length co39 : Value).ownBlock ∧ some k_ ≠ (s_.1 : Value).ownBlock ∧ some k_ ≠ (s_.2 : Value).ownBlock ∧ k_ ≠ gb420 ∧ k_ ≠ gb437) (.slice Ao30 y430.length co30) y430) ∧ (Kd.R k24 24 w' w.heap.size (fun k_ => some k_ ≠ (.slice Ao38 t424.length co38 : Value).ownBlock ∧ some k_ ≠ (.slice Ao30 y430.length co30 : Value).ownBlock ∧ some k_ ≠ (s_.1 : Value).ownBlock ∧ some k_ ≠ (s_.2 : Value).ownBlock ∧ k_ ≠ gb420 ∧ k_ ≠ gb437) (.slice Ao39 y433.length co39) y433) ∧ (Kd.R k24 24 w' w.heap.size (fun k_ => some k_ ≠ (.slice Ao38 t424.length co38 : Value).ownBlock ∧ some k_ ≠ (.slice Ao30 y430.length co30 : Value).ownBlock ∧ some k_ ≠ (.slice Ao39 y433.length co39 : Value).ownBlock ∧ some k_ ≠ (s_.2 : Value).ownBlock ∧ k_ ≠ gb420 ∧ k_ ≠ gb437) s_.1 y442) ∧ (Kd.R k24 24 w' w.heap.size (fun k_ => some k_ ≠ (.slice Ao38 t424.length co38 : Value).ownBlock ∧ some k_ ≠ (.slice Ao30 y430.length co30 : Value).ownBlock ∧ some k_ ≠ (.slice Ao39 y433.length co39 : Value).ownBlock ∧ some k_ ≠ (s_.1 : Value).ownBlock ∧ k_ ≠ gb420 ∧ k_ ≠ gb437) s_.2 y446) ∧ (w'.heap[gb420]? = some (.cells #[.string a2_0, .int .i64 a2_1, .string a2_2] 24 (0, 0))) ∧ (w'.heap[gb437]? = some (.cells #[.string a2_0, .int .i64 t436, .string a2_2] 24 (0, 0))) ∧ (Below w.heap.size w w')) ?_ ?_
      rotate_left
      ·intro hCont
       refine two_ (i := 19) (j := 23) (Ni := some 47) (Nj := some 51) #[true, true, true, true, true, true, true, true, true, true, true, true, true, true, true, true, true, true, true, true, false, true, true, false, false, false, false, false, false, false, false, false, false, false, false] #[true, true, true, true, true, true, true, true, true, true, true, true, true, true, true, true, true, true, true, false, false, true, true, true, false, false, false, false, false, false, false, false, false, false, false] rfl rfl rfl rfl (two_of HT_.out (by kernel_rfl)) (by decide) (by decide) (fun K hK => ?_) (fun K hK => ?_)
       ·skip
        refine Kd.R_lit_step k24 _ 24 ?hg (N := 47) ?hd (xs := ([(⟨a2_0, t436, a2_2⟩ : S24)] : List (S24))) (inner := [.string a2_0, .int .i64 t436, .string a2_2]) (ok := fun _ => True) (okp := fun _ => True) ?hr ?hp (fun _ hk => hk) trivial (Below.refl _ _) (Nat.le_refl _) (by simp) ?_; (case hd => rfl); (case hg => rfl); (case hr => first | (go_simp; done) | (go_simp; rfl)); (case hp => exact (Reps.c3 (show Kd.M k24 _ _ _ (⟨a2_0, t436, a2_2⟩ : S24) [.string a2_0, .int .i64 t436, .string a2_2] from (k24_mkM _ _ _ (⟨a2_0, t436, a2_2⟩ : S24) )) (Reps.none _ _)))
        intro v443 w46 ho47 hb hg_ hnew_
        clear hg_ hnew_
        (first | rw [← Ny442.out] at ho47 | (simp only [Int.reduceToNat] at ho47; rw [← Ny442.out] at ho47))
        have n0_ := Aside0.mk (Kd.R_below (rq HO423) hb)
        have n1_ := Aside0.mk (Kd.R_elder' (rq HO426) (Kd.R_base ho47) hb)
        have n2_ := Aside0.mk (Kd.R_elder' (rq HO432) (Kd.R_base ho47) hb)
        have n3_ := Aside0.mk (Kd.R_elder' (rq HO435) (Kd.R_base ho47) hb)
        have n4_ := Aside0.mk (Kd.R_lower (Kd.R_newB (Kd.R_newB (Kd.R_new' (Kd.R_new' (Kd.R_new' ho47 (Kd.R_lt (rq HO426))) (Kd.R_lt (rq HO432))) (Kd.R_lt (rq HO435))) (g := gb420) (o := .cells #[.string a2_0, .int .i64 a2_1, .string a2_2] 24 (0, 0)) (bq BK420)) (g := gb437) (o := .cells #[.string a2_0, .int .i64 t436, .string a2_2] 24 (0, 0)) (bq BK437)) (below_size (hq HB)))
        have n5_ := Aside0.mk (blk_below (g := gb420) (o := .cells #[.string a2_0, .int .i64 a2_1, .string a2_2] 24 (0, 0)) (bq BK420) hb)
        have n6_ := Aside0.mk (blk_below (g := gb437) (o := .cells #[.string a2_0, .int .i64 t436, .string a2_2] 24 (0, 0)) (bq BK437) hb)
        have n7_ := Aside0.mk (below_step (hq HB) hb)
        clear HO423
        clear HO426
        clear HO432
        clear HO435
        clear BK420
        clear BK437
        clear HB
        have HO423 := n0_
        have HO426 := n1_
        have HO432 := n2_
        have HO435 := n3_
        have HO444 := n4_
        have BK420 := n5_
        have BK437 := n6_
        have HB := n7_
        clear n0_ n1_ n2_ n3_ n4_ n5_ n6_ n7_
        clear hb ho47
        obtain ⟨Ao48, co48, eo48⟩ := Kd.R_slice HO444.out
        (first | subst eo48 | (injection eo48 with f1_ f2_ f3_; have f4_ := f1_.symm; have f5_ := f3_.symm; clear f1_ f2_ f3_; subst f4_; subst f5_))
        refine hK.out _ _ ⟨(blk_cell BK437.out 0).trans rfl, (blk_cell BK437.out 1).trans rfl, (blk_cell BK437.out 2).trans rfl⟩ (fun hHeld => ?_)
        clear hK K
        refine norm_ (a' := ?_) ?_ ?_
        rotate_left
        ·show Act.put _ (some 47) _ = _
         simp only [Act.put, List.setIfInBounds_toArray, List.set_cons_zero, List.set_cons_succ, i64_w, i32_w]
         rfl
        refine two_ (i := 20) (j := 23) (Ni := some 48) (Nj := some 51) #[true, true, true, true, true, true, true, true, true, true, true, true, true, true, true, true, true, true, true, true, true, true, true, false, false, false, false, false, false, false, false, false, false, false, false] #[true, true, true, true, true, true, true, true, true, true, true, true, true, true, true, true, true, true, true, true, false, true, true, true, false, false, false, false, false, false, false, false, false, false, false] rfl rfl rfl rfl (two_of HT_.out (by kernel_rfl)) (by decide) (by decide) (fun K hK => ?_) (fun K hK => ?_)
        ·skip
         refine goes_ Try.func36 (by kernel_rfl) rfl #[.slice Ao37 t421.length co37, .slice Ao48 y442.length co48] (by rfl) rfl rfl aq ?_
         with_reducible refine (labels_Match.calls k _ _ t421 _ _ y442 t445 _ ?side1 ?side2 ?side3 ?side4 A15.out).mono ?_
         (case side1 => repeat (first | exact (Kd.R_reads' HO423.out).2.2 | (with_reducible refine Kd.C_alloc ?_ _) | (with_reducible refine Kd.C_drewN ?_ _) | (with_reducible refine Kd.C_drew ?_)))
         (case side2 => exact (Kd.R_reads' HO423.out).2.1)
         (case side3 => repeat (first | exact (Kd.R_reads' HO444.out).2.2 | (with_reducible refine Kd.C_alloc ?_ _) | (with_reducible refine Kd.C_drewN ?_ _) | (with_reducible refine Kd.C_drew ?_)))
         (case side4 => exact (Kd.R_reads' HO444.out).2.1)
         rintro e w49 ⟨rfl, hb⟩
         refine ⟨_, rfl, ?_⟩
         have n0_ := Aside0.mk (Kd.R_below (rq HO423) hb)
         have n1_ := Aside0.mk (Kd.R_below (rq HO426) hb)
         have n2_ := Aside0.mk (Kd.R_below (rq HO432) hb)
         have n3_ := Aside0.mk (Kd.R_below (rq HO435) hb)
         have n4_ := Aside0.mk (Kd.R_below (rq HO444) hb)
         have n5_ := Aside0.mk (blk_below (g := gb420) (o := .cells #[.string a2_0, .int .i64 a2_1, .string a2_2] 24 (0, 0)) (bq BK420) hb)
         have n6_ := Aside0.mk (blk_below (g := gb437) (o := .cells #[.string a2_0, .int .i64 t436, .string a2_2] 24 (0, 0)) (bq BK437) hb)
         have n7_ := Aside0.mk (below_step (hq HB) hb)
         clear HO423
         clear HO426
         clear HO432
         clear HO435
         clear HO444
         clear BK420
         clear BK437
         clear HB
         have HO423 := n0_
         have HO426 := n1_
         have HO432 := n2_
         have HO435 := n3_
         have HO444 := n4_
         have BK420 := n5_
         have BK437 := n6_
         have HB := n7_
         clear n0_ n1_ n2_ n3_ n4_ n5_ n6_ n7_
         (try clear hb)
         (try clear hb2)
         (try clear hk)
         (try clear hi)
         refine hK.out _ _ ⟨(blk_cell BK437.out 0).trans rfl, (blk_cell BK437.out 1).trans rfl, (blk_cell BK437.out 2).trans rfl⟩ (fun hHeld => ?_)
         clear hK K
         refine norm_ (a' := ?_) ?_ ?_
         rotate_left
         ·show Act.put _ (some 48) _ = _
          simp only [Act.put, List.setIfInBounds_toArray, List.set_cons_zero, List.set_cons_succ, i64_w, i32_w]
          rfl
         refine one_ (i := 23) (N := some 51) #[true, true, true, true, true, true, true, true, true, true, true, true, true, true, true, true, true, true, true, true, true, true, true, true, false, false, false, false, false, false, false, false, false, false, false] rfl rfl (one_of HT_.out (by kernel_rfl)) (by decide) (fun K hK => ?_)
         refine Kd.R_lit_step k24 _ 24 ?hg (N := 51) ?hd (xs := ([(⟨a2_0, t436, a2_2⟩ : S24)] : List (S24))) (inner := [.string a2_0, .int .i64 t436, .string a2_2]) (ok := fun _ => True) (okp := fun _ => True) ?hr ?hp (fun _ hk => hk) trivial (Below.refl _ _) (Nat.le_refl _) (by simp) ?_; (case hd => rfl); (case hg => rfl); (case hr => first | (go_simp; done) | (go_simp; rfl)); (case hp => exact (Reps.c3 (show Kd.M k24 _ _ _ (⟨a2_0, t436, a2_2⟩ : S24) [.string a2_0, .int .i64 t436, .string a2_2] from (k24_mkM _ _ _ (⟨a2_0, t436, a2_2⟩ : S24) )) (Reps.none _ _)))
         intro v447 w50 ho51 hb hg_ hnew_
         clear hg_ hnew_
         (first | rw [← Ny446.out] at ho51 | (simp only [Int.reduceToNat] at ho51; rw [← Ny446.out] at ho51))
         have n0_ := Aside0.mk (Kd.R_below (rq HO423) hb)
         have n1_ := Aside0.mk (Kd.R_elder' (rq HO426) (Kd.R_base ho51) hb)
         have n2_ := Aside0.mk (Kd.R_elder' (rq HO432) (Kd.R_base ho51) hb)
         have n3_ := Aside0.mk (Kd.R_elder' (rq HO435) (Kd.R_base ho51) hb)
         have n4_ := Aside0.mk (Kd.R_elder' (rq HO444) (Kd.R_base ho51) hb)
         have n5_ := Aside0.mk (Kd.R_lower (Kd.R_newB (Kd.R_newB (Kd.R_new' (Kd.R_new' (Kd.R_new' (Kd.R_new' ho51 (Kd.R_lt (rq HO426))) (Kd.R_lt (rq HO432))) (Kd.R_lt (rq HO435))) (Kd.R_lt (rq HO444))) (g := gb420) (o := .cells #[.string a2_0, .int .i64 a2_1, .string a2_2] 24 (0, 0)) (bq BK420)) (g := gb437) (o := .cells #[.string a2_0, .int .i64 t436, .string a2_2] 24 (0, 0)) (bq BK437)) (below_size (hq HB)))
         have n6_ := Aside0.mk (blk_below (g := gb420) (o := .cells #[.string a2_0, .int .i64 a2_1, .string a2_2] 24 (0, 0)) (bq BK420) hb)
         have n7_ := Aside0.mk (blk_below (g := gb437) (o := .cells #[.string a2_0, .int .i64 t436, .string a2_2] 24 (0, 0)) (bq BK437) hb)
         have n8_ := Aside0.mk (below_step (hq HB) hb)
         clear HO423
         clear HO426
         clear HO432
         clear HO435
         clear HO444
         clear BK420
         clear BK437
         clear HB
         have HO423 := n0_
         have HO426 := n1_
         have HO432 := n2_
         have HO435 := n3_
         have HO444 := n4_
         have HO448 := n5_
         have BK420 := n6_
         have BK437 := n7_
         have HB := n8_
         clear n0_ n1_ n2_ n3_ n4_ n5_ n6_ n7_ n8_
         clear hb ho51
         refine hK.out _ _ ⟨(blk_cell BK437.out 0).trans rfl, (blk_cell BK437.out 1).trans rfl, (blk_cell BK437.out 2).trans rfl⟩ (fun hHeld => ?_)
         clear hK K
         refine norm_ (a' := ?_) ?_ ?_
         rotate_left
         ·show Act.put _ (some 51) _ = _
          simp only [Act.put, List.setIfInBounds_toArray, List.set_cons_zero, List.set_cons_succ, i64_w, i32_w]
          rfl
         exact norm_ (by simp only [putAll, Act.put, List.setIfInBounds_toArray, List.set_cons_zero, List.set_cons_succ]) (hCont (.slice Ao48 y442.length co48, v447) _ ⟨hHeld, (rq HO423), (by (with_reducible repeat (first | apply Kd.R_alloc | apply Kd.R_drewN | apply Kd.R_drew)); exact Kd.R_mono HO426.out (fun _ hk => ⟨hk.1.1.1, ⟨hk.1.1.2.1, ⟨hk.1.2, ⟨hk.2, ⟨hk.1.1.2.2.1, hk.1.1.2.2.2⟩⟩⟩⟩⟩)), (by (with_reducible repeat (first | apply Kd.R_alloc | apply Kd.R_drewN | apply Kd.R_drew)); exact Kd.R_mono HO432.out (fun _ hk => ⟨hk.1.1.1, ⟨hk.1.1.2.1, ⟨hk.1.2, ⟨hk.2, ⟨hk.1.1.2.2.1, hk.1.1.2.2.2⟩⟩⟩⟩⟩)), (by (with_reducible repeat (first | apply Kd.R_alloc | apply Kd.R_drewN | apply Kd.R_drew)); exact Kd.R_mono HO435.out (fun _ hk => ⟨hk.1.1.1, ⟨hk.1.1.2.1, ⟨hk.1.2, ⟨hk.2, ⟨hk.1.1.2.2.1, hk.1.1.2.2.2⟩⟩⟩⟩⟩)), (by (with_reducible repeat (first | apply Kd.R_alloc | apply Kd.R_drewN | apply Kd.R_drew)); exact Kd.R_mono HO444.out (fun _ hk => ⟨hk.1.1.1.1.1.2, ⟨hk.1.1.1.1.2, ⟨hk.1.1.1.2, ⟨hk.2, ⟨hk.1.1.2, hk.1.2⟩⟩⟩⟩⟩)), (by (with_reducible repeat (first | apply Kd.R_alloc | apply Kd.R_drewN | apply Kd.R_drew)); exact Kd.R_mono HO448.out (fun _ hk => ⟨hk.1.1.1.1.1.2, ⟨hk.1.1.1.1.2, ⟨hk.1.1.1.2, ⟨hk.1.1.2, ⟨hk.1.2, hk.2⟩⟩⟩⟩⟩)), (bq BK420), (bq BK437), (hq HB)⟩)
        ·skip
         refine Kd.R_lit_step k24 _ 24 ?hg (N := 51) ?hd (xs := ([(⟨a2_0, t436, a2_2⟩ : S24)] : List (S24))) (inner := [.string a2_0, .int .i64 t436, .string a2_2]) (ok := fun _ => True) (okp := fun _ => True) ?hr ?hp (fun _ hk => hk) trivial (Below.refl _ _) (Nat.le_refl _) (by simp) ?_; (case hd => rfl); (case hg => rfl); (case hr => first | (go_simp; done) | (go_simp; rfl)); (case hp => exact (Reps.c3 (show Kd.M k24 _ _ _ (⟨a2_0, t436, a2_2⟩ : S24) [.string a2_0, .int .i64 t436, .string a2_2] from (k24_mkM _ _ _ (⟨a2_0, t436, a2_2⟩ : S24) )) (Reps.none _ _)))
         intro v447 w48 ho49 hb hg_ hnew_
         clear hg_ hnew_
         (first | rw [← Ny446.out] at ho49 | (simp only [Int.reduceToNat] at ho49; rw [← Ny446.out] at ho49))
         have n0_ := Aside0.mk (Kd.R_below (rq HO423) hb)
         have n1_ := Aside0.mk (Kd.R_elder' (rq HO426) (Kd.R_base ho49) hb)
         have n2_ := Aside0.mk (Kd.R_elder' (rq HO432) (Kd.R_base ho49) hb)
         have n3_ := Aside0.mk (Kd.R_elder' (rq HO435) (Kd.R_base ho49) hb)
         have n4_ := Aside0.mk (Kd.R_elder' (rq HO444) (Kd.R_base ho49) hb)
         have n5_ := Aside0.mk (Kd.R_lower (Kd.R_newB (Kd.R_newB (Kd.R_new' (Kd.R_new' (Kd.R_new' (Kd.R_new' ho49 (Kd.R_lt (rq HO426))) (Kd.R_lt (rq HO432))) (Kd.R_lt (rq HO435))) (Kd.R_lt (rq HO444))) (g := gb420) (o := .cells #[.string a2_0, .int .i64 a2_1, .string a2_2] 24 (0, 0)) (bq BK420)) (g := gb437) (o := .cells #[.string a2_0, .int .i64 t436, .string a2_2] 24 (0, 0)) (bq BK437)) (below_size (hq HB)))
         have n6_ := Aside0.mk (blk_below (g := gb420) (o := .cells #[.string a2_0, .int .i64 a2_1, .string a2_2] 24 (0, 0)) (bq BK420) hb)
         have n7_ := Aside0.mk (blk_below (g := gb437) (o := .cells #[.string a2_0, .int .i64 t436, .string a2_2] 24 (0, 0)) (bq BK437) hb)
         have n8_ := Aside0.mk (below_step (hq HB) hb)
         clear HO423
         clear HO426
         clear HO432
         clear HO435
         clear HO444
         clear BK420
         clear BK437
         clear HB
         have HO423 := n0_
         have HO426 := n1_
         have HO432 := n2_
         have HO435 := n3_
         have HO444 := n4_
         have HO448 := n5_
         have BK420 := n6_
         have BK437 := n7_
         have HB := n8_
         clear n0_ n1_ n2_ n3_ n4_ n5_ n6_ n7_ n8_
         clear hb ho49
         obtain ⟨Ao50, co50, eo50⟩ := Kd.R_slice HO444.out
         (first | subst eo50 | (injection eo50 with f1_ f2_ f3_; have f4_ := f1_.symm; have f5_ := f3_.symm; clear f1_ f2_ f3_; subst f4_; subst f5_))
         refine hK.out _ _ ⟨(blk_cell BK437.out 0).trans rfl, (blk_cell BK437.out 1).trans rfl, (blk_cell BK437.out 2).trans rfl⟩ (fun hHeld => ?_)
         clear hK K
         refine norm_ (a' := ?_) ?_ ?_
         rotate_left
         ·show Act.put _ (some 51) _ = _
          simp only [Act.put, List.setIfInBounds_toArray, List.set_cons_zero, List.set_cons_succ, i64_w, i32_w]
          rfl
         refine one_ (i := 20) (N := some 48) #[true, true, true, true, true, true, true, true, true, true, true, true, true, true, true, true, true, true, true, true, true, true, true, true, false, false, false, false, false, false, false, false, false, false, false] rfl rfl (one_of HT_.out (by kernel_rfl)) (by decide) (fun K hK => ?_)
         refine goes_ Try.func36 (by kernel_rfl) rfl #[.slice Ao37 t421.length co37, .slice Ao50 y442.length co50] (by rfl) rfl rfl aq ?_
         with_reducible refine (labels_Match.calls k _ _ t421 _ _ y442 t445 _ ?side1 ?side2 ?side3 ?side4 A15.out).mono ?_
         (case side1 => repeat (first | exact (Kd.R_reads' HO423.out).2.2 | (with_reducible refine Kd.C_alloc ?_ _) | (with_reducible refine Kd.C_drewN ?_ _) | (with_reducible refine Kd.C_drew ?_)))
         (case side2 => exact (Kd.R_reads' HO423.out).2.1)
         (case side3 => repeat (first | exact (Kd.R_reads' HO444.out).2.2 | (with_reducible refine Kd.C_alloc ?_ _) | (with_reducible refine Kd.C_drewN ?_ _) | (with_reducible refine Kd.C_drew ?_)))
         (case side4 => exact (Kd.R_reads' HO444.out).2.1)
         rintro e w51 ⟨rfl, hb⟩
         refine ⟨_, rfl, ?_⟩
         have n0_ := Aside0.mk (Kd.R_below (rq HO423) hb)
         have n1_ := Aside0.mk (Kd.R_below (rq HO426) hb)
         have n2_ := Aside0.mk (Kd.R_below (rq HO432) hb)
         have n3_ := Aside0.mk (Kd.R_below (rq HO435) hb)
         have n4_ := Aside0.mk (Kd.R_below (rq HO444) hb)
         have n5_ := Aside0.mk (Kd.R_below (rq HO448) hb)
         have n6_ := Aside0.mk (blk_below (g := gb420) (o := .cells #[.string a2_0, .int .i64 a2_1, .string a2_2] 24 (0, 0)) (bq BK420) hb)
         have n7_ := Aside0.mk (blk_below (g := gb437) (o := .cells #[.string a2_0, .int .i64 t436, .string a2_2] 24 (0, 0)) (bq BK437) hb)
         have n8_ := Aside0.mk (below_step (hq HB) hb)
         clear HO423
         clear HO426
         clear HO432
         clear HO435
         clear HO444
         clear HO448
         clear BK420
         clear BK437
         clear HB
         have HO423 := n0_
         have HO426 := n1_
         have HO432 := n2_
         have HO435 := n3_
         have HO444 := n4_
         have HO448 := n5_
         have BK420 := n6_
         have BK437 := n7_
         have HB := n8_
         clear n0_ n1_ n2_ n3_ n4_ n5_ n6_ n7_ n8_
         (try clear hb)
         (try clear hb2)
         (try clear hk)
         (try clear hi)
         refine hK.out _ _ ⟨(blk_cell BK437.out 0).trans rfl, (blk_cell BK437.out 1).trans rfl, (blk_cell BK437.out 2).trans rfl⟩ (fun hHeld => ?_)
         clear hK K
         refine norm_ (a' := ?_) ?_ ?_
         rotate_left
         ·show Act.put _ (some 48) _ = _
          simp only [Act.put, List.setIfInBounds_toArray, List.set_cons_zero, List.set_cons_succ, i64_w, i32_w]
          rfl
         exact norm_ (by simp only [putAll, Act.put, List.setIfInBounds_toArray, List.set_cons_zero, List.set_cons_succ]) (hCont (.slice Ao50 y442.length co50, v447) _ ⟨hHeld, (rq HO423), (by (with_reducible repeat (first | apply Kd.R_alloc | apply Kd.R_drewN | apply Kd.R_drew)); exact Kd.R_mono HO426.out (fun _ hk => ⟨hk.1.1.1, ⟨hk.1.1.2.1, ⟨hk.1.2, ⟨hk.2, ⟨hk.1.1.2.2.1, hk.1.1.2.2.2⟩⟩⟩⟩⟩)), (by (with_reducible repeat (first | apply Kd.R_alloc | apply Kd.R_drewN | apply Kd.R_drew)); exact Kd.R_mono HO432.out (fun _ hk => ⟨hk.1.1.1, ⟨hk.1.1.2.1, ⟨hk.1.2, ⟨hk.2, ⟨hk.1.1.2.2.1, hk.1.1.2.2.2⟩⟩⟩⟩⟩)), (by (with_reducible repeat (first | apply Kd.R_alloc | apply Kd.R_drewN | apply Kd.R_drew)); exact Kd.R_mono HO435.out (fun _ hk => ⟨hk.1.1.1, ⟨hk.1.1.2.1, ⟨hk.1.2, ⟨hk.2, ⟨hk.1.1.2.2.1, hk.1.1.2.2.2⟩⟩⟩⟩⟩)), (by (with_reducible repeat (first | apply Kd.R_alloc | apply Kd.R_drewN | apply Kd.R_drew)); exact Kd.R_mono HO444.out (fun _ hk => ⟨hk.1.1.1.1.1.2, ⟨hk.1.1.1.1.2, ⟨hk.1.1.1.2, ⟨hk.2, ⟨hk.1.1.2, hk.1.2⟩⟩⟩⟩⟩)), (by (with_reducible repeat (first | apply Kd.R_alloc | apply Kd.R_drewN | apply Kd.R_drew)); exact Kd.R_mono HO448.out (fun _ hk => ⟨hk.1.1.1.1.1.2, ⟨hk.1.1.1.1.2, ⟨hk.1.1.1.2, ⟨hk.1.1.2, ⟨hk.1.2, hk.2⟩⟩⟩⟩⟩)), (bq BK420), (bq BK437), (hq HB)⟩)
       ·skip
        refine Kd.R_lit_step k24 _ 24 ?hg (N := 51) ?hd (xs := ([(⟨a2_0, t436, a2_2⟩ : S24)] : List (S24))) (inner := [.string a2_0, .int .i64 t436, .string a2_2]) (ok := fun _ => True) (okp := fun _ => True) ?hr ?hp (fun _ hk => hk) trivial (Below.refl _ _) (Nat.le_refl _) (by simp) ?_; (case hd => rfl); (case hg => rfl); (case hr => first | (go_simp; done) | (go_simp; rfl)); (case hp => exact (Reps.c3 (show Kd.M k24 _ _ _ (⟨a2_0, t436, a2_2⟩ : S24) [.string a2_0, .int .i64 t436, .string a2_2] from (k24_mkM _ _ _ (⟨a2_0, t436, a2_2⟩ : S24) )) (Reps.none _ _)))
        intro v447 w46 ho47 hb hg_ hnew_
        clear hg_ hnew_
        (first | rw [← Ny446.out] at ho47 | (simp only [Int.reduceToNat] at ho47; rw [← Ny446.out] at ho47))
        have n0_ := Aside0.mk (Kd.R_below (rq HO423) hb)
        have n1_ := Aside0.mk (Kd.R_elder' (rq HO426) (Kd.R_base ho47) hb)
        have n2_ := Aside0.mk (Kd.R_elder' (rq HO432) (Kd.R_base ho47) hb)
        have n3_ := Aside0.mk (Kd.R_elder' (rq HO435) (Kd.R_base ho47) hb)
        have n4_ := Aside0.mk (Kd.R_lower (Kd.R_newB (Kd.R_newB (Kd.R_new' (Kd.R_new' (Kd.R_new' ho47 (Kd.R_lt (rq HO426))) (Kd.R_lt (rq HO432))) (Kd.R_lt (rq HO435))) (g := gb420) (o := .cells #[.string a2_0, .int .i64 a2_1, .string a2_2] 24 (0, 0)) (bq BK420)) (g := gb437) (o := .cells #[.string a2_0, .int .i64 t436, .string a2_2] 24 (0, 0)) (bq BK437)) (below_size (hq HB)))
        have n5_ := Aside0.mk (blk_below (g := gb420) (o := .cells #[.string a2_0, .int .i64 a2_1, .string a2_2] 24 (0, 0)) (bq BK420) hb)
        have n6_ := Aside0.mk (blk_below (g := gb437) (o := .cells #[.string a2_0, .int .i64 t436, .string a2_2] 24 (0, 0)) (bq BK437) hb)
        have n7_ := Aside0.mk (below_step (hq HB) hb)
        clear HO423
        clear HO426
        clear HO432
        clear HO435
        clear BK420
        clear BK437
        clear HB
        have HO423 := n0_
        have HO426 := n1_
        have HO432 := n2_
        have HO435 := n3_
        have HO448 := n4_
        have BK420 := n5_
        have BK437 := n6_
        have HB := n7_
        clear n0_ n1_ n2_ n3_ n4_ n5_ n6_ n7_
        clear hb ho47
        refine hK.out _ _ ⟨(blk_cell BK437.out 0).trans rfl, (blk_cell BK437.out 1).trans rfl, (blk_cell BK437.out 2).trans rfl⟩ (fun hHeld => ?_)
        clear hK K
        refine norm_ (a' := ?_) ?_ ?_
        rotate_left
        ·show Act.put _ (some 51) _ = _
         simp only [Act.put, List.setIfInBounds_toArray, List.set_cons_zero, List.set_cons_succ, i64_w, i32_w]
         rfl
        refine one_ (i := 19) (N := some 47) #[true, true, true, true, true, true, true, true, true, true, true, true, true, true, true, true, true, true, true, true, false, true, true, true, false, false, false, false, false, false, false, false, false, false, false] rfl rfl (one_of HT_.out (by kernel_rfl)) (by decide) (fun K hK => ?_)
        refine Kd.R_lit_step k24 _ 24 ?hg (N := 47) ?hd (xs := ([(⟨a2_0, t436, a2_2⟩ : S24)] : List (S24))) (inner := [.string a2_0, .int .i64 t436, .string a2_2]) (ok := fun _ => True) (okp := fun _ => True) ?hr ?hp (fun _ hk => hk) trivial (Below.refl _ _) (Nat.le_refl _) (by simp) ?_; (case hd => rfl); (case hg => rfl); (case hr => first | (go_simp; done) | (go_simp; rfl)); (case hp => exact (Reps.c3 (show Kd.M k24 _ _ _ (⟨a2_0, t436, a2_2⟩ : S24) [.string a2_0, .int .i64 t436, .string a2_2] from (k24_mkM _ _ _ (⟨a2_0, t436, a2_2⟩ : S24) )) (Reps.none _ _)))
        intro v443 w48 ho49 hb hg_ hnew_
        clear hg_ hnew_
        (first | rw [← Ny442.out] at ho49 | (simp only [Int.reduceToNat] at ho49; rw [← Ny442.out] at ho49))
        have n0_ := Aside0.mk (Kd.R_below (rq HO423) hb)
        have n1_ := Aside0.mk (Kd.R_elder' (rq HO426) (Kd.R_base ho49) hb)
        have n2_ := Aside0.mk (Kd.R_elder' (rq HO432) (Kd.R_base ho49) hb)
        have n3_ := Aside0.mk (Kd.R_elder' (rq HO435) (Kd.R_base ho49) hb)
        have n4_ := Aside0.mk (Kd.R_elder' (rq HO448) (Kd.R_base ho49) hb)
        have n5_ := Aside0.mk (Kd.R_lower (Kd.R_newB (Kd.R_newB (Kd.R_new' (Kd.R_new' (Kd.R_new' (Kd.R_new' ho49 (Kd.R_lt (rq HO426))) (Kd.R_lt (rq HO432))) (Kd.R_lt (rq HO435))) (Kd.R_lt (rq HO448))) (g := gb420) (o := .cells #[.string a2_0, .int .i64 a2_1, .string a2_2] 24 (0, 0)) (bq BK420)) (g := gb437) (o := .cells #[.string a2_0, .int .i64 t436, .string a2_2] 24 (0, 0)) (bq BK437)) (below_size (hq HB)))
        have n6_ := Aside0.mk (blk_below (g := gb420) (o := .cells #[.string a2_0, .int .i64 a2_1, .string a2_2] 24 (0, 0)) (bq BK420) hb)
        have n7_ := Aside0.mk (blk_below (g := gb437) (o := .cells #[.string a2_0, .int .i64 t436, .string a2_2] 24 (0, 0)) (bq BK437) hb)
        have n8_ := Aside0.mk (below_step (hq HB) hb)
        clear HO423
        clear HO426
        clear HO432
        clear HO435
        clear HO448
        clear BK420
        clear BK437
        clear HB
        have HO423 := n0_
        have HO426 := n1_
        have HO432 := n2_
        have HO435 := n3_
        have HO448 := n4_
        have HO444 := n5_
        have BK420 := n6_
        have BK437 := n7_
        have HB := n8_
        clear n0_ n1_ n2_ n3_ n4_ n5_ n6_ n7_ n8_
        clear hb ho49
        obtain ⟨Ao50, co50, eo50⟩ := Kd.R_slice HO444.out
        (first | subst eo50 | (injection eo50 with f1_ f2_ f3_; have f4_ := f1_.symm; have f5_ := f3_.symm; clear f1_ f2_ f3_; subst f4_; subst f5_))
        refine hK.out _ _ ⟨(blk_cell BK437.out 0).trans rfl, (blk_cell BK437.out 1).trans rfl, (blk_cell BK437.out 2).trans rfl⟩ (fun hHeld => ?_)
        clear hK K
        refine norm_ (a' := ?_) ?_ ?_
        rotate_left
        ·show Act.put _ (some 47) _ = _
         simp only [Act.put, List.setIfInBounds_toArray, List.set_cons_zero, List.set_cons_succ, i64_w, i32_w]
         rfl
        refine one_ (i := 20) (N := some 48) #[true, true, true, true, true, true, true, true, true, true, true, true, true, true, true, true, true, true, true, true, true, true, true, true, false, false, false, false, false, false, false, false, false, false, false] rfl rfl (one_of HT_.out (by kernel_rfl)) (by decide) (fun K hK => ?_)
        refine goes_ Try.func36 (by kernel_rfl) rfl #[.slice Ao37 t421.length co37, .slice Ao50 y442.length co50] (by rfl) rfl rfl aq ?_
        with_reducible refine (labels_Match.calls k _ _ t421 _ _ y442 t445 _ ?side1 ?side2 ?side3 ?side4 A15.out).mono ?_
        (case side1 => repeat (first | exact (Kd.R_reads' HO423.out).2.2 | (with_reducible refine Kd.C_alloc ?_ _) | (with_reducible refine Kd.C_drewN ?_ _) | (with_reducible refine Kd.C_drew ?_)))
        (case side2 => exact (Kd.R_reads' HO423.out).2.1)
        (case side3 => repeat (first | exact (Kd.R_reads' HO444.out).2.2 | (with_reducible refine Kd.C_alloc ?_ _) | (with_reducible refine Kd.C_drewN ?_ _) | (with_reducible refine Kd.C_drew ?_)))
        (case side4 => exact (Kd.R_reads' HO444.out).2.1)
        rintro e w51 ⟨rfl, hb⟩
        refine ⟨_, rfl, ?_⟩
        have n0_ := Aside0.mk (Kd.R_below (rq HO423) hb)
        have n1_ := Aside0.mk (Kd.R_below (rq HO426) hb)
        have n2_ := Aside0.mk (Kd.R_below (rq HO432) hb)
        have n3_ := Aside0.mk (Kd.R_below (rq HO435) hb)
        have n4_ := Aside0.mk (Kd.R_below (rq HO448) hb)
        have n5_ := Aside0.mk (Kd.R_below (rq HO444) hb)
        have n6_ := Aside0.mk (blk_below (g := gb420) (o := .cells #[.string a2_0, .int .i64 a2_1, .string a2_2] 24 (0, 0)) (bq BK420) hb)
        have n7_ := Aside0.mk (blk_below (g := gb437) (o := .cells #[.string a2_0, .int .i64 t436, .string a2_2] 24 (0, 0)) (bq BK437) hb)
        have n8_ := Aside0.mk (below_step (hq HB) hb)
        clear HO423
        clear HO426
        clear HO432
        clear HO435
        clear HO448
        clear HO444
        clear BK420
        clear BK437
        clear HB
        have HO423 := n0_
        have HO426 := n1_
        have HO432 := n2_
        have HO435 := n3_
        have HO448 := n4_
        have HO444 := n5_
        have BK420 := n6_
        have BK437 := n7_
        have HB := n8_
        clear n0_ n1_ n2_ n3_ n4_ n5_ n6_ n7_ n8_
        (try clear hb)
        (try clear hb2)
        (try clear hk)
        (try clear hi)
        refine hK.out _ _ ⟨(blk_cell BK437.out 0).trans rfl, (blk_cell BK437.out 1).trans rfl, (blk_cell BK437.out 2).trans rfl⟩ (fun hHeld => ?_)
        clear hK K
        refine norm_ (a' := ?_) ?_ ?_
        rotate_left
        ·show Act.put _ (some 48) _ = _
         simp only [Act.put, List.setIfInBounds_toArray, List.set_cons_zero, List.set_cons_succ, i64_w, i32_w]
         rfl
        exact norm_ (by simp only [putAll, Act.put, List.setIfInBounds_toArray, List.set_cons_zero, List.set_cons_succ]) (hCont (.slice Ao50 y442.length co50, v447) _ ⟨hHeld, (rq HO423), (by (with_reducible repeat (first | apply Kd.R_alloc | apply Kd.R_drewN | apply Kd.R_drew)); exact Kd.R_mono HO426.out (fun _ hk => ⟨hk.1.1.1, ⟨hk.1.1.2.1, ⟨hk.2, ⟨hk.1.2, ⟨hk.1.1.2.2.1, hk.1.1.2.2.2⟩⟩⟩⟩⟩)), (by (with_reducible repeat (first | apply Kd.R_alloc | apply Kd.R_drewN | apply Kd.R_drew)); exact Kd.R_mono HO432.out (fun _ hk => ⟨hk.1.1.1, ⟨hk.1.1.2.1, ⟨hk.2, ⟨hk.1.2, ⟨hk.1.1.2.2.1, hk.1.1.2.2.2⟩⟩⟩⟩⟩)), (by (with_reducible repeat (first | apply Kd.R_alloc | apply Kd.R_drewN | apply Kd.R_drew)); exact Kd.R_mono HO435.out (fun _ hk => ⟨hk.1.1.1, ⟨hk.1.1.2.1, ⟨hk.2, ⟨hk.1.2, ⟨hk.1.1.2.2.1, hk.1.1.2.2.2⟩⟩⟩⟩⟩)), (by (with_reducible repeat (first | apply Kd.R_alloc | apply Kd.R_drewN | apply Kd.R_drew)); exact Kd.R_mono HO444.out (fun _ hk => ⟨hk.1.1.1.1.1.2, ⟨hk.1.1.1.1.2, ⟨hk.1.1.1.2, ⟨hk.1.1.2, ⟨hk.1.2, hk.2⟩⟩⟩⟩⟩)), (by (with_reducible repeat (first | apply Kd.R_alloc | apply Kd.R_drewN | apply Kd.R_drew)); exact Kd.R_mono HO448.out (fun _ hk => ⟨hk.1.1.1.1.1.2, ⟨hk.1.1.1.1.2, ⟨hk.1.1.1.2, ⟨hk.2, ⟨hk.1.1.2, hk.1.2⟩⟩⟩⟩⟩)), (bq BK420), (bq BK437), (hq HB)⟩)
      rintro ⟨v443, v447⟩ w52 ⟨hS_, h0_, h1_, h2_, h3_, h4_, h5_, h6_, h7_, h8_⟩
      have n0_ : Aside0 (Kd.R k33 33 w52 w.heap.size (fun _ => True) (.slice Ao37 t421.length co37) t421) := ⟨h0_⟩
      have n1_ : Aside0 (Kd.R k24 24 w52 w.heap.size (fun k_ => some k_ ≠ (.slice Ao30 y430.length co30 : Value).ownBlock ∧ some k_ ≠ (.slice Ao39 y433.length co39 : Value).ownBlock ∧ some k_ ≠ (v443 : Value).ownBlock ∧ some k_ ≠ (v447 : Value).ownBlock ∧ k_ ≠ gb420 ∧ k_ ≠ gb437) (.slice Ao38 t424.length co38) t424) := ⟨h1_⟩
      have n2_ : Aside0 (Kd.R k24 24 w52 w.heap.size (fun k_ => some k_ ≠ (.slice Ao38 t424.length co38 : Value).ownBlock ∧ some k_ ≠ (.slice Ao39 y433.length co39 : Value).ownBlock ∧ some k_ ≠ (v443 : Value).ownBlock ∧ some k_ ≠ (v447 : Value).ownBlock ∧ k_ ≠ gb420 ∧ k_ ≠ gb437) (.slice Ao30 y430.length co30) y430) := ⟨h2_⟩
      have n3_ : Aside0 (Kd.R k24 24 w52 w.heap.size (fun k_ => some k_ ≠ (.slice Ao38 t424.length co38 : Value).ownBlock ∧ some k_ ≠ (.slice Ao30 y430.length co30 : Value).ownBlock ∧ some k_ ≠ (v443 : Value).ownBlock ∧ some k_ ≠ (v447 : Value).ownBlock ∧ k_ ≠ gb420 ∧ k_ ≠ gb437) (.slice Ao39 y433.length co39) y433) := ⟨h3_⟩
      have n4_ : Aside0 (Kd.R k24 24 w52 w.heap.size (fun k_ => some k_ ≠ (.slice Ao38 t424.length co38 : Value).ownBlock ∧ some k_ ≠ (.slice Ao30 y430.length co30 : Value).ownBlock ∧ some k_ ≠ (.slice Ao39 y433.length co39 : Value).ownBlock ∧ some k_ ≠ (v447 : Value).ownBlock ∧ k_ ≠ gb420 ∧ k_ ≠ gb437) v443 y442) := ⟨h4_⟩
      have n5_ : Aside0 (Kd.R k24 24 w52 w.heap.size (fun k_ => some k_ ≠ (.slice Ao38 t424.length co38 : Value).ownBlock ∧ some k_ ≠ (.slice Ao30 y430.length co30 : Value).ownBlock ∧ some k_ ≠ (.slice Ao39 y433.length co39 : Value).ownBlock ∧ some k_ ≠ (v443 : Value).ownBlock ∧ k_ ≠ gb420 ∧ k_ ≠ gb437) v447 y446) := ⟨h5_⟩
      have n6_ : Aside0 (w52.heap[gb420]? = some (.cells #[.string a2_0, .int .i64 a2_1, .string a2_2] 24 (0, 0))) := ⟨h6_⟩
      have n7_ : Aside0 (w52.heap[gb437]? = some (.cells #[.string a2_0, .int .i64 t436, .string a2_2] 24 (0, 0))) := ⟨h7_⟩
      have n8_ : Aside0 (Below w.heap.size w w52) := ⟨h8_⟩
      clear HO423
      clear HO426
      clear HO432
      clear HO435
      clear BK420
      clear BK437
      clear HB
      clear h0_ h1_ h2_ h3_ h4_ h5_ h6_ h7_ h8_
      have HO423 := n0_
      have HO426 := n1_
      have HO432 := n2_
      have HO435 := n3_
      have HO444 := n4_
      have HO448 := n5_
      have BK420 := n6_
      have BK437 := n7_
      have HB := n8_
      clear n0_ n1_ n2_ n3_ n4_ n5_ n6_ n7_ n8_
      have hHeld : w52.cell? ⟨gb437, 0, none⟩ = some (.string a2_0) ∧ w52.cell? ⟨gb437, 1, none⟩ = some (.int .i64 t436) ∧ w52.cell? ⟨gb437, 2, none⟩ = some (.string a2_2) := hS_
      obtain ⟨Ao53, co53, eo53⟩ := Kd.R_slice HO448.out
      (first | subst eo53 | (injection eo53 with f1_ f2_ f3_; have f4_ := f1_.symm; have f5_ := f3_.symm; clear f1_ f2_ f3_; subst f4_; subst f5_))
      refine norm_ (a' := ?_) ?_ ?_
      rotate_left
      ·simp only [putAll, Act.put, List.setIfInBounds_toArray, List.set_cons_zero, List.set_cons_succ]
       rfl
      refine one_ (i := 24) (N := some 52) #[true, true, true, true, true, true, true, true, true, true, true, true, true, true, true, true, true, true, true, true, true, true, true, true, true, false, false, false, false, false, false, false, false, false, false] rfl rfl (one_of HT_.out (by kernel_rfl)) (by decide) (fun K hK => ?_)
      refine goes_ Try.func37 (by kernel_rfl) rfl #[.slice Ao37 t421.length co37, .slice Ao53 y446.length co53] (by rfl) rfl rfl aq ?_
      with_reducible refine (intervalmonref05_Match.calls k _ _ t421 _ _ y446 t449 _ ?side1 ?side2 ?side3 ?side4 A16.out).mono ?_
      (case side1 => repeat (first | exact (Kd.R_reads' HO423.out).2.2 | (with_reducible refine Kd.C_alloc ?_ _) | (with_reducible refine Kd.C_drewN ?_ _) | (with_reducible refine Kd.C_drew ?_)))
      (case side2 => exact (Kd.R_reads' HO423.out).2.1)
      (case side3 => repeat (first | exact (Kd.R_reads' HO448.out).2.2 | (with_reducible refine Kd.C_alloc ?_ _) | (with_reducible refine Kd.C_drewN ?_ _) | (with_reducible refine Kd.C_drew ?_)))
      (case side4 => exact (Kd.R_reads' HO448.out).2.1)
      rintro e w54 ⟨rfl, hb⟩
      refine ⟨_, rfl, ?_⟩
      have n0_ := Aside0.mk (Kd.R_below (rq HO423) hb)
      have n1_ := Aside0.mk (Kd.R_below (rq HO426) hb)
      have n2_ := Aside0.mk (Kd.R_below (rq HO432) hb)
      have n3_ := Aside0.mk (Kd.R_below (rq HO435) hb)
      have n4_ := Aside0.mk (Kd.R_below (rq HO444) hb)
      have n5_ := Aside0.mk (Kd.R_below (rq HO448) hb)
      have n6_ := Aside0.mk (blk_below (g := gb420) (o := .cells #[.string a2_0, .int .i64 a2_1, .string a2_2] 24 (0, 0)) (bq BK420) hb)
      have n7_ := Aside0.mk (blk_below (g := gb437) (o := .cells #[.string a2_0, .int .i64 t436, .string a2_2] 24 (0, 0)) (bq BK437) hb)
      have n8_ := Aside0.mk (below_step (hq HB) hb)
      clear HO423
      clear HO426
      clear HO432
      clear HO435
      clear HO444
      clear HO448
      clear BK420
      clear BK437
      clear HB
      have HO423 := n0_
      have HO426 := n1_
      have HO432 := n2_
      have HO435 := n3_
      have HO444 := n4_
      have HO448 := n5_
      have BK420 := n6_
      have BK437 := n7_
      have HB := n8_
      clear n0_ n1_ n2_ n3_ n4_ n5_ n6_ n7_ n8_
      (try clear hb)
      (try clear hb2)
      (try clear hk)
      (try clear hi)
      refine hK.out _ _ ⟨(blk_cell BK437.out 0).trans rfl, (blk_cell BK437.out 1).trans rfl, (blk_cell BK437.out 2).trans rfl⟩ (fun hHeld => ?_)
      clear hK K
      refine norm_ (a' := ?_) ?_ ?_
      rotate_left
      ·show Act.put _ (some 52) _ = _
       simp only [Act.put, List.setIfInBounds_toArray, List.set_cons_zero, List.set_cons_succ, i64_w, i32_w]
       rfl
      refine pure_ (i := 25) (N := some 53) (v := ?_) (a' := ?_) #[true, true, true, true, true, true, true, true, true, true, true, true, true, true, true, true, true, true, true, true, true, true, true, true, true, true, false, false, false, false, false, false, false, false, false] rfl rfl (any_of HT_.out (by kernel_rfl)) (fun _ _ _ h => h) (Or.inl ⟨by rfl, ?_⟩) ?_ ?_
      rotate_left
      ·intro w'
       go_simp
       with_reducible rfl
      rotate_left
      ·simp only [Act.put, List.setIfInBounds_toArray, List.set_cons_zero, List.set_cons_succ, i64_w, i32_w]
       rfl
      refine pure_ (i := 26) (N := some 54) (v := ?_) (a' := ?_) #[true, true, true, true, true, true, true, true, true, true, true, true, true, true, true, true, true, true, true, true, true, true, true, true, true, true, true, false, false, false, false, false, false, false, false] rfl rfl (any_of HT_.out (by kernel_rfl)) (fun _ _ _ h => h) (Or.inl ⟨by rfl, ?_⟩) ?_ ?_
      rotate_left
      ·intro w'
       go_simp
       with_reducible rfl
      rotate_left
      ·simp only [Act.put, List.setIfInBounds_toArray, List.set_cons_zero, List.set_cons_succ, i64_w, i32_w]
       rfl
      refine pure_ (i := 27) (N := some 55) (v := ?_) (a' := ?_) #[true, true, true, true, true, true, true, true, true, true, true, true, true, true, true, true, true, true, true, true, true, true, true, true, true, true, true, true, false, false, false, false, false, false, false] rfl rfl (any_of HT_.out (by kernel_rfl)) (fun _ _ _ h => h) (Or.inl ⟨by rfl, ?_⟩) ?_ ?_
      rotate_left
      ·intro w'
       go_simp
       with_reducible rfl
      rotate_left
      ·simp only [Act.put, List.setIfInBounds_toArray, List.set_cons_zero, List.set_cons_succ, i64_w, i32_w]
       rfl
      refine pure_ (i := 28) (N := some 56) (v := ?_) (a' := ?_) #[true, true, true, true, true, true, true, true, true, true, true, true, true, true, true, true, true, true, true, true, true, true, true, true, true, true, true, true, true, false, false, false, false, false, false] rfl rfl (any_of HT_.out (by kernel_rfl)) (fun _ _ _ h => h) (Or.inl ⟨by rfl, ?_⟩) ?_ ?_
      rotate_left
      ·intro w'
       go_simp
       with_reducible rfl
      rotate_left
      ·simp only [Act.put, List.setIfInBounds_toArray, List.set_cons_zero, List.set_cons_succ, i64_w, i32_w]
       rfl
      refine one_ (i := 29) (N := some 57) #[true, true, true, true, true, true, true, true, true, true, true, true, true, true, true, true, true, true, true, true, true, true, true, true, true, true, true, true, true, true, false, false, false, false, false] rfl rfl (one_of HT_.out (by kernel_rfl)) (by decide) (fun K hK => ?_)
      refine goes_ Try.func36 (by kernel_rfl) rfl #[.slice Ao37 t421.length co37, .slice none 0 0] (by rfl) rfl rfl aq ?_
      refine (labels_Match.calls k _ _ t421 _ _ ([] : List (S24)) true _ ?side1 ?side2 ?side3 ?side4 A18.out).mono ?_
      (case side1 => repeat (first | exact (Kd.R_reads' HO423.out).2.2 | (with_reducible refine Kd.C_alloc ?_ _) | (with_reducible refine Kd.C_drewN ?_ _) | (with_reducible refine Kd.C_drew ?_)))
      (case side2 => exact (Kd.R_reads' HO423.out).2.1)
      (case side3 => exact Kd.C_nil _ _)
      (case side4 => exact Nat.le_refl _)
      rintro e w55 ⟨rfl, hb⟩
      refine ⟨_, rfl, ?_⟩
      have n0_ := Aside0.mk (Kd.R_below (rq HO423) hb)
      have n1_ := Aside0.mk (Kd.R_below (rq HO426) hb)
      have n2_ := Aside0.mk (Kd.R_below (rq HO432) hb)
      have n3_ := Aside0.mk (Kd.R_below (rq HO435) hb)
      have n4_ := Aside0.mk (Kd.R_below (rq HO444) hb)
      have n5_ := Aside0.mk (Kd.R_below (rq HO448) hb)
      have n6_ := Aside0.mk (blk_below (g := gb420) (o := .cells #[.string a2_0, .int .i64 a2_1, .string a2_2] 24 (0, 0)) (bq BK420) hb)
      have n7_ := Aside0.mk (blk_below (g := gb437) (o := .cells #[.string a2_0, .int .i64 t436, .string a2_2] 24 (0, 0)) (bq BK437) hb)
      have n8_ := Aside0.mk (below_step (hq HB) hb)
      clear HO423
      clear HO426
      clear HO432
      clear HO435
      clear HO444
      clear HO448
      clear BK420
      clear BK437
      clear HB
      have HO423 := n0_
      have HO426 := n1_
      have HO432 := n2_
      have HO435 := n3_
      have HO444 := n4_
      have HO448 := n5_
      have BK420 := n6_
      have BK437 := n7_
      have HB := n8_
      clear n0_ n1_ n2_ n3_ n4_ n5_ n6_ n7_ n8_
      (try clear hb)
      (try clear hb2)
      (try clear hk)
      (try clear hi)
      refine hK.out _ _ ⟨(blk_cell BK437.out 0).trans rfl, (blk_cell BK437.out 1).trans rfl, (blk_cell BK437.out 2).trans rfl⟩ (fun hHeld => ?_)
      clear hK K
      refine norm_ (a' := ?_) ?_ ?_
      rotate_left
      ·show Act.put _ (some 57) _ = _
       simp only [Act.put, List.setIfInBounds_toArray, List.set_cons_zero, List.set_cons_succ, i64_w, i32_w]
       rfl
      refine pure_ (i := 30) (N := some 58) (v := ?_) (a' := ?_) #[true, true, true, true, true, true, true, true, true, true, true, true, true, true, true, true, true, true, true, true, true, true, true, true, true, true, true, true, true, true, true, false, false, false, false] rfl rfl (any_of HT_.out (by kernel_rfl)) (fun _ _ _ h => h) (Or.inl ⟨by rfl, ?_⟩) ?_ ?_
      rotate_left
      ·intro w'
       go_simp
       with_reducible rfl
      rotate_left
      ·simp only [Act.put, List.setIfInBounds_toArray, List.set_cons_zero, List.set_cons_succ, i64_w, i32_w]
       rfl
      refine pure_ (i := 31) (N := some 59) (v := ?_) (a' := ?_) #[true, true, true, true, true, true, true, true, true, true, true, true, true, true, true, true, true, true, true, true, true, true, true, true, true, true, true, true, true, true, true, true, false, false, false] rfl rfl (any_of HT_.out (by kernel_rfl)) (fun _ _ _ h => h) (Or.inl ⟨by rfl, ?_⟩) ?_ ?_
      rotate_left
      ·intro w'
       go_simp
       with_reducible rfl
      rotate_left
      ·simp only [Act.put, List.setIfInBounds_toArray, List.set_cons_zero, List.set_cons_succ, i64_w, i32_w]
       rfl
      refine one_ (i := 32) (N := some 60) #[true, true, true, true, true, true, true, true, true, true, true, true, true, true, true, true, true, true, true, true, true, true, true, true, true, true, true, true, true, true, true, true, true, false, false] rfl rfl (one_of HT_.out (by kernel_rfl)) (by decide) (fun K hK => ?_)
      refine goes_ Try.func18 (by kernel_rfl) rfl #[] (by rfl) rfl rfl aq ?_
      with_reducible refine (intervalmonlaw05_lives.calls  t451 _ A20.out).mono ?_
      rintro e w56 ⟨rfl, hb⟩
      refine ⟨_, rfl, ?_⟩
      have n0_ := Aside0.mk (Kd.R_below (rq HO423) hb)
      have n1_ := Aside0.mk (Kd.R_below (rq HO426) hb)
      have n2_ := Aside0.mk (Kd.R_below (rq HO432) hb)
      have n3_ := Aside0.mk (Kd.R_below (rq HO435) hb)
      have n4_ := Aside0.mk (Kd.R_below (rq HO444) hb)
      have n5_ := Aside0.mk (Kd.R_below (rq HO448) hb)
      have n6_ := Aside0.mk (blk_below (g := gb420) (o := .cells #[.string a2_0, .int .i64 a2_1, .string a2_2] 24 (0, 0)) (bq BK420) hb)
      have n7_ := Aside0.mk (blk_below (g := gb437) (o := .cells #[.string a2_0, .int .i64 t436, .string a2_2] 24 (0, 0)) (bq BK437) hb)
      have n8_ := Aside0.mk (below_step (hq HB) hb)
      clear HO423
      clear HO426
      clear HO432
      clear HO435
      clear HO444
      clear HO448
      clear BK420
      clear BK437
      clear HB
      have HO423 := n0_
      have HO426 := n1_
      have HO432 := n2_
      have HO435 := n3_
      have HO444 := n4_
      have HO448 := n5_
      have BK420 := n6_
      have BK437 := n7_
      have HB := n8_
      clear n0_ n1_ n2_ n3_ n4_ n5_ n6_ n7_ n8_
      (try clear hb)
      (try clear hb2)
      (try clear hk)
      (try clear hi)
      refine hK.out _ _ ⟨(blk_cell BK437.out 0).trans rfl, (blk_cell BK437.out 1).trans rfl, (blk_cell BK437.out 2).trans rfl⟩ (fun hHeld => ?_)
      clear hK K
      refine norm_ (a' := ?_) ?_ ?_
      rotate_left
      ·show Act.put _ (some 60) _ = _
       simp only [Act.put, List.setIfInBounds_toArray, List.set_cons_zero, List.set_cons_succ, i64_w, i32_w]
       rfl
      refine pure_ (i := 33) (N := some 61) (v := ?_) (a' := ?_) #[true, true, true, true, true, true, true, true, true, true, true, true, true, true, true, true, true, true, true, true, true, true, true, true, true, true, true, true, true, true, true, true, true, true, false] rfl rfl (any_of HT_.out (by kernel_rfl)) (fun _ _ _ h => h) (Or.inl ⟨by rfl, ?_⟩) ?_ ?_
      rotate_left
      ·intro w'
       go_simp
       with_reducible rfl
      rotate_left
      ·simp only [Act.put, List.setIfInBounds_toArray, List.set_cons_zero, List.set_cons_succ, i64_w, i32_w]
       rfl
      refine pure_ (i := 34) (N := some 6) (v := ?_) (a' := ?_) #[true, true, true, true, true, true, true, true, true, true, true, true, true, true, true, true, true, true, true, true, true, true, true, true, true, true, true, true, true, true, true, true, true, true, true] rfl rfl (any_of HT_.out (by kernel_rfl)) (fun _ _ _ h => h) (Or.inl ⟨by rfl, ?_⟩) ?_ ?_
      rotate_left
      ·intro w'
       go_simp
       with_reducible rfl
      rotate_left
      ·simp only [Act.put, List.setIfInBounds_toArray, List.set_cons_zero, List.set_cons_succ, i64_w, i32_w]
       rfl
      refine done_ (done_of HT_.out (by kernel_rfl)) ?_
      try go_wp2
      go_ret
      exact ⟨by first | rfl | (simp [errW_none, errW_some] <;> rfl) | (simp [*, errW_none, errW_some] <;> rfl), by repeat (first | (with_reducible first | exact HB.out | apply below_alloc | apply pw_below_drewN | apply below_drew1 | refine below_set ?_ GE420.out | refine below_set ?_ GE437.out) | exact HB.out)⟩
     ·replace c19 := Bool.eq_false_iff.mpr c19
      subst c19
      have H1 : (some false) = some r := by rw [if_neg (show ¬ (false = true) by decide)] at H; exact H
      clear H
      have H := H1
      clear H1
      exact absurd ((Option.some.inj H).trans HT0.out) (by decide)
    ·rw [if_neg c17] at H
     have c17b0 : (t445 == t449) = false := by simpa using c17
     (try (have c17b1 : decide (t445 = t449) = false := by simpa using c17))
     (try (have c17b2 : (t445 == t449) = false := by simpa using c17))
     (try (have c17b3 : ¬ (t445 = t449) := by simpa using c17))
     clear c17
     exact absurd ((Option.some.inj H).trans HT0.out) (by decide)
   ·rw [if_neg c14] at H
    have c14b0 : (t440 == t441) = false := by simpa using c14
    (try (have c14b1 : decide (t440 = t441) = false := by simpa using c14))
    (try (have c14b2 : (t440 == t441) = false := by simpa using c14))
    (try (have c14b3 : ¬ (t440 = t441) := by simpa using c14))
    clear c14
    exact absurd ((Option.some.inj H).trans HT0.out) (by decide)
  ·rw [if_neg c11] at H
   have c11b0 : (t438 == t439) = false := by simpa using c11
   (try (have c11b1 : decide (t438 = t439) = false := by simpa using c11))
   (try (have c11b2 : (t438 == t439) = false := by simpa using c11))
   (try (have c11b3 : ¬ (t438 = t439) := by simpa using c11))
   clear c11
   exact absurd ((Option.some.inj H).trans HT0.out) (by decide)
 ·rw [if_neg c7] at H
  exact absurd H (by simp)

end Go.Proofs.Ytlohkfmobeapdaa.P
