-- Written by this session's own copy of a printing program (wip/tools); Lean checks it.
import Derived.Test.YtlohkfmobeapdaaPx0
import Derived.Test.YtlohkfmobeapdaaPx3
namespace Go.Proofs.Ytlohkfmobeapdaa.P
open Go.RowKit Go.Proofs.YtlohkfmobeapdaaW.PrintWords Go.Proofs.YtlohkfmobeapdaaW.PrintLast Go.Proofs.YtlohkfmobeapdaaW.PrintMore
attribute [local go_sem] max2_int min2_int max_two min_two max_three min_three max_four min_four   -- for this text's walks alone
set_option linter.unusedVariables false
set_option linter.unusedSimpArgs false

/-! ### intervalmonref05_Dirty: function 19 -/
def intervalmonref05_Dirty.l0 : Nat → List Int → List ByteArray → List ByteArray → List (S33) → Int → Option ((List (S33)))
 | 0, _, _, _, _, _ => none
 | k + 1, x0, x3, x4, x5, x6 => (intervalmonref01_Pick.f x0 0 11).bind fun t166 => (if x6 < t166 then ((intervalmonref01_Pick.f x0 (wrap64 ((wrap64 (2 * x6)) + 1)) (wrap64 (4 * (x3.length : Int)))).bind fun t167 => (if t167 ≥ (x3.length : Int) then ((intervalmonref01_Pick.f x0 (wrap64 ((wrap64 (2 * x6)) + 2)) (wrap64 (4 * (x4.length : Int)))).bind fun t168 => (if t168 ≥ (x4.length : Int) then (if 0 ≤ (Int.tmod t167 6) then (if (Int.tmod t167 6) < (x3.length : Int) then (if 0 ≤ (Int.tmod t168 6) then (if (Int.tmod t168 6) < (x4.length : Int) then (if x5.length < 4398046511104 then (intervalmonref05_Dirty.l0 k x0 x3 x4 (x5 ++ [(⟨rdOf ByteArray.empty x3 (Int.tmod t167 6), rdOf ByteArray.empty x4 (Int.tmod t168 6)⟩ : S33)]) (wrap64 (x6 + 1))) else (none)) else (none)) else (none)) else (none)) else (none)) else (if 0 ≤ (Int.tmod t167 6) then (if (Int.tmod t167 6) < (x3.length : Int) then (if 0 ≤ t168 then (if t168 < (x4.length : Int) then (if x5.length < 4398046511104 then (intervalmonref05_Dirty.l0 k x0 x3 x4 (x5 ++ [(⟨rdOf ByteArray.empty x3 (Int.tmod t167 6), rdOf ByteArray.empty x4 t168⟩ : S33)]) (wrap64 (x6 + 1))) else (none)) else (none)) else (none)) else (none)) else (none)))) else ((intervalmonref01_Pick.f x0 (wrap64 ((wrap64 (2 * x6)) + 2)) (wrap64 (4 * (x4.length : Int)))).bind fun t179 => (if t179 ≥ (x4.length : Int) then (if 0 ≤ t167 then (if t167 < (x3.length : Int) then (if 0 ≤ (Int.tmod t179 6) then (if (Int.tmod t179 6) < (x4.length : Int) then (if x5.length < 4398046511104 then (intervalmonref05_Dirty.l0 k x0 x3 x4 (x5 ++ [(⟨rdOf ByteArray.empty x3 t167, rdOf ByteArray.empty x4 (Int.tmod t179 6)⟩ : S33)]) (wrap64 (x6 + 1))) else (none)) else (none)) else (none)) else (none)) else (none)) else (if 0 ≤ t167 then (if t167 < (x3.length : Int) then (if 0 ≤ t179 then (if t179 < (x4.length : Int) then (if x5.length < 4398046511104 then (intervalmonref05_Dirty.l0 k x0 x3 x4 (x5 ++ [(⟨rdOf ByteArray.empty x3 t167, rdOf ByteArray.empty x4 t179⟩ : S33)]) (wrap64 (x6 + 1))) else (none)) else (none)) else (none)) else (none)) else (none)))))) else (some x5))
def intervalmonref05_Dirty.f (k : Nat) (l0 : List Int) : Option ((List (S33))) := (intervalmonref05_Names.f).bind fun t148 => ((some (([(⟨#[]⟩ : ByteArray), (⟨#[65]⟩ : ByteArray), (⟨#[49, 97]⟩ : ByteArray), (⟨#[97, 45, 98]⟩ : ByteArray), (⟨#[97, 98, 99, 100, 101, 102, 103, 104, 105, 106, 107, 108, 109, 110, 111, 112]⟩ : ByteArray), (⟨#[97, 98, 99, 100, 101, 102, 103, 104, 105, 106, 107, 108, 109, 110, 111, 112, 113]⟩ : ByteArray), (⟨#[99]⟩ : ByteArray), (⟨#[100]⟩ : ByteArray), (⟨#[101]⟩ : ByteArray), (⟨#[95, 97]⟩ : ByteArray)] : List ByteArray) : List ByteArray)).bind fun y151 => (if t148.length + y151.length < 8796093022208 then ((intervalmonref05_values.f).bind fun t157 => ((some (([(⟨#[]⟩ : ByteArray), (⟨#[32]⟩ : ByteArray), (⟨#[97, 44]⟩ : ByteArray), (⟨#[97, 98, 99, 100, 101, 102, 103, 104, 105, 106, 107, 108, 109, 110, 111, 112]⟩ : ByteArray), (⟨#[97, 98, 99, 100, 101, 102, 103, 104, 105, 106, 107, 108, 109, 110, 111, 112, 113]⟩ : ByteArray), (⟨#[127]⟩ : ByteArray), (⟨#[123]⟩ : ByteArray), (⟨#[92]⟩ : ByteArray)] : List ByteArray) : List ByteArray)).bind fun y160 => (if t157.length + y160.length < 8796093022208 then (intervalmonref05_Dirty.l0 k l0 (t148 ++ y151) (t157 ++ y160) ([] : List (S33)) 0) else (none)))) else (none)))
theorem intervalmonref05_Dirty.mono_l : ∀ k, (∀ y0 y1 y2 y3 y4, LeO (intervalmonref05_Dirty.l0 k y0 y1 y2 y3 y4) (intervalmonref05_Dirty.l0 (k + 1) y0 y1 y2 y3 y4))
 | 0 => fun _ _ _ _ _ r h => by simp [intervalmonref05_Dirty.l0] at h
 | k + 1 => by
  have ih0 := intervalmonref05_Dirty.mono_l k
  ·intro y0 y1 y2 y3 y4
   unfold intervalmonref05_Dirty.l0
   repeat' first
   | (with_reducible exact ih0 _ _ _ _ _)
   | (with_reducible exact LeO.refl _)
   | (with_reducible exact LeO.none _)
   | (with_reducible refine LeO.ite ?_ ?_)
   | (with_reducible refine LeO.bind ?_ (fun _ => ?_))
   | exact ih0 _ _ _ _ _
   | exact LeO.none _
   | refine LeO.ite ?_ ?_
   | refine LeO.bind ?_ (fun _ => ?_)
theorem intervalmonref05_Dirty.mono : ∀ a0 k, LeO (intervalmonref05_Dirty.f k a0) (intervalmonref05_Dirty.f (k + 1) a0) := by
 intro a0 k
 have ih0 := intervalmonref05_Dirty.mono_l k
 unfold intervalmonref05_Dirty.f
 repeat' first
   | (with_reducible exact ih0 _ _ _ _ _)
   | (with_reducible exact LeO.refl _)
   | (with_reducible exact LeO.none _)
   | (with_reducible refine LeO.ite ?_ ?_)
   | (with_reducible refine LeO.bind ?_ (fun _ => ?_))
   | exact ih0 _ _ _ _ _
   | exact LeO.none _
   | refine LeO.ite ?_ ?_
   | refine LeO.bind ?_ (fun _ => ?_)
def intervalmonref05_Dirty.T13 : Bool × List (List Nat × List Nat) := (true, [([], []), ([], []), ([], []), ([1, 2], [1, 2]), ([3], [3]), ([], []), ([], []), ([5, 6], [5, 6]), ([7], [7]), ([4, 8], [4, 8]), ([9], [9]), ([0, 10], [0, 10]), ([11, 11, 0, 1, 2, 3, 4, 5, 6, 7, 8, 9, 10, 11], [0, 11])])
def intervalmonref05_Dirty.B13 : List Nat := [0, 0, 0, 6, 14, 0, 0, 96, 224, 510, 1022, 2047, 4095]
theorem intervalmonref05_Dirty.tab13 : rtab .any (opsOf Try.f19 13) = intervalmonref05_Dirty.T13 := by kernel_rfl
theorem intervalmonref05_Dirty.bits13 : waitsOk intervalmonref05_Dirty.T13.2 intervalmonref05_Dirty.B13 = true := by kernel_rfl
set_option maxHeartbeats 8000000 in
set_option maxRecDepth 100000 in
theorem intervalmonref05_Dirty.calls (k : Nat) (A0 : Option Addr) (c0 : Nat) (l0 : List Int) (r : List (S33)) (w : World) (hr0 : Kd.C (Kd.int .i64) w A0 l0.length l0) (hc0 : l0.length ≤ c0) (h : intervalmonref05_Dirty.f k l0 = some r) :
  Calls Try.prog 19 #[.slice A0 l0.length c0] w fun e w' => ∃ v0_ : Value, e = .returned (v0_) ∧ Kd.R k33 33 w' w.heap.size (fun _ => True) v0_ r ∧ Below w.heap.size w w' := by
 have hu33 := Try.underlying33
 have HR0 := Aside0.mk hr0
 have HC0 := Aside0.mk hc0
 clear hr0 hc0
 have HB := Aside0.mk (Below.refl w.heap.size w)
 have H : ((intervalmonref05_Names.f).bind fun t148 => ((some (([(⟨#[]⟩ : ByteArray), (⟨#[65]⟩ : ByteArray), (⟨#[49, 97]⟩ : ByteArray), (⟨#[97, 45, 98]⟩ : ByteArray), (⟨#[97, 98, 99, 100, 101, 102, 103, 104, 105, 106, 107, 108, 109, 110, 111, 112]⟩ : ByteArray), (⟨#[97, 98, 99, 100, 101, 102, 103, 104, 105, 106, 107, 108, 109, 110, 111, 112, 113]⟩ : ByteArray), (⟨#[99]⟩ : ByteArray), (⟨#[100]⟩ : ByteArray), (⟨#[101]⟩ : ByteArray), (⟨#[95, 97]⟩ : ByteArray)] : List ByteArray) : List ByteArray)).bind fun y151 => (if t148.length + y151.length < 8796093022208 then ((intervalmonref05_values.f).bind fun t157 => ((some (([(⟨#[]⟩ : ByteArray), (⟨#[32]⟩ : ByteArray), (⟨#[97, 44]⟩ : ByteArray), (⟨#[97, 98, 99, 100, 101, 102, 103, 104, 105, 106, 107, 108, 109, 110, 111, 112]⟩ : ByteArray), (⟨#[97, 98, 99, 100, 101, 102, 103, 104, 105, 106, 107, 108, 109, 110, 111, 112, 113]⟩ : ByteArray), (⟨#[127]⟩ : ByteArray), (⟨#[123]⟩ : ByteArray), (⟨#[92]⟩ : ByteArray)] : List ByteArray) : List ByteArray)).bind fun y160 => (if t157.length + y160.length < 8796093022208 then (intervalmonref05_Dirty.l0 k l0 (t148 ++ y151) (t157 ++ y160) ([] : List (S33)) 0) else (none)))) else (none)))) = some r := h
 clear h
 replace H := Option.bind_eq_some_iff.mp H
 obtain ⟨t148, A20, H⟩ := H
 replace H : ((some (([(⟨#[]⟩ : ByteArray), (⟨#[65]⟩ : ByteArray), (⟨#[49, 97]⟩ : ByteArray), (⟨#[97, 45, 98]⟩ : ByteArray), (⟨#[97, 98, 99, 100, 101, 102, 103, 104, 105, 106, 107, 108, 109, 110, 111, 112]⟩ : ByteArray), (⟨#[97, 98, 99, 100, 101, 102, 103, 104, 105, 106, 107, 108, 109, 110, 111, 112, 113]⟩ : ByteArray), (⟨#[99]⟩ : ByteArray), (⟨#[100]⟩ : ByteArray), (⟨#[101]⟩ : ByteArray), (⟨#[95, 97]⟩ : ByteArray)] : List ByteArray) : List ByteArray)).bind fun y151 => (if t148.length + y151.length < 8796093022208 then ((intervalmonref05_values.f).bind fun t157 => ((some (([(⟨#[]⟩ : ByteArray), (⟨#[32]⟩ : ByteArray), (⟨#[97, 44]⟩ : ByteArray), (⟨#[97, 98, 99, 100, 101, 102, 103, 104, 105, 106, 107, 108, 109, 110, 111, 112]⟩ : ByteArray), (⟨#[97, 98, 99, 100, 101, 102, 103, 104, 105, 106, 107, 108, 109, 110, 111, 112, 113]⟩ : ByteArray), (⟨#[127]⟩ : ByteArray), (⟨#[123]⟩ : ByteArray), (⟨#[92]⟩ : ByteArray)] : List ByteArray) : List ByteArray)).bind fun y160 => (if t157.length + y160.length < 8796093022208 then (intervalmonref05_Dirty.l0 k l0 (t148 ++ y151) (t157 ++ y160) ([] : List (S33)) 0) else (none)))) else (none))) = some r := H
 have A2 := Aside0.mk A20
 clear A20
 obtain ⟨y151, hy151⟩ : ∃ y_ : List ByteArray, y_ = (([(⟨#[]⟩ : ByteArray), (⟨#[65]⟩ : ByteArray), (⟨#[49, 97]⟩ : ByteArray), (⟨#[97, 45, 98]⟩ : ByteArray), (⟨#[97, 98, 99, 100, 101, 102, 103, 104, 105, 106, 107, 108, 109, 110, 111, 112]⟩ : ByteArray), (⟨#[97, 98, 99, 100, 101, 102, 103, 104, 105, 106, 107, 108, 109, 110, 111, 112, 113]⟩ : ByteArray), (⟨#[99]⟩ : ByteArray), (⟨#[100]⟩ : ByteArray), (⟨#[101]⟩ : ByteArray), (⟨#[95, 97]⟩ : ByteArray)] : List ByteArray)) := ⟨_, rfl⟩
 replace H : (if t148.length + y151.length < 8796093022208 then ((intervalmonref05_values.f).bind fun t157 => ((some (([(⟨#[]⟩ : ByteArray), (⟨#[32]⟩ : ByteArray), (⟨#[97, 44]⟩ : ByteArray), (⟨#[97, 98, 99, 100, 101, 102, 103, 104, 105, 106, 107, 108, 109, 110, 111, 112]⟩ : ByteArray), (⟨#[97, 98, 99, 100, 101, 102, 103, 104, 105, 106, 107, 108, 109, 110, 111, 112, 113]⟩ : ByteArray), (⟨#[127]⟩ : ByteArray), (⟨#[123]⟩ : ByteArray), (⟨#[92]⟩ : ByteArray)] : List ByteArray) : List ByteArray)).bind fun y160 => (if t157.length + y160.length < 8796093022208 then (intervalmonref05_Dirty.l0 k l0 (t148 ++ y151) (t157 ++ y160) ([] : List (S33)) 0) else (none)))) else (none)) = some r := by first | (rw [hy151]; with_reducible exact H) | (have H2_ := (Option.bind_some _ _).symm.trans H; rw [hy151]; with_reducible exact H2_) | (have H2_ := (Option.bind_some _ _).symm.trans H; with_reducible exact H2_) | with_reducible exact H | (rw [hy151]; exact H) | exact H
 have Ny151 := Aside0.mk hy151
 clear hy151
 by_cases c3 : t148.length + y151.length < 8796093022208
 ·rw [if_pos c3] at H
  have LMc3 := Aside0.mk c3
  clear c3
  obtain ⟨y154, hy154⟩ : ∃ y_ : List ByteArray, y_ = (t148 ++ y151) := ⟨_, rfl⟩
  replace H : ((intervalmonref05_values.f).bind fun t157 => ((some (([(⟨#[]⟩ : ByteArray), (⟨#[32]⟩ : ByteArray), (⟨#[97, 44]⟩ : ByteArray), (⟨#[97, 98, 99, 100, 101, 102, 103, 104, 105, 106, 107, 108, 109, 110, 111, 112]⟩ : ByteArray), (⟨#[97, 98, 99, 100, 101, 102, 103, 104, 105, 106, 107, 108, 109, 110, 111, 112, 113]⟩ : ByteArray), (⟨#[127]⟩ : ByteArray), (⟨#[123]⟩ : ByteArray), (⟨#[92]⟩ : ByteArray)] : List ByteArray) : List ByteArray)).bind fun y160 => (if t157.length + y160.length < 8796093022208 then (intervalmonref05_Dirty.l0 k l0 y154 (t157 ++ y160) ([] : List (S33)) 0) else (none)))) = some r := by first | (rw [hy154]; with_reducible exact H) | (have H2_ := (Option.bind_some _ _).symm.trans H; rw [hy154]; with_reducible exact H2_) | (have H2_ := (Option.bind_some _ _).symm.trans H; with_reducible exact H2_) | with_reducible exact H | (rw [hy154]; exact H) | exact H
  have Ny154 := Aside0.mk hy154
  clear hy154
  replace H := Option.bind_eq_some_iff.mp H
  obtain ⟨t157, A40, H⟩ := H
  replace H : ((some (([(⟨#[]⟩ : ByteArray), (⟨#[32]⟩ : ByteArray), (⟨#[97, 44]⟩ : ByteArray), (⟨#[97, 98, 99, 100, 101, 102, 103, 104, 105, 106, 107, 108, 109, 110, 111, 112]⟩ : ByteArray), (⟨#[97, 98, 99, 100, 101, 102, 103, 104, 105, 106, 107, 108, 109, 110, 111, 112, 113]⟩ : ByteArray), (⟨#[127]⟩ : ByteArray), (⟨#[123]⟩ : ByteArray), (⟨#[92]⟩ : ByteArray)] : List ByteArray) : List ByteArray)).bind fun y160 => (if t157.length + y160.length < 8796093022208 then (intervalmonref05_Dirty.l0 k l0 y154 (t157 ++ y160) ([] : List (S33)) 0) else (none))) = some r := H
  have A4 := Aside0.mk A40
  clear A40
  obtain ⟨y160, hy160⟩ : ∃ y_ : List ByteArray, y_ = (([(⟨#[]⟩ : ByteArray), (⟨#[32]⟩ : ByteArray), (⟨#[97, 44]⟩ : ByteArray), (⟨#[97, 98, 99, 100, 101, 102, 103, 104, 105, 106, 107, 108, 109, 110, 111, 112]⟩ : ByteArray), (⟨#[97, 98, 99, 100, 101, 102, 103, 104, 105, 106, 107, 108, 109, 110, 111, 112, 113]⟩ : ByteArray), (⟨#[127]⟩ : ByteArray), (⟨#[123]⟩ : ByteArray), (⟨#[92]⟩ : ByteArray)] : List ByteArray)) := ⟨_, rfl⟩
  replace H : (if t157.length + y160.length < 8796093022208 then (intervalmonref05_Dirty.l0 k l0 y154 (t157 ++ y160) ([] : List (S33)) 0) else (none)) = some r := by first | (rw [hy160]; with_reducible exact H) | (have H2_ := (Option.bind_some _ _).symm.trans H; rw [hy160]; with_reducible exact H2_) | (have H2_ := (Option.bind_some _ _).symm.trans H; with_reducible exact H2_) | with_reducible exact H | (rw [hy160]; exact H) | exact H
  have Ny160 := Aside0.mk hy160
  clear hy160
  by_cases c5 : t157.length + y160.length < 8796093022208
  ·rw [if_pos c5] at H
   have LMc5 := Aside0.mk c5
   clear c5
   obtain ⟨y163, hy163⟩ : ∃ y_ : List ByteArray, y_ = (t157 ++ y160) := ⟨_, rfl⟩
   replace H : (intervalmonref05_Dirty.l0 k l0 y154 y163 ([] : List (S33)) 0) = some r := by first | (rw [hy163]; with_reducible exact H) | (have H2_ := (Option.bind_some _ _).symm.trans H; rw [hy163]; with_reducible exact H2_) | (have H2_ := (Option.bind_some _ _).symm.trans H; with_reducible exact H2_) | with_reducible exact H | (rw [hy163]; exact H) | exact H
   have Ny163 := Aside0.mk hy163
   clear hy163
   have H' := Aside0.mk H
   clear H
   go_enter Try.func19, Try.ntmps19
   go_wp2_with (first | ((with_reducible refine gate_callee (f := 32) rfl ?_); refine goesL_ (some 9) rfl rfl Try.func32 (by kernel_rfl) rfl #[] rfl aq ?_; (with_reducible refine (intervalmonref05_Names.calls  t148 _ A2.out).mono ?_); rintro e w6 ⟨v149, rfl, ho0, hb⟩; refine ⟨_, rfl, ?_⟩; have n0_ := Aside0.mk (Kd.R_lower ho0 (below_size (hq HB))); have n1_ := Aside0.mk (below_step (hq HB) hb); clear HB; have HO150 := n0_; have HB := n1_; clear n0_ n1_; (try clear hb); (try clear hb2); (try clear hk); (try clear hi); (try clear ho0)) | ((with_reducible refine gate_dst (N := 10) rfl ?_); refine Kd.R_lit Kd.string _ 9 ?hg (N := 10) ?hd (xs := ([(⟨#[]⟩ : ByteArray), (⟨#[65]⟩ : ByteArray), (⟨#[49, 97]⟩ : ByteArray), (⟨#[97, 45, 98]⟩ : ByteArray), (⟨#[97, 98, 99, 100, 101, 102, 103, 104, 105, 106, 107, 108, 109, 110, 111, 112]⟩ : ByteArray), (⟨#[97, 98, 99, 100, 101, 102, 103, 104, 105, 106, 107, 108, 109, 110, 111, 112, 113]⟩ : ByteArray), (⟨#[99]⟩ : ByteArray), (⟨#[100]⟩ : ByteArray), (⟨#[101]⟩ : ByteArray), (⟨#[95, 97]⟩ : ByteArray)] : List ByteArray)) (inner := [.string (⟨#[]⟩ : ByteArray), .string (⟨#[65]⟩ : ByteArray), .string (⟨#[49, 97]⟩ : ByteArray), .string (⟨#[97, 45, 98]⟩ : ByteArray), .string (⟨#[97, 98, 99, 100, 101, 102, 103, 104, 105, 106, 107, 108, 109, 110, 111, 112]⟩ : ByteArray), .string (⟨#[97, 98, 99, 100, 101, 102, 103, 104, 105, 106, 107, 108, 109, 110, 111, 112, 113]⟩ : ByteArray), .string (⟨#[99]⟩ : ByteArray), .string (⟨#[100]⟩ : ByteArray), .string (⟨#[101]⟩ : ByteArray), .string (⟨#[95, 97]⟩ : ByteArray)]) (ok := fun _ => True) (okp := fun _ => True) ?hr ?hp (fun _ hk => hk) trivial (Below.refl _ _) (Nat.le_refl _) (by simp) ?_; (case hd => rfl); (case hg => rfl); (case hr => first | (go_simp; done) | (go_simp; rfl)); (case hp => exact (Reps.one (show Kd.M Kd.string _ _ _ (⟨#[]⟩ : ByteArray) [.string (⟨#[]⟩ : ByteArray)] from rfl) (Reps.one (show Kd.M Kd.string _ _ _ (⟨#[65]⟩ : ByteArray) [.string (⟨#[65]⟩ : ByteArray)] from rfl) (Reps.one (show Kd.M Kd.string _ _ _ (⟨#[49, 97]⟩ : ByteArray) [.string (⟨#[49, 97]⟩ : ByteArray)] from rfl) (Reps.one (show Kd.M Kd.string _ _ _ (⟨#[97, 45, 98]⟩ : ByteArray) [.string (⟨#[97, 45, 98]⟩ : ByteArray)] from rfl) (Reps.one (show Kd.M Kd.string _ _ _ (⟨#[97, 98, 99, 100, 101, 102, 103, 104, 105, 106, 107, 108, 109, 110, 111, 112]⟩ : ByteArray) [.string (⟨#[97, 98, 99, 100, 101, 102, 103, 104, 105, 106, 107, 108, 109, 110, 111, 112]⟩ : ByteArray)] from rfl) (Reps.one (show Kd.M Kd.string _ _ _ (⟨#[97, 98, 99, 100, 101, 102, 103, 104, 105, 106, 107, 108, 109, 110, 111, 112, 113]⟩ : ByteArray) [.string (⟨#[97, 98, 99, 100, 101, 102, 103, 104, 105, 106, 107, 108, 109, 110, 111, 112, 113]⟩ : ByteArray)] from rfl) (Reps.one (show Kd.M Kd.string _ _ _ (⟨#[99]⟩ : ByteArray) [.string (⟨#[99]⟩ : ByteArray)] from rfl) (Reps.one (show Kd.M Kd.string _ _ _ (⟨#[100]⟩ : ByteArray) [.string (⟨#[100]⟩ : ByteArray)] from rfl) (Reps.one (show Kd.M Kd.string _ _ _ (⟨#[101]⟩ : ByteArray) [.string (⟨#[101]⟩ : ByteArray)] from rfl) (Reps.one (show Kd.M Kd.string _ _ _ (⟨#[95, 97]⟩ : ByteArray) [.string (⟨#[95, 97]⟩ : ByteArray)] from rfl) (Reps.none _ _)))))))))))); intro v152 w7 ho8 hb hg_ hnew_; clear hg_ hnew_; (first | rw [← Ny151.out] at ho8 | (simp only [Int.reduceToNat] at ho8; rw [← Ny151.out] at ho8)); have n0_ := Aside0.mk (Kd.R_elder' (rq HO150) (Kd.R_base ho8) hb); have n1_ := Aside0.mk (Kd.R_lower (Kd.R_new' ho8 (Kd.R_lt (rq HO150))) (below_size (hq HB))); have n2_ := Aside0.mk (below_step (hq HB) hb); clear HO150; clear HB; have HO150 := n0_; have HO153 := n1_; have HB := n2_; clear n0_ n1_ n2_; clear hb ho8; obtain ⟨Ao10, co10, eo10⟩ := Kd.R_slice HO153.out; subst eo10) | ((with_reducible refine gate_builtin (b := .append) (xs := #[.tmp 9, .tmp 10]) rfl ?_); at_builtin; refine Kd.R_append_rows Kd.string (w0 := w) w.heap.size rfl (.tmp 9) (.tmp 10) 46 9 (.string ⟨#[]⟩) 16 rfl Try.underlying46 info9 rfl (by decide) (by omega) v149 t148 y151 _ _ _ (fun k_ => some k_ ≠ (.slice Ao10 y151.length co10 : Value).ownBlock) (fun _ => False) rfl rfl ?aO ?aR (fun _ _ h => h) (fun _ h => h.elim) ?aF ?aB ?aS ?aL ?_; (case aR => repeat (first | exact (Kd.R_reads' HO153.out).2.2 | (with_reducible refine Kd.C_alloc ?_ _) | (with_reducible refine Kd.C_drewN ?_ _) | (with_reducible refine Kd.C_drew ?_))); (case aB => exact (hq HB)); (case aF => exact (fun k_ hk => Kd.fresh' (Kd.R_lt (rq HO153)) k_ hk)); (case aO => exact (by (with_reducible repeat (first | apply Kd.R_alloc | apply Kd.R_drewN | apply Kd.R_drew)); exact Kd.R_mono HO150.out (fun _ hk => hk.2))); (case aS => exact (below_size (hq HB))); (case aL => have := LMc3.out; omega); intro v155 w9 ho hb hg hat; rw [← Ny154.out] at ho; have n0_ := Aside0.mk (Kd.R_after (ok := (fun _ => True)) (rq HO153) hg hat); have n1_ := Aside0.mk (hb); have n2_ := Aside0.mk (ho); clear HO153; clear HB; clear HO150; have HO153 := n0_; have HB := n1_; have HO156 := n2_; clear n0_ n1_ n2_; clear ho hb hg hat) | ((with_reducible refine gate_callee (f := 40) rfl ?_); refine goesL_ (some 12) rfl rfl Try.func40 (by kernel_rfl) rfl #[] rfl aq ?_; (with_reducible refine (intervalmonref05_values.calls  t157 _ A4.out).mono ?_); rintro e w11 ⟨v158, rfl, ho0, hb⟩; refine ⟨_, rfl, ?_⟩; have n0_ := Aside0.mk (Kd.R_elder' (rq HO153) (Kd.R_base ho0) hb); have n1_ := Aside0.mk (Kd.R_elder' (rq HO156) (Kd.R_base ho0) hb); have n2_ := Aside0.mk (Kd.R_lower (Kd.R_new' (Kd.R_new' ho0 (Kd.R_lt (rq HO153))) (Kd.R_lt (rq HO156))) (below_size (hq HB))); have n3_ := Aside0.mk (below_step (hq HB) hb); clear HO153; clear HO156; clear HB; have HO153 := n0_; have HO156 := n1_; have HO159 := n2_; have HB := n3_; clear n0_ n1_ n2_ n3_; (try clear hb); (try clear hb2); (try clear hk); (try clear hi); (try clear ho0)) | ((with_reducible refine gate_dst (N := 13) rfl ?_); refine Kd.R_lit Kd.string _ 9 ?hg (N := 13) ?hd (xs := ([(⟨#[]⟩ : ByteArray), (⟨#[32]⟩ : ByteArray), (⟨#[97, 44]⟩ : ByteArray), (⟨#[97, 98, 99, 100, 101, 102, 103, 104, 105, 106, 107, 108, 109, 110, 111, 112]⟩ : ByteArray), (⟨#[97, 98, 99, 100, 101, 102, 103, 104, 105, 106, 107, 108, 109, 110, 111, 112, 113]⟩ : ByteArray), (⟨#[127]⟩ : ByteArray), (⟨#[123]⟩ : ByteArray), (⟨#[92]⟩ : ByteArray)] : List ByteArray)) (inner := [.string (⟨#[]⟩ : ByteArray), .string (⟨#[32]⟩ : ByteArray), .string (⟨#[97, 44]⟩ : ByteArray), .string (⟨#[97, 98, 99, 100, 101, 102, 103, 104, 105, 106, 107, 108, 109, 110, 111, 112]⟩ : ByteArray), .string (⟨#[97, 98, 99, 100, 101, 102, 103, 104, 105, 106, 107, 108, 109, 110, 111, 112, 113]⟩ : ByteArray), .string (⟨#[127]⟩ : ByteArray), .string (⟨#[123]⟩ : ByteArray), .string (⟨#[92]⟩ : ByteArray)]) (ok := fun _ => True) (okp := fun _ => True) ?hr ?hp (fun _ hk => hk) trivial (Below.refl _ _) (Nat.le_refl _) (by simp) ?_; (case hd => rfl); (case hg => rfl); (case hr => first | (go_simp; done) | (go_simp; rfl)); (case hp => exact (Reps.one (show Kd.M Kd.string _ _ _ (⟨#[]⟩ : ByteArray) [.string (⟨#[]⟩ : ByteArray)] from rfl) (Reps.one (show Kd.M Kd.string _ _ _ (⟨#[32]⟩ : ByteArray) [.string (⟨#[32]⟩ : ByteArray)] from rfl) (Reps.one (show Kd.M Kd.string _ _ _ (⟨#[97, 44]⟩ : ByteArray) [.string (⟨#[97, 44]⟩ : ByteArray)] from rfl) (Reps.one (show Kd.M Kd.string _ _ _ (⟨#[97, 98, 99, 100, 101, 102, 103, 104, 105, 106, 107, 108, 109, 110, 111, 112]⟩ : ByteArray) [.string (⟨#[97, 98, 99, 100, 101, 102, 103, 104, 105, 106, 107, 108, 109, 110, 111, 112]⟩ : ByteArray)] from rfl) (Reps.one (show Kd.M Kd.string _ _ _ (⟨#[97, 98, 99, 100, 101, 102, 103, 104, 105, 106, 107, 108, 109, 110, 111, 112, 113]⟩ : ByteArray) [.string (⟨#[97, 98, 99, 100, 101, 102, 103, 104, 105, 106, 107, 108, 109, 110, 111, 112, 113]⟩ : ByteArray)] from rfl) (Reps.one (show Kd.M Kd.string _ _ _ (⟨#[127]⟩ : ByteArray) [.string (⟨#[127]⟩ : ByteArray)] from rfl) (Reps.one (show Kd.M Kd.string _ _ _ (⟨#[123]⟩ : ByteArray) [.string (⟨#[123]⟩ : ByteArray)] from rfl) (Reps.one (show Kd.M Kd.string _ _ _ (⟨#[92]⟩ : ByteArray) [.string (⟨#[92]⟩ : ByteArray)] from rfl) (Reps.none _ _)))))))))); intro v161 w12 ho13 hb hg_ hnew_; clear hg_ hnew_; (first | rw [← Ny160.out] at ho13 | (simp only [Int.reduceToNat] at ho13; rw [← Ny160.out] at ho13)); have n0_ := Aside0.mk (Kd.R_elder' (rq HO153) (Kd.R_base ho13) hb); have n1_ := Aside0.mk (Kd.R_elder' (rq HO156) (Kd.R_base ho13) hb); have n2_ := Aside0.mk (Kd.R_elder' (rq HO159) (Kd.R_base ho13) hb); have n3_ := Aside0.mk (Kd.R_lower (Kd.R_new' (Kd.R_new' (Kd.R_new' ho13 (Kd.R_lt (rq HO153))) (Kd.R_lt (rq HO156))) (Kd.R_lt (rq HO159))) (below_size (hq HB))); have n4_ := Aside0.mk (below_step (hq HB) hb); clear HO153; clear HO156; clear HO159; clear HB; have HO153 := n0_; have HO156 := n1_; have HO159 := n2_; have HO162 := n3_; have HB := n4_; clear n0_ n1_ n2_ n3_ n4_; clear hb ho13; obtain ⟨Ao15, co15, eo15⟩ := Kd.R_slice HO162.out; subst eo15) | ((with_reducible refine gate_builtin (b := .append) (xs := #[.tmp 12, .tmp 13]) rfl ?_); at_builtin; refine Kd.R_append_rows Kd.string (w0 := w) w.heap.size rfl (.tmp 12) (.tmp 13) 46 9 (.string ⟨#[]⟩) 16 rfl Try.underlying46 info9 rfl (by decide) (by omega) v158 t157 y160 _ _ _ (fun k_ => some k_ ≠ (.slice Ao10 y151.length co10 : Value).ownBlock ∧ some k_ ≠ (v155 : Value).ownBlock ∧ some k_ ≠ (.slice Ao15 y160.length co15 : Value).ownBlock) (fun _ => False) rfl rfl ?aO ?aR (fun _ _ h => h) (fun _ h => h.elim) ?aF ?aB ?aS ?aL ?_; (case aR => repeat (first | exact (Kd.R_reads' HO162.out).2.2 | (with_reducible refine Kd.C_alloc ?_ _) | (with_reducible refine Kd.C_drewN ?_ _) | (with_reducible refine Kd.C_drew ?_))); (case aB => exact (hq HB)); (case aF => exact (fun k_ hk => ⟨Kd.fresh' (Kd.R_lt (rq HO153)) k_ hk, Kd.fresh' (Kd.R_lt (rq HO156)) k_ hk, Kd.fresh' (Kd.R_lt (rq HO162)) k_ hk⟩)); (case aO => exact (by (with_reducible repeat (first | apply Kd.R_alloc | apply Kd.R_drewN | apply Kd.R_drew)); exact Kd.R_mono HO159.out (fun _ hk => ⟨hk.1.1.2, ⟨hk.1.2, hk.2⟩⟩))); (case aS => exact (below_size (hq HB))); (case aL => have := LMc5.out; omega); intro v164 w14 ho hb hg hat; rw [← Ny163.out] at ho; have n0_ := Aside0.mk (Kd.R_after (ok := (fun k_ => some k_ ≠ (v155 : Value).ownBlock ∧ some k_ ≠ (.slice Ao15 y160.length co15 : Value).ownBlock)) (by (with_reducible repeat (first | apply Kd.R_alloc | apply Kd.R_drewN | apply Kd.R_drew)); exact Kd.R_mono HO153.out (fun _ hk => ⟨⟨hk.1.1.2, hk.2⟩, hk.1.2⟩)) hg hat); have n1_ := Aside0.mk (Kd.R_after (ok := (fun k_ => some k_ ≠ (.slice Ao10 y151.length co10 : Value).ownBlock ∧ some k_ ≠ (.slice Ao15 y160.length co15 : Value).ownBlock)) (by (with_reducible repeat (first | apply Kd.R_alloc | apply Kd.R_drewN | apply Kd.R_drew)); exact Kd.R_mono HO156.out (fun _ hk => ⟨⟨hk.1.1, hk.2⟩, hk.1.2⟩)) hg hat); have n2_ := Aside0.mk (Kd.R_after (ok := (fun k_ => some k_ ≠ (.slice Ao10 y151.length co10 : Value).ownBlock ∧ some k_ ≠ (v155 : Value).ownBlock)) (by (with_reducible repeat (first | apply Kd.R_alloc | apply Kd.R_drewN | apply Kd.R_drew)); exact Kd.R_mono HO162.out (fun _ hk => ⟨⟨hk.1.1.2, hk.1.2⟩, hk.2⟩)) hg hat); have n3_ := Aside0.mk (hb); have n4_ := Aside0.mk (ho); clear HO153; clear HO156; clear HO162; clear HB; clear HO159; have HO153 := n0_; have HO156 := n1_; have HO162 := n2_; have HB := n3_; have HO165 := n4_; clear n0_ n1_ n2_ n3_ n4_; clear ho hb hg hat))
   go_loopg [5, 6] k (fun kq v5 v6 w' => ∃ (x5_1 : List (S33)) (x6_1 : Int), v6 = .int .i64 x6_1 ∧ Aside0 (intervalmonref05_Dirty.l0 kq l0 y154 y163 x5_1 x6_1 = some r) ∧ Aside0 (kq ≤ k) ∧ Aside0 (Kd.R Kd.string 9 w' w.heap.size (fun k_ => some k_ ≠ (v164 : Value).ownBlock) v155 y154) ∧ Aside0 (Kd.R Kd.string 9 w' w.heap.size (fun k_ => some k_ ≠ (v155 : Value).ownBlock) v164 y163) ∧ Aside0 (Kd.R k33 33 w' w.heap.size (fun _ => True) v5 x5_1) ∧ Aside0 (Below w.heap.size w w'))
   case atStart => exact ⟨(([] : List (S33))), (0), (by first | rfl | (simp; done) | (simp [*]; done)), H', ⟨Nat.le_refl _⟩, ⟨by (with_reducible repeat (first | apply Kd.R_alloc | apply Kd.R_drewN | apply Kd.R_drew)); exact Kd.R_mono HO156.out (fun _ hk => hk.2)⟩, ⟨by (with_reducible repeat (first | apply Kd.R_alloc | apply Kd.R_drewN | apply Kd.R_drew)); exact Kd.R_mono HO165.out (fun _ hk => hk.2.1)⟩, ⟨by first | exact Kd.R_nil _ _ _ _ _ | exact Kd.N_nil _ _ _ _ _ | exact Kd.V_nil _ _ _ _ _ | exact Kd.Q_nil _ _ _ _ _ | exact Kd.S_nil _ _ _ _ _⟩, ⟨by repeat (first | (with_reducible first | exact HB.out | apply below_alloc | apply pw_below_drewN | apply below_drew1) | exact HB.out)⟩⟩
   case round =>
    clear H'
    try clear c1
    try clear p2
    try clear c3
    try clear c4
    try clear c5
    obtain ⟨x5_1, x6_1, rfl, HA, HK1, HO_3, HO_4, HO_5, HB⟩ := hrel
    cases gk with
    | zero => exact absurd HA.out (by simp [intervalmonref05_Dirty.l0])
    | succ k1 =>
     have H := HA.out
     clear HA
     simp only [intervalmonref05_Dirty.l0] at H
     replace H := Option.bind_eq_some_iff.mp H
     obtain ⟨t166, A160, H⟩ := H
     replace H : (if x6_1 < t166 then ((intervalmonref01_Pick.f l0 (wrap64 ((wrap64 (2 * x6_1)) + 1)) (wrap64 (4 * (y154.length : Int)))).bind fun t167 => (if t167 ≥ (y154.length : Int) then ((intervalmonref01_Pick.f l0 (wrap64 ((wrap64 (2 * x6_1)) + 2)) (wrap64 (4 * (y163.length : Int)))).bind fun t168 => (if t168 ≥ (y163.length : Int) then (if 0 ≤ (Int.tmod t167 6) then (if (Int.tmod t167 6) < (y154.length : Int) then (if 0 ≤ (Int.tmod t168 6) then (if (Int.tmod t168 6) < (y163.length : Int) then (if x5_1.length < 4398046511104 then (intervalmonref05_Dirty.l0 k1 l0 y154 y163 (x5_1 ++ [(⟨rdOf ByteArray.empty y154 (Int.tmod t167 6), rdOf ByteArray.empty y163 (Int.tmod t168 6)⟩ : S33)]) (wrap64 (x6_1 + 1))) else (none)) else (none)) else (none)) else (none)) else (none)) else (if 0 ≤ (Int.tmod t167 6) then (if (Int.tmod t167 6) < (y154.length : Int) then (if 0 ≤ t168 then (if t168 < (y163.length : Int) then (if x5_1.length < 4398046511104 then (intervalmonref05_Dirty.l0 k1 l0 y154 y163 (x5_1 ++ [(⟨rdOf ByteArray.empty y154 (Int.tmod t167 6), rdOf ByteArray.empty y163 t168⟩ : S33)]) (wrap64 (x6_1 + 1))) else (none)) else (none)) else (none)) else (none)) else (none)))) else ((intervalmonref01_Pick.f l0 (wrap64 ((wrap64 (2 * x6_1)) + 2)) (wrap64 (4 * (y163.length : Int)))).bind fun t179 => (if t179 ≥ (y163.length : Int) then (if 0 ≤ t167 then (if t167 < (y154.length : Int) then (if 0 ≤ (Int.tmod t179 6) then (if (Int.tmod t179 6) < (y163.length : Int) then (if x5_1.length < 4398046511104 then (intervalmonref05_Dirty.l0 k1 l0 y154 y163 (x5_1 ++ [(⟨rdOf ByteArray.empty y154 t167, rdOf ByteArray.empty y163 (Int.tmod t179 6)⟩ : S33)]) (wrap64 (x6_1 + 1))) else (none)) else (none)) else (none)) else (none)) else (none)) else (if 0 ≤ t167 then (if t167 < (y154.length : Int) then (if 0 ≤ t179 then (if t179 < (y163.length : Int) then (if x5_1.length < 4398046511104 then (intervalmonref05_Dirty.l0 k1 l0 y154 y163 (x5_1 ++ [(⟨rdOf ByteArray.empty y154 t167, rdOf ByteArray.empty y163 t179⟩ : S33)]) (wrap64 (x6_1 + 1))) else (none)) else (none)) else (none)) else (none)) else (none)))))) else (some x5_1)) = some r := H
     have A16 := Aside0.mk A160
     clear A160
     by_cases c17 : x6_1 < t166
     ·rw [if_pos c17] at H
      have c17b0 : decide (x6_1 < t166) = true := decide_eq_true c17
      clear c17
      replace H := Option.bind_eq_some_iff.mp H
      obtain ⟨t167, A180, H⟩ := H
      replace H : (if t167 ≥ (y154.length : Int) then ((intervalmonref01_Pick.f l0 (wrap64 ((wrap64 (2 * x6_1)) + 2)) (wrap64 (4 * (y163.length : Int)))).bind fun t168 => (if t168 ≥ (y163.length : Int) then (if 0 ≤ (Int.tmod t167 6) then (if (Int.tmod t167 6) < (y154.length : Int) then (if 0 ≤ (Int.tmod t168 6) then (if (Int.tmod t168 6) < (y163.length : Int) then (if x5_1.length < 4398046511104 then (intervalmonref05_Dirty.l0 k1 l0 y154 y163 (x5_1 ++ [(⟨rdOf ByteArray.empty y154 (Int.tmod t167 6), rdOf ByteArray.empty y163 (Int.tmod t168 6)⟩ : S33)]) (wrap64 (x6_1 + 1))) else (none)) else (none)) else (none)) else (none)) else (none)) else (if 0 ≤ (Int.tmod t167 6) then (if (Int.tmod t167 6) < (y154.length : Int) then (if 0 ≤ t168 then (if t168 < (y163.length : Int) then (if x5_1.length < 4398046511104 then (intervalmonref05_Dirty.l0 k1 l0 y154 y163 (x5_1 ++ [(⟨rdOf ByteArray.empty y154 (Int.tmod t167 6), rdOf ByteArray.empty y163 t168⟩ : S33)]) (wrap64 (x6_1 + 1))) else (none)) else (none)) else (none)) else (none)) else (none)))) else ((intervalmonref01_Pick.f l0 (wrap64 ((wrap64 (2 * x6_1)) + 2)) (wrap64 (4 * (y163.length : Int)))).bind fun t179 => (if t179 ≥ (y163.length : Int) then (if 0 ≤ t167 then (if t167 < (y154.length : Int) then (if 0 ≤ (Int.tmod t179 6) then (if (Int.tmod t179 6) < (y163.length : Int) then (if x5_1.length < 4398046511104 then (intervalmonref05_Dirty.l0 k1 l0 y154 y163 (x5_1 ++ [(⟨rdOf ByteArray.empty y154 t167, rdOf ByteArray.empty y163 (Int.tmod t179 6)⟩ : S33)]) (wrap64 (x6_1 + 1))) else (none)) else (none)) else (none)) else (none)) else (none)) else (if 0 ≤ t167 then (if t167 < (y154.length : Int) then (if 0 ≤ t179 then (if t179 < (y163.length : Int) then (if x5_1.length < 4398046511104 then (intervalmonref05_Dirty.l0 k1 l0 y154 y163 (x5_1 ++ [(⟨rdOf ByteArray.empty y154 t167, rdOf ByteArray.empty y163 t179⟩ : S33)]) (wrap64 (x6_1 + 1))) else (none)) else (none)) else (none)) else (none)) else (none))))) = some r := H
      have A18 := Aside0.mk A180
      clear A180
      by_cases c19 : t167 ≥ (y154.length : Int)
      ·rw [if_pos c19] at H
       have c19b0 : decide ((y154.length : Int) ≤ t167) = true := decide_eq_true c19
       clear c19
       replace H := Option.bind_eq_some_iff.mp H
       obtain ⟨t168, A200, H⟩ := H
       replace H : (if t168 ≥ (y163.length : Int) then (if 0 ≤ (Int.tmod t167 6) then (if (Int.tmod t167 6) < (y154.length : Int) then (if 0 ≤ (Int.tmod t168 6) then (if (Int.tmod t168 6) < (y163.length : Int) then (if x5_1.length < 4398046511104 then (intervalmonref05_Dirty.l0 k1 l0 y154 y163 (x5_1 ++ [(⟨rdOf ByteArray.empty y154 (Int.tmod t167 6), rdOf ByteArray.empty y163 (Int.tmod t168 6)⟩ : S33)]) (wrap64 (x6_1 + 1))) else (none)) else (none)) else (none)) else (none)) else (none)) else (if 0 ≤ (Int.tmod t167 6) then (if (Int.tmod t167 6) < (y154.length : Int) then (if 0 ≤ t168 then (if t168 < (y163.length : Int) then (if x5_1.length < 4398046511104 then (intervalmonref05_Dirty.l0 k1 l0 y154 y163 (x5_1 ++ [(⟨rdOf ByteArray.empty y154 (Int.tmod t167 6), rdOf ByteArray.empty y163 t168⟩ : S33)]) (wrap64 (x6_1 + 1))) else (none)) else (none)) else (none)) else (none)) else (none))) = some r := H
       have A20 := Aside0.mk A200
       clear A200
       by_cases c21 : t168 ≥ (y163.length : Int)
       ·rw [if_pos c21] at H
        have c21b0 : decide ((y163.length : Int) ≤ t168) = true := decide_eq_true c21
        clear c21
        obtain ⟨ji22, hji22⟩ : ∃ j_ : Int, (Int.tmod t167 6) = j_ := ⟨_, rfl⟩
        replace H : (if 0 ≤ (ji22) then (if (ji22) < (y154.length : Int) then (if 0 ≤ (Int.tmod t168 6) then (if (Int.tmod t168 6) < (y163.length : Int) then (if x5_1.length < 4398046511104 then (intervalmonref05_Dirty.l0 k1 l0 y154 y163 (x5_1 ++ [(⟨rdOf ByteArray.empty y154 (ji22), rdOf ByteArray.empty y163 (Int.tmod t168 6)⟩ : S33)]) (wrap64 (x6_1 + 1))) else (none)) else (none)) else (none)) else (none)) else (none)) = some r := by first | (rw [hji22] at H; exact H) | (simp only [hji22] at H ⊢; exact H)
        (try rw [hji22] at A16)
        (try rw [hji22] at A18)
        (try rw [hji22] at A20)
        by_cases c23 : 0 ≤ (ji22)
        ·rw [if_pos c23] at H
         have c23b0 : decide (0 ≤ (ji22)) = true := decide_eq_true c23
         clear c23
         by_cases c24 : (ji22) < (y154.length : Int)
         ·rw [if_pos c24] at H
          have c24b0 : decide ((ji22) < (y154.length : Int)) = true := decide_eq_true c24
          clear c24
          obtain ⟨ji25, hji25⟩ : ∃ j_ : Int, (Int.tmod t168 6) = j_ := ⟨_, rfl⟩
          replace H : (if 0 ≤ (ji25) then (if (ji25) < (y163.length : Int) then (if x5_1.length < 4398046511104 then (intervalmonref05_Dirty.l0 k1 l0 y154 y163 (x5_1 ++ [(⟨rdOf ByteArray.empty y154 (ji22), rdOf ByteArray.empty y163 (ji25)⟩ : S33)]) (wrap64 (x6_1 + 1))) else (none)) else (none)) else (none)) = some r := by first | (rw [hji25] at H; exact H) | (simp only [hji25] at H ⊢; exact H)
          (try rw [hji25] at A16)
          (try rw [hji25] at A18)
          (try rw [hji25] at A20)
          by_cases c26 : 0 ≤ (ji25)
          ·rw [if_pos c26] at H
           have c26b0 : decide (0 ≤ (ji25)) = true := decide_eq_true c26
           clear c26
           by_cases c27 : (ji25) < (y163.length : Int)
           ·rw [if_pos c27] at H
            have c27b0 : decide ((ji25) < (y163.length : Int)) = true := decide_eq_true c27
            clear c27
            by_cases c28 : x5_1.length < 4398046511104
            ·rw [if_pos c28] at H
             have LMc28 := Aside0.mk c28
             clear c28
             obtain ⟨y171, hy171⟩ : ∃ y_ : List (S33), y_ = (x5_1 ++ [(⟨rdOf ByteArray.empty y154 (ji22), rdOf ByteArray.empty y163 (ji25)⟩ : S33)]) := ⟨_, rfl⟩
             replace H : (intervalmonref05_Dirty.l0 k1 l0 y154 y163 y171 (wrap64 (x6_1 + 1))) = some r := by first | (rw [hy171]; with_reducible exact H) | (have H2_ := (Option.bind_some _ _).symm.trans H; rw [hy171]; with_reducible exact H2_) | (have H2_ := (Option.bind_some _ _).symm.trans H; with_reducible exact H2_) | with_reducible exact H | (rw [hy171]; exact H) | exact H
             have Ny171 := Aside0.mk hy171
             clear hy171
             have H' := Aside0.mk H
             clear H
             try go_wp2_with (first | ((with_reducible refine gate_callee (f := 41) rfl ?_); refine goesL_ (some 17) rfl rfl Try.func41 (by kernel_rfl) rfl #[.slice A0 l0.length c0, .int .i64 0, .int .i64 11] rfl aq ?_; (with_reducible refine (intervalmonref01_Pick.calls _ _ l0 0 11 t166 _ ?side1 ?side2 A16.out).mono ?_); (case side1 => repeat (first | exact (Kd.C_below HR0.out HB.out) | (with_reducible refine Kd.C_alloc ?_ _) | (with_reducible refine Kd.C_drewN ?_ _) | (with_reducible refine Kd.C_drew ?_))); (case side2 => exact HC0.out); rintro e w' ⟨rfl, ⟨nd, rfl⟩⟩; refine ⟨_, rfl, ?_⟩; obtain ⟨Ao29, co29, eo29⟩ := Kd.R_slice HO_3.out; subst eo29) | ((with_reducible refine gate_callee (f := 41) rfl ?_); refine goesL_ (some 28) rfl rfl Try.func41 (by kernel_rfl) rfl #[.slice A0 l0.length c0, .int .i64 (wrap64 ((wrap64 (2 * x6_1)) + 1)), .int .i64 (wrap64 (4 * (y154.length : Int)))] rfl aq ?_; (with_reducible refine (intervalmonref01_Pick.calls _ _ l0 (wrap64 ((wrap64 (2 * x6_1)) + 1)) (wrap64 (4 * (y154.length : Int))) t167 _ ?side1 ?side2 A18.out).mono ?_); (case side1 => repeat (first | exact (Kd.C_below HR0.out (hq HB)) | (with_reducible refine Kd.C_alloc ?_ _) | (with_reducible refine Kd.C_drewN ?_ _) | (with_reducible refine Kd.C_drew ?_))); (case side2 => exact HC0.out); rintro e w' ⟨rfl, ⟨nd, rfl⟩⟩; refine ⟨_, rfl, ?_⟩; obtain ⟨Ao30, co30, eo30⟩ := Kd.R_slice HO_4.out; subst eo30) | ((with_reducible refine gate_callee (f := 41) rfl ?_); refine goesL_ (some 42) rfl rfl Try.func41 (by kernel_rfl) rfl #[.slice A0 l0.length c0, .int .i64 (wrap64 ((wrap64 (2 * x6_1)) + 2)), .int .i64 (wrap64 (4 * (y163.length : Int)))] rfl aq ?_; (with_reducible refine (intervalmonref01_Pick.calls _ _ l0 (wrap64 ((wrap64 (2 * x6_1)) + 2)) (wrap64 (4 * (y163.length : Int))) t168 _ ?side1 ?side2 A20.out).mono ?_); (case side1 => repeat (first | exact (Kd.C_below HR0.out (hq HB)) | (with_reducible refine Kd.C_alloc ?_ _) | (with_reducible refine Kd.C_drewN ?_ _) | (with_reducible refine Kd.C_drew ?_))); (case side2 => exact HC0.out); rintro e w' ⟨rfl, ⟨nd, rfl⟩⟩; refine ⟨_, rfl, ?_⟩))
             (try (rw [drewN_self wr]; generalize hq_ : World.drewN wr _ = wr; have n0_ : Aside0 (Kd.R Kd.string 9 wr w.heap.size (fun k_ => some k_ ≠ (.slice Ao30 y163.length co30 : Value).ownBlock) (.slice Ao29 y154.length co29) y154) := ⟨by rw [← hq_]; exact (rq HO_3)⟩; have n1_ : Aside0 (Kd.R Kd.string 9 wr w.heap.size (fun k_ => some k_ ≠ (.slice Ao29 y154.length co29 : Value).ownBlock) (.slice Ao30 y163.length co30) y163) := ⟨by rw [← hq_]; exact (rq HO_4)⟩; have n2_ : Aside0 (Kd.R k33 33 wr w.heap.size (fun _ => True) u5 x5_1) := ⟨by rw [← hq_]; exact (rq HO_5)⟩; have n3_ : Aside0 (Below w.heap.size w wr) := ⟨by rw [← hq_]; exact (hq HB)⟩; clear HO_3 HO_4 HO_5 HB hq_; have HO_3 := n0_; have HO_4 := n1_; have HO_5 := n2_; have HB := n3_; clear n0_ n1_ n2_ n3_))
             have n0_ := Aside0.mk (Kd.R_drew HO_3.out)
             have n1_ := Aside0.mk (Kd.R_drew HO_4.out)
             have n2_ := Aside0.mk (Kd.R_drew HO_5.out)
             have n3_ := Aside0.mk (below_drew1 HB.out)
             clear HO_3
             clear HO_4
             clear HO_5
             clear HB
             have HO_3 := n0_
             have HO_4 := n1_
             have HO_5 := n2_
             have HB := n3_
             clear n0_ n1_ n2_ n3_
             have p169 : 0 ≤ ((ji22) : Int) := of_decide_eq_true (by first | (with_reducible assumption) | assumption)
             have q169 : (ji22) < (y154.length : Int) := of_decide_eq_true (by first | (with_reducible assumption) | assumption)
             try (obtain ⟨Az169_, cz169_, ez169_⟩ := Kd.R_slice HO_3.out; subst ez169_)
             obtain ⟨ad169, e169, hx169_0⟩ := Kd.at_string (Kd.R_reads' HO_3.out).2.2 (ji22) p169 q169
             cases e169
             replace p169 := eq_true p169
             replace q169 := eq_true q169
             have p170 : 0 ≤ ((ji25) : Int) := of_decide_eq_true (by first | (with_reducible assumption) | assumption)
             have q170 : (ji25) < (y163.length : Int) := of_decide_eq_true (by first | (with_reducible assumption) | assumption)
             try (obtain ⟨Az170_, cz170_, ez170_⟩ := Kd.R_slice HO_4.out; subst ez170_)
             obtain ⟨ad170, e170, hx170_0⟩ := Kd.at_string (Kd.R_reads' HO_4.out).2.2 (ji25) p170 q170
             cases e170
             replace p170 := eq_true p170
             replace q170 := eq_true q170
             refine start_ (n := 13) (S := fun w' => w'.cell? (ad169.add ((ji22)).toNat) = some (.string (rdOf ByteArray.empty y154 (ji22))) ∧ w'.cell? (ad170.add ((ji25)).toNat) = some (.string (rdOf ByteArray.empty y163 (ji25)))) (ds := [10, 11]) #[false, false, false, false, false, false, false, false, false, false, false, false, false] (by kernel_rfl) rfl rfl ⟨hx169_0, hx170_0⟩ (fun hHeld => ?_); refine with_tabW intervalmonref05_Dirty.tab13 intervalmonref05_Dirty.bits13 (fun HT_ HW_ => ?_)
             generalize wr.drew = w31 at HO_3 HO_4 HO_5 HB hx169_0 hx170_0 hHeld ⊢
             refine pure_ (i := 0) (N := some 49) (v := ?_) (a' := ?_) #[true, false, false, false, false, false, false, false, false, false, false, false, false] rfl rfl (any_of HT_.out (by kernel_rfl)) (fun _ _ _ h => h) (Or.inl ⟨by rfl, ?_⟩) ?_ ?_
             rotate_left
             ·intro w'
              go_simp
              with_reducible rfl
             rotate_left
             ·simp only [Act.put, List.setIfInBounds_toArray, List.set_cons_zero, List.set_cons_succ, i64_w, i32_w]
              rfl
             refine pure_ (i := 1) (N := some 50) (v := ?_) (a' := ?_) #[true, true, false, false, false, false, false, false, false, false, false, false, false] rfl rfl (any_of HT_.out (by kernel_rfl)) (fun _ _ _ h => h) (Or.inl ⟨by rfl, ?_⟩) ?_ ?_
             rotate_left
             ·intro w'
              go_simp
              with_reducible rfl
             rotate_left
             ·simp only [Act.put, List.setIfInBounds_toArray, List.set_cons_zero, List.set_cons_succ, i64_w, i32_w]
              rfl
             refine pure_ (i := 2) (N := some 51) (v := ?_) (a' := ?_) #[true, true, true, false, false, false, false, false, false, false, false, false, false] rfl rfl (any_of HT_.out (by kernel_rfl)) (fun _ _ _ h => h) (Or.inl ⟨by rfl, ?_⟩) ?_ ?_
             rotate_left
             ·intro w'
              go_simp
              with_reducible rfl
             rotate_left
             ·simp only [Act.put, List.setIfInBounds_toArray, List.set_cons_zero, List.set_cons_succ, i64_w, i32_w]
              rfl
             refine pure_ (i := 3) (N := some 52) (v := ?_) (a' := ?_) #[true, true, true, true, false, false, false, false, false, false, false, false, false] rfl rfl (any_of HT_.out (by kernel_rfl)) (fun _ _ _ h => h) (Or.inl ⟨by rfl, ?_⟩) ?_ ?_
             rotate_left
             ·intro w'
              go_simp
              with_reducible rfl
             rotate_left
             ·simp only [Act.put, List.setIfInBounds_toArray, List.set_cons_zero, List.set_cons_succ, i64_w, i32_w]
              rfl
             refine pure_ (i := 5) (N := some 54) (v := ?_) (a' := ?_) #[true, true, true, true, false, true, false, false, false, false, false, false, false] rfl rfl (any_of HT_.out (by kernel_rfl)) (fun _ _ _ h => h) (Or.inl ⟨by rfl, ?_⟩) ?_ ?_
             rotate_left
             ·intro w'
              go_simp
              with_reducible rfl
             rotate_left
             ·simp only [Act.put, List.setIfInBounds_toArray, List.set_cons_zero, List.set_cons_succ, i64_w, i32_w]
              rfl
             refine pure_ (i := 6) (N := some 55) (v := ?_) (a' := ?_) #[true, true, true, true, false, true, true, false, false, false, false, false, false] rfl rfl (any_of HT_.out (by kernel_rfl)) (fun _ _ _ h => h) (Or.inl ⟨by rfl, ?_⟩) ?_ ?_
             rotate_left
             ·intro w'
              go_simp
              with_reducible rfl
             rotate_left
             ·simp only [Act.put, List.setIfInBounds_toArray, List.set_cons_zero, List.set_cons_succ, i64_w, i32_w]
              rfl
             refine pure_ (i := 7) (N := some 56) (v := ?_) (a' := ?_) #[true, true, true, true, false, true, true, true, false, false, false, false, false] rfl rfl (any_of HT_.out (by kernel_rfl)) (fun _ _ _ h => h) (Or.inl ⟨by rfl, ?_⟩) ?_ ?_
             rotate_left
             ·intro w'
              go_simp
              with_reducible rfl
             rotate_left
             ·simp only [Act.put, List.setIfInBounds_toArray, List.set_cons_zero, List.set_cons_succ, i64_w, i32_w]
              rfl
             refine take_ (i := 4) (N := some 53) (v := ?_) (a' := ?_) #[true, true, true, true, true, true, true, true, false, false, false, false, false] rfl rfl (take_ofW HT_.out HW_.out (by kernel_rfl)) (fun _ _ _ h => h) (Or.inl ⟨by rfl, ?_⟩) hHeld ?_ ?_
             rotate_left
             ·rintro w' ⟨s0, s1⟩
              go_simp
              with_reducible rfl
             rotate_left
             ·simp only [Act.put, List.setIfInBounds_toArray, List.set_cons_zero, List.set_cons_succ, i64_w, i32_w]
              rfl
             refine take_ (i := 8) (N := some 57) (v := ?_) (a' := ?_) #[true, true, true, true, true, true, true, true, true, false, false, false, false] rfl rfl (take_ofW HT_.out HW_.out (by kernel_rfl)) (fun _ _ _ h => h) (Or.inl ⟨by rfl, ?_⟩) hHeld ?_ ?_
             rotate_left
             ·rintro w' ⟨s0, s1⟩
              go_simp
              with_reducible rfl
             rotate_left
             ·simp only [Act.put, List.setIfInBounds_toArray, List.set_cons_zero, List.set_cons_succ, i64_w, i32_w]
              rfl
             refine pure_ (i := 9) (N := some 58) (v := ?_) (a' := ?_) #[true, true, true, true, true, true, true, true, true, true, false, false, false] rfl rfl (any_of HT_.out (by kernel_rfl)) (fun _ _ _ h => h) (Or.inl ⟨by rfl, ?_⟩) ?_ ?_
             rotate_left
             ·intro w'
              go_simp
              with_reducible rfl
             rotate_left
             ·simp only [Act.put, List.setIfInBounds_toArray, List.set_cons_zero, List.set_cons_succ, i64_w, i32_w]
              rfl
             refine last_ (i := 10) (N := some 59) #[true, true, true, true, true, true, true, true, true, true, true, false, false] rfl rfl (one_of HT_.out (by kernel_rfl)) (by decide) (fun K hK => ?_)
             refine value_ (w1 := ?_) (v := ?_) (by rfl) rfl ?_ ?_
             rotate_left 2
             ·go_simp
              constructor
              ·rfl
              ·rfl
             refine hK.out _ _ ?_
             clear hK K
             refine norm_ (a' := ?_) ?_ ?_
             rotate_left
             ·show Act.put _ (some 59) _ = _
              simp only [Act.put, List.setIfInBounds_toArray, List.set_cons_zero, List.set_cons_succ, i64_w, i32_w]
              rfl
             refine last_ (i := 11) (N := some 60) #[true, true, true, true, true, true, true, true, true, true, true, true, false] rfl rfl (one_of HT_.out (by kernel_rfl)) (by decide) (fun K hK => ?_)
             refine Kd.R_append_step k33 (w0 := w) w.heap.size (by rfl) (.tmp 49) (.tmp 59) 30 33 (.agg #[(.string ⟨#[]⟩), (.string ⟨#[]⟩)]) 32 rfl Try.underlying30 info33 rfl (by decide) (by omega) u5 x5_1 (⟨rdOf ByteArray.empty y154 (ji22), rdOf ByteArray.empty y163 (ji25)⟩ : S33) [.string (rdOf ByteArray.empty y154 (ji22)), .string (rdOf ByteArray.empty y163 (ji25))] (fun _ => True) (fun _ => False) rfl rfl ?aP (fun _ hk => hk.elim) ?aF ?aO ?aB ?aS ?aL ?_
             (case aP => exact k33_mkM _ _ _ (⟨rdOf ByteArray.empty y154 (ji22), rdOf ByteArray.empty y163 (ji25)⟩ : S33))
             (case aB => exact (hq HB))
             (case aF => exact (fun _ _ => trivial))
             (case aO => exact (rq HO_5))
             (case aS => exact (below_size (hq HB)))
             (case aL => have := LMc28.out; omega)
             intro v172 w32 ho hb hg hat
             rw [← Ny171.out] at ho
             have n0_ := Aside0.mk (Kd.R_over' (rq HO_3) (Kd.R_typed (rq HO_5)) (by decide) hg)
             have n1_ := Aside0.mk (Kd.R_over' (rq HO_4) (Kd.R_typed (rq HO_5)) (by decide) hg)
             have n2_ := Aside0.mk (hb)
             have n3_ := Aside0.mk (ho)
             clear HO_3
             clear HO_4
             clear HB
             clear HO_5
             have HO_3 := n0_
             have HO_4 := n1_
             have HB := n2_
             have HO173 := n3_
             clear n0_ n1_ n2_ n3_
             clear ho hb hg hat
             refine hK.out _ _ ?_
             clear hK K
             refine norm_ (a' := ?_) ?_ ?_
             rotate_left
             ·show Act.put _ (some 60) _ = _
              simp only [Act.put, List.setIfInBounds_toArray, List.set_cons_zero, List.set_cons_succ, i64_w, i32_w]
              rfl
             refine pure_ (i := 12) (N := some 5) (v := ?_) (a' := ?_) #[true, true, true, true, true, true, true, true, true, true, true, true, true] rfl rfl (any_of HT_.out (by kernel_rfl)) (fun _ _ _ h => h) (Or.inl ⟨by rfl, ?_⟩) ?_ ?_
             rotate_left
             ·intro w'
              go_simp
              with_reducible rfl
             rotate_left
             ·simp only [Act.put, List.setIfInBounds_toArray, List.set_cons_zero, List.set_cons_succ, i64_w, i32_w]
              rfl
             refine done_ (done_of HT_.out (by kernel_rfl)) ?_
             try go_wp2
             go_roundg k1
             case measure => have := HK1.out; omega
             case rel => exact ⟨(y171), (wrap64 (x6_1 + 1)), (by first | rfl | (simp; done) | (simp [*]; done)), H', ⟨by have := HK1.out; omega⟩, ⟨by (with_reducible repeat (first | apply Kd.R_alloc | apply Kd.R_drewN | apply Kd.R_drew)); exact HO_3.out⟩, ⟨by (with_reducible repeat (first | apply Kd.R_alloc | apply Kd.R_drewN | apply Kd.R_drew)); exact HO_4.out⟩, ⟨by (with_reducible repeat (first | apply Kd.R_alloc | apply Kd.R_drewN | apply Kd.R_drew)); exact HO173.out⟩, ⟨by repeat (first | (with_reducible first | exact HB.out | apply below_alloc | apply pw_below_drewN | apply below_drew1) | exact HB.out)⟩⟩
            ·rw [if_neg c28] at H
             exact absurd H (by simp)
           ·rw [if_neg c27] at H
            exact absurd H (by simp)
          ·rw [if_neg c26] at H
           exact absurd H (by simp)
         ·rw [if_neg c24] at H
          exact absurd H (by simp)
        ·rw [if_neg c23] at H
         exact absurd H (by simp)
       ·rw [if_neg c21] at H
        have c21b0 : decide ((y163.length : Int) ≤ t168) = false := decide_eq_false c21
        clear c21
        obtain ⟨ji33, hji33⟩ : ∃ j_ : Int, (Int.tmod t167 6) = j_ := ⟨_, rfl⟩
        replace H : (if 0 ≤ (ji33) then (if (ji33) < (y154.length : Int) then (if 0 ≤ t168 then (if t168 < (y163.length : Int) then (if x5_1.length < 4398046511104 then (intervalmonref05_Dirty.l0 k1 l0 y154 y163 (x5_1 ++ [(⟨rdOf ByteArray.empty y154 (ji33), rdOf ByteArray.empty y163 t168⟩ : S33)]) (wrap64 (x6_1 + 1))) else (none)) else (none)) else (none)) else (none)) else (none)) = some r := by first | (rw [hji33] at H; exact H) | (simp only [hji33] at H ⊢; exact H)
        (try rw [hji33] at A16)
        (try rw [hji33] at A18)
        (try rw [hji33] at A20)
        by_cases c34 : 0 ≤ (ji33)
        ·rw [if_pos c34] at H
         have c34b0 : decide (0 ≤ (ji33)) = true := decide_eq_true c34
         clear c34
         by_cases c35 : (ji33) < (y154.length : Int)
         ·rw [if_pos c35] at H
          have c35b0 : decide ((ji33) < (y154.length : Int)) = true := decide_eq_true c35
          clear c35
          by_cases c36 : 0 ≤ t168
          ·rw [if_pos c36] at H
           have c36b0 : decide (0 ≤ t168) = true := decide_eq_true c36
           clear c36
           by_cases c37 : t168 < (y163.length : Int)
           ·rw [if_pos c37] at H
            have c37b0 : decide (t168 < (y163.length : Int)) = true := decide_eq_true c37
            clear c37
            by_cases c38 : x5_1.length < 4398046511104
            ·rw [if_pos c38] at H
             have LMc38 := Aside0.mk c38
             clear c38
             obtain ⟨y176, hy176⟩ : ∃ y_ : List (S33), y_ = (x5_1 ++ [(⟨rdOf ByteArray.empty y154 (ji33), rdOf ByteArray.empty y163 t168⟩ : S33)]) := ⟨_, rfl⟩
             replace H : (intervalmonref05_Dirty.l0 k1 l0 y154 y163 y176 (wrap64 (x6_1 + 1))) = some r := by first | (rw [hy176]; with_reducible exact H) | (have H2_ := (Option.bind_some _ _).symm.trans H; rw [hy176]; with_reducible exact H2_) | (have H2_ := (Option.bind_some _ _).symm.trans H; with_reducible exact H2_) | with_reducible exact H | (rw [hy176]; exact H) | exact H
             have Ny176 := Aside0.mk hy176
             clear hy176
             have H' := Aside0.mk H
             clear H
             try go_wp2_with (first | ((with_reducible refine gate_callee (f := 41) rfl ?_); refine goesL_ (some 17) rfl rfl Try.func41 (by kernel_rfl) rfl #[.slice A0 l0.length c0, .int .i64 0, .int .i64 11] rfl aq ?_; (with_reducible refine (intervalmonref01_Pick.calls _ _ l0 0 11 t166 _ ?side1 ?side2 A16.out).mono ?_); (case side1 => repeat (first | exact (Kd.C_below HR0.out HB.out) | (with_reducible refine Kd.C_alloc ?_ _) | (with_reducible refine Kd.C_drewN ?_ _) | (with_reducible refine Kd.C_drew ?_))); (case side2 => exact HC0.out); rintro e w' ⟨rfl, ⟨nd, rfl⟩⟩; refine ⟨_, rfl, ?_⟩; obtain ⟨Ao39, co39, eo39⟩ := Kd.R_slice HO_3.out; subst eo39) | ((with_reducible refine gate_callee (f := 41) rfl ?_); refine goesL_ (some 28) rfl rfl Try.func41 (by kernel_rfl) rfl #[.slice A0 l0.length c0, .int .i64 (wrap64 ((wrap64 (2 * x6_1)) + 1)), .int .i64 (wrap64 (4 * (y154.length : Int)))] rfl aq ?_; (with_reducible refine (intervalmonref01_Pick.calls _ _ l0 (wrap64 ((wrap64 (2 * x6_1)) + 1)) (wrap64 (4 * (y154.length : Int))) t167 _ ?side1 ?side2 A18.out).mono ?_); (case side1 => repeat (first | exact (Kd.C_below HR0.out (hq HB)) | (with_reducible refine Kd.C_alloc ?_ _) | (with_reducible refine Kd.C_drewN ?_ _) | (with_reducible refine Kd.C_drew ?_))); (case side2 => exact HC0.out); rintro e w' ⟨rfl, ⟨nd, rfl⟩⟩; refine ⟨_, rfl, ?_⟩; obtain ⟨Ao40, co40, eo40⟩ := Kd.R_slice HO_4.out; subst eo40) | ((with_reducible refine gate_callee (f := 41) rfl ?_); refine goesL_ (some 42) rfl rfl Try.func41 (by kernel_rfl) rfl #[.slice A0 l0.length c0, .int .i64 (wrap64 ((wrap64 (2 * x6_1)) + 2)), .int .i64 (wrap64 (4 * (y163.length : Int)))] rfl aq ?_; (with_reducible refine (intervalmonref01_Pick.calls _ _ l0 (wrap64 ((wrap64 (2 * x6_1)) + 2)) (wrap64 (4 * (y163.length : Int))) t168 _ ?side1 ?side2 A20.out).mono ?_); (case side1 => repeat (first | exact (Kd.C_below HR0.out (hq HB)) | (with_reducible refine Kd.C_alloc ?_ _) | (with_reducible refine Kd.C_drewN ?_ _) | (with_reducible refine Kd.C_drew ?_))); (case side2 => exact HC0.out); rintro e w' ⟨rfl, ⟨nd, rfl⟩⟩; refine ⟨_, rfl, ?_⟩))
             (try (rw [drewN_self wr]; generalize hq_ : World.drewN wr _ = wr; have n0_ : Aside0 (Kd.R Kd.string 9 wr w.heap.size (fun k_ => some k_ ≠ (.slice Ao40 y163.length co40 : Value).ownBlock) (.slice Ao39 y154.length co39) y154) := ⟨by rw [← hq_]; exact (rq HO_3)⟩; have n1_ : Aside0 (Kd.R Kd.string 9 wr w.heap.size (fun k_ => some k_ ≠ (.slice Ao39 y154.length co39 : Value).ownBlock) (.slice Ao40 y163.length co40) y163) := ⟨by rw [← hq_]; exact (rq HO_4)⟩; have n2_ : Aside0 (Kd.R k33 33 wr w.heap.size (fun _ => True) u5 x5_1) := ⟨by rw [← hq_]; exact (rq HO_5)⟩; have n3_ : Aside0 (Below w.heap.size w wr) := ⟨by rw [← hq_]; exact (hq HB)⟩; clear HO_3 HO_4 HO_5 HB hq_; have HO_3 := n0_; have HO_4 := n1_; have HO_5 := n2_; have HB := n3_; clear n0_ n1_ n2_ n3_))
             have n0_ := Aside0.mk (Kd.R_drew HO_3.out)
             have n1_ := Aside0.mk (Kd.R_drew HO_4.out)
             have n2_ := Aside0.mk (Kd.R_drew HO_5.out)
             have n3_ := Aside0.mk (below_drew1 HB.out)
             clear HO_3
             clear HO_4
             clear HO_5
             clear HB
             have HO_3 := n0_
             have HO_4 := n1_
             have HO_5 := n2_
             have HB := n3_
             clear n0_ n1_ n2_ n3_
             have p174 : 0 ≤ ((ji33) : Int) := of_decide_eq_true (by first | (with_reducible assumption) | assumption)
             have q174 : (ji33) < (y154.length : Int) := of_decide_eq_true (by first | (with_reducible assumption) | assumption)
             try (obtain ⟨Az174_, cz174_, ez174_⟩ := Kd.R_slice HO_3.out; subst ez174_)
             obtain ⟨ad174, e174, hx174_0⟩ := Kd.at_string (Kd.R_reads' HO_3.out).2.2 (ji33) p174 q174
             cases e174
             replace p174 := eq_true p174
             replace q174 := eq_true q174
             have p175 : 0 ≤ (t168 : Int) := of_decide_eq_true (by first | (with_reducible assumption) | assumption)
             have q175 : t168 < (y163.length : Int) := of_decide_eq_true (by first | (with_reducible assumption) | assumption)
             try (obtain ⟨Az175_, cz175_, ez175_⟩ := Kd.R_slice HO_4.out; subst ez175_)
             obtain ⟨ad175, e175, hx175_0⟩ := Kd.at_string (Kd.R_reads' HO_4.out).2.2 t168 p175 q175
             cases e175
             replace p175 := eq_true p175
             replace q175 := eq_true q175
             refine start_ (n := 13) (S := fun w' => w'.cell? (ad174.add ((ji33)).toNat) = some (.string (rdOf ByteArray.empty y154 (ji33))) ∧ w'.cell? (ad175.add (t168).toNat) = some (.string (rdOf ByteArray.empty y163 t168))) (ds := [10, 11]) #[false, false, false, false, false, false, false, false, false, false, false, false, false] (by kernel_rfl) rfl rfl ⟨hx174_0, hx175_0⟩ (fun hHeld => ?_); refine with_tabW intervalmonref05_Dirty.tab13 intervalmonref05_Dirty.bits13 (fun HT_ HW_ => ?_)
             generalize wr.drew = w41 at HO_3 HO_4 HO_5 HB hx174_0 hx175_0 hHeld ⊢
             refine pure_ (i := 0) (N := some 49) (v := ?_) (a' := ?_) #[true, false, false, false, false, false, false, false, false, false, false, false, false] rfl rfl (any_of HT_.out (by kernel_rfl)) (fun _ _ _ h => h) (Or.inl ⟨by rfl, ?_⟩) ?_ ?_
             rotate_left
             ·intro w'
              go_simp
              with_reducible rfl
             rotate_left
             ·simp only [Act.put, List.setIfInBounds_toArray, List.set_cons_zero, List.set_cons_succ, i64_w, i32_w]
              rfl
             refine pure_ (i := 1) (N := some 50) (v := ?_) (a' := ?_) #[true, true, false, false, false, false, false, false, false, false, false, false, false] rfl rfl (any_of HT_.out (by kernel_rfl)) (fun _ _ _ h => h) (Or.inl ⟨by rfl, ?_⟩) ?_ ?_
             rotate_left
             ·intro w'
              go_simp
              with_reducible rfl
             rotate_left
             ·simp only [Act.put, List.setIfInBounds_toArray, List.set_cons_zero, List.set_cons_succ, i64_w, i32_w]
              rfl
             refine pure_ (i := 2) (N := some 51) (v := ?_) (a' := ?_) #[true, true, true, false, false, false, false, false, false, false, false, false, false] rfl rfl (any_of HT_.out (by kernel_rfl)) (fun _ _ _ h => h) (Or.inl ⟨by rfl, ?_⟩) ?_ ?_
             rotate_left
             ·intro w'
              go_simp
              with_reducible rfl
             rotate_left
             ·simp only [Act.put, List.setIfInBounds_toArray, List.set_cons_zero, List.set_cons_succ, i64_w, i32_w]
              rfl
             refine pure_ (i := 3) (N := some 52) (v := ?_) (a' := ?_) #[true, true, true, true, false, false, false, false, false, false, false, false, false] rfl rfl (any_of HT_.out (by kernel_rfl)) (fun _ _ _ h => h) (Or.inl ⟨by rfl, ?_⟩) ?_ ?_
             rotate_left
             ·intro w'
              go_simp
              with_reducible rfl
             rotate_left
             ·simp only [Act.put, List.setIfInBounds_toArray, List.set_cons_zero, List.set_cons_succ, i64_w, i32_w]
              rfl
             refine pure_ (i := 5) (N := some 54) (v := ?_) (a' := ?_) #[true, true, true, true, false, true, false, false, false, false, false, false, false] rfl rfl (any_of HT_.out (by kernel_rfl)) (fun _ _ _ h => h) (Or.inl ⟨by rfl, ?_⟩) ?_ ?_
             rotate_left
             ·intro w'
              go_simp
              with_reducible rfl
             rotate_left
             ·simp only [Act.put, List.setIfInBounds_toArray, List.set_cons_zero, List.set_cons_succ, i64_w, i32_w]
              rfl
             refine pure_ (i := 6) (N := some 55) (v := ?_) (a' := ?_) #[true, true, true, true, false, true, true, false, false, false, false, false, false] rfl rfl (any_of HT_.out (by kernel_rfl)) (fun _ _ _ h => h) (Or.inl ⟨by rfl, ?_⟩) ?_ ?_
             rotate_left
             ·intro w'
              go_simp
              with_reducible rfl
             rotate_left
             ·simp only [Act.put, List.setIfInBounds_toArray, List.set_cons_zero, List.set_cons_succ, i64_w, i32_w]
              rfl
             refine pure_ (i := 7) (N := some 56) (v := ?_) (a' := ?_) #[true, true, true, true, false, true, true, true, false, false, false, false, false] rfl rfl (any_of HT_.out (by kernel_rfl)) (fun _ _ _ h => h) (Or.inl ⟨by rfl, ?_⟩) ?_ ?_
             rotate_left
             ·intro w'
              go_simp
              with_reducible rfl
             rotate_left
             ·simp only [Act.put, List.setIfInBounds_toArray, List.set_cons_zero, List.set_cons_succ, i64_w, i32_w]
              rfl
             refine take_ (i := 4) (N := some 53) (v := ?_) (a' := ?_) #[true, true, true, true, true, true, true, true, false, false, false, false, false] rfl rfl (take_ofW HT_.out HW_.out (by kernel_rfl)) (fun _ _ _ h => h) (Or.inl ⟨by rfl, ?_⟩) hHeld ?_ ?_
             rotate_left
             ·rintro w' ⟨s0, s1⟩
              go_simp
              with_reducible rfl
             rotate_left
             ·simp only [Act.put, List.setIfInBounds_toArray, List.set_cons_zero, List.set_cons_succ, i64_w, i32_w]
              rfl
             refine take_ (i := 8) (N := some 57) (v := ?_) (a' := ?_) #[true, true, true, true, true, true, true, true, true, false, false, false, false] rfl rfl (take_ofW HT_.out HW_.out (by kernel_rfl)) (fun _ _ _ h => h) (Or.inl ⟨by rfl, ?_⟩) hHeld ?_ ?_
             rotate_left
             ·rintro w' ⟨s0, s1⟩
              go_simp
              with_reducible rfl
             rotate_left
             ·simp only [Act.put, List.setIfInBounds_toArray, List.set_cons_zero, List.set_cons_succ, i64_w, i32_w]
              rfl
             refine pure_ (i := 9) (N := some 58) (v := ?_) (a' := ?_) #[true, true, true, true, true, true, true, true, true, true, false, false, false] rfl rfl (any_of HT_.out (by kernel_rfl)) (fun _ _ _ h => h) (Or.inl ⟨by rfl, ?_⟩) ?_ ?_
             rotate_left
             ·intro w'
              go_simp
              with_reducible rfl
             rotate_left
             ·simp only [Act.put, List.setIfInBounds_toArray, List.set_cons_zero, List.set_cons_succ, i64_w, i32_w]
              rfl
             refine last_ (i := 10) (N := some 59) #[true, true, true, true, true, true, true, true, true, true, true, false, false] rfl rfl (one_of HT_.out (by kernel_rfl)) (by decide) (fun K hK => ?_)
             refine value_ (w1 := ?_) (v := ?_) (by rfl) rfl ?_ ?_
             rotate_left 2
             ·go_simp
              constructor
              ·rfl
              ·rfl
             refine hK.out _ _ ?_
             clear hK K
             refine norm_ (a' := ?_) ?_ ?_
             rotate_left
             ·show Act.put _ (some 59) _ = _
              simp only [Act.put, List.setIfInBounds_toArray, List.set_cons_zero, List.set_cons_succ, i64_w, i32_w]
              rfl
             refine last_ (i := 11) (N := some 60) #[true, true, true, true, true, true, true, true, true, true, true, true, false] rfl rfl (one_of HT_.out (by kernel_rfl)) (by decide) (fun K hK => ?_)
             refine Kd.R_append_step k33 (w0 := w) w.heap.size (by rfl) (.tmp 49) (.tmp 59) 30 33 (.agg #[(.string ⟨#[]⟩), (.string ⟨#[]⟩)]) 32 rfl Try.underlying30 info33 rfl (by decide) (by omega) u5 x5_1 (⟨rdOf ByteArray.empty y154 (ji33), rdOf ByteArray.empty y163 t168⟩ : S33) [.string (rdOf ByteArray.empty y154 (ji33)), .string (rdOf ByteArray.empty y163 t168)] (fun _ => True) (fun _ => False) rfl rfl ?aP (fun _ hk => hk.elim) ?aF ?aO ?aB ?aS ?aL ?_
             (case aP => exact k33_mkM _ _ _ (⟨rdOf ByteArray.empty y154 (ji33), rdOf ByteArray.empty y163 t168⟩ : S33))
             (case aB => exact (hq HB))
             (case aF => exact (fun _ _ => trivial))
             (case aO => exact (rq HO_5))
             (case aS => exact (below_size (hq HB)))
             (case aL => have := LMc38.out; omega)
             intro v177 w42 ho hb hg hat
             rw [← Ny176.out] at ho
             have n0_ := Aside0.mk (Kd.R_over' (rq HO_3) (Kd.R_typed (rq HO_5)) (by decide) hg)
             have n1_ := Aside0.mk (Kd.R_over' (rq HO_4) (Kd.R_typed (rq HO_5)) (by decide) hg)
             have n2_ := Aside0.mk (hb)
             have n3_ := Aside0.mk (ho)
             clear HO_3
             clear HO_4
             clear HB
             clear HO_5
             have HO_3 := n0_
             have HO_4 := n1_
             have HB := n2_
             have HO178 := n3_
             clear n0_ n1_ n2_ n3_
             clear ho hb hg hat
             refine hK.out _ _ ?_
             clear hK K
             refine norm_ (a' := ?_) ?_ ?_
             rotate_left
             ·show Act.put _ (some 60) _ = _
              simp only [Act.put, List.setIfInBounds_toArray, List.set_cons_zero, List.set_cons_succ, i64_w, i32_w]
              rfl
             refine pure_ (i := 12) (N := some 5) (v := ?_) (a' := ?_) #[true, true, true, true, true, true, true, true, true, true, true, true, true] rfl rfl (any_of HT_.out (by kernel_rfl)) (fun _ _ _ h => h) (Or.inl ⟨by rfl, ?_⟩) ?_ ?_
             rotate_left
             ·intro w'
              go_simp
              with_reducible rfl
             rotate_left
             ·simp only [Act.put, List.setIfInBounds_toArray, List.set_cons_zero, List.set_cons_succ, i64_w, i32_w]
              rfl
             refine done_ (done_of HT_.out (by kernel_rfl)) ?_
             try go_wp2
             go_roundg k1
             case measure => have := HK1.out; omega
             case rel => exact ⟨(y176), (wrap64 (x6_1 + 1)), (by first | rfl | (simp; done) | (simp [*]; done)), H', ⟨by have := HK1.out; omega⟩, ⟨by (with_reducible repeat (first | apply Kd.R_alloc | apply Kd.R_drewN | apply Kd.R_drew)); exact HO_3.out⟩, ⟨by (with_reducible repeat (first | apply Kd.R_alloc | apply Kd.R_drewN | apply Kd.R_drew)); exact HO_4.out⟩, ⟨by (with_reducible repeat (first | apply Kd.R_alloc | apply Kd.R_drewN | apply Kd.R_drew)); exact HO178.out⟩, ⟨by repeat (first | (with_reducible first | exact HB.out | apply below_alloc | apply pw_below_drewN | apply below_drew1) | exact HB.out)⟩⟩
            ·rw [if_neg c38] at H
             exact absurd H (by simp)
           ·rw [if_neg c37] at H
            exact absurd H (by simp)
          ·rw [if_neg c36] at H
           exact absurd H (by simp)
         ·rw [if_neg c35] at H
          exact absurd H (by simp)
        ·rw [if_neg c34] at H
         exact absurd H (by simp)
      ·rw [if_neg c19] at H
       have c19b0 : decide ((y154.length : Int) ≤ t167) = false := decide_eq_false c19
       clear c19
       replace H := Option.bind_eq_some_iff.mp H
       obtain ⟨t179, A430, H⟩ := H
       replace H : (if t179 ≥ (y163.length : Int) then (if 0 ≤ t167 then (if t167 < (y154.length : Int) then (if 0 ≤ (Int.tmod t179 6) then (if (Int.tmod t179 6) < (y163.length : Int) then (if x5_1.length < 4398046511104 then (intervalmonref05_Dirty.l0 k1 l0 y154 y163 (x5_1 ++ [(⟨rdOf ByteArray.empty y154 t167, rdOf ByteArray.empty y163 (Int.tmod t179 6)⟩ : S33)]) (wrap64 (x6_1 + 1))) else (none)) else (none)) else (none)) else (none)) else (none)) else (if 0 ≤ t167 then (if t167 < (y154.length : Int) then (if 0 ≤ t179 then (if t179 < (y163.length : Int) then (if x5_1.length < 4398046511104 then (intervalmonref05_Dirty.l0 k1 l0 y154 y163 (x5_1 ++ [(⟨rdOf ByteArray.empty y154 t167, rdOf ByteArray.empty y163 t179⟩ : S33)]) (wrap64 (x6_1 + 1))) else (none)) else (none)) else (none)) else (none)) else (none))) = some r := H
       have A43 := Aside0.mk A430
       clear A430
       by_cases c44 : t179 ≥ (y163.length : Int)
       ·rw [if_pos c44] at H
        have c44b0 : decide ((y163.length : Int) ≤ t179) = true := decide_eq_true c44
        clear c44
        by_cases c45 : 0 ≤ t167
        ·rw [if_pos c45] at H
         have c45b0 : decide (0 ≤ t167) = true := decide_eq_true c45
         clear c45
         by_cases c46 : t167 < (y154.length : Int)
         ·rw [if_pos c46] at H
          have c46b0 : decide (t167 < (y154.length : Int)) = true := decide_eq_true c46
          clear c46
          obtain ⟨ji47, hji47⟩ : ∃ j_ : Int, (Int.tmod t179 6) = j_ := ⟨_, rfl⟩
          replace H : (if 0 ≤ (ji47) then (if (ji47) < (y163.length : Int) then (if x5_1.length < 4398046511104 then (intervalmonref05_Dirty.l0 k1 l0 y154 y163 (x5_1 ++ [(⟨rdOf ByteArray.empty y154 t167, rdOf ByteArray.empty y163 (ji47)⟩ : S33)]) (wrap64 (x6_1 + 1))) else (none)) else (none)) else (none)) = some r := by first | (rw [hji47] at H; exact H) | (simp only [hji47] at H ⊢; exact H)
          (try rw [hji47] at A16)
          (try rw [hji47] at A18)
          (try rw [hji47] at A43)
          by_cases c48 : 0 ≤ (ji47)
          ·rw [if_pos c48] at H
           have c48b0 : decide (0 ≤ (ji47)) = true := decide_eq_true c48
           clear c48
           by_cases c49 : (ji47) < (y163.length : Int)
           ·rw [if_pos c49] at H
            have c49b0 : decide ((ji47) < (y163.length : Int)) = true := decide_eq_true c49
            clear c49
            by_cases c50 : x5_1.length < 4398046511104
            ·rw [if_pos c50] at H
             have LMc50 := Aside0.mk c50
             clear c50
             obtain ⟨y182, hy182⟩ : ∃ y_ : List (S33), y_ = (x5_1 ++ [(⟨rdOf ByteArray.empty y154 t167, rdOf ByteArray.empty y163 (ji47)⟩ : S33)]) := ⟨_, rfl⟩
             replace H : (intervalmonref05_Dirty.l0 k1 l0 y154 y163 y182 (wrap64 (x6_1 + 1))) = some r := by first | (rw [hy182]; with_reducible exact H) | (have H2_ := (Option.bind_some _ _).symm.trans H; rw [hy182]; with_reducible exact H2_) | (have H2_ := (Option.bind_some _ _).symm.trans H; with_reducible exact H2_) | with_reducible exact H | (rw [hy182]; exact H) | exact H
             have Ny182 := Aside0.mk hy182
             clear hy182
             have H' := Aside0.mk H
             clear H
             try go_wp2_with (first | ((with_reducible refine gate_callee (f := 41) rfl ?_); refine goesL_ (some 17) rfl rfl Try.func41 (by kernel_rfl) rfl #[.slice A0 l0.length c0, .int .i64 0, .int .i64 11] rfl aq ?_; (with_reducible refine (intervalmonref01_Pick.calls _ _ l0 0 11 t166 _ ?side1 ?side2 A16.out).mono ?_); (case side1 => repeat (first | exact (Kd.C_below HR0.out HB.out) | (with_reducible refine Kd.C_alloc ?_ _) | (with_reducible refine Kd.C_drewN ?_ _) | (with_reducible refine Kd.C_drew ?_))); (case side2 => exact HC0.out); rintro e w' ⟨rfl, ⟨nd, rfl⟩⟩; refine ⟨_, rfl, ?_⟩; obtain ⟨Ao51, co51, eo51⟩ := Kd.R_slice HO_3.out; subst eo51) | ((with_reducible refine gate_callee (f := 41) rfl ?_); refine goesL_ (some 28) rfl rfl Try.func41 (by kernel_rfl) rfl #[.slice A0 l0.length c0, .int .i64 (wrap64 ((wrap64 (2 * x6_1)) + 1)), .int .i64 (wrap64 (4 * (y154.length : Int)))] rfl aq ?_; (with_reducible refine (intervalmonref01_Pick.calls _ _ l0 (wrap64 ((wrap64 (2 * x6_1)) + 1)) (wrap64 (4 * (y154.length : Int))) t167 _ ?side1 ?side2 A18.out).mono ?_); (case side1 => repeat (first | exact (Kd.C_below HR0.out (hq HB)) | (with_reducible refine Kd.C_alloc ?_ _) | (with_reducible refine Kd.C_drewN ?_ _) | (with_reducible refine Kd.C_drew ?_))); (case side2 => exact HC0.out); rintro e w' ⟨rfl, ⟨nd, rfl⟩⟩; refine ⟨_, rfl, ?_⟩; obtain ⟨Ao52, co52, eo52⟩ := Kd.R_slice HO_4.out; subst eo52) | ((with_reducible refine gate_callee (f := 41) rfl ?_); refine goesL_ (some 42) rfl rfl Try.func41 (by kernel_rfl) rfl #[.slice A0 l0.length c0, .int .i64 (wrap64 ((wrap64 (2 * x6_1)) + 2)), .int .i64 (wrap64 (4 * (y163.length : Int)))] rfl aq ?_; (with_reducible refine (intervalmonref01_Pick.calls _ _ l0 (wrap64 ((wrap64 (2 * x6_1)) + 2)) (wrap64 (4 * (y163.length : Int))) t179 _ ?side1 ?side2 A43.out).mono ?_); (case side1 => repeat (first | exact (Kd.C_below HR0.out (hq HB)) | (with_reducible refine Kd.C_alloc ?_ _) | (with_reducible refine Kd.C_drewN ?_ _) | (with_reducible refine Kd.C_drew ?_))); (case side2 => exact HC0.out); rintro e w' ⟨rfl, ⟨nd, rfl⟩⟩; refine ⟨_, rfl, ?_⟩))
             (try (rw [drewN_self wr]; generalize hq_ : World.drewN wr _ = wr; have n0_ : Aside0 (Kd.R Kd.string 9 wr w.heap.size (fun k_ => some k_ ≠ (.slice Ao52 y163.length co52 : Value).ownBlock) (.slice Ao51 y154.length co51) y154) := ⟨by rw [← hq_]; exact (rq HO_3)⟩; have n1_ : Aside0 (Kd.R Kd.string 9 wr w.heap.size (fun k_ => some k_ ≠ (.slice Ao51 y154.length co51 : Value).ownBlock) (.slice Ao52 y163.length co52) y163) := ⟨by rw [← hq_]; exact (rq HO_4)⟩; have n2_ : Aside0 (Kd.R k33 33 wr w.heap.size (fun _ => True) u5 x5_1) := ⟨by rw [← hq_]; exact (rq HO_5)⟩; have n3_ : Aside0 (Below w.heap.size w wr) := ⟨by rw [← hq_]; exact (hq HB)⟩; clear HO_3 HO_4 HO_5 HB hq_; have HO_3 := n0_; have HO_4 := n1_; have HO_5 := n2_; have HB := n3_; clear n0_ n1_ n2_ n3_))
             have n0_ := Aside0.mk (Kd.R_drew HO_3.out)
             have n1_ := Aside0.mk (Kd.R_drew HO_4.out)
             have n2_ := Aside0.mk (Kd.R_drew HO_5.out)
             have n3_ := Aside0.mk (below_drew1 HB.out)
             clear HO_3
             clear HO_4
             clear HO_5
             clear HB
             have HO_3 := n0_
             have HO_4 := n1_
             have HO_5 := n2_
             have HB := n3_
             clear n0_ n1_ n2_ n3_
             have p180 : 0 ≤ (t167 : Int) := of_decide_eq_true (by first | (with_reducible assumption) | assumption)
             have q180 : t167 < (y154.length : Int) := of_decide_eq_true (by first | (with_reducible assumption) | assumption)
             try (obtain ⟨Az180_, cz180_, ez180_⟩ := Kd.R_slice HO_3.out; subst ez180_)
             obtain ⟨ad180, e180, hx180_0⟩ := Kd.at_string (Kd.R_reads' HO_3.out).2.2 t167 p180 q180
             cases e180
             replace p180 := eq_true p180
             replace q180 := eq_true q180
             have p181 : 0 ≤ ((ji47) : Int) := of_decide_eq_true (by first | (with_reducible assumption) | assumption)
             have q181 : (ji47) < (y163.length : Int) := of_decide_eq_true (by first | (with_reducible assumption) | assumption)
             try (obtain ⟨Az181_, cz181_, ez181_⟩ := Kd.R_slice HO_4.out; subst ez181_)
             obtain ⟨ad181, e181, hx181_0⟩ := Kd.at_string (Kd.R_reads' HO_4.out).2.2 (ji47) p181 q181
             cases e181
             replace p181 := eq_true p181
             replace q181 := eq_true q181
             refine start_ (n := 13) (S := fun w' => w'.cell? (ad180.add (t167).toNat) = some (.string (rdOf ByteArray.empty y154 t167)) ∧ w'.cell? (ad181.add ((ji47)).toNat) = some (.string (rdOf ByteArray.empty y163 (ji47)))) (ds := [10, 11]) #[false, false, false, false, false, false, false, false, false, false, false, false, false] (by kernel_rfl) rfl rfl ⟨hx180_0, hx181_0⟩ (fun hHeld => ?_); refine with_tabW intervalmonref05_Dirty.tab13 intervalmonref05_Dirty.bits13 (fun HT_ HW_ => ?_)
             generalize wr.drew = w53 at HO_3 HO_4 HO_5 HB hx180_0 hx181_0 hHeld ⊢
             refine pure_ (i := 0) (N := some 49) (v := ?_) (a' := ?_) #[true, false, false, false, false, false, false, false, false, false, false, false, false] rfl rfl (any_of HT_.out (by kernel_rfl)) (fun _ _ _ h => h) (Or.inl ⟨by rfl, ?_⟩) ?_ ?_
             rotate_left
             ·intro w'
              go_simp
              with_reducible rfl
             rotate_left
             ·simp only [Act.put, List.setIfInBounds_toArray, List.set_cons_zero, List.set_cons_succ, i64_w, i32_w]
              rfl
             refine pure_ (i := 1) (N := some 50) (v := ?_) (a' := ?_) #[true, true, false, false, false, false, false, false, false, false, false, false, false] rfl rfl (any_of HT_.out (by kernel_rfl)) (fun _ _ _ h => h) (Or.inl ⟨by rfl, ?_⟩) ?_ ?_
             rotate_left
             ·intro w'
              go_simp
              with_reducible rfl
             rotate_left
             ·simp only [Act.put, List.setIfInBounds_toArray, List.set_cons_zero, List.set_cons_succ, i64_w, i32_w]
              rfl
             refine pure_ (i := 2) (N := some 51) (v := ?_) (a' := ?_) #[true, true, true, false, false, false, false, false, false, false, false, false, false] rfl rfl (any_of HT_.out (by kernel_rfl)) (fun _ _ _ h => h) (Or.inl ⟨by rfl, ?_⟩) ?_ ?_
             rotate_left
             ·intro w'
              go_simp
              with_reducible rfl
             rotate_left
             ·simp only [Act.put, List.setIfInBounds_toArray, List.set_cons_zero, List.set_cons_succ, i64_w, i32_w]
              rfl
             refine pure_ (i := 3) (N := some 52) (v := ?_) (a' := ?_) #[true, true, true, true, false, false, false, false, false, false, false, false, false] rfl rfl (any_of HT_.out (by kernel_rfl)) (fun _ _ _ h => h) (Or.inl ⟨by rfl, ?_⟩) ?_ ?_
             rotate_left
             ·intro w'
              go_simp
              with_reducible rfl
             rotate_left
             ·simp only [Act.put, List.setIfInBounds_toArray, List.set_cons_zero, List.set_cons_succ, i64_w, i32_w]
              rfl
             refine pure_ (i := 5) (N := some 54) (v := ?_) (a' := ?_) #[true, true, true, true, false, true, false, false, false, false, false, false, false] rfl rfl (any_of HT_.out (by kernel_rfl)) (fun _ _ _ h => h) (Or.inl ⟨by rfl, ?_⟩) ?_ ?_
             rotate_left
             ·intro w'
              go_simp
              with_reducible rfl
             rotate_left
             ·simp only [Act.put, List.setIfInBounds_toArray, List.set_cons_zero, List.set_cons_succ, i64_w, i32_w]
              rfl
             refine pure_ (i := 6) (N := some 55) (v := ?_) (a' := ?_) #[true, true, true, true, false, true, true, false, false, false, false, false, false] rfl rfl (any_of HT_.out (by kernel_rfl)) (fun _ _ _ h => h) (Or.inl ⟨by rfl, ?_⟩) ?_ ?_
             rotate_left
             ·intro w'
              go_simp
              with_reducible rfl
             rotate_left
             ·simp only [Act.put, List.setIfInBounds_toArray, List.set_cons_zero, List.set_cons_succ, i64_w, i32_w]
              rfl
             refine pure_ (i := 7) (N := some 56) (v := ?_) (a' := ?_) #[true, true, true, true, false, true, true, true, false, false, false, false, false] rfl rfl (any_of HT_.out (by kernel_rfl)) (fun _ _ _ h => h) (Or.inl ⟨by rfl, ?_⟩) ?_ ?_
             rotate_left
             ·intro w'
              go_simp
              with_reducible rfl
             rotate_left
             ·simp only [Act.put, List.setIfInBounds_toArray, List.set_cons_zero, List.set_cons_succ, i64_w, i32_w]
              rfl
             refine take_ (i := 4) (N := some 53) (v := ?_) (a' := ?_) #[true, true, true, true, true, true, true, true, false, false, false, false, false] rfl rfl (take_ofW HT_.out HW_.out (by kernel_rfl)) (fun _ _ _ h => h) (Or.inl ⟨by rfl, ?_⟩) hHeld ?_ ?_
             rotate_left
             ·rintro w' ⟨s0, s1⟩
              go_simp
              with_reducible rfl
             rotate_left
             ·simp only [Act.put, List.setIfInBounds_toArray, List.set_cons_zero, List.set_cons_succ, i64_w, i32_w]
              rfl
             refine take_ (i := 8) (N := some 57) (v := ?_) (a' := ?_) #[true, true, true, true, true, true, true, true, true, false, false, false, false] rfl rfl (take_ofW HT_.out HW_.out (by kernel_rfl)) (fun _ _ _ h => h) (Or.inl ⟨by rfl, ?_⟩) hHeld ?_ ?_
             rotate_left
             ·rintro w' ⟨s0, s1⟩
              go_simp
              with_reducible rfl
             rotate_left
             ·simp only [Act.put, List.setIfInBounds_toArray, List.set_cons_zero, List.set_cons_succ, i64_w, i32_w]
              rfl
             refine pure_ (i := 9) (N := some 58) (v := ?_) (a' := ?_) #[true, true, true, true, true, true, true, true, true, true, false, false, false] rfl rfl (any_of HT_.out (by kernel_rfl)) (fun _ _ _ h => h) (Or.inl ⟨by rfl, ?_⟩) ?_ ?_
             rotate_left
             ·intro w'
              go_simp
              with_reducible rfl
             rotate_left
             ·simp only [Act.put, List.setIfInBounds_toArray, List.set_cons_zero, List.set_cons_succ, i64_w, i32_w]
              rfl
             refine last_ (i := 10) (N := some 59) #[true, true, true, true, true, true, true, true, true, true, true, false, false] rfl rfl (one_of HT_.out (by kernel_rfl)) (by decide) (fun K hK => ?_)
             refine value_ (w1 := ?_) (v := ?_) (by rfl) rfl ?_ ?_
             rotate_left 2
             ·go_simp
              constructor
              ·rfl
              ·rfl
             refine hK.out _ _ ?_
             clear hK K
             refine norm_ (a' := ?_) ?_ ?_
             rotate_left
             ·show Act.put _ (some 59) _ = _
              simp only [Act.put, List.setIfInBounds_toArray, List.set_cons_zero, List.set_cons_succ, i64_w, i32_w]
              rfl
             refine last_ (i := 11) (N := some 60) #[true, true, true, true, true, true, true, true, true, true, true, true, false] rfl rfl (one_of HT_.out (by kernel_rfl)) (by decide) (fun K hK => ?_)
             refine Kd.R_append_step k33 (w0 := w) w.heap.size (by rfl) (.tmp 49) (.tmp 59) 30 33 (.agg #[(.string ⟨#[]⟩), (.string ⟨#[]⟩)]) 32 rfl Try.underlying30 info33 rfl (by decide) (by omega) u5 x5_1 (⟨rdOf ByteArray.empty y154 t167, rdOf ByteArray.empty y163 (ji47)⟩ : S33) [.string (rdOf ByteArray.empty y154 t167), .string (rdOf ByteArray.empty y163 (ji47))] (fun _ => True) (fun _ => False) rfl rfl ?aP (fun _ hk => hk.elim) ?aF ?aO ?aB ?aS ?aL ?_
             (case aP => exact k33_mkM _ _ _ (⟨rdOf ByteArray.empty y154 t167, rdOf ByteArray.empty y163 (ji47)⟩ : S33))
             (case aB => exact (hq HB))
             (case aF => exact (fun _ _ => trivial))
             (case aO => exact (rq HO_5))
             (case aS => exact (below_size (hq HB)))
             (case aL => have := LMc50.out; omega)
             intro v183 w54 ho hb hg hat
             rw [← Ny182.out] at ho
             have n0_ := Aside0.mk (Kd.R_over' (rq HO_3) (Kd.R_typed (rq HO_5)) (by decide) hg)
             have n1_ := Aside0.mk (Kd.R_over' (rq HO_4) (Kd.R_typed (rq HO_5)) (by decide) hg)
             have n2_ := Aside0.mk (hb)
             have n3_ := Aside0.mk (ho)
             clear HO_3
             clear HO_4
             clear HB
             clear HO_5
             have HO_3 := n0_
             have HO_4 := n1_
             have HB := n2_
             have HO184 := n3_
             clear n0_ n1_ n2_ n3_
             clear ho hb hg hat
             refine hK.out _ _ ?_
             clear hK K
             refine norm_ (a' := ?_) ?_ ?_
             rotate_left
             ·show Act.put _ (some 60) _ = _
              simp only [Act.put, List.setIfInBounds_toArray, List.set_cons_zero, List.set_cons_succ, i64_w, i32_w]
              rfl
             refine pure_ (i := 12) (N := some 5) (v := ?_) (a' := ?_) #[true, true, true, true, true, true, true, true, true, true, true, true, true] rfl rfl (any_of HT_.out (by kernel_rfl)) (fun _ _ _ h => h) (Or.inl ⟨by rfl, ?_⟩) ?_ ?_
             rotate_left
             ·intro w'
              go_simp
              with_reducible rfl
             rotate_left
             ·simp only [Act.put, List.setIfInBounds_toArray, List.set_cons_zero, List.set_cons_succ, i64_w, i32_w]
              rfl
             refine done_ (done_of HT_.out (by kernel_rfl)) ?_
             try go_wp2
             go_roundg k1
             case measure => have := HK1.out; omega
             case rel => exact ⟨(y182), (wrap64 (x6_1 + 1)), (by first | rfl | (simp; done) | (simp [*]; done)), H', ⟨by have := HK1.out; omega⟩, ⟨by (with_reducible repeat (first | apply Kd.R_alloc | apply Kd.R_drewN | apply Kd.R_drew)); exact HO_3.out⟩, ⟨by (with_reducible repeat (first | apply Kd.R_alloc | apply Kd.R_drewN | apply Kd.R_drew)); exact HO_4.out⟩, ⟨by (with_reducible repeat (first | apply Kd.R_alloc | apply Kd.R_drewN | apply Kd.R_drew)); exact HO184.out⟩, ⟨by repeat (first | (with_reducible first | exact HB.out | apply below_alloc | apply pw_below_drewN | apply below_drew1) | exact HB.out)⟩⟩
            ·rw [if_neg c50] at H
             exact absurd H (by simp)
           ·rw [if_neg c49] at H
            exact absurd H (by simp)
          ·rw [if_neg c48] at H
           exact absurd H (by simp)
         ·rw [if_neg c46] at H
          exact absurd H (by simp)
        ·rw [if_neg c45] at H
         exact absurd H (by simp)
       ·rw [if_neg c44] at H
        have c44b0 : decide ((y163.length : Int) ≤ t179) = false := decide_eq_false c44
        clear c44
        by_cases c55 : 0 ≤ t167
        ·rw [if_pos c55] at H
         have c55b0 : decide (0 ≤ t167) = true := decide_eq_true c55
         clear c55
         by_cases c56 : t167 < (y154.length : Int)
         ·rw [if_pos c56] at H
          have c56b0 : decide (t167 < (y154.length : Int)) = true := decide_eq_true c56
          clear c56
          by_cases c57 : 0 ≤ t179
          ·rw [if_pos c57] at H
           have c57b0 : decide (0 ≤ t179) = true := decide_eq_true c57
           clear c57
           by_cases c58 : t179 < (y163.length : Int)
           ·rw [if_pos c58] at H
            have c58b0 : decide (t179 < (y163.length : Int)) = true := decide_eq_true c58
            clear c58
            by_cases c59 : x5_1.length < 4398046511104
            ·rw [if_pos c59] at H
             have LMc59 := Aside0.mk c59
             clear c59
             obtain ⟨y187, hy187⟩ : ∃ y_ : List (S33), y_ = (x5_1 ++ [(⟨rdOf ByteArray.empty y154 t167, rdOf ByteArray.empty y163 t179⟩ : S33)]) := ⟨_, rfl⟩
             replace H : (intervalmonref05_Dirty.l0 k1 l0 y154 y163 y187 (wrap64 (x6_1 + 1))) = some r := by first | (rw [hy187]; with_reducible exact H) | (have H2_ := (Option.bind_some _ _).symm.trans H; rw [hy187]; with_reducible exact H2_) | (have H2_ := (Option.bind_some _ _).symm.trans H; with_reducible exact H2_) | with_reducible exact H | (rw [hy187]; exact H) | exact H
             have Ny187 := Aside0.mk hy187
             clear hy187
             have H' := Aside0.mk H
             clear H
             try go_wp2_with (first | ((with_reducible refine gate_callee (f := 41) rfl ?_); refine goesL_ (some 17) rfl rfl Try.func41 (by kernel_rfl) rfl #[.slice A0 l0.length c0, .int .i64 0, .int .i64 11] rfl aq ?_; (with_reducible refine (intervalmonref01_Pick.calls _ _ l0 0 11 t166 _ ?side1 ?side2 A16.out).mono ?_); (case side1 => repeat (first | exact (Kd.C_below HR0.out HB.out) | (with_reducible refine Kd.C_alloc ?_ _) | (with_reducible refine Kd.C_drewN ?_ _) | (with_reducible refine Kd.C_drew ?_))); (case side2 => exact HC0.out); rintro e w' ⟨rfl, ⟨nd, rfl⟩⟩; refine ⟨_, rfl, ?_⟩; obtain ⟨Ao60, co60, eo60⟩ := Kd.R_slice HO_3.out; subst eo60) | ((with_reducible refine gate_callee (f := 41) rfl ?_); refine goesL_ (some 28) rfl rfl Try.func41 (by kernel_rfl) rfl #[.slice A0 l0.length c0, .int .i64 (wrap64 ((wrap64 (2 * x6_1)) + 1)), .int .i64 (wrap64 (4 * (y154.length : Int)))] rfl aq ?_; (with_reducible refine (intervalmonref01_Pick.calls _ _ l0 (wrap64 ((wrap64 (2 * x6_1)) + 1)) (wrap64 (4 * (y154.length : Int))) t167 _ ?side1 ?side2 A18.out).mono ?_); (case side1 => repeat (first | exact (Kd.C_below HR0.out (hq HB)) | (with_reducible refine Kd.C_alloc ?_ _) | (with_reducible refine Kd.C_drewN ?_ _) | (with_reducible refine Kd.C_drew ?_))); (case side2 => exact HC0.out); rintro e w' ⟨rfl, ⟨nd, rfl⟩⟩; refine ⟨_, rfl, ?_⟩; obtain ⟨Ao61, co61, eo61⟩ := Kd.R_slice HO_4.out; subst eo61) | ((with_reducible refine gate_callee (f := 41) rfl ?_); refine goesL_ (some 42) rfl rfl Try.func41 (by kernel_rfl) rfl #[.slice A0 l0.length c0, .int .i64 (wrap64 ((wrap64 (2 * x6_1)) + 2)), .int .i64 (wrap64 (4 * (y163.length : Int)))] rfl aq ?_; (with_reducible refine (intervalmonref01_Pick.calls _ _ l0 (wrap64 ((wrap64 (2 * x6_1)) + 2)) (wrap64 (4 * (y163.length : Int))) t179 _ ?side1 ?side2 A43.out).mono ?_); (case side1 => repeat (first | exact (Kd.C_below HR0.out (hq HB)) | (with_reducible refine Kd.C_alloc ?_ _) | (with_reducible refine Kd.C_drewN ?_ _) | (with_reducible refine Kd.C_drew ?_))); (case side2 => exact HC0.out); rintro e w' ⟨rfl, ⟨nd, rfl⟩⟩; refine ⟨_, rfl, ?_⟩))
             (try (rw [drewN_self wr]; generalize hq_ : World.drewN wr _ = wr; have n0_ : Aside0 (Kd.R Kd.string 9 wr w.heap.size (fun k_ => some k_ ≠ (.slice Ao61 y163.length co61 : Value).ownBlock) (.slice Ao60 y154.length co60) y154) := ⟨by rw [← hq_]; exact (rq HO_3)⟩; have n1_ : Aside0 (Kd.R Kd.string 9 wr w.heap.size (fun k_ => some k_ ≠ (.slice Ao60 y154.length co60 : Value).ownBlock) (.slice Ao61 y163.length co61) y163) := ⟨by rw [← hq_]; exact (rq HO_4)⟩; have n2_ : Aside0 (Kd.R k33 33 wr w.heap.size (fun _ => True) u5 x5_1) := ⟨by rw [← hq_]; exact (rq HO_5)⟩; have n3_ : Aside0 (Below w.heap.size w wr) := ⟨by rw [← hq_]; exact (hq HB)⟩; clear HO_3 HO_4 HO_5 HB hq_; have HO_3 := n0_; have HO_4 := n1_; have HO_5 := n2_; have HB := n3_; clear n0_ n1_ n2_ n3_))
             have n0_ := Aside0.mk (Kd.R_drew HO_3.out)
             have n1_ := Aside0.mk (Kd.R_drew HO_4.out)
             have n2_ := Aside0.mk (Kd.R_drew HO_5.out)
             have n3_ := Aside0.mk (below_drew1 HB.out)
             clear HO_3
             clear HO_4
             clear HO_5
             clear HB
             have HO_3 := n0_
             have HO_4 := n1_
             have HO_5 := n2_
             have HB := n3_
             clear n0_ n1_ n2_ n3_
             have p185 : 0 ≤ (t167 : Int) := of_decide_eq_true (by first | (with_reducible assumption) | assumption)
             have q185 : t167 < (y154.length : Int) := of_decide_eq_true (by first | (with_reducible assumption) | assumption)
             try (obtain ⟨Az185_, cz185_, ez185_⟩ := Kd.R_slice HO_3.out; subst ez185_)
             obtain ⟨ad185, e185, hx185_0⟩ := Kd.at_string (Kd.R_reads' HO_3.out).2.2 t167 p185 q185
             cases e185
             replace p185 := eq_true p185
             replace q185 := eq_true q185
             have p186 : 0 ≤ (t179 : Int) := of_decide_eq_true (by first | (with_reducible assumption) | assumption)
             have q186 : t179 < (y163.length : Int) := of_decide_eq_true (by first | (with_reducible assumption) | assumption)
             try (obtain ⟨Az186_, cz186_, ez186_⟩ := Kd.R_slice HO_4.out; subst ez186_)
             obtain ⟨ad186, e186, hx186_0⟩ := Kd.at_string (Kd.R_reads' HO_4.out).2.2 t179 p186 q186
             cases e186
             replace p186 := eq_true p186
             replace q186 := eq_true q186
             refine start_ (n := 13) (S := fun w' => w'.cell? (ad185.add (t167).toNat) = some (.string (rdOf ByteArray.empty y154 t167)) ∧ w'.cell? (ad186.add (t179).toNat) = some (.string (rdOf ByteArray.empty y163 t179))) (ds := [10, 11]) #[false, false, false, false, false, false, false, false, false, false, false, false, false] (by kernel_rfl) rfl rfl ⟨hx185_0, hx186_0⟩ (fun hHeld => ?_); refine with_tabW intervalmonref05_Dirty.tab13 intervalmonref05_Dirty.bits13 (fun HT_ HW_ => ?_)
             generalize wr.drew = w62 at HO_3 HO_4 HO_5 HB hx185_0 hx186_0 hHeld ⊢
             refine pure_ (i := 0) (N := some 49) (v := ?_) (a' := ?_) #[true, false, false, false, false, false, false, false, false, false, false, false, false] rfl rfl (any_of HT_.out (by kernel_rfl)) (fun _ _ _ h => h) (Or.inl ⟨by rfl, ?_⟩) ?_ ?_
             rotate_left
             ·intro w'
              go_simp
              with_reducible rfl
             rotate_left
             ·simp only [Act.put, List.setIfInBounds_toArray, List.set_cons_zero, List.set_cons_succ, i64_w, i32_w]
              rfl
             refine pure_ (i := 1) (N := some 50) (v := ?_) (a' := ?_) #[true, true, false, false, false, false, false, false, false, false, false, false, false] rfl rfl (any_of HT_.out (by kernel_rfl)) (fun _ _ _ h => h) (Or.inl ⟨by rfl, ?_⟩) ?_ ?_
             rotate_left
             ·intro w'
              go_simp
              with_reducible rfl
             rotate_left
             ·simp only [Act.put, List.setIfInBounds_toArray, List.set_cons_zero, List.set_cons_succ, i64_w, i32_w]
              rfl
             refine pure_ (i := 2) (N := some 51) (v := ?_) (a' := ?_) #[true, true, true, false, false, false, false, false, false, false, false, false, false] rfl rfl (any_of HT_.out (by kernel_rfl)) (fun _ _ _ h => h) (Or.inl ⟨by rfl, ?_⟩) ?_ ?_
             rotate_left
             ·intro w'
              go_simp
              with_reducible rfl
             rotate_left
             ·simp only [Act.put, List.setIfInBounds_toArray, List.set_cons_zero, List.set_cons_succ, i64_w, i32_w]
              rfl
             refine pure_ (i := 3) (N := some 52) (v := ?_) (a' := ?_) #[true, true, true, true, false, false, false, false, false, false, false, false, false] rfl rfl (any_of HT_.out (by kernel_rfl)) (fun _ _ _ h => h) (Or.inl ⟨by rfl, ?_⟩) ?_ ?_
             rotate_left
             ·intro w'
              go_simp
              with_reducible rfl
             rotate_left
             ·simp only [Act.put, List.setIfInBounds_toArray, List.set_cons_zero, List.set_cons_succ, i64_w, i32_w]
              rfl
             refine pure_ (i := 5) (N := some 54) (v := ?_) (a' := ?_) #[true, true, true, true, false, true, false, false, false, false, false, false, false] rfl rfl (any_of HT_.out (by kernel_rfl)) (fun _ _ _ h => h) (Or.inl ⟨by rfl, ?_⟩) ?_ ?_
             rotate_left
             ·intro w'
              go_simp
              with_reducible rfl
             rotate_left
             ·simp only [Act.put, List.setIfInBounds_toArray, List.set_cons_zero, List.set_cons_succ, i64_w, i32_w]
              rfl
             refine pure_ (i := 6) (N := some 55) (v := ?_) (a' := ?_) #[true, true, true, true, false, true, true, false, false, false, false, false, false] rfl rfl (any_of HT_.out (by kernel_rfl)) (fun _ _ _ h => h) (Or.inl ⟨by rfl, ?_⟩) ?_ ?_
             rotate_left
             ·intro w'
              go_simp
              with_reducible rfl
             rotate_left
             ·simp only [Act.put, List.setIfInBounds_toArray, List.set_cons_zero, List.set_cons_succ, i64_w, i32_w]
              rfl
             refine pure_ (i := 7) (N := some 56) (v := ?_) (a' := ?_) #[true, true, true, true, false, true, true, true, false, false, false, false, false] rfl rfl (any_of HT_.out (by kernel_rfl)) (fun _ _ _ h => h) (Or.inl ⟨by rfl, ?_⟩) ?_ ?_
             rotate_left
             ·intro w'
              go_simp
              with_reducible rfl
             rotate_left
             ·simp only [Act.put, List.setIfInBounds_toArray, List.set_cons_zero, List.set_cons_succ, i64_w, i32_w]
              rfl
             refine take_ (i := 4) (N := some 53) (v := ?_) (a' := ?_) #[true, true, true, true, true, true, true, true, false, false, false, false, false] rfl rfl (take_ofW HT_.out HW_.out (by kernel_rfl)) (fun _ _ _ h => h) (Or.inl ⟨by rfl, ?_⟩) hHeld ?_ ?_
             rotate_left
             ·rintro w' ⟨s0, s1⟩
              go_simp
              with_reducible rfl
             rotate_left
             ·simp only [Act.put, List.setIfInBounds_toArray, List.set_cons_zero, List.set_cons_succ, i64_w, i32_w]
              rfl
             refine take_ (i := 8) (N := some 57) (v := ?_) (a' := ?_) #[true, true, true, true, true, true, true, true, true, false, false, false, false] rfl rfl (take_ofW HT_.out HW_.out (by kernel_rfl)) (fun _ _ _ h => h) (Or.inl ⟨by rfl, ?_⟩) hHeld ?_ ?_
             rotate_left
             ·rintro w' ⟨s0, s1⟩
              go_simp
              with_reducible rfl
             rotate_left
             ·simp only [Act.put, List.setIfInBounds_toArray, List.set_cons_zero, List.set_cons_succ, i64_w, i32_w]
              rfl
             refine pure_ (i := 9) (N := some 58) (v := ?_) (a' := ?_) #[true, true, true, true, true, true, true, true, true, true, false, false, false] rfl rfl (any_of HT_.out (by kernel_rfl)) (fun _ _ _ h => h) (Or.inl ⟨by rfl, ?_⟩) ?_ ?_
             rotate_left
             ·intro w'
              go_simp
              with_reducible rfl
             rotate_left
             ·simp only [Act.put, List.setIfInBounds_toArray, List.set_cons_zero, List.set_cons_succ, i64_w, i32_w]
              rfl
             refine last_ (i := 10) (N := some 59) #[true, true, true, true, true, true, true, true, true, true, true, false, false] rfl rfl (one_of HT_.out (by kernel_rfl)) (by decide) (fun K hK => ?_)
             refine value_ (w1 := ?_) (v := ?_) (by rfl) rfl ?_ ?_
             rotate_left 2
             ·go_simp
              constructor
              ·rfl
              ·rfl
             refine hK.out _ _ ?_
             clear hK K
             refine norm_ (a' := ?_) ?_ ?_
             rotate_left
             ·show Act.put _ (some 59) _ = _
              simp only [Act.put, List.setIfInBounds_toArray, List.set_cons_zero, List.set_cons_succ, i64_w, i32_w]
              rfl
             refine last_ (i := 11) (N := some 60) #[true, true, true, true, true, true, true, true, true, true, true, true, false] rfl rfl (one_of HT_.out (by kernel_rfl)) (by decide) (fun K hK => ?_)
             refine Kd.R_append_step k33 (w0 := w) w.heap.size (by rfl) (.tmp 49) (.tmp 59) 30 33 (.agg #[(.string ⟨#[]⟩), (.string ⟨#[]⟩)]) 32 rfl Try.underlying30 info33 rfl (by decide) (by omega) u5 x5_1 (⟨rdOf ByteArray.empty y154 t167, rdOf ByteArray.empty y163 t179⟩ : S33) [.string (rdOf ByteArray.empty y154 t167), .string (rdOf ByteArray.empty y163 t179)] (fun _ => True) (fun _ => False) rfl rfl ?aP (fun _ hk => hk.elim) ?aF ?aO ?aB ?aS ?aL ?_
             (case aP => exact k33_mkM _ _ _ (⟨rdOf ByteArray.empty y154 t167, rdOf ByteArray.empty y163 t179⟩ : S33))
             (case aB => exact (hq HB))
             (case aF => exact (fun _ _ => trivial))
             (case aO => exact (rq HO_5))
             (case aS => exact (below_size (hq HB)))
             (case aL => have := LMc59.out; omega)
             intro v188 w63 ho hb hg hat
             rw [← Ny187.out] at ho
             have n0_ := Aside0.mk (Kd.R_over' (rq HO_3) (Kd.R_typed (rq HO_5)) (by decide) hg)
             have n1_ := Aside0.mk (Kd.R_over' (rq HO_4) (Kd.R_typed (rq HO_5)) (by decide) hg)
             have n2_ := Aside0.mk (hb)
             have n3_ := Aside0.mk (ho)
             clear HO_3
             clear HO_4
             clear HB
             clear HO_5
             have HO_3 := n0_
             have HO_4 := n1_
             have HB := n2_
             have HO189 := n3_
             clear n0_ n1_ n2_ n3_
             clear ho hb hg hat
             refine hK.out _ _ ?_
             clear hK K
             refine norm_ (a' := ?_) ?_ ?_
             rotate_left
             ·show Act.put _ (some 60) _ = _
              simp only [Act.put, List.setIfInBounds_toArray, List.set_cons_zero, List.set_cons_succ, i64_w, i32_w]
              rfl
             refine pure_ (i := 12) (N := some 5) (v := ?_) (a' := ?_) #[true, true, true, true, true, true, true, true, true, true, true, true, true] rfl rfl (any_of HT_.out (by kernel_rfl)) (fun _ _ _ h => h) (Or.inl ⟨by rfl, ?_⟩) ?_ ?_
             rotate_left
             ·intro w'
              go_simp
              with_reducible rfl
             rotate_left
             ·simp only [Act.put, List.setIfInBounds_toArray, List.set_cons_zero, List.set_cons_succ, i64_w, i32_w]
              rfl
             refine done_ (done_of HT_.out (by kernel_rfl)) ?_
             try go_wp2
             go_roundg k1
             case measure => have := HK1.out; omega
             case rel => exact ⟨(y187), (wrap64 (x6_1 + 1)), (by first | rfl | (simp; done) | (simp [*]; done)), H', ⟨by have := HK1.out; omega⟩, ⟨by (with_reducible repeat (first | apply Kd.R_alloc | apply Kd.R_drewN | apply Kd.R_drew)); exact HO_3.out⟩, ⟨by (with_reducible repeat (first | apply Kd.R_alloc | apply Kd.R_drewN | apply Kd.R_drew)); exact HO_4.out⟩, ⟨by (with_reducible repeat (first | apply Kd.R_alloc | apply Kd.R_drewN | apply Kd.R_drew)); exact HO189.out⟩, ⟨by repeat (first | (with_reducible first | exact HB.out | apply below_alloc | apply pw_below_drewN | apply below_drew1) | exact HB.out)⟩⟩
            ·rw [if_neg c59] at H
             exact absurd H (by simp)
           ·rw [if_neg c58] at H
            exact absurd H (by simp)
          ·rw [if_neg c57] at H
           exact absurd H (by simp)
         ·rw [if_neg c56] at H
          exact absurd H (by simp)
        ·rw [if_neg c55] at H
         exact absurd H (by simp)
     ·rw [if_neg c17] at H
      have c17b0 : decide (x6_1 < t166) = false := decide_eq_false c17
      clear c17
      obtain rfl := Option.some.inj H
      go_wp2_with (first | ((with_reducible refine gate_callee (f := 41) rfl ?_); refine goesL_ (some 17) rfl rfl Try.func41 (by kernel_rfl) rfl #[.slice A0 l0.length c0, .int .i64 0, .int .i64 11] rfl aq ?_; (with_reducible refine (intervalmonref01_Pick.calls _ _ l0 0 11 t166 _ ?side1 ?side2 A16.out).mono ?_); (case side1 => repeat (first | exact (Kd.C_below HR0.out HB.out) | (with_reducible refine Kd.C_alloc ?_ _) | (with_reducible refine Kd.C_drewN ?_ _) | (with_reducible refine Kd.C_drew ?_))); (case side2 => exact HC0.out); rintro e w' ⟨rfl, ⟨nd, rfl⟩⟩; refine ⟨_, rfl, ?_⟩))
      go_ret
      exact ⟨_, by first | rfl | (simp [errW_none, errW_some] <;> rfl) | (simp [*, errW_none, errW_some] <;> rfl), by (with_reducible repeat (first | apply Kd.R_alloc | apply Kd.R_drewN | apply Kd.R_drew)); exact HO_5.out, by repeat (first | (with_reducible first | exact HB.out | apply below_alloc | apply pw_below_drewN | apply below_drew1) | exact HB.out)⟩
  ·rw [if_neg c5] at H
   exact absurd H (by simp)
 ·rw [if_neg c3] at H
  exact absurd H (by simp)

end Go.Proofs.Ytlohkfmobeapdaa.P
