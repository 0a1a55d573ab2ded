-- Written by this session's own copy of a printing program (wip/tools); Lean checks it.
import Derived.Test.YtcamljlhdejmmaaPx0
import Derived.Test.YtcamljlhdejmmaaPx2
import Derived.Test.YtcamljlhdejmmaaPx19
namespace Go.Proofs.Ytcamljlhdejmmaa.P
open Go.RowKit Go.Proofs.YtcamljlhdejmmaaW.PrintWords Go.Proofs.YtcamljlhdejmmaaW.PrintLast Go.Proofs.YtcamljlhdejmmaaW.PrintMore
attribute [local go_sem] max2_int min2_int max_two min_two max_three min_three max_four min_four   -- for this text's walks alone
set_option linter.unusedVariables false
set_option linter.unusedSimpArgs false

/-! ### intervalmonref29_Rota: function 24 -/
mutual
def intervalmonref29_Rota.l0 : Nat → List Int → Bool → Int → List ByteArray → List (S50) → Int → Option (Int × (List (S50)))
 | 0, _, _, _, _, _, _ => none
 | k + 1, x0, x1, x6, x7, x8, x9 => (intervalmonref01_Pick.f x0 1 6).bind fun t447 => (if x9 < (wrap64 (1 + t447)) then ((intervalmonref01_Pick.f x0 (wrap64 (x9 + 2)) 100000).bind fun t452 => (if x6 = 0 then (none) else (if 0 ≤ (Int.tmod t452 4) then (if (Int.tmod t452 4) < (x7.length : Int) then (if (wrap64 (x6 - (Int.tmod (wrap64 (Int.tdiv t452 4)) x6))) = 0 then (none) else (if x9 = 0 then (intervalmonref29_Rota.j1 k x0 x1 x6 x7 x8 x9 t452 (rdOf ByteArray.empty x7 (Int.tmod t452 4)) 0 (wrap64 ((wrap64 ((Int.tmod (wrap64 (Int.tdiv t452 4)) x6) + 1)) + (Int.tmod (wrap64 (Int.tdiv t452 64)) (wrap64 (x6 - (Int.tmod (wrap64 (Int.tdiv t452 4)) x6))))))) else (intervalmonref29_Rota.j1 k x0 x1 x6 x7 x8 x9 t452 (rdOf ByteArray.empty x7 (Int.tmod t452 4)) (Int.tmod (wrap64 (Int.tdiv t452 4)) x6) (wrap64 ((wrap64 ((Int.tmod (wrap64 (Int.tdiv t452 4)) x6) + 1)) + (Int.tmod (wrap64 (Int.tdiv t452 64)) (wrap64 (x6 - (Int.tmod (wrap64 (Int.tdiv t452 4)) x6))))))))) else (none)) else (none)))) else (if x1 = true then (some (x6, x8)) else ((intervalmonref29_ValidRota.f k x6 x8).bind fun t448 => (if t448 = 0 then (some (x6, x8)) else (if x8.length < 4398046511104 then (some (x6, (x8 ++ [(⟨(⟨#[101, 118, 101]⟩ : ByteArray), 0, x6⟩ : S50)]))) else (none))))))
def intervalmonref29_Rota.j1 : Nat → List Int → Bool → Int → List ByteArray → List (S50) → Int → Int → ByteArray → Int → Int → Option (Int × (List (S50)))
 | 0, _, _, _, _, _, _, _, _, _, _ => none
 | k + 1, x0, x1, x6, x7, x8, x9, x10, x455000, x455001, x455002 => if x9 = 0 then (intervalmonref29_Rota.j2 k x0 x1 x6 x7 x8 x9 x10 (decide ((Int.tmod x10 3) > 0)) x455000 x455001 x455002) else (intervalmonref29_Rota.j2 k x0 x1 x6 x7 x8 x9 x10 false x455000 x455001 x455002)
def intervalmonref29_Rota.j2 : Nat → List Int → Bool → Int → List ByteArray → List (S50) → Int → Int → Bool → ByteArray → Int → Int → Option (Int × (List (S50)))
 | 0, _, _, _, _, _, _, _, _, _, _, _ => none
 | k + 1, x0, x1, x6, x7, x8, x9, x10, x57, x455000, x455001, x455002 => if x57 = true then (intervalmonref29_Rota.j3 k x0 x1 x6 x7 x8 x9 x10 x455000 x455001 x6) else (intervalmonref29_Rota.j3 k x0 x1 x6 x7 x8 x9 x10 x455000 x455001 x455002)
def intervalmonref29_Rota.j3 : Nat → List Int → Bool → Int → List ByteArray → List (S50) → Int → Int → ByteArray → Int → Int → Option (Int × (List (S50)))
 | 0, _, _, _, _, _, _, _, _, _, _ => none
 | k + 1, x0, x1, x6, x7, x8, x9, x10, x455000, x455001, x455002 => if x1 = true then (intervalmonref29_Rota.j4 k x0 x1 x6 x7 x8 x9 x10 ((Int.tmod (wrap64 (Int.tdiv x10 1000)) 8) == 0) x455000 x455001 x455002) else (intervalmonref29_Rota.j4 k x0 x1 x6 x7 x8 x9 x10 false x455000 x455001 x455002)
def intervalmonref29_Rota.j4 : Nat → List Int → Bool → Int → List ByteArray → List (S50) → Int → Int → Bool → ByteArray → Int → Int → Option (Int × (List (S50)))
 | 0, _, _, _, _, _, _, _, _, _, _, _ => none
 | k + 1, x0, x1, x6, x7, x8, x9, x10, x66, x455000, x455001, x455002 => if x66 = true then (intervalmonref29_Rota.j5 k x0 x1 x6 x7 x8 x9 x10 x455000 (wrap64 (x455001 - (Int.tmod (wrap64 (Int.tdiv x10 8000)) 3))) x455002) else (intervalmonref29_Rota.j5 k x0 x1 x6 x7 x8 x9 x10 x455000 x455001 x455002)
def intervalmonref29_Rota.j5 : Nat → List Int → Bool → Int → List ByteArray → List (S50) → Int → Int → ByteArray → Int → Int → Option (Int × (List (S50)))
 | 0, _, _, _, _, _, _, _, _, _, _ => none
 | k + 1, x0, x1, x6, x7, x8, x9, x10, x455000, x455001, x455002 => if x1 = true then (intervalmonref29_Rota.j6 k x0 x1 x6 x7 x8 x9 x10 ((Int.tmod (wrap64 (Int.tdiv x10 1000)) 8) == 1) x455000 x455001 x455002) else (intervalmonref29_Rota.j6 k x0 x1 x6 x7 x8 x9 x10 false x455000 x455001 x455002)
def intervalmonref29_Rota.j6 : Nat → List Int → Bool → Int → List ByteArray → List (S50) → Int → Int → Bool → ByteArray → Int → Int → Option (Int × (List (S50)))
 | 0, _, _, _, _, _, _, _, _, _, _, _ => none
 | k + 1, x0, x1, x6, x7, x8, x9, x10, x80, x455000, x455001, x455002 => if x80 = true then (if x1 = true then (if (Int.tmod (wrap64 (Int.tdiv x10 1000)) 16) = 2 then (if x8.length < 4398046511104 then (intervalmonref29_Rota.l0 k x0 x1 x6 x7 (x8 ++ [(⟨(⟨#[65]⟩ : ByteArray), x455001, wrap64 ((wrap64 (x455002 + (Int.tmod (wrap64 (Int.tdiv x10 8000)) 3))) - 1)⟩ : S50)]) (wrap64 (x9 + 1))) else (none)) else (if x8.length < 4398046511104 then (intervalmonref29_Rota.l0 k x0 x1 x6 x7 (x8 ++ [(⟨x455000, x455001, wrap64 ((wrap64 (x455002 + (Int.tmod (wrap64 (Int.tdiv x10 8000)) 3))) - 1)⟩ : S50)]) (wrap64 (x9 + 1))) else (none))) else (if x8.length < 4398046511104 then (intervalmonref29_Rota.l0 k x0 x1 x6 x7 (x8 ++ [(⟨x455000, x455001, wrap64 ((wrap64 (x455002 + (Int.tmod (wrap64 (Int.tdiv x10 8000)) 3))) - 1)⟩ : S50)]) (wrap64 (x9 + 1))) else (none))) else (if x1 = true then (if (Int.tmod (wrap64 (Int.tdiv x10 1000)) 16) = 2 then (if x8.length < 4398046511104 then (intervalmonref29_Rota.l0 k x0 x1 x6 x7 (x8 ++ [(⟨(⟨#[65]⟩ : ByteArray), x455001, x455002⟩ : S50)]) (wrap64 (x9 + 1))) else (none)) else (if x8.length < 4398046511104 then (intervalmonref29_Rota.l0 k x0 x1 x6 x7 (x8 ++ [(⟨x455000, x455001, x455002⟩ : S50)]) (wrap64 (x9 + 1))) else (none))) else (if x8.length < 4398046511104 then (intervalmonref29_Rota.l0 k x0 x1 x6 x7 (x8 ++ [(⟨x455000, x455001, x455002⟩ : S50)]) (wrap64 (x9 + 1))) else (none)))
end
def intervalmonref29_Rota.f (k : Nat) (l0 : List Int) (a1 : Bool) : Option (Int × (List (S50))) := (intervalmonref01_Pick.f l0 0 12).bind fun t443 => (intervalmonref29_Rota.l0 k l0 a1 (wrap64 (1 + t443)) (([(⟨#[97, 110, 110]⟩ : ByteArray), (⟨#[98, 111, 98]⟩ : ByteArray), (⟨#[99, 121]⟩ : ByteArray), (⟨#[100, 97, 110]⟩ : ByteArray)] : List ByteArray)) ([] : List (S50)) 0)
theorem intervalmonref29_Rota.mono_l : ∀ k, (∀ y0 y1 y2 y3 y4 y5, LeO (intervalmonref29_Rota.l0 k y0 y1 y2 y3 y4 y5) (intervalmonref29_Rota.l0 (k + 1) y0 y1 y2 y3 y4 y5)) ∧ (∀ y0 y1 y2 y3 y4 y5 y6 y7 y8 y9, LeO (intervalmonref29_Rota.j1 k y0 y1 y2 y3 y4 y5 y6 y7 y8 y9) (intervalmonref29_Rota.j1 (k + 1) y0 y1 y2 y3 y4 y5 y6 y7 y8 y9)) ∧ (∀ y0 y1 y2 y3 y4 y5 y6 y7 y8 y9 y10, LeO (intervalmonref29_Rota.j2 k y0 y1 y2 y3 y4 y5 y6 y7 y8 y9 y10) (intervalmonref29_Rota.j2 (k + 1) y0 y1 y2 y3 y4 y5 y6 y7 y8 y9 y10)) ∧ (∀ y0 y1 y2 y3 y4 y5 y6 y7 y8 y9, LeO (intervalmonref29_Rota.j3 k y0 y1 y2 y3 y4 y5 y6 y7 y8 y9) (intervalmonref29_Rota.j3 (k + 1) y0 y1 y2 y3 y4 y5 y6 y7 y8 y9)) ∧ (∀ y0 y1 y2 y3 y4 y5 y6 y7 y8 y9 y10, LeO (intervalmonref29_Rota.j4 k y0 y1 y2 y3 y4 y5 y6 y7 y8 y9 y10) (intervalmonref29_Rota.j4 (k + 1) y0 y1 y2 y3 y4 y5 y6 y7 y8 y9 y10)) ∧ (∀ y0 y1 y2 y3 y4 y5 y6 y7 y8 y9, LeO (intervalmonref29_Rota.j5 k y0 y1 y2 y3 y4 y5 y6 y7 y8 y9) (intervalmonref29_Rota.j5 (k + 1) y0 y1 y2 y3 y4 y5 y6 y7 y8 y9)) ∧ (∀ y0 y1 y2 y3 y4 y5 y6 y7 y8 y9 y10, LeO (intervalmonref29_Rota.j6 k y0 y1 y2 y3 y4 y5 y6 y7 y8 y9 y10) (intervalmonref29_Rota.j6 (k + 1) y0 y1 y2 y3 y4 y5 y6 y7 y8 y9 y10))
 | 0 => ⟨fun _ _ _ _ _ _ r h => by simp [intervalmonref29_Rota.l0] at h, fun _ _ _ _ _ _ _ _ _ _ r h => by simp [intervalmonref29_Rota.j1] at h, fun _ _ _ _ _ _ _ _ _ _ _ r h => by simp [intervalmonref29_Rota.j2] at h, fun _ _ _ _ _ _ _ _ _ _ r h => by simp [intervalmonref29_Rota.j3] at h, fun _ _ _ _ _ _ _ _ _ _ _ r h => by simp [intervalmonref29_Rota.j4] at h, fun _ _ _ _ _ _ _ _ _ _ r h => by simp [intervalmonref29_Rota.j5] at h, fun _ _ _ _ _ _ _ _ _ _ _ r h => by simp [intervalmonref29_Rota.j6] at h⟩
 | k + 1 => by
  obtain ⟨ih0, ih1, ih2, ih3, ih4, ih5, ih6⟩ := intervalmonref29_Rota.mono_l k
  refine ⟨?_, ?_, ?_, ?_, ?_, ?_, ?_⟩
  ·intro y0 y1 y2 y3 y4 y5
   unfold intervalmonref29_Rota.l0
   repeat' first
   | (with_reducible exact ih0 _ _ _ _ _ _)
   | (with_reducible exact ih1 _ _ _ _ _ _ _ _ _ _)
   | (with_reducible exact ih2 _ _ _ _ _ _ _ _ _ _ _)
   | (with_reducible exact ih3 _ _ _ _ _ _ _ _ _ _)
   | (with_reducible exact ih4 _ _ _ _ _ _ _ _ _ _ _)
   | (with_reducible exact ih5 _ _ _ _ _ _ _ _ _ _)
   | (with_reducible exact ih6 _ _ _ _ _ _ _ _ _ _ _)
   | (with_reducible exact intervalmonref29_ValidRota.mono _ _ _)
   | (with_reducible exact LeO.refl _)
   | (with_reducible exact LeO.none _)
   | (with_reducible refine LeO.ite ?_ ?_)
   | (with_reducible refine LeO.bind ?_ (fun _ => ?_))
   | exact ih0 _ _ _ _ _ _
   | exact ih1 _ _ _ _ _ _ _ _ _ _
   | exact ih2 _ _ _ _ _ _ _ _ _ _ _
   | exact ih3 _ _ _ _ _ _ _ _ _ _
   | exact ih4 _ _ _ _ _ _ _ _ _ _ _
   | exact ih5 _ _ _ _ _ _ _ _ _ _
   | exact ih6 _ _ _ _ _ _ _ _ _ _ _
   | exact intervalmonref29_ValidRota.mono _ _ _
   | exact LeO.none _
   | refine LeO.ite ?_ ?_
   | refine LeO.bind ?_ (fun _ => ?_)
  ·intro y0 y1 y2 y3 y4 y5 y6 y7 y8 y9
   unfold intervalmonref29_Rota.j1
   repeat' first
   | (with_reducible exact ih0 _ _ _ _ _ _)
   | (with_reducible exact ih1 _ _ _ _ _ _ _ _ _ _)
   | (with_reducible exact ih2 _ _ _ _ _ _ _ _ _ _ _)
   | (with_reducible exact ih3 _ _ _ _ _ _ _ _ _ _)
   | (with_reducible exact ih4 _ _ _ _ _ _ _ _ _ _ _)
   | (with_reducible exact ih5 _ _ _ _ _ _ _ _ _ _)
   | (with_reducible exact ih6 _ _ _ _ _ _ _ _ _ _ _)
   | (with_reducible exact intervalmonref29_ValidRota.mono _ _ _)
   | (with_reducible exact LeO.refl _)
   | (with_reducible exact LeO.none _)
   | (with_reducible refine LeO.ite ?_ ?_)
   | (with_reducible refine LeO.bind ?_ (fun _ => ?_))
   | exact ih0 _ _ _ _ _ _
   | exact ih1 _ _ _ _ _ _ _ _ _ _
   | exact ih2 _ _ _ _ _ _ _ _ _ _ _
   | exact ih3 _ _ _ _ _ _ _ _ _ _
   | exact ih4 _ _ _ _ _ _ _ _ _ _ _
   | exact ih5 _ _ _ _ _ _ _ _ _ _
   | exact ih6 _ _ _ _ _ _ _ _ _ _ _
   | exact intervalmonref29_ValidRota.mono _ _ _
   | exact LeO.none _
   | refine LeO.ite ?_ ?_
   | refine LeO.bind ?_ (fun _ => ?_)
  ·intro y0 y1 y2 y3 y4 y5 y6 y7 y8 y9 y10
   unfold intervalmonref29_Rota.j2
   repeat' first
   | (with_reducible exact ih0 _ _ _ _ _ _)
   | (with_reducible exact ih1 _ _ _ _ _ _ _ _ _ _)
   | (with_reducible exact ih2 _ _ _ _ _ _ _ _ _ _ _)
   | (with_reducible exact ih3 _ _ _ _ _ _ _ _ _ _)
   | (with_reducible exact ih4 _ _ _ _ _ _ _ _ _ _ _)
   | (with_reducible exact ih5 _ _ _ _ _ _ _ _ _ _)
   | (with_reducible exact ih6 _ _ _ _ _ _ _ _ _ _ _)
   | (with_reducible exact intervalmonref29_ValidRota.mono _ _ _)
   | (with_reducible exact LeO.refl _)
   | (with_reducible exact LeO.none _)
   | (with_reducible refine LeO.ite ?_ ?_)
   | (with_reducible refine LeO.bind ?_ (fun _ => ?_))
   | exact ih0 _ _ _ _ _ _
   | exact ih1 _ _ _ _ _ _ _ _ _ _
   | exact ih2 _ _ _ _ _ _ _ _ _ _ _
   | exact ih3 _ _ _ _ _ _ _ _ _ _
   | exact ih4 _ _ _ _ _ _ _ _ _ _ _
   | exact ih5 _ _ _ _ _ _ _ _ _ _
   | exact ih6 _ _ _ _ _ _ _ _ _ _ _
   | exact intervalmonref29_ValidRota.mono _ _ _
   | exact LeO.none _
   | refine LeO.ite ?_ ?_
   | refine LeO.bind ?_ (fun _ => ?_)
  ·intro y0 y1 y2 y3 y4 y5 y6 y7 y8 y9
   unfold intervalmonref29_Rota.j3
   repeat' first
   | (with_reducible exact ih0 _ _ _ _ _ _)
   | (with_reducible exact ih1 _ _ _ _ _ _ _ _ _ _)
   | (with_reducible exact ih2 _ _ _ _ _ _ _ _ _ _ _)
   | (with_reducible exact ih3 _ _ _ _ _ _ _ _ _ _)
   | (with_reducible exact ih4 _ _ _ _ _ _ _ _ _ _ _)
   | (with_reducible exact ih5 _ _ _ _ _ _ _ _ _ _)
   | (with_reducible exact ih6 _ _ _ _ _ _ _ _ _ _ _)
   | (with_reducible exact intervalmonref29_ValidRota.mono _ _ _)
   | (with_reducible exact LeO.refl _)
   | (with_reducible exact LeO.none _)
   | (with_reducible refine LeO.ite ?_ ?_)
   | (with_reducible refine LeO.bind ?_ (fun _ => ?_))
   | exact ih0 _ _ _ _ _ _
   | exact ih1 _ _ _ _ _ _ _ _ _ _
   | exact ih2 _ _ _ _ _ _ _ _ _ _ _
   | exact ih3 _ _ _ _ _ _ _ _ _ _
   | exact ih4 _ _ _ _ _ _ _ _ _ _ _
   | exact ih5 _ _ _ _ _ _ _ _ _ _
   | exact ih6 _ _ _ _ _ _ _ _ _ _ _
   | exact intervalmonref29_ValidRota.mono _ _ _
   | exact LeO.none _
   | refine LeO.ite ?_ ?_
   | refine LeO.bind ?_ (fun _ => ?_)
  ·intro y0 y1 y2 y3 y4 y5 y6 y7 y8 y9 y10
   unfold intervalmonref29_Rota.j4
   repeat' first
   | (with_reducible exact ih0 _ _ _ _ _ _)
   | (with_reducible exact ih1 _ _ _ _ _ _ _ _ _ _)
   | (with_reducible exact ih2 _ _ _ _ _ _ _ _ _ _ _)
   | (with_reducible exact ih3 _ _ _ _ _ _ _ _ _ _)
   | (with_reducible exact ih4 _ _ _ _ _ _ _ _ _ _ _)
   | (with_reducible exact ih5 _ _ _ _ _ _ _ _ _ _)
   | (with_reducible exact ih6 _ _ _ _ _ _ _ _ _ _ _)
   | (with_reducible exact intervalmonref29_ValidRota.mono _ _ _)
   | (with_reducible exact LeO.refl _)
   | (with_reducible exact LeO.none _)
   | (with_reducible refine LeO.ite ?_ ?_)
   | (with_reducible refine LeO.bind ?_ (fun _ => ?_))
   | exact ih0 _ _ _ _ _ _
   | exact ih1 _ _ _ _ _ _ _ _ _ _
   | exact ih2 _ _ _ _ _ _ _ _ _ _ _
   | exact ih3 _ _ _ _ _ _ _ _ _ _
   | exact ih4 _ _ _ _ _ _ _ _ _ _ _
   | exact ih5 _ _ _ _ _ _ _ _ _ _
   | exact ih6 _ _ _ _ _ _ _ _ _ _ _
   | exact intervalmonref29_ValidRota.mono _ _ _
   | exact LeO.none _
   | refine LeO.ite ?_ ?_
   | refine LeO.bind ?_ (fun _ => ?_)
  ·intro y0 y1 y2 y3 y4 y5 y6 y7 y8 y9
   unfold intervalmonref29_Rota.j5
   repeat' first
   | (with_reducible exact ih0 _ _ _ _ _ _)
   | (with_reducible exact ih1 _ _ _ _ _ _ _ _ _ _)
   | (with_reducible exact ih2 _ _ _ _ _ _ _ _ _ _ _)
   | (with_reducible exact ih3 _ _ _ _ _ _ _ _ _ _)
   | (with_reducible exact ih4 _ _ _ _ _ _ _ _ _ _ _)
   | (with_reducible exact ih5 _ _ _ _ _ _ _ _ _ _)
   | (with_reducible exact ih6 _ _ _ _ _ _ _ _ _ _ _)
   | (with_reducible exact intervalmonref29_ValidRota.mono _ _ _)
   | (with_reducible exact LeO.refl _)
   | (with_reducible exact LeO.none _)
   | (with_reducible refine LeO.ite ?_ ?_)
   | (with_reducible refine LeO.bind ?_ (fun _ => ?_))
   | exact ih0 _ _ _ _ _ _
   | exact ih1 _ _ _ _ _ _ _ _ _ _
   | exact ih2 _ _ _ _ _ _ _ _ _ _ _
   | exact ih3 _ _ _ _ _ _ _ _ _ _
   | exact ih4 _ _ _ _ _ _ _ _ _ _ _
   | exact ih5 _ _ _ _ _ _ _ _ _ _
   | exact ih6 _ _ _ _ _ _ _ _ _ _ _
   | exact intervalmonref29_ValidRota.mono _ _ _
   | exact LeO.none _
   | refine LeO.ite ?_ ?_
   | refine LeO.bind ?_ (fun _ => ?_)
  ·intro y0 y1 y2 y3 y4 y5 y6 y7 y8 y9 y10
   unfold intervalmonref29_Rota.j6
   repeat' first
   | (with_reducible exact ih0 _ _ _ _ _ _)
   | (with_reducible exact ih1 _ _ _ _ _ _ _ _ _ _)
   | (with_reducible exact ih2 _ _ _ _ _ _ _ _ _ _ _)
   | (with_reducible exact ih3 _ _ _ _ _ _ _ _ _ _)
   | (with_reducible exact ih4 _ _ _ _ _ _ _ _ _ _ _)
   | (with_reducible exact ih5 _ _ _ _ _ _ _ _ _ _)
   | (with_reducible exact ih6 _ _ _ _ _ _ _ _ _ _ _)
   | (with_reducible exact intervalmonref29_ValidRota.mono _ _ _)
   | (with_reducible exact LeO.refl _)
   | (with_reducible exact LeO.none _)
   | (with_reducible refine LeO.ite ?_ ?_)
   | (with_reducible refine LeO.bind ?_ (fun _ => ?_))
   | exact ih0 _ _ _ _ _ _
   | exact ih1 _ _ _ _ _ _ _ _ _ _
   | exact ih2 _ _ _ _ _ _ _ _ _ _ _
   | exact ih3 _ _ _ _ _ _ _ _ _ _
   | exact ih4 _ _ _ _ _ _ _ _ _ _ _
   | exact ih5 _ _ _ _ _ _ _ _ _ _
   | exact ih6 _ _ _ _ _ _ _ _ _ _ _
   | exact intervalmonref29_ValidRota.mono _ _ _
   | exact LeO.none _
   | refine LeO.ite ?_ ?_
   | refine LeO.bind ?_ (fun _ => ?_)
theorem intervalmonref29_Rota.mono : ∀ a0 a1 k, LeO (intervalmonref29_Rota.f k a0 a1) (intervalmonref29_Rota.f (k + 1) a0 a1) := by
 intro a0 a1 k
 obtain ⟨ih0, ih1, ih2, ih3, ih4, ih5, ih6⟩ := intervalmonref29_Rota.mono_l k
 unfold intervalmonref29_Rota.f
 repeat' first
   | (with_reducible exact ih0 _ _ _ _ _ _)
   | (with_reducible exact ih1 _ _ _ _ _ _ _ _ _ _)
   | (with_reducible exact ih2 _ _ _ _ _ _ _ _ _ _ _)
   | (with_reducible exact ih3 _ _ _ _ _ _ _ _ _ _)
   | (with_reducible exact ih4 _ _ _ _ _ _ _ _ _ _ _)
   | (with_reducible exact ih5 _ _ _ _ _ _ _ _ _ _)
   | (with_reducible exact ih6 _ _ _ _ _ _ _ _ _ _ _)
   | (with_reducible exact intervalmonref29_ValidRota.mono _ _ _)
   | (with_reducible exact LeO.refl _)
   | (with_reducible exact LeO.none _)
   | (with_reducible refine LeO.ite ?_ ?_)
   | (with_reducible refine LeO.bind ?_ (fun _ => ?_))
   | exact ih0 _ _ _ _ _ _
   | exact ih1 _ _ _ _ _ _ _ _ _ _
   | exact ih2 _ _ _ _ _ _ _ _ _ _ _
   | exact ih3 _ _ _ _ _ _ _ _ _ _
   | exact ih4 _ _ _ _ _ _ _ _ _ _ _
   | exact ih5 _ _ _ _ _ _ _ _ _ _
   | exact ih6 _ _ _ _ _ _ _ _ _ _ _
   | exact intervalmonref29_ValidRota.mono _ _ _
   | exact LeO.none _
   | refine LeO.ite ?_ ?_
   | refine LeO.bind ?_ (fun _ => ?_)
def intervalmonref29_Rota.T9 : Bool × List (List Nat × List Nat) := (true, [([], []), ([], []), ([1], [1]), ([0, 2], [0, 2]), ([3], [3]), ([], []), ([], []), ([6], [6]), ([], []), ([8], [8]), ([], []), ([], []), ([10, 11], [10, 11]), ([9, 12], [9, 12]), ([7, 13], [7, 13]), ([4, 5, 14], [4, 5, 14]), ([], []), ([16, 15, 0, 1, 2, 3, 4, 5, 6, 7, 8, 9, 10, 11, 12, 13, 14, 15, 16], [15, 16])])
def intervalmonref29_Rota.B9 : List Nat := [0, 0, 2, 7, 15, 0, 0, 64, 0, 256, 0, 0, 3072, 7936, 16320, 32767, 0, 131071]
theorem intervalmonref29_Rota.tab9 : rtab .any (opsOf Try.f24 9) = intervalmonref29_Rota.T9 := by kernel_rfl
theorem intervalmonref29_Rota.bits9 : waitsOk intervalmonref29_Rota.T9.2 intervalmonref29_Rota.B9 = true := by kernel_rfl
set_option maxHeartbeats 8000000 in
set_option maxRecDepth 100000 in
theorem intervalmonref29_Rota.calls (k : Nat) (A0 : Option Addr) (c0 : Nat) (l0 : List Int) (a1 : Bool) (r1 : Int) (r2 : List (S50)) (w : World) (hr0 : Kd.C (Kd.int .i64) w A0 l0.length l0) (hc0 : l0.length ≤ c0) (h : intervalmonref29_Rota.f k l0 a1 = some (r1, r2)) :
  Calls Try.prog 24 #[.slice A0 l0.length c0, .bool a1] w fun e w' => ∃ v1_ : Value, e = .returned (.tuple #[.int .i64 r1, v1_]) ∧ Kd.R k50 50 w' w.heap.size (fun _ => True) v1_ r2 ∧ Below w.heap.size w w' := by
 have hu50 := Try.underlying50
 have HR0 := Aside0.mk hr0
 have HC0 := Aside0.mk hc0
 clear hr0 hc0
 have HB := Aside0.mk (Below.refl w.heap.size w)
 have H : ((intervalmonref01_Pick.f l0 0 12).bind fun t443 => (intervalmonref29_Rota.l0 k l0 a1 (wrap64 (1 + t443)) (([(⟨#[97, 110, 110]⟩ : ByteArray), (⟨#[98, 111, 98]⟩ : ByteArray), (⟨#[99, 121]⟩ : ByteArray), (⟨#[100, 97, 110]⟩ : ByteArray)] : List ByteArray)) ([] : List (S50)) 0)) = some (r1, r2) := h
 clear h
 replace H := Option.bind_eq_some_iff.mp H
 obtain ⟨t443, A30, H⟩ := H
 replace H : (intervalmonref29_Rota.l0 k l0 a1 (wrap64 (1 + t443)) (([(⟨#[97, 110, 110]⟩ : ByteArray), (⟨#[98, 111, 98]⟩ : ByteArray), (⟨#[99, 121]⟩ : ByteArray), (⟨#[100, 97, 110]⟩ : ByteArray)] : List ByteArray)) ([] : List (S50)) 0) = some (r1, r2) := H
 have A3 := Aside0.mk A30
 clear A30
 obtain ⟨y444, hy444⟩ : ∃ y_ : List ByteArray, y_ = (([(⟨#[97, 110, 110]⟩ : ByteArray), (⟨#[98, 111, 98]⟩ : ByteArray), (⟨#[99, 121]⟩ : ByteArray), (⟨#[100, 97, 110]⟩ : ByteArray)] : List ByteArray)) := ⟨_, rfl⟩
 replace H : (intervalmonref29_Rota.l0 k l0 a1 (wrap64 (1 + t443)) y444 ([] : List (S50)) 0) = some (r1, r2) := by first | (rw [hy444]; with_reducible exact H) | (have H2_ := (Option.bind_some _ _).symm.trans H; rw [hy444]; with_reducible exact H2_) | (have H2_ := (Option.bind_some _ _).symm.trans H; with_reducible exact H2_) | with_reducible exact H | (rw [hy444]; exact H) | exact H
 have Ny444 := Aside0.mk hy444
 clear hy444
 have H' := Aside0.mk H
 clear H
 go_enter Try.func24, Try.ntmps24
 go_wp2_with (first | ((with_reducible refine gate_callee (f := 39) rfl ?_); refine goesL_ (some 14) rfl rfl Try.func39 (by kernel_rfl) rfl #[.slice A0 l0.length c0, .int .i64 0, .int .i64 12] rfl aq ?_; (with_reducible refine (intervalmonref01_Pick.calls _ _ l0 0 12 t443 _ ?side1 ?side2 A3.out).mono ?_); (case side1 => repeat (first | exact HR0.out | (with_reducible refine Kd.C_alloc ?_ _) | (with_reducible refine Kd.C_drewN ?_ _) | (with_reducible refine Kd.C_drew ?_))); (case side2 => exact HC0.out); rintro e w' ⟨rfl, ⟨nd, rfl⟩⟩; refine ⟨_, rfl, ?_⟩) | ((with_reducible refine gate_dst (N := 16) rfl ?_); refine Kd.R_lit Kd.string _ 9 ?hg (N := 16) ?hd (xs := ([(⟨#[97, 110, 110]⟩ : ByteArray), (⟨#[98, 111, 98]⟩ : ByteArray), (⟨#[99, 121]⟩ : ByteArray), (⟨#[100, 97, 110]⟩ : ByteArray)] : List ByteArray)) (inner := [.string (⟨#[97, 110, 110]⟩ : ByteArray), .string (⟨#[98, 111, 98]⟩ : ByteArray), .string (⟨#[99, 121]⟩ : ByteArray), .string (⟨#[100, 97, 110]⟩ : ByteArray)]) (ok := fun _ => True) (okp := fun _ => True) ?hr ?hp (fun _ hk => hk) trivial (Below.refl _ _) (Nat.le_refl _) (by simp) ?_; (case hd => rfl); (case hg => rfl); (case hr => first | (go_simp; done) | (go_simp; rfl)); (case hp => exact (Reps.one (show Kd.M Kd.string _ _ _ (⟨#[97, 110, 110]⟩ : ByteArray) [.string (⟨#[97, 110, 110]⟩ : ByteArray)] from rfl) (Reps.one (show Kd.M Kd.string _ _ _ (⟨#[98, 111, 98]⟩ : ByteArray) [.string (⟨#[98, 111, 98]⟩ : ByteArray)] from rfl) (Reps.one (show Kd.M Kd.string _ _ _ (⟨#[99, 121]⟩ : ByteArray) [.string (⟨#[99, 121]⟩ : ByteArray)] from rfl) (Reps.one (show Kd.M Kd.string _ _ _ (⟨#[100, 97, 110]⟩ : ByteArray) [.string (⟨#[100, 97, 110]⟩ : ByteArray)] from rfl) (Reps.none _ _)))))); intro v445 w4 ho5 hb hg_ hnew_; clear hg_ hnew_; (first | rw [← Ny444.out] at ho5 | (simp only [Int.reduceToNat] at ho5; rw [← Ny444.out] at ho5)); have n0_ := Aside0.mk (Kd.R_lower ho5 (below_size (hq HB))); have n1_ := Aside0.mk (below_step (hq HB) hb); clear HB; have HO446 := n0_; have HB := n1_; clear n0_ n1_; clear hb ho5))
 go_loopg [8, 9] k (fun kq v8 v9 w' => ∃ (x8_1 : List (S50)) (x9_1 : Int), v9 = .int .i64 x9_1 ∧ Aside0 (intervalmonref29_Rota.l0 kq l0 a1 (wrap64 (1 + t443)) y444 x8_1 x9_1 = some (r1, r2)) ∧ Aside0 (kq ≤ k) ∧ Aside0 (Kd.R Kd.string 9 w' w.heap.size (fun _ => True) v445 y444) ∧ Aside0 (Kd.R k50 50 w' w.heap.size (fun _ => True) v8 x8_1) ∧ Aside0 (Below w.heap.size w w'))
 case atStart => exact ⟨(([] : List (S50))), (0), (by first | rfl | (simp; done) | (simp [*]; done)), H', ⟨Nat.le_refl _⟩, ⟨by (with_reducible repeat (first | apply Kd.R_alloc | apply Kd.R_drewN | apply Kd.R_drew)); exact HO446.out⟩, ⟨by first | exact Kd.R_nil _ _ _ _ _ | exact Kd.N_nil _ _ _ _ _ | exact Kd.V_nil _ _ _ _ _ | exact Kd.Q_nil _ _ _ _ _ | exact Kd.S_nil _ _ _ _ _⟩, ⟨by repeat (first | (with_reducible first | exact HB.out | apply below_alloc | apply pw_below_drewN | apply below_drew1) | exact HB.out)⟩⟩
 case round =>
  clear H'
  try clear c2
  try clear p2
  try clear c3
  obtain ⟨x8_1, x9_1, rfl, HA, HK1, HO_7, HO_8, HB⟩ := hrel
  cases gk with
  | zero => exact absurd HA.out (by simp [intervalmonref29_Rota.l0])
  | succ k1 =>
   have H := HA.out
   clear HA
   simp only [intervalmonref29_Rota.l0] at H
   replace H := Option.bind_eq_some_iff.mp H
   obtain ⟨t447, A60, H⟩ := H
   replace H : (if x9_1 < (wrap64 (1 + t447)) then ((intervalmonref01_Pick.f l0 (wrap64 (x9_1 + 2)) 100000).bind fun t452 => (if (wrap64 (1 + t443)) = 0 then (none) else (if 0 ≤ (Int.tmod t452 4) then (if (Int.tmod t452 4) < (y444.length : Int) then (if (wrap64 ((wrap64 (1 + t443)) - (Int.tmod (wrap64 (Int.tdiv t452 4)) (wrap64 (1 + t443))))) = 0 then (none) else (if x9_1 = 0 then (intervalmonref29_Rota.j1 k1 l0 a1 (wrap64 (1 + t443)) y444 x8_1 x9_1 t452 (rdOf ByteArray.empty y444 (Int.tmod t452 4)) 0 (wrap64 ((wrap64 ((Int.tmod (wrap64 (Int.tdiv t452 4)) (wrap64 (1 + t443))) + 1)) + (Int.tmod (wrap64 (Int.tdiv t452 64)) (wrap64 ((wrap64 (1 + t443)) - (Int.tmod (wrap64 (Int.tdiv t452 4)) (wrap64 (1 + t443))))))))) else (intervalmonref29_Rota.j1 k1 l0 a1 (wrap64 (1 + t443)) y444 x8_1 x9_1 t452 (rdOf ByteArray.empty y444 (Int.tmod t452 4)) (Int.tmod (wrap64 (Int.tdiv t452 4)) (wrap64 (1 + t443))) (wrap64 ((wrap64 ((Int.tmod (wrap64 (Int.tdiv t452 4)) (wrap64 (1 + t443))) + 1)) + (Int.tmod (wrap64 (Int.tdiv t452 64)) (wrap64 ((wrap64 (1 + t443)) - (Int.tmod (wrap64 (Int.tdiv t452 4)) (wrap64 (1 + t443))))))))))) else (none)) else (none)))) else (if a1 = true then (some ((wrap64 (1 + t443)), x8_1)) else ((intervalmonref29_ValidRota.f k1 (wrap64 (1 + t443)) x8_1).bind fun t448 => (if t448 = 0 then (some ((wrap64 (1 + t443)), x8_1)) else (if x8_1.length < 4398046511104 then (some ((wrap64 (1 + t443)), (x8_1 ++ [(⟨(⟨#[101, 118, 101]⟩ : ByteArray), 0, (wrap64 (1 + t443))⟩ : S50)]))) else (none)))))) = some (r1, r2) := H
   have A6 := Aside0.mk A60
   clear A60
   by_cases c7 : x9_1 < (wrap64 (1 + t447))
   ·rw [if_pos c7] at H
    have c7b0 : decide (x9_1 < (wrap64 (1 + t447))) = true := decide_eq_true c7
    clear c7
    replace H := Option.bind_eq_some_iff.mp H
    obtain ⟨t452, A80, H⟩ := H
    replace H : (if (wrap64 (1 + t443)) = 0 then (none) else (if 0 ≤ (Int.tmod t452 4) then (if (Int.tmod t452 4) < (y444.length : Int) then (if (wrap64 ((wrap64 (1 + t443)) - (Int.tmod (wrap64 (Int.tdiv t452 4)) (wrap64 (1 + t443))))) = 0 then (none) else (if x9_1 = 0 then (intervalmonref29_Rota.j1 k1 l0 a1 (wrap64 (1 + t443)) y444 x8_1 x9_1 t452 (rdOf ByteArray.empty y444 (Int.tmod t452 4)) 0 (wrap64 ((wrap64 ((Int.tmod (wrap64 (Int.tdiv t452 4)) (wrap64 (1 + t443))) + 1)) + (Int.tmod (wrap64 (Int.tdiv t452 64)) (wrap64 ((wrap64 (1 + t443)) - (Int.tmod (wrap64 (Int.tdiv t452 4)) (wrap64 (1 + t443))))))))) else (intervalmonref29_Rota.j1 k1 l0 a1 (wrap64 (1 + t443)) y444 x8_1 x9_1 t452 (rdOf ByteArray.empty y444 (Int.tmod t452 4)) (Int.tmod (wrap64 (Int.tdiv t452 4)) (wrap64 (1 + t443))) (wrap64 ((wrap64 ((Int.tmod (wrap64 (Int.tdiv t452 4)) (wrap64 (1 + t443))) + 1)) + (Int.tmod (wrap64 (Int.tdiv t452 64)) (wrap64 ((wrap64 (1 + t443)) - (Int.tmod (wrap64 (Int.tdiv t452 4)) (wrap64 (1 + t443))))))))))) else (none)) else (none))) = some (r1, r2) := H
    have A8 := Aside0.mk A80
    clear A80
    by_cases c9 : (wrap64 (1 + t443)) = 0
    ·rw [if_pos c9] at H
     exact absurd H (by simp)
    ·rw [if_neg c9] at H
     have c9b0 : ((wrap64 (1 + t443)) == 0) = false := beq_eq_false_iff_ne.mpr c9
     have c9b1 : ((wrap64 (1 + t443)) != 0) = true := bne_iff_ne.mpr c9
     obtain ⟨ji10, hji10⟩ : ∃ j_ : Int, (Int.tmod t452 4) = j_ := ⟨_, rfl⟩
     replace H : (if 0 ≤ (ji10) then (if (ji10) < (y444.length : Int) then (if (wrap64 ((wrap64 (1 + t443)) - (Int.tmod (wrap64 (Int.tdiv t452 4)) (wrap64 (1 + t443))))) = 0 then (none) else (if x9_1 = 0 then (intervalmonref29_Rota.j1 k1 l0 a1 (wrap64 (1 + t443)) y444 x8_1 x9_1 t452 (rdOf ByteArray.empty y444 (ji10)) 0 (wrap64 ((wrap64 ((Int.tmod (wrap64 (Int.tdiv t452 4)) (wrap64 (1 + t443))) + 1)) + (Int.tmod (wrap64 (Int.tdiv t452 64)) (wrap64 ((wrap64 (1 + t443)) - (Int.tmod (wrap64 (Int.tdiv t452 4)) (wrap64 (1 + t443))))))))) else (intervalmonref29_Rota.j1 k1 l0 a1 (wrap64 (1 + t443)) y444 x8_1 x9_1 t452 (rdOf ByteArray.empty y444 (ji10)) (Int.tmod (wrap64 (Int.tdiv t452 4)) (wrap64 (1 + t443))) (wrap64 ((wrap64 ((Int.tmod (wrap64 (Int.tdiv t452 4)) (wrap64 (1 + t443))) + 1)) + (Int.tmod (wrap64 (Int.tdiv t452 64)) (wrap64 ((wrap64 (1 + t443)) - (Int.tmod (wrap64 (Int.tdiv t452 4)) (wrap64 (1 + t443))))))))))) else (none)) else (none)) = some (r1, r2) := by first | (rw [hji10] at H; exact H) | (simp only [hji10] at H ⊢; exact H)
     (try rw [hji10] at A6)
     (try rw [hji10] at A8)
     by_cases c11 : 0 ≤ (ji10)
     ·rw [if_pos c11] at H
      have c11b0 : decide (0 ≤ (ji10)) = true := decide_eq_true c11
      clear c11
      by_cases c12 : (ji10) < (y444.length : Int)
      ·rw [if_pos c12] at H
       have c12b0 : decide ((ji10) < (y444.length : Int)) = true := decide_eq_true c12
       clear c12
       by_cases c13 : (wrap64 ((wrap64 (1 + t443)) - (Int.tmod (wrap64 (Int.tdiv t452 4)) (wrap64 (1 + t443))))) = 0
       ·rw [if_pos c13] at H
        exact absurd H (by simp)
       ·rw [if_neg c13] at H
        have c13b0 : ((wrap64 ((wrap64 (1 + t443)) - (Int.tmod (wrap64 (Int.tdiv t452 4)) (wrap64 (1 + t443))))) == 0) = false := beq_eq_false_iff_ne.mpr c13
        have c13b1 : ((wrap64 ((wrap64 (1 + t443)) - (Int.tmod (wrap64 (Int.tdiv t452 4)) (wrap64 (1 + t443))))) != 0) = true := bne_iff_ne.mpr c13
        have HC14 := Aside0.mk H
        clear H
        try go_wp2_with (first | ((with_reducible refine gate_callee (f := 39) rfl ?_); refine goesL_ (some 19) rfl rfl Try.func39 (by kernel_rfl) rfl #[.slice A0 l0.length c0, .int .i64 1, .int .i64 6] rfl aq ?_; (with_reducible refine (intervalmonref01_Pick.calls _ _ l0 1 6 t447 _ ?side1 ?side2 A6.out).mono ?_); (case side1 => repeat (first | exact (Kd.C_below HR0.out HB.out) | (with_reducible refine Kd.C_alloc ?_ _) | (with_reducible refine Kd.C_drewN ?_ _) | (with_reducible refine Kd.C_drew ?_))); (case side2 => exact HC0.out); rintro e w' ⟨rfl, ⟨nd, rfl⟩⟩; refine ⟨_, rfl, ?_⟩; (try (rw [drewN_self wr]; generalize hq_ : World.drewN wr _ = wr; have n0_ : Aside0 (Kd.R Kd.string 9 wr w.heap.size (fun _ => True) v445 y444) := ⟨by rw [← hq_]; exact (rq HO_7)⟩; have n1_ : Aside0 (Kd.R k50 50 wr w.heap.size (fun _ => True) u8 x8_1) := ⟨by rw [← hq_]; exact (rq HO_8)⟩; have n2_ : Aside0 (Below w.heap.size w wr) := ⟨by rw [← hq_]; exact (hq HB)⟩; clear HO_7 HO_8 HB hq_; have HO_7 := n0_; have HO_8 := n1_; have HB := n2_; clear n0_ n1_ n2_))) | ((with_reducible refine gate_callee (f := 39) rfl ?_); refine goesL_ (some 27) rfl rfl Try.func39 (by kernel_rfl) rfl #[.slice A0 l0.length c0, .int .i64 (wrap64 (x9_1 + 2)), .int .i64 100000] rfl aq ?_; (with_reducible refine (intervalmonref01_Pick.calls _ _ l0 (wrap64 (x9_1 + 2)) 100000 t452 _ ?side1 ?side2 A8.out).mono ?_); (case side1 => repeat (first | exact (Kd.C_below HR0.out HB.out) | (with_reducible refine Kd.C_alloc ?_ _) | (with_reducible refine Kd.C_drewN ?_ _) | (with_reducible refine Kd.C_drew ?_))); (case side2 => exact HC0.out); rintro e w' ⟨rfl, ⟨nd, rfl⟩⟩; refine ⟨_, rfl, ?_⟩; (try (rw [drewN_self wr]; generalize hq_ : World.drewN wr _ = wr; have n0_ : Aside0 (Kd.R Kd.string 9 wr w.heap.size (fun _ => True) v445 y444) := ⟨by rw [← hq_]; exact (rq HO_7)⟩; have n1_ : Aside0 (Kd.R k50 50 wr w.heap.size (fun _ => True) u8 x8_1) := ⟨by rw [← hq_]; exact (rq HO_8)⟩; have n2_ : Aside0 (Below w.heap.size w wr) := ⟨by rw [← hq_]; exact (hq HB)⟩; clear HO_7 HO_8 HB hq_; have HO_7 := n0_; have HO_8 := n1_; have HB := n2_; clear n0_ n1_ n2_))))
        have n0_ := Aside0.mk (Kd.R_drew HO_7.out)
        have n1_ := Aside0.mk (Kd.R_drew HO_8.out)
        have n2_ := Aside0.mk (below_drew1 HB.out)
        clear HO_7
        clear HO_8
        clear HB
        have HO_7 := n0_
        have HO_8 := n1_
        have HB := n2_
        clear n0_ n1_ n2_
        obtain ⟨Ao16, co16, eo16⟩ := Kd.R_slice HO_7.out
        (first | subst eo16 | (injection eo16 with f1_ f2_ f3_; have f4_ := f1_.symm; have f5_ := f3_.symm; clear f1_ f2_ f3_; subst f4_; subst f5_))
        have p453 : 0 ≤ ((ji10) : Int) := of_decide_eq_true (by first | (with_reducible assumption) | assumption)
        have q453 : (ji10) < (y444.length : Int) := of_decide_eq_true (by first | (with_reducible assumption) | assumption)
        obtain ⟨ad453, e453, hx453_0⟩ := Kd.at_string (Kd.R_reads' HO_7.out).2.2 (ji10) p453 q453
        cases e453
        replace p453 := eq_true p453
        replace q453 := eq_true q453
        refine start_ (n := 18) (S := fun w' => w'.cell? (ad453.add ((ji10)).toNat) = some (.string (rdOf ByteArray.empty y444 (ji10)))) (ds := []) #[false, false, false, false, false, false, false, false, false, false, false, false, false, false, false, false, false, false] (by kernel_rfl) rfl rfl (hx453_0) (fun hHeld => ?_); refine with_tabW intervalmonref29_Rota.tab9 intervalmonref29_Rota.bits9 (fun HT_ HW_ => ?_)
        generalize wr.drew = w15 at HO_7 HO_8 HB hx453_0 hHeld ⊢
        refine pure_ (i := 0) (N := some 32) (v := ?_) (a' := ?_) #[true, false, false, false, false, false, false, false, false, false, false, false, false, false, false, false, false, false] rfl rfl (any_of HT_.out (by kernel_rfl)) (fun _ _ _ h => h) (Or.inl ⟨by rfl, ?_⟩) ?_ ?_
        rotate_left
        ·intro w'
         go_simp
         with_reducible rfl
        rotate_left
        ·simp only [Act.put, List.setIfInBounds_toArray, List.set_cons_zero, List.set_cons_succ, i64_w, i32_w]
         rfl
        refine pure_ (i := 1) (N := some 33) (v := ?_) (a' := ?_) #[true, true, false, false, false, false, false, false, false, false, false, false, false, false, false, false, false, false] rfl rfl (any_of HT_.out (by kernel_rfl)) (fun _ _ _ h => h) (Or.inl ⟨by rfl, ?_⟩) ?_ ?_
        rotate_left
        ·intro w'
         go_simp
         with_reducible rfl
        rotate_left
        ·simp only [Act.put, List.setIfInBounds_toArray, List.set_cons_zero, List.set_cons_succ, i64_w, i32_w]
         rfl
        refine pure_ (i := 2) (N := some 34) (v := ?_) (a' := ?_) #[true, true, true, false, false, false, false, false, false, false, false, false, false, false, false, false, false, false] rfl rfl (any_of HT_.out (by kernel_rfl)) (fun _ _ _ h => h) (Or.inl ⟨by rfl, ?_⟩) ?_ ?_
        rotate_left
        ·intro w'
         go_simp
         with_reducible rfl
        rotate_left
        ·simp only [Act.put, List.setIfInBounds_toArray, List.set_cons_zero, List.set_cons_succ, i64_w, i32_w]
         rfl
        refine pure_ (i := 3) (N := some 35) (v := ?_) (a' := ?_) #[true, true, true, true, false, false, false, false, false, false, false, false, false, false, false, false, false, false] rfl rfl (any_of HT_.out (by kernel_rfl)) (fun _ _ _ h => h) (Or.inl ⟨by rfl, ?_⟩) ?_ ?_
        rotate_left
        ·intro w'
         go_simp
         with_reducible rfl
        rotate_left
        ·simp only [Act.put, List.setIfInBounds_toArray, List.set_cons_zero, List.set_cons_succ, i64_w, i32_w]
         rfl
        refine pure_ (i := 5) (N := some 37) (v := ?_) (a' := ?_) #[true, true, true, true, false, true, false, false, false, false, false, false, false, false, false, false, false, false] rfl rfl (any_of HT_.out (by kernel_rfl)) (fun _ _ _ h => h) (Or.inl ⟨by rfl, ?_⟩) ?_ ?_
        rotate_left
        ·intro w'
         go_simp
         with_reducible rfl
        rotate_left
        ·simp only [Act.put, List.setIfInBounds_toArray, List.set_cons_zero, List.set_cons_succ, i64_w, i32_w]
         rfl
        refine pure_ (i := 6) (N := some 38) (v := ?_) (a' := ?_) #[true, true, true, true, false, true, true, false, false, false, false, false, false, false, false, false, false, false] rfl rfl (any_of HT_.out (by kernel_rfl)) (fun _ _ _ h => h) (Or.inl ⟨by rfl, ?_⟩) ?_ ?_
        rotate_left
        ·intro w'
         go_simp
         with_reducible rfl
        rotate_left
        ·simp only [Act.put, List.setIfInBounds_toArray, List.set_cons_zero, List.set_cons_succ, i64_w, i32_w]
         rfl
        refine pure_ (i := 7) (N := some 39) (v := ?_) (a' := ?_) #[true, true, true, true, false, true, true, true, false, false, false, false, false, false, false, false, false, false] rfl rfl (any_of HT_.out (by kernel_rfl)) (fun _ _ _ h => h) (Or.inl ⟨by rfl, ?_⟩) ?_ ?_
        rotate_left
        ·intro w'
         go_simp
         with_reducible rfl
        rotate_left
        ·simp only [Act.put, List.setIfInBounds_toArray, List.set_cons_zero, List.set_cons_succ, i64_w, i32_w]
         rfl
        refine pure_ (i := 8) (N := some 40) (v := ?_) (a' := ?_) #[true, true, true, true, false, true, true, true, true, false, false, false, false, false, false, false, false, false] rfl rfl (any_of HT_.out (by kernel_rfl)) (fun _ _ _ h => h) (Or.inl ⟨by rfl, ?_⟩) ?_ ?_
        rotate_left
        ·intro w'
         go_simp
         with_reducible rfl
        rotate_left
        ·simp only [Act.put, List.setIfInBounds_toArray, List.set_cons_zero, List.set_cons_succ, i64_w, i32_w]
         rfl
        refine pure_ (i := 9) (N := some 41) (v := ?_) (a' := ?_) #[true, true, true, true, false, true, true, true, true, true, false, false, false, false, false, false, false, false] rfl rfl (any_of HT_.out (by kernel_rfl)) (fun _ _ _ h => h) (Or.inl ⟨by rfl, ?_⟩) ?_ ?_
        rotate_left
        ·intro w'
         go_simp
         with_reducible rfl
        rotate_left
        ·simp only [Act.put, List.setIfInBounds_toArray, List.set_cons_zero, List.set_cons_succ, i64_w, i32_w]
         rfl
        refine pure_ (i := 10) (N := some 42) (v := ?_) (a' := ?_) #[true, true, true, true, false, true, true, true, true, true, true, false, false, false, false, false, false, false] rfl rfl (any_of HT_.out (by kernel_rfl)) (fun _ _ _ h => h) (Or.inl ⟨by rfl, ?_⟩) ?_ ?_
        rotate_left
        ·intro w'
         go_simp
         with_reducible rfl
        rotate_left
        ·simp only [Act.put, List.setIfInBounds_toArray, List.set_cons_zero, List.set_cons_succ, i64_w, i32_w]
         rfl
        refine pure_ (i := 11) (N := some 43) (v := ?_) (a' := ?_) #[true, true, true, true, false, true, true, true, true, true, true, true, false, false, false, false, false, false] rfl rfl (any_of HT_.out (by kernel_rfl)) (fun _ _ _ h => h) (Or.inl ⟨by rfl, ?_⟩) ?_ ?_
        rotate_left
        ·intro w'
         go_simp
         with_reducible rfl
        rotate_left
        ·simp only [Act.put, List.setIfInBounds_toArray, List.set_cons_zero, List.set_cons_succ, i64_w, i32_w]
         rfl
        refine pure_ (i := 12) (N := some 44) (v := ?_) (a' := ?_) #[true, true, true, true, false, true, true, true, true, true, true, true, true, false, false, false, false, false] rfl rfl (any_of HT_.out (by kernel_rfl)) (fun _ _ _ h => h) (Or.inl ⟨by rfl, ?_⟩) ?_ ?_
        rotate_left
        ·intro w'
         go_simp
         with_reducible rfl
        rotate_left
        ·simp only [Act.put, List.setIfInBounds_toArray, List.set_cons_zero, List.set_cons_succ, i64_w, i32_w]
         rfl
        refine pure_ (i := 13) (N := some 45) (v := ?_) (a' := ?_) #[true, true, true, true, false, true, true, true, true, true, true, true, true, true, false, false, false, false] rfl rfl (any_of HT_.out (by kernel_rfl)) (fun _ _ _ h => h) (Or.inl ⟨by rfl, ?_⟩) ?_ ?_
        rotate_left
        ·intro w'
         go_simp
         with_reducible rfl
        rotate_left
        ·simp only [Act.put, List.setIfInBounds_toArray, List.set_cons_zero, List.set_cons_succ, i64_w, i32_w]
         rfl
        refine pure_ (i := 14) (N := some 46) (v := ?_) (a' := ?_) #[true, true, true, true, false, true, true, true, true, true, true, true, true, true, true, false, false, false] rfl rfl (any_of HT_.out (by kernel_rfl)) (fun _ _ _ h => h) (Or.inl ⟨by rfl, ?_⟩) ?_ ?_
        rotate_left
        ·intro w'
         go_simp
         with_reducible rfl
        rotate_left
        ·simp only [Act.put, List.setIfInBounds_toArray, List.set_cons_zero, List.set_cons_succ, i64_w, i32_w]
         rfl
        refine take_ (i := 4) (N := some 36) (v := ?_) (a' := ?_) #[true, true, true, true, true, true, true, true, true, true, true, true, true, true, true, false, false, false] rfl rfl (take_ofW HT_.out HW_.out (by kernel_rfl)) (fun _ _ _ h => h) (Or.inl ⟨by rfl, ?_⟩) hHeld ?_ ?_
        rotate_left
        ·intro w' s0
         go_simp
         with_reducible rfl
        rotate_left
        ·simp only [Act.put, List.setIfInBounds_toArray, List.set_cons_zero, List.set_cons_succ, i64_w, i32_w]
         rfl
        refine pure_ (i := 15) (N := some 47) (v := ?_) (a' := ?_) #[true, true, true, true, true, true, true, true, true, true, true, true, true, true, true, true, false, false] rfl rfl (any_of HT_.out (by kernel_rfl)) (fun _ _ _ h => h) (Or.inl ⟨by rfl, ?_⟩) ?_ ?_
        rotate_left
        ·intro w'
         go_simp
         with_reducible rfl
        rotate_left
        ·simp only [Act.put, List.setIfInBounds_toArray, List.set_cons_zero, List.set_cons_succ, i64_w, i32_w]
         rfl
        refine one_ (i := 16) (N := some 12) #[true, true, true, true, true, true, true, true, true, true, true, true, true, true, true, true, true, false] rfl rfl (one_of HT_.out (by kernel_rfl)) (by decide) (fun K hK => ?_)
        refine box_step ?hg (N := 12) ?hd (cs := #[.string (⟨#[]⟩ : ByteArray), .int .i64 0, .int .i64 0]) (t := 50) ?hr ?_; (case hd => rfl); (case hg => rfl); (case hr => first | (go_simp; done) | (go_simp; rfl))
        intro gb454 hg w17 hbox hb
        have HS0_ := (hb.cell (World.block_lt_of_cell? _ _ (hHeld))).trans (hHeld)
        have n0_ := Aside0.mk (Kd.R_below (rq HO_7) hb)
        have n1_ := Aside0.mk (Kd.R_below (Kd.R_elderB (rq HO_8) gb454 (Nat.le_of_eq hg.symm)) hb)
        have n2_ := Aside0.mk (below_step (hq HB) hb)
        have n3_ := Aside0.mk (hbox)
        have n4_ := Aside0.mk ((by rw [hg]; exact (below_size (hq HB)) : w.heap.size ≤ gb454))
        have n5_ := Aside0.mk ((by rw [hg]; exact (below_size (hq HB)) : w.heap.size ≤ gb454))
        clear HO_7
        clear HO_8
        clear HB
        have HO_7 := n0_
        have HO_8 := n1_
        have HB := n2_
        have BK454 := n3_
        have GW454 := n4_
        have GE454 := n5_
        clear n0_ n1_ n2_ n3_ n4_ n5_
        clear hb hbox hg
        refine hK.out _ _ (HS0_) (fun hHeld => ?_)
        clear hK K
        refine norm_ (a' := ?_) ?_ ?_
        rotate_left
        ·show Act.put _ (some 12) _ = _
         simp only [Act.put, List.setIfInBounds_toArray, List.set_cons_zero, List.set_cons_succ, i64_w, i32_w]
         rfl
        refine one_ (i := 17) (N := none) #[true, true, true, true, true, true, true, true, true, true, true, true, true, true, true, true, true, true] rfl rfl (one_of HT_.out (by kernel_rfl)) (by decide) (fun K hK => ?_)
        have hs18 : w17.cell? ⟨gb454, 0, none⟩ = some (.string (⟨#[]⟩ : ByteArray)) := (blk_cell BK454.out 0).trans rfl
        have hfs18 := blk_frozen BK454.out 0
        have hs19 : w17.cell? ⟨gb454, 1, none⟩ = some (.int .i64 0) := (blk_cell BK454.out 1).trans rfl
        have hfs19 := blk_frozen BK454.out 1
        have hs20 : w17.cell? ⟨gb454, 2, none⟩ = some (.int .i64 0) := (blk_cell BK454.out 2).trans rfl
        have hfs20 := blk_frozen BK454.out 2
        refine skip_ (w1 := ?_) (by rfl) rfl ?_ ?_
        rotate_left
        ·go_simp
         rfl
        refine hK.out _ _ (((cell_far (p := ⟨gb454, _, none⟩) (by first | exact Kd.own_blk (Kd.R_ne HO_7.out BK454.out (by decide)) | (rw [add_block]; exact Kd.own_blk (Kd.R_ne HO_7.out BK454.out (by decide))) | (show (Addr.add _ _).block ≠ _; rw [add_block]; exact Kd.own_blk (Kd.R_ne HO_7.out BK454.out (by decide))) | (dsimp only; exact Kd.own_blk (Kd.R_ne HO_7.out BK454.out (by decide)))) _).trans (((cell_far (p := ⟨gb454, _, none⟩) (by first | exact Kd.own_blk (Kd.R_ne HO_7.out BK454.out (by decide)) | (rw [add_block]; exact Kd.own_blk (Kd.R_ne HO_7.out BK454.out (by decide))) | (show (Addr.add _ _).block ≠ _; rw [add_block]; exact Kd.own_blk (Kd.R_ne HO_7.out BK454.out (by decide))) | (dsimp only; exact Kd.own_blk (Kd.R_ne HO_7.out BK454.out (by decide)))) _).trans (((cell_far (p := ⟨gb454, _, none⟩) (by first | exact Kd.own_blk (Kd.R_ne HO_7.out BK454.out (by decide)) | (rw [add_block]; exact Kd.own_blk (Kd.R_ne HO_7.out BK454.out (by decide))) | (show (Addr.add _ _).block ≠ _; rw [add_block]; exact Kd.own_blk (Kd.R_ne HO_7.out BK454.out (by decide))) | (dsimp only; exact Kd.own_blk (Kd.R_ne HO_7.out BK454.out (by decide)))) _).trans (hHeld))))))) (fun hHeld => ?_)
        clear hK K
        refine done_ (done_of HT_.out (by kernel_rfl)) ?_
        go_upto_if 49 with (fail)
        go_cut [] (fun wc => ∃ (kq : Nat) (x455001_13 : Int), Aside0 (intervalmonref29_Rota.j1 kq l0 a1 (wrap64 (1 + t443)) y444 x8_1 x9_1 t452 (rdOf ByteArray.empty y444 (ji10)) x455001_13 (wrap64 ((wrap64 ((Int.tmod (wrap64 (Int.tdiv t452 4)) (wrap64 (1 + t443))) + 1)) + (Int.tmod (wrap64 (Int.tdiv t452 64)) (wrap64 ((wrap64 (1 + t443)) - (Int.tmod (wrap64 (Int.tdiv t452 4)) (wrap64 (1 + t443)))))))) = some (r1, r2)) ∧ Aside0 (kq ≤ k1) ∧ Aside0 (Kd.R Kd.string 9 wc w.heap.size (fun _ => True) (.slice (some ad453) y444.length co16) y444) ∧ Aside0 (Kd.R k50 50 wc w.heap.size (fun k_ => k_ ≠ gb454) u8 x8_1) ∧ Aside0 (wc.heap[gb454]? = some (.cells #[.string (rdOf ByteArray.empty y444 (ji10)), .int .i64 x455001_13, .int .i64 (wrap64 ((wrap64 ((Int.tmod (wrap64 (Int.tdiv t452 4)) (wrap64 (1 + t443))) + 1)) + (Int.tmod (wrap64 (Int.tdiv t452 64)) (wrap64 ((wrap64 (1 + t443)) - (Int.tmod (wrap64 (Int.tdiv t452 4)) (wrap64 (1 + t443))))))))] 50 (0, 0))) ∧ Aside0 (Below w.heap.size w wc))
        case first =>
         have H := HC14.out
         clear HC14
         by_cases c21 : x9_1 = 0
         ·rw [if_pos c21] at H
          have c21b0 : (x9_1 == 0) = true := beq_iff_eq.mpr c21
          have c21b1 : (x9_1 != 0) = false := bne_eq_false_iff_eq.mpr c21
          clear c21
          (first | rw [c21b0] | (simp only [i64_w, i32_w]; rw [c21b0]) | skip)
          have H' := Aside0.mk H
          clear H
          have hcz22_0 : w17.cell? ⟨gb454, 0, none⟩ = some (.string (⟨#[]⟩ : ByteArray)) := (blk_cell BK454.out 0).trans rfl
          have hcz22_1 : w17.cell? ⟨gb454, 1, none⟩ = some (.int .i64 0) := (blk_cell BK454.out 1).trans rfl
          have hcz22_2 : w17.cell? ⟨gb454, 2, none⟩ = some (.int .i64 0) := (blk_cell BK454.out 2).trans rfl
          have hfz22_0 := blk_frozen BK454.out 0
          have hfz22_1 := blk_frozen BK454.out 1
          have hfz22_2 := blk_frozen BK454.out 2
          go_wp2
          go_meet
          case rel => exact ⟨_, (0), H', ⟨by have := HK1.out; first | omega | exact Nat.le_refl _⟩, ⟨by (with_reducible repeat (first | apply Kd.R_alloc | apply Kd.R_drewN | apply Kd.R_drew)); exact Kd.R_mono (Kd.R_far (p := ⟨gb454, 1, none⟩) (Kd.R_far (p := ⟨gb454, 2, none⟩) (Kd.R_far (p := ⟨gb454, 1, none⟩) (Kd.R_far (p := ⟨gb454, 0, none⟩) (Kd.R_types HO_7.out BK454.out (by decide)) (fun _ hk => hk.2) (.string (rdOf ByteArray.empty y444 (ji10)))) (fun _ hk => hk.2) (.int .i64 (Int.tmod (wrap64 (Int.tdiv t452 4)) (wrap64 (1 + t443))))) (fun _ hk => hk.2) (.int .i64 (wrap64 ((wrap64 ((Int.tmod (wrap64 (Int.tdiv t452 4)) (wrap64 (1 + t443))) + 1)) + (Int.tmod (wrap64 (Int.tdiv t452 64)) (wrap64 ((wrap64 (1 + t443)) - (Int.tmod (wrap64 (Int.tdiv t452 4)) (wrap64 (1 + t443)))))))))) (fun _ hk => hk.2) (.int .i64 0)) (fun _ hk => trivial)⟩, ⟨by (with_reducible repeat (first | apply Kd.R_alloc | apply Kd.R_drewN | apply Kd.R_drew)); exact Kd.R_mono (Kd.R_far (p := ⟨gb454, 1, none⟩) (Kd.R_far (p := ⟨gb454, 2, none⟩) (Kd.R_far (p := ⟨gb454, 1, none⟩) (Kd.R_far (p := ⟨gb454, 0, none⟩) (Kd.R_mono HO_8.out (fun k_ hk => (⟨hk, hk.2⟩ : _ ∧ k_ ≠ gb454))) (fun _ hk => hk.2) (.string (rdOf ByteArray.empty y444 (ji10)))) (fun _ hk => hk.2) (.int .i64 (Int.tmod (wrap64 (Int.tdiv t452 4)) (wrap64 (1 + t443))))) (fun _ hk => hk.2) (.int .i64 (wrap64 ((wrap64 ((Int.tmod (wrap64 (Int.tdiv t452 4)) (wrap64 (1 + t443))) + 1)) + (Int.tmod (wrap64 (Int.tdiv t452 64)) (wrap64 ((wrap64 (1 + t443)) - (Int.tmod (wrap64 (Int.tdiv t452 4)) (wrap64 (1 + t443)))))))))) (fun _ hk => hk.2) (.int .i64 0)) (fun _ hk => hk.1.2)⟩, ⟨by (with_reducible repeat (first | refine blk_drewN ?_ _ | refine blk_drew ?_ | refine blk_alloc ?_ _)); refine blk_put (cs := #[.string (rdOf ByteArray.empty y444 (ji10)), .int .i64 (Int.tmod (wrap64 (Int.tdiv t452 4)) (wrap64 (1 + t443))), .int .i64 (wrap64 ((wrap64 ((Int.tmod (wrap64 (Int.tdiv t452 4)) (wrap64 (1 + t443))) + 1)) + (Int.tmod (wrap64 (Int.tdiv t452 64)) (wrap64 ((wrap64 (1 + t443)) - (Int.tmod (wrap64 (Int.tdiv t452 4)) (wrap64 (1 + t443))))))))]) ?_ 1 _ rfl; (with_reducible repeat (first | refine blk_drewN ?_ _ | refine blk_drew ?_ | refine blk_alloc ?_ _)); refine blk_put (cs := #[.string (rdOf ByteArray.empty y444 (ji10)), .int .i64 (Int.tmod (wrap64 (Int.tdiv t452 4)) (wrap64 (1 + t443))), .int .i64 0]) ?_ 2 _ rfl; (with_reducible repeat (first | refine blk_drewN ?_ _ | refine blk_drew ?_ | refine blk_alloc ?_ _)); refine blk_put (cs := #[.string (rdOf ByteArray.empty y444 (ji10)), .int .i64 0, .int .i64 0]) ?_ 1 _ rfl; (with_reducible repeat (first | refine blk_drewN ?_ _ | refine blk_drew ?_ | refine blk_alloc ?_ _)); refine blk_put (cs := #[.string (⟨#[]⟩ : ByteArray), .int .i64 0, .int .i64 0]) ?_ 0 _ rfl; (with_reducible repeat (first | refine blk_drewN ?_ _ | refine blk_drew ?_ | refine blk_alloc ?_ _)); exact BK454.out⟩, ⟨by repeat (first | (with_reducible first | exact HB.out | apply below_alloc | apply pw_below_drewN | apply below_drew1 | refine below_set ?_ GE454.out) | exact HB.out)⟩⟩
         ·rw [if_neg c21] at H
          have c21b0 : (x9_1 == 0) = false := beq_eq_false_iff_ne.mpr c21
          have c21b1 : (x9_1 != 0) = true := bne_iff_ne.mpr c21
          (first | rw [c21b0] | (simp only [i64_w, i32_w]; rw [c21b0]) | skip)
          have H' := Aside0.mk H
          clear H
          go_wp2
          go_meet
          case rel => exact ⟨_, (Int.tmod (wrap64 (Int.tdiv t452 4)) (wrap64 (1 + t443))), H', ⟨by have := HK1.out; first | omega | exact Nat.le_refl _⟩, ⟨by (with_reducible repeat (first | apply Kd.R_alloc | apply Kd.R_drewN | apply Kd.R_drew)); exact Kd.R_mono (Kd.R_far (p := ⟨gb454, 2, none⟩) (Kd.R_far (p := ⟨gb454, 1, none⟩) (Kd.R_far (p := ⟨gb454, 0, none⟩) (Kd.R_types HO_7.out BK454.out (by decide)) (fun _ hk => hk.2) (.string (rdOf ByteArray.empty y444 (ji10)))) (fun _ hk => hk.2) (.int .i64 (Int.tmod (wrap64 (Int.tdiv t452 4)) (wrap64 (1 + t443))))) (fun _ hk => hk.2) (.int .i64 (wrap64 ((wrap64 ((Int.tmod (wrap64 (Int.tdiv t452 4)) (wrap64 (1 + t443))) + 1)) + (Int.tmod (wrap64 (Int.tdiv t452 64)) (wrap64 ((wrap64 (1 + t443)) - (Int.tmod (wrap64 (Int.tdiv t452 4)) (wrap64 (1 + t443)))))))))) (fun _ hk => trivial)⟩, ⟨by (with_reducible repeat (first | apply Kd.R_alloc | apply Kd.R_drewN | apply Kd.R_drew)); exact Kd.R_mono (Kd.R_far (p := ⟨gb454, 2, none⟩) (Kd.R_far (p := ⟨gb454, 1, none⟩) (Kd.R_far (p := ⟨gb454, 0, none⟩) (Kd.R_mono HO_8.out (fun k_ hk => (⟨hk, hk.2⟩ : _ ∧ k_ ≠ gb454))) (fun _ hk => hk.2) (.string (rdOf ByteArray.empty y444 (ji10)))) (fun _ hk => hk.2) (.int .i64 (Int.tmod (wrap64 (Int.tdiv t452 4)) (wrap64 (1 + t443))))) (fun _ hk => hk.2) (.int .i64 (wrap64 ((wrap64 ((Int.tmod (wrap64 (Int.tdiv t452 4)) (wrap64 (1 + t443))) + 1)) + (Int.tmod (wrap64 (Int.tdiv t452 64)) (wrap64 ((wrap64 (1 + t443)) - (Int.tmod (wrap64 (Int.tdiv t452 4)) (wrap64 (1 + t443)))))))))) (fun _ hk => hk.1.2)⟩, ⟨by (with_reducible repeat (first | refine blk_drewN ?_ _ | refine blk_drew ?_ | refine blk_alloc ?_ _)); refine blk_put (cs := #[.string (rdOf ByteArray.empty y444 (ji10)), .int .i64 (Int.tmod (wrap64 (Int.tdiv t452 4)) (wrap64 (1 + t443))), .int .i64 0]) ?_ 2 _ rfl; (with_reducible repeat (first | refine blk_drewN ?_ _ | refine blk_drew ?_ | refine blk_alloc ?_ _)); refine blk_put (cs := #[.string (rdOf ByteArray.empty y444 (ji10)), .int .i64 0, .int .i64 0]) ?_ 1 _ rfl; (with_reducible repeat (first | refine blk_drewN ?_ _ | refine blk_drew ?_ | refine blk_alloc ?_ _)); refine blk_put (cs := #[.string (⟨#[]⟩ : ByteArray), .int .i64 0, .int .i64 0]) ?_ 0 _ rfl; (with_reducible repeat (first | refine blk_drewN ?_ _ | refine blk_drew ?_ | refine blk_alloc ?_ _)); exact BK454.out⟩, ⟨by repeat (first | (with_reducible first | exact HB.out | apply below_alloc | apply pw_below_drewN | apply below_drew1 | refine below_set ?_ GE454.out) | exact HB.out)⟩⟩
        case rest =>
         clear HC14
         try clear c1
         try clear c2
         try clear p2
         try clear c3
         try clear p4
         try clear q4
         try clear hx4
         try clear p6
         try clear c7
         try clear c7b0
         try clear c9
         try clear c9b0
         try clear c9b1
         try clear c11
         try clear c11b0
         try clear c12
         try clear c12b0
         try clear c13
         try clear c13b0
         try clear c13b1
         try clear c21
         try clear c21b0
         try clear c21b1
         try clear hcz22_0
         try clear hcz22_1
         try clear hcz22_2
         try clear hfz22_0
         try clear hfz22_1
         try clear hfz22_2
         try clear hx453_0
         try clear p2
         try clear p453
         try clear q453
         obtain ⟨kq, x455001_13, HA, HJ13, HO_7, HO_8, BK454, HB⟩ := hcut
         cases kq with
         | zero => exact absurd HA.out (by simp [intervalmonref29_Rota.j1])
         | succ kj13 =>
          have H := HA.out
          clear HA
          simp only [intervalmonref29_Rota.j1] at H
          have HC23 := Aside0.mk H
          clear H
          go_upto_region 12 with (fail)
          go_cut [57] (fun v57 wc => ∃ (kq : Nat) (x57_22 : Bool), v57 = .bool x57_22 ∧ Aside0 (intervalmonref29_Rota.j2 kq l0 a1 (wrap64 (1 + t443)) y444 x8_1 x9_1 t452 x57_22 (rdOf ByteArray.empty y444 (ji10)) x455001_13 (wrap64 ((wrap64 ((Int.tmod (wrap64 (Int.tdiv t452 4)) (wrap64 (1 + t443))) + 1)) + (Int.tmod (wrap64 (Int.tdiv t452 64)) (wrap64 ((wrap64 (1 + t443)) - (Int.tmod (wrap64 (Int.tdiv t452 4)) (wrap64 (1 + t443)))))))) = some (r1, r2)) ∧ Aside0 (kq ≤ kj13) ∧ Aside0 (Kd.R Kd.string 9 wc w.heap.size (fun _ => True) (.slice (some ad453) y444.length co16) y444) ∧ Aside0 (Kd.R k50 50 wc w.heap.size (fun k_ => k_ ≠ gb454) u8 x8_1) ∧ Aside0 (wc.heap[gb454]? = some (.cells #[.string (rdOf ByteArray.empty y444 (ji10)), .int .i64 x455001_13, .int .i64 (wrap64 ((wrap64 ((Int.tmod (wrap64 (Int.tdiv t452 4)) (wrap64 (1 + t443))) + 1)) + (Int.tmod (wrap64 (Int.tdiv t452 64)) (wrap64 ((wrap64 (1 + t443)) - (Int.tmod (wrap64 (Int.tdiv t452 4)) (wrap64 (1 + t443))))))))] 50 (0, 0))) ∧ Aside0 (Below w.heap.size w wc))
          case first =>
           have H := HC23.out
           clear HC23
           by_cases c24 : x9_1 = 0
           ·rw [if_pos c24] at H
            have c24b0 : (x9_1 == 0) = true := beq_iff_eq.mpr c24
            have c24b1 : (x9_1 != 0) = false := bne_eq_false_iff_eq.mpr c24
            clear c24
            (first | rw [c24b0] | (simp only [i64_w, i32_w]; rw [c24b0]) | skip)
            have H' := Aside0.mk H
            clear H
            go_wp2
            go_meet
            case rel => exact ⟨_, (decide ((Int.tmod t452 3) > 0)), (by first | rfl | (simp; done) | (simp [*]; done)), H', ⟨by have := HK1.out; have := HJ13.out; first | omega | exact Nat.le_refl _⟩, ⟨by (with_reducible repeat (first | apply Kd.R_alloc | apply Kd.R_drewN | apply Kd.R_drew)); exact HO_7.out⟩, ⟨by (with_reducible repeat (first | apply Kd.R_alloc | apply Kd.R_drewN | apply Kd.R_drew)); exact HO_8.out⟩, ⟨by (with_reducible repeat (first | refine blk_drewN ?_ _ | refine blk_drew ?_ | refine blk_alloc ?_ _)); exact BK454.out⟩, ⟨by repeat (first | (with_reducible first | exact HB.out | apply below_alloc | apply pw_below_drewN | apply below_drew1 | refine below_set ?_ GE454.out) | exact HB.out)⟩⟩
           ·rw [if_neg c24] at H
            have c24b0 : (x9_1 == 0) = false := beq_eq_false_iff_ne.mpr c24
            have c24b1 : (x9_1 != 0) = true := bne_iff_ne.mpr c24
            (first | rw [c24b0] | (simp only [i64_w, i32_w]; rw [c24b0]) | skip)
            have H' := Aside0.mk H
            clear H
            go_wp2
            go_meet
            case rel => exact ⟨_, (false), (by first | rfl | (simp; done) | (simp [*]; done)), H', ⟨by have := HK1.out; have := HJ13.out; first | omega | exact Nat.le_refl _⟩, ⟨by (with_reducible repeat (first | apply Kd.R_alloc | apply Kd.R_drewN | apply Kd.R_drew)); exact HO_7.out⟩, ⟨by (with_reducible repeat (first | apply Kd.R_alloc | apply Kd.R_drewN | apply Kd.R_drew)); exact HO_8.out⟩, ⟨by (with_reducible repeat (first | refine blk_drewN ?_ _ | refine blk_drew ?_ | refine blk_alloc ?_ _)); exact BK454.out⟩, ⟨by repeat (first | (with_reducible first | exact HB.out | apply below_alloc | apply pw_below_drewN | apply below_drew1 | refine below_set ?_ GE454.out) | exact HB.out)⟩⟩
          case rest =>
           clear HC23
           try clear c1
           try clear c2
           try clear p2
           try clear c3
           try clear p4
           try clear q4
           try clear hx4
           try clear p6
           try clear c7
           try clear c7b0
           try clear c9
           try clear c9b0
           try clear c9b1
           try clear c11
           try clear c11b0
           try clear c12
           try clear c12b0
           try clear c13
           try clear c13b0
           try clear c13b1
           try clear c21
           try clear c21b0
           try clear c21b1
           try clear c24
           try clear c24b0
           try clear c24b1
           try clear hcz22_0
           try clear hcz22_1
           try clear hcz22_2
           try clear hfz22_0
           try clear hfz22_1
           try clear hfz22_2
           try clear hx453_0
           try clear p2
           try clear p4
           try clear p453
           try clear p6
           try clear q4
           try clear q453
           obtain ⟨kq, x57_22, rfl, HA, HJ22, HO_7, HO_8, BK454, HB⟩ := hcut
           cases kq with
           | zero => exact absurd HA.out (by simp [intervalmonref29_Rota.j2])
           | succ kj22 =>
            have H := HA.out
            clear HA
            simp only [intervalmonref29_Rota.j2] at H
            have HC25 := Aside0.mk H
            clear H
            go_upto_if 57 with (fail)
            go_cut [] (fun wc => ∃ (kq : Nat) (x455002_24 : Int), Aside0 (intervalmonref29_Rota.j3 kq l0 a1 (wrap64 (1 + t443)) y444 x8_1 x9_1 t452 (rdOf ByteArray.empty y444 (ji10)) x455001_13 x455002_24 = some (r1, r2)) ∧ Aside0 (kq ≤ kj22) ∧ Aside0 (Kd.R Kd.string 9 wc w.heap.size (fun _ => True) (.slice (some ad453) y444.length co16) y444) ∧ Aside0 (Kd.R k50 50 wc w.heap.size (fun k_ => k_ ≠ gb454) u8 x8_1) ∧ Aside0 (wc.heap[gb454]? = some (.cells #[.string (rdOf ByteArray.empty y444 (ji10)), .int .i64 x455001_13, .int .i64 x455002_24] 50 (0, 0))) ∧ Aside0 (Below w.heap.size w wc))
            case first =>
             have H := HC25.out
             clear HC25
             by_cases c26 : x57_22 = true
             ·subst c26
              have H1 : (intervalmonref29_Rota.j3 kj22 l0 a1 (wrap64 (1 + t443)) y444 x8_1 x9_1 t452 (rdOf ByteArray.empty y444 (ji10)) x455001_13 (wrap64 (1 + t443))) = some (r1, r2) := by rw [if_pos rfl] at H; exact H
              clear H
              have H := H1
              clear H1
              have H' := Aside0.mk H
              clear H
              have hcz27_0 : wc.cell? ⟨gb454, 0, none⟩ = some (.string (rdOf ByteArray.empty y444 (ji10))) := (blk_cell BK454.out 0).trans rfl
              have hcz27_1 : wc.cell? ⟨gb454, 1, none⟩ = some (.int .i64 x455001_13) := (blk_cell BK454.out 1).trans rfl
              have hcz27_2 : wc.cell? ⟨gb454, 2, none⟩ = some (.int .i64 (wrap64 ((wrap64 ((Int.tmod (wrap64 (Int.tdiv t452 4)) (wrap64 (1 + t443))) + 1)) + (Int.tmod (wrap64 (Int.tdiv t452 64)) (wrap64 ((wrap64 (1 + t443)) - (Int.tmod (wrap64 (Int.tdiv t452 4)) (wrap64 (1 + t443))))))))) := (blk_cell BK454.out 2).trans rfl
              have hfz27_0 := blk_frozen BK454.out 0
              have hfz27_1 := blk_frozen BK454.out 1
              have hfz27_2 := blk_frozen BK454.out 2
              go_wp2
              go_meet
              case rel => exact ⟨_, ((wrap64 (1 + t443))), H', ⟨by have := HK1.out; have := HJ13.out; have := HJ22.out; first | omega | exact Nat.le_refl _⟩, ⟨by (with_reducible repeat (first | apply Kd.R_alloc | apply Kd.R_drewN | apply Kd.R_drew)); exact Kd.R_mono (Kd.R_far (p := ⟨gb454, 2, none⟩) (Kd.R_types HO_7.out BK454.out (by decide)) (fun _ hk => hk.2) (.int .i64 (wrap64 (1 + t443)))) (fun _ hk => trivial)⟩, ⟨by (with_reducible repeat (first | apply Kd.R_alloc | apply Kd.R_drewN | apply Kd.R_drew)); exact Kd.R_mono (Kd.R_far (p := ⟨gb454, 2, none⟩) (Kd.R_mono HO_8.out (fun k_ hk => (⟨hk, hk⟩ : _ ∧ k_ ≠ gb454))) (fun _ hk => hk.2) (.int .i64 (wrap64 (1 + t443)))) (fun _ hk => hk.1)⟩, ⟨by (with_reducible repeat (first | refine blk_drewN ?_ _ | refine blk_drew ?_ | refine blk_alloc ?_ _)); refine blk_put (cs := #[.string (rdOf ByteArray.empty y444 (ji10)), .int .i64 x455001_13, .int .i64 (wrap64 ((wrap64 ((Int.tmod (wrap64 (Int.tdiv t452 4)) (wrap64 (1 + t443))) + 1)) + (Int.tmod (wrap64 (Int.tdiv t452 64)) (wrap64 ((wrap64 (1 + t443)) - (Int.tmod (wrap64 (Int.tdiv t452 4)) (wrap64 (1 + t443))))))))]) ?_ 2 _ rfl; (with_reducible repeat (first | refine blk_drewN ?_ _ | refine blk_drew ?_ | refine blk_alloc ?_ _)); exact BK454.out⟩, ⟨by repeat (first | (with_reducible first | exact HB.out | apply below_alloc | apply pw_below_drewN | apply below_drew1 | refine below_set ?_ GE454.out) | exact HB.out)⟩⟩
             ·replace c26 := Bool.eq_false_iff.mpr c26
              subst c26
              have H1 : (intervalmonref29_Rota.j3 kj22 l0 a1 (wrap64 (1 + t443)) y444 x8_1 x9_1 t452 (rdOf ByteArray.empty y444 (ji10)) x455001_13 (wrap64 ((wrap64 ((Int.tmod (wrap64 (Int.tdiv t452 4)) (wrap64 (1 + t443))) + 1)) + (Int.tmod (wrap64 (Int.tdiv t452 64)) (wrap64 ((wrap64 (1 + t443)) - (Int.tmod (wrap64 (Int.tdiv t452 4)) (wrap64 (1 + t443))))))))) = some (r1, r2) := by rw [if_neg (show ¬ (false = true) by decide)] at H; exact H
              clear H
              have H := H1
              clear H1
              have H' := Aside0.mk H
              clear H
              go_wp2
              go_meet
              case rel => exact ⟨_, ((wrap64 ((wrap64 ((Int.tmod (wrap64 (Int.tdiv t452 4)) (wrap64 (1 + t443))) + 1)) + (Int.tmod (wrap64 (Int.tdiv t452 64)) (wrap64 ((wrap64 (1 + t443)) - (Int.tmod (wrap64 (Int.tdiv t452 4)) (wrap64 (1 + t443))))))))), H', ⟨by have := HK1.out; have := HJ13.out; have := HJ22.out; first | omega | exact Nat.le_refl _⟩, ⟨by (with_reducible repeat (first | apply Kd.R_alloc | apply Kd.R_drewN | apply Kd.R_drew)); exact HO_7.out⟩, ⟨by (with_reducible repeat (first | apply Kd.R_alloc | apply Kd.R_drewN | apply Kd.R_drew)); exact HO_8.out⟩, ⟨by (with_reducible repeat (first | refine blk_drewN ?_ _ | refine blk_drew ?_ | refine blk_alloc ?_ _)); exact BK454.out⟩, ⟨by repeat (first | (with_reducible first | exact HB.out | apply below_alloc | apply pw_below_drewN | apply below_drew1 | refine below_set ?_ GE454.out) | exact HB.out)⟩⟩
            case rest =>
             clear HC25
             try clear c1
             try clear c2
             try clear p2
             try clear c3
             try clear p4
             try clear q4
             try clear hx4
             try clear p6
             try clear c7
             try clear c7b0
             try clear c9
             try clear c9b0
             try clear c9b1
             try clear c11
             try clear c11b0
             try clear c12
             try clear c12b0
             try clear c13
             try clear c13b0
             try clear c13b1
             try clear c21
             try clear c21b0
             try clear c21b1
             try clear c24
             try clear c24b0
             try clear c24b1
             try clear c26
             try clear hcz22_0
             try clear hcz22_1
             try clear hcz22_2
             try clear hcz27_0
             try clear hcz27_1
             try clear hcz27_2
             try clear hfz22_0
             try clear hfz22_1
             try clear hfz22_2
             try clear hfz27_0
             try clear hfz27_1
             try clear hfz27_2
             try clear hx453_0
             try clear p2
             try clear p4
             try clear p453
             try clear p6
             try clear q4
             try clear q453
             obtain ⟨kq, x455002_24, HA, HJ24, HO_7, HO_8, BK454, HB⟩ := hcut
             cases kq with
             | zero => exact absurd HA.out (by simp [intervalmonref29_Rota.j3])
             | succ kj24 =>
              have H := HA.out
              clear HA
              simp only [intervalmonref29_Rota.j3] at H
              have HC28 := Aside0.mk H
              clear H
              go_upto_region 14 with (fail)
              go_cut [66] (fun v66 wc => ∃ (kq : Nat) (x66_27 : Bool), v66 = .bool x66_27 ∧ Aside0 (intervalmonref29_Rota.j4 kq l0 a1 (wrap64 (1 + t443)) y444 x8_1 x9_1 t452 x66_27 (rdOf ByteArray.empty y444 (ji10)) x455001_13 x455002_24 = some (r1, r2)) ∧ Aside0 (kq ≤ kj24) ∧ Aside0 (Kd.R Kd.string 9 wc w.heap.size (fun _ => True) (.slice (some ad453) y444.length co16) y444) ∧ Aside0 (Kd.R k50 50 wc w.heap.size (fun k_ => k_ ≠ gb454) u8 x8_1) ∧ Aside0 (wc.heap[gb454]? = some (.cells #[.string (rdOf ByteArray.empty y444 (ji10)), .int .i64 x455001_13, .int .i64 x455002_24] 50 (0, 0))) ∧ Aside0 (Below w.heap.size w wc))
              case first =>
               have H := HC28.out
               clear HC28
               by_cases c29 : a1 = true
               ·subst c29
                have H1 : (intervalmonref29_Rota.j4 kj24 l0 true (wrap64 (1 + t443)) y444 x8_1 x9_1 t452 ((Int.tmod (wrap64 (Int.tdiv t452 1000)) 8) == 0) (rdOf ByteArray.empty y444 (ji10)) x455001_13 x455002_24) = some (r1, r2) := by rw [if_pos rfl] at H; exact H
                clear H
                have H := H1
                clear H1
                have H' := Aside0.mk H
                clear H
                go_wp2
                go_meet
                case rel => exact ⟨_, (((Int.tmod (wrap64 (Int.tdiv t452 1000)) 8) == 0)), (by first | rfl | (simp; done) | (simp [*]; done)), H', ⟨by have := HK1.out; have := HJ13.out; have := HJ22.out; have := HJ24.out; first | omega | exact Nat.le_refl _⟩, ⟨by (with_reducible repeat (first | apply Kd.R_alloc | apply Kd.R_drewN | apply Kd.R_drew)); exact HO_7.out⟩, ⟨by (with_reducible repeat (first | apply Kd.R_alloc | apply Kd.R_drewN | apply Kd.R_drew)); exact HO_8.out⟩, ⟨by (with_reducible repeat (first | refine blk_drewN ?_ _ | refine blk_drew ?_ | refine blk_alloc ?_ _)); exact BK454.out⟩, ⟨by repeat (first | (with_reducible first | exact HB.out | apply below_alloc | apply pw_below_drewN | apply below_drew1 | refine below_set ?_ GE454.out) | exact HB.out)⟩⟩
               ·replace c29 := Bool.eq_false_iff.mpr c29
                subst c29
                have H1 : (intervalmonref29_Rota.j4 kj24 l0 false (wrap64 (1 + t443)) y444 x8_1 x9_1 t452 false (rdOf ByteArray.empty y444 (ji10)) x455001_13 x455002_24) = some (r1, r2) := by rw [if_neg (show ¬ (false = true) by decide)] at H; exact H
                clear H
                have H := H1
                clear H1
                have H' := Aside0.mk H
                clear H
                go_wp2
                go_meet
                case rel => exact ⟨_, (false), (by first | rfl | (simp; done) | (simp [*]; done)), H', ⟨by have := HK1.out; have := HJ13.out; have := HJ22.out; have := HJ24.out; first | omega | exact Nat.le_refl _⟩, ⟨by (with_reducible repeat (first | apply Kd.R_alloc | apply Kd.R_drewN | apply Kd.R_drew)); exact HO_7.out⟩, ⟨by (with_reducible repeat (first | apply Kd.R_alloc | apply Kd.R_drewN | apply Kd.R_drew)); exact HO_8.out⟩, ⟨by (with_reducible repeat (first | refine blk_drewN ?_ _ | refine blk_drew ?_ | refine blk_alloc ?_ _)); exact BK454.out⟩, ⟨by repeat (first | (with_reducible first | exact HB.out | apply below_alloc | apply pw_below_drewN | apply below_drew1 | refine below_set ?_ GE454.out) | exact HB.out)⟩⟩
              case rest =>
               clear HC28
               try clear c1
               try clear c2
               try clear p2
               try clear c3
               try clear p4
               try clear q4
               try clear hx4
               try clear p6
               try clear c7
               try clear c7b0
               try clear c9
               try clear c9b0
               try clear c9b1
               try clear c11
               try clear c11b0
               try clear c12
               try clear c12b0
               try clear c13
               try clear c13b0
               try clear c13b1
               try clear c21
               try clear c21b0
               try clear c21b1
               try clear c24
               try clear c24b0
               try clear c24b1
               try clear c26
               try clear c29
               try clear hcz22_0
               try clear hcz22_1
               try clear hcz22_2
               try clear hcz27_0
               try clear hcz27_1
               try clear hcz27_2
               try clear hfz22_0
               try clear hfz22_1
               try clear hfz22_2
               try clear hfz27_0
               try clear hfz27_1
               try clear hfz27_2
               try clear hx453_0
               try clear p2
               try clear p4
               try clear p453
               try clear p6
               try clear q4
               try clear q453
               obtain ⟨kq, x66_27, rfl, HA, HJ27, HO_7, HO_8, BK454, HB⟩ := hcut
               cases kq with
               | zero => exact absurd HA.out (by simp [intervalmonref29_Rota.j4])
               | succ kj27 =>
                have H := HA.out
                clear HA
                simp only [intervalmonref29_Rota.j4] at H
                have HC30 := Aside0.mk H
                clear H
                go_upto_if 66 with (fail)
                go_cut [] (fun wc => ∃ (kq : Nat) (x455001_29 : Int), Aside0 (intervalmonref29_Rota.j5 kq l0 a1 (wrap64 (1 + t443)) y444 x8_1 x9_1 t452 (rdOf ByteArray.empty y444 (ji10)) x455001_29 x455002_24 = some (r1, r2)) ∧ Aside0 (kq ≤ kj27) ∧ Aside0 (Kd.R Kd.string 9 wc w.heap.size (fun _ => True) (.slice (some ad453) y444.length co16) y444) ∧ Aside0 (Kd.R k50 50 wc w.heap.size (fun k_ => k_ ≠ gb454) u8 x8_1) ∧ Aside0 (wc.heap[gb454]? = some (.cells #[.string (rdOf ByteArray.empty y444 (ji10)), .int .i64 x455001_29, .int .i64 x455002_24] 50 (0, 0))) ∧ Aside0 (Below w.heap.size w wc))
                case first =>
                 have H := HC30.out
                 clear HC30
                 by_cases c31 : x66_27 = true
                 ·subst c31
                  have H1 : (intervalmonref29_Rota.j5 kj27 l0 a1 (wrap64 (1 + t443)) y444 x8_1 x9_1 t452 (rdOf ByteArray.empty y444 (ji10)) (wrap64 (x455001_13 - (Int.tmod (wrap64 (Int.tdiv t452 8000)) 3))) x455002_24) = some (r1, r2) := by rw [if_pos rfl] at H; exact H
                  clear H
                  have H := H1
                  clear H1
                  have H' := Aside0.mk H
                  clear H
                  have hcz32_0 : wc.cell? ⟨gb454, 0, none⟩ = some (.string (rdOf ByteArray.empty y444 (ji10))) := (blk_cell BK454.out 0).trans rfl
                  have hcz32_1 : wc.cell? ⟨gb454, 1, none⟩ = some (.int .i64 x455001_13) := (blk_cell BK454.out 1).trans rfl
                  have hcz32_2 : wc.cell? ⟨gb454, 2, none⟩ = some (.int .i64 x455002_24) := (blk_cell BK454.out 2).trans rfl
                  have hfz32_0 := blk_frozen BK454.out 0
                  have hfz32_1 := blk_frozen BK454.out 1
                  have hfz32_2 := blk_frozen BK454.out 2
                  go_wp2
                  go_meet
                  case rel => exact ⟨_, (wrap64 (x455001_13 - (Int.tmod (wrap64 (Int.tdiv t452 8000)) 3))), H', ⟨by have := HK1.out; have := HJ13.out; have := HJ22.out; have := HJ24.out; have := HJ27.out; first | omega | exact Nat.le_refl _⟩, ⟨by (with_reducible repeat (first | apply Kd.R_alloc | apply Kd.R_drewN | apply Kd.R_drew)); exact Kd.R_mono (Kd.R_far (p := ⟨gb454, 1, none⟩) (Kd.R_types HO_7.out BK454.out (by decide)) (fun _ hk => hk.2) (.int .i64 (wrap64 (x455001_13 - (Int.tmod (wrap64 (Int.tdiv t452 8000)) 3))))) (fun _ hk => trivial)⟩, ⟨by (with_reducible repeat (first | apply Kd.R_alloc | apply Kd.R_drewN | apply Kd.R_drew)); exact Kd.R_mono (Kd.R_far (p := ⟨gb454, 1, none⟩) (Kd.R_mono HO_8.out (fun k_ hk => (⟨hk, hk⟩ : _ ∧ k_ ≠ gb454))) (fun _ hk => hk.2) (.int .i64 (wrap64 (x455001_13 - (Int.tmod (wrap64 (Int.tdiv t452 8000)) 3))))) (fun _ hk => hk.1)⟩, ⟨by (with_reducible repeat (first | refine blk_drewN ?_ _ | refine blk_drew ?_ | refine blk_alloc ?_ _)); refine blk_put (cs := #[.string (rdOf ByteArray.empty y444 (ji10)), .int .i64 x455001_13, .int .i64 x455002_24]) ?_ 1 _ rfl; (with_reducible repeat (first | refine blk_drewN ?_ _ | refine blk_drew ?_ | refine blk_alloc ?_ _)); exact BK454.out⟩, ⟨by repeat (first | (with_reducible first | exact HB.out | apply below_alloc | apply pw_below_drewN | apply below_drew1 | refine below_set ?_ GE454.out) | exact HB.out)⟩⟩
                 ·replace c31 := Bool.eq_false_iff.mpr c31
                  subst c31
                  have H1 : (intervalmonref29_Rota.j5 kj27 l0 a1 (wrap64 (1 + t443)) y444 x8_1 x9_1 t452 (rdOf ByteArray.empty y444 (ji10)) x455001_13 x455002_24) = some (r1, r2) := by rw [if_neg (show ¬ (false = true) by decide)] at H; exact H
                  clear H
                  have H := H1
                  clear H1
                  have H' := Aside0.mk H
                  clear H
                  go_wp2
                  go_meet
                  case rel => exact ⟨_, (x455001_13), H', ⟨by have := HK1.out; have := HJ13.out; have := HJ22.out; have := HJ24.out; have := HJ27.out; first | omega | exact Nat.le_refl _⟩, ⟨by (with_reducible repeat (first | apply Kd.R_alloc | apply Kd.R_drewN | apply Kd.R_drew)); exact HO_7.out⟩, ⟨by (with_reducible repeat (first | apply Kd.R_alloc | apply Kd.R_drewN | apply Kd.R_drew)); exact HO_8.out⟩, ⟨by (with_reducible repeat (first | refine blk_drewN ?_ _ | refine blk_drew ?_ | refine blk_alloc ?_ _)); exact BK454.out⟩, ⟨by repeat (first | (with_reducible first | exact HB.out | apply below_alloc | apply pw_below_drewN | apply below_drew1 | refine below_set ?_ GE454.out) | exact HB.out)⟩⟩
                case rest =>
                 clear HC30
                 try clear c1
                 try clear c2
                 try clear p2
                 try clear c3
                 try clear p4
                 try clear q4
                 try clear hx4
                 try clear p6
                 try clear c7
                 try clear c7b0
                 try clear c9
                 try clear c9b0
                 try clear c9b1
                 try clear c11
                 try clear c11b0
                 try clear c12
                 try clear c12b0
                 try clear c13
                 try clear c13b0
                 try clear c13b1
                 try clear c21
                 try clear c21b0
                 try clear c21b1
                 try clear c24
                 try clear c24b0
                 try clear c24b1
                 try clear c26
                 try clear c29
                 try clear c31
                 try clear hcz22_0
                 try clear hcz22_1
                 try clear hcz22_2
                 try clear hcz27_0
                 try clear hcz27_1
                 try clear hcz27_2
                 try clear hcz32_0
                 try clear hcz32_1
                 try clear hcz32_2
                 try clear hfz22_0
                 try clear hfz22_1
                 try clear hfz22_2
                 try clear hfz27_0
                 try clear hfz27_1
                 try clear hfz27_2
                 try clear hfz32_0
                 try clear hfz32_1
                 try clear hfz32_2
                 try clear hx453_0
                 try clear p2
                 try clear p4
                 try clear p453
                 try clear p6
                 try clear q4
                 try clear q453
                 obtain ⟨kq, x455001_29, HA, HJ29, HO_7, HO_8, BK454, HB⟩ := hcut
                 cases kq with
                 | zero => exact absurd HA.out (by simp [intervalmonref29_Rota.j5])
                 | succ kj29 =>
                  have H := HA.out
                  clear HA
                  simp only [intervalmonref29_Rota.j5] at H
                  have HC33 := Aside0.mk H
                  clear H
                  go_upto_region 16 with (fail)
                  go_cut [80] (fun v80 wc => ∃ (kq : Nat) (x80_32 : Bool), v80 = .bool x80_32 ∧ Aside0 (intervalmonref29_Rota.j6 kq l0 a1 (wrap64 (1 + t443)) y444 x8_1 x9_1 t452 x80_32 (rdOf ByteArray.empty y444 (ji10)) x455001_29 x455002_24 = some (r1, r2)) ∧ Aside0 (kq ≤ kj29) ∧ Aside0 (Kd.R Kd.string 9 wc w.heap.size (fun _ => True) (.slice (some ad453) y444.length co16) y444) ∧ Aside0 (Kd.R k50 50 wc w.heap.size (fun k_ => k_ ≠ gb454) u8 x8_1) ∧ Aside0 (wc.heap[gb454]? = some (.cells #[.string (rdOf ByteArray.empty y444 (ji10)), .int .i64 x455001_29, .int .i64 x455002_24] 50 (0, 0))) ∧ Aside0 (Below w.heap.size w wc))
                  case first =>
                   have H := HC33.out
                   clear HC33
                   by_cases c34 : a1 = true
                   ·subst c34
                    have H1 : (intervalmonref29_Rota.j6 kj29 l0 true (wrap64 (1 + t443)) y444 x8_1 x9_1 t452 ((Int.tmod (wrap64 (Int.tdiv t452 1000)) 8) == 1) (rdOf ByteArray.empty y444 (ji10)) x455001_29 x455002_24) = some (r1, r2) := by rw [if_pos rfl] at H; exact H
                    clear H
                    have H := H1
                    clear H1
                    have H' := Aside0.mk H
                    clear H
                    go_wp2
                    go_meet
                    case rel => exact ⟨_, (((Int.tmod (wrap64 (Int.tdiv t452 1000)) 8) == 1)), (by first | rfl | (simp; done) | (simp [*]; done)), H', ⟨by have := HK1.out; have := HJ13.out; have := HJ22.out; have := HJ24.out; have := HJ27.out; have := HJ29.out; first | omega | exact Nat.le_refl _⟩, ⟨by (with_reducible repeat (first | apply Kd.R_alloc | apply Kd.R_drewN | apply Kd.R_drew)); exact HO_7.out⟩, ⟨by (with_reducible repeat (first | apply Kd.R_alloc | apply Kd.R_drewN | apply Kd.R_drew)); exact HO_8.out⟩, ⟨by (with_reducible repeat (first | refine blk_drewN ?_ _ | refine blk_drew ?_ | refine blk_alloc ?_ _)); exact BK454.out⟩, ⟨by repeat (first | (with_reducible first | exact HB.out | apply below_alloc | apply pw_below_drewN | apply below_drew1 | refine below_set ?_ GE454.out) | exact HB.out)⟩⟩
                   ·replace c34 := Bool.eq_false_iff.mpr c34
                    subst c34
                    have H1 : (intervalmonref29_Rota.j6 kj29 l0 false (wrap64 (1 + t443)) y444 x8_1 x9_1 t452 false (rdOf ByteArray.empty y444 (ji10)) x455001_29 x455002_24) = some (r1, r2) := by rw [if_neg (show ¬ (false = true) by decide)] at H; exact H
                    clear H
                    have H := H1
                    clear H1
                    have H' := Aside0.mk H
                    clear H
                    go_wp2
                    go_meet
                    case rel => exact ⟨_, (false), (by first | rfl | (simp; done) | (simp [*]; done)), H', ⟨by have := HK1.out; have := HJ13.out; have := HJ22.out; have := HJ24.out; have := HJ27.out; have := HJ29.out; first | omega | exact Nat.le_refl _⟩, ⟨by (with_reducible repeat (first | apply Kd.R_alloc | apply Kd.R_drewN | apply Kd.R_drew)); exact HO_7.out⟩, ⟨by (with_reducible repeat (first | apply Kd.R_alloc | apply Kd.R_drewN | apply Kd.R_drew)); exact HO_8.out⟩, ⟨by (with_reducible repeat (first | refine blk_drewN ?_ _ | refine blk_drew ?_ | refine blk_alloc ?_ _)); exact BK454.out⟩, ⟨by repeat (first | (with_reducible first | exact HB.out | apply below_alloc | apply pw_below_drewN | apply below_drew1 | refine below_set ?_ GE454.out) | exact HB.out)⟩⟩
                  case rest =>
                   clear HC33
                   try clear c1
                   try clear c2
                   try clear p2
                   try clear c3
                   try clear p4
                   try clear q4
                   try clear hx4
                   try clear p6
                   try clear c7
                   try clear c7b0
                   try clear c9
                   try clear c9b0
                   try clear c9b1
                   try clear c11
                   try clear c11b0
                   try clear c12
                   try clear c12b0
                   try clear c13
                   try clear c13b0
                   try clear c13b1
                   try clear c21
                   try clear c21b0
                   try clear c21b1
                   try clear c24
                   try clear c24b0
                   try clear c24b1
                   try clear c26
                   try clear c29
                   try clear c31
                   try clear c34
                   try clear hcz22_0
                   try clear hcz22_1
                   try clear hcz22_2
                   try clear hcz27_0
                   try clear hcz27_1
                   try clear hcz27_2
                   try clear hcz32_0
                   try clear hcz32_1
                   try clear hcz32_2
                   try clear hfz22_0
                   try clear hfz22_1
                   try clear hfz22_2
                   try clear hfz27_0
                   try clear hfz27_1
                   try clear hfz27_2
                   try clear hfz32_0
                   try clear hfz32_1
                   try clear hfz32_2
                   try clear hx453_0
                   try clear p2
                   try clear p4
                   try clear p453
                   try clear p6
                   try clear q4
                   try clear q453
                   obtain ⟨kq, x80_32, rfl, HA, HJ32, HO_7, HO_8, BK454, HB⟩ := hcut
                   cases kq with
                   | zero => exact absurd HA.out (by simp [intervalmonref29_Rota.j6])
                   | succ kj32 =>
                    have H := HA.out
                    clear HA
                    simp only [intervalmonref29_Rota.j6] at H
                    by_cases c35 : x80_32 = true
                    ·subst c35
                     have H1 : (if a1 = true then (if (Int.tmod (wrap64 (Int.tdiv t452 1000)) 16) = 2 then (if x8_1.length < 4398046511104 then (intervalmonref29_Rota.l0 kj32 l0 a1 (wrap64 (1 + t443)) y444 (x8_1 ++ [(⟨(⟨#[65]⟩ : ByteArray), x455001_29, wrap64 ((wrap64 (x455002_24 + (Int.tmod (wrap64 (Int.tdiv t452 8000)) 3))) - 1)⟩ : S50)]) (wrap64 (x9_1 + 1))) else (none)) else (if x8_1.length < 4398046511104 then (intervalmonref29_Rota.l0 kj32 l0 a1 (wrap64 (1 + t443)) y444 (x8_1 ++ [(⟨(rdOf ByteArray.empty y444 (ji10)), x455001_29, wrap64 ((wrap64 (x455002_24 + (Int.tmod (wrap64 (Int.tdiv t452 8000)) 3))) - 1)⟩ : S50)]) (wrap64 (x9_1 + 1))) else (none))) else (if x8_1.length < 4398046511104 then (intervalmonref29_Rota.l0 kj32 l0 a1 (wrap64 (1 + t443)) y444 (x8_1 ++ [(⟨(rdOf ByteArray.empty y444 (ji10)), x455001_29, wrap64 ((wrap64 (x455002_24 + (Int.tmod (wrap64 (Int.tdiv t452 8000)) 3))) - 1)⟩ : S50)]) (wrap64 (x9_1 + 1))) else (none))) = some (r1, r2) := by rw [if_pos rfl] at H; exact H
                     clear H
                     have H := H1
                     clear H1
                     by_cases c36 : a1 = true
                     ·subst c36
                      have H1 : (if (Int.tmod (wrap64 (Int.tdiv t452 1000)) 16) = 2 then (if x8_1.length < 4398046511104 then (intervalmonref29_Rota.l0 kj32 l0 true (wrap64 (1 + t443)) y444 (x8_1 ++ [(⟨(⟨#[65]⟩ : ByteArray), x455001_29, wrap64 ((wrap64 (x455002_24 + (Int.tmod (wrap64 (Int.tdiv t452 8000)) 3))) - 1)⟩ : S50)]) (wrap64 (x9_1 + 1))) else (none)) else (if x8_1.length < 4398046511104 then (intervalmonref29_Rota.l0 kj32 l0 true (wrap64 (1 + t443)) y444 (x8_1 ++ [(⟨(rdOf ByteArray.empty y444 (ji10)), x455001_29, wrap64 ((wrap64 (x455002_24 + (Int.tmod (wrap64 (Int.tdiv t452 8000)) 3))) - 1)⟩ : S50)]) (wrap64 (x9_1 + 1))) else (none))) = some (r1, r2) := by rw [if_pos rfl] at H; exact H
                      clear H
                      have H := H1
                      clear H1
                      by_cases c37 : (Int.tmod (wrap64 (Int.tdiv t452 1000)) 16) = 2
                      ·rw [if_pos c37] at H
                       have c37b0 : ((Int.tmod (wrap64 (Int.tdiv t452 1000)) 16) == 2) = true := beq_iff_eq.mpr c37
                       have c37b1 : ((Int.tmod (wrap64 (Int.tdiv t452 1000)) 16) != 2) = false := bne_eq_false_iff_eq.mpr c37
                       clear c37
                       by_cases c38 : x8_1.length < 4398046511104
                       ·rw [if_pos c38] at H
                        have LMc38 := Aside0.mk c38
                        clear c38
                        obtain ⟨y455, hy455⟩ : ∃ y_ : List (S50), y_ = (x8_1 ++ [(⟨(⟨#[65]⟩ : ByteArray), x455001_29, wrap64 ((wrap64 (x455002_24 + (Int.tmod (wrap64 (Int.tdiv t452 8000)) 3))) - 1)⟩ : S50)]) := ⟨_, rfl⟩
                        replace H : (intervalmonref29_Rota.l0 kj32 l0 true (wrap64 (1 + t443)) y444 y455 (wrap64 (x9_1 + 1))) = some (r1, r2) := by first | (rw [hy455]; with_reducible exact H) | (have H2_ := (Option.bind_some _ _).symm.trans H; rw [hy455]; with_reducible exact H2_) | (have H2_ := (Option.bind_some _ _).symm.trans H; with_reducible exact H2_) | with_reducible exact H | (rw [hy455]; exact H) | exact H
                        have Ny455 := Aside0.mk hy455
                        clear hy455
                        have H' := Aside0.mk H
                        clear H
                        have hcz39_0 : wc.cell? ⟨gb454, 0, none⟩ = some (.string (rdOf ByteArray.empty y444 (ji10))) := (blk_cell BK454.out 0).trans rfl
                        have hcz39_1 : wc.cell? ⟨gb454, 1, none⟩ = some (.int .i64 x455001_29) := (blk_cell BK454.out 1).trans rfl
                        have hcz39_2 : wc.cell? ⟨gb454, 2, none⟩ = some (.int .i64 x455002_24) := (blk_cell BK454.out 2).trans rfl
                        have hfz39_0 := blk_frozen BK454.out 0
                        have hfz39_1 := blk_frozen BK454.out 1
                        have hfz39_2 := blk_frozen BK454.out 2
                        go_wp2_with (first | ((with_reducible refine gate_builtin (b := .append) (xs := #[.tmp 97, .tmp 99]) rfl ?_); at_builtin; refine Kd.R_append k50 (w0 := w) w.heap.size rfl (.tmp 97) (.tmp 99) 45 50 (.agg #[(.string ⟨#[]⟩), (.int .i64 0), (.int .i64 0)]) 32 rfl Try.underlying45 info50 rfl (by decide) (by omega) u8 x8_1 (⟨(⟨#[65]⟩ : ByteArray), x455001_29, wrap64 ((wrap64 (x455002_24 + (Int.tmod (wrap64 (Int.tdiv t452 8000)) 3))) - 1)⟩ : S50) [.string (⟨#[65]⟩ : ByteArray), .int .i64 x455001_29, .int .i64 (wrap64 ((wrap64 (x455002_24 + (Int.tmod (wrap64 (Int.tdiv t452 8000)) 3))) - 1))] (fun k_ => k_ ≠ gb454) (fun _ => False) rfl (by first | (go_simp; done) | (go_simp; rfl)) ?aP (fun _ hk => hk.elim) ?aF ?aO ?aB ?aS ?aL ?_; (case aP => exact k50_mkM _ _ _ (⟨(⟨#[65]⟩ : ByteArray), x455001_29, wrap64 ((wrap64 (x455002_24 + (Int.tmod (wrap64 (Int.tdiv t452 8000)) 3))) - 1)⟩ : S50)); (case aB => exact (hq HB)); (case aF => exact (fun k_ hk => Kd.freshB (g := gb454) (o := .cells #[.string (⟨#[65]⟩ : ByteArray), .int .i64 x455001_29, .int .i64 (wrap64 ((wrap64 (x455002_24 + (Int.tmod (wrap64 (Int.tdiv t452 8000)) 3))) - 1))] 50 (0, 0)) (by (with_reducible repeat (first | refine blk_drewN ?_ _ | refine blk_drew ?_ | refine blk_alloc ?_ _)); refine blk_put (cs := #[.string (rdOf ByteArray.empty y444 (ji10)), .int .i64 x455001_29, .int .i64 (wrap64 ((wrap64 (x455002_24 + (Int.tmod (wrap64 (Int.tdiv t452 8000)) 3))) - 1))]) ?_ 0 _ rfl; (with_reducible repeat (first | refine blk_drewN ?_ _ | refine blk_drew ?_ | refine blk_alloc ?_ _)); refine blk_put (cs := #[.string (rdOf ByteArray.empty y444 (ji10)), .int .i64 x455001_29, .int .i64 x455002_24]) ?_ 2 _ rfl; (with_reducible repeat (first | refine blk_drewN ?_ _ | refine blk_drew ?_ | refine blk_alloc ?_ _)); exact BK454.out) k_ hk)); (case aO => exact (by (with_reducible repeat (first | apply Kd.R_alloc | apply Kd.R_drewN | apply Kd.R_drew)); exact Kd.R_mono (Kd.R_far (p := ⟨gb454, 0, none⟩) (Kd.R_far (p := ⟨gb454, 2, none⟩) (Kd.R_mono HO_8.out (fun k_ hk => (⟨hk, hk⟩ : _ ∧ k_ ≠ gb454))) (fun _ hk => hk.2) (.int .i64 (wrap64 ((wrap64 (x455002_24 + (Int.tmod (wrap64 (Int.tdiv t452 8000)) 3))) - 1)))) (fun _ hk => hk.2) (.string (⟨#[65]⟩ : ByteArray))) (fun _ hk => hk.1))); (case aS => exact (below_size (hq HB))); (case aL => have := LMc38.out; omega); intro v456 w40 ho hb hg hat; rw [← Ny455.out] at ho; have n0_ := Aside0.mk (Kd.R_over' (by (with_reducible repeat (first | apply Kd.R_alloc | apply Kd.R_drewN | apply Kd.R_drew)); exact (Kd.R_mono (Kd.R_far (p := ⟨gb454, 0, none⟩) (Kd.R_far (p := ⟨gb454, 2, none⟩) (Kd.R_types HO_7.out BK454.out (by decide)) (fun _ hk => hk.2) (.int .i64 (wrap64 ((wrap64 (x455002_24 + (Int.tmod (wrap64 (Int.tdiv t452 8000)) 3))) - 1)))) (fun _ hk => hk.2) (.string (⟨#[65]⟩ : ByteArray))) (fun _ h_ => h_.1))) (Kd.R_typed (by (with_reducible repeat (first | apply Kd.R_alloc | apply Kd.R_drewN | apply Kd.R_drew)); exact (Kd.R_mono (Kd.R_far (p := ⟨gb454, 0, none⟩) (Kd.R_far (p := ⟨gb454, 2, none⟩) (Kd.R_mono HO_8.out (fun k_ hk => (⟨hk, hk⟩ : _ ∧ k_ ≠ gb454))) (fun _ hk => hk.2) (.int .i64 (wrap64 ((wrap64 (x455002_24 + (Int.tmod (wrap64 (Int.tdiv t452 8000)) 3))) - 1)))) (fun _ hk => hk.2) (.string (⟨#[65]⟩ : ByteArray))) (fun _ h_ => h_.1)))) (by decide) hg); have n1_ := Aside0.mk (blk_grown (g := gb454) (o := .cells #[.string (⟨#[65]⟩ : ByteArray), .int .i64 x455001_29, .int .i64 (wrap64 ((wrap64 (x455002_24 + (Int.tmod (wrap64 (Int.tdiv t452 8000)) 3))) - 1))] 50 (0, 0)) (by (with_reducible repeat (first | refine blk_drewN ?_ _ | refine blk_drew ?_ | refine blk_alloc ?_ _)); refine blk_put (cs := #[.string (rdOf ByteArray.empty y444 (ji10)), .int .i64 x455001_29, .int .i64 (wrap64 ((wrap64 (x455002_24 + (Int.tmod (wrap64 (Int.tdiv t452 8000)) 3))) - 1))]) ?_ 0 _ rfl; (with_reducible repeat (first | refine blk_drewN ?_ _ | refine blk_drew ?_ | refine blk_alloc ?_ _)); refine blk_put (cs := #[.string (rdOf ByteArray.empty y444 (ji10)), .int .i64 x455001_29, .int .i64 x455002_24]) ?_ 2 _ rfl; (with_reducible repeat (first | refine blk_drewN ?_ _ | refine blk_drew ?_ | refine blk_alloc ?_ _)); exact BK454.out) hg (Kd.R_away HO_8.out (fun _ hk => hk))); have n2_ := Aside0.mk (hb); have n3_ := Aside0.mk (ho); clear HO_7; clear BK454; clear HB; clear HO_8; have HO_7 := n0_; have BK454 := n1_; have HB := n2_; have HO457 := n3_; clear n0_ n1_ n2_ n3_; clear ho hb hg hat))
                        go_roundg kj32
                        case measure => have := HK1.out; have := HJ13.out; have := HJ22.out; have := HJ24.out; have := HJ27.out; have := HJ29.out; have := HJ32.out; omega
                        case rel => exact ⟨(y455), (wrap64 (x9_1 + 1)), (by first | rfl | (simp; done) | (simp [*]; done)), H', ⟨by have := HK1.out; have := HJ13.out; have := HJ22.out; have := HJ24.out; have := HJ27.out; have := HJ29.out; have := HJ32.out; omega⟩, ⟨by (with_reducible repeat (first | apply Kd.R_alloc | apply Kd.R_drewN | apply Kd.R_drew)); exact HO_7.out⟩, ⟨by (with_reducible repeat (first | apply Kd.R_alloc | apply Kd.R_drewN | apply Kd.R_drew)); exact Kd.R_mono HO457.out (fun _ hk => trivial)⟩, ⟨by repeat (first | (with_reducible first | exact HB.out | apply below_alloc | apply pw_below_drewN | apply below_drew1 | refine below_set ?_ GE454.out) | exact HB.out)⟩⟩
                       ·rw [if_neg c38] at H
                        exact absurd H (by simp)
                      ·rw [if_neg c37] at H
                       have c37b0 : ((Int.tmod (wrap64 (Int.tdiv t452 1000)) 16) == 2) = false := beq_eq_false_iff_ne.mpr c37
                       have c37b1 : ((Int.tmod (wrap64 (Int.tdiv t452 1000)) 16) != 2) = true := bne_iff_ne.mpr c37
                       by_cases c41 : x8_1.length < 4398046511104
                       ·rw [if_pos c41] at H
                        have LMc41 := Aside0.mk c41
                        clear c41
                        obtain ⟨y458, hy458⟩ : ∃ y_ : List (S50), y_ = (x8_1 ++ [(⟨(rdOf ByteArray.empty y444 (ji10)), x455001_29, wrap64 ((wrap64 (x455002_24 + (Int.tmod (wrap64 (Int.tdiv t452 8000)) 3))) - 1)⟩ : S50)]) := ⟨_, rfl⟩
                        replace H : (intervalmonref29_Rota.l0 kj32 l0 true (wrap64 (1 + t443)) y444 y458 (wrap64 (x9_1 + 1))) = some (r1, r2) := by first | (rw [hy458]; with_reducible exact H) | (have H2_ := (Option.bind_some _ _).symm.trans H; rw [hy458]; with_reducible exact H2_) | (have H2_ := (Option.bind_some _ _).symm.trans H; with_reducible exact H2_) | with_reducible exact H | (rw [hy458]; exact H) | exact H
                        have Ny458 := Aside0.mk hy458
                        clear hy458
                        have H' := Aside0.mk H
                        clear H
                        have hcz42_0 : wc.cell? ⟨gb454, 0, none⟩ = some (.string (rdOf ByteArray.empty y444 (ji10))) := (blk_cell BK454.out 0).trans rfl
                        have hcz42_1 : wc.cell? ⟨gb454, 1, none⟩ = some (.int .i64 x455001_29) := (blk_cell BK454.out 1).trans rfl
                        have hcz42_2 : wc.cell? ⟨gb454, 2, none⟩ = some (.int .i64 x455002_24) := (blk_cell BK454.out 2).trans rfl
                        have hfz42_0 := blk_frozen BK454.out 0
                        have hfz42_1 := blk_frozen BK454.out 1
                        have hfz42_2 := blk_frozen BK454.out 2
                        go_wp2_with (first | ((with_reducible refine gate_builtin (b := .append) (xs := #[.tmp 97, .tmp 99]) rfl ?_); at_builtin; refine Kd.R_append k50 (w0 := w) w.heap.size rfl (.tmp 97) (.tmp 99) 45 50 (.agg #[(.string ⟨#[]⟩), (.int .i64 0), (.int .i64 0)]) 32 rfl Try.underlying45 info50 rfl (by decide) (by omega) u8 x8_1 (⟨(rdOf ByteArray.empty y444 (ji10)), x455001_29, wrap64 ((wrap64 (x455002_24 + (Int.tmod (wrap64 (Int.tdiv t452 8000)) 3))) - 1)⟩ : S50) [.string (rdOf ByteArray.empty y444 (ji10)), .int .i64 x455001_29, .int .i64 (wrap64 ((wrap64 (x455002_24 + (Int.tmod (wrap64 (Int.tdiv t452 8000)) 3))) - 1))] (fun k_ => k_ ≠ gb454) (fun _ => False) rfl (by first | (go_simp; done) | (go_simp; rfl)) ?aP (fun _ hk => hk.elim) ?aF ?aO ?aB ?aS ?aL ?_; (case aP => exact k50_mkM _ _ _ (⟨(rdOf ByteArray.empty y444 (ji10)), x455001_29, wrap64 ((wrap64 (x455002_24 + (Int.tmod (wrap64 (Int.tdiv t452 8000)) 3))) - 1)⟩ : S50)); (case aB => exact (hq HB)); (case aF => exact (fun k_ hk => Kd.freshB (g := gb454) (o := .cells #[.string (rdOf ByteArray.empty y444 (ji10)), .int .i64 x455001_29, .int .i64 (wrap64 ((wrap64 (x455002_24 + (Int.tmod (wrap64 (Int.tdiv t452 8000)) 3))) - 1))] 50 (0, 0)) (by (with_reducible repeat (first | refine blk_drewN ?_ _ | refine blk_drew ?_ | refine blk_alloc ?_ _)); refine blk_put (cs := #[.string (rdOf ByteArray.empty y444 (ji10)), .int .i64 x455001_29, .int .i64 x455002_24]) ?_ 2 _ rfl; (with_reducible repeat (first | refine blk_drewN ?_ _ | refine blk_drew ?_ | refine blk_alloc ?_ _)); exact BK454.out) k_ hk)); (case aO => exact (by (with_reducible repeat (first | apply Kd.R_alloc | apply Kd.R_drewN | apply Kd.R_drew)); exact Kd.R_mono (Kd.R_far (p := ⟨gb454, 2, none⟩) (Kd.R_mono HO_8.out (fun k_ hk => (⟨hk, hk⟩ : _ ∧ k_ ≠ gb454))) (fun _ hk => hk.2) (.int .i64 (wrap64 ((wrap64 (x455002_24 + (Int.tmod (wrap64 (Int.tdiv t452 8000)) 3))) - 1)))) (fun _ hk => hk.1))); (case aS => exact (below_size (hq HB))); (case aL => have := LMc41.out; omega); intro v459 w43 ho hb hg hat; rw [← Ny458.out] at ho; have n0_ := Aside0.mk (Kd.R_over' (by (with_reducible repeat (first | apply Kd.R_alloc | apply Kd.R_drewN | apply Kd.R_drew)); exact (Kd.R_mono (Kd.R_far (p := ⟨gb454, 2, none⟩) (Kd.R_types HO_7.out BK454.out (by decide)) (fun _ hk => hk.2) (.int .i64 (wrap64 ((wrap64 (x455002_24 + (Int.tmod (wrap64 (Int.tdiv t452 8000)) 3))) - 1)))) (fun _ h_ => h_.1))) (Kd.R_typed (by (with_reducible repeat (first | apply Kd.R_alloc | apply Kd.R_drewN | apply Kd.R_drew)); exact (Kd.R_mono (Kd.R_far (p := ⟨gb454, 2, none⟩) (Kd.R_mono HO_8.out (fun k_ hk => (⟨hk, hk⟩ : _ ∧ k_ ≠ gb454))) (fun _ hk => hk.2) (.int .i64 (wrap64 ((wrap64 (x455002_24 + (Int.tmod (wrap64 (Int.tdiv t452 8000)) 3))) - 1)))) (fun _ h_ => h_.1)))) (by decide) hg); have n1_ := Aside0.mk (blk_grown (g := gb454) (o := .cells #[.string (rdOf ByteArray.empty y444 (ji10)), .int .i64 x455001_29, .int .i64 (wrap64 ((wrap64 (x455002_24 + (Int.tmod (wrap64 (Int.tdiv t452 8000)) 3))) - 1))] 50 (0, 0)) (by (with_reducible repeat (first | refine blk_drewN ?_ _ | refine blk_drew ?_ | refine blk_alloc ?_ _)); refine blk_put (cs := #[.string (rdOf ByteArray.empty y444 (ji10)), .int .i64 x455001_29, .int .i64 x455002_24]) ?_ 2 _ rfl; (with_reducible repeat (first | refine blk_drewN ?_ _ | refine blk_drew ?_ | refine blk_alloc ?_ _)); exact BK454.out) hg (Kd.R_away HO_8.out (fun _ hk => hk))); have n2_ := Aside0.mk (hb); have n3_ := Aside0.mk (ho); clear HO_7; clear BK454; clear HB; clear HO_8; have HO_7 := n0_; have BK454 := n1_; have HB := n2_; have HO460 := n3_; clear n0_ n1_ n2_ n3_; clear ho hb hg hat))
                        go_roundg kj32
                        case measure => have := HK1.out; have := HJ13.out; have := HJ22.out; have := HJ24.out; have := HJ27.out; have := HJ29.out; have := HJ32.out; omega
                        case rel => exact ⟨(y458), (wrap64 (x9_1 + 1)), (by first | rfl | (simp; done) | (simp [*]; done)), H', ⟨by have := HK1.out; have := HJ13.out; have := HJ22.out; have := HJ24.out; have := HJ27.out; have := HJ29.out; have := HJ32.out; omega⟩, ⟨by (with_reducible repeat (first | apply Kd.R_alloc | apply Kd.R_drewN | apply Kd.R_drew)); exact HO_7.out⟩, ⟨by (with_reducible repeat (first | apply Kd.R_alloc | apply Kd.R_drewN | apply Kd.R_drew)); exact Kd.R_mono HO460.out (fun _ hk => trivial)⟩, ⟨by repeat (first | (with_reducible first | exact HB.out | apply below_alloc | apply pw_below_drewN | apply below_drew1 | refine below_set ?_ GE454.out) | exact HB.out)⟩⟩
                       ·rw [if_neg c41] at H
                        exact absurd H (by simp)
                     ·replace c36 := Bool.eq_false_iff.mpr c36
                      subst c36
                      have H1 : (if x8_1.length < 4398046511104 then (intervalmonref29_Rota.l0 kj32 l0 false (wrap64 (1 + t443)) y444 (x8_1 ++ [(⟨(rdOf ByteArray.empty y444 (ji10)), x455001_29, wrap64 ((wrap64 (x455002_24 + (Int.tmod (wrap64 (Int.tdiv t452 8000)) 3))) - 1)⟩ : S50)]) (wrap64 (x9_1 + 1))) else (none)) = some (r1, r2) := by rw [if_neg (show ¬ (false = true) by decide)] at H; exact H
                      clear H
                      have H := H1
                      clear H1
                      by_cases c44 : x8_1.length < 4398046511104
                      ·rw [if_pos c44] at H
                       have LMc44 := Aside0.mk c44
                       clear c44
                       obtain ⟨y461, hy461⟩ : ∃ y_ : List (S50), y_ = (x8_1 ++ [(⟨(rdOf ByteArray.empty y444 (ji10)), x455001_29, wrap64 ((wrap64 (x455002_24 + (Int.tmod (wrap64 (Int.tdiv t452 8000)) 3))) - 1)⟩ : S50)]) := ⟨_, rfl⟩
                       replace H : (intervalmonref29_Rota.l0 kj32 l0 false (wrap64 (1 + t443)) y444 y461 (wrap64 (x9_1 + 1))) = some (r1, r2) := by first | (rw [hy461]; with_reducible exact H) | (have H2_ := (Option.bind_some _ _).symm.trans H; rw [hy461]; with_reducible exact H2_) | (have H2_ := (Option.bind_some _ _).symm.trans H; with_reducible exact H2_) | with_reducible exact H | (rw [hy461]; exact H) | exact H
                       have Ny461 := Aside0.mk hy461
                       clear hy461
                       have H' := Aside0.mk H
                       clear H
                       have hcz45_0 : wc.cell? ⟨gb454, 0, none⟩ = some (.string (rdOf ByteArray.empty y444 (ji10))) := (blk_cell BK454.out 0).trans rfl
                       have hcz45_1 : wc.cell? ⟨gb454, 1, none⟩ = some (.int .i64 x455001_29) := (blk_cell BK454.out 1).trans rfl
                       have hcz45_2 : wc.cell? ⟨gb454, 2, none⟩ = some (.int .i64 x455002_24) := (blk_cell BK454.out 2).trans rfl
                       have hfz45_0 := blk_frozen BK454.out 0
                       have hfz45_1 := blk_frozen BK454.out 1
                       have hfz45_2 := blk_frozen BK454.out 2
                       go_wp2_with (first | ((with_reducible refine gate_builtin (b := .append) (xs := #[.tmp 97, .tmp 99]) rfl ?_); at_builtin; refine Kd.R_append k50 (w0 := w) w.heap.size rfl (.tmp 97) (.tmp 99) 45 50 (.agg #[(.string ⟨#[]⟩), (.int .i64 0), (.int .i64 0)]) 32 rfl Try.underlying45 info50 rfl (by decide) (by omega) u8 x8_1 (⟨(rdOf ByteArray.empty y444 (ji10)), x455001_29, wrap64 ((wrap64 (x455002_24 + (Int.tmod (wrap64 (Int.tdiv t452 8000)) 3))) - 1)⟩ : S50) [.string (rdOf ByteArray.empty y444 (ji10)), .int .i64 x455001_29, .int .i64 (wrap64 ((wrap64 (x455002_24 + (Int.tmod (wrap64 (Int.tdiv t452 8000)) 3))) - 1))] (fun k_ => k_ ≠ gb454) (fun _ => False) rfl (by first | (go_simp; done) | (go_simp; rfl)) ?aP (fun _ hk => hk.elim) ?aF ?aO ?aB ?aS ?aL ?_; (case aP => exact k50_mkM _ _ _ (⟨(rdOf ByteArray.empty y444 (ji10)), x455001_29, wrap64 ((wrap64 (x455002_24 + (Int.tmod (wrap64 (Int.tdiv t452 8000)) 3))) - 1)⟩ : S50)); (case aB => exact (hq HB)); (case aF => exact (fun k_ hk => Kd.freshB (g := gb454) (o := .cells #[.string (rdOf ByteArray.empty y444 (ji10)), .int .i64 x455001_29, .int .i64 (wrap64 ((wrap64 (x455002_24 + (Int.tmod (wrap64 (Int.tdiv t452 8000)) 3))) - 1))] 50 (0, 0)) (by (with_reducible repeat (first | refine blk_drewN ?_ _ | refine blk_drew ?_ | refine blk_alloc ?_ _)); refine blk_put (cs := #[.string (rdOf ByteArray.empty y444 (ji10)), .int .i64 x455001_29, .int .i64 x455002_24]) ?_ 2 _ rfl; (with_reducible repeat (first | refine blk_drewN ?_ _ | refine blk_drew ?_ | refine blk_alloc ?_ _)); exact BK454.out) k_ hk)); (case aO => exact (by (with_reducible repeat (first | apply Kd.R_alloc | apply Kd.R_drewN | apply Kd.R_drew)); exact Kd.R_mono (Kd.R_far (p := ⟨gb454, 2, none⟩) (Kd.R_mono HO_8.out (fun k_ hk => (⟨hk, hk⟩ : _ ∧ k_ ≠ gb454))) (fun _ hk => hk.2) (.int .i64 (wrap64 ((wrap64 (x455002_24 + (Int.tmod (wrap64 (Int.tdiv t452 8000)) 3))) - 1)))) (fun _ hk => hk.1))); (case aS => exact (below_size (hq HB))); (case aL => have := LMc44.out; omega); intro v462 w46 ho hb hg hat; rw [← Ny461.out] at ho; have n0_ := Aside0.mk (Kd.R_over' (by (with_reducible repeat (first | apply Kd.R_alloc | apply Kd.R_drewN | apply Kd.R_drew)); exact (Kd.R_mono (Kd.R_far (p := ⟨gb454, 2, none⟩) (Kd.R_types HO_7.out BK454.out (by decide)) (fun _ hk => hk.2) (.int .i64 (wrap64 ((wrap64 (x455002_24 + (Int.tmod (wrap64 (Int.tdiv t452 8000)) 3))) - 1)))) (fun _ h_ => h_.1))) (Kd.R_typed (by (with_reducible repeat (first | apply Kd.R_alloc | apply Kd.R_drewN | apply Kd.R_drew)); exact (Kd.R_mono (Kd.R_far (p := ⟨gb454, 2, none⟩) (Kd.R_mono HO_8.out (fun k_ hk => (⟨hk, hk⟩ : _ ∧ k_ ≠ gb454))) (fun _ hk => hk.2) (.int .i64 (wrap64 ((wrap64 (x455002_24 + (Int.tmod (wrap64 (Int.tdiv t452 8000)) 3))) - 1)))) (fun _ h_ => h_.1)))) (by decide) hg); have n1_ := Aside0.mk (blk_grown (g := gb454) (o := .cells #[.string (rdOf ByteArray.empty y444 (ji10)), .int .i64 x455001_29, .int .i64 (wrap64 ((wrap64 (x455002_24 + (Int.tmod (wrap64 (Int.tdiv t452 8000)) 3))) - 1))] 50 (0, 0)) (by (with_reducible repeat (first | refine blk_drewN ?_ _ | refine blk_drew ?_ | refine blk_alloc ?_ _)); refine blk_put (cs := #[.string (rdOf ByteArray.empty y444 (ji10)), .int .i64 x455001_29, .int .i64 x455002_24]) ?_ 2 _ rfl; (with_reducible repeat (first | refine blk_drewN ?_ _ | refine blk_drew ?_ | refine blk_alloc ?_ _)); exact BK454.out) hg (Kd.R_away HO_8.out (fun _ hk => hk))); have n2_ := Aside0.mk (hb); have n3_ := Aside0.mk (ho); clear HO_7; clear BK454; clear HB; clear HO_8; have HO_7 := n0_; have BK454 := n1_; have HB := n2_; have HO463 := n3_; clear n0_ n1_ n2_ n3_; clear ho hb hg hat))
                       go_roundg kj32
                       case measure => have := HK1.out; have := HJ13.out; have := HJ22.out; have := HJ24.out; have := HJ27.out; have := HJ29.out; have := HJ32.out; omega
                       case rel => exact ⟨(y461), (wrap64 (x9_1 + 1)), (by first | rfl | (simp; done) | (simp [*]; done)), H', ⟨by have := HK1.out; have := HJ13.out; have := HJ22.out; have := HJ24.out; have := HJ27.out; have := HJ29.out; have := HJ32.out; omega⟩, ⟨by (with_reducible repeat (first | apply Kd.R_alloc | apply Kd.R_drewN | apply Kd.R_drew)); exact HO_7.out⟩, ⟨by (with_reducible repeat (first | apply Kd.R_alloc | apply Kd.R_drewN | apply Kd.R_drew)); exact Kd.R_mono HO463.out (fun _ hk => trivial)⟩, ⟨by repeat (first | (with_reducible first | exact HB.out | apply below_alloc | apply pw_below_drewN | apply below_drew1 | refine below_set ?_ GE454.out) | exact HB.out)⟩⟩
                      ·rw [if_neg c44] at H
                       exact absurd H (by simp)
                    ·replace c35 := Bool.eq_false_iff.mpr c35
                     subst c35
                     have H1 : (if a1 = true then (if (Int.tmod (wrap64 (Int.tdiv t452 1000)) 16) = 2 then (if x8_1.length < 4398046511104 then (intervalmonref29_Rota.l0 kj32 l0 a1 (wrap64 (1 + t443)) y444 (x8_1 ++ [(⟨(⟨#[65]⟩ : ByteArray), x455001_29, x455002_24⟩ : S50)]) (wrap64 (x9_1 + 1))) else (none)) else (if x8_1.length < 4398046511104 then (intervalmonref29_Rota.l0 kj32 l0 a1 (wrap64 (1 + t443)) y444 (x8_1 ++ [(⟨(rdOf ByteArray.empty y444 (ji10)), x455001_29, x455002_24⟩ : S50)]) (wrap64 (x9_1 + 1))) else (none))) else (if x8_1.length < 4398046511104 then (intervalmonref29_Rota.l0 kj32 l0 a1 (wrap64 (1 + t443)) y444 (x8_1 ++ [(⟨(rdOf ByteArray.empty y444 (ji10)), x455001_29, x455002_24⟩ : S50)]) (wrap64 (x9_1 + 1))) else (none))) = some (r1, r2) := by rw [if_neg (show ¬ (false = true) by decide)] at H; exact H
                     clear H
                     have H := H1
                     clear H1
                     by_cases c47 : a1 = true
                     ·subst c47
                      have H1 : (if (Int.tmod (wrap64 (Int.tdiv t452 1000)) 16) = 2 then (if x8_1.length < 4398046511104 then (intervalmonref29_Rota.l0 kj32 l0 true (wrap64 (1 + t443)) y444 (x8_1 ++ [(⟨(⟨#[65]⟩ : ByteArray), x455001_29, x455002_24⟩ : S50)]) (wrap64 (x9_1 + 1))) else (none)) else (if x8_1.length < 4398046511104 then (intervalmonref29_Rota.l0 kj32 l0 true (wrap64 (1 + t443)) y444 (x8_1 ++ [(⟨(rdOf ByteArray.empty y444 (ji10)), x455001_29, x455002_24⟩ : S50)]) (wrap64 (x9_1 + 1))) else (none))) = some (r1, r2) := by rw [if_pos rfl] at H; exact H
                      clear H
                      have H := H1
                      clear H1
                      by_cases c48 : (Int.tmod (wrap64 (Int.tdiv t452 1000)) 16) = 2
                      ·rw [if_pos c48] at H
                       have c48b0 : ((Int.tmod (wrap64 (Int.tdiv t452 1000)) 16) == 2) = true := beq_iff_eq.mpr c48
                       have c48b1 : ((Int.tmod (wrap64 (Int.tdiv t452 1000)) 16) != 2) = false := bne_eq_false_iff_eq.mpr c48
                       clear c48
                       by_cases c49 : x8_1.length < 4398046511104
                       ·rw [if_pos c49] at H
                        have LMc49 := Aside0.mk c49
                        clear c49
                        obtain ⟨y464, hy464⟩ : ∃ y_ : List (S50), y_ = (x8_1 ++ [(⟨(⟨#[65]⟩ : ByteArray), x455001_29, x455002_24⟩ : S50)]) := ⟨_, rfl⟩
                        replace H : (intervalmonref29_Rota.l0 kj32 l0 true (wrap64 (1 + t443)) y444 y464 (wrap64 (x9_1 + 1))) = some (r1, r2) := by first | (rw [hy464]; with_reducible exact H) | (have H2_ := (Option.bind_some _ _).symm.trans H; rw [hy464]; with_reducible exact H2_) | (have H2_ := (Option.bind_some _ _).symm.trans H; with_reducible exact H2_) | with_reducible exact H | (rw [hy464]; exact H) | exact H
                        have Ny464 := Aside0.mk hy464
                        clear hy464
                        have H' := Aside0.mk H
                        clear H
                        have hcz50_0 : wc.cell? ⟨gb454, 0, none⟩ = some (.string (rdOf ByteArray.empty y444 (ji10))) := (blk_cell BK454.out 0).trans rfl
                        have hcz50_1 : wc.cell? ⟨gb454, 1, none⟩ = some (.int .i64 x455001_29) := (blk_cell BK454.out 1).trans rfl
                        have hcz50_2 : wc.cell? ⟨gb454, 2, none⟩ = some (.int .i64 x455002_24) := (blk_cell BK454.out 2).trans rfl
                        have hfz50_0 := blk_frozen BK454.out 0
                        have hfz50_1 := blk_frozen BK454.out 1
                        have hfz50_2 := blk_frozen BK454.out 2
                        go_wp2_with (first | ((with_reducible refine gate_builtin (b := .append) (xs := #[.tmp 97, .tmp 99]) rfl ?_); at_builtin; refine Kd.R_append k50 (w0 := w) w.heap.size rfl (.tmp 97) (.tmp 99) 45 50 (.agg #[(.string ⟨#[]⟩), (.int .i64 0), (.int .i64 0)]) 32 rfl Try.underlying45 info50 rfl (by decide) (by omega) u8 x8_1 (⟨(⟨#[65]⟩ : ByteArray), x455001_29, x455002_24⟩ : S50) [.string (⟨#[65]⟩ : ByteArray), .int .i64 x455001_29, .int .i64 x455002_24] (fun k_ => k_ ≠ gb454) (fun _ => False) rfl (by first | (go_simp; done) | (go_simp; rfl)) ?aP (fun _ hk => hk.elim) ?aF ?aO ?aB ?aS ?aL ?_; (case aP => exact k50_mkM _ _ _ (⟨(⟨#[65]⟩ : ByteArray), x455001_29, x455002_24⟩ : S50)); (case aB => exact (hq HB)); (case aF => exact (fun k_ hk => Kd.freshB (g := gb454) (o := .cells #[.string (⟨#[65]⟩ : ByteArray), .int .i64 x455001_29, .int .i64 x455002_24] 50 (0, 0)) (by (with_reducible repeat (first | refine blk_drewN ?_ _ | refine blk_drew ?_ | refine blk_alloc ?_ _)); refine blk_put (cs := #[.string (rdOf ByteArray.empty y444 (ji10)), .int .i64 x455001_29, .int .i64 x455002_24]) ?_ 0 _ rfl; (with_reducible repeat (first | refine blk_drewN ?_ _ | refine blk_drew ?_ | refine blk_alloc ?_ _)); exact BK454.out) k_ hk)); (case aO => exact (by (with_reducible repeat (first | apply Kd.R_alloc | apply Kd.R_drewN | apply Kd.R_drew)); exact Kd.R_mono (Kd.R_far (p := ⟨gb454, 0, none⟩) (Kd.R_mono HO_8.out (fun k_ hk => (⟨hk, hk⟩ : _ ∧ k_ ≠ gb454))) (fun _ hk => hk.2) (.string (⟨#[65]⟩ : ByteArray))) (fun _ hk => hk.1))); (case aS => exact (below_size (hq HB))); (case aL => have := LMc49.out; omega); intro v465 w51 ho hb hg hat; rw [← Ny464.out] at ho; have n0_ := Aside0.mk (Kd.R_over' (by (with_reducible repeat (first | apply Kd.R_alloc | apply Kd.R_drewN | apply Kd.R_drew)); exact (Kd.R_mono (Kd.R_far (p := ⟨gb454, 0, none⟩) (Kd.R_types HO_7.out BK454.out (by decide)) (fun _ hk => hk.2) (.string (⟨#[65]⟩ : ByteArray))) (fun _ h_ => h_.1))) (Kd.R_typed (by (with_reducible repeat (first | apply Kd.R_alloc | apply Kd.R_drewN | apply Kd.R_drew)); exact (Kd.R_mono (Kd.R_far (p := ⟨gb454, 0, none⟩) (Kd.R_mono HO_8.out (fun k_ hk => (⟨hk, hk⟩ : _ ∧ k_ ≠ gb454))) (fun _ hk => hk.2) (.string (⟨#[65]⟩ : ByteArray))) (fun _ h_ => h_.1)))) (by decide) hg); have n1_ := Aside0.mk (blk_grown (g := gb454) (o := .cells #[.string (⟨#[65]⟩ : ByteArray), .int .i64 x455001_29, .int .i64 x455002_24] 50 (0, 0)) (by (with_reducible repeat (first | refine blk_drewN ?_ _ | refine blk_drew ?_ | refine blk_alloc ?_ _)); refine blk_put (cs := #[.string (rdOf ByteArray.empty y444 (ji10)), .int .i64 x455001_29, .int .i64 x455002_24]) ?_ 0 _ rfl; (with_reducible repeat (first | refine blk_drewN ?_ _ | refine blk_drew ?_ | refine blk_alloc ?_ _)); exact BK454.out) hg (Kd.R_away HO_8.out (fun _ hk => hk))); have n2_ := Aside0.mk (hb); have n3_ := Aside0.mk (ho); clear HO_7; clear BK454; clear HB; clear HO_8; have HO_7 := n0_; have BK454 := n1_; have HB := n2_; have HO466 := n3_; clear n0_ n1_ n2_ n3_; clear ho hb hg hat))
                        go_roundg kj32
                        case measure => have := HK1.out; have := HJ13.out; have := HJ22.out; have := HJ24.out; have := HJ27.out; have := HJ29.out; have := HJ32.out; omega
                        case rel => exact ⟨(y464), (wrap64 (x9_1 + 1)), (by first | rfl | (simp; done) | (simp [*]; done)), H', ⟨by have := HK1.out; have := HJ13.out; have := HJ22.out; have := HJ24.out; have := HJ27.out; have := HJ29.out; have := HJ32.out; omega⟩, ⟨by (with_reducible repeat (first | apply Kd.R_alloc | apply Kd.R_drewN | apply Kd.R_drew)); exact HO_7.out⟩, ⟨by (with_reducible repeat (first | apply Kd.R_alloc | apply Kd.R_drewN | apply Kd.R_drew)); exact Kd.R_mono HO466.out (fun _ hk => trivial)⟩, ⟨by repeat (first | (with_reducible first | exact HB.out | apply below_alloc | apply pw_below_drewN | apply below_drew1 | refine below_set ?_ GE454.out) | exact HB.out)⟩⟩
                       ·rw [if_neg c49] at H
                        exact absurd H (by simp)
                      ·rw [if_neg c48] at H
                       have c48b0 : ((Int.tmod (wrap64 (Int.tdiv t452 1000)) 16) == 2) = false := beq_eq_false_iff_ne.mpr c48
                       have c48b1 : ((Int.tmod (wrap64 (Int.tdiv t452 1000)) 16) != 2) = true := bne_iff_ne.mpr c48
                       by_cases c52 : x8_1.length < 4398046511104
                       ·rw [if_pos c52] at H
                        have LMc52 := Aside0.mk c52
                        clear c52
                        obtain ⟨y467, hy467⟩ : ∃ y_ : List (S50), y_ = (x8_1 ++ [(⟨(rdOf ByteArray.empty y444 (ji10)), x455001_29, x455002_24⟩ : S50)]) := ⟨_, rfl⟩
                        replace H : (intervalmonref29_Rota.l0 kj32 l0 true (wrap64 (1 + t443)) y444 y467 (wrap64 (x9_1 + 1))) = some (r1, r2) := by first | (rw [hy467]; with_reducible exact H) | (have H2_ := (Option.bind_some _ _).symm.trans H; rw [hy467]; with_reducible exact H2_) | (have H2_ := (Option.bind_some _ _).symm.trans H; with_reducible exact H2_) | with_reducible exact H | (rw [hy467]; exact H) | exact H
                        have Ny467 := Aside0.mk hy467
                        clear hy467
                        have H' := Aside0.mk H
                        clear H
                        have hcz53_0 : wc.cell? ⟨gb454, 0, none⟩ = some (.string (rdOf ByteArray.empty y444 (ji10))) := (blk_cell BK454.out 0).trans rfl
                        have hcz53_1 : wc.cell? ⟨gb454, 1, none⟩ = some (.int .i64 x455001_29) := (blk_cell BK454.out 1).trans rfl
                        have hcz53_2 : wc.cell? ⟨gb454, 2, none⟩ = some (.int .i64 x455002_24) := (blk_cell BK454.out 2).trans rfl
                        have hfz53_0 := blk_frozen BK454.out 0
                        have hfz53_1 := blk_frozen BK454.out 1
                        have hfz53_2 := blk_frozen BK454.out 2
                        go_wp2_with (first | ((with_reducible refine gate_builtin (b := .append) (xs := #[.tmp 97, .tmp 99]) rfl ?_); at_builtin; refine Kd.R_append k50 (w0 := w) w.heap.size rfl (.tmp 97) (.tmp 99) 45 50 (.agg #[(.string ⟨#[]⟩), (.int .i64 0), (.int .i64 0)]) 32 rfl Try.underlying45 info50 rfl (by decide) (by omega) u8 x8_1 (⟨(rdOf ByteArray.empty y444 (ji10)), x455001_29, x455002_24⟩ : S50) [.string (rdOf ByteArray.empty y444 (ji10)), .int .i64 x455001_29, .int .i64 x455002_24] (fun k_ => k_ ≠ gb454) (fun _ => False) rfl rfl ?aP (fun _ hk => hk.elim) ?aF ?aO ?aB ?aS ?aL ?_; (case aP => exact k50_mkM _ _ _ (⟨(rdOf ByteArray.empty y444 (ji10)), x455001_29, x455002_24⟩ : S50)); (case aB => exact (hq HB)); (case aF => exact (fun k_ hk => Kd.freshB (g := gb454) (o := .cells #[.string (rdOf ByteArray.empty y444 (ji10)), .int .i64 x455001_29, .int .i64 x455002_24] 50 (0, 0)) (bq BK454) k_ hk)); (case aO => exact (rq HO_8)); (case aS => exact (below_size (hq HB))); (case aL => have := LMc52.out; omega); intro v468 w54 ho hb hg hat; rw [← Ny467.out] at ho; have n0_ := Aside0.mk (Kd.R_over' (rq HO_7) (Kd.R_typed (rq HO_8)) (by decide) hg); have n1_ := Aside0.mk (blk_grown (g := gb454) (o := .cells #[.string (rdOf ByteArray.empty y444 (ji10)), .int .i64 x455001_29, .int .i64 x455002_24] 50 (0, 0)) (bq BK454) hg (Kd.R_away HO_8.out (fun _ hk => hk))); have n2_ := Aside0.mk (hb); have n3_ := Aside0.mk (ho); clear HO_7; clear BK454; clear HB; clear HO_8; have HO_7 := n0_; have BK454 := n1_; have HB := n2_; have HO469 := n3_; clear n0_ n1_ n2_ n3_; clear ho hb hg hat))
                        go_roundg kj32
                        case measure => have := HK1.out; have := HJ13.out; have := HJ22.out; have := HJ24.out; have := HJ27.out; have := HJ29.out; have := HJ32.out; omega
                        case rel => exact ⟨(y467), (wrap64 (x9_1 + 1)), (by first | rfl | (simp; done) | (simp [*]; done)), H', ⟨by have := HK1.out; have := HJ13.out; have := HJ22.out; have := HJ24.out; have := HJ27.out; have := HJ29.out; have := HJ32.out; omega⟩, ⟨by (with_reducible repeat (first | apply Kd.R_alloc | apply Kd.R_drewN | apply Kd.R_drew)); exact HO_7.out⟩, ⟨by (with_reducible repeat (first | apply Kd.R_alloc | apply Kd.R_drewN | apply Kd.R_drew)); exact Kd.R_mono HO469.out (fun _ hk => trivial)⟩, ⟨by repeat (first | (with_reducible first | exact HB.out | apply below_alloc | apply pw_below_drewN | apply below_drew1 | refine below_set ?_ GE454.out) | exact HB.out)⟩⟩
                       ·rw [if_neg c52] at H
                        exact absurd H (by simp)
                     ·replace c47 := Bool.eq_false_iff.mpr c47
                      subst c47
                      have H1 : (if x8_1.length < 4398046511104 then (intervalmonref29_Rota.l0 kj32 l0 false (wrap64 (1 + t443)) y444 (x8_1 ++ [(⟨(rdOf ByteArray.empty y444 (ji10)), x455001_29, x455002_24⟩ : S50)]) (wrap64 (x9_1 + 1))) else (none)) = some (r1, r2) := by rw [if_neg (show ¬ (false = true) by decide)] at H; exact H
                      clear H
                      have H := H1
                      clear H1
                      by_cases c55 : x8_1.length < 4398046511104
                      ·rw [if_pos c55] at H
                       have LMc55 := Aside0.mk c55
                       clear c55
                       obtain ⟨y470, hy470⟩ : ∃ y_ : List (S50), y_ = (x8_1 ++ [(⟨(rdOf ByteArray.empty y444 (ji10)), x455001_29, x455002_24⟩ : S50)]) := ⟨_, rfl⟩
                       replace H : (intervalmonref29_Rota.l0 kj32 l0 false (wrap64 (1 + t443)) y444 y470 (wrap64 (x9_1 + 1))) = some (r1, r2) := by first | (rw [hy470]; with_reducible exact H) | (have H2_ := (Option.bind_some _ _).symm.trans H; rw [hy470]; with_reducible exact H2_) | (have H2_ := (Option.bind_some _ _).symm.trans H; with_reducible exact H2_) | with_reducible exact H | (rw [hy470]; exact H) | exact H
                       have Ny470 := Aside0.mk hy470
                       clear hy470
                       have H' := Aside0.mk H
                       clear H
                       have hcz56_0 : wc.cell? ⟨gb454, 0, none⟩ = some (.string (rdOf ByteArray.empty y444 (ji10))) := (blk_cell BK454.out 0).trans rfl
                       have hcz56_1 : wc.cell? ⟨gb454, 1, none⟩ = some (.int .i64 x455001_29) := (blk_cell BK454.out 1).trans rfl
                       have hcz56_2 : wc.cell? ⟨gb454, 2, none⟩ = some (.int .i64 x455002_24) := (blk_cell BK454.out 2).trans rfl
                       have hfz56_0 := blk_frozen BK454.out 0
                       have hfz56_1 := blk_frozen BK454.out 1
                       have hfz56_2 := blk_frozen BK454.out 2
                       go_wp2_with (first | ((with_reducible refine gate_builtin (b := .append) (xs := #[.tmp 97, .tmp 99]) rfl ?_); at_builtin; refine Kd.R_append k50 (w0 := w) w.heap.size rfl (.tmp 97) (.tmp 99) 45 50 (.agg #[(.string ⟨#[]⟩), (.int .i64 0), (.int .i64 0)]) 32 rfl Try.underlying45 info50 rfl (by decide) (by omega) u8 x8_1 (⟨(rdOf ByteArray.empty y444 (ji10)), x455001_29, x455002_24⟩ : S50) [.string (rdOf ByteArray.empty y444 (ji10)), .int .i64 x455001_29, .int .i64 x455002_24] (fun k_ => k_ ≠ gb454) (fun _ => False) rfl rfl ?aP (fun _ hk => hk.elim) ?aF ?aO ?aB ?aS ?aL ?_; (case aP => exact k50_mkM _ _ _ (⟨(rdOf ByteArray.empty y444 (ji10)), x455001_29, x455002_24⟩ : S50)); (case aB => exact (hq HB)); (case aF => exact (fun k_ hk => Kd.freshB (g := gb454) (o := .cells #[.string (rdOf ByteArray.empty y444 (ji10)), .int .i64 x455001_29, .int .i64 x455002_24] 50 (0, 0)) (bq BK454) k_ hk)); (case aO => exact (rq HO_8)); (case aS => exact (below_size (hq HB))); (case aL => have := LMc55.out; omega); intro v471 w57 ho hb hg hat; rw [← Ny470.out] at ho; have n0_ := Aside0.mk (Kd.R_over' (rq HO_7) (Kd.R_typed (rq HO_8)) (by decide) hg); have n1_ := Aside0.mk (blk_grown (g := gb454) (o := .cells #[.string (rdOf ByteArray.empty y444 (ji10)), .int .i64 x455001_29, .int .i64 x455002_24] 50 (0, 0)) (bq BK454) hg (Kd.R_away HO_8.out (fun _ hk => hk))); have n2_ := Aside0.mk (hb); have n3_ := Aside0.mk (ho); clear HO_7; clear BK454; clear HB; clear HO_8; have HO_7 := n0_; have BK454 := n1_; have HB := n2_; have HO472 := n3_; clear n0_ n1_ n2_ n3_; clear ho hb hg hat))
                       go_roundg kj32
                       case measure => have := HK1.out; have := HJ13.out; have := HJ22.out; have := HJ24.out; have := HJ27.out; have := HJ29.out; have := HJ32.out; omega
                       case rel => exact ⟨(y470), (wrap64 (x9_1 + 1)), (by first | rfl | (simp; done) | (simp [*]; done)), H', ⟨by have := HK1.out; have := HJ13.out; have := HJ22.out; have := HJ24.out; have := HJ27.out; have := HJ29.out; have := HJ32.out; omega⟩, ⟨by (with_reducible repeat (first | apply Kd.R_alloc | apply Kd.R_drewN | apply Kd.R_drew)); exact HO_7.out⟩, ⟨by (with_reducible repeat (first | apply Kd.R_alloc | apply Kd.R_drewN | apply Kd.R_drew)); exact Kd.R_mono HO472.out (fun _ hk => trivial)⟩, ⟨by repeat (first | (with_reducible first | exact HB.out | apply below_alloc | apply pw_below_drewN | apply below_drew1 | refine below_set ?_ GE454.out) | exact HB.out)⟩⟩
                      ·rw [if_neg c55] at H
                       exact absurd H (by simp)
      ·rw [if_neg c12] at H
       exact absurd H (by simp)
     ·rw [if_neg c11] at H
      exact absurd H (by simp)
   ·rw [if_neg c7] at H
    have c7b0 : decide (x9_1 < (wrap64 (1 + t447))) = false := decide_eq_false c7
    clear c7
    by_cases c58 : a1 = true
    ·subst c58
     have H1 : (some ((wrap64 (1 + t443)), x8_1)) = some (r1, r2) := by rw [if_pos rfl] at H; exact H
     clear H
     have H := H1
     clear H1
     simp only [Option.some.injEq, Prod.mk.injEq] at H
     obtain ⟨rfl, rfl⟩ := H
     go_wp2_with (first | ((with_reducible refine gate_callee (f := 39) rfl ?_); refine goesL_ (some 19) rfl rfl Try.func39 (by kernel_rfl) rfl #[.slice A0 l0.length c0, .int .i64 1, .int .i64 6] rfl aq ?_; (with_reducible refine (intervalmonref01_Pick.calls _ _ l0 1 6 t447 _ ?side1 ?side2 A6.out).mono ?_); (case side1 => repeat (first | exact (Kd.C_below HR0.out HB.out) | (with_reducible refine Kd.C_alloc ?_ _) | (with_reducible refine Kd.C_drewN ?_ _) | (with_reducible refine Kd.C_drew ?_))); (case side2 => exact HC0.out); rintro e w' ⟨rfl, ⟨nd, rfl⟩⟩; refine ⟨_, rfl, ?_⟩))
     go_ret2
     exact ⟨_, by first | rfl | (simp [errW_none, errW_some] <;> rfl) | (simp [*, errW_none, errW_some] <;> rfl), by (with_reducible repeat (first | apply Kd.R_alloc | apply Kd.R_drewN | apply Kd.R_drew)); exact HO_8.out, by repeat (first | (with_reducible first | exact HB.out | apply below_alloc | apply pw_below_drewN | apply below_drew1) | exact HB.out)⟩
    ·replace c58 := Bool.eq_false_iff.mpr c58
     subst c58
     have H1 : ((intervalmonref29_ValidRota.f k1 (wrap64 (1 + t443)) x8_1).bind fun t448 => (if t448 = 0 then (some ((wrap64 (1 + t443)), x8_1)) else (if x8_1.length < 4398046511104 then (some ((wrap64 (1 + t443)), (x8_1 ++ [(⟨(⟨#[101, 118, 101]⟩ : ByteArray), 0, (wrap64 (1 + t443))⟩ : S50)]))) else (none)))) = some (r1, r2) := by rw [if_neg (show ¬ (false = true) by decide)] at H; exact H
     clear H
     have H := H1
     clear H1
     replace H := Option.bind_eq_some_iff.mp H
     obtain ⟨t448, A590, H⟩ := H
     replace H : (if t448 = 0 then (some ((wrap64 (1 + t443)), x8_1)) else (if x8_1.length < 4398046511104 then (some ((wrap64 (1 + t443)), (x8_1 ++ [(⟨(⟨#[101, 118, 101]⟩ : ByteArray), 0, (wrap64 (1 + t443))⟩ : S50)]))) else (none))) = some (r1, r2) := H
     have A59 := Aside0.mk A590
     clear A590
     by_cases c60 : t448 = 0
     ·rw [if_pos c60] at H
      have c60b0 : (t448 == 0) = true := beq_iff_eq.mpr c60
      have c60b1 : (t448 != 0) = false := bne_eq_false_iff_eq.mpr c60
      clear c60
      simp only [Option.some.injEq, Prod.mk.injEq] at H
      obtain ⟨rfl, rfl⟩ := H
      go_wp2_with (first | ((with_reducible refine gate_callee (f := 39) rfl ?_); refine goesL_ (some 19) rfl rfl Try.func39 (by kernel_rfl) rfl #[.slice A0 l0.length c0, .int .i64 1, .int .i64 6] rfl aq ?_; (with_reducible refine (intervalmonref01_Pick.calls _ _ l0 1 6 t447 _ ?side1 ?side2 A6.out).mono ?_); (case side1 => repeat (first | exact (Kd.C_below HR0.out HB.out) | (with_reducible refine Kd.C_alloc ?_ _) | (with_reducible refine Kd.C_drewN ?_ _) | (with_reducible refine Kd.C_drew ?_))); (case side2 => exact HC0.out); rintro e w' ⟨rfl, ⟨nd, rfl⟩⟩; refine ⟨_, rfl, ?_⟩; obtain ⟨Ao61, co61, eo61⟩ := Kd.R_slice HO_8.out; subst eo61) | (go_at_call 28; (with_reducible refine (intervalmonref29_ValidRota.calls k1 (wrap64 (1 + t443)) _ _ x8_1 t448 _ ?side1 ?side2 A59.out).mono ?_); (case side1 => repeat (first | exact (Kd.R_reads' HO_8.out).2.2 | (with_reducible refine Kd.C_alloc ?_ _) | (with_reducible refine Kd.C_drewN ?_ _) | (with_reducible refine Kd.C_drew ?_))); (case side2 => exact (Kd.R_reads' HO_8.out).2.1); rintro e w' ⟨rfl, ⟨nd, rfl⟩⟩))
      go_ret2
      exact ⟨_, by first | rfl | (simp [errW_none, errW_some] <;> rfl) | (simp [*, errW_none, errW_some] <;> rfl), by (with_reducible repeat (first | apply Kd.R_alloc | apply Kd.R_drewN | apply Kd.R_drew)); exact HO_8.out, by repeat (first | (with_reducible first | exact HB.out | apply below_alloc | apply pw_below_drewN | apply below_drew1) | exact HB.out)⟩
     ·rw [if_neg c60] at H
      have c60b0 : (t448 == 0) = false := beq_eq_false_iff_ne.mpr c60
      have c60b1 : (t448 != 0) = true := bne_iff_ne.mpr c60
      by_cases c62 : x8_1.length < 4398046511104
      ·rw [if_pos c62] at H
       have LMc62 := Aside0.mk c62
       clear c62
       obtain ⟨y449, hy449⟩ : ∃ y_ : List (S50), y_ = (x8_1 ++ [(⟨(⟨#[101, 118, 101]⟩ : ByteArray), 0, (wrap64 (1 + t443))⟩ : S50)]) := ⟨_, rfl⟩
       replace H : (some ((wrap64 (1 + t443)), y449)) = some (r1, r2) := by first | (rw [hy449]; with_reducible exact H) | (have H2_ := (Option.bind_some _ _).symm.trans H; rw [hy449]; with_reducible exact H2_) | (have H2_ := (Option.bind_some _ _).symm.trans H; with_reducible exact H2_) | with_reducible exact H | (rw [hy449]; exact H) | exact H
       have Ny449 := Aside0.mk hy449
       clear hy449
       simp only [Option.some.injEq, Prod.mk.injEq] at H
       obtain ⟨rfl, rfl⟩ := H
       go_wp2_with (first | ((with_reducible refine gate_callee (f := 39) rfl ?_); refine goesL_ (some 19) rfl rfl Try.func39 (by kernel_rfl) rfl #[.slice A0 l0.length c0, .int .i64 1, .int .i64 6] rfl aq ?_; (with_reducible refine (intervalmonref01_Pick.calls _ _ l0 1 6 t447 _ ?side1 ?side2 A6.out).mono ?_); (case side1 => repeat (first | exact (Kd.C_below HR0.out HB.out) | (with_reducible refine Kd.C_alloc ?_ _) | (with_reducible refine Kd.C_drewN ?_ _) | (with_reducible refine Kd.C_drew ?_))); (case side2 => exact HC0.out); rintro e w' ⟨rfl, ⟨nd, rfl⟩⟩; refine ⟨_, rfl, ?_⟩; obtain ⟨Ao63, co63, eo63⟩ := Kd.R_slice HO_8.out; subst eo63) | (go_at_call 28; (with_reducible refine (intervalmonref29_ValidRota.calls k1 (wrap64 (1 + t443)) _ _ x8_1 t448 _ ?side1 ?side2 A59.out).mono ?_); (case side1 => repeat (first | exact (Kd.R_reads' HO_8.out).2.2 | (with_reducible refine Kd.C_alloc ?_ _) | (with_reducible refine Kd.C_drewN ?_ _) | (with_reducible refine Kd.C_drew ?_))); (case side2 => exact (Kd.R_reads' HO_8.out).2.1); rintro e w' ⟨rfl, ⟨nd, rfl⟩⟩) | ((with_reducible refine gate_builtin (b := .append) (xs := #[.tmp 109, .tmp 112]) rfl ?_); at_builtin; refine Kd.R_append k50 (w0 := w) w.heap.size rfl (.tmp 109) (.tmp 112) 45 50 (.agg #[(.string ⟨#[]⟩), (.int .i64 0), (.int .i64 0)]) 32 rfl Try.underlying45 info50 rfl (by decide) (by omega) (.slice Ao63 x8_1.length co63) x8_1 (⟨(⟨#[101, 118, 101]⟩ : ByteArray), 0, (wrap64 (1 + t443))⟩ : S50) [.string (⟨#[101, 118, 101]⟩ : ByteArray), .int .i64 0, .int .i64 (wrap64 (1 + t443))] (fun _ => True) (fun _ => False) rfl rfl ?aP (fun _ hk => hk.elim) ?aF ?aO ?aB ?aS ?aL ?_; (case aP => exact k50_mkM _ _ _ (⟨(⟨#[101, 118, 101]⟩ : ByteArray), 0, (wrap64 (1 + t443))⟩ : S50)); (case aB => exact (hq HB)); (case aF => exact (fun _ _ => trivial)); (case aO => exact (rq HO_8)); (case aS => exact (below_size (hq HB))); (case aL => have := LMc62.out; omega); intro v450 w64 ho hb hg hat; rw [← Ny449.out] at ho; have n0_ := Aside0.mk (Kd.R_over' (rq HO_7) (Kd.R_typed (rq HO_8)) (by decide) hg); have n1_ := Aside0.mk (hb); have n2_ := Aside0.mk (ho); clear HO_7; clear HB; clear HO_8; have HO_7 := n0_; have HB := n1_; have HO451 := n2_; clear n0_ n1_ n2_; clear ho hb hg hat))
       go_ret2
       exact ⟨_, by first | rfl | (simp [errW_none, errW_some] <;> rfl) | (simp [*, errW_none, errW_some] <;> rfl), by (with_reducible repeat (first | apply Kd.R_alloc | apply Kd.R_drewN | apply Kd.R_drew)); exact HO451.out, by repeat (first | (with_reducible first | exact HB.out | apply below_alloc | apply pw_below_drewN | apply below_drew1) | exact HB.out)⟩
      ·rw [if_neg c62] at H
       exact absurd H (by simp)

end Go.Proofs.Ytcamljlhdejmmaa.P
