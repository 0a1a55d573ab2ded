/- The row of the law LabelsText, out of its pure statement and the walk. No condition. -/
import Derived.Test.YtlohkfmobeapdaaRows
import Derived.Test.YtlohkfmobeapdaaPx6
import Derived.Test.YtlohkfmobeapdaaPureLabelsText
import Derived.Test.YtlohkfmobeapdaaHOpen
import Derived.WalkKit
import Derived.ProofKit
import Derived.OpenShut
import Derived.ShutString
import Derived.ChangeOld
import Derived.Below
import Derived.SizedLaws
namespace Go.Proofs.Ytlohkfmobeapdaa.labelsText
open Go.ChangeShapes Go.WideShapes Go.ChangeAt Go.RowKit Go.Proofs.Ytlohkfmobeapdaa.P Go.Proofs.YtlohkfmobeapdaaW.PrintWords Go.Proofs.YtlohkfmobeapdaaW.PrintLast
open Go.ChangeMaps (open_string shut_string)
set_option linter.unusedVariables false
set_option linter.unusedSimpArgs false
theorem own : ownKnob Try.prog.godebug = none := by kernel_rfl
theorem laidOut : laidOutB Try.prog = true := by kernel_rfl
set_option maxRecDepth 100000 in
theorem op33 : Opens Try.prog 33 k33 fun x => (x.f0.size ≤ 140737488351232 ∧ x.f1.size ≤ 140737488351232) := by
  refine Opens.struct (d := (Kd.pair Kd.string Kd.string)) (B := (fun x : ByteArray × ByteArray => x.1.size ≤ 140737488351232 ∧ x.2.size ≤ 140737488351232)) (fun x : S33 => (x.f0, x.f1)) (fun a => ⟨a.1, a.2⟩) (fun _ => rfl) Try.underlying33 (by kernel_rfl) ?_
  change OpensF _ 0 [_, _] _ _
  refine OpensF.cons (d := Kd.string) (B := (fun x : ByteArray => x.size ≤ 140737488351232)) (d' := Kd.string) (B' := (fun x : ByteArray => x.size ≤ 140737488351232)) rfl (by kernel_rfl) ?_ ?_
  · exact (Opens.string Try.underlying9)
  refine OpensF.one (d := Kd.string) (B := (fun x : ByteArray => x.size ≤ 140737488351232)) rfl (by kernel_rfl) ?_
  exact (Opens.string Try.underlying9)
set_option maxRecDepth 100000 in
theorem lifted (os : Os) (started : os.Started) (H : Type) (enc : TypeId × Value → H) :
    ReturnsInHanded {} Try.checked os 4 .any (Rows.labelsTextSpec.pre6 enc Try.prog Try.f4 Rows.labelsTextRow.domain false) (Rows.labelsTextSpec.post enc Try.prog Try.f4 false true false false) := by
  refine returnsInHanded_of_change_sized (C := Try.checked) own started (by kernel_rfl) Try.func4
    (ChangeSpec.witness6 (enc := enc) (C := Try.checked) false ⟨#[], #[.slice none 0 0, .slice none 0 0, .string ByteArray.empty], []⟩ 8 (by kernel_rfl) (by kernel_rfl) (by kernel_rfl) (by kernel_rfl)) ?_
  intro W base args ds gs before hval0 hW hcnd hsz0 _
  have hsz : (DataW.weightsEach Try.prog (Try.f4.params.toList ++ Rows.labelsTextSpec.plain.varTypes Try.prog) (ds ++ gs)).all (· ≤ reachBytes) = true := hsz0
  have hval : ∀ (j : Nat) t v, Try.f4.params[j]? = some t → args[j]? = some v → Value.okWide Try.prog W .any base t v := hval0
  have hW' := hW
  obtain ⟨p, q, hA0, hV, rfl, hfz, hnd⟩ := hW
  have hA : DataW.TrodAll enc Try.prog W 0 (fun _ => true) true Try.f4.params.toList args.toList ds p := hA0
  rw [Try.params4] at hA hval hsz
  obtain ⟨v0, vs0, d0, ds0, p0, q0, hargs, rfl, rfl, h0, r0⟩ := trodAll_cons hA
  obtain ⟨v1, vs1, d1, ds1, p1, q1, rfl, rfl, rfl, h1, r1⟩ := trodAll_cons r0
  obtain ⟨v2, vs2, d2, ds2, p2, q2, rfl, rfl, rfl, h2, r2⟩ := trodAll_cons r1
  obtain ⟨rfl, rfl, rfl⟩ := trodAll_nil r2
  obtain rfl : args = #[v0, v1, v2] := by cases args; simp_all
  obtain ⟨rfl, rfl⟩ := trodVars_none hV
  have k0 := h0
  have lt0 : ∀ x ∈ p0, x.block < W.heap.size := by obtain ⟨m, hm⟩ := k0; exact DataW.trod_lt m _ _ _ hm
  obtain ⟨x0, K0, B0⟩ := Opens.arg (Opens.slice Try.underlying30 (by kernel_rfl) (by kernel_rfl : Try.prog.bytesOf 33 = 32) op33) hsz (j := 0) (t := 30) rfl rfl h0
  obtain ⟨a0, len0, cap0, rfl⟩ := okWide_slice Try.underlying30 (hval 0 30 v0 rfl rfl)
  obtain ⟨A0, c0, e0, l0, C0⟩ := K0
  simp [Value.cells] at e0
  obtain ⟨rfl, rfl, rfl⟩ := e0
  have k1 := h1
  have lt1 : ∀ x ∈ p1, x.block < W.heap.size := by obtain ⟨m, hm⟩ := k1; exact DataW.trod_lt m _ _ _ hm
  obtain ⟨x1, K1, B1⟩ := Opens.arg (Opens.slice Try.underlying31 (by kernel_rfl) (by kernel_rfl : Try.prog.bytesOf 3 = 8) (Opens.int Try.underlying3)) hsz (j := 1) (t := 31) rfl rfl h1
  obtain ⟨a1, len1, cap1, rfl⟩ := okWide_slice Try.underlying31 (hval 1 31 v1 rfl rfl)
  obtain ⟨A1, c1, e1, l1, C1⟩ := K1
  simp [Value.cells] at e1
  obtain ⟨rfl, rfl, rfl⟩ := e1
  obtain ⟨a2, rfl, rfl, rfl, y2⟩ := open_string Try.underlying9 (hval 2 9 v2 rfl rfl) h2
  have w2 : a2.size ≤ 140737488351232 := by
    have z := sized_string hsz (j := 2) (t := 9) rfl rfl
    rw [Array.length_toList] at z
    exact z
  clear hA0 hval0 hsz0 hsz
  obtain ⟨k, h⟩ := Pure.LabelsText x0 x1 a2 B0 B1 w2
  refine (P.intervalmonlaw05_LabelsText.calls k _ _ x0 _ _ x1 a2 true W C0 l0 C1 l1 h).mono fun e W' ⟨he, bel0⟩ => ?_
  have bel : Below W.heap.size W W' := bel0
  subst he
  exact ⟨_, rfl, _, _, _, [], _, [], hW', trodAll_mk1 (shut_bool Try.underlying4 _), (trodAll_cons_mk (Below.trod laidOut (by kernel_rfl) (of_decide_eq_true (by kernel_rfl)) k0 bel lt0) (trodAll_cons_mk (Below.trod laidOut (by kernel_rfl) (of_decide_eq_true (by kernel_rfl)) k1 bel lt1) (trodAll_cons_mk (shut_string Try.underlying9 y2) trodAll_mk0))), rfl, bel.frame _, fun h => by cases h⟩
theorem over : Rows.labelsTextRow.holds Try.pinned (OpenSpec.ofChange Rows.labelsTextSpec) :=
  OpenClaim.holds_of_wide 4 Try.f4 rfl rfl rfl rfl rfl rfl rfl ⟨rfl, rfl, rfl, rfl, rfl⟩ rfl rfl rfl rfl rfl (by kernel_rfl) Try.func4 (by kernel_rfl)
    (of_decide_eq_true (by kernel_rfl)) (by unfold Func.isWrapper; first | (rw [if_pos (by decide +kernel)]; kernel_rfl) | (rw [if_neg (by decide +kernel)]; exact ⟨rfl, rfl⟩))
    (fun os started H enc _ => lifted os started H enc)
theorem proved : Rows.LabelsTextSaid := over
#print axioms proved
end Go.Proofs.Ytlohkfmobeapdaa.labelsText
namespace Go.Proofs.Ytlohkfmobeapdaa
/-- The row, under a short name, for the claim. -/
theorem labelsText_holds : Rows.LabelsTextSaid := labelsText.proved
end Go.Proofs.Ytlohkfmobeapdaa
