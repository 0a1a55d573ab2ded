/- The row of the law LabelsMatch, out of its pure statement and the walk. No condition. -/
import Derived.Test.YtlohkfmobeapdaaRows
import Derived.Test.YtlohkfmobeapdaaPx14
import Derived.Test.YtlohkfmobeapdaaPureLabelsMatch
import Derived.Test.YtlohkfmobeapdaaHOpen
import Derived.WalkKit
import Derived.ProofKit
import Derived.OpenShut
import Derived.ShutString
import Derived.ChangeOld
import Derived.Below
import Derived.SizedLaws
namespace Go.Proofs.Ytlohkfmobeapdaa.labelsMatch
open Go.ChangeShapes Go.WideShapes Go.ChangeAt Go.RowKit Go.Proofs.Ytlohkfmobeapdaa.P Go.Proofs.YtlohkfmobeapdaaW.PrintWords Go.Proofs.YtlohkfmobeapdaaW.PrintLast
open Go.ChangeMaps (open_string shut_string)
set_option linter.unusedVariables false
set_option linter.unusedSimpArgs false
theorem own : ownKnob Try.prog.godebug = none := by kernel_rfl
theorem laidOut : laidOutB Try.prog = true := by kernel_rfl
set_option maxRecDepth 100000 in
theorem op24 : Opens Try.prog 24 k24 fun x => (x.f0.size ≤ 140737488351232 ∧ (Lit.int .i64 x.f1).wf = true ∧ x.f2.size ≤ 140737488351232) := by
  refine Opens.struct (d := (Kd.pair Kd.string (Kd.pair (Kd.int .i64) Kd.string))) (B := (fun x : ByteArray × Int × ByteArray => x.1.size ≤ 140737488351232 ∧ (Lit.int .i64 x.2.1).wf = true ∧ x.2.2.size ≤ 140737488351232)) (fun x : S24 => (x.f0, x.f1, x.f2)) (fun a => ⟨a.1, a.2.1, a.2.2⟩) (fun _ => rfl) Try.underlying24 (by kernel_rfl) ?_
  change OpensF _ 0 [_, _, _] _ _
  refine OpensF.cons (d := Kd.string) (B := (fun x : ByteArray => x.size ≤ 140737488351232)) (d' := (Kd.pair (Kd.int .i64) Kd.string)) (B' := (fun x : Int × ByteArray => (Lit.int .i64 x.1).wf = true ∧ x.2.size ≤ 140737488351232)) rfl (by kernel_rfl) ?_ ?_
  · exact (Opens.string Try.underlying9)
  refine OpensF.cons (d := (Kd.int .i64)) (B := (fun x : Int => (Lit.int .i64 x).wf = true)) (d' := Kd.string) (B' := (fun x : ByteArray => x.size ≤ 140737488351232)) rfl (by kernel_rfl) ?_ ?_
  · exact (Opens.int Try.underlying3)
  refine OpensF.one (d := Kd.string) (B := (fun x : ByteArray => x.size ≤ 140737488351232)) rfl (by kernel_rfl) ?_
  exact (Opens.string Try.underlying9)
set_option maxRecDepth 100000 in
theorem lifted (os : Os) (started : os.Started) (H : Type) (enc : TypeId × Value → H) :
    ReturnsInHanded {} Try.checked os 8 .any (Rows.labelsMatchSpec.pre6 enc Try.prog Try.f8 Rows.labelsMatchRow.domain false) (Rows.labelsMatchSpec.post enc Try.prog Try.f8 false true false false) := by
  refine returnsInHanded_of_change_sized (C := Try.checked) own started (by kernel_rfl) Try.func8
    (ChangeSpec.witness6 (enc := enc) (C := Try.checked) false ⟨#[], #[.slice none 0 0, .slice none 0 0, .agg #[.string ByteArray.empty, .int .i64 0, .string ByteArray.empty]], []⟩ 8 (by kernel_rfl) (by kernel_rfl) (by kernel_rfl) (by kernel_rfl)) ?_
  intro W base args ds gs before hval0 hW hcnd hsz0 _
  have hsz : (DataW.weightsEach Try.prog (Try.f8.params.toList ++ Rows.labelsMatchSpec.plain.varTypes Try.prog) (ds ++ gs)).all (· ≤ reachBytes) = true := hsz0
  have hval : ∀ (j : Nat) t v, Try.f8.params[j]? = some t → args[j]? = some v → Value.okWide Try.prog W .any base t v := hval0
  have hW' := hW
  obtain ⟨p, q, hA0, hV, rfl, hfz, hnd⟩ := hW
  have hA : DataW.TrodAll enc Try.prog W 0 (fun _ => true) true Try.f8.params.toList args.toList ds p := hA0
  rw [Try.params8] at hA hval hsz
  obtain ⟨v0, vs0, d0, ds0, p0, q0, hargs, rfl, rfl, h0, r0⟩ := trodAll_cons hA
  obtain ⟨v1, vs1, d1, ds1, p1, q1, rfl, rfl, rfl, h1, r1⟩ := trodAll_cons r0
  obtain ⟨v2, vs2, d2, ds2, p2, q2, rfl, rfl, rfl, h2, r2⟩ := trodAll_cons r1
  obtain ⟨rfl, rfl, rfl⟩ := trodAll_nil r2
  obtain rfl : args = #[v0, v1, v2] := by cases args; simp_all
  obtain ⟨rfl, rfl⟩ := trodVars_none hV
  have k0 := h0
  have lt0 : ∀ x ∈ p0, x.block < W.heap.size := by obtain ⟨m, hm⟩ := k0; exact DataW.trod_lt m _ _ _ hm
  obtain ⟨x0, K0, B0⟩ := Opens.arg (Opens.slice Try.underlying31 (by kernel_rfl) (by kernel_rfl : Try.prog.bytesOf 3 = 8) (Opens.int Try.underlying3)) hsz (j := 0) (t := 31) rfl rfl h0
  obtain ⟨a0, len0, cap0, rfl⟩ := okWide_slice Try.underlying31 (hval 0 31 v0 rfl rfl)
  obtain ⟨A0, c0, e0, l0, C0⟩ := K0
  simp [Value.cells] at e0
  obtain ⟨rfl, rfl, rfl⟩ := e0
  have k1 := h1
  have lt1 : ∀ x ∈ p1, x.block < W.heap.size := by obtain ⟨m, hm⟩ := k1; exact DataW.trod_lt m _ _ _ hm
  obtain ⟨x1, K1, B1⟩ := Opens.arg (Opens.slice Try.underlying31 (by kernel_rfl) (by kernel_rfl : Try.prog.bytesOf 3 = 8) (Opens.int Try.underlying3)) hsz (j := 1) (t := 31) rfl rfl h1
  obtain ⟨a1, len1, cap1, rfl⟩ := okWide_slice Try.underlying31 (hval 1 31 v1 rfl rfl)
  obtain ⟨A1, c1, e1, l1, C1⟩ := K1
  simp [Value.cells] at e1
  obtain ⟨rfl, rfl, rfl⟩ := e1
  have k2 := h2
  have lt2 : ∀ x ∈ p2, x.block < W.heap.size := by obtain ⟨m, hm⟩ := k2; exact DataW.trod_lt m _ _ _ hm
  obtain ⟨x2, K2, B2⟩ := Opens.arg op24 hsz (j := 2) (t := 24) rfl rfl h2
  obtain ⟨cs2, rfl, _⟩ := okWide_struct Try.underlying24 (hval 2 24 v2 rfl rfl)
  have e2 := k24_open K2
  obtain rfl : cs2 = #[.string x2.f0, .int .i64 x2.f1, .string x2.f2] := by cases cs2; simpa [Value.cells] using e2
  clear hA0 hval0 hsz0 hsz
  obtain ⟨k, h⟩ := Pure.LabelsMatch x0 x1 x2 B0 B1 B2
  refine (P.intervalmonlaw05_LabelsMatch.calls k _ _ x0 _ _ x1 x2.f0 x2.f1 x2.f2 true W C0 l0 C1 l1 h).mono fun e W' ⟨he, bel0⟩ => ?_
  have bel : Below W.heap.size W W' := bel0
  subst he
  exact ⟨_, rfl, _, _, _, [], _, [], hW', trodAll_mk1 (shut_bool Try.underlying4 _), (trodAll_cons_mk (Below.trod laidOut (by kernel_rfl) (of_decide_eq_true (by kernel_rfl)) k0 bel lt0) (trodAll_cons_mk (Below.trod laidOut (by kernel_rfl) (of_decide_eq_true (by kernel_rfl)) k1 bel lt1) (trodAll_cons_mk (Below.trod laidOut (by kernel_rfl) (of_decide_eq_true (by kernel_rfl)) k2 bel lt2) trodAll_mk0))), rfl, bel.frame _, fun h => by cases h⟩
theorem over : Rows.labelsMatchRow.holds Try.pinned (OpenSpec.ofChange Rows.labelsMatchSpec) :=
  OpenClaim.holds_of_wide 8 Try.f8 rfl rfl rfl rfl rfl rfl rfl ⟨rfl, rfl, rfl, rfl, rfl⟩ rfl rfl rfl rfl rfl (by kernel_rfl) Try.func8 (by kernel_rfl)
    (of_decide_eq_true (by kernel_rfl)) (by unfold Func.isWrapper; first | (rw [if_pos (by decide +kernel)]; kernel_rfl) | (rw [if_neg (by decide +kernel)]; exact ⟨rfl, rfl⟩))
    (fun os started H enc _ => lifted os started H enc)
theorem proved : Rows.LabelsMatchSaid := over
#print axioms proved
end Go.Proofs.Ytlohkfmobeapdaa.labelsMatch
namespace Go.Proofs.Ytlohkfmobeapdaa
/-- The row, under a short name, for the claim. -/
theorem labelsMatch_holds : Rows.LabelsMatchSaid := labelsMatch.proved
end Go.Proofs.Ytlohkfmobeapdaa
