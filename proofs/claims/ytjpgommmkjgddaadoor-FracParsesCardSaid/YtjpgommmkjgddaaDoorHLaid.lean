/- What the rows list of the library's variables: a world that meets it, and what the walks take from it. -/
import Derived.Test.YtjpgommmkjgddaaDoorRows
import Derived.Test.YtjpgommmkjgddaaDoorHStrs
import Derived.Lib.LaidTab
import Derived.Stop.LaidErr
import Derived.LaidMore
import Derived.LaidHandle
import Derived.MakeChecks
import Derived.ProofKit
namespace Go.Proofs.YtjpgommmkjgddaaDoor.P
open Go.RowKit Go.Proofs.YtjpgommmkjgddaaDoorW.PrintWords Go.Proofs.YtjpgommmkjgddaaDoorW.PrintLast Go.Proofs.YtjpgommmkjgddaaDoorW.PrintMore
set_option linter.unusedVariables false
set_option linter.unusedSimpArgs false
def laid5 : List (String × DataW Unit) := [("math/bits.deBruijn32tab", Rows.laid_math_bits_deBruijn32tab), ("math/bits.deBruijn64tab", Rows.laid_math_bits_deBruijn64tab), ("internal/strconv.uint64pow10", Rows.laid_internal_strconv_uint64pow10), ("strconv.ErrRange", Rows.laid_strconv_ErrRange), ("strconv.ErrSyntax", Rows.laid_strconv_ErrSyntax)]
theorem gES : Tryd.prog.globalNamed "strconv.ErrSyntax" = some 3 := by kernel_rfl
theorem gER : Tryd.prog.globalNamed "strconv.ErrRange" = some 4 := by kernel_rfl
theorem gTB : Tryd.prog.globalNamed "internal/strconv.uint64pow10" = some 5 := by kernel_rfl
theorem tES : (Tryd.prog.globals[3]?).map (·.type) = some 72 := by kernel_rfl
theorem tER : (Tryd.prog.globals[4]?).map (·.type) = some 72 := by kernel_rfl
theorem tTB : (Tryd.prog.globals[5]?).map (·.type) = some 129 := by kernel_rfl
theorem star_ : "*" ++ "errors.errorString" = "*errors.errorString" := by decide
theorem rowES (u : TypeId) (h : Tryd.prog.typeName? 3 u = some "*errors.errorString") : u = 138 :=
  typeName_ptr_named (nm := "errors.errorString") (by rw [star_]; kernel_rfl) (by kernel_rfl) (by decide) u (by rw [star_]; exact h)
theorem c140 : Tryd.prog.cellsOf 140 = 1 := by kernel_rfl
theorem c9 : Tryd.prog.cellsOf 9 = 1 := by kernel_rfl
theorem c41 : Tryd.prog.cellsOf 41 = 1 := by kernel_rfl
theorem c129 : Tryd.prog.cellsOf 129 = 20 := by kernel_rfl
theorem gl_of_laid {W : World} (h : laidMetH Tryd.prog laid5 W) : GL W := by
  rw [MakeChecks.laidMetH_plain _ _ _ (by kernel_rfl)] at h
  have h3 := h.tail.tail
  have e : (Rows.laid_internal_strconv_uint64pow10 : DataW Unit) = Lib.tabData .u64 Lib.pow10Tab := by kernel_rfl
  obtain ⟨a0, s0, hv0, -, -, -⟩ := laid_sentinel h3.tail gER tER Tryd.underlying72 rowES Tryd.underlying138 Tryd.underlying140 rfl rfl Tryd.underlying9 c140 c9
  obtain ⟨a1, s1, hv1, -, -, -⟩ := laid_sentinel h3.tail.tail gES tES Tryd.underlying72 rowES Tryd.underlying138 Tryd.underlying140 rfl rfl Tryd.underlying9 c140 c9
  rw [e] at h3
  exact ⟨Lib.tabIs_of_head gTB tTB Tryd.underlying129 Tryd.underlying41 c41 c129 h3, ⟨_, _, hv1⟩, ⟨_, _, hv0⟩⟩
/-- The door's own heap meets the condition. -/
theorem door_met (os : Os) (args : Array Value) : laidMetH Tryd.prog laid5 ((World.doorLaid Tryd.prog 4000 os).forCall (fun _ _ => 0) ⟨#[], args, []⟩).memory := by
  rw [MakeChecks.laidMetH_plain _ _ _ (by kernel_rfl)]
  exact laidMet_of_run' 8 (by kernel_rfl) (by kernel_rfl)
end Go.Proofs.YtjpgommmkjgddaaDoor.P
