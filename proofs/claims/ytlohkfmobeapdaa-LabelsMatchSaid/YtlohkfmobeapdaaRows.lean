/-
  No cell of these rows narrows 'for every input' (looked for: loops, veiled, ifaces, maps, wideKeys, modest, calm, conditions, laid).
  DERIVED. THE GIVEN ROWS OF THIS SEAT. 7 by the template 'for every input the law returns true; each argument reads behind the call as it read before'; 0 by the template 'total and deterministic' (their statements: YtlohkfmobeapdaaTotals.lean).
  GIVEN WITH THE SEED: the statements are not yours to turn. If you find one false, say at which input.
  Laid BY PROGRAM, IN A SANDBOX (cutbox-rows.mjs): the forced cells as the released guide's own fill.sh prints them over the translation d12f030ba21cb7ef… (all of the seat's roots in one cut). By AI agents, Wed Nov 11 2026. No macro, syntax, notation, axiom, sorry.
-/
import Derived.Test.YtlohkfmobeapdaaChecked
import GoSem.Claim
import GoSem.ClaimJoined
import GoSem.ClaimMapViews
import Derived.JoinedTies
import Derived.KernelRfl
namespace Go.Proofs.Ytlohkfmobeapdaa
/- THE CELL 'sum', in the pinned program and in every row, IS THE sha256 OF THE DUMP (.gsa) THAT YtlohkfmobeapdaaProg.lean LOADS. Nothing in Lean hashes anything: it is a label: what it is worth is what the hold of that sum in a sandbox is worth. -/
noncomputable def Try.pinned : Pinned := { name := "ytlohkfmobeapdaa", sum := "d12f030ba21cb7ef42835684c7f34076970b7f45e5b9f2083a685d9d91f32e0b", checked := Try.checked }
namespace Rows
def none {H : Type} : Left H := { results := [], args := [] }

/-- 'intervalmonlaw05.LabelsNames': WHATEVER THE INPUT: true; the input reads as it did. -/
def labelsNamesSpec : ChangeSpec := { name := "labelsNames", fn := fun _ => fun
  | [d1, d2, d3] => { results := [.lit (.bool true)], args := [d1, d2, d3] }
  | _ => none }
def labelsNamesRow : OpenClaim := { program := "ytlohkfmobeapdaa", sum := "d12f030ba21cb7ef42835684c7f34076970b7f45e5b9f2083a685d9d91f32e0b", func := "intervalmon/intervalmonlaw05.LabelsNames", spec := "labelsNames", inPlace := ["internal/bytealg.IndexByteString", "internal/bytealg.IndexString", "internal/abi.NoEscape"], unfollowed := true, recurses := true, named := ["internal/bytealg.MaxLen"], apart := false }
def LabelsNamesSaid : Prop := labelsNamesRow.holds Try.pinned (OpenSpec.ofChange labelsNamesSpec)

/-- ITS FALSE NEIGHBOUR: 'it returns false'. Refute it at one input. -/
def labelsNamesWrong : ChangeSpec := { name := "labelsNames", fn := fun _ => fun
  | [d1, d2, d3] => { results := [.lit (.bool false)], args := [d1, d2, d3] }
  | _ => none }
def LabelsNamesWrongFalsely : Prop := labelsNamesRow.holds Try.pinned (OpenSpec.ofChange labelsNamesWrong)

/-- 'intervalmonlaw05.LabelsText': WHATEVER THE INPUT: true; the input reads as it did. -/
def labelsTextSpec : ChangeSpec := { name := "labelsText", fn := fun _ => fun
  | [d1, d2, d3] => { results := [.lit (.bool true)], args := [d1, d2, d3] }
  | _ => none }
def labelsTextRow : OpenClaim := { program := "ytlohkfmobeapdaa", sum := "d12f030ba21cb7ef42835684c7f34076970b7f45e5b9f2083a685d9d91f32e0b", func := "intervalmon/intervalmonlaw05.LabelsText", spec := "labelsText", inPlace := ["internal/abi.NoEscape", "internal/bytealg.IndexByteString", "internal/bytealg.IndexString"], unfollowed := true, recurses := true, named := ["internal/bytealg.MaxLen"], apart := false }
def LabelsTextSaid : Prop := labelsTextRow.holds Try.pinned (OpenSpec.ofChange labelsTextSpec)

/-- ITS FALSE NEIGHBOUR: 'it returns false'. Refute it at one input. -/
def labelsTextWrong : ChangeSpec := { name := "labelsText", fn := fun _ => fun
  | [d1, d2, d3] => { results := [.lit (.bool false)], args := [d1, d2, d3] }
  | _ => none }
def LabelsTextWrongFalsely : Prop := labelsTextRow.holds Try.pinned (OpenSpec.ofChange labelsTextWrong)

/-- 'intervalmonlaw05.LabelsNew': WHATEVER THE INPUT: true; the input reads as it did. -/
def labelsNewSpec : ChangeSpec := { name := "labelsNew", fn := fun _ => fun
  | [d] => { results := [.lit (.bool true)], args := [d] }
  | _ => none }
def labelsNewRow : OpenClaim := { program := "ytlohkfmobeapdaa", sum := "d12f030ba21cb7ef42835684c7f34076970b7f45e5b9f2083a685d9d91f32e0b", func := "intervalmon/intervalmonlaw05.LabelsNew", spec := "labelsNew", inPlace := ["internal/bytealg.IndexByteString", "internal/bytealg.IndexString", "internal/abi.NoEscape"], unfollowed := true, recurses := true, named := ["internal/bytealg.MaxLen"], apart := false }
def LabelsNewSaid : Prop := labelsNewRow.holds Try.pinned (OpenSpec.ofChange labelsNewSpec)

/-- ITS FALSE NEIGHBOUR: 'it returns false'. Refute it at one input. -/
def labelsNewWrong : ChangeSpec := { name := "labelsNew", fn := fun _ => fun
  | [d] => { results := [.lit (.bool false)], args := [d] }
  | _ => none }
def LabelsNewWrongFalsely : Prop := labelsNewRow.holds Try.pinned (OpenSpec.ofChange labelsNewWrong)

/-- 'intervalmonlaw05.LabelsOrder': WHATEVER THE INPUT: true; the input reads as it did. -/
def labelsOrderSpec : ChangeSpec := { name := "labelsOrder", fn := fun _ => fun
  | [d1, d2, d3] => { results := [.lit (.bool true)], args := [d1, d2, d3] }
  | _ => none }
def labelsOrderRow : OpenClaim := { program := "ytlohkfmobeapdaa", sum := "d12f030ba21cb7ef42835684c7f34076970b7f45e5b9f2083a685d9d91f32e0b", func := "intervalmon/intervalmonlaw05.LabelsOrder", spec := "labelsOrder", inPlace := ["internal/bytealg.IndexByteString", "internal/bytealg.IndexString", "internal/abi.NoEscape"], unfollowed := true, recurses := true, named := ["internal/bytealg.MaxLen"], apart := false }
def LabelsOrderSaid : Prop := labelsOrderRow.holds Try.pinned (OpenSpec.ofChange labelsOrderSpec)

/-- ITS FALSE NEIGHBOUR: 'it returns false'. Refute it at one input. -/
def labelsOrderWrong : ChangeSpec := { name := "labelsOrder", fn := fun _ => fun
  | [d1, d2, d3] => { results := [.lit (.bool false)], args := [d1, d2, d3] }
  | _ => none }
def LabelsOrderWrongFalsely : Prop := labelsOrderRow.holds Try.pinned (OpenSpec.ofChange labelsOrderWrong)

/-- 'intervalmonlaw05.LabelsKeep': WHATEVER THE INPUT: true; the input reads as it did. -/
def labelsKeepSpec : ChangeSpec := { name := "labelsKeep", fn := fun _ => fun
  | [d1, d2, d3] => { results := [.lit (.bool true)], args := [d1, d2, d3] }
  | _ => none }
def labelsKeepRow : OpenClaim := { program := "ytlohkfmobeapdaa", sum := "d12f030ba21cb7ef42835684c7f34076970b7f45e5b9f2083a685d9d91f32e0b", func := "intervalmon/intervalmonlaw05.LabelsKeep", spec := "labelsKeep", inPlace := ["internal/bytealg.IndexByteString", "internal/bytealg.IndexString", "internal/abi.NoEscape"], unfollowed := true, recurses := true, named := ["internal/bytealg.MaxLen"], apart := false }
def LabelsKeepSaid : Prop := labelsKeepRow.holds Try.pinned (OpenSpec.ofChange labelsKeepSpec)

/-- ITS FALSE NEIGHBOUR: 'it returns false'. Refute it at one input. -/
def labelsKeepWrong : ChangeSpec := { name := "labelsKeep", fn := fun _ => fun
  | [d1, d2, d3] => { results := [.lit (.bool false)], args := [d1, d2, d3] }
  | _ => none }
def LabelsKeepWrongFalsely : Prop := labelsKeepRow.holds Try.pinned (OpenSpec.ofChange labelsKeepWrong)

/-- 'intervalmonlaw05.LabelsMatch': WHATEVER THE INPUT: true; the input reads as it did. -/
def labelsMatchSpec : ChangeSpec := { name := "labelsMatch", fn := fun _ => fun
  | [d1, d2, d3] => { results := [.lit (.bool true)], args := [d1, d2, d3] }
  | _ => none }
def labelsMatchRow : OpenClaim := { program := "ytlohkfmobeapdaa", sum := "d12f030ba21cb7ef42835684c7f34076970b7f45e5b9f2083a685d9d91f32e0b", func := "intervalmon/intervalmonlaw05.LabelsMatch", spec := "labelsMatch", inPlace := ["internal/bytealg.IndexByteString", "internal/bytealg.IndexString", "internal/abi.NoEscape"], unfollowed := true, recurses := true, named := ["internal/bytealg.MaxLen"], apart := false }
def LabelsMatchSaid : Prop := labelsMatchRow.holds Try.pinned (OpenSpec.ofChange labelsMatchSpec)

/-- ITS FALSE NEIGHBOUR: 'it returns false'. Refute it at one input. -/
def labelsMatchWrong : ChangeSpec := { name := "labelsMatch", fn := fun _ => fun
  | [d1, d2, d3] => { results := [.lit (.bool false)], args := [d1, d2, d3] }
  | _ => none }
def LabelsMatchWrongFalsely : Prop := labelsMatchRow.holds Try.pinned (OpenSpec.ofChange labelsMatchWrong)

/-- 'intervalmonlaw05.LabelsSelective': WHATEVER THE INPUT: true; the input reads as it did. -/
def labelsSelectiveSpec : ChangeSpec := { name := "labelsSelective", fn := fun _ => fun
  | [d1, d2, d3, d4] => { results := [.lit (.bool true)], args := [d1, d2, d3, d4] }
  | _ => none }
def labelsSelectiveRow : OpenClaim := { program := "ytlohkfmobeapdaa", sum := "d12f030ba21cb7ef42835684c7f34076970b7f45e5b9f2083a685d9d91f32e0b", func := "intervalmon/intervalmonlaw05.LabelsSelective", spec := "labelsSelective", inPlace := ["internal/bytealg.IndexByteString", "internal/bytealg.IndexString", "internal/abi.NoEscape"], unfollowed := true, recurses := true, named := ["internal/bytealg.MaxLen"], apart := false }
def LabelsSelectiveSaid : Prop := labelsSelectiveRow.holds Try.pinned (OpenSpec.ofChange labelsSelectiveSpec)

/-- ITS FALSE NEIGHBOUR: 'it returns false'. Refute it at one input. -/
def labelsSelectiveWrong : ChangeSpec := { name := "labelsSelective", fn := fun _ => fun
  | [d1, d2, d3, d4] => { results := [.lit (.bool false)], args := [d1, d2, d3, d4] }
  | _ => none }
def LabelsSelectiveWrongFalsely : Prop := labelsSelectiveRow.holds Try.pinned (OpenSpec.ofChange labelsSelectiveWrong)

/- THE SECOND FORM. 'bulk': how many values and letters a reading holds, each counted each time it is reached (what is shared counts as often as it is met; a slice's spare places count too). A statement '..UptoSaid' is the law's where the arguments, and the package variables that the reading takes, are together of bulk at most 1048576: NARROWER than '..Said'. Prove '..Said' where nothing that the law and all that it calls make is longer than what came in: it says more and counts as full. Else prove '..UptoSaid'. A law counts once. -/
mutual
def uptoBulk {H : Type} : DataW H → Nat
  | .lit (.string bytes) => bytes.length + 1
  | .lit _ => 1
  | .nil => 1
  | .ptr d => uptoBulk d + 1
  | .slice elems spare => uptoBulkAll elems + uptoBulkAll spare + 1
  | .agg parts => uptoBulkAll parts + 1
  | .iface _ d => uptoBulk d + 1
  | .map entries => uptoBulkEntries entries + 1
  | .held _ => 1
def uptoBulkAll {H : Type} : List (DataW H) → Nat
  | [] => 0
  | d :: r => uptoBulk d + uptoBulkAll r
def uptoBulkEntries {H : Type} : List (Lit × DataW H) → Nat
  | [] => 0
  | x :: r => uptoBulkEntry x + uptoBulkEntries r
def uptoBulkEntry {H : Type} : Lit × DataW H → Nat
  | (.string bytes, d) => bytes.length + uptoBulk d + 1
  | (_, d) => uptoBulk d + 1
 end
def uptoSmall : (H : Type) → List (DataW H) → Bool := fun _ ds => decide (uptoBulkAll ds ≤ 1048576)
def OpenSpec.upto (s : _root_.Go.ChangeSpec) : _root_.Go.OpenSpec := { _root_.Go.OpenSpec.ofChange s with cond := some uptoSmall }

/-- 'intervalmonlaw05.LabelsNames', WHERE WHAT IT READS IS OF BULK AT MOST 1048576: true; the input reads as it did. -/
def labelsNamesUptoRow : OpenClaim := { program := "ytlohkfmobeapdaa", sum := "d12f030ba21cb7ef42835684c7f34076970b7f45e5b9f2083a685d9d91f32e0b", func := "intervalmon/intervalmonlaw05.LabelsNames", spec := "labelsNames", inPlace := ["internal/bytealg.IndexByteString", "internal/bytealg.IndexString", "internal/abi.NoEscape"], unfollowed := true, recurses := true, named := ["internal/bytealg.MaxLen"], apart := false, narrowed := true }
def LabelsNamesUptoSaid : Prop := labelsNamesUptoRow.holds Try.pinned (OpenSpec.upto labelsNamesSpec)

/-- 'intervalmonlaw05.LabelsText', WHERE WHAT IT READS IS OF BULK AT MOST 1048576: true; the input reads as it did. -/
def labelsTextUptoRow : OpenClaim := { program := "ytlohkfmobeapdaa", sum := "d12f030ba21cb7ef42835684c7f34076970b7f45e5b9f2083a685d9d91f32e0b", func := "intervalmon/intervalmonlaw05.LabelsText", spec := "labelsText", inPlace := ["internal/abi.NoEscape", "internal/bytealg.IndexByteString", "internal/bytealg.IndexString"], unfollowed := true, recurses := true, named := ["internal/bytealg.MaxLen"], apart := false, narrowed := true }
def LabelsTextUptoSaid : Prop := labelsTextUptoRow.holds Try.pinned (OpenSpec.upto labelsTextSpec)

/-- 'intervalmonlaw05.LabelsNew', WHERE WHAT IT READS IS OF BULK AT MOST 1048576: true; the input reads as it did. -/
def labelsNewUptoRow : OpenClaim := { program := "ytlohkfmobeapdaa", sum := "d12f030ba21cb7ef42835684c7f34076970b7f45e5b9f2083a685d9d91f32e0b", func := "intervalmon/intervalmonlaw05.LabelsNew", spec := "labelsNew", inPlace := ["internal/bytealg.IndexByteString", "internal/bytealg.IndexString", "internal/abi.NoEscape"], unfollowed := true, recurses := true, named := ["internal/bytealg.MaxLen"], apart := false, narrowed := true }
def LabelsNewUptoSaid : Prop := labelsNewUptoRow.holds Try.pinned (OpenSpec.upto labelsNewSpec)

/-- 'intervalmonlaw05.LabelsOrder', WHERE WHAT IT READS IS OF BULK AT MOST 1048576: true; the input reads as it did. -/
def labelsOrderUptoRow : OpenClaim := { program := "ytlohkfmobeapdaa", sum := "d12f030ba21cb7ef42835684c7f34076970b7f45e5b9f2083a685d9d91f32e0b", func := "intervalmon/intervalmonlaw05.LabelsOrder", spec := "labelsOrder", inPlace := ["internal/bytealg.IndexByteString", "internal/bytealg.IndexString", "internal/abi.NoEscape"], unfollowed := true, recurses := true, named := ["internal/bytealg.MaxLen"], apart := false, narrowed := true }
def LabelsOrderUptoSaid : Prop := labelsOrderUptoRow.holds Try.pinned (OpenSpec.upto labelsOrderSpec)

/-- 'intervalmonlaw05.LabelsKeep', WHERE WHAT IT READS IS OF BULK AT MOST 1048576: true; the input reads as it did. -/
def labelsKeepUptoRow : OpenClaim := { program := "ytlohkfmobeapdaa", sum := "d12f030ba21cb7ef42835684c7f34076970b7f45e5b9f2083a685d9d91f32e0b", func := "intervalmon/intervalmonlaw05.LabelsKeep", spec := "labelsKeep", inPlace := ["internal/bytealg.IndexByteString", "internal/bytealg.IndexString", "internal/abi.NoEscape"], unfollowed := true, recurses := true, named := ["internal/bytealg.MaxLen"], apart := false, narrowed := true }
def LabelsKeepUptoSaid : Prop := labelsKeepUptoRow.holds Try.pinned (OpenSpec.upto labelsKeepSpec)

/-- 'intervalmonlaw05.LabelsMatch', WHERE WHAT IT READS IS OF BULK AT MOST 1048576: true; the input reads as it did. -/
def labelsMatchUptoRow : OpenClaim := { program := "ytlohkfmobeapdaa", sum := "d12f030ba21cb7ef42835684c7f34076970b7f45e5b9f2083a685d9d91f32e0b", func := "intervalmon/intervalmonlaw05.LabelsMatch", spec := "labelsMatch", inPlace := ["internal/bytealg.IndexByteString", "internal/bytealg.IndexString", "internal/abi.NoEscape"], unfollowed := true, recurses := true, named := ["internal/bytealg.MaxLen"], apart := false, narrowed := true }
def LabelsMatchUptoSaid : Prop := labelsMatchUptoRow.holds Try.pinned (OpenSpec.upto labelsMatchSpec)

/-- 'intervalmonlaw05.LabelsSelective', WHERE WHAT IT READS IS OF BULK AT MOST 1048576: true; the input reads as it did. -/
def labelsSelectiveUptoRow : OpenClaim := { program := "ytlohkfmobeapdaa", sum := "d12f030ba21cb7ef42835684c7f34076970b7f45e5b9f2083a685d9d91f32e0b", func := "intervalmon/intervalmonlaw05.LabelsSelective", spec := "labelsSelective", inPlace := ["internal/bytealg.IndexByteString", "internal/bytealg.IndexString", "internal/abi.NoEscape"], unfollowed := true, recurses := true, named := ["internal/bytealg.MaxLen"], apart := false, narrowed := true }
def LabelsSelectiveUptoSaid : Prop := labelsSelectiveUptoRow.holds Try.pinned (OpenSpec.upto labelsSelectiveSpec)

end Rows
end Go.Proofs.Ytlohkfmobeapdaa
