/-
  No cell of these rows narrows 'for every input' (looked for: loops, veiled, ifaces, maps, wideKeys, modest, calm, conditions, laid).
  DERIVED. THE GIVEN ROWS OF THIS SEAT. 9 by the template 'for every input the law returns true; each argument reads behind the call as it read before'; 0 by the template 'total and deterministic' (their statements: YtcamljlhdejmmaaTotals.lean).
  GIVEN WITH THE SEED: the statements are not yours to turn. If you find one false, say at which input.
  Laid BY PROGRAM, IN A SANDBOX (cutbox-rows.mjs): the forced cells as the released guide's own fill.sh prints them over the translation a4c5f0fb03317c27… (all of the seat's roots in one cut). By AI agents, Wed Nov 11 2026. No macro, syntax, notation, axiom, sorry.
-/
import Derived.Test.YtcamljlhdejmmaaChecked
import GoSem.Claim
import GoSem.ClaimJoined
import GoSem.ClaimMapViews
import Derived.JoinedTies
import Derived.KernelRfl
namespace Go.Proofs.Ytcamljlhdejmmaa
/- THE CELL 'sum', in the pinned program and in every row, IS THE sha256 OF THE DUMP (.gsa) THAT YtcamljlhdejmmaaProg.lean LOADS. Nothing in Lean hashes anything: it is a label: what it is worth is what the hold of that sum in a sandbox is worth. -/
noncomputable def Try.pinned : Pinned := { name := "ytcamljlhdejmmaa", sum := "a4c5f0fb03317c270b24fc3e6927ccf2d896ff78830a6b57efc9e71698b93779", checked := Try.checked }
namespace Rows
def none {H : Type} : Left H := { results := [], args := [] }

/-- 'intervalmonlaw29.RouteValid': WHATEVER THE INPUT: true; the input reads as it did. -/
def routeValidSpec : ChangeSpec := { name := "routeValid", fn := fun _ => fun
  | [d1, d2, d3, d4] => { results := [.lit (.bool true)], args := [d1, d2, d3, d4] }
  | _ => none }
def routeValidRow : OpenClaim := { program := "ytcamljlhdejmmaa", sum := "a4c5f0fb03317c270b24fc3e6927ccf2d896ff78830a6b57efc9e71698b93779", func := "intervalmon/intervalmonlaw29.RouteValid", spec := "routeValid", plainKeys := false, apart := false }
def RouteValidSaid : Prop := routeValidRow.holds Try.pinned (OpenSpec.ofChange routeValidSpec)

/-- ITS FALSE NEIGHBOUR: 'it returns false'. Refute it at one input. -/
def routeValidWrong : ChangeSpec := { name := "routeValid", fn := fun _ => fun
  | [d1, d2, d3, d4] => { results := [.lit (.bool false)], args := [d1, d2, d3, d4] }
  | _ => none }
def RouteValidWrongFalsely : Prop := routeValidRow.holds Try.pinned (OpenSpec.ofChange routeValidWrong)

/-- 'intervalmonlaw29.RouteInhibited': WHATEVER THE INPUT: true; the input reads as it did. -/
def routeInhibitedSpec : ChangeSpec := { name := "routeInhibited", fn := fun _ => fun
  | [d1, d2, d3] => { results := [.lit (.bool true)], args := [d1, d2, d3] }
  | _ => none }
def routeInhibitedRow : OpenClaim := { program := "ytcamljlhdejmmaa", sum := "a4c5f0fb03317c270b24fc3e6927ccf2d896ff78830a6b57efc9e71698b93779", func := "intervalmon/intervalmonlaw29.RouteInhibited", spec := "routeInhibited", plainKeys := false, apart := false }
def RouteInhibitedSaid : Prop := routeInhibitedRow.holds Try.pinned (OpenSpec.ofChange routeInhibitedSpec)

/-- ITS FALSE NEIGHBOUR: 'it returns false'. Refute it at one input. -/
def routeInhibitedWrong : ChangeSpec := { name := "routeInhibited", fn := fun _ => fun
  | [d1, d2, d3] => { results := [.lit (.bool false)], args := [d1, d2, d3] }
  | _ => none }
def RouteInhibitedWrongFalsely : Prop := routeInhibitedRow.holds Try.pinned (OpenSpec.ofChange routeInhibitedWrong)

/-- 'intervalmonlaw29.RouteRoots': WHATEVER THE INPUT: true; the input reads as it did. -/
def routeRootsSpec : ChangeSpec := { name := "routeRoots", fn := fun _ => fun
  | [d1, d2] => { results := [.lit (.bool true)], args := [d1, d2] }
  | _ => none }
def routeRootsRow : OpenClaim := { program := "ytcamljlhdejmmaa", sum := "a4c5f0fb03317c270b24fc3e6927ccf2d896ff78830a6b57efc9e71698b93779", func := "intervalmon/intervalmonlaw29.RouteRoots", spec := "routeRoots", plainKeys := false, apart := false }
def RouteRootsSaid : Prop := routeRootsRow.holds Try.pinned (OpenSpec.ofChange routeRootsSpec)

/-- ITS FALSE NEIGHBOUR: 'it returns false'. Refute it at one input. -/
def routeRootsWrong : ChangeSpec := { name := "routeRoots", fn := fun _ => fun
  | [d1, d2] => { results := [.lit (.bool false)], args := [d1, d2] }
  | _ => none }
def RouteRootsWrongFalsely : Prop := routeRootsRow.holds Try.pinned (OpenSpec.ofChange routeRootsWrong)

/-- 'intervalmonlaw29.RouteMonotone': WHATEVER THE INPUT: true; the input reads as it did. -/
def routeMonotoneSpec : ChangeSpec := { name := "routeMonotone", fn := fun _ => fun
  | [d1, d2, d3, d4, d5] => { results := [.lit (.bool true)], args := [d1, d2, d3, d4, d5] }
  | _ => none }
def routeMonotoneRow : OpenClaim := { program := "ytcamljlhdejmmaa", sum := "a4c5f0fb03317c270b24fc3e6927ccf2d896ff78830a6b57efc9e71698b93779", func := "intervalmon/intervalmonlaw29.RouteMonotone", spec := "routeMonotone", plainKeys := false, apart := false }
def RouteMonotoneSaid : Prop := routeMonotoneRow.holds Try.pinned (OpenSpec.ofChange routeMonotoneSpec)

/-- ITS FALSE NEIGHBOUR: 'it returns false'. Refute it at one input. -/
def routeMonotoneWrong : ChangeSpec := { name := "routeMonotone", fn := fun _ => fun
  | [d1, d2, d3, d4, d5] => { results := [.lit (.bool false)], args := [d1, d2, d3, d4, d5] }
  | _ => none }
def RouteMonotoneWrongFalsely : Prop := routeMonotoneRow.holds Try.pinned (OpenSpec.ofChange routeMonotoneWrong)

/-- 'intervalmonlaw29.RouteRota': WHATEVER THE INPUT: true; the input reads as it did. -/
def routeRotaSpec : ChangeSpec := { name := "routeRota", fn := fun _ => fun
  | [d1, d2, d3, d4, d5] => { results := [.lit (.bool true)], args := [d1, d2, d3, d4, d5] }
  | _ => none }
def routeRotaRow : OpenClaim := { program := "ytcamljlhdejmmaa", sum := "a4c5f0fb03317c270b24fc3e6927ccf2d896ff78830a6b57efc9e71698b93779", func := "intervalmon/intervalmonlaw29.RouteRota", spec := "routeRota", plainKeys := false, apart := false }
def RouteRotaSaid : Prop := routeRotaRow.holds Try.pinned (OpenSpec.ofChange routeRotaSpec)

/-- ITS FALSE NEIGHBOUR: 'it returns false'. Refute it at one input. -/
def routeRotaWrong : ChangeSpec := { name := "routeRota", fn := fun _ => fun
  | [d1, d2, d3, d4, d5] => { results := [.lit (.bool false)], args := [d1, d2, d3, d4, d5] }
  | _ => none }
def RouteRotaWrongFalsely : Prop := routeRotaRow.holds Try.pinned (OpenSpec.ofChange routeRotaWrong)

/-- 'intervalmonlaw29.RouteDuty': WHATEVER THE INPUT: true; the input reads as it did. -/
def routeDutySpec : ChangeSpec := { name := "routeDuty", fn := fun _ => fun
  | [d1, d2, d3] => { results := [.lit (.bool true)], args := [d1, d2, d3] }
  | _ => none }
def routeDutyRow : OpenClaim := { program := "ytcamljlhdejmmaa", sum := "a4c5f0fb03317c270b24fc3e6927ccf2d896ff78830a6b57efc9e71698b93779", func := "intervalmon/intervalmonlaw29.RouteDuty", spec := "routeDuty", plainKeys := false, apart := false }
def RouteDutySaid : Prop := routeDutyRow.holds Try.pinned (OpenSpec.ofChange routeDutySpec)

/-- ITS FALSE NEIGHBOUR: 'it returns false'. Refute it at one input. -/
def routeDutyWrong : ChangeSpec := { name := "routeDuty", fn := fun _ => fun
  | [d1, d2, d3] => { results := [.lit (.bool false)], args := [d1, d2, d3] }
  | _ => none }
def RouteDutyWrongFalsely : Prop := routeDutyRow.holds Try.pinned (OpenSpec.ofChange routeDutyWrong)

/-- 'intervalmonlaw29.RoutePeriodic': WHATEVER THE INPUT: true; the input reads as it did. -/
def routePeriodicSpec : ChangeSpec := { name := "routePeriodic", fn := fun _ => fun
  | [d1, d2] => { results := [.lit (.bool true)], args := [d1, d2] }
  | _ => none }
def routePeriodicRow : OpenClaim := { program := "ytcamljlhdejmmaa", sum := "a4c5f0fb03317c270b24fc3e6927ccf2d896ff78830a6b57efc9e71698b93779", func := "intervalmon/intervalmonlaw29.RoutePeriodic", spec := "routePeriodic", plainKeys := false, apart := false }
def RoutePeriodicSaid : Prop := routePeriodicRow.holds Try.pinned (OpenSpec.ofChange routePeriodicSpec)

/-- ITS FALSE NEIGHBOUR: 'it returns false'. Refute it at one input. -/
def routePeriodicWrong : ChangeSpec := { name := "routePeriodic", fn := fun _ => fun
  | [d1, d2] => { results := [.lit (.bool false)], args := [d1, d2] }
  | _ => none }
def RoutePeriodicWrongFalsely : Prop := routePeriodicRow.holds Try.pinned (OpenSpec.ofChange routePeriodicWrong)

/-- 'intervalmonlaw29.RouteGroups': WHATEVER THE INPUT: true; the input reads as it did. -/
def routeGroupsSpec : ChangeSpec := { name := "routeGroups", fn := fun _ => fun
  | [d1, d2, d3] => { results := [.lit (.bool true)], args := [d1, d2, d3] }
  | _ => none }
def routeGroupsRow : OpenClaim := { program := "ytcamljlhdejmmaa", sum := "a4c5f0fb03317c270b24fc3e6927ccf2d896ff78830a6b57efc9e71698b93779", func := "intervalmon/intervalmonlaw29.RouteGroups", spec := "routeGroups", unfollowed := true, recurses := true, plainKeys := false, apart := false }
def RouteGroupsSaid : Prop := routeGroupsRow.holds Try.pinned (OpenSpec.ofChange routeGroupsSpec)

/-- ITS FALSE NEIGHBOUR: 'it returns false'. Refute it at one input. -/
def routeGroupsWrong : ChangeSpec := { name := "routeGroups", fn := fun _ => fun
  | [d1, d2, d3] => { results := [.lit (.bool false)], args := [d1, d2, d3] }
  | _ => none }
def RouteGroupsWrongFalsely : Prop := routeGroupsRow.holds Try.pinned (OpenSpec.ofChange routeGroupsWrong)

/-- 'intervalmonlaw29.RoutePartition': WHATEVER THE INPUT: true; the input reads as it did. -/
def routePartitionSpec : ChangeSpec := { name := "routePartition", fn := fun _ => fun
  | [d1, d2, d3] => { results := [.lit (.bool true)], args := [d1, d2, d3] }
  | _ => none }
def routePartitionRow : OpenClaim := { program := "ytcamljlhdejmmaa", sum := "a4c5f0fb03317c270b24fc3e6927ccf2d896ff78830a6b57efc9e71698b93779", func := "intervalmon/intervalmonlaw29.RoutePartition", spec := "routePartition", unfollowed := true, recurses := true, plainKeys := false, apart := false }
def RoutePartitionSaid : Prop := routePartitionRow.holds Try.pinned (OpenSpec.ofChange routePartitionSpec)

/-- ITS FALSE NEIGHBOUR: 'it returns false'. Refute it at one input. -/
def routePartitionWrong : ChangeSpec := { name := "routePartition", fn := fun _ => fun
  | [d1, d2, d3] => { results := [.lit (.bool false)], args := [d1, d2, d3] }
  | _ => none }
def RoutePartitionWrongFalsely : Prop := routePartitionRow.holds Try.pinned (OpenSpec.ofChange routePartitionWrong)

/- THE SECOND FORM. 'bulk': how many values and letters a reading holds, each counted each time it is reached (what is shared counts as often as it is met; a slice's spare places count too). A statement '..UptoSaid' is the law's where the arguments, and the package variables that the reading takes, are together of bulk at most 1048576: NARROWER than '..Said'. Prove '..Said' where nothing that the law and all that it calls make is longer than what came in: it says more and counts as full. Else prove '..UptoSaid'. A law counts once. -/
mutual
def uptoBulk {H : Type} : DataW H → Nat
  | .lit (.string bytes) => bytes.length + 1
  | .lit _ => 1
  | .nil => 1
  | .ptr d => uptoBulk d + 1
  | .slice elems spare => uptoBulkAll elems + uptoBulkAll spare + 1
  | .agg parts => uptoBulkAll parts + 1
  | .iface _ d => uptoBulk d + 1
  | .map entries => uptoBulkEntries entries + 1
  | .held _ => 1
def uptoBulkAll {H : Type} : List (DataW H) → Nat
  | [] => 0
  | d :: r => uptoBulk d + uptoBulkAll r
def uptoBulkEntries {H : Type} : List (Lit × DataW H) → Nat
  | [] => 0
  | x :: r => uptoBulkEntry x + uptoBulkEntries r
def uptoBulkEntry {H : Type} : Lit × DataW H → Nat
  | (.string bytes, d) => bytes.length + uptoBulk d + 1
  | (_, d) => uptoBulk d + 1
 end
def uptoSmall : (H : Type) → List (DataW H) → Bool := fun _ ds => decide (uptoBulkAll ds ≤ 1048576)
def OpenSpec.upto (s : _root_.Go.ChangeSpec) : _root_.Go.OpenSpec := { _root_.Go.OpenSpec.ofChange s with cond := some uptoSmall }

/-- 'intervalmonlaw29.RouteValid', WHERE WHAT IT READS IS OF BULK AT MOST 1048576: true; the input reads as it did. -/
def routeValidUptoRow : OpenClaim := { program := "ytcamljlhdejmmaa", sum := "a4c5f0fb03317c270b24fc3e6927ccf2d896ff78830a6b57efc9e71698b93779", func := "intervalmon/intervalmonlaw29.RouteValid", spec := "routeValid", plainKeys := false, apart := false, narrowed := true }
def RouteValidUptoSaid : Prop := routeValidUptoRow.holds Try.pinned (OpenSpec.upto routeValidSpec)

/-- 'intervalmonlaw29.RouteInhibited', WHERE WHAT IT READS IS OF BULK AT MOST 1048576: true; the input reads as it did. -/
def routeInhibitedUptoRow : OpenClaim := { program := "ytcamljlhdejmmaa", sum := "a4c5f0fb03317c270b24fc3e6927ccf2d896ff78830a6b57efc9e71698b93779", func := "intervalmon/intervalmonlaw29.RouteInhibited", spec := "routeInhibited", plainKeys := false, apart := false, narrowed := true }
def RouteInhibitedUptoSaid : Prop := routeInhibitedUptoRow.holds Try.pinned (OpenSpec.upto routeInhibitedSpec)

/-- 'intervalmonlaw29.RouteRoots', WHERE WHAT IT READS IS OF BULK AT MOST 1048576: true; the input reads as it did. -/
def routeRootsUptoRow : OpenClaim := { program := "ytcamljlhdejmmaa", sum := "a4c5f0fb03317c270b24fc3e6927ccf2d896ff78830a6b57efc9e71698b93779", func := "intervalmon/intervalmonlaw29.RouteRoots", spec := "routeRoots", plainKeys := false, apart := false, narrowed := true }
def RouteRootsUptoSaid : Prop := routeRootsUptoRow.holds Try.pinned (OpenSpec.upto routeRootsSpec)

/-- 'intervalmonlaw29.RouteMonotone', WHERE WHAT IT READS IS OF BULK AT MOST 1048576: true; the input reads as it did. -/
def routeMonotoneUptoRow : OpenClaim := { program := "ytcamljlhdejmmaa", sum := "a4c5f0fb03317c270b24fc3e6927ccf2d896ff78830a6b57efc9e71698b93779", func := "intervalmon/intervalmonlaw29.RouteMonotone", spec := "routeMonotone", plainKeys := false, apart := false, narrowed := true }
def RouteMonotoneUptoSaid : Prop := routeMonotoneUptoRow.holds Try.pinned (OpenSpec.upto routeMonotoneSpec)

/-- 'intervalmonlaw29.RouteRota', WHERE WHAT IT READS IS OF BULK AT MOST 1048576: true; the input reads as it did. -/
def routeRotaUptoRow : OpenClaim := { program := "ytcamljlhdejmmaa", sum := "a4c5f0fb03317c270b24fc3e6927ccf2d896ff78830a6b57efc9e71698b93779", func := "intervalmon/intervalmonlaw29.RouteRota", spec := "routeRota", plainKeys := false, apart := false, narrowed := true }
def RouteRotaUptoSaid : Prop := routeRotaUptoRow.holds Try.pinned (OpenSpec.upto routeRotaSpec)

/-- 'intervalmonlaw29.RouteDuty', WHERE WHAT IT READS IS OF BULK AT MOST 1048576: true; the input reads as it did. -/
def routeDutyUptoRow : OpenClaim := { program := "ytcamljlhdejmmaa", sum := "a4c5f0fb03317c270b24fc3e6927ccf2d896ff78830a6b57efc9e71698b93779", func := "intervalmon/intervalmonlaw29.RouteDuty", spec := "routeDuty", plainKeys := false, apart := false, narrowed := true }
def RouteDutyUptoSaid : Prop := routeDutyUptoRow.holds Try.pinned (OpenSpec.upto routeDutySpec)

/-- 'intervalmonlaw29.RoutePeriodic', WHERE WHAT IT READS IS OF BULK AT MOST 1048576: true; the input reads as it did. -/
def routePeriodicUptoRow : OpenClaim := { program := "ytcamljlhdejmmaa", sum := "a4c5f0fb03317c270b24fc3e6927ccf2d896ff78830a6b57efc9e71698b93779", func := "intervalmon/intervalmonlaw29.RoutePeriodic", spec := "routePeriodic", plainKeys := false, apart := false, narrowed := true }
def RoutePeriodicUptoSaid : Prop := routePeriodicUptoRow.holds Try.pinned (OpenSpec.upto routePeriodicSpec)

/-- 'intervalmonlaw29.RouteGroups', WHERE WHAT IT READS IS OF BULK AT MOST 1048576: true; the input reads as it did. -/
def routeGroupsUptoRow : OpenClaim := { program := "ytcamljlhdejmmaa", sum := "a4c5f0fb03317c270b24fc3e6927ccf2d896ff78830a6b57efc9e71698b93779", func := "intervalmon/intervalmonlaw29.RouteGroups", spec := "routeGroups", unfollowed := true, recurses := true, plainKeys := false, apart := false, narrowed := true }
def RouteGroupsUptoSaid : Prop := routeGroupsUptoRow.holds Try.pinned (OpenSpec.upto routeGroupsSpec)

/-- 'intervalmonlaw29.RoutePartition', WHERE WHAT IT READS IS OF BULK AT MOST 1048576: true; the input reads as it did. -/
def routePartitionUptoRow : OpenClaim := { program := "ytcamljlhdejmmaa", sum := "a4c5f0fb03317c270b24fc3e6927ccf2d896ff78830a6b57efc9e71698b93779", func := "intervalmon/intervalmonlaw29.RoutePartition", spec := "routePartition", unfollowed := true, recurses := true, plainKeys := false, apart := false, narrowed := true }
def RoutePartitionUptoSaid : Prop := routePartitionUptoRow.holds Try.pinned (OpenSpec.upto routePartitionSpec)

end Rows
end Go.Proofs.Ytcamljlhdejmmaa
