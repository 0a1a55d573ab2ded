/-
  DERIVED. GIVEN WITH THE SEED: THE CARDS: each row of YtjpgommmkjgddaaDoorRows.lean that lists a variable, with what it lists TIED to the program's text (the seventh form; the later family's looks); each row that meets fmt, with fmt's text TOLD by the authors' own Lean function (tested against real Go, not proved from fmt's source: count such statements apart). THE CARD IS WHAT COUNTS. Prove the row's statement (the work); the ties are given (YtjpgommmkjgddaaDoorTie.lean); close each card by the builder's one call (the guide's Derived/Test/ToyasCard.lean, 'card_holds'). Laid BY PROGRAM, IN A SANDBOX (cutbox-door.mjs). By AI agents, Wed Nov 11 2026. No macro, syntax, notation, axiom, sorry.
-/
import Derived.Test.YtjpgommmkjgddaaDoorRows
import GoSem.ClaimSeven
namespace Go.Proofs.YtjpgommmkjgddaaDoor
namespace Rows

/-- THE TIED CARD OF 'intervalmonlaw03.FracKept'. -/
def fracKeptCard : Claim7 := { stood := { row := fracKeptRow, standIns := [], harness := (true, "cea59a996515c88f69549c41d7387885d0083791936b775f343e080af607092b"), looks := true }, kinds := [], alts := [], laidByText := true, laidKinds := [.data, .data, .data, .sentinel, .sentinel], laidTests := true, laidLooks := .later }
def FracKeptCardSaid : Prop := Claim7.holds Tryd.pinned (.plain (OpenSpec.ofChange fracKeptSpec)) fracKeptCard

/-- THE TIED CARD OF 'intervalmonlaw03.FracNew'. -/
def fracNewCard : Claim7 := { stood := { row := fracNewRow, standIns := [], harness := (true, "cea59a996515c88f69549c41d7387885d0083791936b775f343e080af607092b"), looks := true }, kinds := [], alts := [], laidByText := true, laidKinds := [.data, .data, .data, .sentinel, .sentinel], laidTests := true, laidLooks := .later }
def FracNewCardSaid : Prop := Claim7.holds Tryd.pinned (.plain (OpenSpec.ofChange fracNewSpec)) fracNewCard

/-- THE TIED CARD OF 'intervalmonlaw03.FracProducts'. -/
def fracProductsCard : Claim7 := { stood := { row := fracProductsRow, standIns := [], harness := (true, "cea59a996515c88f69549c41d7387885d0083791936b775f343e080af607092b"), looks := true }, kinds := [], alts := [], laidByText := true, laidKinds := [.data, .data, .data, .sentinel, .sentinel], laidTests := true, laidLooks := .later }
def FracProductsCardSaid : Prop := Claim7.holds Tryd.pinned (.plain (OpenSpec.ofChange fracProductsSpec)) fracProductsCard

/-- THE TIED CARD OF 'intervalmonlaw03.FracTexts'. -/
def fracTextsCard : Claim7 := { stood := { row := fracTextsRow, standIns := [], harness := (true, "cea59a996515c88f69549c41d7387885d0083791936b775f343e080af607092b"), looks := true }, kinds := [], alts := [], laidByText := true, laidKinds := [.data, .data, .data, .sentinel, .sentinel], laidTests := true, laidLooks := .later }
def FracTextsCardSaid : Prop := Claim7.holds Tryd.pinned (.plain (OpenSpec.ofChange fracTextsSpec)) fracTextsCard

/-- THE TIED CARD OF 'intervalmonlaw03.FracParses'. -/
def fracParsesCard : Claim7 := { stood := { row := fracParsesRow, standIns := [], harness := (true, "cea59a996515c88f69549c41d7387885d0083791936b775f343e080af607092b"), looks := true }, kinds := [], alts := [], laidByText := true, laidKinds := [.data, .data, .data, .sentinel, .sentinel], laidTests := true, laidLooks := .later }
def FracParsesCardSaid : Prop := Claim7.holds Tryd.pinned (.plain (OpenSpec.ofChange fracParsesSpec)) fracParsesCard

/-- THE TIED CARD OF 'intervalmonlaw03.FracOrder'. -/
def fracOrderCard : Claim7 := { stood := { row := fracOrderRow, standIns := [], harness := (true, "cea59a996515c88f69549c41d7387885d0083791936b775f343e080af607092b"), looks := true }, kinds := [], alts := [], laidByText := true, laidKinds := [.data, .data, .data, .sentinel, .sentinel], laidTests := true, laidLooks := .later }
def FracOrderCardSaid : Prop := Claim7.holds Tryd.pinned (.plain (OpenSpec.ofChange fracOrderSpec)) fracOrderCard

/-- THE TIED CARD OF 'intervalmonlaw03.FracBetween'. -/
def fracBetweenCard : Claim7 := { stood := { row := fracBetweenRow, standIns := [], harness := (true, "cea59a996515c88f69549c41d7387885d0083791936b775f343e080af607092b"), looks := true }, kinds := [], alts := [], laidByText := true, laidKinds := [.data, .data, .data, .sentinel, .sentinel], laidTests := true, laidLooks := .later }
def FracBetweenCardSaid : Prop := Claim7.holds Tryd.pinned (.plain (OpenSpec.ofChange fracBetweenSpec)) fracBetweenCard

/-- THE TIED CARD OF 'intervalmonlaw03.FracSums'. -/
def fracSumsCard : Claim7 := { stood := { row := fracSumsRow, standIns := [], harness := (true, "cea59a996515c88f69549c41d7387885d0083791936b775f343e080af607092b"), looks := true }, kinds := [], alts := [], laidByText := true, laidKinds := [.data, .data, .data, .sentinel, .sentinel], laidTests := true, laidLooks := .later }
def FracSumsCardSaid : Prop := Claim7.holds Tryd.pinned (.plain (OpenSpec.ofChange fracSumsSpec)) fracSumsCard

/-- THE TIED CARD OF 'intervalmonlaw03.FracCompares'. -/
def fracComparesCard : Claim7 := { stood := { row := fracComparesRow, standIns := [], harness := (true, "cea59a996515c88f69549c41d7387885d0083791936b775f343e080af607092b"), looks := true }, kinds := [], alts := [], laidByText := true, laidKinds := [.data, .data, .data, .sentinel, .sentinel], laidTests := true, laidLooks := .later }
def FracComparesCardSaid : Prop := Claim7.holds Tryd.pinned (.plain (OpenSpec.ofChange fracComparesSpec)) fracComparesCard

/-- THE TIED CARD OF 'intervalmonlaw03.FracField'. -/
def fracFieldCard : Claim7 := { stood := { row := fracFieldRow, standIns := [], harness := (true, "cea59a996515c88f69549c41d7387885d0083791936b775f343e080af607092b"), looks := true }, kinds := [], alts := [], laidByText := true, laidKinds := [.data, .data, .data, .sentinel, .sentinel], laidTests := true, laidLooks := .later }
def FracFieldCardSaid : Prop := Claim7.holds Tryd.pinned (.plain (OpenSpec.ofChange fracFieldSpec)) fracFieldCard

/-- THE SECOND FORM's CARD OF 'intervalmonlaw03.FracKept'. -/
def fracKeptUptoCard : Claim7 := { stood := { row := fracKeptUptoRow, standIns := [], harness := (true, "cea59a996515c88f69549c41d7387885d0083791936b775f343e080af607092b"), looks := true }, kinds := [], alts := [], laidByText := true, laidKinds := [.data, .data, .data, .sentinel, .sentinel], laidTests := true, laidLooks := .later }
def FracKeptUptoCardSaid : Prop := Claim7.holds Tryd.pinned (.plain (OpenSpec.upto fracKeptSpec)) fracKeptUptoCard

/-- THE SECOND FORM's CARD OF 'intervalmonlaw03.FracNew'. -/
def fracNewUptoCard : Claim7 := { stood := { row := fracNewUptoRow, standIns := [], harness := (true, "cea59a996515c88f69549c41d7387885d0083791936b775f343e080af607092b"), looks := true }, kinds := [], alts := [], laidByText := true, laidKinds := [.data, .data, .data, .sentinel, .sentinel], laidTests := true, laidLooks := .later }
def FracNewUptoCardSaid : Prop := Claim7.holds Tryd.pinned (.plain (OpenSpec.upto fracNewSpec)) fracNewUptoCard

/-- THE SECOND FORM's CARD OF 'intervalmonlaw03.FracProducts'. -/
def fracProductsUptoCard : Claim7 := { stood := { row := fracProductsUptoRow, standIns := [], harness := (true, "cea59a996515c88f69549c41d7387885d0083791936b775f343e080af607092b"), looks := true }, kinds := [], alts := [], laidByText := true, laidKinds := [.data, .data, .data, .sentinel, .sentinel], laidTests := true, laidLooks := .later }
def FracProductsUptoCardSaid : Prop := Claim7.holds Tryd.pinned (.plain (OpenSpec.upto fracProductsSpec)) fracProductsUptoCard

/-- THE SECOND FORM's CARD OF 'intervalmonlaw03.FracTexts'. -/
def fracTextsUptoCard : Claim7 := { stood := { row := fracTextsUptoRow, standIns := [], harness := (true, "cea59a996515c88f69549c41d7387885d0083791936b775f343e080af607092b"), looks := true }, kinds := [], alts := [], laidByText := true, laidKinds := [.data, .data, .data, .sentinel, .sentinel], laidTests := true, laidLooks := .later }
def FracTextsUptoCardSaid : Prop := Claim7.holds Tryd.pinned (.plain (OpenSpec.upto fracTextsSpec)) fracTextsUptoCard

/-- THE SECOND FORM's CARD OF 'intervalmonlaw03.FracParses'. -/
def fracParsesUptoCard : Claim7 := { stood := { row := fracParsesUptoRow, standIns := [], harness := (true, "cea59a996515c88f69549c41d7387885d0083791936b775f343e080af607092b"), looks := true }, kinds := [], alts := [], laidByText := true, laidKinds := [.data, .data, .data, .sentinel, .sentinel], laidTests := true, laidLooks := .later }
def FracParsesUptoCardSaid : Prop := Claim7.holds Tryd.pinned (.plain (OpenSpec.upto fracParsesSpec)) fracParsesUptoCard

/-- THE SECOND FORM's CARD OF 'intervalmonlaw03.FracOrder'. -/
def fracOrderUptoCard : Claim7 := { stood := { row := fracOrderUptoRow, standIns := [], harness := (true, "cea59a996515c88f69549c41d7387885d0083791936b775f343e080af607092b"), looks := true }, kinds := [], alts := [], laidByText := true, laidKinds := [.data, .data, .data, .sentinel, .sentinel], laidTests := true, laidLooks := .later }
def FracOrderUptoCardSaid : Prop := Claim7.holds Tryd.pinned (.plain (OpenSpec.upto fracOrderSpec)) fracOrderUptoCard

/-- THE SECOND FORM's CARD OF 'intervalmonlaw03.FracBetween'. -/
def fracBetweenUptoCard : Claim7 := { stood := { row := fracBetweenUptoRow, standIns := [], harness := (true, "cea59a996515c88f69549c41d7387885d0083791936b775f343e080af607092b"), looks := true }, kinds := [], alts := [], laidByText := true, laidKinds := [.data, .data, .data, .sentinel, .sentinel], laidTests := true, laidLooks := .later }
def FracBetweenUptoCardSaid : Prop := Claim7.holds Tryd.pinned (.plain (OpenSpec.upto fracBetweenSpec)) fracBetweenUptoCard

/-- THE SECOND FORM's CARD OF 'intervalmonlaw03.FracSums'. -/
def fracSumsUptoCard : Claim7 := { stood := { row := fracSumsUptoRow, standIns := [], harness := (true, "cea59a996515c88f69549c41d7387885d0083791936b775f343e080af607092b"), looks := true }, kinds := [], alts := [], laidByText := true, laidKinds := [.data, .data, .data, .sentinel, .sentinel], laidTests := true, laidLooks := .later }
def FracSumsUptoCardSaid : Prop := Claim7.holds Tryd.pinned (.plain (OpenSpec.upto fracSumsSpec)) fracSumsUptoCard

/-- THE SECOND FORM's CARD OF 'intervalmonlaw03.FracCompares'. -/
def fracComparesUptoCard : Claim7 := { stood := { row := fracComparesUptoRow, standIns := [], harness := (true, "cea59a996515c88f69549c41d7387885d0083791936b775f343e080af607092b"), looks := true }, kinds := [], alts := [], laidByText := true, laidKinds := [.data, .data, .data, .sentinel, .sentinel], laidTests := true, laidLooks := .later }
def FracComparesUptoCardSaid : Prop := Claim7.holds Tryd.pinned (.plain (OpenSpec.upto fracComparesSpec)) fracComparesUptoCard

/-- THE SECOND FORM's CARD OF 'intervalmonlaw03.FracField'. -/
def fracFieldUptoCard : Claim7 := { stood := { row := fracFieldUptoRow, standIns := [], harness := (true, "cea59a996515c88f69549c41d7387885d0083791936b775f343e080af607092b"), looks := true }, kinds := [], alts := [], laidByText := true, laidKinds := [.data, .data, .data, .sentinel, .sentinel], laidTests := true, laidLooks := .later }
def FracFieldUptoCardSaid : Prop := Claim7.holds Tryd.pinned (.plain (OpenSpec.upto fracFieldSpec)) fracFieldUptoCard
end Rows
end Go.Proofs.YtjpgommmkjgddaaDoor
