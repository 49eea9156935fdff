/-
  DERIVED. GIVEN WITH THE SEED: THE CARDS: each row of YthdoglkdcbghpaaDoorRows.lean that lists a variable, with what it lists TIED to the program's text (the seventh form; the later family's looks); each row that meets fmt, with fmt's text TOLD by the authors' own Lean function (tested against real Go, not proved from fmt's source: count such statements apart). THE CARD IS WHAT COUNTS. Prove the row's statement (the work); the ties are given (YthdoglkdcbghpaaDoorTie.lean); close each card by the builder's one call (the guide's Derived/Test/ToyasCard.lean, 'card_holds'). Laid BY PROGRAM, IN A SANDBOX (cutbox-door.mjs). By AI agents, Wed Nov 11 2026. No macro, syntax, notation, axiom, sorry.
-/
import Derived.Test.YthdoglkdcbghpaaDoorRows
import GoSem.ClaimSeven
namespace Go.Proofs.YthdoglkdcbghpaaDoor
namespace Rows

/-- THE TIED CARD OF 'laws.FnExactClassOf'. -/
def fnExactClassOfCard : Claim7 := { stood := { row := fnExactClassOfRow, standIns := [], harness := (true, "ece81210c31b9dd20b073da899089d5167d1701c432e0c95ca0ec742756fbb51"), looks := false }, kinds := [], alts := [], laidByText := true, laidKinds := [.data, .data, .data], laidTests := true, laidLooks := .later }
def FnExactClassOfCardSaid : Prop := Claim7.holds Tryd.pinned (.plain (OpenSpec.ofChange fnExactClassOfSpec)) fnExactClassOfCard

/-- THE TIED CARD OF 'laws.FnExactExchangePath'. -/
def fnExactExchangePathCard : Claim7 := { stood := { row := fnExactExchangePathRow, standIns := [], harness := (true, "ece81210c31b9dd20b073da899089d5167d1701c432e0c95ca0ec742756fbb51"), looks := false }, kinds := [], alts := [], laidByText := true, laidKinds := [.data, .data, .data], laidTests := true, laidLooks := .later }
def FnExactExchangePathCardSaid : Prop := Claim7.holds Tryd.pinned (.plain (OpenSpec.ofChange fnExactExchangePathSpec)) fnExactExchangePathCard

/-- THE SECOND FORM's CARD OF 'laws.FnExactClassOf'. -/
def fnExactClassOfUptoCard : Claim7 := { stood := { row := fnExactClassOfUptoRow, standIns := [], harness := (true, "ece81210c31b9dd20b073da899089d5167d1701c432e0c95ca0ec742756fbb51"), looks := false }, kinds := [], alts := [], laidByText := true, laidKinds := [.data, .data, .data], laidTests := true, laidLooks := .later }
def FnExactClassOfUptoCardSaid : Prop := Claim7.holds Tryd.pinned (.plain (OpenSpec.upto fnExactClassOfSpec)) fnExactClassOfUptoCard

/-- THE SECOND FORM's CARD OF 'laws.FnExactExchangePath'. -/
def fnExactExchangePathUptoCard : Claim7 := { stood := { row := fnExactExchangePathUptoRow, standIns := [], harness := (true, "ece81210c31b9dd20b073da899089d5167d1701c432e0c95ca0ec742756fbb51"), looks := false }, kinds := [], alts := [], laidByText := true, laidKinds := [.data, .data, .data], laidTests := true, laidLooks := .later }
def FnExactExchangePathUptoCardSaid : Prop := Claim7.holds Tryd.pinned (.plain (OpenSpec.upto fnExactExchangePathSpec)) fnExactExchangePathUptoCard
end Rows
end Go.Proofs.YthdoglkdcbghpaaDoor
