/-
  DERIVED. GIVEN WITH THE SEED: THE CARDS: each row of YtnhbmabikngmpaaDoorRows.lean that lists a variable, with what it lists TIED to the program's text (the seventh form; the later family's looks); each row that meets fmt, with fmt's text TOLD by the authors' own Lean function (tested against real Go, not proved from fmt's source: count such statements apart). THE CARD IS WHAT COUNTS. Prove the row's statement (the work); the ties are given (YtnhbmabikngmpaaDoorTie.lean); close each card by the builder's one call (the guide's Derived/Test/ToyasCard.lean, 'card_holds'). Laid BY PROGRAM, IN A SANDBOX (cutbox-door.mjs). By AI agents, Wed Nov 11 2026. No macro, syntax, notation, axiom, sorry.
-/
import Derived.Test.YtnhbmabikngmpaaDoorRows
import GoSem.ClaimSeven
namespace Go.Proofs.YtnhbmabikngmpaaDoor
namespace Rows

/-- THE TIED CARD OF 'umpirelaw19.TableLooks'. -/
def tableLooksCard : Claim7 := { stood := { row := tableLooksRow, standIns := [], harness := (true, "b3a38748ea52cd6e8d3a27ebef321dd3462d10ca6c221ffec907532eadf6ef46"), looks := false }, kinds := [], alts := [], laidByText := true, laidKinds := [.data], laidTests := true, laidLooks := .later }
def TableLooksCardSaid : Prop := Claim7.holds Tryd.pinned (.plain (OpenSpec.ofChange tableLooksSpec)) tableLooksCard

/-- THE TIED CARD OF 'umpirelaw19.TableEvents'. -/
def tableEventsCard : Claim7 := { stood := { row := tableEventsRow, standIns := [], harness := (true, "b3a38748ea52cd6e8d3a27ebef321dd3462d10ca6c221ffec907532eadf6ef46"), looks := false }, kinds := [], alts := [], laidByText := true, laidKinds := [.data], laidTests := true, laidLooks := .later }
def TableEventsCardSaid : Prop := Claim7.holds Tryd.pinned (.plain (OpenSpec.ofChange tableEventsSpec)) tableEventsCard

/-- THE TIED CARD OF 'umpirelaw19.TableKeeps'. -/
def tableKeepsCard : Claim7 := { stood := { row := tableKeepsRow, standIns := [], harness := (true, "b3a38748ea52cd6e8d3a27ebef321dd3462d10ca6c221ffec907532eadf6ef46"), looks := false }, kinds := [], alts := [], laidByText := true, laidKinds := [.data], laidTests := true, laidLooks := .later }
def TableKeepsCardSaid : Prop := Claim7.holds Tryd.pinned (.plain (OpenSpec.ofChange tableKeepsSpec)) tableKeepsCard

/-- THE SECOND FORM's CARD OF 'umpirelaw19.TableLooks'. -/
def tableLooksUptoCard : Claim7 := { stood := { row := tableLooksUptoRow, standIns := [], harness := (true, "b3a38748ea52cd6e8d3a27ebef321dd3462d10ca6c221ffec907532eadf6ef46"), looks := false }, kinds := [], alts := [], laidByText := true, laidKinds := [.data], laidTests := true, laidLooks := .later }
def TableLooksUptoCardSaid : Prop := Claim7.holds Tryd.pinned (.plain (OpenSpec.upto tableLooksSpec)) tableLooksUptoCard

/-- THE SECOND FORM's CARD OF 'umpirelaw19.TableEvents'. -/
def tableEventsUptoCard : Claim7 := { stood := { row := tableEventsUptoRow, standIns := [], harness := (true, "b3a38748ea52cd6e8d3a27ebef321dd3462d10ca6c221ffec907532eadf6ef46"), looks := false }, kinds := [], alts := [], laidByText := true, laidKinds := [.data], laidTests := true, laidLooks := .later }
def TableEventsUptoCardSaid : Prop := Claim7.holds Tryd.pinned (.plain (OpenSpec.upto tableEventsSpec)) tableEventsUptoCard

/-- THE SECOND FORM's CARD OF 'umpirelaw19.TableKeeps'. -/
def tableKeepsUptoCard : Claim7 := { stood := { row := tableKeepsUptoRow, standIns := [], harness := (true, "b3a38748ea52cd6e8d3a27ebef321dd3462d10ca6c221ffec907532eadf6ef46"), looks := false }, kinds := [], alts := [], laidByText := true, laidKinds := [.data], laidTests := true, laidLooks := .later }
def TableKeepsUptoCardSaid : Prop := Claim7.holds Tryd.pinned (.plain (OpenSpec.upto tableKeepsSpec)) tableKeepsUptoCard
end Rows
end Go.Proofs.YtnhbmabikngmpaaDoor
