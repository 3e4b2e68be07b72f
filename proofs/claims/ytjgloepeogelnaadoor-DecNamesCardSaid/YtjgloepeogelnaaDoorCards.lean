/-
  DERIVED. GIVEN WITH THE SEED: THE CARDS: each row of YtjgloepeogelnaaDoorRows.lean that lists a variable, with what it lists TIED to the program's text (the seventh form; the later family's looks); each row that meets fmt, with fmt's text TOLD by the authors' own Lean function (tested against real Go, not proved from fmt's source: count such statements apart). THE CARD IS WHAT COUNTS. Prove the row's statement (the work); the ties are given (YtjgloepeogelnaaDoorTie.lean); close each card by the builder's one call (the guide's Derived/Test/ToyasCard.lean, 'card_holds'). Laid BY PROGRAM, IN A SANDBOX (cutbox-door.mjs). By AI agents, Wed Nov 11 2026. No macro, syntax, notation, axiom, sorry.
-/
import Derived.Test.YtjgloepeogelnaaDoorRows
import GoSem.ClaimSeven
namespace Go.Proofs.YtjgloepeogelnaaDoor
namespace Rows

/-- THE TIED CARD OF 'alidadelaw04.DecTells'. -/
def decTellsCard : Claim7 := { stood := { row := decTellsRow, standIns := [], harness := (true, "92e3b550db38b72b664f7e517953edfd06d2295d868f7e007e2f70049437549a"), looks := false }, kinds := [], alts := [], laidByText := true, laidKinds := [.data, .pinned], laidTests := true, laidLooks := .later }
def DecTellsCardSaid : Prop := Claim7.holds Tryd.pinned (.plain (OpenSpec.ofChange decTellsSpec)) decTellsCard

/-- THE TIED CARD OF 'alidadelaw04.DecSplits'. -/
def decSplitsCard : Claim7 := { stood := { row := decSplitsRow, standIns := [], harness := (true, "92e3b550db38b72b664f7e517953edfd06d2295d868f7e007e2f70049437549a"), looks := false }, kinds := [], alts := [], laidByText := true, laidKinds := [.data, .pinned], laidTests := true, laidLooks := .later }
def DecSplitsCardSaid : Prop := Claim7.holds Tryd.pinned (.plain (OpenSpec.ofChange decSplitsSpec)) decSplitsCard

/-- THE TIED CARD OF 'alidadelaw04.DecBack'. -/
def decBackCard : Claim7 := { stood := { row := decBackRow, standIns := [], harness := (true, "92e3b550db38b72b664f7e517953edfd06d2295d868f7e007e2f70049437549a"), looks := false }, kinds := [], alts := [], laidByText := true, laidKinds := [.data, .pinned], laidTests := true, laidLooks := .later }
def DecBackCardSaid : Prop := Claim7.holds Tryd.pinned (.plain (OpenSpec.ofChange decBackSpec)) decBackCard

/-- THE TIED CARD OF 'alidadelaw04.DecOrder'. -/
def decOrderCard : Claim7 := { stood := { row := decOrderRow, standIns := [], harness := (true, "92e3b550db38b72b664f7e517953edfd06d2295d868f7e007e2f70049437549a"), looks := false }, kinds := [], alts := [], laidByText := true, laidKinds := [.data, .pinned], laidTests := true, laidLooks := .later }
def DecOrderCardSaid : Prop := Claim7.holds Tryd.pinned (.plain (OpenSpec.ofChange decOrderSpec)) decOrderCard

/-- THE TIED CARD OF 'alidadelaw04.DecDigits'. -/
def decDigitsCard : Claim7 := { stood := { row := decDigitsRow, standIns := [], harness := (true, "92e3b550db38b72b664f7e517953edfd06d2295d868f7e007e2f70049437549a"), looks := false }, kinds := [], alts := [], laidByText := true, laidKinds := [.data, .pinned], laidTests := true, laidLooks := .later }
def DecDigitsCardSaid : Prop := Claim7.holds Tryd.pinned (.plain (OpenSpec.ofChange decDigitsSpec)) decDigitsCard

/-- THE TIED CARD OF 'alidadelaw04.DecParted'. -/
def decPartedCard : Claim7 := { stood := { row := decPartedRow, standIns := [], harness := (true, "92e3b550db38b72b664f7e517953edfd06d2295d868f7e007e2f70049437549a"), looks := false }, kinds := [], alts := [], laidByText := true, laidKinds := [.data, .pinned], laidTests := true, laidLooks := .later }
def DecPartedCardSaid : Prop := Claim7.holds Tryd.pinned (.plain (OpenSpec.ofChange decPartedSpec)) decPartedCard

/-- THE TIED CARD OF 'alidadelaw04.DecNames'. -/
def decNamesCard : Claim7 := { stood := { row := decNamesRow, standIns := [], harness := (true, "92e3b550db38b72b664f7e517953edfd06d2295d868f7e007e2f70049437549a"), looks := false }, kinds := [], alts := [], laidByText := true, laidKinds := [.data, .pinned], laidTests := true, laidLooks := .later }
def DecNamesCardSaid : Prop := Claim7.holds Tryd.pinned (.plain (OpenSpec.ofChange decNamesSpec)) decNamesCard

/-- THE SECOND FORM's CARD OF 'alidadelaw04.DecTells'. -/
def decTellsUptoCard : Claim7 := { stood := { row := decTellsUptoRow, standIns := [], harness := (true, "92e3b550db38b72b664f7e517953edfd06d2295d868f7e007e2f70049437549a"), looks := false }, kinds := [], alts := [], laidByText := true, laidKinds := [.data, .pinned], laidTests := true, laidLooks := .later }
def DecTellsUptoCardSaid : Prop := Claim7.holds Tryd.pinned (.plain (OpenSpec.upto decTellsSpec)) decTellsUptoCard

/-- THE SECOND FORM's CARD OF 'alidadelaw04.DecSplits'. -/
def decSplitsUptoCard : Claim7 := { stood := { row := decSplitsUptoRow, standIns := [], harness := (true, "92e3b550db38b72b664f7e517953edfd06d2295d868f7e007e2f70049437549a"), looks := false }, kinds := [], alts := [], laidByText := true, laidKinds := [.data, .pinned], laidTests := true, laidLooks := .later }
def DecSplitsUptoCardSaid : Prop := Claim7.holds Tryd.pinned (.plain (OpenSpec.upto decSplitsSpec)) decSplitsUptoCard

/-- THE SECOND FORM's CARD OF 'alidadelaw04.DecBack'. -/
def decBackUptoCard : Claim7 := { stood := { row := decBackUptoRow, standIns := [], harness := (true, "92e3b550db38b72b664f7e517953edfd06d2295d868f7e007e2f70049437549a"), looks := false }, kinds := [], alts := [], laidByText := true, laidKinds := [.data, .pinned], laidTests := true, laidLooks := .later }
def DecBackUptoCardSaid : Prop := Claim7.holds Tryd.pinned (.plain (OpenSpec.upto decBackSpec)) decBackUptoCard

/-- THE SECOND FORM's CARD OF 'alidadelaw04.DecOrder'. -/
def decOrderUptoCard : Claim7 := { stood := { row := decOrderUptoRow, standIns := [], harness := (true, "92e3b550db38b72b664f7e517953edfd06d2295d868f7e007e2f70049437549a"), looks := false }, kinds := [], alts := [], laidByText := true, laidKinds := [.data, .pinned], laidTests := true, laidLooks := .later }
def DecOrderUptoCardSaid : Prop := Claim7.holds Tryd.pinned (.plain (OpenSpec.upto decOrderSpec)) decOrderUptoCard

/-- THE SECOND FORM's CARD OF 'alidadelaw04.DecDigits'. -/
def decDigitsUptoCard : Claim7 := { stood := { row := decDigitsUptoRow, standIns := [], harness := (true, "92e3b550db38b72b664f7e517953edfd06d2295d868f7e007e2f70049437549a"), looks := false }, kinds := [], alts := [], laidByText := true, laidKinds := [.data, .pinned], laidTests := true, laidLooks := .later }
def DecDigitsUptoCardSaid : Prop := Claim7.holds Tryd.pinned (.plain (OpenSpec.upto decDigitsSpec)) decDigitsUptoCard

/-- THE SECOND FORM's CARD OF 'alidadelaw04.DecParted'. -/
def decPartedUptoCard : Claim7 := { stood := { row := decPartedUptoRow, standIns := [], harness := (true, "92e3b550db38b72b664f7e517953edfd06d2295d868f7e007e2f70049437549a"), looks := false }, kinds := [], alts := [], laidByText := true, laidKinds := [.data, .pinned], laidTests := true, laidLooks := .later }
def DecPartedUptoCardSaid : Prop := Claim7.holds Tryd.pinned (.plain (OpenSpec.upto decPartedSpec)) decPartedUptoCard

/-- THE SECOND FORM's CARD OF 'alidadelaw04.DecNames'. -/
def decNamesUptoCard : Claim7 := { stood := { row := decNamesUptoRow, standIns := [], harness := (true, "92e3b550db38b72b664f7e517953edfd06d2295d868f7e007e2f70049437549a"), looks := false }, kinds := [], alts := [], laidByText := true, laidKinds := [.data, .pinned], laidTests := true, laidLooks := .later }
def DecNamesUptoCardSaid : Prop := Claim7.holds Tryd.pinned (.plain (OpenSpec.upto decNamesSpec)) decNamesUptoCard
end Rows
end Go.Proofs.YtjgloepeogelnaaDoor
