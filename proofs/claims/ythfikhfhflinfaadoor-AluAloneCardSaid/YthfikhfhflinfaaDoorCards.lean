/-
  DERIVED. GIVEN WITH THE SEED: THE CARDS: each row of YthfikhfhflinfaaDoorRows.lean that lists a variable, with what it lists TIED to the program's text (the seventh form; the later family's looks); each row that meets fmt, with fmt's text TOLD by the authors' own Lean function (tested against real Go, not proved from fmt's source: count such statements apart). THE CARD IS WHAT COUNTS. Prove the row's statement (the work); the ties are given (YthfikhfhflinfaaDoorTie.lean); close each card by the builder's one call (the guide's Derived/Test/ToyasCard.lean, 'card_holds'). Laid BY PROGRAM, IN A SANDBOX (cutbox-door.mjs). By AI agents, Wed Nov 11 2026. No macro, syntax, notation, axiom, sorry.
-/
import Derived.Test.YthfikhfhflinfaaDoorRows
import GoSem.ClaimSeven
namespace Go.Proofs.YthfikhfhflinfaaDoor
namespace Rows

/-- THE TIED CARD OF 'tenementlaw06.AluDoes'. -/
def aluDoesCard : Claim7 := { stood := { row := aluDoesRow, standIns := [], harness := (true, "4b8e6cfe51dc62694cacf3ef7c0e9a6d14ad71a8f47379311331a3634605d883"), looks := false }, kinds := [], alts := [], laidByText := true, laidKinds := [.data], laidTests := true, laidLooks := .later }
def AluDoesCardSaid : Prop := Claim7.holds Tryd.pinned (.plain (OpenSpec.ofChange aluDoesSpec)) aluDoesCard

/-- THE TIED CARD OF 'tenementlaw06.AluBack'. -/
def aluBackCard : Claim7 := { stood := { row := aluBackRow, standIns := [], harness := (true, "4b8e6cfe51dc62694cacf3ef7c0e9a6d14ad71a8f47379311331a3634605d883"), looks := false }, kinds := [], alts := [], laidByText := true, laidKinds := [.data], laidTests := true, laidLooks := .later }
def AluBackCardSaid : Prop := Claim7.holds Tryd.pinned (.plain (OpenSpec.ofChange aluBackSpec)) aluBackCard

/-- THE TIED CARD OF 'tenementlaw06.AluAlone'. -/
def aluAloneCard : Claim7 := { stood := { row := aluAloneRow, standIns := [], harness := (true, "4b8e6cfe51dc62694cacf3ef7c0e9a6d14ad71a8f47379311331a3634605d883"), looks := false }, kinds := [], alts := [], laidByText := true, laidKinds := [.data], laidTests := true, laidLooks := .later }
def AluAloneCardSaid : Prop := Claim7.holds Tryd.pinned (.plain (OpenSpec.ofChange aluAloneSpec)) aluAloneCard

/-- THE TIED CARD OF 'tenementlaw06.AluTells'. -/
def aluTellsCard : Claim7 := { stood := { row := aluTellsRow, standIns := [], harness := (true, "4b8e6cfe51dc62694cacf3ef7c0e9a6d14ad71a8f47379311331a3634605d883"), looks := false }, kinds := [], alts := [], laidByText := true, laidKinds := [.data], laidTests := true, laidLooks := .later }
def AluTellsCardSaid : Prop := Claim7.holds Tryd.pinned (.plain (OpenSpec.ofChange aluTellsSpec)) aluTellsCard

/-- THE TIED CARD OF 'tenementlaw14.CoreStops'. -/
def coreStopsCard : Claim7 := { stood := { row := coreStopsRow, standIns := [], harness := (true, "4b8e6cfe51dc62694cacf3ef7c0e9a6d14ad71a8f47379311331a3634605d883"), looks := false }, kinds := [], alts := [], laidByText := true, laidKinds := [.data], laidTests := true, laidLooks := .later }
def CoreStopsCardSaid : Prop := Claim7.holds Tryd.pinned (.plain (OpenSpec.ofChange coreStopsSpec)) coreStopsCard

/-- THE TIED CARD OF 'tenementlaw14.CoreDoes'. -/
def coreDoesCard : Claim7 := { stood := { row := coreDoesRow, standIns := [], harness := (true, "4b8e6cfe51dc62694cacf3ef7c0e9a6d14ad71a8f47379311331a3634605d883"), looks := false }, kinds := [], alts := [], laidByText := true, laidKinds := [.data], laidTests := true, laidLooks := .later }
def CoreDoesCardSaid : Prop := Claim7.holds Tryd.pinned (.plain (OpenSpec.ofChange coreDoesSpec)) coreDoesCard

/-- THE TIED CARD OF 'tenementlaw14.CoreOnly'. -/
def coreOnlyCard : Claim7 := { stood := { row := coreOnlyRow, standIns := [], harness := (true, "4b8e6cfe51dc62694cacf3ef7c0e9a6d14ad71a8f47379311331a3634605d883"), looks := false }, kinds := [], alts := [], laidByText := true, laidKinds := [.data], laidTests := true, laidLooks := .later }
def CoreOnlyCardSaid : Prop := Claim7.holds Tryd.pinned (.plain (OpenSpec.ofChange coreOnlySpec)) coreOnlyCard

/-- THE SECOND FORM's CARD OF 'tenementlaw06.AluDoes'. -/
def aluDoesUptoCard : Claim7 := { stood := { row := aluDoesUptoRow, standIns := [], harness := (true, "4b8e6cfe51dc62694cacf3ef7c0e9a6d14ad71a8f47379311331a3634605d883"), looks := false }, kinds := [], alts := [], laidByText := true, laidKinds := [.data], laidTests := true, laidLooks := .later }
def AluDoesUptoCardSaid : Prop := Claim7.holds Tryd.pinned (.plain (OpenSpec.upto aluDoesSpec)) aluDoesUptoCard

/-- THE SECOND FORM's CARD OF 'tenementlaw06.AluBack'. -/
def aluBackUptoCard : Claim7 := { stood := { row := aluBackUptoRow, standIns := [], harness := (true, "4b8e6cfe51dc62694cacf3ef7c0e9a6d14ad71a8f47379311331a3634605d883"), looks := false }, kinds := [], alts := [], laidByText := true, laidKinds := [.data], laidTests := true, laidLooks := .later }
def AluBackUptoCardSaid : Prop := Claim7.holds Tryd.pinned (.plain (OpenSpec.upto aluBackSpec)) aluBackUptoCard

/-- THE SECOND FORM's CARD OF 'tenementlaw06.AluAlone'. -/
def aluAloneUptoCard : Claim7 := { stood := { row := aluAloneUptoRow, standIns := [], harness := (true, "4b8e6cfe51dc62694cacf3ef7c0e9a6d14ad71a8f47379311331a3634605d883"), looks := false }, kinds := [], alts := [], laidByText := true, laidKinds := [.data], laidTests := true, laidLooks := .later }
def AluAloneUptoCardSaid : Prop := Claim7.holds Tryd.pinned (.plain (OpenSpec.upto aluAloneSpec)) aluAloneUptoCard

/-- THE SECOND FORM's CARD OF 'tenementlaw06.AluTells'. -/
def aluTellsUptoCard : Claim7 := { stood := { row := aluTellsUptoRow, standIns := [], harness := (true, "4b8e6cfe51dc62694cacf3ef7c0e9a6d14ad71a8f47379311331a3634605d883"), looks := false }, kinds := [], alts := [], laidByText := true, laidKinds := [.data], laidTests := true, laidLooks := .later }
def AluTellsUptoCardSaid : Prop := Claim7.holds Tryd.pinned (.plain (OpenSpec.upto aluTellsSpec)) aluTellsUptoCard

/-- THE SECOND FORM's CARD OF 'tenementlaw14.CoreStops'. -/
def coreStopsUptoCard : Claim7 := { stood := { row := coreStopsUptoRow, standIns := [], harness := (true, "4b8e6cfe51dc62694cacf3ef7c0e9a6d14ad71a8f47379311331a3634605d883"), looks := false }, kinds := [], alts := [], laidByText := true, laidKinds := [.data], laidTests := true, laidLooks := .later }
def CoreStopsUptoCardSaid : Prop := Claim7.holds Tryd.pinned (.plain (OpenSpec.upto coreStopsSpec)) coreStopsUptoCard

/-- THE SECOND FORM's CARD OF 'tenementlaw14.CoreDoes'. -/
def coreDoesUptoCard : Claim7 := { stood := { row := coreDoesUptoRow, standIns := [], harness := (true, "4b8e6cfe51dc62694cacf3ef7c0e9a6d14ad71a8f47379311331a3634605d883"), looks := false }, kinds := [], alts := [], laidByText := true, laidKinds := [.data], laidTests := true, laidLooks := .later }
def CoreDoesUptoCardSaid : Prop := Claim7.holds Tryd.pinned (.plain (OpenSpec.upto coreDoesSpec)) coreDoesUptoCard

/-- THE SECOND FORM's CARD OF 'tenementlaw14.CoreOnly'. -/
def coreOnlyUptoCard : Claim7 := { stood := { row := coreOnlyUptoRow, standIns := [], harness := (true, "4b8e6cfe51dc62694cacf3ef7c0e9a6d14ad71a8f47379311331a3634605d883"), looks := false }, kinds := [], alts := [], laidByText := true, laidKinds := [.data], laidTests := true, laidLooks := .later }
def CoreOnlyUptoCardSaid : Prop := Claim7.holds Tryd.pinned (.plain (OpenSpec.upto coreOnlySpec)) coreOnlyUptoCard
end Rows
end Go.Proofs.YthfikhfhflinfaaDoor
