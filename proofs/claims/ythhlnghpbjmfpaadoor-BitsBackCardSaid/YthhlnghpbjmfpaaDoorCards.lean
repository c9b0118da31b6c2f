/-
  DERIVED. GIVEN WITH THE SEED: THE CARDS: each row of YthhlnghpbjmfpaaDoorRows.lean that lists a variable, with what it lists TIED to the program's text (the seventh form; the later family's looks); each row that meets fmt, with fmt's text TOLD by the authors' own Lean function (tested against real Go, not proved from fmt's source: count such statements apart). THE CARD IS WHAT COUNTS. Prove the row's statement (the work); the ties are given (YthhlnghpbjmfpaaDoorTie.lean); close each card by the builder's one call (the guide's Derived/Test/ToyasCard.lean, 'card_holds'). Laid BY PROGRAM, IN A SANDBOX (cutbox-door.mjs). By AI agents, Wed Nov 11 2026. No macro, syntax, notation, axiom, sorry.
-/
import Derived.Test.YthhlnghpbjmfpaaDoorRows
import GoSem.ClaimSeven
namespace Go.Proofs.YthhlnghpbjmfpaaDoor
namespace Rows

/-- THE TIED CARD OF 'pointsmanlaw01.BitsRings'. -/
def bitsRingsCard : Claim7 := { stood := { row := bitsRingsRow, standIns := [], harness := (true, "cd19c3bf7e4360f22ccc32fedbbeb05452d952ca357f8baf345d235348a9ea00"), looks := true }, kinds := [], alts := [], laidByText := true, laidKinds := [.data, .data, .data], laidTests := true, laidLooks := .later }
def BitsRingsCardSaid : Prop := Claim7.holds Tryd.pinned (.plain (OpenSpec.ofChange bitsRingsSpec)) bitsRingsCard

/-- THE TIED CARD OF 'pointsmanlaw01.BitsCuts'. -/
def bitsCutsCard : Claim7 := { stood := { row := bitsCutsRow, standIns := [], harness := (true, "cd19c3bf7e4360f22ccc32fedbbeb05452d952ca357f8baf345d235348a9ea00"), looks := true }, kinds := [], alts := [], laidByText := true, laidKinds := [.data, .data, .data], laidTests := true, laidLooks := .later }
def BitsCutsCardSaid : Prop := Claim7.holds Tryd.pinned (.plain (OpenSpec.ofChange bitsCutsSpec)) bitsCutsCard

/-- THE TIED CARD OF 'pointsmanlaw01.BitsMoves'. -/
def bitsMovesCard : Claim7 := { stood := { row := bitsMovesRow, standIns := [], harness := (true, "cd19c3bf7e4360f22ccc32fedbbeb05452d952ca357f8baf345d235348a9ea00"), looks := true }, kinds := [], alts := [], laidByText := true, laidKinds := [.data, .data, .data], laidTests := true, laidLooks := .later }
def BitsMovesCardSaid : Prop := Claim7.holds Tryd.pinned (.plain (OpenSpec.ofChange bitsMovesSpec)) bitsMovesCard

/-- THE TIED CARD OF 'pointsmanlaw01.BitsOrders'. -/
def bitsOrdersCard : Claim7 := { stood := { row := bitsOrdersRow, standIns := [], harness := (true, "cd19c3bf7e4360f22ccc32fedbbeb05452d952ca357f8baf345d235348a9ea00"), looks := true }, kinds := [], alts := [], laidByText := true, laidKinds := [.data, .data, .data], laidTests := true, laidLooks := .later }
def BitsOrdersCardSaid : Prop := Claim7.holds Tryd.pinned (.plain (OpenSpec.ofChange bitsOrdersSpec)) bitsOrdersCard

/-- THE TIED CARD OF 'pointsmanlaw01.BitsTexts'. -/
def bitsTextsCard : Claim7 := { stood := { row := bitsTextsRow, standIns := [], harness := (true, "cd19c3bf7e4360f22ccc32fedbbeb05452d952ca357f8baf345d235348a9ea00"), looks := true }, kinds := [], alts := [], laidByText := true, laidKinds := [.data, .data, .data, .sentinel, .sentinel], laidTests := true, laidLooks := .later }
def BitsTextsCardSaid : Prop := Claim7.holds Tryd.pinned (.plain (OpenSpec.ofChange bitsTextsSpec)) bitsTextsCard

/-- THE TIED CARD OF 'pointsmanlaw01.BitsBack'. -/
def bitsBackCard : Claim7 := { stood := { row := bitsBackRow, standIns := [], harness := (true, "cd19c3bf7e4360f22ccc32fedbbeb05452d952ca357f8baf345d235348a9ea00"), looks := true }, kinds := [], alts := [], laidByText := true, laidKinds := [.data, .data, .data, .sentinel, .sentinel], laidTests := true, laidLooks := .later }
def BitsBackCardSaid : Prop := Claim7.holds Tryd.pinned (.plain (OpenSpec.ofChange bitsBackSpec)) bitsBackCard

/-- THE SECOND FORM's CARD OF 'pointsmanlaw01.BitsRings'. -/
def bitsRingsUptoCard : Claim7 := { stood := { row := bitsRingsUptoRow, standIns := [], harness := (true, "cd19c3bf7e4360f22ccc32fedbbeb05452d952ca357f8baf345d235348a9ea00"), looks := true }, kinds := [], alts := [], laidByText := true, laidKinds := [.data, .data, .data], laidTests := true, laidLooks := .later }
def BitsRingsUptoCardSaid : Prop := Claim7.holds Tryd.pinned (.plain (OpenSpec.upto bitsRingsSpec)) bitsRingsUptoCard

/-- THE SECOND FORM's CARD OF 'pointsmanlaw01.BitsCuts'. -/
def bitsCutsUptoCard : Claim7 := { stood := { row := bitsCutsUptoRow, standIns := [], harness := (true, "cd19c3bf7e4360f22ccc32fedbbeb05452d952ca357f8baf345d235348a9ea00"), looks := true }, kinds := [], alts := [], laidByText := true, laidKinds := [.data, .data, .data], laidTests := true, laidLooks := .later }
def BitsCutsUptoCardSaid : Prop := Claim7.holds Tryd.pinned (.plain (OpenSpec.upto bitsCutsSpec)) bitsCutsUptoCard

/-- THE SECOND FORM's CARD OF 'pointsmanlaw01.BitsMoves'. -/
def bitsMovesUptoCard : Claim7 := { stood := { row := bitsMovesUptoRow, standIns := [], harness := (true, "cd19c3bf7e4360f22ccc32fedbbeb05452d952ca357f8baf345d235348a9ea00"), looks := true }, kinds := [], alts := [], laidByText := true, laidKinds := [.data, .data, .data], laidTests := true, laidLooks := .later }
def BitsMovesUptoCardSaid : Prop := Claim7.holds Tryd.pinned (.plain (OpenSpec.upto bitsMovesSpec)) bitsMovesUptoCard

/-- THE SECOND FORM's CARD OF 'pointsmanlaw01.BitsOrders'. -/
def bitsOrdersUptoCard : Claim7 := { stood := { row := bitsOrdersUptoRow, standIns := [], harness := (true, "cd19c3bf7e4360f22ccc32fedbbeb05452d952ca357f8baf345d235348a9ea00"), looks := true }, kinds := [], alts := [], laidByText := true, laidKinds := [.data, .data, .data], laidTests := true, laidLooks := .later }
def BitsOrdersUptoCardSaid : Prop := Claim7.holds Tryd.pinned (.plain (OpenSpec.upto bitsOrdersSpec)) bitsOrdersUptoCard

/-- THE SECOND FORM's CARD OF 'pointsmanlaw01.BitsTexts'. -/
def bitsTextsUptoCard : Claim7 := { stood := { row := bitsTextsUptoRow, standIns := [], harness := (true, "cd19c3bf7e4360f22ccc32fedbbeb05452d952ca357f8baf345d235348a9ea00"), looks := true }, kinds := [], alts := [], laidByText := true, laidKinds := [.data, .data, .data, .sentinel, .sentinel], laidTests := true, laidLooks := .later }
def BitsTextsUptoCardSaid : Prop := Claim7.holds Tryd.pinned (.plain (OpenSpec.upto bitsTextsSpec)) bitsTextsUptoCard

/-- THE SECOND FORM's CARD OF 'pointsmanlaw01.BitsBack'. -/
def bitsBackUptoCard : Claim7 := { stood := { row := bitsBackUptoRow, standIns := [], harness := (true, "cd19c3bf7e4360f22ccc32fedbbeb05452d952ca357f8baf345d235348a9ea00"), looks := true }, kinds := [], alts := [], laidByText := true, laidKinds := [.data, .data, .data, .sentinel, .sentinel], laidTests := true, laidLooks := .later }
def BitsBackUptoCardSaid : Prop := Claim7.holds Tryd.pinned (.plain (OpenSpec.upto bitsBackSpec)) bitsBackUptoCard
end Rows
end Go.Proofs.YthhlnghpbjmfpaaDoor
