/-
  DERIVED. GIVEN WITH THE SEED: THE CARDS: each row of YtghekmcdokgkkaaDoorRows.lean that lists a variable, with what it lists TIED to the program's text (the seventh form; the later family's looks); each row that meets fmt, with fmt's text TOLD by the authors' own Lean function (tested against real Go, not proved from fmt's source: count such statements apart). THE CARD IS WHAT COUNTS. Prove the row's statement (the work); the ties are given (YtghekmcdokgkkaaDoorTie.lean); close each card by the builder's one call (the guide's Derived/Test/ToyasCard.lean, 'card_holds'). Laid BY PROGRAM, IN A SANDBOX (cutbox-door.mjs). By AI agents, Wed Nov 11 2026. No macro, syntax, notation, axiom, sorry.
-/
import Derived.Test.YtghekmcdokgkkaaDoorRows
import GoSem.ClaimSeven
namespace Go.Proofs.YtghekmcdokgkkaaDoor
namespace Rows

/-- THE TIED CARD OF 'trammellaw03.NumLaws'. -/
def numLawsCard : Claim7 := { stood := { row := numLawsRow, standIns := [], harness := (true, "b5985438a375ec39435d6a1bf11cc17d9bf7b472548b3cd4dd334d89fe6694e2"), looks := false }, kinds := [], alts := [], laidByText := true, laidKinds := [.data, .data], laidTests := true, laidLooks := .later }
def NumLawsCardSaid : Prop := Claim7.holds Tryd.pinned (.plain (OpenSpec.ofChange numLawsSpec)) numLawsCard

/-- THE TIED CARD OF 'trammellaw03.NumDivides'. -/
def numDividesCard : Claim7 := { stood := { row := numDividesRow, standIns := [], harness := (true, "b5985438a375ec39435d6a1bf11cc17d9bf7b472548b3cd4dd334d89fe6694e2"), looks := false }, kinds := [], alts := [], laidByText := true, laidKinds := [.data, .data], laidTests := true, laidLooks := .later }
def NumDividesCardSaid : Prop := Claim7.holds Tryd.pinned (.plain (OpenSpec.ofChange numDividesSpec)) numDividesCard

/-- THE TIED CARD OF 'trammellaw03.NumBits'. -/
def numBitsCard : Claim7 := { stood := { row := numBitsRow, standIns := [], harness := (true, "b5985438a375ec39435d6a1bf11cc17d9bf7b472548b3cd4dd334d89fe6694e2"), looks := false }, kinds := [], alts := [], laidByText := true, laidKinds := [.data, .data], laidTests := true, laidLooks := .later }
def NumBitsCardSaid : Prop := Claim7.holds Tryd.pinned (.plain (OpenSpec.ofChange numBitsSpec)) numBitsCard

/-- THE TIED CARD OF 'trammellaw03.NumSpreads'. -/
def numSpreadsCard : Claim7 := { stood := { row := numSpreadsRow, standIns := [], harness := (true, "b5985438a375ec39435d6a1bf11cc17d9bf7b472548b3cd4dd334d89fe6694e2"), looks := false }, kinds := [], alts := [], laidByText := true, laidKinds := [.data, .data], laidTests := true, laidLooks := .later }
def NumSpreadsCardSaid : Prop := Claim7.holds Tryd.pinned (.plain (OpenSpec.ofChange numSpreadsSpec)) numSpreadsCard

/-- THE TIED CARD OF 'trammellaw03.NumDoes'. -/
def numDoesCard : Claim7 := { stood := { row := numDoesRow, standIns := [], harness := (true, "b5985438a375ec39435d6a1bf11cc17d9bf7b472548b3cd4dd334d89fe6694e2"), looks := false }, kinds := [], alts := [], laidByText := true, laidKinds := [.data, .data], laidTests := true, laidLooks := .later }
def NumDoesCardSaid : Prop := Claim7.holds Tryd.pinned (.plain (OpenSpec.ofChange numDoesSpec)) numDoesCard

/-- THE TIED CARD OF 'trammellaw03.NumWidth'. -/
def numWidthCard : Claim7 := { stood := { row := numWidthRow, standIns := [], harness := (true, "b5985438a375ec39435d6a1bf11cc17d9bf7b472548b3cd4dd334d89fe6694e2"), looks := false }, kinds := [], alts := [], laidByText := true, laidKinds := [.data, .data], laidTests := true, laidLooks := .later }
def NumWidthCardSaid : Prop := Claim7.holds Tryd.pinned (.plain (OpenSpec.ofChange numWidthSpec)) numWidthCard

/-- THE SECOND FORM's CARD OF 'trammellaw03.NumLaws'. -/
def numLawsUptoCard : Claim7 := { stood := { row := numLawsUptoRow, standIns := [], harness := (true, "b5985438a375ec39435d6a1bf11cc17d9bf7b472548b3cd4dd334d89fe6694e2"), looks := false }, kinds := [], alts := [], laidByText := true, laidKinds := [.data, .data], laidTests := true, laidLooks := .later }
def NumLawsUptoCardSaid : Prop := Claim7.holds Tryd.pinned (.plain (OpenSpec.upto numLawsSpec)) numLawsUptoCard

/-- THE SECOND FORM's CARD OF 'trammellaw03.NumDivides'. -/
def numDividesUptoCard : Claim7 := { stood := { row := numDividesUptoRow, standIns := [], harness := (true, "b5985438a375ec39435d6a1bf11cc17d9bf7b472548b3cd4dd334d89fe6694e2"), looks := false }, kinds := [], alts := [], laidByText := true, laidKinds := [.data, .data], laidTests := true, laidLooks := .later }
def NumDividesUptoCardSaid : Prop := Claim7.holds Tryd.pinned (.plain (OpenSpec.upto numDividesSpec)) numDividesUptoCard

/-- THE SECOND FORM's CARD OF 'trammellaw03.NumBits'. -/
def numBitsUptoCard : Claim7 := { stood := { row := numBitsUptoRow, standIns := [], harness := (true, "b5985438a375ec39435d6a1bf11cc17d9bf7b472548b3cd4dd334d89fe6694e2"), looks := false }, kinds := [], alts := [], laidByText := true, laidKinds := [.data, .data], laidTests := true, laidLooks := .later }
def NumBitsUptoCardSaid : Prop := Claim7.holds Tryd.pinned (.plain (OpenSpec.upto numBitsSpec)) numBitsUptoCard

/-- THE SECOND FORM's CARD OF 'trammellaw03.NumSpreads'. -/
def numSpreadsUptoCard : Claim7 := { stood := { row := numSpreadsUptoRow, standIns := [], harness := (true, "b5985438a375ec39435d6a1bf11cc17d9bf7b472548b3cd4dd334d89fe6694e2"), looks := false }, kinds := [], alts := [], laidByText := true, laidKinds := [.data, .data], laidTests := true, laidLooks := .later }
def NumSpreadsUptoCardSaid : Prop := Claim7.holds Tryd.pinned (.plain (OpenSpec.upto numSpreadsSpec)) numSpreadsUptoCard

/-- THE SECOND FORM's CARD OF 'trammellaw03.NumDoes'. -/
def numDoesUptoCard : Claim7 := { stood := { row := numDoesUptoRow, standIns := [], harness := (true, "b5985438a375ec39435d6a1bf11cc17d9bf7b472548b3cd4dd334d89fe6694e2"), looks := false }, kinds := [], alts := [], laidByText := true, laidKinds := [.data, .data], laidTests := true, laidLooks := .later }
def NumDoesUptoCardSaid : Prop := Claim7.holds Tryd.pinned (.plain (OpenSpec.upto numDoesSpec)) numDoesUptoCard

/-- THE SECOND FORM's CARD OF 'trammellaw03.NumWidth'. -/
def numWidthUptoCard : Claim7 := { stood := { row := numWidthUptoRow, standIns := [], harness := (true, "b5985438a375ec39435d6a1bf11cc17d9bf7b472548b3cd4dd334d89fe6694e2"), looks := false }, kinds := [], alts := [], laidByText := true, laidKinds := [.data, .data], laidTests := true, laidLooks := .later }
def NumWidthUptoCardSaid : Prop := Claim7.holds Tryd.pinned (.plain (OpenSpec.upto numWidthSpec)) numWidthUptoCard
end Rows
end Go.Proofs.YtghekmcdokgkkaaDoor
