/-
  DERIVED. GIVEN WITH THE SEED: THE CARDS: each row of YticpdchlknbodaaDoorRows.lean that lists a variable, with what it lists TIED to the program's text (the seventh form; the later family's looks); each row that meets fmt, with fmt's text TOLD by the authors' own Lean function (tested against real Go, not proved from fmt's source: count such statements apart). THE CARD IS WHAT COUNTS. Prove the row's statement (the work); the ties are given (YticpdchlknbodaaDoorTie.lean); close each card by the builder's one call (the guide's Derived/Test/ToyasCard.lean, 'card_holds'). Laid BY PROGRAM, IN A SANDBOX (cutbox-door.mjs). By AI agents, Wed Nov 11 2026. No macro, syntax, notation, axiom, sorry.
-/
import Derived.Test.YticpdchlknbodaaDoorRows
import GoSem.ClaimSeven
namespace Go.Proofs.YticpdchlknbodaaDoor
namespace Rows

/-- THE TIED CARD OF 'trammellaw18.AbsJoin'. -/
def absJoinCard : Claim7 := { stood := { row := absJoinRow, standIns := [], harness := (true, "0ce8bbcb538380db86db3a94cc70806095e4f47187f44e457247d6b59f9e2be7"), looks := false }, kinds := [], alts := [], laidByText := true, laidKinds := [.data], laidTests := true, laidLooks := .later }
def AbsJoinCardSaid : Prop := Claim7.holds Tryd.pinned (.plain (OpenSpec.ofChange absJoinSpec)) absJoinCard

/-- THE TIED CARD OF 'trammellaw18.AbsWidens'. -/
def absWidensCard : Claim7 := { stood := { row := absWidensRow, standIns := [], harness := (true, "0ce8bbcb538380db86db3a94cc70806095e4f47187f44e457247d6b59f9e2be7"), looks := false }, kinds := [], alts := [], laidByText := true, laidKinds := [.data], laidTests := true, laidLooks := .later }
def AbsWidensCardSaid : Prop := Claim7.holds Tryd.pinned (.plain (OpenSpec.ofChange absWidensSpec)) absWidensCard

/-- THE TIED CARD OF 'trammellaw18.AbsLattice'. -/
def absLatticeCard : Claim7 := { stood := { row := absLatticeRow, standIns := [], harness := (true, "0ce8bbcb538380db86db3a94cc70806095e4f47187f44e457247d6b59f9e2be7"), looks := false }, kinds := [], alts := [], laidByText := true, laidKinds := [.data], laidTests := true, laidLooks := .later }
def AbsLatticeCardSaid : Prop := Claim7.holds Tryd.pinned (.plain (OpenSpec.ofChange absLatticeSpec)) absLatticeCard

/-- THE SECOND FORM's CARD OF 'trammellaw18.AbsJoin'. -/
def absJoinUptoCard : Claim7 := { stood := { row := absJoinUptoRow, standIns := [], harness := (true, "0ce8bbcb538380db86db3a94cc70806095e4f47187f44e457247d6b59f9e2be7"), looks := false }, kinds := [], alts := [], laidByText := true, laidKinds := [.data], laidTests := true, laidLooks := .later }
def AbsJoinUptoCardSaid : Prop := Claim7.holds Tryd.pinned (.plain (OpenSpec.upto absJoinSpec)) absJoinUptoCard

/-- THE SECOND FORM's CARD OF 'trammellaw18.AbsWidens'. -/
def absWidensUptoCard : Claim7 := { stood := { row := absWidensUptoRow, standIns := [], harness := (true, "0ce8bbcb538380db86db3a94cc70806095e4f47187f44e457247d6b59f9e2be7"), looks := false }, kinds := [], alts := [], laidByText := true, laidKinds := [.data], laidTests := true, laidLooks := .later }
def AbsWidensUptoCardSaid : Prop := Claim7.holds Tryd.pinned (.plain (OpenSpec.upto absWidensSpec)) absWidensUptoCard

/-- THE SECOND FORM's CARD OF 'trammellaw18.AbsLattice'. -/
def absLatticeUptoCard : Claim7 := { stood := { row := absLatticeUptoRow, standIns := [], harness := (true, "0ce8bbcb538380db86db3a94cc70806095e4f47187f44e457247d6b59f9e2be7"), looks := false }, kinds := [], alts := [], laidByText := true, laidKinds := [.data], laidTests := true, laidLooks := .later }
def AbsLatticeUptoCardSaid : Prop := Claim7.holds Tryd.pinned (.plain (OpenSpec.upto absLatticeSpec)) absLatticeUptoCard
end Rows
end Go.Proofs.YticpdchlknbodaaDoor
