/-
  DERIVED. GIVEN WITH THE SEED: THE CARDS: each row of YtlnikilodakjmaaDoorRows.lean that lists a variable, with what it lists TIED to the program's text (the seventh form; the later family's looks); each row that meets fmt, with fmt's text TOLD by the authors' own Lean function (tested against real Go, not proved from fmt's source: count such statements apart). THE CARD IS WHAT COUNTS. Prove the row's statement (the work); the ties are given (YtlnikilodakjmaaDoorTie.lean); close each card by the builder's one call (the guide's Derived/Test/ToyasCard.lean, 'card_holds'). Laid BY PROGRAM, IN A SANDBOX (cutbox-door.mjs). By AI agents, Wed Nov 11 2026. No macro, syntax, notation, axiom, sorry.
-/
import Derived.Test.YtlnikilodakjmaaDoorRows
import GoSem.ClaimSeven
namespace Go.Proofs.YtlnikilodakjmaaDoor
namespace Rows

/-- THE TIED CARD OF 'trammellaw19.TransLimit'. -/
def transLimitCard : Claim7 := { stood := { row := transLimitRow, standIns := [], harness := (true, "d1117134a5d19c6bb35c68d3984a275dd308a0fa39aae4eb87d9feb9ac77c461"), looks := false }, kinds := [], alts := [], laidByText := true, laidKinds := [.data], laidTests := true, laidLooks := .later }
def TransLimitCardSaid : Prop := Claim7.holds Tryd.pinned (.plain (OpenSpec.ofChange transLimitSpec)) transLimitCard

/-- THE TIED CARD OF 'trammellaw19.TransTruth'. -/
def transTruthCard : Claim7 := { stood := { row := transTruthRow, standIns := [], harness := (true, "d1117134a5d19c6bb35c68d3984a275dd308a0fa39aae4eb87d9feb9ac77c461"), looks := false }, kinds := [], alts := [], laidByText := true, laidKinds := [.data], laidTests := true, laidLooks := .later }
def TransTruthCardSaid : Prop := Claim7.holds Tryd.pinned (.plain (OpenSpec.ofChange transTruthSpec)) transTruthCard

/-- THE TIED CARD OF 'trammellaw19.TransTraps'. -/
def transTrapsCard : Claim7 := { stood := { row := transTrapsRow, standIns := [], harness := (true, "d1117134a5d19c6bb35c68d3984a275dd308a0fa39aae4eb87d9feb9ac77c461"), looks := false }, kinds := [], alts := [], laidByText := true, laidKinds := [.data], laidTests := true, laidLooks := .later }
def TransTrapsCardSaid : Prop := Claim7.holds Tryd.pinned (.plain (OpenSpec.ofChange transTrapsSpec)) transTrapsCard

/-- THE TIED CARD OF 'trammellaw19.TransLoads'. -/
def transLoadsCard : Claim7 := { stood := { row := transLoadsRow, standIns := [], harness := (true, "d1117134a5d19c6bb35c68d3984a275dd308a0fa39aae4eb87d9feb9ac77c461"), looks := false }, kinds := [], alts := [], laidByText := true, laidKinds := [.data], laidTests := true, laidLooks := .later }
def TransLoadsCardSaid : Prop := Claim7.holds Tryd.pinned (.plain (OpenSpec.ofChange transLoadsSpec)) transLoadsCard

/-- THE TIED CARD OF 'trammellaw19.TransConst'. -/
def transConstCard : Claim7 := { stood := { row := transConstRow, standIns := [], harness := (true, "d1117134a5d19c6bb35c68d3984a275dd308a0fa39aae4eb87d9feb9ac77c461"), looks := false }, kinds := [], alts := [], laidByText := true, laidKinds := [.data, .data], laidTests := true, laidLooks := .later }
def TransConstCardSaid : Prop := Claim7.holds Tryd.pinned (.plain (OpenSpec.ofChange transConstSpec)) transConstCard

/-- THE TIED CARD OF 'trammellaw19.TransSound'. -/
def transSoundCard : Claim7 := { stood := { row := transSoundRow, standIns := [], harness := (true, "d1117134a5d19c6bb35c68d3984a275dd308a0fa39aae4eb87d9feb9ac77c461"), looks := false }, kinds := [], alts := [], laidByText := true, laidKinds := [.data, .data], laidTests := true, laidLooks := .later }
def TransSoundCardSaid : Prop := Claim7.holds Tryd.pinned (.plain (OpenSpec.ofChange transSoundSpec)) transSoundCard

/-- THE TIED CARD OF 'trammellaw19.TransTight'. -/
def transTightCard : Claim7 := { stood := { row := transTightRow, standIns := [], harness := (true, "d1117134a5d19c6bb35c68d3984a275dd308a0fa39aae4eb87d9feb9ac77c461"), looks := false }, kinds := [], alts := [], laidByText := true, laidKinds := [.data, .data], laidTests := true, laidLooks := .later }
def TransTightCardSaid : Prop := Claim7.holds Tryd.pinned (.plain (OpenSpec.ofChange transTightSpec)) transTightCard

/-- THE SECOND FORM's CARD OF 'trammellaw19.TransLimit'. -/
def transLimitUptoCard : Claim7 := { stood := { row := transLimitUptoRow, standIns := [], harness := (true, "d1117134a5d19c6bb35c68d3984a275dd308a0fa39aae4eb87d9feb9ac77c461"), looks := false }, kinds := [], alts := [], laidByText := true, laidKinds := [.data], laidTests := true, laidLooks := .later }
def TransLimitUptoCardSaid : Prop := Claim7.holds Tryd.pinned (.plain (OpenSpec.upto transLimitSpec)) transLimitUptoCard

/-- THE SECOND FORM's CARD OF 'trammellaw19.TransTruth'. -/
def transTruthUptoCard : Claim7 := { stood := { row := transTruthUptoRow, standIns := [], harness := (true, "d1117134a5d19c6bb35c68d3984a275dd308a0fa39aae4eb87d9feb9ac77c461"), looks := false }, kinds := [], alts := [], laidByText := true, laidKinds := [.data], laidTests := true, laidLooks := .later }
def TransTruthUptoCardSaid : Prop := Claim7.holds Tryd.pinned (.plain (OpenSpec.upto transTruthSpec)) transTruthUptoCard

/-- THE SECOND FORM's CARD OF 'trammellaw19.TransTraps'. -/
def transTrapsUptoCard : Claim7 := { stood := { row := transTrapsUptoRow, standIns := [], harness := (true, "d1117134a5d19c6bb35c68d3984a275dd308a0fa39aae4eb87d9feb9ac77c461"), looks := false }, kinds := [], alts := [], laidByText := true, laidKinds := [.data], laidTests := true, laidLooks := .later }
def TransTrapsUptoCardSaid : Prop := Claim7.holds Tryd.pinned (.plain (OpenSpec.upto transTrapsSpec)) transTrapsUptoCard

/-- THE SECOND FORM's CARD OF 'trammellaw19.TransLoads'. -/
def transLoadsUptoCard : Claim7 := { stood := { row := transLoadsUptoRow, standIns := [], harness := (true, "d1117134a5d19c6bb35c68d3984a275dd308a0fa39aae4eb87d9feb9ac77c461"), looks := false }, kinds := [], alts := [], laidByText := true, laidKinds := [.data], laidTests := true, laidLooks := .later }
def TransLoadsUptoCardSaid : Prop := Claim7.holds Tryd.pinned (.plain (OpenSpec.upto transLoadsSpec)) transLoadsUptoCard

/-- THE SECOND FORM's CARD OF 'trammellaw19.TransConst'. -/
def transConstUptoCard : Claim7 := { stood := { row := transConstUptoRow, standIns := [], harness := (true, "d1117134a5d19c6bb35c68d3984a275dd308a0fa39aae4eb87d9feb9ac77c461"), looks := false }, kinds := [], alts := [], laidByText := true, laidKinds := [.data, .data], laidTests := true, laidLooks := .later }
def TransConstUptoCardSaid : Prop := Claim7.holds Tryd.pinned (.plain (OpenSpec.upto transConstSpec)) transConstUptoCard

/-- THE SECOND FORM's CARD OF 'trammellaw19.TransSound'. -/
def transSoundUptoCard : Claim7 := { stood := { row := transSoundUptoRow, standIns := [], harness := (true, "d1117134a5d19c6bb35c68d3984a275dd308a0fa39aae4eb87d9feb9ac77c461"), looks := false }, kinds := [], alts := [], laidByText := true, laidKinds := [.data, .data], laidTests := true, laidLooks := .later }
def TransSoundUptoCardSaid : Prop := Claim7.holds Tryd.pinned (.plain (OpenSpec.upto transSoundSpec)) transSoundUptoCard

/-- THE SECOND FORM's CARD OF 'trammellaw19.TransTight'. -/
def transTightUptoCard : Claim7 := { stood := { row := transTightUptoRow, standIns := [], harness := (true, "d1117134a5d19c6bb35c68d3984a275dd308a0fa39aae4eb87d9feb9ac77c461"), looks := false }, kinds := [], alts := [], laidByText := true, laidKinds := [.data, .data], laidTests := true, laidLooks := .later }
def TransTightUptoCardSaid : Prop := Claim7.holds Tryd.pinned (.plain (OpenSpec.upto transTightSpec)) transTightUptoCard
end Rows
end Go.Proofs.YtlnikilodakjmaaDoor
