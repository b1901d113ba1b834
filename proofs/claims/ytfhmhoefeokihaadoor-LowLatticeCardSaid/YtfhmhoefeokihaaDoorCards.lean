/-
  DERIVED. GIVEN WITH THE SEED: THE CARDS: each row of YtfhmhoefeokihaaDoorRows.lean that lists a variable, with what it lists TIED to the program's text (the seventh form; the later family's looks); each row that meets fmt, with fmt's text TOLD by the authors' own Lean function (tested against real Go, not proved from fmt's source: count such statements apart). THE CARD IS WHAT COUNTS. Prove the row's statement (the work); the ties are given (YtfhmhoefeokihaaDoorTie.lean); close each card by the builder's one call (the guide's Derived/Test/ToyasCard.lean, 'card_holds'). Laid BY PROGRAM, IN A SANDBOX (cutbox-door.mjs). By AI agents, Wed Nov 11 2026. No macro, syntax, notation, axiom, sorry.
-/
import Derived.Test.YtfhmhoefeokihaaDoorRows
import GoSem.ClaimSeven
namespace Go.Proofs.YtfhmhoefeokihaaDoor
namespace Rows

/-- THE TIED CARD OF 'trammellaw17.LowGrows'. -/
def lowGrowsCard : Claim7 := { stood := { row := lowGrowsRow, standIns := [], harness := (true, "896f0f633edf92752ed3c5376b0c33125765db2b365678786a3ac56ff6b30105"), looks := false }, kinds := [], alts := [], laidByText := true, laidKinds := [.data], laidTests := true, laidLooks := .later }
def LowGrowsCardSaid : Prop := Claim7.holds Tryd.pinned (.plain (OpenSpec.ofChange lowGrowsSpec)) lowGrowsCard

/-- THE TIED CARD OF 'trammellaw17.LowLattice'. -/
def lowLatticeCard : Claim7 := { stood := { row := lowLatticeRow, standIns := [], harness := (true, "896f0f633edf92752ed3c5376b0c33125765db2b365678786a3ac56ff6b30105"), looks := false }, kinds := [], alts := [], laidByText := true, laidKinds := [.data], laidTests := true, laidLooks := .later }
def LowLatticeCardSaid : Prop := Claim7.holds Tryd.pinned (.plain (OpenSpec.ofChange lowLatticeSpec)) lowLatticeCard

/-- THE TIED CARD OF 'trammellaw17.LowTight'. -/
def lowTightCard : Claim7 := { stood := { row := lowTightRow, standIns := [], harness := (true, "896f0f633edf92752ed3c5376b0c33125765db2b365678786a3ac56ff6b30105"), looks := false }, kinds := [], alts := [], laidByText := true, laidKinds := [.data], laidTests := true, laidLooks := .later }
def LowTightCardSaid : Prop := Claim7.holds Tryd.pinned (.plain (OpenSpec.ofChange lowTightSpec)) lowTightCard

/-- THE TIED CARD OF 'trammellaw17.LowSound'. -/
def lowSoundCard : Claim7 := { stood := { row := lowSoundRow, standIns := [], harness := (true, "896f0f633edf92752ed3c5376b0c33125765db2b365678786a3ac56ff6b30105"), looks := false }, kinds := [], alts := [], laidByText := true, laidKinds := [.data], laidTests := true, laidLooks := .later }
def LowSoundCardSaid : Prop := Claim7.holds Tryd.pinned (.plain (OpenSpec.ofChange lowSoundSpec)) lowSoundCard

/-- THE SECOND FORM's CARD OF 'trammellaw17.LowGrows'. -/
def lowGrowsUptoCard : Claim7 := { stood := { row := lowGrowsUptoRow, standIns := [], harness := (true, "896f0f633edf92752ed3c5376b0c33125765db2b365678786a3ac56ff6b30105"), looks := false }, kinds := [], alts := [], laidByText := true, laidKinds := [.data], laidTests := true, laidLooks := .later }
def LowGrowsUptoCardSaid : Prop := Claim7.holds Tryd.pinned (.plain (OpenSpec.upto lowGrowsSpec)) lowGrowsUptoCard

/-- THE SECOND FORM's CARD OF 'trammellaw17.LowLattice'. -/
def lowLatticeUptoCard : Claim7 := { stood := { row := lowLatticeUptoRow, standIns := [], harness := (true, "896f0f633edf92752ed3c5376b0c33125765db2b365678786a3ac56ff6b30105"), looks := false }, kinds := [], alts := [], laidByText := true, laidKinds := [.data], laidTests := true, laidLooks := .later }
def LowLatticeUptoCardSaid : Prop := Claim7.holds Tryd.pinned (.plain (OpenSpec.upto lowLatticeSpec)) lowLatticeUptoCard

/-- THE SECOND FORM's CARD OF 'trammellaw17.LowTight'. -/
def lowTightUptoCard : Claim7 := { stood := { row := lowTightUptoRow, standIns := [], harness := (true, "896f0f633edf92752ed3c5376b0c33125765db2b365678786a3ac56ff6b30105"), looks := false }, kinds := [], alts := [], laidByText := true, laidKinds := [.data], laidTests := true, laidLooks := .later }
def LowTightUptoCardSaid : Prop := Claim7.holds Tryd.pinned (.plain (OpenSpec.upto lowTightSpec)) lowTightUptoCard

/-- THE SECOND FORM's CARD OF 'trammellaw17.LowSound'. -/
def lowSoundUptoCard : Claim7 := { stood := { row := lowSoundUptoRow, standIns := [], harness := (true, "896f0f633edf92752ed3c5376b0c33125765db2b365678786a3ac56ff6b30105"), looks := false }, kinds := [], alts := [], laidByText := true, laidKinds := [.data], laidTests := true, laidLooks := .later }
def LowSoundUptoCardSaid : Prop := Claim7.holds Tryd.pinned (.plain (OpenSpec.upto lowSoundSpec)) lowSoundUptoCard
end Rows
end Go.Proofs.YtfhmhoefeokihaaDoor
