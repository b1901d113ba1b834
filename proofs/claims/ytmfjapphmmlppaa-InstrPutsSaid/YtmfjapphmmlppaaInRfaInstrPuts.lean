/-
  InstrPuts: the reference of layer 6: patterns: their letters.
-/
import Derived.Test.YtmfjapphmmlppaaInBkInstrPuts
namespace Go.Proofs.Ytmfjapphmmlppaa.WInstrPuts
set_option linter.all false
open Go.Proofs.Ytmfjapphmmlppaa.Vx Go.Proofs.Ytmfjapphmmlppaa.XInstrPuts Go.Proofs.Ytmfjapphmmlppaa.Vd Go.Proofs.Ytmfjapphmmlppaa.Vn Go.Proofs.Ytmfjapphmmlppaa.Vl Go.Proofs.Ytmfjapphmmlppaa.Vp Go.Proofs.Ytmfjapphmmlppaa.Vb Go.Proofs.Ytmfjapphmmlppaa.SInstrPuts Go.Proofs.Ytmfjapphmmlppaa.Vo Go.Proofs.Ytmfjapphmmlppaa.Vt Go.Proofs.Ytmfjapphmmlppaa.IInstrPuts Go.Proofs.Ytmfjapphmmlppaa.PInstrPuts Go.Proofs.Ytmfjapphmmlppaa.MInstrPuts Go.Proofs.Ytmfjapphmmlppaa.KInstrPuts
set_option maxRecDepth 100000
def patL (f : Int) : List Int :=
  if f = 1 then [46] else if f = 2 then [116] else if f = 3 then [97] else if f = 4 then [108, 97] else if f = 5 then [97, 98] else if f = 6 then [122] else if f = 7 then [122, 122] else if f = 8 then [107] else if f = 9 then [113] else if f = 10 then [97, 122] else if f = 11 then [63] else []
def patO (op : Nat) : Option Vx.R := F30 [(op : Int)] [] []
def patE (op : Nat) : Option Vx.R := some ([], [], [dl (patL (fm op))])
theorem pat_range {a n : Nat} (h : (List.range n).map (fun i => patO (a + i)) = (List.range n).map (fun i => patE (a + i))) : ∀ op, a ≤ op → op < a + n → patO op = patE op := fun op h1 h2 => by
  have := List.map_inj_left.1 h (op - a) (List.mem_range.2 (by omega))
  rwa [show a + (op - a) = op by omega] at this
end Go.Proofs.Ytmfjapphmmlppaa.WInstrPuts
