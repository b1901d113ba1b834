/-
  InstrPuts: the reference of layer 6: patterns, part 1.
-/
import Derived.Test.YtmfjapphmmlppaaInRfaInstrPuts
namespace Go.Proofs.Ytmfjapphmmlppaa.WInstrPuts
set_option linter.all false
open Go.Proofs.Ytmfjapphmmlppaa.Vx Go.Proofs.Ytmfjapphmmlppaa.XInstrPuts Go.Proofs.Ytmfjapphmmlppaa.Vd Go.Proofs.Ytmfjapphmmlppaa.Vn Go.Proofs.Ytmfjapphmmlppaa.Vl Go.Proofs.Ytmfjapphmmlppaa.Vp Go.Proofs.Ytmfjapphmmlppaa.Vb Go.Proofs.Ytmfjapphmmlppaa.SInstrPuts Go.Proofs.Ytmfjapphmmlppaa.Vo Go.Proofs.Ytmfjapphmmlppaa.Vt Go.Proofs.Ytmfjapphmmlppaa.IInstrPuts Go.Proofs.Ytmfjapphmmlppaa.PInstrPuts Go.Proofs.Ytmfjapphmmlppaa.MInstrPuts Go.Proofs.Ytmfjapphmmlppaa.KInstrPuts
set_option maxRecDepth 100000
theorem pat_0 : ∀ op, 0 ≤ op → op < 64 → patO op = patE op := pat_range (a := 0) (n := 64) (by kernel_rfl)
theorem pat_64 : ∀ op, 64 ≤ op → op < 80 → patO op = patE op := pat_range (a := 64) (n := 16) (by kernel_rfl)
theorem pat_80 : ∀ op, 80 ≤ op → op < 96 → patO op = patE op := pat_range (a := 80) (n := 16) (by kernel_rfl)
end Go.Proofs.Ytmfjapphmmlppaa.WInstrPuts
