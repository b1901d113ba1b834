/-
  InstrPuts: the reference of layer 6: patterns.
-/
import Derived.Test.YtmfjapphmmlppaaInRf1InstrPuts
import Derived.Test.YtmfjapphmmlppaaInRf2InstrPuts
import Derived.Test.YtmfjapphmmlppaaInRf3InstrPuts
import Derived.Test.YtmfjapphmmlppaaInRf4InstrPuts
import Derived.Test.YtmfjapphmmlppaaInRf5InstrPuts
import Derived.Test.YtmfjapphmmlppaaInRf6InstrPuts
import Derived.Test.YtmfjapphmmlppaaInRf7InstrPuts
import Derived.Test.YtmfjapphmmlppaaInRf8InstrPuts
import Derived.Test.YtmfjapphmmlppaaInRf9InstrPuts
import Derived.Test.YtmfjapphmmlppaaInRfxInstrPuts
import Derived.Test.YtmfjapphmmlppaaInRfyInstrPuts
namespace Go.Proofs.Ytmfjapphmmlppaa.WInstrPuts
set_option linter.all false
open Go.Proofs.Ytmfjapphmmlppaa.Vx Go.Proofs.Ytmfjapphmmlppaa.XInstrPuts Go.Proofs.Ytmfjapphmmlppaa.Vd Go.Proofs.Ytmfjapphmmlppaa.Vn Go.Proofs.Ytmfjapphmmlppaa.Vl Go.Proofs.Ytmfjapphmmlppaa.Vp Go.Proofs.Ytmfjapphmmlppaa.Vb Go.Proofs.Ytmfjapphmmlppaa.SInstrPuts Go.Proofs.Ytmfjapphmmlppaa.Vo Go.Proofs.Ytmfjapphmmlppaa.Vt Go.Proofs.Ytmfjapphmmlppaa.IInstrPuts Go.Proofs.Ytmfjapphmmlppaa.PInstrPuts Go.Proofs.Ytmfjapphmmlppaa.MInstrPuts Go.Proofs.Ytmfjapphmmlppaa.KInstrPuts
set_option maxRecDepth 100000
theorem q_pat {op : Nat} (h : op < 512) : F30 [(op : Int)] [] [] = some ([], [], [dl (patL (fm op))]) := by
  show patO op = patE op
  by_cases h0 : op < 64
  · exact pat_0 op (by omega) (by omega)
  by_cases h1 : op < 80
  · exact pat_64 op (by omega) (by omega)
  by_cases h2 : op < 96
  · exact pat_80 op (by omega) (by omega)
  by_cases h3 : op < 108
  · exact pat_96 op (by omega) (by omega)
  by_cases h4 : op < 120
  · exact pat_108 op (by omega) (by omega)
  by_cases h5 : op < 130
  · exact pat_120 op (by omega) (by omega)
  by_cases h6 : op < 140
  · exact pat_130 op (by omega) (by omega)
  by_cases h7 : op < 170
  · exact pat_140 op (by omega) (by omega)
  by_cases h8 : op < 200
  · exact pat_170 op (by omega) (by omega)
  by_cases h9 : op < 264
  · exact pat_200 op (by omega) (by omega)
  by_cases h10 : op < 328
  · exact pat_264 op (by omega) (by omega)
  by_cases h11 : op < 392
  · exact pat_328 op (by omega) (by omega)
  by_cases h12 : op < 456
  · exact pat_392 op (by omega) (by omega)
  exact pat_456 op (by omega) (by omega)
end Go.Proofs.Ytmfjapphmmlppaa.WInstrPuts
