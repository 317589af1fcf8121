import Derived.Test.YtdoghjmanogelaaQa
import Derived.IntWalk
import Derived.BigQuiet
namespace Go.Proofs.Ytdoghjmanogelaa.K
open Go.RowKit Go.Proofs.YtdoghjmanogelaaW.PrintWords Go.Proofs.YtdoghjmanogelaaW.PrintLast Go.Proofs.YtdoghjmanogelaaW.PrintMore
set_option linter.unusedVariables false
set_option linter.unusedSimpArgs false
set_option maxRecDepth 100000
theorem cellQ {w : World} {p : Addr} {v : Value} (h : w.cell? p = some v) (o : Obj) : (w.alloc o).cell? p = some v := by
  have hb := World.block_lt_of_cell? w p h
  have hk := ((Chg.refl (fun _ => False) w).alloc o).block p.block hb (fun h => h)
  simpa [World.cell?, hk] using h
end Go.Proofs.Ytdoghjmanogelaa.K
