import Derived.Test.YtdoghjmanogelaaSf
import Derived.IntWalk
import Derived.BigQuiet
import Derived.Deep.RegionHeld3
namespace Go.Proofs.Ytdoghjmanogelaa.K
open Go.RowKit Go.Proofs.YtdoghjmanogelaaW.PrintWords Go.Proofs.YtdoghjmanogelaaW.PrintLast Go.Proofs.YtdoghjmanogelaaW.PrintMore
set_option linter.unusedVariables false
set_option linter.unusedSimpArgs false
set_option maxRecDepth 100000
def rowsB (l : List QB) : List (List QV) := l.flatMap (fun b => b.frames.map (fun f => f.slots))
def rowsS (s : QS) : List (List QV) := s.objs.map (fun o => o.items) ++ rowsB s.fibers
def Rooms (w : World) (ms : List SV) (ls : List (List QV)) : Prop := ∀ (k : Nat) (m : SV) (l : List QV), ms[k]? = some m → ls[k]? = some l → Kd.C kQV w m.1 m.2.1 (l ++ kQVMarks 64)
theorem Rooms.below {w w' : World} {ms : List SV} {ls : List (List QV)} (h : Rooms w ms ls) (hb : Below w.heap.size w w') : Rooms w' ms ls := fun k m l h1 h2 => Kd.C_below (h k m l h1 h2) hb
end Go.Proofs.Ytdoghjmanogelaa.K
