import Derived.Test.YtgaackedappmgaaDoorWWords
import Derived.Test.YtgaackedappmgaaDoorWLast
import Derived.Test.YtgaackedappmgaaDoorWQPut
import Derived.Test.YtgaackedappmgaaDoorWApart
import Derived.Test.YtgaackedappmgaaDoorWZeros
import Derived.Test.YtgaackedappmgaaDoorWFoot
import Derived.Test.YtgaackedappmgaaDoorWKept
import Derived.Test.YtgaackedappmgaaDoorWNEv
namespace Go.Proofs.YtgaackedappmgaaDoorW.PrintMore
open Go.RowKit Go.Proofs.YtgaackedappmgaaDoorW.PrintWords
namespace Kd
open Go.Proofs.YtgaackedappmgaaDoorW.PrintWords.Kd
end Kd
namespace Kd
open Go.Proofs.YtgaackedappmgaaDoorW.PrintWords.Kd
section
variable {α : Type} {d : Kd α} {e base g N : Nat} {ok : Nat → Prop} {W w1 : World} {u v : Value} {xs : List α}
end
end Kd
end Go.Proofs.YtgaackedappmgaaDoorW.PrintMore
namespace Go.Proofs.YtgaackedappmgaaDoorW.PrintWords
open Go.RowKit
section
variable {P : Program} {ops : Array Oper} {rest : List Oper} {o : Oper} {a : Act} {Q : Exit → Act → World → Prop} {W : World}
end
def mn (a b : Int) : Int := if b < a then b else a
namespace Kd
section
variable {α : Type} {d : Kd α} {e base : Nat} {ok : Nat → Prop} {W w1 : World} {v : Value} {xs : List α}
end
section
variable {α : Type} {d : Kd α} {e base g n cap : Nat} {ok oki okp : Nat → Prop} {W : World} {xs : List α} {i : Int} {c : List Value}
end
section
variable {α : Type} {d : Kd α} {e base b b' g N : Nat} {ok ok1 : Nat → Prop} {W W2 w1 : World} {u v : Value} {xs ys : List α} {S : Nat → Prop}
end
end Kd
end Go.Proofs.YtgaackedappmgaaDoorW.PrintWords
namespace Go.Proofs.YtgaackedappmgaaDoorW.PrintWords
open Go.RowKit
namespace Kd
section
variable {α β : Type} {d : Kd α} {e base base' n m c g N' lo hi : Nat} {ok ok' S : Nat → Prop} {w W w1 : World} {A : Option Addr} {ad : Addr} {u v v1 : Value} {xs : List α}
end
end Kd
end Go.Proofs.YtgaackedappmgaaDoorW.PrintWords
