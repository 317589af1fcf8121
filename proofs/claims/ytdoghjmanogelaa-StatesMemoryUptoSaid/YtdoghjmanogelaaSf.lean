import Derived.Test.YtdoghjmanogelaaSz
import Derived.Test.YtdoghjmanogelaaZa
import Derived.IntWalk
import Derived.BigQuiet
namespace Go.Proofs.Ytdoghjmanogelaa.K
open Go.RowKit Go.Proofs.YtdoghjmanogelaaW.PrintWords Go.Proofs.YtdoghjmanogelaaW.PrintLast Go.Proofs.YtdoghjmanogelaaW.PrintMore
set_option linter.unusedVariables false
set_option linter.unusedSimpArgs false
set_option maxRecDepth 100000
theorem pair_at {α β : Type} {Z : List (α × β)} {k : Nat} {r : α} (h : (Z.map (·.1))[k]? = some r) : ∃ z, Z[k]? = some z ∧ r = z.1 := by
  rw [List.getElem?_map] at h
  cases hz : Z[k]? with
  | none => rw [hz] at h; cases h
  | some z => rw [hz] at h; exact ⟨z, rfl, (Option.some.inj h).symm⟩
end Go.Proofs.Ytdoghjmanogelaa.K
