import Derived.Test.YtdoghjmanogelaaQa
import Derived.Test.YtdoghjmanogelaaOb
namespace Go.Proofs.Ytdoghjmanogelaa.K
open Go.RowKit Go.Proofs.YtdoghjmanogelaaW.PrintWords Go.Proofs.YtdoghjmanogelaaW.PrintLast Go.Proofs.YtdoghjmanogelaaW.PrintMore
set_option linter.unusedVariables false
set_option linter.unusedSimpArgs false
set_option maxRecDepth 100000
theorem sum_mem {α : Type} {bk : α → Nat} {xs : List α} {x : α} (h : x ∈ xs) : bk x ≤ (xs.map bk).sum := by
  induction xs with
  | nil => cases h
  | cons y ys ih =>
    simp only [List.map_cons, List.sum_cons]
    rcases List.mem_cons.1 h with rfl | h
    · omega
    · have := ih h
      omega
end Go.Proofs.Ytdoghjmanogelaa.K
