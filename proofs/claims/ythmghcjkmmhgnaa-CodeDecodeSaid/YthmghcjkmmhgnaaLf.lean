import Derived.Test.YthmghcjkmmhgnaaLe
namespace Go.Proofs.Ythmghcjkmmhgnaa.K
open Go.RowKit Go.Proofs.YthmghcjkmmhgnaaW.PrintWords Go.Proofs.YthmghcjkmmhgnaaW.PrintLast Go.Proofs.YthmghcjkmmhgnaaW.PrintMore
set_option linter.unusedVariables false
set_option linter.unusedSimpArgs false
set_option maxRecDepth 100000

theorem unfoldI_range {x : Int} (h : 0 ≤ x ∧ x ≤ 18446744073709551615) : -9223372036854775808 ≤ unfoldI x ∧ unfoldI x ≤ 9223372036854775807 := by unfold unfoldI; split <;> omega