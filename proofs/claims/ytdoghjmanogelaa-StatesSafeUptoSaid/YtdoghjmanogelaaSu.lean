import Derived.Test.YtdoghjmanogelaaSn
namespace Go.Proofs.Ytdoghjmanogelaa.K
open Go.RowKit Go.Proofs.YtdoghjmanogelaaW.PrintWords Go.Proofs.YtdoghjmanogelaaW.PrintLast Go.Proofs.YtdoghjmanogelaaW.PrintMore
set_option linter.unusedVariables false
set_option linter.unusedSimpArgs false
set_option maxRecDepth 100000

theorem state_num {s : QS} (h : okQS s) : SNum s ∧ s.cur ≤ 9223372036854775807 :=
  ⟨⟨fun b hb f hf => ⟨(wf_i64 ((h.2.2.1.2 b hb).2 f hf).1).2, (wf_i64 ((h.2.2.1.2 b hb).2 f hf).2.1).2⟩, fun b hb f hf v hv => (wf_i64 (((h.2.2.1.2 b hb).2 f hf).2.2.2 v hv).2).2⟩, (wf_i64 h.2.2.2.1).2⟩
end Go.Proofs.Ytdoghjmanogelaa.K
