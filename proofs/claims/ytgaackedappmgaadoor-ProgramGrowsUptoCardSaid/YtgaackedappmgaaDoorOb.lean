import Derived.Test.YtgaackedappmgaaDoorOa
import Derived.Test.YtgaackedappmgaaDoorProg
namespace Go.Proofs.YtgaackedappmgaaDoor.K
open Go.RowKit Go.Proofs.YtgaackedappmgaaDoorW.PrintWords Go.Proofs.YtgaackedappmgaaDoorW.PrintLast Go.Proofs.YtgaackedappmgaaDoorW.PrintMore
set_option linter.unusedVariables false
set_option linter.unusedSimpArgs false
set_option maxRecDepth 100000
theorem laidOut : laidOutB Tryd.prog = true := by kernel_rfl
theorem wf_i64 {a : Int} (h : (Lit.int .i64 a).wf = true) : -9223372036854775808 ≤ a ∧ a ≤ 9223372036854775807 := by have h' := h; simp only [Lit.wf, Bool.and_eq_true, decide_eq_true_eq] at h'; exact h'
theorem sum_len {α : Type} {bk : α → Nat} (xs : List α) (h : ∀ x ∈ xs, 1 ≤ bk x) : xs.length ≤ (xs.map bk).sum := by
  induction xs with
  | nil => simp
  | cons x xs ih => have := ih (fun y hy => h y (List.mem_cons_of_mem _ hy)); have := h x List.mem_cons_self; simp only [List.length_cons, List.map_cons, List.sum_cons]; omega
structure Instr where
  op : Int
  a : Int
end Go.Proofs.YtgaackedappmgaaDoor.K
