import Derived.Test.YtdoghjmanogelaaOa
import Derived.Test.YtdoghjmanogelaaProg
namespace Go.Proofs.Ytdoghjmanogelaa.K
open Go.RowKit Go.Proofs.YtdoghjmanogelaaW.PrintWords Go.Proofs.YtdoghjmanogelaaW.PrintLast Go.Proofs.YtdoghjmanogelaaW.PrintMore
set_option linter.unusedVariables false
set_option linter.unusedSimpArgs false
set_option maxRecDepth 100000

theorem laidOut : laidOutB Try.prog = true := by kernel_rfl
theorem wf_u64 {a : Int} (h : (Lit.int .u64 a).wf = true) : 0 ≤ a ∧ a ≤ 18446744073709551615 := by have h' := h; simp only [Lit.wf, Bool.and_eq_true, decide_eq_true_eq] at h'; exact h'
theorem wf_i64 {a : Int} (h : (Lit.int .i64 a).wf = true) : -9223372036854775808 ≤ a ∧ a ≤ 9223372036854775807 := by have h' := h; simp only [Lit.wf, Bool.and_eq_true, decide_eq_true_eq] at h'; exact h'
theorem wf_u8 {a : Int} (h : (Lit.int .u8 a).wf = true) : 0 ≤ a ∧ a ≤ 255 := by have h' := h; simp only [Lit.wf, Bool.and_eq_true, decide_eq_true_eq] at h'; exact h'
theorem sum_len {α : Type} {bk : α → Nat} (xs : List α) (h : ∀ x ∈ xs, 1 ≤ bk x) : xs.length ≤ (xs.map bk).sum := by
  induction xs with
  | nil => simp
  | cons x xs ih => have := ih (fun y hy => h y (List.mem_cons_of_mem _ hy)); have := h x List.mem_cons_self; simp only [List.length_cons, List.map_cons, List.sum_cons]; omega
theorem opens_bytes : Opens Try.prog 73 (Kd.slice 5 (Kd.int .u8)) (fun xs => xs.length * 1 ≤ reachBytes ∧ ∀ x ∈ xs, (Lit.int .u8 x).wf = true) (fun xs => xs.length + 1) := (Opens.slice Try.underlying73 (by kernel_rfl) (by kernel_rfl) (Opens.int Try.underlying5 (by kernel_rfl))).imp (fun _ h => h) (fun xs => by have := sum_len (bk := fun _ : Int => 1) xs (fun _ _ => Nat.le_refl _); omega)