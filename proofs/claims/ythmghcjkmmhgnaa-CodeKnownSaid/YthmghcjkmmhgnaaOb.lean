import Derived.Test.YthmghcjkmmhgnaaOa
import Derived.Test.YthmghcjkmmhgnaaProg
namespace Go.Proofs.Ythmghcjkmmhgnaa.K
open Go.RowKit Go.Proofs.YthmghcjkmmhgnaaW.PrintWords Go.Proofs.YthmghcjkmmhgnaaW.PrintLast Go.Proofs.YthmghcjkmmhgnaaW.PrintMore
set_option linter.unusedVariables false
set_option linter.unusedSimpArgs false
set_option maxRecDepth 100000

theorem laidOut : laidOutB Try.prog = true := by kernel_rfl
theorem wf_u64 {a : Int} (h : (Lit.int .u64 a).wf = true) : 0 ≤ a ∧ a ≤ 18446744073709551615 := by have h' := h; simp only [Lit.wf, Bool.and_eq_true, decide_eq_true_eq] at h'; exact h'
theorem wf_i64 {a : Int} (h : (Lit.int .i64 a).wf = true) : -9223372036854775808 ≤ a ∧ a ≤ 9223372036854775807 := by have h' := h; simp only [Lit.wf, Bool.and_eq_true, decide_eq_true_eq] at h'; exact h'
theorem wf_u8 {a : Int} (h : (Lit.int .u8 a).wf = true) : 0 ≤ a ∧ a ≤ 255 := by have h' := h; simp only [Lit.wf, Bool.and_eq_true, decide_eq_true_eq] at h'; exact h'
theorem sum_len {α : Type} {bk : α → Nat} (xs : List α) (h : ∀ x ∈ xs, 1 ≤ bk x) : xs.length ≤ (xs.map bk).sum := by
  induction xs with
  | nil => simp
  | cons x xs ih => have := ih (fun y hy => h y (List.mem_cons_of_mem _ hy)); have := h x List.mem_cons_self; simp only [List.length_cons, List.map_cons, List.sum_cons]; omega
theorem opens_bytes : Opens Try.prog 43 (Kd.slice 5 (Kd.int .u8)) (fun xs => xs.length * 1 ≤ reachBytes ∧ ∀ x ∈ xs, (Lit.int .u8 x).wf = true) (fun xs => xs.length + 1) := (Opens.slice Try.underlying43 (by kernel_rfl) (by kernel_rfl) (Opens.int Try.underlying5 (by kernel_rfl))).imp (fun _ h => h) (fun xs => by have := sum_len (bk := fun _ : Int => 1) xs (fun _ _ => Nat.le_refl _); omega)
structure Instr where
  op : Int
  a : Int
def kInstr : Kd Instr := Kd.iso (Kd.pair (Kd.int .i64) (Kd.int .i64)) (fun p => (p.op, p.a))
theorem opens_instr : Opens Try.prog 35 kInstr (fun p => (Lit.int .i64 p.op).wf = true ∧ ((Lit.int .i64 p.a).wf = true)) (fun p => 1 + 1 + 1) :=
  (Opens.iso (β := Instr) (Opens.struct Try.underlying35 (by kernel_rfl) (OpensF.cons (Opens.int Try.underlying3 (by kernel_rfl)) (OpensF.one (Opens.int Try.underlying2 (by kernel_rfl))))) (fun p => (p.op, p.a)) (fun p => ⟨p.1, p.2⟩) (fun _ => rfl)).imp (fun _ h => h) (fun _ => by first | omega | (dsimp only; omega))
theorem kInstr_K (w : World) (p : Instr) (cs : List Value) : kInstr.K w p cs ↔ cs = [.int .i64 p.op, .int .i64 p.a] := by
  constructor
  · rintro ⟨_, _, rfl, rfl, rfl⟩; rfl
  · rintro rfl; exact ⟨[_], _, rfl, rfl, rfl⟩
theorem kInstr_M (w : World) (base : Nat) (ok : Nat → Prop) (p : Instr) : kInstr.M w base ok p [.int .i64 p.op, .int .i64 p.a] := ⟨[_], _, rfl, rfl, rfl⟩
theorem opens_instrs : Opens Try.prog 22 (Kd.slice 35 kInstr) (fun xs => xs.length * 16 ≤ reachBytes ∧ ∀ p ∈ xs, (Lit.int .i64 p.op).wf = true ∧ (Lit.int .i64 p.a).wf = true) (fun xs => xs.length + 1) := (Opens.slice Try.underlying22 (by kernel_rfl) (by kernel_rfl) opens_instr).imp (fun _ h => h) (fun xs => by have := sum_len (bk := fun p : Instr => 1 + 1 + 1) xs (fun _ _ => by omega); omega)
end Go.Proofs.Ythmghcjkmmhgnaa.K
