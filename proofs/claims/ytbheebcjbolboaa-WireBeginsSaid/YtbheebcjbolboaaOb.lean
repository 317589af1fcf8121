import Derived.Test.YtbheebcjbolboaaOa
import Derived.Test.YtbheebcjbolboaaProg
namespace Go.Proofs.Ytbheebcjbolboaa.K
open Go.RowKit Go.Proofs.YtbheebcjbolboaaW.PrintWords Go.Proofs.YtbheebcjbolboaaW.PrintLast Go.Proofs.YtbheebcjbolboaaW.PrintMore
set_option linter.unusedVariables false
set_option linter.unusedSimpArgs false
set_option maxRecDepth 100000

theorem laidOut : laidOutB Try.prog = true := by kernel_rfl
theorem wf_u64 {a : Int} (h : (Lit.int .u64 a).wf = true) : 0 ≤ a ∧ a ≤ 18446744073709551615 := by have h' := h; simp only [Lit.wf, Bool.and_eq_true, decide_eq_true_eq] at h'; exact h'
theorem wf_i64 {a : Int} (h : (Lit.int .i64 a).wf = true) : -9223372036854775808 ≤ a ∧ a ≤ 9223372036854775807 := by have h' := h; simp only [Lit.wf, Bool.and_eq_true, decide_eq_true_eq] at h'; exact h'
theorem wf_u8 {a : Int} (h : (Lit.int .u8 a).wf = true) : 0 ≤ a ∧ a ≤ 255 := by have h' := h; simp only [Lit.wf, Bool.and_eq_true, decide_eq_true_eq] at h'; exact h'
theorem opens_bytes : Opens Try.prog 25 (Kd.slice 5 (Kd.int .u8)) (fun xs => xs.length * 1 ≤ reachBytes ∧ ∀ x ∈ xs, (Lit.int .u8 x).wf = true) := Opens.slice Try.underlying25 (by kernel_rfl) (by kernel_rfl) (Opens.int Try.underlying5 (by kernel_rfl))
structure Put where
  on : Int
  kind : Int
  x : Int
  s : ByteArray
def kPut : Kd Put := Kd.iso (Kd.pair (Kd.int .i64) (Kd.pair (Kd.int .i64) (Kd.pair (Kd.int .u64) Kd.string))) (fun p => (p.on, (p.kind, (p.x, p.s))))
theorem opens_put : Opens Try.prog 29 kPut (fun p => (Lit.int .i64 p.on).wf = true ∧ ((Lit.int .i64 p.kind).wf = true ∧ ((Lit.int .u64 p.x).wf = true ∧ (p.s.size ≤ 140737488351232)))) :=
  (Opens.iso (β := Put) (Opens.struct Try.underlying29 (by kernel_rfl) (OpensF.cons (Opens.int Try.underlying3 (by kernel_rfl)) (OpensF.cons (Opens.int Try.underlying3 (by kernel_rfl)) (OpensF.cons (Opens.int Try.underlying22 (by kernel_rfl)) (OpensF.one (Opens.string Try.underlying9 (by kernel_rfl))))))) (fun p => (p.on, (p.kind, (p.x, p.s)))) (fun p => ⟨p.1, p.2.1, p.2.2.1, p.2.2.2⟩) (fun _ => rfl)).imp (fun _ h => h)
theorem kPut_K (w : World) (p : Put) (cs : List Value) : kPut.K w p cs ↔ cs = [.int .i64 p.on, .int .i64 p.kind, .int .u64 p.x, .string p.s] := by
  constructor
  · rintro ⟨_, _, rfl, rfl, ⟨_, _, rfl, rfl, ⟨_, _, rfl, rfl, rfl⟩⟩⟩; rfl
  · rintro rfl; exact ⟨[_], _, rfl, rfl, ⟨[_], _, rfl, rfl, ⟨[_], _, rfl, rfl, rfl⟩⟩⟩
end Go.Proofs.Ytbheebcjbolboaa.K
