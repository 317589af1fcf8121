import Derived.Test.YtbheebcjbolboaaOa
import Derived.Test.YtbheebcjbolboaaProg
namespace Go.Proofs.Ytbheebcjbolboaa.K
open Go.RowKit Go.Proofs.YtbheebcjbolboaaW.PrintWords Go.Proofs.YtbheebcjbolboaaW.PrintLast Go.Proofs.YtbheebcjbolboaaW.PrintMore
set_option linter.unusedVariables false
set_option linter.unusedSimpArgs false
set_option maxRecDepth 100000

theorem laidOut : laidOutB Try.prog = true := by kernel_rfl
theorem wf_u64 {a : Int} (h : (Lit.int .u64 a).wf = true) : 0 ≤ a ∧ a ≤ 18446744073709551615 := by have h' := h; simp only [Lit.wf, Bool.and_eq_true, decide_eq_true_eq] at h'; exact h'
theorem wf_i64 {a : Int} (h : (Lit.int .i64 a).wf = true) : -9223372036854775808 ≤ a ∧ a ≤ 9223372036854775807 := by have h' := h; simp only [Lit.wf, Bool.and_eq_true, decide_eq_true_eq] at h'; exact h'
theorem wf_u8 {a : Int} (h : (Lit.int .u8 a).wf = true) : 0 ≤ a ∧ a ≤ 255 := by have h' := h; simp only [Lit.wf, Bool.and_eq_true, decide_eq_true_eq] at h'; exact h'
theorem sum_len {α : Type} {bk : α → Nat} (xs : List α) (h : ∀ x ∈ xs, 1 ≤ bk x) : xs.length ≤ (xs.map bk).sum := by
  induction xs with
  | nil => simp
  | cons x xs ih => have := ih (fun y hy => h y (List.mem_cons_of_mem _ hy)); have := h x List.mem_cons_self; simp only [List.length_cons, List.map_cons, List.sum_cons]; omega
theorem opens_bytes : Opens Try.prog 25 (Kd.slice 5 (Kd.int .u8)) (fun xs => xs.length * 1 ≤ reachBytes ∧ ∀ x ∈ xs, (Lit.int .u8 x).wf = true) (fun xs => xs.length + 1) := (Opens.slice Try.underlying25 (by kernel_rfl) (by kernel_rfl) (Opens.int Try.underlying5 (by kernel_rfl))).imp (fun _ h => h) (fun xs => by have := sum_len (bk := fun _ : Int => 1) xs (fun _ _ => Nat.le_refl _); omega)
theorem opens_ints : Opens Try.prog 59 (Kd.slice 3 (Kd.int .i64)) (fun xs => xs.length * 8 ≤ reachBytes ∧ ∀ x ∈ xs, (Lit.int .i64 x).wf = true) (fun xs => xs.length + 1) := (Opens.slice Try.underlying59 (by kernel_rfl) (by kernel_rfl) (Opens.int Try.underlying3 (by kernel_rfl))).imp (fun _ h => h) (fun xs => by have := sum_len (bk := fun _ : Int => 1) xs (fun _ _ => Nat.le_refl _); omega)
structure Put where
  on : Int
  kind : Int
  x : Int
  s : ByteArray
def kPut : Kd Put := Kd.iso (Kd.pair (Kd.int .i64) (Kd.pair (Kd.int .i64) (Kd.pair (Kd.int .u64) Kd.string))) (fun p => (p.on, (p.kind, (p.x, p.s))))
theorem opens_put : Opens Try.prog 29 kPut (fun p => (Lit.int .i64 p.on).wf = true ∧ ((Lit.int .i64 p.kind).wf = true ∧ ((Lit.int .u64 p.x).wf = true ∧ (p.s.size ≤ 140737488351232)))) (fun p => 1 + 1 + 1 + 1 + (p.s.size + 1)) :=
  (Opens.iso (β := Put) (Opens.struct Try.underlying29 (by kernel_rfl) (OpensF.cons (Opens.int Try.underlying3 (by kernel_rfl)) (OpensF.cons (Opens.int Try.underlying3 (by kernel_rfl)) (OpensF.cons (Opens.int Try.underlying22 (by kernel_rfl)) (OpensF.one (Opens.string Try.underlying9 (by kernel_rfl))))))) (fun p => (p.on, (p.kind, (p.x, p.s)))) (fun p => ⟨p.1, p.2.1, p.2.2.1, p.2.2.2⟩) (fun _ => rfl)).imp (fun _ h => h) (fun _ => by first | omega | (dsimp only; omega))
theorem kPut_K (w : World) (p : Put) (cs : List Value) : kPut.K w p cs ↔ cs = [.int .i64 p.on, .int .i64 p.kind, .int .u64 p.x, .string p.s] := by
  constructor
  · rintro ⟨_, _, rfl, rfl, ⟨_, _, rfl, rfl, ⟨_, _, rfl, rfl, rfl⟩⟩⟩; rfl
  · rintro rfl; exact ⟨[_], _, rfl, rfl, ⟨[_], _, rfl, rfl, ⟨[_], _, rfl, rfl, rfl⟩⟩⟩
theorem kPut_M (w : World) (base : Nat) (ok : Nat → Prop) (p : Put) : kPut.M w base ok p [.int .i64 p.on, .int .i64 p.kind, .int .u64 p.x, .string p.s] := ⟨[_], _, rfl, rfl, ⟨[_], _, rfl, rfl, ⟨[_], _, rfl, rfl, rfl⟩⟩⟩
structure Get where
  on : Int
  kind : Int
  n : Int
def kGet : Kd Get := Kd.iso (Kd.pair (Kd.int .i64) (Kd.pair (Kd.int .i64) (Kd.int .i64))) (fun p => (p.on, (p.kind, p.n)))
theorem opens_get : Opens Try.prog 40 kGet (fun p => (Lit.int .i64 p.on).wf = true ∧ ((Lit.int .i64 p.kind).wf = true ∧ ((Lit.int .i64 p.n).wf = true))) (fun p => 1 + 1 + 1 + 1) :=
  (Opens.iso (β := Get) (Opens.struct Try.underlying40 (by kernel_rfl) (OpensF.cons (Opens.int Try.underlying3 (by kernel_rfl)) (OpensF.cons (Opens.int Try.underlying3 (by kernel_rfl)) (OpensF.one (Opens.int Try.underlying3 (by kernel_rfl)))))) (fun p => (p.on, (p.kind, p.n))) (fun p => ⟨p.1, p.2.1, p.2.2⟩) (fun _ => rfl)).imp (fun _ h => h) (fun _ => by first | omega | (dsimp only; omega))
theorem kGet_K (w : World) (p : Get) (cs : List Value) : kGet.K w p cs ↔ cs = [.int .i64 p.on, .int .i64 p.kind, .int .i64 p.n] := by
  constructor
  · rintro ⟨_, _, rfl, rfl, ⟨_, _, rfl, rfl, rfl⟩⟩; rfl
  · rintro rfl; exact ⟨[_], _, rfl, rfl, ⟨[_], _, rfl, rfl, rfl⟩⟩
theorem kGet_M (w : World) (base : Nat) (ok : Nat → Prop) (p : Get) : kGet.M w base ok p [.int .i64 p.on, .int .i64 p.kind, .int .i64 p.n] := ⟨[_], _, rfl, rfl, ⟨[_], _, rfl, rfl, rfl⟩⟩
theorem opens_gets : Opens Try.prog 32 (Kd.slice 40 kGet) (fun xs => xs.length * 24 ≤ reachBytes ∧ ∀ p ∈ xs, (Lit.int .i64 p.on).wf = true ∧ ((Lit.int .i64 p.kind).wf = true ∧ ((Lit.int .i64 p.n).wf = true))) (fun xs => xs.length + 1) := (Opens.slice Try.underlying32 (by kernel_rfl) (by kernel_rfl) opens_get).imp (fun _ h => h) (fun xs => by have := sum_len (bk := fun p : Get => 1 + 1 + 1 + 1) xs (fun _ _ => by omega); omega)