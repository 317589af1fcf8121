import Derived.Test.YtgaackedappmgaaDoorQa
import Derived.Test.YtgaackedappmgaaDoorOb
namespace Go.Proofs.YtgaackedappmgaaDoor.K
open Go.RowKit Go.Proofs.YtgaackedappmgaaDoorW.PrintWords Go.Proofs.YtgaackedappmgaaDoorW.PrintLast Go.Proofs.YtgaackedappmgaaDoorW.PrintMore
set_option linter.unusedVariables false
set_option linter.unusedSimpArgs false
set_option maxRecDepth 100000
def okQI (p : QI) : Prop := (Lit.int .i64 p.op).wf = true ∧ (Lit.int .i64 p.a).wf = true
def okQH (p : QH) : Prop := (Lit.int .i64 p.frm).wf = true ∧ ((Lit.int .i64 p.upto).wf = true ∧ ((Lit.int .i64 p.tgt).wf = true ∧ (Lit.int .i64 p.hgt).wf = true))
def okQC (p : QC) : Prop := (Lit.int .i64 p.kind).wf = true ∧ ((Lit.int .i64 p.n).wf = true ∧ p.text.size ≤ 140737488351232)
def okQF (p : QF) : Prop := p.name.size ≤ 140737488351232 ∧ ((Lit.int .i64 p.pars).wf = true ∧ ((Lit.int .i64 p.locs).wf = true ∧ ((p.code.length * 16 ≤ reachBytes ∧ ∀ x ∈ p.code, okQI x) ∧ (p.hnd.length * 32 ≤ reachBytes ∧ ∀ x ∈ p.hnd, okQH x))))
def okQP (p : QP) : Prop := (p.consts.length * 32 ≤ reachBytes ∧ ∀ x ∈ p.consts, okQC x) ∧ (p.funcs.length * 80 ≤ reachBytes ∧ ∀ x ∈ p.funcs, okQF x)
theorem opens_QI : Opens Tryd.prog 50 kQI okQI (fun p => 1) :=
  (Opens.iso (β := QI) (Opens.struct Tryd.underlying50 (by kernel_rfl) (OpensF.cons (Opens.int Tryd.underlying3 (by kernel_rfl)) (OpensF.one (Opens.int Tryd.underlying2 (by kernel_rfl))))) (fun p => (p.op, p.a)) (fun p => ⟨p.1, p.2⟩) (fun _ => rfl)).imp (fun _ h => h) (fun p => by first | omega | (dsimp only; omega))
theorem opens_QH : Opens Tryd.prog 54 kQH okQH (fun p => 1) :=
  (Opens.iso (β := QH) (Opens.struct Tryd.underlying54 (by kernel_rfl) (OpensF.cons (Opens.int Tryd.underlying3 (by kernel_rfl)) (OpensF.cons (Opens.int Tryd.underlying3 (by kernel_rfl)) (OpensF.cons (Opens.int Tryd.underlying3 (by kernel_rfl)) (OpensF.one (Opens.int Tryd.underlying3 (by kernel_rfl))))))) (fun p => (p.frm, p.upto, p.tgt, p.hgt)) (fun p => ⟨p.1, p.2.1, p.2.2.1, p.2.2.2⟩) (fun _ => rfl)).imp (fun _ h => h) (fun p => by first | omega | (dsimp only; omega))
theorem opens_QC : Opens Tryd.prog 39 kQC okQC (fun p => 1) :=
  (Opens.iso (β := QC) (Opens.struct Tryd.underlying39 (by kernel_rfl) (OpensF.cons (Opens.int Tryd.underlying3 (by kernel_rfl)) (OpensF.cons (Opens.int Tryd.underlying2 (by kernel_rfl)) (OpensF.one (Opens.string Tryd.underlying9 (by kernel_rfl)))))) (fun p => (p.kind, p.n, p.text)) (fun p => ⟨p.1, p.2.1, p.2.2⟩) (fun _ => rfl)).imp (fun _ h => h) (fun p => by first | omega | (dsimp only; omega))
theorem opens_QF : Opens Tryd.prog 47 kQF okQF (fun p => p.code.length + p.hnd.length + 1) :=
  (Opens.iso (β := QF) (Opens.struct Tryd.underlying47 (by kernel_rfl) (OpensF.cons (Opens.string Tryd.underlying9 (by kernel_rfl)) (OpensF.cons (Opens.int Tryd.underlying3 (by kernel_rfl)) (OpensF.cons (Opens.int Tryd.underlying3 (by kernel_rfl)) (OpensF.cons (Opens.slice Tryd.underlying44 (by kernel_rfl) (by kernel_rfl) opens_QI) (OpensF.one (Opens.slice Tryd.underlying45 (by kernel_rfl) (by kernel_rfl) opens_QH))))))) (fun p => (p.name, p.pars, p.locs, p.code, p.hnd)) (fun p => ⟨p.1, p.2.1, p.2.2.1, p.2.2.2.1, p.2.2.2.2⟩) (fun _ => rfl)).imp (fun _ h => h) (fun p => by have h1 := sum_len (bk := fun _ : QI => 1) p.code (fun _ _ => Nat.le_refl _); have h2 := sum_len (bk := fun _ : QH => 1) p.hnd (fun _ _ => Nat.le_refl _); first | omega | (dsimp only; omega))
theorem opens_QP : Opens Tryd.prog 25 kQP okQP (fun p => p.consts.length + (p.funcs.map (fun f => f.code.length + f.hnd.length + 1)).sum) :=
  (Opens.iso (β := QP) (Opens.struct Tryd.underlying25 (by kernel_rfl) (OpensF.cons (Opens.slice Tryd.underlying22 (by kernel_rfl) (by kernel_rfl) opens_QC) (OpensF.one (Opens.slice Tryd.underlying23 (by kernel_rfl) (by kernel_rfl) opens_QF)))) (fun p => (p.consts, p.funcs)) (fun p => ⟨p.1, p.2⟩) (fun _ => rfl)).imp (fun _ h => h) (fun p => by have h1 := sum_len (bk := fun _ : QC => 1) p.consts (fun _ _ => Nat.le_refl _); first | omega | (dsimp only; omega))
theorem sum_mem {α : Type} {bk : α → Nat} {xs : List α} {x : α} (h : x ∈ xs) : bk x ≤ (xs.map bk).sum := by
  induction xs with
  | nil => cases h
  | cons y ys ih =>
    simp only [List.map_cons, List.sum_cons]
    rcases List.mem_cons.1 h with rfl | h
    · omega
    · have := ih h
      omega
theorem prog_small {p : QP} (h : p.consts.length + (p.funcs.map (fun f => f.code.length + f.hnd.length + 1)).sum ≤ 1048576) : p.consts.length ≤ 1048576 ∧ p.funcs.length ≤ 1048576 ∧ ∀ f ∈ p.funcs, f.code.length ≤ 1048576 ∧ f.hnd.length ≤ 1048576 := by
  have h1 := sum_len (bk := fun f : QF => f.code.length + f.hnd.length + 1) p.funcs (fun _ _ => by omega)
  refine ⟨by omega, by omega, fun f hf => ?_⟩
  have h2 := sum_mem (bk := fun f : QF => f.code.length + f.hnd.length + 1) hf
  constructor <;> omega
theorem prog_arg {w : World} {p : QP} {cs : List Value} (h : kQP.K w p cs) : ∃ A c B d rs, cs = [.slice A p.consts.length c, .slice B p.funcs.length d] ∧ PV w A B p rs := by
  obtain ⟨A, c, B, d, e, _, _, h1, h2⟩ := kQP_K h
  obtain ⟨rs, h⟩ := PV.of h1 h2
  exact ⟨A, c, B, d, rs, e, h⟩
end Go.Proofs.YtgaackedappmgaaDoor.K
