import Derived.Test.YtgaackedappmgaaDoorBe
import Derived.Test.YtgaackedappmgaaDoorQh
namespace Go.Proofs.YtgaackedappmgaaDoor.K
open Go.RowKit Go.Proofs.YtgaackedappmgaaDoorW.PrintWords Go.Proofs.YtgaackedappmgaaDoorW.PrintLast Go.Proofs.YtgaackedappmgaaDoorW.PrintMore
set_option linter.unusedVariables false
set_option linter.unusedSimpArgs false
set_option maxRecDepth 100000
structure QG where
  i : Int
  name : ByteArray
  c : QC
def kQG : Kd QG := Kd.iso (Kd.pair (Kd.int .i64) (Kd.pair Kd.string kQC)) (fun p => (p.i, p.name, p.c))
def okQG (p : QG) : Prop := (Lit.int .i64 p.i).wf = true ∧ (p.name.size ≤ 140737488351232 ∧ okQC p.c)
theorem kQG_K (w : World) (p : QG) (cs : List Value) : kQG.K w p cs ↔ cs = [.int .i64 p.i, .string p.name, .int .i64 p.c.kind, .int .i64 p.c.n, .string p.c.text] := by
  constructor
  · rintro ⟨_, _, rfl, rfl, _, _, rfl, rfl, h⟩
    rw [(kQC_K _ _ _).1 h]
    rfl
  · rintro rfl; exact ⟨[_], _, rfl, rfl, [_], _, rfl, rfl, (kQC_K _ _ _).2 rfl⟩
theorem opens_QG : Opens Tryd.prog 52 kQG okQG (fun p => 1) :=
  (Opens.iso (β := QG) (Opens.struct Tryd.underlying52 (by kernel_rfl) (OpensF.cons (Opens.int Tryd.underlying3 (by kernel_rfl)) (OpensF.cons (Opens.string Tryd.underlying9 (by kernel_rfl)) (OpensF.one opens_QC)))) (fun p => (p.i, p.name, p.c)) (fun p => ⟨p.1, p.2.1, p.2.2⟩) (fun _ => rfl)).imp (fun _ h => h) (fun p => by first | omega | (dsimp only; omega))
end Go.Proofs.YtgaackedappmgaaDoor.K
