import Derived.Test.YtgaackedappmgaaDoorQd
import Derived.IntWalk
import Derived.BigQuiet
import Derived.Deep.RegionHeld3
namespace Go.Proofs.YtgaackedappmgaaDoor.K
open Go.RowKit Go.Proofs.YtgaackedappmgaaDoorW.PrintWords Go.Proofs.YtgaackedappmgaaDoorW.PrintLast Go.Proofs.YtgaackedappmgaaDoorW.PrintMore
set_option linter.unusedVariables false
set_option linter.unusedSimpArgs false
set_option maxRecDepth 100000
theorem kQC_own {w : World} {g n : Nat} {l : List QC} (h : Kd.C kQC w (some ⟨g, 0, none⟩) n l) (i : Nat) (h1 : i < n) : ∃ kd1 n1 t1, l[i]? = some ⟨kd1, n1, t1⟩ ∧ w.cell? ⟨g, i * 3, none⟩ = some (.int .i64 kd1) ∧
    w.cell? ⟨g, i * 3 + 1, none⟩ = some (.int .i64 n1) ∧ w.cell? ⟨g, i * 3 + 2, none⟩ = some (.string t1) := by
  obtain ⟨ad, a, b, c, e1, e2, x0, x1, x2⟩ := kQC_at h i h1
  injection e1 with e1
  subst e1
  rw [add_plain] at x0 x1 x2
  exact ⟨a, b, c, e2, x0, x1, x2⟩
theorem C_head {α : Type} {d : Kd α} {w : World} {A : Option Addr} {n : Nat} {a b : List α} (h : d.C w A n (a ++ b)) : d.C w A a.length a := by
  have h0 := h.1
  subst h0
  have := Kd.C_take (m := a.length) h (by rw [List.length_append]; omega)
  rw [List.take_append_of_le_length (Nat.le_refl _), List.take_length] at this
  exact this
set_option maxHeartbeats 4000000
end Go.Proofs.YtgaackedappmgaaDoor.K
