import Derived.Test.YtgaackedappmgaaDoorQd
import Derived.IntWalk
import Derived.BigQuiet
import Derived.Deep.RegionHeld3
namespace Go.Proofs.YtgaackedappmgaaDoor.K
open Go.RowKit Go.Proofs.YtgaackedappmgaaDoorW.PrintWords Go.Proofs.YtgaackedappmgaaDoorW.PrintLast Go.Proofs.YtgaackedappmgaaDoorW.PrintMore
set_option linter.unusedVariables false
set_option linter.unusedSimpArgs false
set_option maxRecDepth 100000
theorem raw_ownC {w : World} {g N : Nat} {rs : List QR} {r : QR} (h : Kd.C kQR w (some ⟨g, 0, none⟩) N rs) (i : Nat) (hi : i < N) (hr : rs[i]? = some r) : w.cell? ⟨g, i * 5, none⟩ = some (.string r.name) ∧
    w.cell? ⟨g, i * 5 + 1, none⟩ = some (.int .i64 r.pars) ∧ w.cell? ⟨g, i * 5 + 2, none⟩ = some (.int .i64 r.locs) ∧ w.cell? ⟨g, i * 5 + 3, none⟩ = some (.slice r.code.1 r.code.2.1 r.code.2.2) ∧ w.cell? ⟨g, i * 5 + 4, none⟩ = some (.slice r.hnd.1 r.hnd.2.1 r.hnd.2.2) := by
  obtain ⟨ad, q, e1, e2, g0, g1, g2, g3, g4⟩ := raw_at h i hi
  injection e1 with e1
  subst e1
  rw [hr] at e2
  injection e2 with e2
  subst e2
  rw [add_plain] at g0 g1 g2 g3 g4
  exact ⟨g0, g1, g2, g3, g4⟩
theorem C_head {α : Type} {d : Kd α} {w : World} {A : Option Addr} {n : Nat} {a b : List α} (h : d.C w A n (a ++ b)) : d.C w A a.length a := by
  have h0 := h.1
  subst h0
  have := Kd.C_take (m := a.length) h (by rw [List.length_append]; omega)
  rw [List.take_append_of_le_length (Nat.le_refl _), List.take_length] at this
  exact this
set_option maxHeartbeats 4000000
end Go.Proofs.YtgaackedappmgaaDoor.K
