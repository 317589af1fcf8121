import Derived.Test.YtgaackedappmgaaDoorGu
import Derived.IntWalk
import Derived.BigQuiet
namespace Go.Proofs.YtgaackedappmgaaDoor.K
open Go.RowKit Go.Proofs.YtgaackedappmgaaDoorW.PrintWords Go.Proofs.YtgaackedappmgaaDoorW.PrintLast Go.Proofs.YtgaackedappmgaaDoorW.PrintMore
set_option linter.unusedVariables false
set_option linter.unusedSimpArgs false
set_option maxRecDepth 100000
theorem oq_putI {w : World} {lo gI n c m : Nat} {xs : List QI} {y : QI} (h : Oq kQI 50 w lo (some ⟨gI, 0, none⟩, n, c) xs) (hm : xs[m]? = some y) (x : QI) : Oq kQI 50 ((w.setCell ⟨gI, m * 2, none⟩ (.int .i64 x.op)).setCell ⟨gI, m * 2 + 1, none⟩ (.int .i64 x.a)) lo (some ⟨gI, 0, none⟩, n, c) (xs.set m x) := by
  have hk := (List.getElem?_eq_some_iff.1 hm).1
  have h1 := Oq.put (cells := ciQI) (m := 2) (j := 0) (r' := ⟨x.op, y.a⟩) (u := .int .i64 x.op) kQI_K kQI_M rfl h hm rfl (by decide)
  have h2 := Oq.put (cells := ciQI) (i := m) (m := 2) (j := 1) (r := ⟨x.op, y.a⟩) (r' := x) (u := .int .i64 x.a) kQI_K kQI_M rfl h1 (by rw [List.getElem?_set, if_pos rfl, if_pos hk]) rfl (by decide)
  simp only [List.set_set] at h2
  exact h2
theorem kQI_own {w : World} {g n : Nat} {l : List QI} (h : Kd.C kQI w (some ⟨g, 0, none⟩) n l) (i : Nat) (h1 : i < n) : ∃ a b, l[i]? = some ⟨a, b⟩ ∧ w.cell? ⟨g, i * 2, none⟩ = some (.int .i64 a) ∧ w.cell? ⟨g, i * 2 + 1, none⟩ = some (.int .i64 b) := by
  obtain ⟨ad, a, b, e1, e2, x0, x1⟩ := kQI_at h i h1
  injection e1 with e1
  subst e1
  rw [add_plain] at x0 x1
  exact ⟨a, b, e2, x0, x1⟩
set_option maxHeartbeats 16000000
end Go.Proofs.YtgaackedappmgaaDoor.K
