import Derived.Test.YtgaackedappmgaaDoorYc
import Derived.IntWalk
import Derived.BigQuiet
namespace Go.Proofs.YtgaackedappmgaaDoor.K
open Go.RowKit Go.Proofs.YtgaackedappmgaaDoorW.PrintWords Go.Proofs.YtgaackedappmgaaDoorW.PrintLast Go.Proofs.YtgaackedappmgaaDoorW.PrintMore
set_option linter.unusedVariables false
set_option linter.unusedSimpArgs false
set_option maxRecDepth 100000
set_option maxHeartbeats 4000000
theorem ref_handler (w : World) (a b t g n : Int) :
    Calls Tryd.prog 39 #[.agg #[.int .i64 a, .int .i64 b, .int .i64 t, .int .i64 g], .int .i64 n] w fun e w' => e = .returned (.bool (handlerQ ⟨a, b, t, g⟩ n)) ∧ Chg (fun _ => False) w w' := by
  go_enter Tryd.func39, Tryd.ntmps39
  go_upto_region 1 with (fail)
  (try simp only [Act.put, List.setIfInBounds_toArray, List.set_cons_zero, List.set_cons_succ])
  generalize hW : World.alloc w _ = W0
  have B1 : Aside0 (W0.heap[w.heap.size]? = some (.cells #[.int .i64 a, .int .i64 b, .int .i64 t, .int .i64 g] 54)) := ⟨by rw [← hW]; exact heap_alloc_new w _⟩
  have hz0 : Aside0 (Chg (fun _ => False) w W0) := ⟨by rw [← hW]; exact cg⟩
  clear hW
  have p0 : W0.cell? ⟨w.heap.size, 0, none⟩ = some (.int .i64 a) := blk_cell B1.out 0
  have p1 : W0.cell? ⟨w.heap.size, 1, none⟩ = some (.int .i64 b) := blk_cell B1.out 1
  have p2 : W0.cell? ⟨w.heap.size, 2, none⟩ = some (.int .i64 t) := blk_cell B1.out 2
  have p3 : W0.cell? ⟨w.heap.size, 3, none⟩ = some (.int .i64 g) := blk_cell B1.out 3
  by_cases c0 : (0 : Int) ≤ a
  · skip
    by_cases c1 : a < b
    · skip
      by_cases c2 : b ≤ n
      · skip
        by_cases c3 : (0 : Int) ≤ t
        · skip
          by_cases c4 : t < n
          · skip
            by_cases c5 : (0 : Int) ≤ g
            · skip
              by_cases c6 : g < 64
              · skip
                have he : Aside0 (handlerQ ⟨a, b, t, g⟩ n = true) := ⟨by simp [handlerQ, c0, c1, c2, c3, c4, c5, c6]⟩
                go_wp2
                go_ret
                exact ⟨by (rw [he.out]) <;> rfl, hz0.out⟩
              · skip
                have he : Aside0 (handlerQ ⟨a, b, t, g⟩ n = false) := ⟨by simp [handlerQ, c0, c1, c2, c3, c4, c5, c6]⟩
                go_wp2
                go_ret
                exact ⟨by (rw [he.out]) <;> rfl, hz0.out⟩
            · skip
              have he : Aside0 (handlerQ ⟨a, b, t, g⟩ n = false) := ⟨by simp [handlerQ, c0, c1, c2, c3, c4, c5]⟩
              go_wp2
              go_ret
              exact ⟨by (rw [he.out]) <;> rfl, hz0.out⟩
          · skip
            have he : Aside0 (handlerQ ⟨a, b, t, g⟩ n = false) := ⟨by simp [handlerQ, c0, c1, c2, c3, c4]⟩
            go_wp2
            go_ret
            exact ⟨by (rw [he.out]) <;> rfl, hz0.out⟩
        · skip
          have he : Aside0 (handlerQ ⟨a, b, t, g⟩ n = false) := ⟨by simp [handlerQ, c0, c1, c2, c3]⟩
          go_wp2
          go_ret
          exact ⟨by (rw [he.out]) <;> rfl, hz0.out⟩
      · skip
        have he : Aside0 (handlerQ ⟨a, b, t, g⟩ n = false) := ⟨by simp [handlerQ, c0, c1, c2]⟩
        go_wp2
        go_ret
        exact ⟨by (rw [he.out]) <;> rfl, hz0.out⟩
    · skip
      have he : Aside0 (handlerQ ⟨a, b, t, g⟩ n = false) := ⟨by simp [handlerQ, c0, c1]⟩
      go_wp2
      go_ret
      exact ⟨by (rw [he.out]) <;> rfl, hz0.out⟩
  · skip
    have he : Aside0 (handlerQ ⟨a, b, t, g⟩ n = false) := ⟨by simp [handlerQ, c0]⟩
    go_wp2
    go_ret
    exact ⟨by (rw [he.out]) <;> rfl, hz0.out⟩
end Go.Proofs.YtgaackedappmgaaDoor.K
