import Derived.Test.YtknboapnpccliaaRb
namespace Go.Proofs.Ytknboapnpccliaa.K
open Go.RowKit Go.Proofs.YtknboapnpccliaaW.PrintWords Go.Proofs.YtknboapnpccliaaW.PrintLast Go.Proofs.YtknboapnpccliaaW.PrintMore
set_option linter.unusedVariables false
set_option linter.unusedSimpArgs false
set_option maxRecDepth 100000

/-- How a method that reads ends. -/
def ResM {α : Type} (enc : α → Value) (w : World) (F : Nat → Prop) (g : Nat) (bs : List Int) (r : α × Nat × Int) (e : Ending) (w' : World) : Prop :=
  e = .returned (enc r.1) ∧ Rd w' F g bs r.2.1 r.2.2 ∧ Chg (fun k => k = g) w w'
theorem Rd.zero {w w1 w2 : World} {F : Nat → Prop} {g i j : Nat} {bs : List Int} {err c : Int} (h : Rd w F g bs i err) (hc : Chg (fun k => k = g) w w2)
    (hb : ∀ v0 v1 x, w1.heap[g]? = some (.cells #[v0, v1, .int .i64 x] 149 (0, 0)) → w2.heap[g]? = some (.cells #[v0, .int .i64 i, .int .i64 c] 149 (0, 0)))
    (h1 : ∃ x y, ∀ A C, w.heap[g]? = some (.cells #[.slice A bs.length C, .int .i64 i, .int .i64 err] 149 (0, 0)) → w1.heap[g]? = some (.cells #[.slice A bs.length C, x, .int .i64 y] 149 (0, 0))) : Rd w2 F g bs i c := by
  obtain ⟨A, C, h0, hg, hi, hl, h3, hr⟩ := h
  obtain ⟨x, y, h1⟩ := h1
  exact ⟨A, C, hb _ _ _ (h1 A C h0), hg, hi, hl, h3, R_chg hr hc (fun k hk ho e => ho.2 e)⟩
theorem mkfunc (fn : Fn) (first cap : Array Value) (w : World) : (Instr.makeFunc fn first cap).run Try.prog w = .ok (.func fn first cap) w := rfl

theorem heap_alloc_new2 (w : World) (a b : Obj) : ((w.alloc a).alloc b).heap[w.heap.size + 1]? = some b := by
  have := heap_alloc_new (w.alloc a) b
  simpa using this
theorem heap_alloc_old2 (w : World) (a b : Obj) : ((w.alloc a).alloc b).heap[w.heap.size]? = some a := by
  rw [heap_alloc_old (w.alloc a) b (by simp)]
  exact heap_alloc_new w a

end Go.Proofs.Ytknboapnpccliaa.K
