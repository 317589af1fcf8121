import Derived.Test.YtdoghjmanogelaaKa
import Derived.IntWalk
import Derived.BigQuiet
namespace Go.Proofs.Ytdoghjmanogelaa.K
open Go.RowKit Go.Proofs.YtdoghjmanogelaaW.PrintWords Go.Proofs.YtdoghjmanogelaaW.PrintLast Go.Proofs.YtdoghjmanogelaaW.PrintMore
set_option linter.unusedVariables false
set_option linter.unusedSimpArgs false
theorem cg {a b : World} (h : Chg (fun _ => False) a b := by
    with_reducible repeat (first | exact Chg.refl _ _ | exact Aside0.out (by assumption) | apply Chg.drewN | apply Chg.drew | apply Chg.alloc | refine Chg.trans ?_ (Aside0.out (by assumption)) (fun _ _ h => h))) : Chg (fun _ => False) a b := h
theorem bl {a b : World} (h : Chg (fun _ => False) a b := by exact cg) : Below a.heap.size a b := h.below (fun _ _ h => h)
theorem C_chg0 {α : Type} {d : Kd α} {A : Option Addr} {n : Nat} {xs : List α} {w w' : World} (h : Aside0 (d.C w A n xs)) (hb : Chg (fun _ => False) w w') : d.C w' A n xs := Kd.C_below h.out (hb.below (fun _ _ h => h))
theorem cC {α : Type} {d : Kd α} {w : World} {A : Option Addr} {n : Nat} {xs : List α} (h : d.C w A n xs := by
    first | (with_reducible exact Aside0.out (by assumption)) | (with_reducible refine C_chg0 (by assumption) ?_; exact cg)) : d.C w A n xs := h
theorem cell_chg0 {w w' : World} {p : Addr} {v : Value} (h : w.cell? p = some v) (hc : Chg (fun _ => False) w w') : w'.cell? p = some v := by
  have hb := World.block_lt_of_cell? w p h
  have hk := hc.block p.block hb (fun h => h)
  simpa [World.cell?, hk] using h
theorem blk_chg0 {w w' : World} {g : Nat} {o : Obj} (h : Aside0 (w.heap[g]? = some o)) (hc : Chg (fun _ => False) w w') : w'.heap[g]? = some o := hc.blk h.out (fun h => h)
theorem bk {w : World} {g : Nat} {o : Obj} (h : w.heap[g]? = some o := by
    first | (with_reducible exact Aside0.out (by assumption)) | (with_reducible refine blk_chg0 (by assumption) ?_; exact cg)) : w.heap[g]? = some o := h
theorem kc {w : World} {p : Addr} {v : Value} (h : w.cell? p = some v := by
    first | assumption | (with_reducible refine cell_chg0 (by assumption) ?_; exact cg)) : w.cell? p = some v := h
theorem heap_al3 (w : World) (A B C : Obj) : (((w.alloc A).alloc B).alloc C).heap[w.heap.size + 1 + 1]? = some C := by
  have := heap_alloc_new ((w.alloc A).alloc B) C
  simpa using this
theorem heap_al4 (w : World) (A B C D : Obj) : ((((w.alloc A).alloc B).alloc C).alloc D).heap[w.heap.size + 1 + 1 + 1]? = some D := by
  have := heap_alloc_new (((w.alloc A).alloc B).alloc C) D
  simpa using this
theorem heap_al5 (w : World) (A B C D E : Obj) : (((((w.alloc A).alloc B).alloc C).alloc D).alloc E).heap[w.heap.size + 1 + 1 + 1 + 1]? = some E := by
  have := heap_alloc_new ((((w.alloc A).alloc B).alloc C).alloc D) E
  simpa using this
end Go.Proofs.Ytdoghjmanogelaa.K
