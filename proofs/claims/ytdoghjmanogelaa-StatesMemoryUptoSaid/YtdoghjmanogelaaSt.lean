import Derived.Test.YtdoghjmanogelaaSg
namespace Go.Proofs.Ytdoghjmanogelaa.K
open Go.RowKit Go.Proofs.YtdoghjmanogelaaW.PrintWords Go.Proofs.YtdoghjmanogelaaW.PrintLast Go.Proofs.YtdoghjmanogelaaW.PrintMore
set_option linter.unusedVariables false
set_option linter.unusedSimpArgs false
set_option maxRecDepth 100000
theorem rowsB_len (l : List QB) : (rowsB l).length + l.length ≤ (l.map (fun b => (b.frames.map (fun f => f.slots.length + 1)).sum + 1)).sum := by
  induction l with
  | nil => simp [rowsB]
  | cons b l ih =>
    have h := sum_len (bk := fun f : QFr => f.slots.length + 1) b.frames (fun _ _ => by omega)
    have e : (rowsB (b :: l)).length = b.frames.length + (rowsB l).length := by simp [rowsB]
    rw [e, List.map_cons, List.sum_cons, List.length_cons]
    omega
theorem state_small {s : QS} (h : s.texts.length + (s.objs.map (fun x => x.items.length + x.keys.length + 1)).sum + (s.fibers.map (fun b => (b.frames.map (fun f => f.slots.length + 1)).sum + 1)).sum ≤ 1048576) : SSmall s ∧ (rowsS s).length ≤ 1048576 := by
  have h1 := sum_len (bk := fun x : QO => x.items.length + x.keys.length + 1) s.objs (fun _ _ => by omega)
  have h2 := rowsB_len s.fibers
  refine ⟨⟨by omega, by omega, by omega, fun x hx => ?_, fun b hb => ?_⟩, by rw [rowsS, List.length_append, List.length_map]; omega⟩
  · have h3 := sum_mem (bk := fun x : QO => x.items.length + x.keys.length + 1) hx
    constructor <;> omega
  · have h3 := sum_mem (bk := fun b : QB => (b.frames.map (fun f => f.slots.length + 1)).sum + 1) hb
    have h4 := sum_len (bk := fun f : QFr => f.slots.length + 1) b.frames (fun _ _ => by omega)
    refine ⟨by omega, fun f hf => ?_⟩
    have h5 := sum_mem (bk := fun f : QFr => f.slots.length + 1) hf
    omega
end Go.Proofs.Ytdoghjmanogelaa.K
