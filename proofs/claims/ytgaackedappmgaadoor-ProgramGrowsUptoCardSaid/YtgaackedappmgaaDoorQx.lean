import Derived.Test.YtgaackedappmgaaDoorQa
import Derived.IntWalk
import Derived.BigQuiet
import Derived.Laws.Rows
import Derived.Laws.Tables
namespace Go.Proofs.YtgaackedappmgaaDoor.K
open Go.RowKit Go.Proofs.YtgaackedappmgaaDoorW.PrintWords Go.Proofs.YtgaackedappmgaaDoorW.PrintLast Go.Proofs.YtgaackedappmgaaDoorW.PrintMore
set_option linter.unusedVariables false
set_option linter.unusedSimpArgs false
set_option maxRecDepth 100000
section
variable {P : Program} {ops : Array Oper} {o : Oper} {a : Act} {Q : Exit → Act → World → Prop} {Kc : Act → World → Prop} {α : Type}
theorem app1T (d : Kd α) {w W : World} {F : Nat → Prop} (hw : Region.wanted o (yielded ops a.tmps) = true) (s x : Operand) {t e : TypeId} {z : Value} {bytes : Nat}
    (ho : o.op = .call { callee := .builtin .append, args := #[s, x], argTypes := #[t, t] })
    (ht : P.underlying t = some (.slice e)) (hinfo : (P.info? e).map (fun i => (i.zero, i.size, i.bytes)) = some (some z, d.sz, bytes)) (hz : z.cells.size = d.sz) (hs0 : 0 < d.sz) (hb0 : 0 < bytes)
    {v : Value} {xs : List α} (p : α) {cs : List Value} (hs : a.eval s = v) (hx : a.eval x = .slice (some ⟨W.heap.size, 0, none⟩) 1 1) (hp : d.M W 0 (fun _ => False) p cs)
    (HO : Aside0 (d.R e W 0 (New F w W) v xs)) (HC : Aside0 (Chg F w W)) (hl : Aside0 ((xs.length + 1) * bytes ≤ 140737488355328))
    (h : ∀ v1 w1, Aside0 (d.R e w1 0 (New F w w1) v1 (xs ++ [p])) → Aside0 (Chg F w w1) → Kc (a.put o.dst v1) w1) :
    if Region.wanted o (yielded ops a.tmps) = true then Oper.wp P o a (W.alloc (.cells cs.toArray e)) Kc Q else Kc (a.put o.dst undef) (W.alloc (.cells cs.toArray e)) := by
  refine Kd.R_append_step d (w0 := w) 0 hw s x t e z bytes ho ht hinfo hz hs0 hb0 v xs p cs (fun k => F k ∨ w.heap.size ≤ k) (fun _ => False) hs hx hp (fun _ hk => hk.elim) (fun k hk => .inr (Nat.le_trans HC.out.size hk)) (Kd.R_mono HO.out (fun k hk => hk.imp id And.left)) HC.out.zero (Nat.zero_le _) hl.out ?_
  intro v1 w1 hr1 _ hg1 _
  refine h v1 w1 ⟨Kd.R_mono (Kd.R_bound hr1) (fun k hk => hk.1.imp id (fun h => ⟨h, hk.2.2.1⟩))⟩ ⟨HC.out.grown hg1 (fun k hk hr => ?_)⟩
  rcases HO.out.1 k hr with h1 | h1
  · exact h1
  · omega
end
theorem cell_keepQ {S : Nat → Prop} {w w' : World} {p : Addr} {v : Value} (hc : Chg S w w') (hS : ¬ S p.block) (h : w.cell? p = some v) : w'.cell? p = some v := by
  have hb := World.block_lt_of_cell? w p h
  have hk := hc.block p.block hb hS
  simpa [World.cell?, hk] using h
theorem heap_alloc3 (w : World) (A B C : Obj) : (((w.alloc A).alloc B).alloc C).heap[w.heap.size + 1 + 1]? = some C := by
  have := heap_alloc_new ((w.alloc A).alloc B) C
  simpa using this
theorem own_new0 {wr : World} {α : Type} {d : Kd α} {e : Nat} {v : Value} {xs : List α} (h : d.R e wr 0 (fun k => some k = v.ownBlock) v xs) : Aside0 (d.R e wr 0 (New (fun b => v.ownBlock = some b) wr wr) v xs) := ⟨Kd.R_mono h (fun k hk => .inl hk.symm)⟩
theorem own_new {wr : World} {α : Type} {d : Kd α} {e : Nat} {v : Value} {xs : List α} (h : d.R e wr 0 (fun k => some k = v.ownBlock) v xs) : Aside0 (d.R e wr.drew 0 (New (fun b => v.ownBlock = some b) wr wr.drew) v xs) := ⟨Kd.R_mono (R_chg h ((Chg.refl (fun _ => False) wr).drew) (fun _ _ _ e => e)) (fun k hk => .inl hk.symm)⟩
theorem R_toC {α : Type} {d : Kd α} {e : Nat} {w : World} {ok : Nat → Prop} {v : SV} {xs : List α} (h : d.R e w 0 ok (svl v) xs) : d.C w v.1 v.2.1 xs := by
  obtain ⟨h1, _, h3⟩ := Kd.R_reads' h
  rw [← h1] at h3
  exact h3
end Go.Proofs.YtgaackedappmgaaDoor.K
