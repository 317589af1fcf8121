import Derived.Test.YtdoghjmanogelaaSj
import Derived.IntWalk
import Derived.BigQuiet
import Derived.Deep.RegionHeld3
namespace Go.Proofs.Ytdoghjmanogelaa.K
open Go.RowKit Go.Proofs.YtdoghjmanogelaaW.PrintWords Go.Proofs.YtdoghjmanogelaaW.PrintLast Go.Proofs.YtdoghjmanogelaaW.PrintMore
set_option linter.unusedVariables false
set_option linter.unusedSimpArgs false
set_option maxRecDepth 100000

def atQ (p : QP) (fn pc : Int) : Option (QF × QI) := if fn < 0 then none else match p.funcs[fn.toNat]? with
  | none => none
  | some g => if pc < 0 then none else match g.code[pc.toNat]? with
    | none => none
    | some i => some (g, i)
def AtPost (w : World) (o : Option (QF × QI)) (e : Ending) (w' : World) : Prop := Chg (fun _ => False) w w' ∧ match o with
  | none => ∃ (r : QR) (a b : Int), e = .returned (.tuple #[.agg (qrCells r).toArray, .agg #[.int .i64 a, .int .i64 b], .bool false])
  | some (g, i) => ∃ r : QR, e = .returned (.tuple #[.agg (qrCells r).toArray, .agg #[.int .i64 i.op, .int .i64 i.a], .bool true]) ∧ RawOf w r g
set_option maxHeartbeats 4000000
theorem look_at (w : World) (cA fA hA mA tA oA bA : Option Addr) (nc cc fc hn hc mn mc tc oc bc : Nat) (p : QP) (s : QS) (rs : List QR) (fn pc : Int) (sA : Option Addr) (sN sC : Nat) (h : PV w cA fA p rs) (hi1 : fn ≤ 9223372036854775807) (hi2 : pc ≤ 9223372036854775807) :
    Calls Try.prog 49 #[.agg #[.slice cA nc cc, .slice fA p.funcs.length fc, .slice hA hn hc, .slice mA mn mc, .slice tA s.texts.length tc, .slice oA s.objs.length oc, .slice bA s.fibers.length bc, .int .i64 s.cur, .int .i64 s.steps, .int .i64 s.spent, .int .i64 s.read], .agg #[.int .i64 fn, .int .i64 pc, .slice sA sN sC]] w (AtPost w (atQ p fn pc)) := by
  have hV := Aside0.mk h
  have hb := h.fs.2.1
  clear h
  have hq : ∃ o, atQ p fn pc = o := ⟨_, rfl⟩
  obtain ⟨o, hq⟩ := hq
  rw [hq]
  unfold atQ at hq
  by_cases h0 : fn < 0
  · rw [if_pos h0] at hq
    subst hq
    go_enter Try.func49, Try.ntmps49
    go_upto_region 1 with (fail)
    (try simp only [Act.put, List.setIfInBounds_toArray, List.set_cons_zero, List.set_cons_succ])
    generalize hW : World.alloc (World.alloc (World.alloc (World.alloc w _) _) _) _ = W0
    have B1 : Aside0 (W0.heap[w.heap.size]? = some (.cells #[.slice cA nc cc, .slice fA p.funcs.length fc, .slice hA hn hc, .slice mA mn mc, .slice tA s.texts.length tc, .slice oA s.objs.length oc, .slice bA s.fibers.length bc, .int .i64 s.cur, .int .i64 s.steps, .int .i64 s.spent, .int .i64 s.read] 101)) := ⟨by rw [← hW]; exact ((((Chg.refl (fun _ => False) (w.alloc _)).alloc _).alloc _).alloc _).blk (heap_alloc_new w _) (fun e => e)⟩
    have B2 : Aside0 (W0.heap[w.heap.size + 1]? = some (.cells #[.int .i64 fn, .int .i64 pc, .slice sA sN sC] 54)) := ⟨by rw [← hW]; exact (((Chg.refl (fun _ => False) ((w.alloc _).alloc _)).alloc _).alloc _).blk (heap_alloc2_new w _ _) (fun e => e)⟩
    have B3 : Aside0 (W0.heap[w.heap.size + 1 + 1]? = some (.cells #[.string ⟨#[]⟩, .int .i64 0, .int .i64 0, .slice none 0 0, .slice none 0 0] 33)) := ⟨by rw [← hW]; exact ((Chg.refl (fun _ => False) (((w.alloc _).alloc _).alloc _)).alloc _).blk (heap_al3 w _ _ _) (fun e => e)⟩
    have B4 : Aside0 (W0.heap[w.heap.size + 1 + 1 + 1]? = some (.cells #[.int .i64 0, .int .i64 0] 92)) := ⟨by rw [← hW]; exact heap_al4 w _ _ _ _⟩
    have hz0 : Aside0 (Chg (fun _ => False) w W0) := ⟨by rw [← hW]; exact cg⟩
    clear hW
    have hgt := blk_lt B4.out
    have p1 : W0.cell? ⟨w.heap.size, 1, none⟩ = some (.slice fA p.funcs.length fc) := blk_cell B1.out 1
    have f0 : W0.cell? ⟨w.heap.size + 1, 0, none⟩ = some (.int .i64 fn) := blk_cell B2.out 0
    have f1 : W0.cell? ⟨w.heap.size + 1, 1, none⟩ = some (.int .i64 pc) := blk_cell B2.out 1
    have t3_0 := blk_cell (w := W0) B3.out 0
    have t3_1 := blk_cell (w := W0) B3.out 1
    have t3_2 := blk_cell (w := W0) B3.out 2
    have t3_3 := blk_cell (w := W0) B3.out 3
    have t3_4 := blk_cell (w := W0) B3.out 4
    have u3_0 := blk_frozen B3.out 0
    have u3_1 := blk_frozen B3.out 1
    have u3_2 := blk_frozen B3.out 2
    have u3_3 := blk_frozen B3.out 3
    have u3_4 := blk_frozen B3.out 4
    have t4_0 := blk_cell (w := W0) B4.out 0
    have t4_1 := blk_cell (w := W0) B4.out 1
    have u4_0 := blk_frozen B4.out 0
    have u4_1 := blk_frozen B4.out 1
    have hz1 := hz0
    go_wp2
    (try simp only [Exit.inBlock, Exit.then])
    have H1 := (Chg.setCell (Chg.setCell (Chg.setCell (Chg.setCell (Chg.setCell (Chg.refl (fun k => k = w.heap.size + 1 + 1) W0) (p := ⟨w.heap.size + 1 + 1, 0, none⟩) (fun _ => rfl) (.string ⟨#[]⟩)) (p := ⟨w.heap.size + 1 + 1, 1, none⟩) (fun _ => rfl) (.int .i64 0)) (p := ⟨w.heap.size + 1 + 1, 2, none⟩) (fun _ => rfl) (.int .i64 0)) (p := ⟨w.heap.size + 1 + 1, 3, none⟩) (fun _ => rfl) (.slice none 0 0)) (p := ⟨w.heap.size + 1 + 1, 4, none⟩) (fun _ => rfl) (.slice none 0 0))
    have c1 := (blk_set (blk_set (blk_set (blk_set (blk_set B3.out 0 (.string ⟨#[]⟩)) 1 (.int .i64 0)) 2 (.int .i64 0)) 3 (.slice none 0 0)) 4 (.slice none 0 0))
    have c2 := H1.blk B4.out (by omega)
    have H2 := fun W9 : World => (Chg.setCell (Chg.setCell (Chg.refl (fun k => k = w.heap.size + 1 + 1 + 1) W9) (p := ⟨w.heap.size + 1 + 1 + 1, 0, none⟩) (fun _ => rfl) (.int .i64 0)) (p := ⟨w.heap.size + 1 + 1 + 1, 1, none⟩) (fun _ => rfl) (.int .i64 0))
    have c3 := (H2 _).blk c1 (by omega)
    replace c2 := (blk_set (blk_set c2 0 (.int .i64 0)) 1 (.int .i64 0))
    refine bodyPost_ret (results_c3 rfl _ _ _ _ _ rfl rfl _ _ (run_loadVar_row _ _ _ _ _ _ _ c3 Try.underlying33 rfl (by kernel_rfl)) (run_loadVar_row _ _ _ _ _ _ _ c2 Try.underlying92 rfl (by kernel_rfl))) rfl ?_
    exact ⟨(hz1.out.trans H1 (fun k hk h => by omega)).trans (H2 _) (fun k hk h => by omega), ⟨⟨#[]⟩, 0, 0, (none, 0, 0), (none, 0, 0)⟩, 0, 0, rfl⟩
  · rw [if_neg h0] at hq
    obtain ⟨k, rfl⟩ : ∃ k : Nat, fn = k := ⟨fn.toNat, by omega⟩
    rw [Int.toNat_natCast] at hq
    cases hg : p.funcs[k]? with
    | none =>
      rw [hg] at hq
      simp only at hq
      subst hq
      have h1 := List.getElem?_eq_none_iff.1 hg
      clear hg
      go_enter Try.func49, Try.ntmps49
      go_upto_region 1 with (fail)
      (try simp only [Act.put, List.setIfInBounds_toArray, List.set_cons_zero, List.set_cons_succ])
      generalize hW : World.alloc (World.alloc (World.alloc (World.alloc w _) _) _) _ = W0
      have B1 : Aside0 (W0.heap[w.heap.size]? = some (.cells #[.slice cA nc cc, .slice fA p.funcs.length fc, .slice hA hn hc, .slice mA mn mc, .slice tA s.texts.length tc, .slice oA s.objs.length oc, .slice bA s.fibers.length bc, .int .i64 s.cur, .int .i64 s.steps, .int .i64 s.spent, .int .i64 s.read] 101)) := ⟨by rw [← hW]; exact ((((Chg.refl (fun _ => False) (w.alloc _)).alloc _).alloc _).alloc _).blk (heap_alloc_new w _) (fun e => e)⟩
      have B2 : Aside0 (W0.heap[w.heap.size + 1]? = some (.cells #[.int .i64 (k : Int), .int .i64 pc, .slice sA sN sC] 54)) := ⟨by rw [← hW]; exact (((Chg.refl (fun _ => False) ((w.alloc _).alloc _)).alloc _).alloc _).blk (heap_alloc2_new w _ _) (fun e => e)⟩
      have B3 : Aside0 (W0.heap[w.heap.size + 1 + 1]? = some (.cells #[.string ⟨#[]⟩, .int .i64 0, .int .i64 0, .slice none 0 0, .slice none 0 0] 33)) := ⟨by rw [← hW]; exact ((Chg.refl (fun _ => False) (((w.alloc _).alloc _).alloc _)).alloc _).blk (heap_al3 w _ _ _) (fun e => e)⟩
      have B4 : Aside0 (W0.heap[w.heap.size + 1 + 1 + 1]? = some (.cells #[.int .i64 0, .int .i64 0] 92)) := ⟨by rw [← hW]; exact heap_al4 w _ _ _ _⟩
      have hz0 : Aside0 (Chg (fun _ => False) w W0) := ⟨by rw [← hW]; exact cg⟩
      clear hW
      have hgt := blk_lt B4.out
      have p1 : W0.cell? ⟨w.heap.size, 1, none⟩ = some (.slice fA p.funcs.length fc) := blk_cell B1.out 1
      have f0 : W0.cell? ⟨w.heap.size + 1, 0, none⟩ = some (.int .i64 (k : Int)) := blk_cell B2.out 0
      have f1 : W0.cell? ⟨w.heap.size + 1, 1, none⟩ = some (.int .i64 pc) := blk_cell B2.out 1
      have t3_0 := blk_cell (w := W0) B3.out 0
      have t3_1 := blk_cell (w := W0) B3.out 1
      have t3_2 := blk_cell (w := W0) B3.out 2
      have t3_3 := blk_cell (w := W0) B3.out 3
      have t3_4 := blk_cell (w := W0) B3.out 4
      have u3_0 := blk_frozen B3.out 0
      have u3_1 := blk_frozen B3.out 1
      have u3_2 := blk_frozen B3.out 2
      have u3_3 := blk_frozen B3.out 3
      have u3_4 := blk_frozen B3.out 4
      have t4_0 := blk_cell (w := W0) B4.out 0
      have t4_1 := blk_cell (w := W0) B4.out 1
      have u4_0 := blk_frozen B4.out 0
      have u4_1 := blk_frozen B4.out 1
      have hz1 := hz0
      go_wp2
      (try simp only [Exit.inBlock, Exit.then])
      have H1 := (Chg.setCell (Chg.setCell (Chg.setCell (Chg.setCell (Chg.setCell (Chg.refl (fun k => k = w.heap.size + 1 + 1) W0) (p := ⟨w.heap.size + 1 + 1, 0, none⟩) (fun _ => rfl) (.string ⟨#[]⟩)) (p := ⟨w.heap.size + 1 + 1, 1, none⟩) (fun _ => rfl) (.int .i64 0)) (p := ⟨w.heap.size + 1 + 1, 2, none⟩) (fun _ => rfl) (.int .i64 0)) (p := ⟨w.heap.size + 1 + 1, 3, none⟩) (fun _ => rfl) (.slice none 0 0)) (p := ⟨w.heap.size + 1 + 1, 4, none⟩) (fun _ => rfl) (.slice none 0 0))
      have c1 := (blk_set (blk_set (blk_set (blk_set (blk_set B3.out 0 (.string ⟨#[]⟩)) 1 (.int .i64 0)) 2 (.int .i64 0)) 3 (.slice none 0 0)) 4 (.slice none 0 0))
      have c2 := H1.blk B4.out (by omega)
      have H2 := fun W9 : World => (Chg.setCell (Chg.setCell (Chg.refl (fun k => k = w.heap.size + 1 + 1 + 1) W9) (p := ⟨w.heap.size + 1 + 1 + 1, 0, none⟩) (fun _ => rfl) (.int .i64 0)) (p := ⟨w.heap.size + 1 + 1 + 1, 1, none⟩) (fun _ => rfl) (.int .i64 0))
      have c3 := (H2 _).blk c1 (by omega)
      replace c2 := (blk_set (blk_set c2 0 (.int .i64 0)) 1 (.int .i64 0))
      refine bodyPost_ret (results_c3 rfl _ _ _ _ _ rfl rfl _ _ (run_loadVar_row _ _ _ _ _ _ _ c3 Try.underlying33 rfl (by kernel_rfl)) (run_loadVar_row _ _ _ _ _ _ _ c2 Try.underlying92 rfl (by kernel_rfl))) rfl ?_
      exact ⟨(hz1.out.trans H1 (fun k hk h => by omega)).trans (H2 _) (fun k hk h => by omega), ⟨⟨#[]⟩, 0, 0, (none, 0, 0), (none, 0, 0)⟩, 0, 0, rfl⟩
    | some g =>
      have hk := (List.getElem?_eq_some_iff.1 hg).1
      rw [hg] at hq
      simp only at hq
      by_cases h2 : pc < 0
      · rw [if_pos h2] at hq
        subst hq
        go_enter Try.func49, Try.ntmps49
        go_upto_region 1 with (fail)
        (try simp only [Act.put, List.setIfInBounds_toArray, List.set_cons_zero, List.set_cons_succ])
        generalize hW : World.alloc (World.alloc (World.alloc (World.alloc w _) _) _) _ = W0
        have B1 : Aside0 (W0.heap[w.heap.size]? = some (.cells #[.slice cA nc cc, .slice fA p.funcs.length fc, .slice hA hn hc, .slice mA mn mc, .slice tA s.texts.length tc, .slice oA s.objs.length oc, .slice bA s.fibers.length bc, .int .i64 s.cur, .int .i64 s.steps, .int .i64 s.spent, .int .i64 s.read] 101)) := ⟨by rw [← hW]; exact ((((Chg.refl (fun _ => False) (w.alloc _)).alloc _).alloc _).alloc _).blk (heap_alloc_new w _) (fun e => e)⟩
        have B2 : Aside0 (W0.heap[w.heap.size + 1]? = some (.cells #[.int .i64 (k : Int), .int .i64 pc, .slice sA sN sC] 54)) := ⟨by rw [← hW]; exact (((Chg.refl (fun _ => False) ((w.alloc _).alloc _)).alloc _).alloc _).blk (heap_alloc2_new w _ _) (fun e => e)⟩
        have B3 : Aside0 (W0.heap[w.heap.size + 1 + 1]? = some (.cells #[.string ⟨#[]⟩, .int .i64 0, .int .i64 0, .slice none 0 0, .slice none 0 0] 33)) := ⟨by rw [← hW]; exact ((Chg.refl (fun _ => False) (((w.alloc _).alloc _).alloc _)).alloc _).blk (heap_al3 w _ _ _) (fun e => e)⟩
        have B4 : Aside0 (W0.heap[w.heap.size + 1 + 1 + 1]? = some (.cells #[.int .i64 0, .int .i64 0] 92)) := ⟨by rw [← hW]; exact heap_al4 w _ _ _ _⟩
        have hz0 : Aside0 (Chg (fun _ => False) w W0) := ⟨by rw [← hW]; exact cg⟩
        clear hW
        have hgt := blk_lt B4.out
        have p1 : W0.cell? ⟨w.heap.size, 1, none⟩ = some (.slice fA p.funcs.length fc) := blk_cell B1.out 1
        have f0 : W0.cell? ⟨w.heap.size + 1, 0, none⟩ = some (.int .i64 (k : Int)) := blk_cell B2.out 0
        have f1 : W0.cell? ⟨w.heap.size + 1, 1, none⟩ = some (.int .i64 pc) := blk_cell B2.out 1
        obtain ⟨ad, r, e1, e2, x0, x1, x2, x3, x4⟩ := raw_at (hV.out.below (w' := W0) bl).fs k hk
        subst e1
        have hro := Aside0.mk (hV.out.raw k r g e2 hg)
        have hrw := Aside0.mk ((hV.out.below (w' := W0) bl).raw k r g e2 hg)
        have hcl : Aside0 (r.code.2.1 = g.code.length) := ⟨hro.out.2.2.2.1.1.symm⟩
        have hk1 : (k : Int) < p.funcs.length := by omega
        clear e2
        go_upto_region 4 with (fail)
        (try simp only [Act.put, List.setIfInBounds_toArray, List.set_cons_zero, List.set_cons_succ])
        generalize hW2 : World.alloc W0 _ = W2
        have B5 : Aside0 (W2.heap[W0.heap.size]? = some (.cells #[.string r.name, .int .i64 r.pars, .int .i64 r.locs, .slice r.code.1 r.code.2.1 r.code.2.2, .slice r.hnd.1 r.hnd.2.1 r.hnd.2.2] 33)) := ⟨by rw [← hW2]; exact heap_alloc_new W0 _⟩
        have hz2 : Aside0 (Chg (fun _ => False) W0 W2) := ⟨by rw [← hW2]; exact cg⟩
        clear hW2 p1 f0 f1 x0 x1 x2 x3 x4
        have hz1 : Aside0 (Chg (fun _ => False) w W2) := ⟨cg⟩
        replace B2 := Aside0.mk (hz2.out.blk B2.out (fun h => h))
        replace B3 := Aside0.mk (hz2.out.blk B3.out (fun h => h))
        replace B4 := Aside0.mk (hz2.out.blk B4.out (fun h => h))
        have f1 : W2.cell? ⟨w.heap.size + 1, 1, none⟩ = some (.int .i64 pc) := blk_cell B2.out 1
        have y0 : W2.cell? ⟨W0.heap.size, 0, none⟩ = some (.string r.name) := blk_cell B5.out 0
        have y1 : W2.cell? ⟨W0.heap.size, 1, none⟩ = some (.int .i64 r.pars) := blk_cell B5.out 1
        have y2 : W2.cell? ⟨W0.heap.size, 2, none⟩ = some (.int .i64 r.locs) := blk_cell B5.out 2
        have y3 : W2.cell? ⟨W0.heap.size, 3, none⟩ = some (.slice r.code.1 r.code.2.1 r.code.2.2) := blk_cell B5.out 3
        have y4 : W2.cell? ⟨W0.heap.size, 4, none⟩ = some (.slice r.hnd.1 r.hnd.2.1 r.hnd.2.2) := blk_cell B5.out 4
        have t3_0 := blk_cell (w := W2) B3.out 0
        have t3_1 := blk_cell (w := W2) B3.out 1
        have t3_2 := blk_cell (w := W2) B3.out 2
        have t3_3 := blk_cell (w := W2) B3.out 3
        have t3_4 := blk_cell (w := W2) B3.out 4
        have u3_0 := blk_frozen B3.out 0
        have u3_1 := blk_frozen B3.out 1
        have u3_2 := blk_frozen B3.out 2
        have u3_3 := blk_frozen B3.out 3
        have u3_4 := blk_frozen B3.out 4
        have t4_0 := blk_cell (w := W2) B4.out 0
        have t4_1 := blk_cell (w := W2) B4.out 1
        have u4_0 := blk_frozen B4.out 0
        have u4_1 := blk_frozen B4.out 1
        go_wp2
        (try simp only [Exit.inBlock, Exit.then])
        have H1 := (Chg.setCell (Chg.setCell (Chg.setCell (Chg.setCell (Chg.setCell (Chg.refl (fun k => k = w.heap.size + 1 + 1) W2) (p := ⟨w.heap.size + 1 + 1, 0, none⟩) (fun _ => rfl) (.string r.name)) (p := ⟨w.heap.size + 1 + 1, 1, none⟩) (fun _ => rfl) (.int .i64 r.pars)) (p := ⟨w.heap.size + 1 + 1, 2, none⟩) (fun _ => rfl) (.int .i64 r.locs)) (p := ⟨w.heap.size + 1 + 1, 3, none⟩) (fun _ => rfl) (.slice r.code.1 r.code.2.1 r.code.2.2)) (p := ⟨w.heap.size + 1 + 1, 4, none⟩) (fun _ => rfl) (.slice r.hnd.1 r.hnd.2.1 r.hnd.2.2))
        have c1 := (blk_set (blk_set (blk_set (blk_set (blk_set B3.out 0 (.string r.name)) 1 (.int .i64 r.pars)) 2 (.int .i64 r.locs)) 3 (.slice r.code.1 r.code.2.1 r.code.2.2)) 4 (.slice r.hnd.1 r.hnd.2.1 r.hnd.2.2))
        have c2 := H1.blk B4.out (by omega)
        have H2 := fun W9 : World => (Chg.setCell (Chg.setCell (Chg.refl (fun k => k = w.heap.size + 1 + 1 + 1) W9) (p := ⟨w.heap.size + 1 + 1 + 1, 0, none⟩) (fun _ => rfl) (.int .i64 0)) (p := ⟨w.heap.size + 1 + 1 + 1, 1, none⟩) (fun _ => rfl) (.int .i64 0))
        have c3 := (H2 _).blk c1 (by omega)
        replace c2 := (blk_set (blk_set c2 0 (.int .i64 0)) 1 (.int .i64 0))
        refine bodyPost_ret (results_c3 rfl _ _ _ _ _ rfl rfl _ _ (run_loadVar_row _ _ _ _ _ _ _ c3 Try.underlying33 rfl (by kernel_rfl)) (run_loadVar_row _ _ _ _ _ _ _ c2 Try.underlying92 rfl (by kernel_rfl))) rfl ?_
        exact ⟨(hz1.out.trans H1 (fun k hk h => by omega)).trans (H2 _) (fun k hk h => by omega), r, 0, 0, rfl⟩
      · rw [if_neg h2] at hq
        obtain ⟨j, rfl⟩ : ∃ j : Nat, pc = j := ⟨pc.toNat, by omega⟩
        rw [Int.toNat_natCast] at hq
        cases hi : g.code[j]? with
        | none =>
          rw [hi] at hq
          simp only at hq
          subst hq
          have h3 := List.getElem?_eq_none_iff.1 hi
          clear hi
          go_enter Try.func49, Try.ntmps49
          go_upto_region 1 with (fail)
          (try simp only [Act.put, List.setIfInBounds_toArray, List.set_cons_zero, List.set_cons_succ])
          generalize hW : World.alloc (World.alloc (World.alloc (World.alloc w _) _) _) _ = W0
          have B1 : Aside0 (W0.heap[w.heap.size]? = some (.cells #[.slice cA nc cc, .slice fA p.funcs.length fc, .slice hA hn hc, .slice mA mn mc, .slice tA s.texts.length tc, .slice oA s.objs.length oc, .slice bA s.fibers.length bc, .int .i64 s.cur, .int .i64 s.steps, .int .i64 s.spent, .int .i64 s.read] 101)) := ⟨by rw [← hW]; exact ((((Chg.refl (fun _ => False) (w.alloc _)).alloc _).alloc _).alloc _).blk (heap_alloc_new w _) (fun e => e)⟩
          have B2 : Aside0 (W0.heap[w.heap.size + 1]? = some (.cells #[.int .i64 (k : Int), .int .i64 (j : Int), .slice sA sN sC] 54)) := ⟨by rw [← hW]; exact (((Chg.refl (fun _ => False) ((w.alloc _).alloc _)).alloc _).alloc _).blk (heap_alloc2_new w _ _) (fun e => e)⟩
          have B3 : Aside0 (W0.heap[w.heap.size + 1 + 1]? = some (.cells #[.string ⟨#[]⟩, .int .i64 0, .int .i64 0, .slice none 0 0, .slice none 0 0] 33)) := ⟨by rw [← hW]; exact ((Chg.refl (fun _ => False) (((w.alloc _).alloc _).alloc _)).alloc _).blk (heap_al3 w _ _ _) (fun e => e)⟩
          have B4 : Aside0 (W0.heap[w.heap.size + 1 + 1 + 1]? = some (.cells #[.int .i64 0, .int .i64 0] 92)) := ⟨by rw [← hW]; exact heap_al4 w _ _ _ _⟩
          have hz0 : Aside0 (Chg (fun _ => False) w W0) := ⟨by rw [← hW]; exact cg⟩
          clear hW
          have hgt := blk_lt B4.out
          have p1 : W0.cell? ⟨w.heap.size, 1, none⟩ = some (.slice fA p.funcs.length fc) := blk_cell B1.out 1
          have f0 : W0.cell? ⟨w.heap.size + 1, 0, none⟩ = some (.int .i64 (k : Int)) := blk_cell B2.out 0
          have f1 : W0.cell? ⟨w.heap.size + 1, 1, none⟩ = some (.int .i64 (j : Int)) := blk_cell B2.out 1
          obtain ⟨ad, r, e1, e2, x0, x1, x2, x3, x4⟩ := raw_at (hV.out.below (w' := W0) bl).fs k hk
          subst e1
          have hro := Aside0.mk (hV.out.raw k r g e2 hg)
          have hrw := Aside0.mk ((hV.out.below (w' := W0) bl).raw k r g e2 hg)
          have hcl : Aside0 (r.code.2.1 = g.code.length) := ⟨hro.out.2.2.2.1.1.symm⟩
          have hk1 : (k : Int) < p.funcs.length := by omega
          clear e2
          go_upto_region 4 with (fail)
          (try simp only [Act.put, List.setIfInBounds_toArray, List.set_cons_zero, List.set_cons_succ])
          generalize hW2 : World.alloc W0 _ = W2
          have B5 : Aside0 (W2.heap[W0.heap.size]? = some (.cells #[.string r.name, .int .i64 r.pars, .int .i64 r.locs, .slice r.code.1 r.code.2.1 r.code.2.2, .slice r.hnd.1 r.hnd.2.1 r.hnd.2.2] 33)) := ⟨by rw [← hW2]; exact heap_alloc_new W0 _⟩
          have hz2 : Aside0 (Chg (fun _ => False) W0 W2) := ⟨by rw [← hW2]; exact cg⟩
          clear hW2 p1 f0 f1 x0 x1 x2 x3 x4
          have hz1 : Aside0 (Chg (fun _ => False) w W2) := ⟨cg⟩
          replace B2 := Aside0.mk (hz2.out.blk B2.out (fun h => h))
          replace B3 := Aside0.mk (hz2.out.blk B3.out (fun h => h))
          replace B4 := Aside0.mk (hz2.out.blk B4.out (fun h => h))
          have f1 : W2.cell? ⟨w.heap.size + 1, 1, none⟩ = some (.int .i64 (j : Int)) := blk_cell B2.out 1
          have y0 : W2.cell? ⟨W0.heap.size, 0, none⟩ = some (.string r.name) := blk_cell B5.out 0
          have y1 : W2.cell? ⟨W0.heap.size, 1, none⟩ = some (.int .i64 r.pars) := blk_cell B5.out 1
          have y2 : W2.cell? ⟨W0.heap.size, 2, none⟩ = some (.int .i64 r.locs) := blk_cell B5.out 2
          have y3 : W2.cell? ⟨W0.heap.size, 3, none⟩ = some (.slice r.code.1 r.code.2.1 r.code.2.2) := blk_cell B5.out 3
          have y4 : W2.cell? ⟨W0.heap.size, 4, none⟩ = some (.slice r.hnd.1 r.hnd.2.1 r.hnd.2.2) := blk_cell B5.out 4
          have h4 : r.code.2.1 ≤ j := by rw [hcl.out]; exact h3
          have t3_0 := blk_cell (w := W2) B3.out 0
          have t3_1 := blk_cell (w := W2) B3.out 1
          have t3_2 := blk_cell (w := W2) B3.out 2
          have t3_3 := blk_cell (w := W2) B3.out 3
          have t3_4 := blk_cell (w := W2) B3.out 4
          have u3_0 := blk_frozen B3.out 0
          have u3_1 := blk_frozen B3.out 1
          have u3_2 := blk_frozen B3.out 2
          have u3_3 := blk_frozen B3.out 3
          have u3_4 := blk_frozen B3.out 4
          have t4_0 := blk_cell (w := W2) B4.out 0
          have t4_1 := blk_cell (w := W2) B4.out 1
          have u4_0 := blk_frozen B4.out 0
          have u4_1 := blk_frozen B4.out 1
          go_wp2
          (try simp only [Exit.inBlock, Exit.then])
          have H1 := (Chg.setCell (Chg.setCell (Chg.setCell (Chg.setCell (Chg.setCell (Chg.refl (fun k => k = w.heap.size + 1 + 1) W2) (p := ⟨w.heap.size + 1 + 1, 0, none⟩) (fun _ => rfl) (.string r.name)) (p := ⟨w.heap.size + 1 + 1, 1, none⟩) (fun _ => rfl) (.int .i64 r.pars)) (p := ⟨w.heap.size + 1 + 1, 2, none⟩) (fun _ => rfl) (.int .i64 r.locs)) (p := ⟨w.heap.size + 1 + 1, 3, none⟩) (fun _ => rfl) (.slice r.code.1 r.code.2.1 r.code.2.2)) (p := ⟨w.heap.size + 1 + 1, 4, none⟩) (fun _ => rfl) (.slice r.hnd.1 r.hnd.2.1 r.hnd.2.2))
          have c1 := (blk_set (blk_set (blk_set (blk_set (blk_set B3.out 0 (.string r.name)) 1 (.int .i64 r.pars)) 2 (.int .i64 r.locs)) 3 (.slice r.code.1 r.code.2.1 r.code.2.2)) 4 (.slice r.hnd.1 r.hnd.2.1 r.hnd.2.2))
          have c2 := H1.blk B4.out (by omega)
          have H2 := fun W9 : World => (Chg.setCell (Chg.setCell (Chg.refl (fun k => k = w.heap.size + 1 + 1 + 1) W9) (p := ⟨w.heap.size + 1 + 1 + 1, 0, none⟩) (fun _ => rfl) (.int .i64 0)) (p := ⟨w.heap.size + 1 + 1 + 1, 1, none⟩) (fun _ => rfl) (.int .i64 0))
          have c3 := (H2 _).blk c1 (by omega)
          replace c2 := (blk_set (blk_set c2 0 (.int .i64 0)) 1 (.int .i64 0))
          refine bodyPost_ret (results_c3 rfl _ _ _ _ _ rfl rfl _ _ (run_loadVar_row _ _ _ _ _ _ _ c3 Try.underlying33 rfl (by kernel_rfl)) (run_loadVar_row _ _ _ _ _ _ _ c2 Try.underlying92 rfl (by kernel_rfl))) rfl ?_
          exact ⟨(hz1.out.trans H1 (fun k hk h => by omega)).trans (H2 _) (fun k hk h => by omega), r, 0, 0, rfl⟩
        | some i =>
          rw [hi] at hq
          simp only at hq
          subst hq
          have hj := (List.getElem?_eq_some_iff.1 hi).1
          go_enter Try.func49, Try.ntmps49
          go_upto_region 1 with (fail)
          (try simp only [Act.put, List.setIfInBounds_toArray, List.set_cons_zero, List.set_cons_succ])
          generalize hW : World.alloc (World.alloc (World.alloc (World.alloc w _) _) _) _ = W0
          have B1 : Aside0 (W0.heap[w.heap.size]? = some (.cells #[.slice cA nc cc, .slice fA p.funcs.length fc, .slice hA hn hc, .slice mA mn mc, .slice tA s.texts.length tc, .slice oA s.objs.length oc, .slice bA s.fibers.length bc, .int .i64 s.cur, .int .i64 s.steps, .int .i64 s.spent, .int .i64 s.read] 101)) := ⟨by rw [← hW]; exact ((((Chg.refl (fun _ => False) (w.alloc _)).alloc _).alloc _).alloc _).blk (heap_alloc_new w _) (fun e => e)⟩
          have B2 : Aside0 (W0.heap[w.heap.size + 1]? = some (.cells #[.int .i64 (k : Int), .int .i64 (j : Int), .slice sA sN sC] 54)) := ⟨by rw [← hW]; exact (((Chg.refl (fun _ => False) ((w.alloc _).alloc _)).alloc _).alloc _).blk (heap_alloc2_new w _ _) (fun e => e)⟩
          have B3 : Aside0 (W0.heap[w.heap.size + 1 + 1]? = some (.cells #[.string ⟨#[]⟩, .int .i64 0, .int .i64 0, .slice none 0 0, .slice none 0 0] 33)) := ⟨by rw [← hW]; exact ((Chg.refl (fun _ => False) (((w.alloc _).alloc _).alloc _)).alloc _).blk (heap_al3 w _ _ _) (fun e => e)⟩
          have B4 : Aside0 (W0.heap[w.heap.size + 1 + 1 + 1]? = some (.cells #[.int .i64 0, .int .i64 0] 92)) := ⟨by rw [← hW]; exact heap_al4 w _ _ _ _⟩
          have hz0 : Aside0 (Chg (fun _ => False) w W0) := ⟨by rw [← hW]; exact cg⟩
          clear hW
          have hgt := blk_lt B4.out
          have p1 : W0.cell? ⟨w.heap.size, 1, none⟩ = some (.slice fA p.funcs.length fc) := blk_cell B1.out 1
          have f0 : W0.cell? ⟨w.heap.size + 1, 0, none⟩ = some (.int .i64 (k : Int)) := blk_cell B2.out 0
          have f1 : W0.cell? ⟨w.heap.size + 1, 1, none⟩ = some (.int .i64 (j : Int)) := blk_cell B2.out 1
          obtain ⟨ad, r, e1, e2, x0, x1, x2, x3, x4⟩ := raw_at (hV.out.below (w' := W0) bl).fs k hk
          subst e1
          have hro := Aside0.mk (hV.out.raw k r g e2 hg)
          have hrw := Aside0.mk ((hV.out.below (w' := W0) bl).raw k r g e2 hg)
          have hcl : Aside0 (r.code.2.1 = g.code.length) := ⟨hro.out.2.2.2.1.1.symm⟩
          have hk1 : (k : Int) < p.funcs.length := by omega
          clear e2
          go_upto_region 4 with (fail)
          (try simp only [Act.put, List.setIfInBounds_toArray, List.set_cons_zero, List.set_cons_succ])
          generalize hW2 : World.alloc W0 _ = W2
          have B5 : Aside0 (W2.heap[W0.heap.size]? = some (.cells #[.string r.name, .int .i64 r.pars, .int .i64 r.locs, .slice r.code.1 r.code.2.1 r.code.2.2, .slice r.hnd.1 r.hnd.2.1 r.hnd.2.2] 33)) := ⟨by rw [← hW2]; exact heap_alloc_new W0 _⟩
          have hz2 : Aside0 (Chg (fun _ => False) W0 W2) := ⟨by rw [← hW2]; exact cg⟩
          clear hW2 p1 f0 f1 x0 x1 x2 x3 x4
          have hz1 : Aside0 (Chg (fun _ => False) w W2) := ⟨cg⟩
          replace B2 := Aside0.mk (hz2.out.blk B2.out (fun h => h))
          replace B3 := Aside0.mk (hz2.out.blk B3.out (fun h => h))
          replace B4 := Aside0.mk (hz2.out.blk B4.out (fun h => h))
          have f1 : W2.cell? ⟨w.heap.size + 1, 1, none⟩ = some (.int .i64 (j : Int)) := blk_cell B2.out 1
          have y0 : W2.cell? ⟨W0.heap.size, 0, none⟩ = some (.string r.name) := blk_cell B5.out 0
          have y1 : W2.cell? ⟨W0.heap.size, 1, none⟩ = some (.int .i64 r.pars) := blk_cell B5.out 1
          have y2 : W2.cell? ⟨W0.heap.size, 2, none⟩ = some (.int .i64 r.locs) := blk_cell B5.out 2
          have y3 : W2.cell? ⟨W0.heap.size, 3, none⟩ = some (.slice r.code.1 r.code.2.1 r.code.2.2) := blk_cell B5.out 3
          have y4 : W2.cell? ⟨W0.heap.size, 4, none⟩ = some (.slice r.hnd.1 r.hnd.2.1 r.hnd.2.2) := blk_cell B5.out 4
          have t3_0 := blk_cell (w := W2) B3.out 0
          have t3_1 := blk_cell (w := W2) B3.out 1
          have t3_2 := blk_cell (w := W2) B3.out 2
          have t3_3 := blk_cell (w := W2) B3.out 3
          have t3_4 := blk_cell (w := W2) B3.out 4
          have u3_0 := blk_frozen B3.out 0
          have u3_1 := blk_frozen B3.out 1
          have u3_2 := blk_frozen B3.out 2
          have u3_3 := blk_frozen B3.out 3
          have u3_4 := blk_frozen B3.out 4
          have t4_0 := blk_cell (w := W2) B4.out 0
          have t4_1 := blk_cell (w := W2) B4.out 1
          have u4_0 := blk_frozen B4.out 0
          have u4_1 := blk_frozen B4.out 1
          have hco := Kd.C_below hrw.out.2.2.2.1 (hz2.out.below (fun _ _ h => h))
          obtain ⟨cd, o1, a1, e1, e2, x0, x1⟩ := kQI_at hco j (by rw [hcl.out]; exact hj)
          rw [hi] at e2
          injection e2 with e2
          subst e2
          rw [e1] at y3
          have e1A := Aside0.mk e1
          have hj1 : (j : Int) < r.code.2.1 := by rw [hcl.out]; omega
          clear e1
          go_upto_region 6 with (fail)
          (try simp only [Act.put, List.setIfInBounds_toArray, List.set_cons_zero, List.set_cons_succ])
          have hcb := World.block_lt_of_cell? W2 _ x0
          have hcd : cd.block < w.heap.size := by have := hro.out.2.2.2.1; obtain ⟨_, _, h9⟩ := this; obtain ⟨ad9, e9, h9⟩ := h9 (by rw [hcl.out]; omega); rw [e1A.out] at e9; injection e9 with e9; subst e9; obtain ⟨cs9, _, hk9, h8⟩ := h9 j _ hi; rw [kQI_K] at hk9; subst hk9; have h7 := World.block_lt_of_cell? w _ (h8 0 _ rfl); rw [add_block] at h7; exact h7
          have hn1 : ¬ (cd.add (j * 2)).block = w.heap.size + 1 + 1 := by rw [add_block]; omega
          have hn2 : ¬ (cd.add (j * 2)).block = w.heap.size + 1 + 1 + 1 := by rw [add_block]; omega
          have H3 := fun W9 : World => (Chg.setCell (Chg.setCell (Chg.setCell (Chg.setCell (Chg.setCell (Chg.refl (fun k => k = w.heap.size + 1 + 1) W9) (p := ⟨w.heap.size + 1 + 1, 0, none⟩) (fun _ => rfl) (.string r.name)) (p := ⟨w.heap.size + 1 + 1, 1, none⟩) (fun _ => rfl) (.int .i64 r.pars)) (p := ⟨w.heap.size + 1 + 1, 2, none⟩) (fun _ => rfl) (.int .i64 r.locs)) (p := ⟨w.heap.size + 1 + 1, 3, none⟩) (fun _ => rfl) (.slice (some cd) r.code.2.1 r.code.2.2)) (p := ⟨w.heap.size + 1 + 1, 4, none⟩) (fun _ => rfl) (.slice r.hnd.1 r.hnd.2.1 r.hnd.2.2))
          have H4 := fun W9 : World => (Chg.setCell (Chg.setCell (Chg.refl (fun k => k = w.heap.size + 1 + 1 + 1) W9) (p := ⟨w.heap.size + 1 + 1 + 1, 0, none⟩) (fun _ => rfl) (.int .i64 o1)) (p := ⟨w.heap.size + 1 + 1 + 1, 1, none⟩) (fun _ => rfl) (.int .i64 a1))
          have k_y0 := cell_keepQ (v := .string r.name) (p := ⟨W0.heap.size, 0, none⟩) ((H3 W2).drew) (fun e => absurd (show W0.heap.size = w.heap.size + 1 + 1 from e) (by omega)) y0
          have k_y1 := cell_keepQ (v := .int .i64 r.pars) (p := ⟨W0.heap.size, 1, none⟩) ((H3 W2).drew) (fun e => absurd (show W0.heap.size = w.heap.size + 1 + 1 from e) (by omega)) y1
          have k_y2 := cell_keepQ (v := .int .i64 r.locs) (p := ⟨W0.heap.size, 2, none⟩) ((H3 W2).drew) (fun e => absurd (show W0.heap.size = w.heap.size + 1 + 1 from e) (by omega)) y2
          have k_y3 := cell_keepQ (v := .slice (some cd) r.code.2.1 r.code.2.2) (p := ⟨W0.heap.size, 3, none⟩) ((H3 W2).drew) (fun e => absurd (show W0.heap.size = w.heap.size + 1 + 1 from e) (by omega)) y3
          have k_y4 := cell_keepQ (v := .slice r.hnd.1 r.hnd.2.1 r.hnd.2.2) (p := ⟨W0.heap.size, 4, none⟩) ((H3 W2).drew) (fun e => absurd (show W0.heap.size = w.heap.size + 1 + 1 from e) (by omega)) y4
          have k_f1 := cell_keepQ (v := .int .i64 (j : Int)) (p := ⟨w.heap.size + 1, 1, none⟩) ((H3 W2).drew) (fun e => absurd (show w.heap.size + 1 = w.heap.size + 1 + 1 from e) (by omega)) f1
          have k_x0 := cell_keepQ (v := .int .i64 o1) (p := (cd.add (j * 2))) ((H3 W2).drew) hn1 x0
          have k_x1 := cell_keepQ (v := .int .i64 a1) (p := ⟨(cd.add (j * 2)).block, (cd.add (j * 2)).off + 1, none⟩) ((H3 W2).drew) hn1 x1
          clear H3
          refine start_ (n := 10) (S := fun w' => w'.cell? ⟨W0.heap.size, 0, none⟩ = some (.string r.name) ∧ w'.cell? ⟨W0.heap.size, 1, none⟩ = some (.int .i64 r.pars) ∧ w'.cell? ⟨W0.heap.size, 2, none⟩ = some (.int .i64 r.locs) ∧ w'.cell? ⟨W0.heap.size, 3, none⟩ = some (.slice (some cd) r.code.2.1 r.code.2.2) ∧ w'.cell? ⟨W0.heap.size, 4, none⟩ = some (.slice r.hnd.1 r.hnd.2.1 r.hnd.2.2) ∧ w'.cell? ⟨w.heap.size + 1, 1, none⟩ = some (.int .i64 (j : Int)) ∧ w'.cell? (cd.add (j * 2)) = some (.int .i64 o1) ∧ w'.cell? ⟨(cd.add (j * 2)).block, (cd.add (j * 2)).off + 1, none⟩ = some (.int .i64 a1)) (ds := [8]) #[false, false, false, false, false, false, false, false, false, false] (by kernel_rfl) rfl rfl ⟨y0, y1, y2, y3, y4, f1, x0, x1⟩ (fun hHeld => ?_)
          refine pure_ (i := 1) (N := some 43) (v := ?_) (a' := ?_) #[false, true, false, false, false, false, false, false, false, false] rfl rfl (by kernel_rfl) (fun _ _ _ h => h) (Or.inl ⟨by rfl, ?_⟩) ?_ ?_
          rotate_left
          · intro w'
            go_simp
            with_reducible rfl
          rotate_left
          · simp only [Act.put, List.setIfInBounds_toArray, List.set_cons_zero, List.set_cons_succ, i64_w, i32_w]
            rfl
          refine pure_ (i := 3) (N := some 45) (v := ?_) (a' := ?_) #[false, true, false, true, false, false, false, false, false, false] rfl rfl (by kernel_rfl) (fun _ _ _ h => h) (Or.inl ⟨by rfl, ?_⟩) ?_ ?_
          rotate_left
          · intro w'
            go_simp
            with_reducible rfl
          rotate_left
          · simp only [Act.put, List.setIfInBounds_toArray, List.set_cons_zero, List.set_cons_succ, i64_w, i32_w]
            rfl
          refine take_ (i := 0) (N := some 42) (v := ?_) (a' := ?_) #[true, true, false, true, false, false, false, false, false, false] rfl rfl (by kernel_rfl) (fun _ _ _ h => h) (Or.inl ⟨by rfl, ?_⟩) hHeld ?_ ?_
          rotate_left
          · rintro w' ⟨s0, s1, s2, s3, s4, s5, s6, s7⟩
            go_simp
            with_reducible rfl
          rotate_left
          · simp only [Act.put, List.setIfInBounds_toArray, List.set_cons_zero, List.set_cons_succ, i64_w, i32_w]
            rfl
          refine take_ (i := 2) (N := some 44) (v := ?_) (a' := ?_) #[true, true, true, true, false, false, false, false, false, false] rfl rfl (by kernel_rfl) (fun _ _ _ h => h) (Or.inl ⟨by rfl, ?_⟩) hHeld ?_ ?_
          rotate_left
          · rintro w' ⟨s0, s1, s2, s3, s4, s5, s6, s7⟩
            go_simp
            with_reducible rfl
          rotate_left
          · simp only [Act.put, List.setIfInBounds_toArray, List.set_cons_zero, List.set_cons_succ, i64_w, i32_w]
            rfl
          refine take_ (i := 4) (N := some 46) (v := ?_) (a' := ?_) #[true, true, true, true, true, false, false, false, false, false] rfl rfl (by kernel_rfl) (fun _ _ _ h => h) (Or.inl ⟨by rfl, ?_⟩) hHeld ?_ ?_
          rotate_left
          · rintro w' ⟨s0, s1, s2, s3, s4, s5, s6, s7⟩
            go_simp
            with_reducible rfl
          rotate_left
          · simp only [Act.put, List.setIfInBounds_toArray, List.set_cons_zero, List.set_cons_succ, i64_w, i32_w]
            rfl
          refine pure_ (i := 5) (N := some 47) (v := ?_) (a' := ?_) #[true, true, true, true, true, true, false, false, false, false] rfl rfl (by kernel_rfl) (fun _ _ _ h => h) (Or.inl ⟨by rfl, ?_⟩) ?_ ?_
          rotate_left
          · intro w'
            go_simp
            with_reducible rfl
          rotate_left
          · simp only [Act.put, List.setIfInBounds_toArray, List.set_cons_zero, List.set_cons_succ, i64_w, i32_w]
            rfl
          refine take_ (i := 6) (N := some 48) (v := ?_) (a' := ?_) #[true, true, true, true, true, true, true, false, false, false] rfl rfl (by kernel_rfl) (fun _ _ _ h => h) (Or.inl ⟨by rfl, ?_⟩) hHeld ?_ ?_
          rotate_left
          · rintro w' ⟨s0, s1, s2, s3, s4, s5, s6, s7⟩
            go_simp
            with_reducible rfl
          rotate_left
          · simp only [Act.put, List.setIfInBounds_toArray, List.set_cons_zero, List.set_cons_succ, i64_w, i32_w]
            rfl
          refine one_ (i := 7) (N := none) #[true, true, true, true, true, true, true, true, false, false] rfl rfl (by kernel_rfl) (by decide) (fun K hK => ?_)
          refine skip_ (w1 := ?_) (by rfl) rfl ?_ ?_
          rotate_left
          · go_simp
            rfl
          refine hK.out _ _ ⟨k_y0, k_y1, k_y2, k_y3, k_y4, k_f1, k_x0, k_x1⟩ (fun hHeld => ?_)
          clear hK K
          refine last_ (i := 8) (N := none) #[true, true, true, true, true, true, true, true, true, false] rfl rfl (by kernel_rfl) (by decide) (fun K hK => ?_)
          refine skip_ (w1 := ?_) (by rfl) rfl ?_ ?_
          rotate_left
          · go_simp
            rfl
          refine hK.out _ _ ?_
          clear hK K
          refine pure_ (i := 9) (N := some 6) (v := ?_) (a' := ?_) #[true, true, true, true, true, true, true, true, true, true] rfl rfl (by kernel_rfl) (fun _ _ _ h => h) (Or.inl ⟨by rfl, ?_⟩) ?_ ?_
          rotate_left
          · intro w'
            go_simp
            with_reducible rfl
          rotate_left
          · simp only [Act.put, List.setIfInBounds_toArray, List.set_cons_zero, List.set_cons_succ, i64_w, i32_w]
            rfl
          refine done_ (by kernel_rfl) ?_

          clear k_y0 k_y1 k_y2 k_y3 k_y4 k_f1 k_x0 k_x1
          go_wp2
          (try simp only [Exit.inBlock, Exit.then])
          have hroc : RawOf w ⟨r.name, r.pars, r.locs, (some cd, r.code.2.1, r.code.2.2), r.hnd⟩ g := by have h := hro.out; exact ⟨h.1, h.2.1, h.2.2.1, by have h5 := h.2.2.2.1; rw [e1A.out] at h5; exact h5, h.2.2.2.2⟩
          have H1 := (Chg.setCell (Chg.setCell (Chg.setCell (Chg.setCell (Chg.setCell (Chg.refl (fun k => k = w.heap.size + 1 + 1) W2) (p := ⟨w.heap.size + 1 + 1, 0, none⟩) (fun _ => rfl) (.string r.name)) (p := ⟨w.heap.size + 1 + 1, 1, none⟩) (fun _ => rfl) (.int .i64 r.pars)) (p := ⟨w.heap.size + 1 + 1, 2, none⟩) (fun _ => rfl) (.int .i64 r.locs)) (p := ⟨w.heap.size + 1 + 1, 3, none⟩) (fun _ => rfl) (.slice (some cd) r.code.2.1 r.code.2.2)) (p := ⟨w.heap.size + 1 + 1, 4, none⟩) (fun _ => rfl) (.slice r.hnd.1 r.hnd.2.1 r.hnd.2.2))
          have c1 := (blk_set (blk_set (blk_set (blk_set (blk_set B3.out 0 (.string r.name)) 1 (.int .i64 r.pars)) 2 (.int .i64 r.locs)) 3 (.slice (some cd) r.code.2.1 r.code.2.2)) 4 (.slice r.hnd.1 r.hnd.2.1 r.hnd.2.2))
          have c2 := H1.blk B4.out (by omega)
          have H2 := fun W9 : World => (Chg.setCell (Chg.setCell (Chg.refl (fun k => k = w.heap.size + 1 + 1 + 1) W9) (p := ⟨w.heap.size + 1 + 1 + 1, 0, none⟩) (fun _ => rfl) (.int .i64 o1)) (p := ⟨w.heap.size + 1 + 1 + 1, 1, none⟩) (fun _ => rfl) (.int .i64 a1))
          have c3 := (H2 _).blk c1 (by omega)
          replace c2 := (blk_set (blk_set c2 0 (.int .i64 o1)) 1 (.int .i64 a1))
          have c4 := ((hz1.out.trans H1 (fun k hk h => by omega)).trans (H2 _) (fun k hk h => by omega)).drew
          replace c3 := blk_drew c3
          replace c2 := blk_drew c2
          generalize hWf : World.drew _ = Wf at c2 c3 c4 ⊢
          clear hWf
          refine bodyPost_ret (results_c3 rfl _ _ _ _ _ rfl rfl _ _ (run_loadVar_row _ _ _ _ _ _ _ c3 Try.underlying33 rfl (by kernel_rfl)) (run_loadVar_row _ _ _ _ _ _ _ c2 Try.underlying92 rfl (by kernel_rfl))) rfl ?_
          exact ⟨c4, _, rfl, hroc⟩
end Go.Proofs.Ytdoghjmanogelaa.K
