import Derived.Test.YtdoghjmanogelaaSo
import Derived.IntWalk
import Derived.BigQuiet
import Derived.Deep.RegionHeld3
namespace Go.Proofs.Ytdoghjmanogelaa.K
open Go.RowKit Go.Proofs.YtdoghjmanogelaaW.PrintWords Go.Proofs.YtdoghjmanogelaaW.PrintLast Go.Proofs.YtdoghjmanogelaaW.PrintMore
set_option linter.unusedVariables false
set_option linter.unusedSimpArgs false
set_option maxRecDepth 100000

def nextQ (p : QP) (s : QS) (i : Int) : Option (QI × QFr) := match lastQ s i with
  | none => none
  | some f => match atQ p f.fn f.pc with
    | none => none
    | some (_, x) => some (x, f)
def NextPost (w : World) (o : Option (QI × QFr)) (e : Ending) (w' : World) : Prop := Chg (fun _ => False) w w' ∧ match o with
  | none => e = .returned (.tuple #[.agg #[.int .i64 0, .int .i64 0], .agg #[.int .i64 0, .int .i64 0, .slice none 0 0], .bool false])
  | some (x, f) => ∃ sv : SV, e = .returned (.tuple #[.agg #[.int .i64 x.op, .int .i64 x.a], .agg #[.int .i64 f.fn, .int .i64 f.pc, svl sv], .bool true]) ∧ Kd.C kQV w sv.1 sv.2.1 f.slots
theorem atQ_none {p : QP} {fn pc : Int} (h : atQ p fn pc = none) : fn < 0 ∨ (p.funcs.length : Int) ≤ fn ∨ ∃ (k : Nat) (g : QF), fn = k ∧ p.funcs[k]? = some g ∧ (pc < 0 ∨ (g.code.length : Int) ≤ pc) := by
  unfold atQ at h
  by_cases h0 : fn < 0
  · exact .inl h0
  · rw [if_neg h0] at h
    obtain ⟨k, rfl⟩ : ∃ k : Nat, fn = k := ⟨fn.toNat, by omega⟩
    rw [Int.toNat_natCast] at h
    cases hg : p.funcs[k]? with
    | none => have := List.getElem?_eq_none_iff.1 hg; exact .inr (.inl (by omega))
    | some g =>
      rw [hg] at h
      refine .inr (.inr ⟨k, g, rfl, hg, ?_⟩)
      by_cases h1 : pc < 0
      · exact .inl h1
      · simp only [if_neg h1] at h
        cases hx : g.code[pc.toNat]? with
        | none => have := List.getElem?_eq_none_iff.1 hx; exact .inr (by omega)
        | some x => rw [hx] at h; cases h
theorem atQ_some {p : QP} {fn pc : Int} {g : QF} {x : QI} (h : atQ p fn pc = some (g, x)) : ∃ k j : Nat, fn = k ∧ pc = j ∧ p.funcs[k]? = some g ∧ g.code[j]? = some x := by
  unfold atQ at h
  by_cases h0 : fn < 0
  · rw [if_pos h0] at h; cases h
  · rw [if_neg h0] at h
    cases hg : p.funcs[fn.toNat]? with
    | none => rw [hg] at h; cases h
    | some g' =>
      rw [hg] at h
      by_cases h1 : pc < 0
      · simp only [if_pos h1] at h; cases h
      · simp only [if_neg h1] at h
        cases hx : g'.code[pc.toNat]? with
        | none => rw [hx] at h; cases h
        | some y =>
          rw [hx] at h
          injection h with h
          injection h with h2 h3
          subst h2 h3
          exact ⟨fn.toNat, pc.toNat, by omega, by omega, hg, hx⟩
set_option maxHeartbeats 8000000
theorem ref_Next (w : World) (cA fA tA oA bA : Option Addr) (nc cc fc tc oc bc : Nat) (p : QP) (s : QS) (rs : List QR) (ros : List RO) (rbs : List RB) (L : List (List RF)) (i : Int) (hp : PV w cA fA p rs) (h : SView w tA oA bA s ros rbs L) (hN : SNum s) (hi1 : i ≤ 9223372036854775807) :
    Calls Try.prog 51 #[.agg #[.slice cA nc cc, .slice fA p.funcs.length fc], .agg #[.slice tA s.texts.length tc, .slice oA s.objs.length oc, .slice bA s.fibers.length bc, .int .i64 s.cur, .int .i64 s.steps, .int .i64 s.spent, .int .i64 s.read], .int .i64 i] w (NextPost w (nextQ p s i)) := by
  have hP := Aside0.mk hp
  have hV := Aside0.mk h
  have hb := h.bs.2.1
  have hbf := hp.fs.2.1
  clear hp h
  cases hq : lastQ s i with
  | none =>
    have hNx : nextQ p s i = none := by unfold nextQ; rw [hq]
    rw [hNx]
    clear hNx
    go_enter Try.func51, Try.ntmps51
    go_upto_region 1 with (fail)
    (try simp only [Act.put, List.setIfInBounds_toArray, List.set_cons_zero, List.set_cons_succ])
    generalize hW : World.alloc (World.alloc (World.alloc (World.alloc w _) _) _) _ = W0
    have B1 : Aside0 (W0.heap[w.heap.size]? = some (.cells #[.slice cA nc cc, .slice fA p.funcs.length fc] 25)) := ⟨by rw [← hW]; exact ((((Chg.refl (fun _ => False) (w.alloc _)).alloc _).alloc _).alloc _).blk (heap_alloc_new w _) (fun e => e)⟩
    have B2 : Aside0 (W0.heap[w.heap.size + 1]? = some (.cells #[.slice tA s.texts.length tc, .slice oA s.objs.length oc, .slice bA s.fibers.length bc, .int .i64 s.cur, .int .i64 s.steps, .int .i64 s.spent, .int .i64 s.read] 40)) := ⟨by rw [← hW]; exact (((Chg.refl (fun _ => False) ((w.alloc _).alloc _)).alloc _).alloc _).blk (heap_alloc2_new w _ _) (fun e => e)⟩
    have B3 : Aside0 (W0.heap[w.heap.size + 1 + 1]? = some (.cells #[.int .i64 0, .int .i64 0] 92)) := ⟨by rw [← hW]; exact ((Chg.refl (fun _ => False) (((w.alloc _).alloc _).alloc _)).alloc _).blk (heap_al3 w _ _ _) (fun e => e)⟩
    have B4 : Aside0 (W0.heap[w.heap.size + 1 + 1 + 1]? = some (.cells #[.int .i64 0, .int .i64 0, .slice none 0 0] 54)) := ⟨by rw [← hW]; exact heap_al4 w _ _ _ _⟩
    have hz0 : Aside0 (Chg (fun _ => False) w W0) := ⟨by rw [← hW]; exact cg⟩
    clear hW
    have hgt := blk_lt B4.out
    have s2 : W0.cell? ⟨w.heap.size + 1, 2, none⟩ = some (.slice bA s.fibers.length bc) := blk_cell B2.out 2
    have hz1 := hz0
    have t3_0 := blk_cell (w := W0) B3.out 0
    have t3_1 := blk_cell (w := W0) B3.out 1
    have t4_0 := blk_cell (w := W0) B4.out 0
    have t4_1 := blk_cell (w := W0) B4.out 1
    have t4_2 := blk_cell (w := W0) B4.out 2
    have u3_0 := blk_frozen B3.out 0
    have u3_1 := blk_frozen B3.out 1
    have u4_0 := blk_frozen B4.out 0
    have u4_1 := blk_frozen B4.out 1
    have u4_2 := blk_frozen B4.out 2
    rcases lastQ_none hq with h1 | h1 | ⟨j, b, rfl, h1, h2⟩
    · clear hq
      go_wp2
      (try simp only [Exit.inBlock, Exit.then])
      have H1 := (Chg.setCell (Chg.setCell (Chg.refl (fun k => k = w.heap.size + 1 + 1) W0) (p := ⟨w.heap.size + 1 + 1, 0, none⟩) (fun _ => rfl) (.int .i64 0)) (p := ⟨w.heap.size + 1 + 1, 1, none⟩) (fun _ => rfl) (.int .i64 0))
      have c1 := (blk_set (blk_set B3.out 0 (.int .i64 0)) 1 (.int .i64 0))
      have c2 := H1.blk B4.out (by omega)
      have H2 := fun W9 : World => (Chg.setCell (Chg.setCell (Chg.setCell (Chg.refl (fun k => k = w.heap.size + 1 + 1 + 1) W9) (p := ⟨w.heap.size + 1 + 1 + 1, 0, none⟩) (fun _ => rfl) (.int .i64 0)) (p := ⟨w.heap.size + 1 + 1 + 1, 1, none⟩) (fun _ => rfl) (.int .i64 0)) (p := ⟨w.heap.size + 1 + 1 + 1, 2, none⟩) (fun _ => rfl) (.slice none 0 0))
      have c3 := (H2 _).blk c1 (by omega)
      replace c2 := (blk_set (blk_set (blk_set c2 0 (.int .i64 0)) 1 (.int .i64 0)) 2 (.slice none 0 0))
      have c4 := (hz1.out.trans H1 (fun k hk h => by omega)).trans (H2 _) (fun k hk h => by omega)
      refine bodyPost_ret (results_c3 rfl _ _ _ _ _ rfl rfl _ _ (run_loadVar_row _ _ _ _ _ _ _ c3 Try.underlying92 rfl (by kernel_rfl)) (run_loadVar_row _ _ _ _ _ _ _ c2 Try.underlying54 rfl (by kernel_rfl))) rfl ?_
      exact ⟨c4, rfl⟩
    · have h3 : ¬ i < 0 := by omega
      clear hq
      go_wp2
      (try simp only [Exit.inBlock, Exit.then])
      have H1 := (Chg.setCell (Chg.setCell (Chg.refl (fun k => k = w.heap.size + 1 + 1) W0) (p := ⟨w.heap.size + 1 + 1, 0, none⟩) (fun _ => rfl) (.int .i64 0)) (p := ⟨w.heap.size + 1 + 1, 1, none⟩) (fun _ => rfl) (.int .i64 0))
      have c1 := (blk_set (blk_set B3.out 0 (.int .i64 0)) 1 (.int .i64 0))
      have c2 := H1.blk B4.out (by omega)
      have H2 := fun W9 : World => (Chg.setCell (Chg.setCell (Chg.setCell (Chg.refl (fun k => k = w.heap.size + 1 + 1 + 1) W9) (p := ⟨w.heap.size + 1 + 1 + 1, 0, none⟩) (fun _ => rfl) (.int .i64 0)) (p := ⟨w.heap.size + 1 + 1 + 1, 1, none⟩) (fun _ => rfl) (.int .i64 0)) (p := ⟨w.heap.size + 1 + 1 + 1, 2, none⟩) (fun _ => rfl) (.slice none 0 0))
      have c3 := (H2 _).blk c1 (by omega)
      replace c2 := (blk_set (blk_set (blk_set c2 0 (.int .i64 0)) 1 (.int .i64 0)) 2 (.slice none 0 0))
      have c4 := (hz1.out.trans H1 (fun k hk h => by omega)).trans (H2 _) (fun k hk h => by omega)
      refine bodyPost_ret (results_c3 rfl _ _ _ _ _ rfl rfl _ _ (run_loadVar_row _ _ _ _ _ _ _ c3 Try.underlying92 rfl (by kernel_rfl)) (run_loadVar_row _ _ _ _ _ _ _ c2 Try.underlying54 rfl (by kernel_rfl))) rfl ?_
      exact ⟨c4, rfl⟩
    · have hv := (hV.out.below (w' := W0) bl).zip
      have hj := (List.getElem?_eq_some_iff.1 h1).1
      obtain ⟨bd, q, e1, e2, z0⟩ := atRB hv.2.2 j hj
      subst e1
      obtain ⟨⟨z1, zl⟩, hz, e⟩ := pair_at e2
      subst e
      have hzx := hv.2.1 j _ b hz h1
      have hn : q.frames.2.1 = 0 := by have h3 := hzx.1.1; have h4 := hzx.2.1; simp only at h3 h4; omega
      simp only [hn] at z0
      have hj1 : (j : Int) < s.fibers.length := by omega
      clear hq hv e2 hz hzx hn h1 h2
      go_wp2
      (try simp only [Exit.inBlock, Exit.then])
      have H1 := (Chg.setCell (Chg.setCell (Chg.refl (fun k => k = w.heap.size + 1 + 1) W0) (p := ⟨w.heap.size + 1 + 1, 0, none⟩) (fun _ => rfl) (.int .i64 0)) (p := ⟨w.heap.size + 1 + 1, 1, none⟩) (fun _ => rfl) (.int .i64 0))
      have c1 := (blk_set (blk_set B3.out 0 (.int .i64 0)) 1 (.int .i64 0))
      have c2 := H1.blk B4.out (by omega)
      have H2 := fun W9 : World => (Chg.setCell (Chg.setCell (Chg.setCell (Chg.refl (fun k => k = w.heap.size + 1 + 1 + 1) W9) (p := ⟨w.heap.size + 1 + 1 + 1, 0, none⟩) (fun _ => rfl) (.int .i64 0)) (p := ⟨w.heap.size + 1 + 1 + 1, 1, none⟩) (fun _ => rfl) (.int .i64 0)) (p := ⟨w.heap.size + 1 + 1 + 1, 2, none⟩) (fun _ => rfl) (.slice none 0 0))
      have c3 := (H2 _).blk c1 (by omega)
      replace c2 := (blk_set (blk_set (blk_set c2 0 (.int .i64 0)) 1 (.int .i64 0)) 2 (.slice none 0 0))
      have c4 := (hz1.out.trans H1 (fun k hk h => by omega)).trans (H2 _) (fun k hk h => by omega)
      refine bodyPost_ret (results_c3 rfl _ _ _ _ _ rfl rfl _ _ (run_loadVar_row _ _ _ _ _ _ _ c3 Try.underlying92 rfl (by kernel_rfl)) (run_loadVar_row _ _ _ _ _ _ _ c2 Try.underlying54 rfl (by kernel_rfl))) rfl ?_
      exact ⟨c4, rfl⟩
  | some f =>
    obtain ⟨b9, hb9, hf9⟩ := lastQ_mem hq
    obtain ⟨hf1, hf2⟩ := hN.fn b9 hb9 f hf9
    clear hb9 hf9
    obtain ⟨o, ho⟩ : ∃ o, nextQ p s i = o := ⟨_, rfl⟩
    rw [ho]
    unfold nextQ at ho
    rw [hq] at ho
    simp only at ho
    obtain ⟨j, b, rfl, hb1, hb2, hb3⟩ := lastQ_some hq
    go_enter Try.func51, Try.ntmps51
    go_upto_region 1 with (fail)
    (try simp only [Act.put, List.setIfInBounds_toArray, List.set_cons_zero, List.set_cons_succ])
    generalize hW : World.alloc (World.alloc (World.alloc (World.alloc w _) _) _) _ = W0
    have B1 : Aside0 (W0.heap[w.heap.size]? = some (.cells #[.slice cA nc cc, .slice fA p.funcs.length fc] 25)) := ⟨by rw [← hW]; exact ((((Chg.refl (fun _ => False) (w.alloc _)).alloc _).alloc _).alloc _).blk (heap_alloc_new w _) (fun e => e)⟩
    have B2 : Aside0 (W0.heap[w.heap.size + 1]? = some (.cells #[.slice tA s.texts.length tc, .slice oA s.objs.length oc, .slice bA s.fibers.length bc, .int .i64 s.cur, .int .i64 s.steps, .int .i64 s.spent, .int .i64 s.read] 40)) := ⟨by rw [← hW]; exact (((Chg.refl (fun _ => False) ((w.alloc _).alloc _)).alloc _).alloc _).blk (heap_alloc2_new w _ _) (fun e => e)⟩
    have B3 : Aside0 (W0.heap[w.heap.size + 1 + 1]? = some (.cells #[.int .i64 0, .int .i64 0] 92)) := ⟨by rw [← hW]; exact ((Chg.refl (fun _ => False) (((w.alloc _).alloc _).alloc _)).alloc _).blk (heap_al3 w _ _ _) (fun e => e)⟩
    have B4 : Aside0 (W0.heap[w.heap.size + 1 + 1 + 1]? = some (.cells #[.int .i64 0, .int .i64 0, .slice none 0 0] 54)) := ⟨by rw [← hW]; exact heap_al4 w _ _ _ _⟩
    have hz0 : Aside0 (Chg (fun _ => False) w W0) := ⟨by rw [← hW]; exact cg⟩
    clear hW
    have hgt := blk_lt B4.out
    have s2 : W0.cell? ⟨w.heap.size + 1, 2, none⟩ = some (.slice bA s.fibers.length bc) := blk_cell B2.out 2
    have hv := (hV.out.below (w' := W0) bl).zip
    have hj := (List.getElem?_eq_some_iff.1 hb1).1
    obtain ⟨bd, q, e1, e2, z0⟩ := atRB hv.2.2 j hj
    subst e1
    obtain ⟨⟨z1, zl⟩, hz, e⟩ := pair_at e2
    subst e
    have hzx := hv.2.1 j _ b hz hb1
    obtain ⟨⟨sA, sN, sC⟩⟩ := q
    obtain rfl : sN = b.frames.length := hzx.1.1.symm.trans hzx.2.1
    have hzo := (hV.out.zip).2.1 j _ b hz hb1
    have hbn := hzx.1.2.1
    obtain ⟨m, hm⟩ : ∃ m, b.frames.length = m + 1 := ⟨b.frames.length - 1, by omega⟩
    simp only at hzx z0 hbn hzo
    rw [hm] at hzx z0 hb3 hbn hzo
    rw [Nat.add_sub_cancel] at hb3
    obtain ⟨fd, r, e1, e3, x0, x1, x2⟩ := atRF hzx.1 m (Nat.lt_succ_self m)
    subst e1
    obtain ⟨k1, k2, k3⟩ := hzx.2.2 m r f e3 hb3
    obtain ⟨_, _, ko⟩ := hzo.2.2 m r f e3 hb3
    replace ko := Aside0.mk ko
    have hj1 : (j : Int) < s.fibers.length := by omega
    have hm0 : ((m : Int) + 1 == 0) = false := by rw [beq_eq_false_iff_ne]; omega
    rw [k1] at x0
    rw [k2] at x1
    clear hq hv e2 hz hzx hzo hb1 hb2 hb3 e3 k1 k2 k3 hm
    go_upto_region 5 with (fail)
    (try simp only [Act.put, List.setIfInBounds_toArray, List.set_cons_zero, List.set_cons_succ])
    generalize hW : World.alloc W0 _ = W2
    have B5 : Aside0 (W2.heap[W0.heap.size]? = some (.cells #[.int .i64 f.fn, .int .i64 f.pc, .slice r.slots.1 r.slots.2.1 r.slots.2.2] 54)) := ⟨by rw [← hW]; exact heap_alloc_new W0 _⟩
    have hz2 : Aside0 (Chg (fun _ => False) W0 W2) := ⟨by rw [← hW]; exact cg⟩
    clear hW s2 z0 x0 x1 x2 hm0
    have hz1 : Aside0 (Chg (fun _ => False) w W2) := ⟨cg⟩
    replace B1 := Aside0.mk (hz2.out.blk B1.out (fun h => h))
    replace B3 := Aside0.mk (hz2.out.blk B3.out (fun h => h))
    replace B4 := Aside0.mk (hz2.out.blk B4.out (fun h => h))
    have f0 : W2.cell? ⟨W0.heap.size, 0, none⟩ = some (.int .i64 f.fn) := blk_cell B5.out 0
    have f1 : W2.cell? ⟨W0.heap.size, 1, none⟩ = some (.int .i64 f.pc) := blk_cell B5.out 1
    have p1 : W2.cell? ⟨w.heap.size, 1, none⟩ = some (.slice fA p.funcs.length fc) := blk_cell B1.out 1
    cases hq2 : atQ p f.fn f.pc with
    | none =>
      rw [hq2] at ho
      simp only at ho
      subst ho
      rcases atQ_none hq2 with h1 | h1 | ⟨k, g, h1, h2, h3⟩
      · have d1 : decide (f.fn < 0) = true := by simpa using h1
        clear hq2
        go_quiet (fail)
        go_upto_region 6 with (fail)
        (try simp only [Act.put, List.setIfInBounds_toArray, List.set_cons_zero, List.set_cons_succ])
        generalize hW9 : World.drewN W2 _ = W9
        replace B3 : Aside0 (W9.heap[w.heap.size + 1 + 1]? = some (.cells #[.int .i64 0, .int .i64 0] 92)) := ⟨by rw [← hW9]; exact blk_drewN B3.out _⟩
        replace B4 : Aside0 (W9.heap[w.heap.size + 1 + 1 + 1]? = some (.cells #[.int .i64 0, .int .i64 0, .slice none 0 0] 54)) := ⟨by rw [← hW9]; exact blk_drewN B4.out _⟩
        replace hz1 : Aside0 (Chg (fun _ => False) w W9) := ⟨by rw [← hW9]; exact (hz1.out).drewN _⟩
        clear hW9
        have t3_0 := blk_cell (w := W9) B3.out 0
        have t3_1 := blk_cell (w := W9) B3.out 1
        have t4_0 := blk_cell (w := W9) B4.out 0
        have t4_1 := blk_cell (w := W9) B4.out 1
        have t4_2 := blk_cell (w := W9) B4.out 2
        have u3_0 := blk_frozen B3.out 0
        have u3_1 := blk_frozen B3.out 1
        have u4_0 := blk_frozen B4.out 0
        have u4_1 := blk_frozen B4.out 1
        have u4_2 := blk_frozen B4.out 2
        go_wp2
        (try simp only [Exit.inBlock, Exit.then])
        have H1 := (Chg.setCell (Chg.setCell (Chg.refl (fun k => k = w.heap.size + 1 + 1) W9) (p := ⟨w.heap.size + 1 + 1, 0, none⟩) (fun _ => rfl) (.int .i64 0)) (p := ⟨w.heap.size + 1 + 1, 1, none⟩) (fun _ => rfl) (.int .i64 0))
        have c1 := (blk_set (blk_set B3.out 0 (.int .i64 0)) 1 (.int .i64 0))
        have c2 := H1.blk B4.out (by omega)
        have H2 := fun W9 : World => (Chg.setCell (Chg.setCell (Chg.setCell (Chg.refl (fun k => k = w.heap.size + 1 + 1 + 1) W9) (p := ⟨w.heap.size + 1 + 1 + 1, 0, none⟩) (fun _ => rfl) (.int .i64 0)) (p := ⟨w.heap.size + 1 + 1 + 1, 1, none⟩) (fun _ => rfl) (.int .i64 0)) (p := ⟨w.heap.size + 1 + 1 + 1, 2, none⟩) (fun _ => rfl) (.slice none 0 0))
        have c3 := (H2 _).blk c1 (by omega)
        replace c2 := (blk_set (blk_set (blk_set c2 0 (.int .i64 0)) 1 (.int .i64 0)) 2 (.slice none 0 0))
        have c4 := (hz1.out.trans H1 (fun k hk h => by omega)).trans (H2 _) (fun k hk h => by omega)
        refine bodyPost_ret (results_c3 rfl _ _ _ _ _ rfl rfl _ _ (run_loadVar_row _ _ _ _ _ _ _ c3 Try.underlying92 rfl (by kernel_rfl)) (run_loadVar_row _ _ _ _ _ _ _ c2 Try.underlying54 rfl (by kernel_rfl))) rfl ?_
        exact ⟨c4, rfl⟩
      · have d1 : decide (f.fn < 0) = false := by simp; omega
        have d2 : decide ((p.funcs.length : Int) ≤ f.fn) = true := by simpa using h1
        clear hq2
        go_quiet (fail)
        go_upto_region 6 with (fail)
        (try simp only [Act.put, List.setIfInBounds_toArray, List.set_cons_zero, List.set_cons_succ])
        generalize hW9 : World.drewN W2 _ = W9
        replace B3 : Aside0 (W9.heap[w.heap.size + 1 + 1]? = some (.cells #[.int .i64 0, .int .i64 0] 92)) := ⟨by rw [← hW9]; exact blk_drewN B3.out _⟩
        replace B4 : Aside0 (W9.heap[w.heap.size + 1 + 1 + 1]? = some (.cells #[.int .i64 0, .int .i64 0, .slice none 0 0] 54)) := ⟨by rw [← hW9]; exact blk_drewN B4.out _⟩
        replace hz1 : Aside0 (Chg (fun _ => False) w W9) := ⟨by rw [← hW9]; exact (hz1.out).drewN _⟩
        clear hW9
        have t3_0 := blk_cell (w := W9) B3.out 0
        have t3_1 := blk_cell (w := W9) B3.out 1
        have t4_0 := blk_cell (w := W9) B4.out 0
        have t4_1 := blk_cell (w := W9) B4.out 1
        have t4_2 := blk_cell (w := W9) B4.out 2
        have u3_0 := blk_frozen B3.out 0
        have u3_1 := blk_frozen B3.out 1
        have u4_0 := blk_frozen B4.out 0
        have u4_1 := blk_frozen B4.out 1
        have u4_2 := blk_frozen B4.out 2
        go_wp2
        (try simp only [Exit.inBlock, Exit.then])
        have H1 := (Chg.setCell (Chg.setCell (Chg.refl (fun k => k = w.heap.size + 1 + 1) W9) (p := ⟨w.heap.size + 1 + 1, 0, none⟩) (fun _ => rfl) (.int .i64 0)) (p := ⟨w.heap.size + 1 + 1, 1, none⟩) (fun _ => rfl) (.int .i64 0))
        have c1 := (blk_set (blk_set B3.out 0 (.int .i64 0)) 1 (.int .i64 0))
        have c2 := H1.blk B4.out (by omega)
        have H2 := fun W9 : World => (Chg.setCell (Chg.setCell (Chg.setCell (Chg.refl (fun k => k = w.heap.size + 1 + 1 + 1) W9) (p := ⟨w.heap.size + 1 + 1 + 1, 0, none⟩) (fun _ => rfl) (.int .i64 0)) (p := ⟨w.heap.size + 1 + 1 + 1, 1, none⟩) (fun _ => rfl) (.int .i64 0)) (p := ⟨w.heap.size + 1 + 1 + 1, 2, none⟩) (fun _ => rfl) (.slice none 0 0))
        have c3 := (H2 _).blk c1 (by omega)
        replace c2 := (blk_set (blk_set (blk_set c2 0 (.int .i64 0)) 1 (.int .i64 0)) 2 (.slice none 0 0))
        have c4 := (hz1.out.trans H1 (fun k hk h => by omega)).trans (H2 _) (fun k hk h => by omega)
        refine bodyPost_ret (results_c3 rfl _ _ _ _ _ rfl rfl _ _ (run_loadVar_row _ _ _ _ _ _ _ c3 Try.underlying92 rfl (by kernel_rfl)) (run_loadVar_row _ _ _ _ _ _ _ c2 Try.underlying54 rfl (by kernel_rfl))) rfl ?_
        exact ⟨c4, rfl⟩
      · have hk := (List.getElem?_eq_some_iff.1 h2).1
        obtain ⟨ad, r9, e1, e2, y0, y1, y2, y3, y4⟩ := raw_at (hP.out.below (w' := W2) bl).fs k hk
        subst e1
        have hcl : r9.code.2.1 = g.code.length := ((hP.out.below (w' := W2) bl).raw k r9 g e2 h2).2.2.2.1.1.symm
        rw [hcl] at y3
        rw [h1] at f0 B5
        have hk1 : (k : Int) < p.funcs.length := by omega
        have d1 : decide ((k : Int) < 0) = false := by simp
        have d2 : decide (p.funcs.length ≤ k) = false := by simpa using hk
        clear hq2 h1 h2 hcl e2 y0 y1 y2 y4 hb hf1 hN hP hV b9
        rcases h3 with h3 | h3
        · have d3 : decide (f.pc < 0) = true := by simpa using h3
          go_quiet (fail)
          go_upto_region 6 with (fail)
          (try simp only [Act.put, List.setIfInBounds_toArray, List.set_cons_zero, List.set_cons_succ])
          generalize hW9 : World.drewN W2 _ = W9
          replace B3 : Aside0 (W9.heap[w.heap.size + 1 + 1]? = some (.cells #[.int .i64 0, .int .i64 0] 92)) := ⟨by rw [← hW9]; exact blk_drewN B3.out _⟩
          replace B4 : Aside0 (W9.heap[w.heap.size + 1 + 1 + 1]? = some (.cells #[.int .i64 0, .int .i64 0, .slice none 0 0] 54)) := ⟨by rw [← hW9]; exact blk_drewN B4.out _⟩
          replace hz1 : Aside0 (Chg (fun _ => False) w W9) := ⟨by rw [← hW9]; exact (hz1.out).drewN _⟩
          clear hW9
          have t3_0 := blk_cell (w := W9) B3.out 0
          have t3_1 := blk_cell (w := W9) B3.out 1
          have t4_0 := blk_cell (w := W9) B4.out 0
          have t4_1 := blk_cell (w := W9) B4.out 1
          have t4_2 := blk_cell (w := W9) B4.out 2
          have u3_0 := blk_frozen B3.out 0
          have u3_1 := blk_frozen B3.out 1
          have u4_0 := blk_frozen B4.out 0
          have u4_1 := blk_frozen B4.out 1
          have u4_2 := blk_frozen B4.out 2
          go_wp2
          (try simp only [Exit.inBlock, Exit.then])
          have H1 := (Chg.setCell (Chg.setCell (Chg.refl (fun k => k = w.heap.size + 1 + 1) W9) (p := ⟨w.heap.size + 1 + 1, 0, none⟩) (fun _ => rfl) (.int .i64 0)) (p := ⟨w.heap.size + 1 + 1, 1, none⟩) (fun _ => rfl) (.int .i64 0))
          have c1 := (blk_set (blk_set B3.out 0 (.int .i64 0)) 1 (.int .i64 0))
          have c2 := H1.blk B4.out (by omega)
          have H2 := fun W9 : World => (Chg.setCell (Chg.setCell (Chg.setCell (Chg.refl (fun k => k = w.heap.size + 1 + 1 + 1) W9) (p := ⟨w.heap.size + 1 + 1 + 1, 0, none⟩) (fun _ => rfl) (.int .i64 0)) (p := ⟨w.heap.size + 1 + 1 + 1, 1, none⟩) (fun _ => rfl) (.int .i64 0)) (p := ⟨w.heap.size + 1 + 1 + 1, 2, none⟩) (fun _ => rfl) (.slice none 0 0))
          have c3 := (H2 _).blk c1 (by omega)
          replace c2 := (blk_set (blk_set (blk_set c2 0 (.int .i64 0)) 1 (.int .i64 0)) 2 (.slice none 0 0))
          have c4 := (hz1.out.trans H1 (fun k hk h => by omega)).trans (H2 _) (fun k hk h => by omega)
          refine bodyPost_ret (results_c3 rfl _ _ _ _ _ rfl rfl _ _ (run_loadVar_row _ _ _ _ _ _ _ c3 Try.underlying92 rfl (by kernel_rfl)) (run_loadVar_row _ _ _ _ _ _ _ c2 Try.underlying54 rfl (by kernel_rfl))) rfl ?_
          exact ⟨c4, rfl⟩
        · have d3 : decide (f.pc < 0) = false := by simp; omega
          have d4 : decide ((g.code.length : Int) ≤ f.pc) = true := by simpa using h3
          go_quiet (fail)
          go_upto_region 6 with (fail)
          (try simp only [Act.put, List.setIfInBounds_toArray, List.set_cons_zero, List.set_cons_succ])
          generalize hW9 : World.drewN W2 _ = W9
          replace B3 : Aside0 (W9.heap[w.heap.size + 1 + 1]? = some (.cells #[.int .i64 0, .int .i64 0] 92)) := ⟨by rw [← hW9]; exact blk_drewN B3.out _⟩
          replace B4 : Aside0 (W9.heap[w.heap.size + 1 + 1 + 1]? = some (.cells #[.int .i64 0, .int .i64 0, .slice none 0 0] 54)) := ⟨by rw [← hW9]; exact blk_drewN B4.out _⟩
          replace hz1 : Aside0 (Chg (fun _ => False) w W9) := ⟨by rw [← hW9]; exact (hz1.out).drewN _⟩
          clear hW9
          have t3_0 := blk_cell (w := W9) B3.out 0
          have t3_1 := blk_cell (w := W9) B3.out 1
          have t4_0 := blk_cell (w := W9) B4.out 0
          have t4_1 := blk_cell (w := W9) B4.out 1
          have t4_2 := blk_cell (w := W9) B4.out 2
          have u3_0 := blk_frozen B3.out 0
          have u3_1 := blk_frozen B3.out 1
          have u4_0 := blk_frozen B4.out 0
          have u4_1 := blk_frozen B4.out 1
          have u4_2 := blk_frozen B4.out 2
          go_wp2
          (try simp only [Exit.inBlock, Exit.then])
          have H1 := (Chg.setCell (Chg.setCell (Chg.refl (fun k => k = w.heap.size + 1 + 1) W9) (p := ⟨w.heap.size + 1 + 1, 0, none⟩) (fun _ => rfl) (.int .i64 0)) (p := ⟨w.heap.size + 1 + 1, 1, none⟩) (fun _ => rfl) (.int .i64 0))
          have c1 := (blk_set (blk_set B3.out 0 (.int .i64 0)) 1 (.int .i64 0))
          have c2 := H1.blk B4.out (by omega)
          have H2 := fun W9 : World => (Chg.setCell (Chg.setCell (Chg.setCell (Chg.refl (fun k => k = w.heap.size + 1 + 1 + 1) W9) (p := ⟨w.heap.size + 1 + 1 + 1, 0, none⟩) (fun _ => rfl) (.int .i64 0)) (p := ⟨w.heap.size + 1 + 1 + 1, 1, none⟩) (fun _ => rfl) (.int .i64 0)) (p := ⟨w.heap.size + 1 + 1 + 1, 2, none⟩) (fun _ => rfl) (.slice none 0 0))
          have c3 := (H2 _).blk c1 (by omega)
          replace c2 := (blk_set (blk_set (blk_set c2 0 (.int .i64 0)) 1 (.int .i64 0)) 2 (.slice none 0 0))
          have c4 := (hz1.out.trans H1 (fun k hk h => by omega)).trans (H2 _) (fun k hk h => by omega)
          refine bodyPost_ret (results_c3 rfl _ _ _ _ _ rfl rfl _ _ (run_loadVar_row _ _ _ _ _ _ _ c3 Try.underlying92 rfl (by kernel_rfl)) (run_loadVar_row _ _ _ _ _ _ _ c2 Try.underlying54 rfl (by kernel_rfl))) rfl ?_
          exact ⟨c4, rfl⟩
    | some gx =>
      obtain ⟨g, x⟩ := gx
      rw [hq2] at ho
      simp only at ho
      subst ho
      obtain ⟨k, n, h1, h2, h3, h4⟩ := atQ_some hq2
      have hk := (List.getElem?_eq_some_iff.1 h3).1
      have hn1 := (List.getElem?_eq_some_iff.1 h4).1
      obtain ⟨ad, r9, e1, e2, y0, y1, y2, y3, y4⟩ := raw_at (hP.out.below (w' := W2) bl).fs k hk
      subst e1
      have had : ad.block < w.heap.size := by obtain ⟨ad2, r2, e5, _, q0, _⟩ := raw_at hP.out.fs k hk; injection e5 with e5; subst e5; have h7 := World.block_lt_of_cell? w _ q0; rw [add_block] at h7; exact h7
      have hro := (hP.out.below (w' := W2) bl).raw k r9 g e2 h3
      have hrw := (hP.out).raw k r9 g e2 h3
      have hcl : r9.code.2.1 = g.code.length := hro.2.2.2.1.1.symm
      have hco := hro.2.2.2.1
      obtain ⟨cd, o1, a1, e1, e3, x0, x1⟩ := kQI_at hco n (by rw [hcl]; exact hn1)
      have hcd : cd.block < w.heap.size := by obtain ⟨_, _, h9⟩ := hrw.2.2.2.1; obtain ⟨ad9, e9, h9⟩ := h9 (by rw [hcl]; omega); rw [e1] at e9; injection e9 with e9; subst e9; obtain ⟨cs9, _, hk9, h8⟩ := h9 n _ h4; rw [kQI_K] at hk9; subst hk9; have h7 := World.block_lt_of_cell? w _ (h8 0 _ rfl); rw [add_block] at h7; exact h7
      rw [hcl, e1] at y3
      rw [h4] at e3
      injection e3 with e3
      subst e3
      have hk1 : (k : Int) < p.funcs.length := by omega
      have hn2 : (n : Int) < g.code.length := by omega
      have d1 : decide ((k : Int) < 0) = false := by simp
      have d2 : decide (p.funcs.length ≤ k) = false := by simpa using hk
      have d3 : decide ((n : Int) < 0) = false := by simp
      have d4 : decide (g.code.length ≤ n) = false := by simpa using hn1
      have f2 : W2.cell? ⟨W0.heap.size, 2, none⟩ = some (.slice r.slots.1 r.slots.2.1 r.slots.2.2) := blk_cell B5.out 2
      rw [h1] at f0
      rw [h2] at f1
      have h1A := Aside0.mk h1
      have h2A := Aside0.mk h2
      have hgt2 : w.heap.size + 1 + 1 + 1 < W0.heap.size := hgt
      clear hq2 h1 h2 h3 h4 hro hrw hco e1 e2 hcl y0 y1 y2 y4 hb hN hP hV b9 hf1 hf2 B5
      go_quiet (fail)
      go_upto_region 7 with (fail)
      (try simp only [Act.put, List.setIfInBounds_toArray, List.set_cons_zero, List.set_cons_succ])
      generalize hW9 : World.drewN W2 _ = W9
      replace B3 : Aside0 (W9.heap[w.heap.size + 1 + 1]? = some (.cells #[.int .i64 0, .int .i64 0] 92)) := ⟨by rw [← hW9]; exact blk_drewN B3.out _⟩
      replace B4 : Aside0 (W9.heap[w.heap.size + 1 + 1 + 1]? = some (.cells #[.int .i64 0, .int .i64 0, .slice none 0 0] 54)) := ⟨by rw [← hW9]; exact blk_drewN B4.out _⟩
      replace hz1 : Aside0 (Chg (fun _ => False) w W9) := ⟨by rw [← hW9]; exact (hz1.out).drewN _⟩
      replace p1 : W9.cell? ⟨w.heap.size, 1, none⟩ = some (.slice (some ad) p.funcs.length fc) := by rw [← hW9]; exact p1
      replace y3 : W9.cell? ⟨(ad.add (k * 5)).block, (ad.add (k * 5)).off + 3, none⟩ = some (.slice (some cd) g.code.length r9.code.2.2) := by rw [← hW9]; exact y3
      replace f0 : W9.cell? ⟨W0.heap.size, 0, none⟩ = some (.int .i64 (k : Int)) := by rw [← hW9]; exact f0
      replace f1 : W9.cell? ⟨W0.heap.size, 1, none⟩ = some (.int .i64 (n : Int)) := by rw [← hW9]; exact f1
      replace f2 : W9.cell? ⟨W0.heap.size, 2, none⟩ = some (.slice r.slots.1 r.slots.2.1 r.slots.2.2) := by rw [← hW9]; exact f2
      replace x0 : W9.cell? (cd.add (n * 2)) = some (.int .i64 o1) := by rw [← hW9]; exact x0
      replace x1 : W9.cell? ⟨(cd.add (n * 2)).block, (cd.add (n * 2)).off + 1, none⟩ = some (.int .i64 a1) := by rw [← hW9]; exact x1
      clear hW9
      have t3_0 := blk_cell (w := W9) B3.out 0
      have t3_1 := blk_cell (w := W9) B3.out 1
      have t4_0 := blk_cell (w := W9) B4.out 0
      have t4_1 := blk_cell (w := W9) B4.out 1
      have t4_2 := blk_cell (w := W9) B4.out 2
      have u3_0 := blk_frozen B3.out 0
      have u3_1 := blk_frozen B3.out 1
      have u4_0 := blk_frozen B4.out 0
      have u4_1 := blk_frozen B4.out 1
      have u4_2 := blk_frozen B4.out 2
      have hn4 : ¬ (ad.add (k * 5)).block = w.heap.size + 1 + 1 := by rw [add_block]; omega
      have hn3 : ¬ (cd.add (n * 2)).block = w.heap.size + 1 + 1 := by rw [add_block]; omega
      have H3 := (Chg.setCell (Chg.setCell (Chg.refl (fun k => k = w.heap.size + 1 + 1) W9) (p := ⟨w.heap.size + 1 + 1, 0, none⟩) (fun _ => rfl) (.int .i64 o1)) (p := ⟨w.heap.size + 1 + 1, 1, none⟩) (fun _ => rfl) (.int .i64 a1))
      have k_p1 := cell_keepQ (v := .slice (some ad) p.funcs.length fc) (p := ⟨w.heap.size, 1, none⟩) (H3.drew) (fun e => absurd (show w.heap.size = w.heap.size + 1 + 1 from e) (by omega)) p1
      have k_y3 := cell_keepQ (v := .slice (some cd) g.code.length r9.code.2.2) (p := ⟨(ad.add (k * 5)).block, (ad.add (k * 5)).off + 3, none⟩) (H3.drew) hn4 y3
      have k_f0 := cell_keepQ (v := .int .i64 (k : Int)) (p := ⟨W0.heap.size, 0, none⟩) (H3.drew) (fun e => absurd (show W0.heap.size = w.heap.size + 1 + 1 from e) (by omega)) f0
      have k_f1 := cell_keepQ (v := .int .i64 (n : Int)) (p := ⟨W0.heap.size, 1, none⟩) (H3.drew) (fun e => absurd (show W0.heap.size = w.heap.size + 1 + 1 from e) (by omega)) f1
      have k_f2 := cell_keepQ (v := .slice r.slots.1 r.slots.2.1 r.slots.2.2) (p := ⟨W0.heap.size, 2, none⟩) (H3.drew) (fun e => absurd (show W0.heap.size = w.heap.size + 1 + 1 from e) (by omega)) f2
      have k_x0 := cell_keepQ (v := .int .i64 o1) (p := (cd.add (n * 2))) (H3.drew) hn3 x0
      have k_x1 := cell_keepQ (v := .int .i64 a1) (p := ⟨(cd.add (n * 2)).block, (cd.add (n * 2)).off + 1, none⟩) (H3.drew) hn3 x1
      clear H3
      refine start_ (n := 15) (S := fun w' => w'.cell? ⟨w.heap.size, 1, none⟩ = some (.slice (some ad) p.funcs.length fc) ∧ w'.cell? ⟨(ad.add (k * 5)).block, (ad.add (k * 5)).off + 3, none⟩ = some (.slice (some cd) g.code.length r9.code.2.2) ∧ w'.cell? ⟨W0.heap.size, 0, none⟩ = some (.int .i64 (k : Int)) ∧ w'.cell? ⟨W0.heap.size, 1, none⟩ = some (.int .i64 (n : Int)) ∧ w'.cell? ⟨W0.heap.size, 2, none⟩ = some (.slice r.slots.1 r.slots.2.1 r.slots.2.2) ∧ w'.cell? (cd.add (n * 2)) = some (.int .i64 o1) ∧ w'.cell? ⟨(cd.add (n * 2)).block, (cd.add (n * 2)).off + 1, none⟩ = some (.int .i64 a1)) (ds := [13]) #[false, false, false, false, false, false, false, false, false, false, false, false, false, false, false] (by kernel_rfl) rfl rfl ⟨p1, y3, f0, f1, f2, x0, x1⟩ (fun hHeld => ?_)
      refine pure_ (i := 0) (N := some 75) (v := ?_) (a' := ?_) #[true, false, false, false, false, false, false, false, false, false, false, false, false, false, false] rfl rfl (by kernel_rfl) (fun _ _ _ h => h) (Or.inl ⟨by rfl, ?_⟩) ?_ ?_
      rotate_left
      · intro w'
        go_simp
        with_reducible rfl
      rotate_left
      · simp only [Act.put, List.setIfInBounds_toArray, List.set_cons_zero, List.set_cons_succ, i64_w, i32_w]
        rfl
      refine pure_ (i := 2) (N := some 77) (v := ?_) (a' := ?_) #[true, false, true, false, false, false, false, false, false, false, false, false, false, false, false] rfl rfl (by kernel_rfl) (fun _ _ _ h => h) (Or.inl ⟨by rfl, ?_⟩) ?_ ?_
      rotate_left
      · intro w'
        go_simp
        with_reducible rfl
      rotate_left
      · simp only [Act.put, List.setIfInBounds_toArray, List.set_cons_zero, List.set_cons_succ, i64_w, i32_w]
        rfl
      refine pure_ (i := 7) (N := some 82) (v := ?_) (a' := ?_) #[true, false, true, false, false, false, false, true, false, false, false, false, false, false, false] rfl rfl (by kernel_rfl) (fun _ _ _ h => h) (Or.inl ⟨by rfl, ?_⟩) ?_ ?_
      rotate_left
      · intro w'
        go_simp
        with_reducible rfl
      rotate_left
      · simp only [Act.put, List.setIfInBounds_toArray, List.set_cons_zero, List.set_cons_succ, i64_w, i32_w]
        rfl
      refine take_ (i := 1) (N := some 76) (v := ?_) (a' := ?_) #[true, true, true, false, false, false, false, true, false, false, false, false, false, false, false] rfl rfl (by kernel_rfl) (fun _ _ _ h => h) (Or.inl ⟨by rfl, ?_⟩) hHeld ?_ ?_
      rotate_left
      · rintro w' ⟨s0, s1, s2, s3, s4, s5, s6⟩
        go_simp
        with_reducible rfl
      rotate_left
      · simp only [Act.put, List.setIfInBounds_toArray, List.set_cons_zero, List.set_cons_succ, i64_w, i32_w]
        rfl
      refine take_ (i := 3) (N := some 78) (v := ?_) (a' := ?_) #[true, true, true, true, false, false, false, true, false, false, false, false, false, false, false] rfl rfl (by kernel_rfl) (fun _ _ _ h => h) (Or.inl ⟨by rfl, ?_⟩) hHeld ?_ ?_
      rotate_left
      · rintro w' ⟨s0, s1, s2, s3, s4, s5, s6⟩
        go_simp
        with_reducible rfl
      rotate_left
      · simp only [Act.put, List.setIfInBounds_toArray, List.set_cons_zero, List.set_cons_succ, i64_w, i32_w]
        rfl
      refine pure_ (i := 4) (N := some 79) (v := ?_) (a' := ?_) #[true, true, true, true, true, false, false, true, false, false, false, false, false, false, false] rfl rfl (by kernel_rfl) (fun _ _ _ h => h) (Or.inl ⟨by rfl, ?_⟩) ?_ ?_
      rotate_left
      · intro w'
        go_simp
        with_reducible rfl
      rotate_left
      · simp only [Act.put, List.setIfInBounds_toArray, List.set_cons_zero, List.set_cons_succ, i64_w, i32_w]
        rfl
      refine pure_ (i := 5) (N := some 80) (v := ?_) (a' := ?_) #[true, true, true, true, true, true, false, true, false, false, false, false, false, false, false] rfl rfl (by kernel_rfl) (fun _ _ _ h => h) (Or.inl ⟨by rfl, ?_⟩) ?_ ?_
      rotate_left
      · intro w'
        go_simp
        with_reducible rfl
      rotate_left
      · simp only [Act.put, List.setIfInBounds_toArray, List.set_cons_zero, List.set_cons_succ, i64_w, i32_w]
        rfl
      refine take_ (i := 6) (N := some 81) (v := ?_) (a' := ?_) #[true, true, true, true, true, true, true, true, false, false, false, false, false, false, false] rfl rfl (by kernel_rfl) (fun _ _ _ h => h) (Or.inl ⟨by rfl, ?_⟩) hHeld ?_ ?_
      rotate_left
      · rintro w' ⟨s0, s1, s2, s3, s4, s5, s6⟩
        go_simp
        with_reducible rfl
      rotate_left
      · simp only [Act.put, List.setIfInBounds_toArray, List.set_cons_zero, List.set_cons_succ, i64_w, i32_w]
        rfl
      refine take_ (i := 8) (N := some 83) (v := ?_) (a' := ?_) #[true, true, true, true, true, true, true, true, true, false, false, false, false, false, false] rfl rfl (by kernel_rfl) (fun _ _ _ h => h) (Or.inl ⟨by rfl, ?_⟩) hHeld ?_ ?_
      rotate_left
      · rintro w' ⟨s0, s1, s2, s3, s4, s5, s6⟩
        go_simp
        with_reducible rfl
      rotate_left
      · simp only [Act.put, List.setIfInBounds_toArray, List.set_cons_zero, List.set_cons_succ, i64_w, i32_w]
        rfl
      refine pure_ (i := 9) (N := some 84) (v := ?_) (a' := ?_) #[true, true, true, true, true, true, true, true, true, true, false, false, false, false, false] rfl rfl (by kernel_rfl) (fun _ _ _ h => h) (Or.inl ⟨by rfl, ?_⟩) ?_ ?_
      rotate_left
      · intro w'
        go_simp
        with_reducible rfl
      rotate_left
      · simp only [Act.put, List.setIfInBounds_toArray, List.set_cons_zero, List.set_cons_succ, i64_w, i32_w]
        rfl
      refine take_ (i := 10) (N := some 85) (v := ?_) (a' := ?_) #[true, true, true, true, true, true, true, true, true, true, true, false, false, false, false] rfl rfl (by kernel_rfl) (fun _ _ _ h => h) (Or.inl ⟨by rfl, ?_⟩) hHeld ?_ ?_
      rotate_left
      · rintro w' ⟨s0, s1, s2, s3, s4, s5, s6⟩
        go_simp
        with_reducible rfl
      rotate_left
      · simp only [Act.put, List.setIfInBounds_toArray, List.set_cons_zero, List.set_cons_succ, i64_w, i32_w]
        rfl
      refine take_ (i := 11) (N := some 86) (v := ?_) (a' := ?_) #[true, true, true, true, true, true, true, true, true, true, true, true, false, false, false] rfl rfl (by kernel_rfl) (fun _ _ _ h => h) (Or.inl ⟨by rfl, ?_⟩) hHeld ?_ ?_
      rotate_left
      · rintro w' ⟨s0, s1, s2, s3, s4, s5, s6⟩
        go_simp
        with_reducible rfl
      rotate_left
      · simp only [Act.put, List.setIfInBounds_toArray, List.set_cons_zero, List.set_cons_succ, i64_w, i32_w]
        rfl
      refine one_ (i := 12) (N := none) #[true, true, true, true, true, true, true, true, true, true, true, true, true, false, false] rfl rfl (by kernel_rfl) (by decide) (fun K hK => ?_)
      refine skip_ (w1 := ?_) (by rfl) rfl ?_ ?_
      rotate_left
      · go_simp
        rfl
      refine hK.out _ _ ⟨k_p1, k_y3, k_f0, k_f1, k_f2, k_x0, k_x1⟩ (fun hHeld => ?_)
      clear hK K
      refine last_ (i := 13) (N := none) #[true, true, true, true, true, true, true, true, true, true, true, true, true, true, false] rfl rfl (by kernel_rfl) (by decide) (fun K hK => ?_)
      refine skip_ (w1 := ?_) (by rfl) rfl ?_ ?_
      rotate_left
      · go_simp
        rfl
      refine hK.out _ _ ?_
      clear hK K
      refine pure_ (i := 14) (N := some 8) (v := ?_) (a' := ?_) #[true, true, true, true, true, true, true, true, true, true, true, true, true, true, true] rfl rfl (by kernel_rfl) (fun _ _ _ h => h) (Or.inl ⟨by rfl, ?_⟩) ?_ ?_
      rotate_left
      · intro w'
        go_simp
        with_reducible rfl
      rotate_left
      · simp only [Act.put, List.setIfInBounds_toArray, List.set_cons_zero, List.set_cons_succ, i64_w, i32_w]
        rfl
      refine done_ (by kernel_rfl) ?_

      clear k_p1 k_y3 k_f0 k_f1 k_f2 k_x0 k_x1
      go_wp2
      (try simp only [Exit.inBlock, Exit.then])
      have H1 := (Chg.setCell (Chg.setCell (Chg.refl (fun k => k = w.heap.size + 1 + 1) W9) (p := ⟨w.heap.size + 1 + 1, 0, none⟩) (fun _ => rfl) (.int .i64 o1)) (p := ⟨w.heap.size + 1 + 1, 1, none⟩) (fun _ => rfl) (.int .i64 a1))
      have c1 := (blk_set (blk_set B3.out 0 (.int .i64 o1)) 1 (.int .i64 a1))
      have c2 := H1.blk B4.out (by omega)
      have H2 := fun W9 : World => (Chg.setCell (Chg.setCell (Chg.setCell (Chg.refl (fun k => k = w.heap.size + 1 + 1 + 1) W9) (p := ⟨w.heap.size + 1 + 1 + 1, 0, none⟩) (fun _ => rfl) (.int .i64 (k : Int))) (p := ⟨w.heap.size + 1 + 1 + 1, 1, none⟩) (fun _ => rfl) (.int .i64 (n : Int))) (p := ⟨w.heap.size + 1 + 1 + 1, 2, none⟩) (fun _ => rfl) (.slice r.slots.1 r.slots.2.1 r.slots.2.2))
      have c3 := (H2 _).blk c1 (by omega)
      replace c2 := (blk_set (blk_set (blk_set c2 0 (.int .i64 (k : Int))) 1 (.int .i64 (n : Int))) 2 (.slice r.slots.1 r.slots.2.1 r.slots.2.2))
      have c4 := (hz1.out.trans H1 (fun k hk h => by omega)).trans (H2 _) (fun k hk h => by omega)
      replace c2 := blk_drew c2
      replace c3 := blk_drew c3
      replace c4 := c4.drew
      generalize hWf : World.drew _ = Wf at c2 c3 c4 ⊢
      clear hWf
      refine bodyPost_ret (results_c3 rfl _ _ _ _ _ rfl rfl _ _ (run_loadVar_row _ _ _ _ _ _ _ c3 Try.underlying92 rfl (by kernel_rfl)) (run_loadVar_row _ _ _ _ _ _ _ c2 Try.underlying54 rfl (by kernel_rfl))) rfl ?_
      exact ⟨c4, r.slots, by rw [h1A.out, h2A.out]; rfl, ko.out⟩
end Go.Proofs.Ytdoghjmanogelaa.K
