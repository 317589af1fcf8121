import Derived.Test.YtdoghjmanogelaaSi
import Derived.Test.YtdoghjmanogelaaSk
import Derived.IntWalk
import Derived.BigQuiet
import Derived.Deep.RegionHeld3
namespace Go.Proofs.Ytdoghjmanogelaa.K
open Go.RowKit Go.Proofs.YtdoghjmanogelaaW.PrintWords Go.Proofs.YtdoghjmanogelaaW.PrintLast Go.Proofs.YtdoghjmanogelaaW.PrintMore
set_option linter.unusedVariables false
set_option linter.unusedSimpArgs false
set_option maxRecDepth 100000

/-- The last frame of a fiber. -/
def lastQ (s : QS) (i : Int) : Option QFr := if i < 0 then none else match s.fibers[i.toNat]? with
  | none => none
  | some b => b.frames[b.frames.length - 1]?
theorem lastQ_some {s : QS} {i : Int} {f : QFr} (h : lastQ s i = some f) : ∃ (j : Nat) (b : QB), i = j ∧ s.fibers[j]? = some b ∧ 0 < b.frames.length ∧ b.frames[b.frames.length - 1]? = some f := by
  unfold lastQ at h
  by_cases h0 : i < 0
  · rw [if_pos h0] at h; cases h
  · rw [if_neg h0] at h
    obtain ⟨j, rfl⟩ : ∃ j : Nat, i = j := ⟨i.toNat, by omega⟩
    rw [Int.toNat_natCast] at h
    cases hb : s.fibers[j]? with
    | none => rw [hb] at h; cases h
    | some b => rw [hb] at h; exact ⟨j, b, rfl, hb, by have := (List.getElem?_eq_some_iff.1 h).1; omega, h⟩
theorem lastQ_none {s : QS} {i : Int} (h : lastQ s i = none) : i < 0 ∨ (s.fibers.length : Int) ≤ i ∨ ∃ (j : Nat) (b : QB), i = j ∧ s.fibers[j]? = some b ∧ b.frames.length = 0 := by
  unfold lastQ at h
  by_cases h0 : i < 0
  · exact .inl h0
  · rw [if_neg h0] at h
    obtain ⟨j, rfl⟩ : ∃ j : Nat, i = j := ⟨i.toNat, by omega⟩
    rw [Int.toNat_natCast] at h
    cases hb : s.fibers[j]? with
    | none => have := List.getElem?_eq_none_iff.1 hb; exact .inr (.inl (by omega))
    | some b =>
      rw [hb] at h
      have h1 : b.frames.length ≤ b.frames.length - 1 := List.getElem?_eq_none_iff.1 h
      exact .inr (.inr ⟨j, b, rfl, hb, by omega⟩)
def LastPost (w : World) (o : Option QFr) (e : Ending) (w' : World) : Prop := Chg (fun _ => False) w w' ∧ match o with
  | none => e = .returned (.tuple #[.agg #[.int .i64 0, .int .i64 0, .slice none 0 0], .bool false])
  | some f => ∃ sv : SV, e = .returned (.tuple #[.agg #[.int .i64 f.fn, .int .i64 f.pc, svl sv], .bool true]) ∧ Kd.C kQV w sv.1 sv.2.1 f.slots
theorem look_last (w : World) (cA fA hA mA tA oA bA : Option Addr) (nc cc fc hn hc mn mc tc oc bc : Nat) (p : QP) (s : QS) (ros : List RO) (rbs : List RB) (L : List (List RF)) (i : Int) (h : SView w tA oA bA s ros rbs L) (hi1 : i ≤ 9223372036854775807) :
    Calls Try.prog 48 #[.agg #[.slice cA nc cc, .slice fA p.funcs.length fc, .slice hA hn hc, .slice mA mn mc, .slice tA s.texts.length tc, .slice oA s.objs.length oc, .slice bA s.fibers.length bc, .int .i64 s.cur, .int .i64 s.steps, .int .i64 s.spent, .int .i64 s.read], .int .i64 i] w (LastPost w (lastQ s i)) := by
  have hV := Aside0.mk h
  have hb := h.bs.2.1
  clear h
  have hi0 : (0 : Int) ≤ i ∨ i < 0 := by omega
  cases hq : lastQ s i with
  | none =>
    go_enter Try.func48, Try.ntmps48
    go_upto_region 1 with (fail)
    (try simp only [Act.put, List.setIfInBounds_toArray, List.set_cons_zero, List.set_cons_succ])
    generalize hW : World.alloc (World.alloc w _) _ = W0
    have B1 : Aside0 (W0.heap[w.heap.size]? = some (.cells #[.slice cA nc cc, .slice fA p.funcs.length fc, .slice hA hn hc, .slice mA mn mc, .slice tA s.texts.length tc, .slice oA s.objs.length oc, .slice bA s.fibers.length bc, .int .i64 s.cur, .int .i64 s.steps, .int .i64 s.spent, .int .i64 s.read] 101)) := ⟨by rw [← hW]; exact ((Chg.refl (fun _ => False) (w.alloc _)).alloc _).blk (heap_alloc_new w _) (fun e => e)⟩
    have B2 : Aside0 (W0.heap[w.heap.size + 1]? = some (.cells #[.int .i64 0, .int .i64 0, .slice none 0 0] 54)) := ⟨by rw [← hW]; exact heap_alloc2_new w _ _⟩
    have hz0 : Aside0 (Chg (fun _ => False) w W0) := ⟨by rw [← hW]; exact cg⟩
    clear hW
    have hgt := blk_lt B2.out
    have t2_0 := blk_cell (w := W0) B2.out 0
    have t2_1 := blk_cell (w := W0) B2.out 1
    have t2_2 := blk_cell (w := W0) B2.out 2
    have u2_0 := blk_frozen B2.out 0
    have u2_1 := blk_frozen B2.out 1
    have u2_2 := blk_frozen B2.out 2
    have p6 : W0.cell? ⟨w.heap.size, 6, none⟩ = some (.slice bA s.fibers.length bc) := blk_cell B1.out 6
    rcases lastQ_none hq with h1 | h1 | ⟨j, b, rfl, h1, h2⟩
    · clear hq hi0
      go_wp2
      (try simp only [Exit.inBlock, Exit.then])
      refine bodyPost_ret (results_c2 rfl _ _ _ _ rfl _ (run_loadVar_row _ _ _ _ _ _ _ (blk_set (blk_set (blk_set B2.out 0 (.int .i64 0)) 1 (.int .i64 0)) 2 (.slice none 0 0)) Try.underlying54 rfl (by kernel_rfl))) rfl ?_
      exact ⟨hz0.out.trans (Chg.setCell (Chg.setCell (Chg.setCell (Chg.refl (fun k => k = w.heap.size + 1) W0) (p := ⟨w.heap.size + 1, 0, none⟩) (fun _ => rfl) (.int .i64 0)) (p := ⟨w.heap.size + 1, 1, none⟩) (fun _ => rfl) (.int .i64 0)) (p := ⟨w.heap.size + 1, 2, none⟩) (fun _ => rfl) (.slice none 0 0)) (fun k hk h => by omega), rfl⟩
    · have h3 : ¬ i < 0 := by omega
      clear hq hi0
      go_wp2
      (try simp only [Exit.inBlock, Exit.then])
      refine bodyPost_ret (results_c2 rfl _ _ _ _ rfl _ (run_loadVar_row _ _ _ _ _ _ _ (blk_set (blk_set (blk_set B2.out 0 (.int .i64 0)) 1 (.int .i64 0)) 2 (.slice none 0 0)) Try.underlying54 rfl (by kernel_rfl))) rfl ?_
      exact ⟨hz0.out.trans (Chg.setCell (Chg.setCell (Chg.setCell (Chg.refl (fun k => k = w.heap.size + 1) W0) (p := ⟨w.heap.size + 1, 0, none⟩) (fun _ => rfl) (.int .i64 0)) (p := ⟨w.heap.size + 1, 1, none⟩) (fun _ => rfl) (.int .i64 0)) (p := ⟨w.heap.size + 1, 2, none⟩) (fun _ => rfl) (.slice none 0 0)) (fun k hk h => by omega), rfl⟩
    · have hv := (hV.out.below (w' := W0) bl).zip
      have hj := (List.getElem?_eq_some_iff.1 h1).1
      obtain ⟨bd, q, e1, e2, z0⟩ := atRB hv.2.2 j hj
      subst e1
      obtain ⟨⟨z1, zl⟩, hz, e⟩ := pair_at e2
      subst e
      have hzx := hv.2.1 j _ b hz h1
      have hn : q.frames.2.1 = 0 := by have h3 := hzx.1.1; have h4 := hzx.2.1; simp only at h3 h4; omega
      simp only [hn] at z0
      have hj1 : (j : Int) < s.fibers.length := by omega
      clear hq hi0 hv e2 hz hzx hn h1 h2
      go_wp2
      (try simp only [Exit.inBlock, Exit.then])
      refine bodyPost_ret (results_c2 rfl _ _ _ _ rfl _ (run_loadVar_row _ _ _ _ _ _ _ (blk_set (blk_set (blk_set B2.out 0 (.int .i64 0)) 1 (.int .i64 0)) 2 (.slice none 0 0)) Try.underlying54 rfl (by kernel_rfl))) rfl ?_
      exact ⟨hz0.out.trans (Chg.setCell (Chg.setCell (Chg.setCell (Chg.refl (fun k => k = w.heap.size + 1) W0) (p := ⟨w.heap.size + 1, 0, none⟩) (fun _ => rfl) (.int .i64 0)) (p := ⟨w.heap.size + 1, 1, none⟩) (fun _ => rfl) (.int .i64 0)) (p := ⟨w.heap.size + 1, 2, none⟩) (fun _ => rfl) (.slice none 0 0)) (fun k hk h => by omega), rfl⟩
  | some f =>
    go_enter Try.func48, Try.ntmps48
    go_upto_region 1 with (fail)
    (try simp only [Act.put, List.setIfInBounds_toArray, List.set_cons_zero, List.set_cons_succ])
    generalize hW : World.alloc (World.alloc w _) _ = W0
    have B1 : Aside0 (W0.heap[w.heap.size]? = some (.cells #[.slice cA nc cc, .slice fA p.funcs.length fc, .slice hA hn hc, .slice mA mn mc, .slice tA s.texts.length tc, .slice oA s.objs.length oc, .slice bA s.fibers.length bc, .int .i64 s.cur, .int .i64 s.steps, .int .i64 s.spent, .int .i64 s.read] 101)) := ⟨by rw [← hW]; exact ((Chg.refl (fun _ => False) (w.alloc _)).alloc _).blk (heap_alloc_new w _) (fun e => e)⟩
    have B2 : Aside0 (W0.heap[w.heap.size + 1]? = some (.cells #[.int .i64 0, .int .i64 0, .slice none 0 0] 54)) := ⟨by rw [← hW]; exact heap_alloc2_new w _ _⟩
    have hz0 : Aside0 (Chg (fun _ => False) w W0) := ⟨by rw [← hW]; exact cg⟩
    clear hW
    have hgt := blk_lt B2.out
    have t2_0 := blk_cell (w := W0) B2.out 0
    have t2_1 := blk_cell (w := W0) B2.out 1
    have t2_2 := blk_cell (w := W0) B2.out 2
    have u2_0 := blk_frozen B2.out 0
    have u2_1 := blk_frozen B2.out 1
    have u2_2 := blk_frozen B2.out 2
    have p6 : W0.cell? ⟨w.heap.size, 6, none⟩ = some (.slice bA s.fibers.length bc) := blk_cell B1.out 6
    obtain ⟨j, b, rfl, hb1, hb2, hb3⟩ := lastQ_some hq
    have hv := (hV.out.below (w' := W0) bl).zip
    have hj := (List.getElem?_eq_some_iff.1 hb1).1
    obtain ⟨bd, q, e1, e2, z0⟩ := atRB hv.2.2 j hj
    subst e1
    obtain ⟨⟨z1, zl⟩, hz, e⟩ := pair_at e2
    subst e
    have hzx := hv.2.1 j _ b hz hb1
    obtain ⟨⟨sA, sN, sC⟩⟩ := q
    obtain rfl : sN = b.frames.length := hzx.1.1.symm.trans hzx.2.1
    have hzo := (hV.out.zip).2.1 j _ b hz hb1
    have hbn := hzx.1.2.1
    obtain ⟨m, hm⟩ : ∃ m, b.frames.length = m + 1 := ⟨b.frames.length - 1, by omega⟩
    simp only at hzx z0 hbn hzo
    rw [hm] at hzx z0 hb3 hbn hzo
    rw [Nat.add_sub_cancel] at hb3
    obtain ⟨fd, r, e1, e3, x0, x1, x2⟩ := atRF hzx.1 m (Nat.lt_succ_self m)
    subst e1
    obtain ⟨k1, k2, k3⟩ := hzx.2.2 m r f e3 hb3
    obtain ⟨_, _, ko⟩ := hzo.2.2 m r f e3 hb3
    replace ko := Aside0.mk ko
    have hj1 : (j : Int) < s.fibers.length := by omega
    have hm0 : ((m : Int) + 1 == 0) = false := by rw [beq_eq_false_iff_ne]; omega
    rw [k1] at x0
    rw [k2] at x1
    clear hq hi0 hv e2 hz hzx hzo hb1 hb2 hb3 e3 k1 k2 k3
    go_wp2
    (try simp only [Exit.inBlock, Exit.then])
    refine bodyPost_ret (results_c2 rfl _ _ _ _ rfl _ (run_loadVar_row _ _ _ _ _ _ _ (blk_set (blk_set (blk_set B2.out 0 (.int .i64 f.fn)) 1 (.int .i64 f.pc)) 2 (.slice r.slots.1 r.slots.2.1 r.slots.2.2)) Try.underlying54 rfl (by kernel_rfl))) rfl ?_
    exact ⟨hz0.out.trans (Chg.setCell (Chg.setCell (Chg.setCell (Chg.refl (fun k => k = w.heap.size + 1) W0) (p := ⟨w.heap.size + 1, 0, none⟩) (fun _ => rfl) (.int .i64 f.fn)) (p := ⟨w.heap.size + 1, 1, none⟩) (fun _ => rfl) (.int .i64 f.pc)) (p := ⟨w.heap.size + 1, 2, none⟩) (fun _ => rfl) (.slice r.slots.1 r.slots.2.1 r.slots.2.2)) (fun k hk h => by omega), r.slots, rfl, ko.out⟩
end Go.Proofs.Ytdoghjmanogelaa.K
