import Derived.Test.YtdoghjmanogelaaSn
import Derived.IntWalk
import Derived.BigQuiet
import Derived.Deep.RegionHeld3
namespace Go.Proofs.Ytdoghjmanogelaa.K
open Go.RowKit Go.Proofs.YtdoghjmanogelaaW.PrintWords Go.Proofs.YtdoghjmanogelaaW.PrintLast Go.Proofs.YtdoghjmanogelaaW.PrintMore
set_option linter.unusedVariables false
set_option linter.unusedSimpArgs false
set_option maxRecDepth 100000

def BlockedQ (p : QP) (s : QS) (i : Int) : Bool := decide (0 ≤ i) && decide (i < s.fibers.length) && blockedQ p s i
set_option maxHeartbeats 4000000
theorem st_Blocked (w : World) (cA fA tA oA bA : Option Addr) (nc cc fc tc oc bc : Nat) (p : QP) (s : QS) (rs : List QR) (ros : List RO) (rbs : List RB) (L : List (List RF)) (i : Int) (hp : PV w cA fA p rs) (h : SView w tA oA bA s ros rbs L) (hN : SNum s) (hi1 : i ≤ 9223372036854775807) :
    Calls Try.prog 17 #[.agg #[.slice cA nc cc, .slice fA p.funcs.length fc], .agg #[.slice tA s.texts.length tc, .slice oA s.objs.length oc, .slice bA s.fibers.length bc, .int .i64 s.cur, .int .i64 s.steps, .int .i64 s.spent, .int .i64 s.read], .int .i64 i] w fun e w' => e = .returned (.bool (BlockedQ p s i)) ∧ Chg (fun _ => False) w w' := by
  have hP := Aside0.mk hp
  have hV := Aside0.mk h
  have hb := h.bs.2.1
  clear hp h
  by_cases h0 : 0 ≤ i
  · have d0 : decide (0 ≤ i) = true := by simpa using h0
    by_cases h1 : i < s.fibers.length
    · have d1 : decide (i < s.fibers.length) = true := by simpa using h1
      have hE : Aside0 (BlockedQ p s i = blockedQ p s i) := ⟨by unfold BlockedQ; rw [d0, d1]; rfl⟩
      go_enter Try.func17, Try.ntmps17
      go_wp2_with ((go_at_call 53; go_must (refine (look_blocked _ cA fA none none tA oA bA nc cc fc 0 0 0 0 tc oc bc p s rs ros rbs L i (hP.out.below bl) (hV.out.below bl) hN hi1).mono ?_); go_must (rintro e w1 ⟨rfl, hc1⟩); go_must (replace hc1 := Aside0.mk hc1)))
      go_ret
      exact ⟨by first | (rw [hE.out]; done) | (rw [hE.out]; simp), cg⟩
    · have d1 : decide (i < s.fibers.length) = false := by simpa using h1
      have hE : Aside0 (BlockedQ p s i = false) := ⟨by unfold BlockedQ; rw [d1]; simp⟩
      go_enter Try.func17, Try.ntmps17
      go_wp2_with ((go_at_call 53; go_must (refine (look_blocked _ cA fA none none tA oA bA nc cc fc 0 0 0 0 tc oc bc p s rs ros rbs L i (hP.out.below bl) (hV.out.below bl) hN hi1).mono ?_); go_must (rintro e w1 ⟨rfl, hc1⟩); go_must (replace hc1 := Aside0.mk hc1)))
      go_ret
      exact ⟨by first | (rw [hE.out]; done) | (rw [hE.out]; simp), cg⟩
  · have d0 : decide (0 ≤ i) = false := by simpa using h0
    have hE : Aside0 (BlockedQ p s i = false) := ⟨by unfold BlockedQ; rw [d0]; simp⟩
    go_enter Try.func17, Try.ntmps17
    go_wp2_with ((go_at_call 53; go_must (refine (look_blocked _ cA fA none none tA oA bA nc cc fc 0 0 0 0 tc oc bc p s rs ros rbs L i (hP.out.below bl) (hV.out.below bl) hN hi1).mono ?_); go_must (rintro e w1 ⟨rfl, hc1⟩); go_must (replace hc1 := Aside0.mk hc1)))
    go_ret
    exact ⟨by first | (rw [hE.out]; done) | (rw [hE.out]; simp), cg⟩
def safeQ (p : QP) (s : QS) : Bool := match lastQ s s.cur with
  | none => false
  | some f => match atQ p f.fn f.pc with
    | none => false
    | some (g, _) => safeQP g.code f.pc
theorem st_Safe (w : World) (cA fA tA oA bA : Option Addr) (nc cc fc tc oc bc : Nat) (p : QP) (s : QS) (rs : List QR) (ros : List RO) (rbs : List RB) (L : List (List RF)) (hp : PV w cA fA p rs) (h : SView w tA oA bA s ros rbs L) (hN : SNum s) (hi1 : s.cur ≤ 9223372036854775807) :
    Calls Try.prog 15 #[.agg #[.slice cA nc cc, .slice fA p.funcs.length fc], .agg #[.slice tA s.texts.length tc, .slice oA s.objs.length oc, .slice bA s.fibers.length bc, .int .i64 s.cur, .int .i64 s.steps, .int .i64 s.spent, .int .i64 s.read]] w fun e w' => e = .returned (.bool (safeQ p s)) ∧ Chg (fun _ => False) w w' := by
  have hP := Aside0.mk hp
  have hV := Aside0.mk h
  clear hp h
  cases hq : lastQ s s.cur with
  | none =>
    have hE : Aside0 (safeQ p s = false) := ⟨by unfold safeQ; rw [hq]⟩
    go_enter Try.func15, Try.ntmps15
    go_upto_region 2 with (fail)
    (try simp only [Act.put, List.setIfInBounds_toArray, List.set_cons_zero, List.set_cons_succ])
    generalize hW : World.alloc (World.alloc (World.alloc w _) _) _ = W0
    have B1 : Aside0 (W0.heap[w.heap.size]? = some (.cells #[.slice cA nc cc, .slice fA p.funcs.length fc] 25)) := ⟨by rw [← hW]; exact (((Chg.refl (fun _ => False) (w.alloc _)).alloc _).alloc _).blk (heap_alloc_new w _) (fun e => e)⟩
    have B2 : Aside0 (W0.heap[w.heap.size + 1]? = some (.cells #[.slice tA s.texts.length tc, .slice oA s.objs.length oc, .slice bA s.fibers.length bc, .int .i64 s.cur, .int .i64 s.steps, .int .i64 s.spent, .int .i64 s.read] 40)) := ⟨by rw [← hW]; exact ((Chg.refl (fun _ => False) ((w.alloc _).alloc _)).alloc _).blk (heap_alloc2_new w _ _) (fun e => e)⟩
    have B3 : Aside0 (W0.heap[w.heap.size + 1 + 1]? = some (.cells #[.slice cA nc cc, .slice fA p.funcs.length fc, .slice none 0 0, .slice none 0 0, .slice tA s.texts.length tc, .slice oA s.objs.length oc, .slice bA s.fibers.length bc, .int .i64 s.cur, .int .i64 s.steps, .int .i64 s.spent, .int .i64 s.read] 101)) := ⟨by rw [← hW]; exact heap_al3 w _ _ _⟩
    have hz0 : Aside0 (Chg (fun _ => False) w W0) := ⟨by rw [← hW]; exact cg⟩
    clear hW
    have p0 : W0.cell? ⟨w.heap.size + 1 + 1, 0, none⟩ = some (.slice cA nc cc) := blk_cell B3.out 0
    have p1 : W0.cell? ⟨w.heap.size + 1 + 1, 1, none⟩ = some (.slice fA p.funcs.length fc) := blk_cell B3.out 1
    have p2 : W0.cell? ⟨w.heap.size + 1 + 1, 2, none⟩ = some (.slice none 0 0) := blk_cell B3.out 2
    have p3 : W0.cell? ⟨w.heap.size + 1 + 1, 3, none⟩ = some (.slice none 0 0) := blk_cell B3.out 3
    have p4 : W0.cell? ⟨w.heap.size + 1 + 1, 4, none⟩ = some (.slice tA s.texts.length tc) := blk_cell B3.out 4
    have p5 : W0.cell? ⟨w.heap.size + 1 + 1, 5, none⟩ = some (.slice oA s.objs.length oc) := blk_cell B3.out 5
    have p6 : W0.cell? ⟨w.heap.size + 1 + 1, 6, none⟩ = some (.slice bA s.fibers.length bc) := blk_cell B3.out 6
    have p7 : W0.cell? ⟨w.heap.size + 1 + 1, 7, none⟩ = some (.int .i64 s.cur) := blk_cell B3.out 7
    have p8 : W0.cell? ⟨w.heap.size + 1 + 1, 8, none⟩ = some (.int .i64 s.steps) := blk_cell B3.out 8
    have p9 : W0.cell? ⟨w.heap.size + 1 + 1, 9, none⟩ = some (.int .i64 s.spent) := blk_cell B3.out 9
    have p10 : W0.cell? ⟨w.heap.size + 1 + 1, 10, none⟩ = some (.int .i64 s.read) := blk_cell B3.out 10
    have s3 : W0.cell? ⟨w.heap.size + 1, 3, none⟩ = some (.int .i64 s.cur) := blk_cell B2.out 3
    have hgt := blk_lt B3.out
    go_wp2_with ((go_at_call 48; go_must (refine (look_last _ cA fA none none tA oA bA nc cc fc 0 0 0 0 tc oc bc p s ros rbs L s.cur (hV.out.below bl) hi1).mono ?_); go_must (intro e w1 hp); go_must (unfold LastPost at hp); go_must (rw [hq] at hp); go_must (obtain ⟨hc1, rfl⟩ := hp); go_must (replace hc1 := Aside0.mk hc1)))
    go_ret
    exact ⟨by first | (rw [hE.out]; done) | (rw [hE.out]; simp), cg⟩
  | some f =>
    obtain ⟨b9, hb9, hf9⟩ := lastQ_mem hq
    obtain ⟨hf1, hf2⟩ := hN.fn b9 hb9 f hf9
    clear hb9 hf9
    cases hq2 : atQ p f.fn f.pc with
    | none =>
      have hE : Aside0 (safeQ p s = false) := ⟨by unfold safeQ; simp only [hq, hq2]⟩
      go_enter Try.func15, Try.ntmps15
      go_upto_region 2 with (fail)
      (try simp only [Act.put, List.setIfInBounds_toArray, List.set_cons_zero, List.set_cons_succ])
      generalize hW : World.alloc (World.alloc (World.alloc w _) _) _ = W0
      have B1 : Aside0 (W0.heap[w.heap.size]? = some (.cells #[.slice cA nc cc, .slice fA p.funcs.length fc] 25)) := ⟨by rw [← hW]; exact (((Chg.refl (fun _ => False) (w.alloc _)).alloc _).alloc _).blk (heap_alloc_new w _) (fun e => e)⟩
      have B2 : Aside0 (W0.heap[w.heap.size + 1]? = some (.cells #[.slice tA s.texts.length tc, .slice oA s.objs.length oc, .slice bA s.fibers.length bc, .int .i64 s.cur, .int .i64 s.steps, .int .i64 s.spent, .int .i64 s.read] 40)) := ⟨by rw [← hW]; exact ((Chg.refl (fun _ => False) ((w.alloc _).alloc _)).alloc _).blk (heap_alloc2_new w _ _) (fun e => e)⟩
      have B3 : Aside0 (W0.heap[w.heap.size + 1 + 1]? = some (.cells #[.slice cA nc cc, .slice fA p.funcs.length fc, .slice none 0 0, .slice none 0 0, .slice tA s.texts.length tc, .slice oA s.objs.length oc, .slice bA s.fibers.length bc, .int .i64 s.cur, .int .i64 s.steps, .int .i64 s.spent, .int .i64 s.read] 101)) := ⟨by rw [← hW]; exact heap_al3 w _ _ _⟩
      have hz0 : Aside0 (Chg (fun _ => False) w W0) := ⟨by rw [← hW]; exact cg⟩
      clear hW
      have p0 : W0.cell? ⟨w.heap.size + 1 + 1, 0, none⟩ = some (.slice cA nc cc) := blk_cell B3.out 0
      have p1 : W0.cell? ⟨w.heap.size + 1 + 1, 1, none⟩ = some (.slice fA p.funcs.length fc) := blk_cell B3.out 1
      have p2 : W0.cell? ⟨w.heap.size + 1 + 1, 2, none⟩ = some (.slice none 0 0) := blk_cell B3.out 2
      have p3 : W0.cell? ⟨w.heap.size + 1 + 1, 3, none⟩ = some (.slice none 0 0) := blk_cell B3.out 3
      have p4 : W0.cell? ⟨w.heap.size + 1 + 1, 4, none⟩ = some (.slice tA s.texts.length tc) := blk_cell B3.out 4
      have p5 : W0.cell? ⟨w.heap.size + 1 + 1, 5, none⟩ = some (.slice oA s.objs.length oc) := blk_cell B3.out 5
      have p6 : W0.cell? ⟨w.heap.size + 1 + 1, 6, none⟩ = some (.slice bA s.fibers.length bc) := blk_cell B3.out 6
      have p7 : W0.cell? ⟨w.heap.size + 1 + 1, 7, none⟩ = some (.int .i64 s.cur) := blk_cell B3.out 7
      have p8 : W0.cell? ⟨w.heap.size + 1 + 1, 8, none⟩ = some (.int .i64 s.steps) := blk_cell B3.out 8
      have p9 : W0.cell? ⟨w.heap.size + 1 + 1, 9, none⟩ = some (.int .i64 s.spent) := blk_cell B3.out 9
      have p10 : W0.cell? ⟨w.heap.size + 1 + 1, 10, none⟩ = some (.int .i64 s.read) := blk_cell B3.out 10
      have s3 : W0.cell? ⟨w.heap.size + 1, 3, none⟩ = some (.int .i64 s.cur) := blk_cell B2.out 3
      have hgt := blk_lt B3.out
      go_upto_region 5 with ((go_at_call 48; go_must (refine (look_last _ cA fA none none tA oA bA nc cc fc 0 0 0 0 tc oc bc p s ros rbs L s.cur (hV.out.below bl) hi1).mono ?_); go_must (intro e w1 hp); go_must (unfold LastPost at hp); go_must (rw [hq] at hp); go_must (obtain ⟨hc1, ⟨xA, xN, xC⟩, rfl, hsl⟩ := hp); go_must (simp only [svl]); go_must (replace hc1 := Aside0.mk hc1); go_must (have hxn : xN = f.slots.length := hsl.1.symm); go_must (subst hxn); go_must (clear hsl)))
      (try simp only [Act.put, List.setIfInBounds_toArray, List.set_cons_zero, List.set_cons_succ])
      generalize hW : World.alloc w1 _ = W1
      have B5 : Aside0 (W1.heap[w1.heap.size]? = some (.cells #[.int .i64 f.fn, .int .i64 f.pc, .slice xA f.slots.length xC] 54)) := ⟨by rw [← hW]; exact heap_alloc_new w1 _⟩
      have hz1 : Aside0 (Chg (fun _ => False) w1 W1) := ⟨by rw [← hW]; exact cg⟩
      clear hW p0 p1 p2 p3 p4 p5 p6 p7 p8 p9 p10 s3
      replace B3 := Aside0.mk (hz1.out.blk (hc1.out.blk B3.out (fun h => h)) (fun h => h))
      have p0 : W1.cell? ⟨w.heap.size + 1 + 1, 0, none⟩ = some (.slice cA nc cc) := blk_cell B3.out 0
      have p1 : W1.cell? ⟨w.heap.size + 1 + 1, 1, none⟩ = some (.slice fA p.funcs.length fc) := blk_cell B3.out 1
      have p2 : W1.cell? ⟨w.heap.size + 1 + 1, 2, none⟩ = some (.slice none 0 0) := blk_cell B3.out 2
      have p3 : W1.cell? ⟨w.heap.size + 1 + 1, 3, none⟩ = some (.slice none 0 0) := blk_cell B3.out 3
      have p4 : W1.cell? ⟨w.heap.size + 1 + 1, 4, none⟩ = some (.slice tA s.texts.length tc) := blk_cell B3.out 4
      have p5 : W1.cell? ⟨w.heap.size + 1 + 1, 5, none⟩ = some (.slice oA s.objs.length oc) := blk_cell B3.out 5
      have p6 : W1.cell? ⟨w.heap.size + 1 + 1, 6, none⟩ = some (.slice bA s.fibers.length bc) := blk_cell B3.out 6
      have p7 : W1.cell? ⟨w.heap.size + 1 + 1, 7, none⟩ = some (.int .i64 s.cur) := blk_cell B3.out 7
      have p8 : W1.cell? ⟨w.heap.size + 1 + 1, 8, none⟩ = some (.int .i64 s.steps) := blk_cell B3.out 8
      have p9 : W1.cell? ⟨w.heap.size + 1 + 1, 9, none⟩ = some (.int .i64 s.spent) := blk_cell B3.out 9
      have p10 : W1.cell? ⟨w.heap.size + 1 + 1, 10, none⟩ = some (.int .i64 s.read) := blk_cell B3.out 10
      have f0 : W1.cell? ⟨w1.heap.size, 0, none⟩ = some (.int .i64 f.fn) := blk_cell B5.out 0
      have f1 : W1.cell? ⟨w1.heap.size, 1, none⟩ = some (.int .i64 f.pc) := blk_cell B5.out 1
      have f2 : W1.cell? ⟨w1.heap.size, 2, none⟩ = some (.slice xA f.slots.length xC) := blk_cell B5.out 2
      go_wp2_with ((go_at_call 49; go_must (refine (look_at _ cA fA none none tA oA bA nc cc fc 0 0 0 0 tc oc bc p s rs f.fn f.pc xA f.slots.length xC (hP.out.below bl) hf1 hf2).mono ?_); go_must (intro e w2 hp); go_must (unfold AtPost at hp); go_must (rw [hq2] at hp); go_must (obtain ⟨hc2, r, a9, b9, rfl⟩ := hp); go_must (replace hc2 := Aside0.mk hc2)))
      go_ret
      exact ⟨by first | (rw [hE.out]; done) | (rw [hE.out]; simp), cg⟩
    | some gx =>
      obtain ⟨g, x⟩ := gx
      have hE : Aside0 (safeQ p s = safeQP g.code f.pc) := ⟨by unfold safeQ; simp only [hq, hq2]⟩
      go_enter Try.func15, Try.ntmps15
      go_upto_region 2 with (fail)
      (try simp only [Act.put, List.setIfInBounds_toArray, List.set_cons_zero, List.set_cons_succ])
      generalize hW : World.alloc (World.alloc (World.alloc w _) _) _ = W0
      have B1 : Aside0 (W0.heap[w.heap.size]? = some (.cells #[.slice cA nc cc, .slice fA p.funcs.length fc] 25)) := ⟨by rw [← hW]; exact (((Chg.refl (fun _ => False) (w.alloc _)).alloc _).alloc _).blk (heap_alloc_new w _) (fun e => e)⟩
      have B2 : Aside0 (W0.heap[w.heap.size + 1]? = some (.cells #[.slice tA s.texts.length tc, .slice oA s.objs.length oc, .slice bA s.fibers.length bc, .int .i64 s.cur, .int .i64 s.steps, .int .i64 s.spent, .int .i64 s.read] 40)) := ⟨by rw [← hW]; exact ((Chg.refl (fun _ => False) ((w.alloc _).alloc _)).alloc _).blk (heap_alloc2_new w _ _) (fun e => e)⟩
      have B3 : Aside0 (W0.heap[w.heap.size + 1 + 1]? = some (.cells #[.slice cA nc cc, .slice fA p.funcs.length fc, .slice none 0 0, .slice none 0 0, .slice tA s.texts.length tc, .slice oA s.objs.length oc, .slice bA s.fibers.length bc, .int .i64 s.cur, .int .i64 s.steps, .int .i64 s.spent, .int .i64 s.read] 101)) := ⟨by rw [← hW]; exact heap_al3 w _ _ _⟩
      have hz0 : Aside0 (Chg (fun _ => False) w W0) := ⟨by rw [← hW]; exact cg⟩
      clear hW
      have p0 : W0.cell? ⟨w.heap.size + 1 + 1, 0, none⟩ = some (.slice cA nc cc) := blk_cell B3.out 0
      have p1 : W0.cell? ⟨w.heap.size + 1 + 1, 1, none⟩ = some (.slice fA p.funcs.length fc) := blk_cell B3.out 1
      have p2 : W0.cell? ⟨w.heap.size + 1 + 1, 2, none⟩ = some (.slice none 0 0) := blk_cell B3.out 2
      have p3 : W0.cell? ⟨w.heap.size + 1 + 1, 3, none⟩ = some (.slice none 0 0) := blk_cell B3.out 3
      have p4 : W0.cell? ⟨w.heap.size + 1 + 1, 4, none⟩ = some (.slice tA s.texts.length tc) := blk_cell B3.out 4
      have p5 : W0.cell? ⟨w.heap.size + 1 + 1, 5, none⟩ = some (.slice oA s.objs.length oc) := blk_cell B3.out 5
      have p6 : W0.cell? ⟨w.heap.size + 1 + 1, 6, none⟩ = some (.slice bA s.fibers.length bc) := blk_cell B3.out 6
      have p7 : W0.cell? ⟨w.heap.size + 1 + 1, 7, none⟩ = some (.int .i64 s.cur) := blk_cell B3.out 7
      have p8 : W0.cell? ⟨w.heap.size + 1 + 1, 8, none⟩ = some (.int .i64 s.steps) := blk_cell B3.out 8
      have p9 : W0.cell? ⟨w.heap.size + 1 + 1, 9, none⟩ = some (.int .i64 s.spent) := blk_cell B3.out 9
      have p10 : W0.cell? ⟨w.heap.size + 1 + 1, 10, none⟩ = some (.int .i64 s.read) := blk_cell B3.out 10
      have s3 : W0.cell? ⟨w.heap.size + 1, 3, none⟩ = some (.int .i64 s.cur) := blk_cell B2.out 3
      have hgt := blk_lt B3.out
      go_upto_region 5 with ((go_at_call 48; go_must (refine (look_last _ cA fA none none tA oA bA nc cc fc 0 0 0 0 tc oc bc p s ros rbs L s.cur (hV.out.below bl) hi1).mono ?_); go_must (intro e w1 hp); go_must (unfold LastPost at hp); go_must (rw [hq] at hp); go_must (obtain ⟨hc1, ⟨xA, xN, xC⟩, rfl, hsl⟩ := hp); go_must (simp only [svl]); go_must (replace hc1 := Aside0.mk hc1); go_must (have hxn : xN = f.slots.length := hsl.1.symm); go_must (subst hxn); go_must (clear hsl)))
      (try simp only [Act.put, List.setIfInBounds_toArray, List.set_cons_zero, List.set_cons_succ])
      generalize hW : World.alloc w1 _ = W1
      have B5 : Aside0 (W1.heap[w1.heap.size]? = some (.cells #[.int .i64 f.fn, .int .i64 f.pc, .slice xA f.slots.length xC] 54)) := ⟨by rw [← hW]; exact heap_alloc_new w1 _⟩
      have hz1 : Aside0 (Chg (fun _ => False) w1 W1) := ⟨by rw [← hW]; exact cg⟩
      clear hW p0 p1 p2 p3 p4 p5 p6 p7 p8 p9 p10 s3
      replace B3 := Aside0.mk (hz1.out.blk (hc1.out.blk B3.out (fun h => h)) (fun h => h))
      have p0 : W1.cell? ⟨w.heap.size + 1 + 1, 0, none⟩ = some (.slice cA nc cc) := blk_cell B3.out 0
      have p1 : W1.cell? ⟨w.heap.size + 1 + 1, 1, none⟩ = some (.slice fA p.funcs.length fc) := blk_cell B3.out 1
      have p2 : W1.cell? ⟨w.heap.size + 1 + 1, 2, none⟩ = some (.slice none 0 0) := blk_cell B3.out 2
      have p3 : W1.cell? ⟨w.heap.size + 1 + 1, 3, none⟩ = some (.slice none 0 0) := blk_cell B3.out 3
      have p4 : W1.cell? ⟨w.heap.size + 1 + 1, 4, none⟩ = some (.slice tA s.texts.length tc) := blk_cell B3.out 4
      have p5 : W1.cell? ⟨w.heap.size + 1 + 1, 5, none⟩ = some (.slice oA s.objs.length oc) := blk_cell B3.out 5
      have p6 : W1.cell? ⟨w.heap.size + 1 + 1, 6, none⟩ = some (.slice bA s.fibers.length bc) := blk_cell B3.out 6
      have p7 : W1.cell? ⟨w.heap.size + 1 + 1, 7, none⟩ = some (.int .i64 s.cur) := blk_cell B3.out 7
      have p8 : W1.cell? ⟨w.heap.size + 1 + 1, 8, none⟩ = some (.int .i64 s.steps) := blk_cell B3.out 8
      have p9 : W1.cell? ⟨w.heap.size + 1 + 1, 9, none⟩ = some (.int .i64 s.spent) := blk_cell B3.out 9
      have p10 : W1.cell? ⟨w.heap.size + 1 + 1, 10, none⟩ = some (.int .i64 s.read) := blk_cell B3.out 10
      have f0 : W1.cell? ⟨w1.heap.size, 0, none⟩ = some (.int .i64 f.fn) := blk_cell B5.out 0
      have f1 : W1.cell? ⟨w1.heap.size, 1, none⟩ = some (.int .i64 f.pc) := blk_cell B5.out 1
      have f2 : W1.cell? ⟨w1.heap.size, 2, none⟩ = some (.slice xA f.slots.length xC) := blk_cell B5.out 2
      go_upto_region 6 with ((go_at_call 49; go_must (refine (look_at _ cA fA none none tA oA bA nc cc fc 0 0 0 0 tc oc bc p s rs f.fn f.pc xA f.slots.length xC (hP.out.below bl) hf1 hf2).mono ?_); go_must (intro e w2 hp); go_must (unfold AtPost at hp); go_must (rw [hq2] at hp); go_must (obtain ⟨hc2, r, rfl, hro⟩ := hp); go_must (replace hc2 := Aside0.mk hc2); go_must (replace hro := Aside0.mk hro)))
      (try simp only [Act.put, List.setIfInBounds_toArray, List.set_cons_zero, List.set_cons_succ])
      generalize hW : World.alloc (World.alloc w2 _) _ = W2
      have B8 : Aside0 (W2.heap[w2.heap.size]? = some (.cells (qrCells r).toArray 33)) := ⟨by rw [← hW]; exact ((Chg.refl (fun _ => False) (w2.alloc _)).alloc _).blk (heap_alloc_new w2 _) (fun e => e)⟩
      have hz2 : Aside0 (Chg (fun _ => False) w2 W2) := ⟨by rw [← hW]; exact cg⟩
      clear hW p0 p1 p2 p3 p4 p5 p6 p7 p8 p9 p10 f0 f1 f2
      have g3 : W2.cell? ⟨w2.heap.size, 3, none⟩ = some (.slice r.code.1 r.code.2.1 r.code.2.2) := blk_cell B8.out 3
      have f1 : W2.cell? ⟨w1.heap.size, 1, none⟩ = some (.int .i64 f.pc) := blk_cell (hz2.out.blk (hc2.out.blk B5.out (fun h => h)) (fun h => h)) 1
      go_wp2_with ((go_at_call 50; go_must (refine (qcode_Safe _ r.code.1 r.code.2.1 r.code.2.2 g.code f.pc (Kd.C_below hro.out.2.2.2.1 bl) hf2).mono ?_); go_must (rintro e w3 ⟨rfl, rfl⟩)))
      go_ret
      exact ⟨by first | (rw [hE.out]; done) | (rw [hE.out]; simp), cg⟩
end Go.Proofs.Ytdoghjmanogelaa.K
