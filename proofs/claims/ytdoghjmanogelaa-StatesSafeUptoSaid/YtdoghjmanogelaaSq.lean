import Derived.Test.YtdoghjmanogelaaSp
import Derived.IntWalk
import Derived.BigQuiet
import Derived.Deep.RegionHeld3
namespace Go.Proofs.Ytdoghjmanogelaa.K
open Go.RowKit Go.Proofs.YtdoghjmanogelaaW.PrintWords Go.Proofs.YtdoghjmanogelaaW.PrintLast Go.Proofs.YtdoghjmanogelaaW.PrintMore
set_option linter.unusedVariables false
set_option linter.unusedSimpArgs false
set_option maxRecDepth 100000

theorem nextQ_none {p : QP} {s : QS} (h : nextQ p s s.cur = none) : safeQ p s = false := by
  unfold nextQ at h
  unfold safeQ
  cases hl : lastQ s s.cur with
  | none => rfl
  | some f =>
    rw [hl] at h
    simp only at h ⊢
    cases ha : atQ p f.fn f.pc with
    | none => rfl
    | some y => rw [ha] at h; cases h
theorem nextQ_some {p : QP} {s : QS} {i : Int} {x : QI} {f : QFr} (h : nextQ p s i = some (x, f)) : lastQ s i = some f ∧ ∃ g, atQ p f.fn f.pc = some (g, x) := by
  unfold nextQ at h
  cases hl : lastQ s i with
  | none => rw [hl] at h; cases h
  | some f' =>
    rw [hl] at h
    simp only at h
    cases ha : atQ p f'.fn f'.pc with
    | none => rw [ha] at h; cases h
    | some y =>
      obtain ⟨g, x'⟩ := y
      rw [ha] at h
      injection h with h
      injection h with h1 h2
      subst h1 h2
      exact ⟨rfl, g, ha⟩
set_option maxHeartbeats 8000000
theorem ref_stSafe (w : World) (cA fA tA oA bA : Option Addr) (nc cc fc tc oc bc : Nat) (p : QP) (s : QS) (rs : List QR) (ros : List RO) (rbs : List RB) (L : List (List RF)) (hp : PV w cA fA p rs) (h : SView w tA oA bA s ros rbs L) (hN : SNum s) (hi1 : s.cur ≤ 9223372036854775807) :
    Calls Try.prog 16 #[.agg #[.slice cA nc cc, .slice fA p.funcs.length fc], .agg #[.slice tA s.texts.length tc, .slice oA s.objs.length oc, .slice bA s.fibers.length bc, .int .i64 s.cur, .int .i64 s.steps, .int .i64 s.spent, .int .i64 s.read]] w fun e w' => e = .returned (.bool (safeQ p s)) ∧ Chg (fun _ => False) w w' := by
  have hP := Aside0.mk hp
  have hV := Aside0.mk h
  have hbf := hp.fs.2.1
  clear hp h
  cases hq : nextQ p s s.cur with
  | none =>
    have hE : Aside0 (safeQ p s = false) := ⟨nextQ_none hq⟩
    go_enter Try.func16, Try.ntmps16
    go_upto_region 1 with (fail)
    (try simp only [Act.put, List.setIfInBounds_toArray, List.set_cons_zero, List.set_cons_succ])
    generalize hW : World.alloc (World.alloc w _) _ = W0
    have B1 : Aside0 (W0.heap[w.heap.size]? = some (.cells #[.slice cA nc cc, .slice fA p.funcs.length fc] 25)) := ⟨by rw [← hW]; exact ((Chg.refl (fun _ => False) (w.alloc _)).alloc _).blk (heap_alloc_new w _) (fun e => e)⟩
    have B2 : Aside0 (W0.heap[w.heap.size + 1]? = some (.cells #[.slice tA s.texts.length tc, .slice oA s.objs.length oc, .slice bA s.fibers.length bc, .int .i64 s.cur, .int .i64 s.steps, .int .i64 s.spent, .int .i64 s.read] 40)) := ⟨by rw [← hW]; exact heap_alloc2_new w _ _⟩
    have hz0 : Aside0 (Chg (fun _ => False) w W0) := ⟨by rw [← hW]; exact cg⟩
    clear hW
    have p0 : W0.cell? ⟨w.heap.size, 0, none⟩ = some (.slice cA nc cc) := blk_cell B1.out 0
    have p1 : W0.cell? ⟨w.heap.size, 1, none⟩ = some (.slice fA p.funcs.length fc) := blk_cell B1.out 1
    have s0 : W0.cell? ⟨w.heap.size + 1, 0, none⟩ = some (.slice tA s.texts.length tc) := blk_cell B2.out 0
    have s1 : W0.cell? ⟨w.heap.size + 1, 1, none⟩ = some (.slice oA s.objs.length oc) := blk_cell B2.out 1
    have s2 : W0.cell? ⟨w.heap.size + 1, 2, none⟩ = some (.slice bA s.fibers.length bc) := blk_cell B2.out 2
    have s3 : W0.cell? ⟨w.heap.size + 1, 3, none⟩ = some (.int .i64 s.cur) := blk_cell B2.out 3
    have s4 : W0.cell? ⟨w.heap.size + 1, 4, none⟩ = some (.int .i64 s.steps) := blk_cell B2.out 4
    have s5 : W0.cell? ⟨w.heap.size + 1, 5, none⟩ = some (.int .i64 s.spent) := blk_cell B2.out 5
    have s6 : W0.cell? ⟨w.heap.size + 1, 6, none⟩ = some (.int .i64 s.read) := blk_cell B2.out 6
    go_wp2_with ((go_at_call 51; go_must (refine (ref_Next _ _ _ _ _ _ _ _ _ _ _ _ p s rs ros rbs L s.cur (hP.out.below bl) (hV.out.below bl) hN hi1).mono ?_); go_must (intro e w1 hp); go_must (unfold NextPost at hp); go_must (rw [hq] at hp); go_must (obtain ⟨hc1, rfl⟩ := hp); go_must (replace hc1 := Aside0.mk hc1)))
    go_quiet (fail)
    go_wp2
    go_ret
    exact ⟨by first | (rw [hE.out]; done) | (rw [hE.out]; simp), cg⟩
  | some xf =>
    obtain ⟨x, f⟩ := xf
    obtain ⟨hl, g, ha⟩ := nextQ_some hq
    have hE : Aside0 (safeQ p s = safeQP g.code f.pc) := ⟨by unfold safeQ; simp only [hl, ha]⟩
    obtain ⟨b9, hb9, hf9⟩ := lastQ_mem hl
    obtain ⟨hf1, hf2⟩ := hN.fn b9 hb9 f hf9
    have haA := Aside0.mk ha
    clear hb9 hf9 hl ha
    go_enter Try.func16, Try.ntmps16
    go_upto_region 1 with (fail)
    (try simp only [Act.put, List.setIfInBounds_toArray, List.set_cons_zero, List.set_cons_succ])
    generalize hW : World.alloc (World.alloc w _) _ = W0
    have B1 : Aside0 (W0.heap[w.heap.size]? = some (.cells #[.slice cA nc cc, .slice fA p.funcs.length fc] 25)) := ⟨by rw [← hW]; exact ((Chg.refl (fun _ => False) (w.alloc _)).alloc _).blk (heap_alloc_new w _) (fun e => e)⟩
    have B2 : Aside0 (W0.heap[w.heap.size + 1]? = some (.cells #[.slice tA s.texts.length tc, .slice oA s.objs.length oc, .slice bA s.fibers.length bc, .int .i64 s.cur, .int .i64 s.steps, .int .i64 s.spent, .int .i64 s.read] 40)) := ⟨by rw [← hW]; exact heap_alloc2_new w _ _⟩
    have hz0 : Aside0 (Chg (fun _ => False) w W0) := ⟨by rw [← hW]; exact cg⟩
    clear hW
    have p0 : W0.cell? ⟨w.heap.size, 0, none⟩ = some (.slice cA nc cc) := blk_cell B1.out 0
    have p1 : W0.cell? ⟨w.heap.size, 1, none⟩ = some (.slice fA p.funcs.length fc) := blk_cell B1.out 1
    have s0 : W0.cell? ⟨w.heap.size + 1, 0, none⟩ = some (.slice tA s.texts.length tc) := blk_cell B2.out 0
    have s1 : W0.cell? ⟨w.heap.size + 1, 1, none⟩ = some (.slice oA s.objs.length oc) := blk_cell B2.out 1
    have s2 : W0.cell? ⟨w.heap.size + 1, 2, none⟩ = some (.slice bA s.fibers.length bc) := blk_cell B2.out 2
    have s3 : W0.cell? ⟨w.heap.size + 1, 3, none⟩ = some (.int .i64 s.cur) := blk_cell B2.out 3
    have s4 : W0.cell? ⟨w.heap.size + 1, 4, none⟩ = some (.int .i64 s.steps) := blk_cell B2.out 4
    have s5 : W0.cell? ⟨w.heap.size + 1, 5, none⟩ = some (.int .i64 s.spent) := blk_cell B2.out 5
    have s6 : W0.cell? ⟨w.heap.size + 1, 6, none⟩ = some (.int .i64 s.read) := blk_cell B2.out 6
    go_upto_region 2 with ((go_at_call 51; go_must (refine (ref_Next _ _ _ _ _ _ _ _ _ _ _ _ p s rs ros rbs L s.cur (hP.out.below bl) (hV.out.below bl) hN hi1).mono ?_); go_must (intro e w1 hp); go_must (unfold NextPost at hp); go_must (rw [hq] at hp); go_must (obtain ⟨hc1, ⟨xA, xN, xC⟩, rfl, hsl⟩ := hp); go_must (simp only [svl]); go_must (replace hc1 := Aside0.mk hc1); go_must (have hxn : xN = f.slots.length := hsl.1.symm); go_must (simp only at hsl); go_must (subst hxn); go_must (have hsC := Aside0.mk hsl); go_must (clear hsl)))
    (try simp only [Act.put, List.setIfInBounds_toArray, List.set_cons_zero, List.set_cons_succ])
    generalize hW : World.alloc (World.alloc w1 _) _ = W2
    have B7 : Aside0 (W2.heap[w1.heap.size]? = some (.cells #[.int .i64 x.op, .int .i64 x.a] 92)) := ⟨by rw [← hW]; exact ((Chg.refl (fun _ => False) (w1.alloc _)).alloc _).blk (heap_alloc_new w1 _) (fun e => e)⟩
    have B8 : Aside0 (W2.heap[w1.heap.size + 1]? = some (.cells #[.int .i64 f.fn, .int .i64 f.pc, .slice xA f.slots.length xC] 54)) := ⟨by rw [← hW]; exact heap_alloc2_new w1 _ _⟩
    have hz2 : Aside0 (Chg (fun _ => False) w1 W2) := ⟨by rw [← hW]; exact cg⟩
    clear hW
    replace B1 := Aside0.mk (hz2.out.blk (hc1.out.blk B1.out (fun h => h)) (fun h => h))
    replace B2 := Aside0.mk (hz2.out.blk (hc1.out.blk B2.out (fun h => h)) (fun h => h))
    clear p0 p1 s0 s1 s2 s3 s4 s5 s6
    obtain ⟨k, n, h1, h2, h3, h4⟩ := atQ_some haA.out
    have hk := (List.getElem?_eq_some_iff.1 h3).1
    obtain ⟨ad, r9, e1, e2, y0, y1, y2, y3, y4⟩ := raw_at (hP.out.below (w' := W2) bl).fs k hk
    subst e1
    have hro := Aside0.mk ((hP.out.below (w' := W2) bl).raw k r9 g e2 h3)
    have p1 : W2.cell? ⟨w.heap.size, 1, none⟩ = some (.slice (some ad) p.funcs.length fc) := blk_cell B1.out 1
    have f0 : W2.cell? ⟨w1.heap.size + 1, 0, none⟩ = some (.int .i64 f.fn) := blk_cell B8.out 0
    have f1 : W2.cell? ⟨w1.heap.size + 1, 1, none⟩ = some (.int .i64 f.pc) := blk_cell B8.out 1
    rw [h1] at f0
    have hk1 : (k : Int) < p.funcs.length := by omega
    clear h1 h2 h3 h4 e2 y0 y1 y2 y4 hq hN hi1 b9
    go_quiet ((go_at_call 52; exact Calls.quiet_of_same (qref_Safe _ r9.code.1 r9.code.2.1 r9.code.2.2 g.code f.pc (Kd.C_below hro.out.2.2.2.1 bl) hf2)))
    go_wp2
    go_ret
    exact ⟨by first | (rw [hE.out]; done) | (rw [hE.out]; simp), cg⟩
end Go.Proofs.Ytdoghjmanogelaa.K
