import Derived.Test.YtdoghjmanogelaaSm
import Derived.IntWalk
import Derived.BigQuiet
import Derived.Deep.RegionHeld3
namespace Go.Proofs.Ytdoghjmanogelaa.K
open Go.RowKit Go.Proofs.YtdoghjmanogelaaW.PrintWords Go.Proofs.YtdoghjmanogelaaW.PrintLast Go.Proofs.YtdoghjmanogelaaW.PrintMore
set_option linter.unusedVariables false
set_option linter.unusedSimpArgs false
set_option maxRecDepth 100000

def waitQ (s : QS) (f : QFr) (down : Nat) : Bool := if f.slots.length < down then false else match f.slots[f.slots.length - down]? with
  | none => false
  | some v => if v.kind ≠ 9 ∨ namesQ s.objs v.kind v.n = false then false else match s.objs[v.n.toNat]? with
    | none => false
    | some c => if c.shut = true then false else if down = 2 then decide (c.cap ≤ c.items.length) else c.items.length == 0
def blockedQ (p : QP) (s : QS) (i : Int) : Bool := match lastQ s i with
  | none => true
  | some f => match atQ p f.fn f.pc with
    | none => false
    | some (_, x) => if x.op = 63 then waitQ s f 2 else if x.op = 64 then waitQ s f 1 else false
/-- Numbers that are Go's. -/
structure SNum (s : QS) : Prop where
  fn : ∀ b ∈ s.fibers, ∀ f ∈ b.frames, f.fn ≤ 9223372036854775807 ∧ f.pc ≤ 9223372036854775807
  sl : ∀ b ∈ s.fibers, ∀ f ∈ b.frames, ∀ v ∈ f.slots, v.n ≤ 9223372036854775807
theorem lastQ_mem {s : QS} {i : Int} {f : QFr} (h : lastQ s i = some f) : ∃ b ∈ s.fibers, f ∈ b.frames := by
  obtain ⟨j, b, _, h1, _, h2⟩ := lastQ_some h
  exact ⟨b, List.mem_of_getElem? h1, List.mem_of_getElem? h2⟩
theorem namesQ_at {ob : List QO} {k n : Int} (h : namesQ ob k n = true) : ∃ (m : Nat) (x : QO), n = m ∧ ob[m]? = some x := by
  unfold namesQ at h
  simp only [Bool.and_eq_true, decide_eq_true_eq] at h
  obtain ⟨⟨_, h3⟩, h4⟩ := h
  refine ⟨n.toNat, ?_⟩
  cases hx : ob[n.toNat]? with
  | none => rw [hx] at h4; cases h4
  | some x => exact ⟨x, by omega, rfl⟩
set_option maxHeartbeats 8000000
theorem look_blocked (w : World) (cA fA hA mA tA oA bA : Option Addr) (nc cc fc hn hc mn mc tc oc bc : Nat) (p : QP) (s : QS) (rs : List QR) (ros : List RO) (rbs : List RB) (L : List (List RF)) (i : Int) (hp : PV w cA fA p rs) (h : SView w tA oA bA s ros rbs L) (hN : SNum s) (hi1 : i ≤ 9223372036854775807) :
    Calls Try.prog 53 #[.agg #[.slice cA nc cc, .slice fA p.funcs.length fc, .slice hA hn hc, .slice mA mn mc, .slice tA s.texts.length tc, .slice oA s.objs.length oc, .slice bA s.fibers.length bc, .int .i64 s.cur, .int .i64 s.steps, .int .i64 s.spent, .int .i64 s.read], .int .i64 i] w fun e w' => e = .returned (.bool (blockedQ p s i)) ∧ Chg (fun _ => False) w w' := by
  have hP := Aside0.mk hp
  have hV := Aside0.mk h
  have hrl := Aside0.mk h.os.1
  clear hp h
  cases hq : lastQ s i with
  | none =>
    have hE : Aside0 (blockedQ p s i = true) := ⟨by unfold blockedQ; rw [hq]⟩
    go_enter Try.func53, Try.ntmps53
    go_upto_region 1 with (fail)
    (try simp only [Act.put, List.setIfInBounds_toArray, List.set_cons_zero, List.set_cons_succ])
    generalize hW : World.alloc w _ = W0
    have B1 : Aside0 (W0.heap[w.heap.size]? = some (.cells #[.slice cA nc cc, .slice fA p.funcs.length fc, .slice hA hn hc, .slice mA mn mc, .slice tA s.texts.length tc, .slice oA s.objs.length oc, .slice bA s.fibers.length bc, .int .i64 s.cur, .int .i64 s.steps, .int .i64 s.spent, .int .i64 s.read] 101)) := ⟨by rw [← hW]; exact heap_alloc_new w _⟩
    have hz0 : Aside0 (Chg (fun _ => False) w W0) := ⟨by rw [← hW]; exact cg⟩
    clear hW
    have p0 : W0.cell? ⟨w.heap.size, 0, none⟩ = some (.slice cA nc cc) := blk_cell B1.out 0
    have p1 : W0.cell? ⟨w.heap.size, 1, none⟩ = some (.slice fA p.funcs.length fc) := blk_cell B1.out 1
    have p2 : W0.cell? ⟨w.heap.size, 2, none⟩ = some (.slice hA hn hc) := blk_cell B1.out 2
    have p3 : W0.cell? ⟨w.heap.size, 3, none⟩ = some (.slice mA mn mc) := blk_cell B1.out 3
    have p4 : W0.cell? ⟨w.heap.size, 4, none⟩ = some (.slice tA s.texts.length tc) := blk_cell B1.out 4
    have p5 : W0.cell? ⟨w.heap.size, 5, none⟩ = some (.slice oA s.objs.length oc) := blk_cell B1.out 5
    have p6 : W0.cell? ⟨w.heap.size, 6, none⟩ = some (.slice bA s.fibers.length bc) := blk_cell B1.out 6
    have p7 : W0.cell? ⟨w.heap.size, 7, none⟩ = some (.int .i64 s.cur) := blk_cell B1.out 7
    have p8 : W0.cell? ⟨w.heap.size, 8, none⟩ = some (.int .i64 s.steps) := blk_cell B1.out 8
    have p9 : W0.cell? ⟨w.heap.size, 9, none⟩ = some (.int .i64 s.spent) := blk_cell B1.out 9
    have p10 : W0.cell? ⟨w.heap.size, 10, none⟩ = some (.int .i64 s.read) := blk_cell B1.out 10
    have hgt := blk_lt B1.out
    go_wp2_with ((go_at_call 48; go_must (refine (look_last _ cA fA hA mA tA oA bA nc cc fc hn hc mn mc tc oc bc p s ros rbs L i (hV.out.below bl) hi1).mono ?_); go_must (intro e w1 hp); go_must (unfold LastPost at hp); go_must (rw [hq] at hp); go_must (obtain ⟨hc1, rfl⟩ := hp); go_must (replace hc1 := Aside0.mk hc1)))
    go_ret
    exact ⟨by first | (rw [hE.out]; done) | (rw [hE.out]; simp), cg⟩
  | some f =>
    obtain ⟨b9, hb9, hf9⟩ := lastQ_mem hq
    obtain ⟨hf1, hf2⟩ := hN.fn b9 hb9 f hf9
    have hsl9 := Aside0.mk (hN.sl b9 hb9 f hf9)
    clear hb9 hf9
    cases hq2 : atQ p f.fn f.pc with
    | none =>
      have hE : Aside0 (blockedQ p s i = false) := ⟨by unfold blockedQ; simp only [hq, hq2]⟩
      go_enter Try.func53, Try.ntmps53
      go_upto_region 1 with (fail)
      (try simp only [Act.put, List.setIfInBounds_toArray, List.set_cons_zero, List.set_cons_succ])
      generalize hW : World.alloc w _ = W0
      have B1 : Aside0 (W0.heap[w.heap.size]? = some (.cells #[.slice cA nc cc, .slice fA p.funcs.length fc, .slice hA hn hc, .slice mA mn mc, .slice tA s.texts.length tc, .slice oA s.objs.length oc, .slice bA s.fibers.length bc, .int .i64 s.cur, .int .i64 s.steps, .int .i64 s.spent, .int .i64 s.read] 101)) := ⟨by rw [← hW]; exact heap_alloc_new w _⟩
      have hz0 : Aside0 (Chg (fun _ => False) w W0) := ⟨by rw [← hW]; exact cg⟩
      clear hW
      have p0 : W0.cell? ⟨w.heap.size, 0, none⟩ = some (.slice cA nc cc) := blk_cell B1.out 0
      have p1 : W0.cell? ⟨w.heap.size, 1, none⟩ = some (.slice fA p.funcs.length fc) := blk_cell B1.out 1
      have p2 : W0.cell? ⟨w.heap.size, 2, none⟩ = some (.slice hA hn hc) := blk_cell B1.out 2
      have p3 : W0.cell? ⟨w.heap.size, 3, none⟩ = some (.slice mA mn mc) := blk_cell B1.out 3
      have p4 : W0.cell? ⟨w.heap.size, 4, none⟩ = some (.slice tA s.texts.length tc) := blk_cell B1.out 4
      have p5 : W0.cell? ⟨w.heap.size, 5, none⟩ = some (.slice oA s.objs.length oc) := blk_cell B1.out 5
      have p6 : W0.cell? ⟨w.heap.size, 6, none⟩ = some (.slice bA s.fibers.length bc) := blk_cell B1.out 6
      have p7 : W0.cell? ⟨w.heap.size, 7, none⟩ = some (.int .i64 s.cur) := blk_cell B1.out 7
      have p8 : W0.cell? ⟨w.heap.size, 8, none⟩ = some (.int .i64 s.steps) := blk_cell B1.out 8
      have p9 : W0.cell? ⟨w.heap.size, 9, none⟩ = some (.int .i64 s.spent) := blk_cell B1.out 9
      have p10 : W0.cell? ⟨w.heap.size, 10, none⟩ = some (.int .i64 s.read) := blk_cell B1.out 10
      have hgt := blk_lt B1.out
      go_upto_region 4 with ((go_at_call 48; go_must (refine (look_last _ cA fA hA mA tA oA bA nc cc fc hn hc mn mc tc oc bc p s ros rbs L i (hV.out.below bl) hi1).mono ?_); go_must (intro e w1 hp); go_must (unfold LastPost at hp); go_must (rw [hq] at hp); go_must (obtain ⟨hc1, ⟨xA, xN, xC⟩, rfl, hsl⟩ := hp); go_must (simp only [svl]); go_must (replace hc1 := Aside0.mk hc1); go_must (have hxn : xN = f.slots.length := hsl.1.symm); go_must (simp only at hsl); go_must (subst hxn); go_must (have hsC := Aside0.mk hsl); go_must (clear hsl)))
      (try simp only [Act.put, List.setIfInBounds_toArray, List.set_cons_zero, List.set_cons_succ])
      generalize hW : World.alloc w1 _ = W1
      have B5 : Aside0 (W1.heap[w1.heap.size]? = some (.cells #[.int .i64 f.fn, .int .i64 f.pc, .slice xA f.slots.length xC] 54)) := ⟨by rw [← hW]; exact heap_alloc_new w1 _⟩
      have hz1 : Aside0 (Chg (fun _ => False) w1 W1) := ⟨by rw [← hW]; exact cg⟩
      clear hW p0 p1 p2 p3 p4 p5 p6 p7 p8 p9 p10
      replace B1 := Aside0.mk (hz1.out.blk (hc1.out.blk B1.out (fun h => h)) (fun h => h))
      have hg5 : w.heap.size < w1.heap.size := by have h1 := blk_lt B1.out; have h2 := hc1.out.size; have h3 := hgt; omega
      have p0 : W1.cell? ⟨w.heap.size, 0, none⟩ = some (.slice cA nc cc) := blk_cell B1.out 0
      have p1 : W1.cell? ⟨w.heap.size, 1, none⟩ = some (.slice fA p.funcs.length fc) := blk_cell B1.out 1
      have p2 : W1.cell? ⟨w.heap.size, 2, none⟩ = some (.slice hA hn hc) := blk_cell B1.out 2
      have p3 : W1.cell? ⟨w.heap.size, 3, none⟩ = some (.slice mA mn mc) := blk_cell B1.out 3
      have p4 : W1.cell? ⟨w.heap.size, 4, none⟩ = some (.slice tA s.texts.length tc) := blk_cell B1.out 4
      have p5 : W1.cell? ⟨w.heap.size, 5, none⟩ = some (.slice oA s.objs.length oc) := blk_cell B1.out 5
      have p6 : W1.cell? ⟨w.heap.size, 6, none⟩ = some (.slice bA s.fibers.length bc) := blk_cell B1.out 6
      have p7 : W1.cell? ⟨w.heap.size, 7, none⟩ = some (.int .i64 s.cur) := blk_cell B1.out 7
      have p8 : W1.cell? ⟨w.heap.size, 8, none⟩ = some (.int .i64 s.steps) := blk_cell B1.out 8
      have p9 : W1.cell? ⟨w.heap.size, 9, none⟩ = some (.int .i64 s.spent) := blk_cell B1.out 9
      have p10 : W1.cell? ⟨w.heap.size, 10, none⟩ = some (.int .i64 s.read) := blk_cell B1.out 10
      have f0 : W1.cell? ⟨w1.heap.size, 0, none⟩ = some (.int .i64 f.fn) := blk_cell B5.out 0
      have f1 : W1.cell? ⟨w1.heap.size, 1, none⟩ = some (.int .i64 f.pc) := blk_cell B5.out 1
      have f2 : W1.cell? ⟨w1.heap.size, 2, none⟩ = some (.slice xA f.slots.length xC) := blk_cell B5.out 2
      go_wp2_with ((go_at_call 49; go_must (refine (look_at _ cA fA hA mA tA oA bA nc cc fc hn hc mn mc tc oc bc p s rs f.fn f.pc xA f.slots.length xC (hP.out.below bl) hf1 hf2).mono ?_); go_must (intro e w2 hp); go_must (unfold AtPost at hp); go_must (rw [hq2] at hp); go_must (obtain ⟨hc2, r, a9, b9, rfl⟩ := hp); go_must (replace hc2 := Aside0.mk hc2)))
      go_ret
      exact ⟨by first | (rw [hE.out]; done) | (rw [hE.out]; simp), cg⟩
    | some gx =>
      obtain ⟨g, x⟩ := gx
      go_enter Try.func53, Try.ntmps53
      go_upto_region 1 with (fail)
      (try simp only [Act.put, List.setIfInBounds_toArray, List.set_cons_zero, List.set_cons_succ])
      generalize hW : World.alloc w _ = W0
      have B1 : Aside0 (W0.heap[w.heap.size]? = some (.cells #[.slice cA nc cc, .slice fA p.funcs.length fc, .slice hA hn hc, .slice mA mn mc, .slice tA s.texts.length tc, .slice oA s.objs.length oc, .slice bA s.fibers.length bc, .int .i64 s.cur, .int .i64 s.steps, .int .i64 s.spent, .int .i64 s.read] 101)) := ⟨by rw [← hW]; exact heap_alloc_new w _⟩
      have hz0 : Aside0 (Chg (fun _ => False) w W0) := ⟨by rw [← hW]; exact cg⟩
      clear hW
      have p0 : W0.cell? ⟨w.heap.size, 0, none⟩ = some (.slice cA nc cc) := blk_cell B1.out 0
      have p1 : W0.cell? ⟨w.heap.size, 1, none⟩ = some (.slice fA p.funcs.length fc) := blk_cell B1.out 1
      have p2 : W0.cell? ⟨w.heap.size, 2, none⟩ = some (.slice hA hn hc) := blk_cell B1.out 2
      have p3 : W0.cell? ⟨w.heap.size, 3, none⟩ = some (.slice mA mn mc) := blk_cell B1.out 3
      have p4 : W0.cell? ⟨w.heap.size, 4, none⟩ = some (.slice tA s.texts.length tc) := blk_cell B1.out 4
      have p5 : W0.cell? ⟨w.heap.size, 5, none⟩ = some (.slice oA s.objs.length oc) := blk_cell B1.out 5
      have p6 : W0.cell? ⟨w.heap.size, 6, none⟩ = some (.slice bA s.fibers.length bc) := blk_cell B1.out 6
      have p7 : W0.cell? ⟨w.heap.size, 7, none⟩ = some (.int .i64 s.cur) := blk_cell B1.out 7
      have p8 : W0.cell? ⟨w.heap.size, 8, none⟩ = some (.int .i64 s.steps) := blk_cell B1.out 8
      have p9 : W0.cell? ⟨w.heap.size, 9, none⟩ = some (.int .i64 s.spent) := blk_cell B1.out 9
      have p10 : W0.cell? ⟨w.heap.size, 10, none⟩ = some (.int .i64 s.read) := blk_cell B1.out 10
      have hgt := blk_lt B1.out
      go_upto_region 4 with ((go_at_call 48; go_must (refine (look_last _ cA fA hA mA tA oA bA nc cc fc hn hc mn mc tc oc bc p s ros rbs L i (hV.out.below bl) hi1).mono ?_); go_must (intro e w1 hp); go_must (unfold LastPost at hp); go_must (rw [hq] at hp); go_must (obtain ⟨hc1, ⟨xA, xN, xC⟩, rfl, hsl⟩ := hp); go_must (simp only [svl]); go_must (replace hc1 := Aside0.mk hc1); go_must (have hxn : xN = f.slots.length := hsl.1.symm); go_must (simp only at hsl); go_must (subst hxn); go_must (have hsC := Aside0.mk hsl); go_must (clear hsl)))
      (try simp only [Act.put, List.setIfInBounds_toArray, List.set_cons_zero, List.set_cons_succ])
      generalize hW : World.alloc w1 _ = W1
      have B5 : Aside0 (W1.heap[w1.heap.size]? = some (.cells #[.int .i64 f.fn, .int .i64 f.pc, .slice xA f.slots.length xC] 54)) := ⟨by rw [← hW]; exact heap_alloc_new w1 _⟩
      have hz1 : Aside0 (Chg (fun _ => False) w1 W1) := ⟨by rw [← hW]; exact cg⟩
      clear hW p0 p1 p2 p3 p4 p5 p6 p7 p8 p9 p10
      replace B1 := Aside0.mk (hz1.out.blk (hc1.out.blk B1.out (fun h => h)) (fun h => h))
      have hg5 : w.heap.size < w1.heap.size := by have h1 := blk_lt B1.out; have h2 := hc1.out.size; have h3 := hgt; omega
      have p0 : W1.cell? ⟨w.heap.size, 0, none⟩ = some (.slice cA nc cc) := blk_cell B1.out 0
      have p1 : W1.cell? ⟨w.heap.size, 1, none⟩ = some (.slice fA p.funcs.length fc) := blk_cell B1.out 1
      have p2 : W1.cell? ⟨w.heap.size, 2, none⟩ = some (.slice hA hn hc) := blk_cell B1.out 2
      have p3 : W1.cell? ⟨w.heap.size, 3, none⟩ = some (.slice mA mn mc) := blk_cell B1.out 3
      have p4 : W1.cell? ⟨w.heap.size, 4, none⟩ = some (.slice tA s.texts.length tc) := blk_cell B1.out 4
      have p5 : W1.cell? ⟨w.heap.size, 5, none⟩ = some (.slice oA s.objs.length oc) := blk_cell B1.out 5
      have p6 : W1.cell? ⟨w.heap.size, 6, none⟩ = some (.slice bA s.fibers.length bc) := blk_cell B1.out 6
      have p7 : W1.cell? ⟨w.heap.size, 7, none⟩ = some (.int .i64 s.cur) := blk_cell B1.out 7
      have p8 : W1.cell? ⟨w.heap.size, 8, none⟩ = some (.int .i64 s.steps) := blk_cell B1.out 8
      have p9 : W1.cell? ⟨w.heap.size, 9, none⟩ = some (.int .i64 s.spent) := blk_cell B1.out 9
      have p10 : W1.cell? ⟨w.heap.size, 10, none⟩ = some (.int .i64 s.read) := blk_cell B1.out 10
      have f0 : W1.cell? ⟨w1.heap.size, 0, none⟩ = some (.int .i64 f.fn) := blk_cell B5.out 0
      have f1 : W1.cell? ⟨w1.heap.size, 1, none⟩ = some (.int .i64 f.pc) := blk_cell B5.out 1
      have f2 : W1.cell? ⟨w1.heap.size, 2, none⟩ = some (.slice xA f.slots.length xC) := blk_cell B5.out 2
      go_upto_region 7 with ((go_at_call 49; go_must (refine (look_at _ cA fA hA mA tA oA bA nc cc fc hn hc mn mc tc oc bc p s rs f.fn f.pc xA f.slots.length xC (hP.out.below bl) hf1 hf2).mono ?_); go_must (intro e w2 hp); go_must (unfold AtPost at hp); go_must (rw [hq2] at hp); go_must (obtain ⟨hc2, r, rfl, hro⟩ := hp); go_must (replace hc2 := Aside0.mk hc2); go_must (replace hro := Aside0.mk hro)))
      (try simp only [Act.put, List.setIfInBounds_toArray, List.set_cons_zero, List.set_cons_succ])
      generalize hW : World.alloc (World.alloc w2 _) _ = W2
      have B8 : Aside0 (W2.heap[w2.heap.size + 1]? = some (.cells #[.int .i64 x.op, .int .i64 x.a] 92)) := ⟨by rw [← hW]; exact heap_alloc2_new w2 _ _⟩
      have hz2 : Aside0 (Chg (fun _ => False) w2 W2) := ⟨by rw [← hW]; exact cg⟩
      clear hW p0 p1 p2 p3 p4 p5 p6 p7 p8 p9 p10 f0 f1 f2
      replace B1 := Aside0.mk (hz2.out.blk (hc2.out.blk B1.out (fun h => h)) (fun h => h))
      replace B5 := Aside0.mk (hz2.out.blk (hc2.out.blk B5.out (fun h => h)) (fun h => h))
      have p0 : W2.cell? ⟨w.heap.size, 0, none⟩ = some (.slice cA nc cc) := blk_cell B1.out 0
      have p1 : W2.cell? ⟨w.heap.size, 1, none⟩ = some (.slice fA p.funcs.length fc) := blk_cell B1.out 1
      have p2 : W2.cell? ⟨w.heap.size, 2, none⟩ = some (.slice hA hn hc) := blk_cell B1.out 2
      have p3 : W2.cell? ⟨w.heap.size, 3, none⟩ = some (.slice mA mn mc) := blk_cell B1.out 3
      have p4 : W2.cell? ⟨w.heap.size, 4, none⟩ = some (.slice tA s.texts.length tc) := blk_cell B1.out 4
      have p5 : W2.cell? ⟨w.heap.size, 5, none⟩ = some (.slice oA s.objs.length oc) := blk_cell B1.out 5
      have p6 : W2.cell? ⟨w.heap.size, 6, none⟩ = some (.slice bA s.fibers.length bc) := blk_cell B1.out 6
      have p7 : W2.cell? ⟨w.heap.size, 7, none⟩ = some (.int .i64 s.cur) := blk_cell B1.out 7
      have p8 : W2.cell? ⟨w.heap.size, 8, none⟩ = some (.int .i64 s.steps) := blk_cell B1.out 8
      have p9 : W2.cell? ⟨w.heap.size, 9, none⟩ = some (.int .i64 s.spent) := blk_cell B1.out 9
      have p10 : W2.cell? ⟨w.heap.size, 10, none⟩ = some (.int .i64 s.read) := blk_cell B1.out 10
      have f2 : W2.cell? ⟨w1.heap.size, 2, none⟩ = some (.slice xA f.slots.length xC) := blk_cell B5.out 2
      have i0 : W2.cell? ⟨w2.heap.size + 1, 0, none⟩ = some (.int .i64 x.op) := blk_cell B8.out 0
      clear p0 p1 p2 p3 p4 p5 p6 p7 p8 p9 p10
      by_cases ho : x.op = 63
      · have hE0 : Aside0 (blockedQ p s i = waitQ s f 2) := ⟨by unfold blockedQ; simp only [hq, hq2]; rw [if_pos ho]⟩
        rw [ho] at i0 B8
        clear ho hq hq2
        by_cases hs : f.slots.length < 2
        · have hE : Aside0 (blockedQ p s i = false) := ⟨by rw [hE0.out]; unfold waitQ; rw [if_pos hs]⟩
          go_wp2
          go_ret
          exact ⟨by first | (rw [hE.out]; done) | (rw [hE.out]; simp), cg⟩
        · obtain ⟨m, hm⟩ : ∃ m, f.slots.length = m + 2 := ⟨f.slots.length - 2, by omega⟩
          obtain ⟨ad, vk, vn, e1, e2, y0, y1⟩ := kQV_at (w := W2) (Kd.C_below hsC.out bl) m (by omega)
          subst e1
          have hmv := hsl9.out _ (List.mem_of_getElem? e2)
          simp only at hmv
          have hE1 : Aside0 (blockedQ p s i = if vk ≠ 9 ∨ namesQ s.objs vk vn = false then false else match s.objs[vn.toNat]? with | none => false | some c => if c.shut = true then false else if 2 = 2 then decide (c.cap ≤ c.items.length) else c.items.length == 0) := ⟨by rw [hE0.out]; unfold waitQ; rw [if_neg hs]; have e3 : f.slots[f.slots.length - 2]? = some ⟨vk, vn⟩ := (by rw [show f.slots.length - 2 = m by omega]; exact e2); rw [e3]⟩
          rw [hm] at f2
          have hmb : m ≤ 9223372036854775806 := by have := hsC.out.2.1; omega
          have hmc : (0 : Int) ≤ m := by omega
          clear e2 hs hm hE0
          go_upto_region 16 with (fail)
          (try simp only [Act.put, List.setIfInBounds_toArray, List.set_cons_zero, List.set_cons_succ])
          generalize hW : World.alloc W2 _ = W3
          have B10 : Aside0 (W3.heap[W2.heap.size]? = some (.cells #[.int .i64 vk, .int .i64 vn] 56)) := ⟨by rw [← hW]; exact heap_alloc_new W2 _⟩
          have hz3 : Aside0 (Chg (fun _ => False) W2 W3) := ⟨by rw [← hW]; exact cg⟩
          clear hW y0 y1 f2 i0
          replace B1 := Aside0.mk (hz3.out.blk B1.out (fun h => h))
          replace B8 := Aside0.mk (hz3.out.blk B8.out (fun h => h))
          have p0 : W3.cell? ⟨w.heap.size, 0, none⟩ = some (.slice cA nc cc) := blk_cell B1.out 0
          have p1 : W3.cell? ⟨w.heap.size, 1, none⟩ = some (.slice fA p.funcs.length fc) := blk_cell B1.out 1
          have p2 : W3.cell? ⟨w.heap.size, 2, none⟩ = some (.slice hA hn hc) := blk_cell B1.out 2
          have p3 : W3.cell? ⟨w.heap.size, 3, none⟩ = some (.slice mA mn mc) := blk_cell B1.out 3
          have p4 : W3.cell? ⟨w.heap.size, 4, none⟩ = some (.slice tA s.texts.length tc) := blk_cell B1.out 4
          have p5 : W3.cell? ⟨w.heap.size, 5, none⟩ = some (.slice oA s.objs.length oc) := blk_cell B1.out 5
          have p6 : W3.cell? ⟨w.heap.size, 6, none⟩ = some (.slice bA s.fibers.length bc) := blk_cell B1.out 6
          have p7 : W3.cell? ⟨w.heap.size, 7, none⟩ = some (.int .i64 s.cur) := blk_cell B1.out 7
          have p8 : W3.cell? ⟨w.heap.size, 8, none⟩ = some (.int .i64 s.steps) := blk_cell B1.out 8
          have p9 : W3.cell? ⟨w.heap.size, 9, none⟩ = some (.int .i64 s.spent) := blk_cell B1.out 9
          have p10 : W3.cell? ⟨w.heap.size, 10, none⟩ = some (.int .i64 s.read) := blk_cell B1.out 10
          have v0 : W3.cell? ⟨W2.heap.size, 0, none⟩ = some (.int .i64 vk) := blk_cell B10.out 0
          have v1 : W3.cell? ⟨W2.heap.size, 1, none⟩ = some (.int .i64 vn) := blk_cell B10.out 1
          by_cases hk9 : vk = 9
          · subst hk9
            cases hnm : namesQ s.objs 9 vn with
            | false =>
              have hE : Aside0 (blockedQ p s i = false) := ⟨by rw [hE1.out, if_pos (.inr hnm)]⟩
              go_wp2_with ((go_at_call 60; go_must (refine (look_names _ cA fA hA mA tA oA bA nc cc fc hn hc mn mc tc oc bc p s s.objs ros 9 vn (hV.out.below bl).os hrl.out (hV.out.below bl).ro hmv).mono ?_); go_must (rintro e w3 ⟨rfl, hc3⟩); go_must (rw [hnm]); go_must (replace hc3 := Aside0.mk hc3)))
              go_ret
              exact ⟨by first | (rw [hE.out]; done) | (rw [hE.out]; simp), cg⟩
            | true =>
              obtain ⟨n2, c, rfl, hcx⟩ := namesQ_at hnm
              have hE2 : Aside0 (blockedQ p s i = if c.shut = true then false else if 2 = 2 then decide (c.cap ≤ c.items.length) else c.items.length == 0) := ⟨by rw [hE1.out, if_neg (by rw [hnm]; simp), Int.toNat_natCast, hcx]⟩
              have hcA := Aside0.mk hcx
              have hn2 := (List.getElem?_eq_some_iff.1 hcx).1
              have hn3 : (n2 : Int) < s.objs.length := by omega
              clear hE1 hcx
              go_upto_region 18 with ((go_at_call 60; go_must (refine (look_names _ cA fA hA mA tA oA bA nc cc fc hn hc mn mc tc oc bc p s s.objs ros 9 (n2 : Int) (hV.out.below bl).os hrl.out (hV.out.below bl).ro hmv).mono ?_); go_must (rintro e w3 ⟨rfl, hc3⟩); go_must (rw [hnm]); go_must (replace hc3 := Aside0.mk hc3)))
              (try simp only [Act.put, List.setIfInBounds_toArray, List.set_cons_zero, List.set_cons_succ])
              clear p0 p1 p2 p3 p4 p5 p6 p7 p8 p9 p10 v0 v1 hnm
              replace B8 := Aside0.mk (hc3.out.blk B8.out (fun h => h))
              have p5 : w3.cell? ⟨w.heap.size, 5, none⟩ = some (.slice oA s.objs.length oc) := blk_cell (hc3.out.blk B1.out (fun h => h)) 5
              have v1 : w3.cell? ⟨W2.heap.size, 1, none⟩ = some (.int .i64 (n2 : Int)) := blk_cell (hc3.out.blk B10.out (fun h => h)) 1
              have hv := hV.out.below (w' := w3) bl
              obtain ⟨od, q, e1, e2, x0, x1, x2, x3, x4, x5⟩ := atRO hv.os n2 hn2
              subst e1
              obtain ⟨k1, k2, k3, k4, k5, _⟩ := hv.ro n2 q c e2 hcA.out
              have k6 : q.items.2.1 = c.items.length := k5.1.symm
              rw [k1] at x0
              rw [k6] at x1
              rw [k2] at x3
              rw [k3] at x4
              rw [k4] at x5
              clear k1 k2 k3 k4 k5 k6 e2 hv
              have i0 : ∀ o, (w3.alloc o).cell? ⟨w2.heap.size + 1, 0, none⟩ = some (.int .i64 63) := fun o => cellQ (blk_cell B8.out 0) o
              cases hsh : c.shut with
              | true =>
                have hE : Aside0 (blockedQ p s i = false) := ⟨by rw [hE2.out, if_pos hsh]⟩
                rw [hsh] at x5
                clear hsh
                go_wp2
                go_ret
                exact ⟨by first | (rw [hE.out]; done) | (rw [hE.out]; simp), cg⟩
              | false =>
                have hE : Aside0 (blockedQ p s i = decide (c.cap ≤ c.items.length)) := ⟨by rw [hE2.out, if_neg (by rw [hsh]; simp)]; rfl⟩
                rw [hsh] at x5
                clear hsh
                go_wp2
                all_goals go_ret
                all_goals exact ⟨by first | (rw [hE.out]; done) | (rw [hE.out]; simp), cg⟩
          · have hE : Aside0 (blockedQ p s i = false) := ⟨by rw [hE1.out, if_pos (.inl hk9)]⟩
            have h9 : (vk != 9) = true := by simpa using hk9
            go_wp2
            go_ret
            exact ⟨by first | (rw [hE.out]; done) | (rw [hE.out]; simp), cg⟩
      · by_cases ho2 : x.op = 64
        · have hE0 : Aside0 (blockedQ p s i = waitQ s f 1) := ⟨by unfold blockedQ; simp only [hq, hq2]; rw [if_neg ho, if_pos ho2]⟩
          rw [ho2] at i0 B8
          clear ho ho2 hq hq2
          by_cases hs : f.slots.length < 1
          · have hE : Aside0 (blockedQ p s i = false) := ⟨by rw [hE0.out]; unfold waitQ; rw [if_pos hs]⟩
            go_wp2
            go_ret
            exact ⟨by first | (rw [hE.out]; done) | (rw [hE.out]; simp), cg⟩
          · obtain ⟨m, hm⟩ : ∃ m, f.slots.length = m + 1 := ⟨f.slots.length - 1, by omega⟩
            obtain ⟨ad, vk, vn, e1, e2, y0, y1⟩ := kQV_at (w := W2) (Kd.C_below hsC.out bl) m (by omega)
            subst e1
            have hmv := hsl9.out _ (List.mem_of_getElem? e2)
            simp only at hmv
            have hE1 : Aside0 (blockedQ p s i = if vk ≠ 9 ∨ namesQ s.objs vk vn = false then false else match s.objs[vn.toNat]? with | none => false | some c => if c.shut = true then false else if 1 = 2 then decide (c.cap ≤ c.items.length) else c.items.length == 0) := ⟨by rw [hE0.out]; unfold waitQ; rw [if_neg hs]; have e3 : f.slots[f.slots.length - 1]? = some ⟨vk, vn⟩ := (by rw [show f.slots.length - 1 = m by omega]; exact e2); rw [e3]⟩
            rw [hm] at f2
            have hmb : m ≤ 9223372036854775806 := by have := hsC.out.2.1; omega
            have hmc : (0 : Int) ≤ m := by omega
            clear e2 hs hm hE0
            go_upto_region 16 with (fail)
            (try simp only [Act.put, List.setIfInBounds_toArray, List.set_cons_zero, List.set_cons_succ])
            generalize hW : World.alloc W2 _ = W3
            have B10 : Aside0 (W3.heap[W2.heap.size]? = some (.cells #[.int .i64 vk, .int .i64 vn] 56)) := ⟨by rw [← hW]; exact heap_alloc_new W2 _⟩
            have hz3 : Aside0 (Chg (fun _ => False) W2 W3) := ⟨by rw [← hW]; exact cg⟩
            clear hW y0 y1 f2 i0
            replace B1 := Aside0.mk (hz3.out.blk B1.out (fun h => h))
            replace B8 := Aside0.mk (hz3.out.blk B8.out (fun h => h))
            have p0 : W3.cell? ⟨w.heap.size, 0, none⟩ = some (.slice cA nc cc) := blk_cell B1.out 0
            have p1 : W3.cell? ⟨w.heap.size, 1, none⟩ = some (.slice fA p.funcs.length fc) := blk_cell B1.out 1
            have p2 : W3.cell? ⟨w.heap.size, 2, none⟩ = some (.slice hA hn hc) := blk_cell B1.out 2
            have p3 : W3.cell? ⟨w.heap.size, 3, none⟩ = some (.slice mA mn mc) := blk_cell B1.out 3
            have p4 : W3.cell? ⟨w.heap.size, 4, none⟩ = some (.slice tA s.texts.length tc) := blk_cell B1.out 4
            have p5 : W3.cell? ⟨w.heap.size, 5, none⟩ = some (.slice oA s.objs.length oc) := blk_cell B1.out 5
            have p6 : W3.cell? ⟨w.heap.size, 6, none⟩ = some (.slice bA s.fibers.length bc) := blk_cell B1.out 6
            have p7 : W3.cell? ⟨w.heap.size, 7, none⟩ = some (.int .i64 s.cur) := blk_cell B1.out 7
            have p8 : W3.cell? ⟨w.heap.size, 8, none⟩ = some (.int .i64 s.steps) := blk_cell B1.out 8
            have p9 : W3.cell? ⟨w.heap.size, 9, none⟩ = some (.int .i64 s.spent) := blk_cell B1.out 9
            have p10 : W3.cell? ⟨w.heap.size, 10, none⟩ = some (.int .i64 s.read) := blk_cell B1.out 10
            have v0 : W3.cell? ⟨W2.heap.size, 0, none⟩ = some (.int .i64 vk) := blk_cell B10.out 0
            have v1 : W3.cell? ⟨W2.heap.size, 1, none⟩ = some (.int .i64 vn) := blk_cell B10.out 1
            by_cases hk9 : vk = 9
            · subst hk9
              cases hnm : namesQ s.objs 9 vn with
              | false =>
                have hE : Aside0 (blockedQ p s i = false) := ⟨by rw [hE1.out, if_pos (.inr hnm)]⟩
                go_wp2_with ((go_at_call 60; go_must (refine (look_names _ cA fA hA mA tA oA bA nc cc fc hn hc mn mc tc oc bc p s s.objs ros 9 vn (hV.out.below bl).os hrl.out (hV.out.below bl).ro hmv).mono ?_); go_must (rintro e w3 ⟨rfl, hc3⟩); go_must (rw [hnm]); go_must (replace hc3 := Aside0.mk hc3)))
                go_ret
                exact ⟨by first | (rw [hE.out]; done) | (rw [hE.out]; simp), cg⟩
              | true =>
                obtain ⟨n2, c, rfl, hcx⟩ := namesQ_at hnm
                have hE2 : Aside0 (blockedQ p s i = if c.shut = true then false else if 1 = 2 then decide (c.cap ≤ c.items.length) else c.items.length == 0) := ⟨by rw [hE1.out, if_neg (by rw [hnm]; simp), Int.toNat_natCast, hcx]⟩
                have hcA := Aside0.mk hcx
                have hn2 := (List.getElem?_eq_some_iff.1 hcx).1
                have hn3 : (n2 : Int) < s.objs.length := by omega
                clear hE1 hcx
                go_upto_region 18 with ((go_at_call 60; go_must (refine (look_names _ cA fA hA mA tA oA bA nc cc fc hn hc mn mc tc oc bc p s s.objs ros 9 (n2 : Int) (hV.out.below bl).os hrl.out (hV.out.below bl).ro hmv).mono ?_); go_must (rintro e w3 ⟨rfl, hc3⟩); go_must (rw [hnm]); go_must (replace hc3 := Aside0.mk hc3)))
                (try simp only [Act.put, List.setIfInBounds_toArray, List.set_cons_zero, List.set_cons_succ])
                clear p0 p1 p2 p3 p4 p5 p6 p7 p8 p9 p10 v0 v1 hnm
                replace B8 := Aside0.mk (hc3.out.blk B8.out (fun h => h))
                have p5 : w3.cell? ⟨w.heap.size, 5, none⟩ = some (.slice oA s.objs.length oc) := blk_cell (hc3.out.blk B1.out (fun h => h)) 5
                have v1 : w3.cell? ⟨W2.heap.size, 1, none⟩ = some (.int .i64 (n2 : Int)) := blk_cell (hc3.out.blk B10.out (fun h => h)) 1
                have hv := hV.out.below (w' := w3) bl
                obtain ⟨od, q, e1, e2, x0, x1, x2, x3, x4, x5⟩ := atRO hv.os n2 hn2
                subst e1
                obtain ⟨k1, k2, k3, k4, k5, _⟩ := hv.ro n2 q c e2 hcA.out
                have k6 : q.items.2.1 = c.items.length := k5.1.symm
                rw [k1] at x0
                rw [k6] at x1
                rw [k2] at x3
                rw [k3] at x4
                rw [k4] at x5
                clear k1 k2 k3 k4 k5 k6 e2 hv
                have i0 : ∀ o, (w3.alloc o).cell? ⟨w2.heap.size + 1, 0, none⟩ = some (.int .i64 64) := fun o => cellQ (blk_cell B8.out 0) o
                cases hsh : c.shut with
                | true =>
                  have hE : Aside0 (blockedQ p s i = false) := ⟨by rw [hE2.out, if_pos hsh]⟩
                  rw [hsh] at x5
                  clear hsh
                  go_wp2
                  go_ret
                  exact ⟨by first | (rw [hE.out]; done) | (rw [hE.out]; simp), cg⟩
                | false =>
                  have hE : Aside0 (blockedQ p s i = (c.items.length == 0)) := ⟨by rw [hE2.out, if_neg (by rw [hsh]; simp)]; rfl⟩
                  rw [hsh] at x5
                  clear hsh
                  go_wp2
                  all_goals go_ret
                  all_goals exact ⟨by rw [hE.out]; simp; rw [Bool.eq_iff_iff, beq_iff_eq, beq_iff_eq]; omega, cg⟩
            · have hE : Aside0 (blockedQ p s i = false) := ⟨by rw [hE1.out, if_pos (.inl hk9)]⟩
              have h9 : (vk != 9) = true := by simpa using hk9
              go_wp2
              go_ret
              exact ⟨by first | (rw [hE.out]; done) | (rw [hE.out]; simp), cg⟩
        · have hE : Aside0 (blockedQ p s i = false) := ⟨by unfold blockedQ; simp only [hq, hq2]; rw [if_neg ho, if_neg ho2]⟩
          have h1 : (x.op == 63) = false := by simpa using ho
          have h2 : (x.op == 64) = false := by simpa using ho2
          clear hq hq2
          go_wp2
          go_ret
          exact ⟨by first | (rw [hE.out]; done) | (rw [hE.out]; simp), cg⟩
end Go.Proofs.Ytdoghjmanogelaa.K
