import Derived.Test.YtdoghjmanogelaaSq
import Derived.IntWalk
import Derived.BigQuiet
import Derived.Deep.RegionHeld3
namespace Go.Proofs.Ytdoghjmanogelaa.K
open Go.RowKit Go.Proofs.YtdoghjmanogelaaW.PrintWords Go.Proofs.YtdoghjmanogelaaW.PrintLast Go.Proofs.YtdoghjmanogelaaW.PrintMore
set_option linter.unusedVariables false
set_option linter.unusedSimpArgs false
set_option maxRecDepth 100000

theorem blockedQ_out {p : QP} {s : QS} {i : Int} (h : nextQ p s i = none) (hl : ∃ f, lastQ s i = some f) : blockedQ p s i = false := by
  obtain ⟨f, hl⟩ := hl
  unfold nextQ at h
  unfold blockedQ
  rw [hl] at h ⊢
  simp only at h ⊢
  cases ha : atQ p f.fn f.pc with
  | none => rfl
  | some y => rw [ha] at h; cases h
theorem lastQ_of {s : QS} {j : Nat} {b : QB} (hb : s.fibers[j]? = some b) (h0 : b.frames.length ≠ 0) : ∃ f, lastQ s j = some f := by
  unfold lastQ
  rw [if_neg (by omega), Int.toNat_natCast, hb]
  exact ⟨_, List.getElem?_eq_getElem (by omega)⟩
set_option maxHeartbeats 8000000
theorem ref_stBlocked (w : World) (cA fA tA oA bA : Option Addr) (nc cc fc tc oc bc : Nat) (p : QP) (s : QS) (rs : List QR) (ros : List RO) (rbs : List RB) (L : List (List RF)) (i : Int) (hp : PV w cA fA p rs) (h : SView w tA oA bA s ros rbs L) (hN : SNum s) (hi1 : i ≤ 9223372036854775807) :
    Calls Try.prog 18 #[.agg #[.slice cA nc cc, .slice fA p.funcs.length fc], .agg #[.slice tA s.texts.length tc, .slice oA s.objs.length oc, .slice bA s.fibers.length bc, .int .i64 s.cur, .int .i64 s.steps, .int .i64 s.spent, .int .i64 s.read], .int .i64 i] w fun e w' => e = .returned (.bool (BlockedQ p s i)) ∧ Chg (fun _ => False) w w' := by
  have hP := Aside0.mk hp
  have hV := Aside0.mk h
  have hb := h.bs.2.1
  have hrl := Aside0.mk h.os.1
  clear hp h
  by_cases h0 : i < 0
  · have d0 : decide (i < 0) = true := by simpa using h0
    have hE : Aside0 (BlockedQ p s i = false) := ⟨by unfold BlockedQ; rw [decide_eq_false (by omega : ¬ 0 ≤ i)]; simp⟩
    go_enter Try.func18, Try.ntmps18
    go_upto_region 1 with (fail)
    (try simp only [Act.put, List.setIfInBounds_toArray, List.set_cons_zero, List.set_cons_succ])
    generalize hW : World.alloc (World.alloc w _) _ = W0
    have B1 : Aside0 (W0.heap[w.heap.size]? = some (.cells #[.slice cA nc cc, .slice fA p.funcs.length fc] 25)) := ⟨by rw [← hW]; exact ((Chg.refl (fun _ => False) (w.alloc _)).alloc _).blk (heap_alloc_new w _) (fun e => e)⟩
    have B2 : Aside0 (W0.heap[w.heap.size + 1]? = some (.cells #[.slice tA s.texts.length tc, .slice oA s.objs.length oc, .slice bA s.fibers.length bc, .int .i64 s.cur, .int .i64 s.steps, .int .i64 s.spent, .int .i64 s.read] 40)) := ⟨by rw [← hW]; exact heap_alloc2_new w _ _⟩
    have hz0 : Aside0 (Chg (fun _ => False) w W0) := ⟨by rw [← hW]; exact cg⟩
    clear hW
    have p0 : W0.cell? ⟨w.heap.size, 0, none⟩ = some (.slice cA nc cc) := blk_cell B1.out 0
    have p1 : W0.cell? ⟨w.heap.size, 1, none⟩ = some (.slice fA p.funcs.length fc) := blk_cell B1.out 1
    have s0 : W0.cell? ⟨w.heap.size + 1, 0, none⟩ = some (.slice tA s.texts.length tc) := blk_cell B2.out 0
    have s1 : W0.cell? ⟨w.heap.size + 1, 1, none⟩ = some (.slice oA s.objs.length oc) := blk_cell B2.out 1
    have s2 : W0.cell? ⟨w.heap.size + 1, 2, none⟩ = some (.slice bA s.fibers.length bc) := blk_cell B2.out 2
    have s3 : W0.cell? ⟨w.heap.size + 1, 3, none⟩ = some (.int .i64 s.cur) := blk_cell B2.out 3
    have s4 : W0.cell? ⟨w.heap.size + 1, 4, none⟩ = some (.int .i64 s.steps) := blk_cell B2.out 4
    have s5 : W0.cell? ⟨w.heap.size + 1, 5, none⟩ = some (.int .i64 s.spent) := blk_cell B2.out 5
    have s6 : W0.cell? ⟨w.heap.size + 1, 6, none⟩ = some (.int .i64 s.read) := blk_cell B2.out 6
    go_wp2
    go_ret
    exact ⟨by first | (rw [hE.out]; done) | (rw [hE.out]; simp), cg⟩
  · obtain ⟨j, hij⟩ : ∃ j : Nat, i = j := ⟨i.toNat, by omega⟩
    by_cases h1 : j < s.fibers.length
    · have hF : Aside0 (BlockedQ p s i = blockedQ p s i) := ⟨by unfold BlockedQ; rw [decide_eq_true (by omega : 0 ≤ i), decide_eq_true (by omega : i < s.fibers.length)]; rfl⟩
      obtain ⟨b, hb1⟩ : ∃ b, s.fibers[j]? = some b := ⟨_, List.getElem?_eq_getElem h1⟩
      subst hij
      by_cases h2 : b.frames.length = 0
      · have hE : Aside0 (blockedQ p s j = true) := ⟨by
          unfold blockedQ
          have : lastQ s j = none := by unfold lastQ; rw [if_neg (by omega), Int.toNat_natCast, hb1]; simp only; rw [h2]; exact List.getElem?_eq_none_iff.2 (by omega)
          rw [this]⟩
        go_enter Try.func18, Try.ntmps18
        go_upto_region 1 with (fail)
        (try simp only [Act.put, List.setIfInBounds_toArray, List.set_cons_zero, List.set_cons_succ])
        generalize hW : World.alloc (World.alloc w _) _ = W0
        have B1 : Aside0 (W0.heap[w.heap.size]? = some (.cells #[.slice cA nc cc, .slice fA p.funcs.length fc] 25)) := ⟨by rw [← hW]; exact ((Chg.refl (fun _ => False) (w.alloc _)).alloc _).blk (heap_alloc_new w _) (fun e => e)⟩
        have B2 : Aside0 (W0.heap[w.heap.size + 1]? = some (.cells #[.slice tA s.texts.length tc, .slice oA s.objs.length oc, .slice bA s.fibers.length bc, .int .i64 s.cur, .int .i64 s.steps, .int .i64 s.spent, .int .i64 s.read] 40)) := ⟨by rw [← hW]; exact heap_alloc2_new w _ _⟩
        have hz0 : Aside0 (Chg (fun _ => False) w W0) := ⟨by rw [← hW]; exact cg⟩
        clear hW
        have p0 : W0.cell? ⟨w.heap.size, 0, none⟩ = some (.slice cA nc cc) := blk_cell B1.out 0
        have p1 : W0.cell? ⟨w.heap.size, 1, none⟩ = some (.slice fA p.funcs.length fc) := blk_cell B1.out 1
        have s0 : W0.cell? ⟨w.heap.size + 1, 0, none⟩ = some (.slice tA s.texts.length tc) := blk_cell B2.out 0
        have s1 : W0.cell? ⟨w.heap.size + 1, 1, none⟩ = some (.slice oA s.objs.length oc) := blk_cell B2.out 1
        have s2 : W0.cell? ⟨w.heap.size + 1, 2, none⟩ = some (.slice bA s.fibers.length bc) := blk_cell B2.out 2
        have s3 : W0.cell? ⟨w.heap.size + 1, 3, none⟩ = some (.int .i64 s.cur) := blk_cell B2.out 3
        have s4 : W0.cell? ⟨w.heap.size + 1, 4, none⟩ = some (.int .i64 s.steps) := blk_cell B2.out 4
        have s5 : W0.cell? ⟨w.heap.size + 1, 5, none⟩ = some (.int .i64 s.spent) := blk_cell B2.out 5
        have s6 : W0.cell? ⟨w.heap.size + 1, 6, none⟩ = some (.int .i64 s.read) := blk_cell B2.out 6
        have hv := (hV.out.below (w' := W0) bl).zip
        obtain ⟨bd, q, e1, e2, z0⟩ := atRB hv.2.2 j h1
        subst e1
        obtain ⟨⟨z1, zl⟩, hz, e⟩ := pair_at e2
        subst e
        have hzx := hv.2.1 j _ b hz hb1
        have hj1 : (j : Int) < s.fibers.length := by omega
        clear hv
        have hn : q.frames.2.1 = 0 := by have h3 := hzx.1.1; have h4 := hzx.2.1; simp only at h3 h4; omega
        simp only [hn] at z0
        clear e2 hz hzx hn h2 hb1
        go_wp2
        go_ret
        exact ⟨by first | (rw [hF.out, hE.out]; done) | (rw [hF.out, hE.out]; simp), cg⟩
      · have hlq := lastQ_of hb1 h2
        go_enter Try.func18, Try.ntmps18
        go_upto_region 1 with (fail)
        (try simp only [Act.put, List.setIfInBounds_toArray, List.set_cons_zero, List.set_cons_succ])
        generalize hW : World.alloc (World.alloc w _) _ = W0
        have B1 : Aside0 (W0.heap[w.heap.size]? = some (.cells #[.slice cA nc cc, .slice fA p.funcs.length fc] 25)) := ⟨by rw [← hW]; exact ((Chg.refl (fun _ => False) (w.alloc _)).alloc _).blk (heap_alloc_new w _) (fun e => e)⟩
        have B2 : Aside0 (W0.heap[w.heap.size + 1]? = some (.cells #[.slice tA s.texts.length tc, .slice oA s.objs.length oc, .slice bA s.fibers.length bc, .int .i64 s.cur, .int .i64 s.steps, .int .i64 s.spent, .int .i64 s.read] 40)) := ⟨by rw [← hW]; exact heap_alloc2_new w _ _⟩
        have hz0 : Aside0 (Chg (fun _ => False) w W0) := ⟨by rw [← hW]; exact cg⟩
        clear hW
        have p0 : W0.cell? ⟨w.heap.size, 0, none⟩ = some (.slice cA nc cc) := blk_cell B1.out 0
        have p1 : W0.cell? ⟨w.heap.size, 1, none⟩ = some (.slice fA p.funcs.length fc) := blk_cell B1.out 1
        have s0 : W0.cell? ⟨w.heap.size + 1, 0, none⟩ = some (.slice tA s.texts.length tc) := blk_cell B2.out 0
        have s1 : W0.cell? ⟨w.heap.size + 1, 1, none⟩ = some (.slice oA s.objs.length oc) := blk_cell B2.out 1
        have s2 : W0.cell? ⟨w.heap.size + 1, 2, none⟩ = some (.slice bA s.fibers.length bc) := blk_cell B2.out 2
        have s3 : W0.cell? ⟨w.heap.size + 1, 3, none⟩ = some (.int .i64 s.cur) := blk_cell B2.out 3
        have s4 : W0.cell? ⟨w.heap.size + 1, 4, none⟩ = some (.int .i64 s.steps) := blk_cell B2.out 4
        have s5 : W0.cell? ⟨w.heap.size + 1, 5, none⟩ = some (.int .i64 s.spent) := blk_cell B2.out 5
        have s6 : W0.cell? ⟨w.heap.size + 1, 6, none⟩ = some (.int .i64 s.read) := blk_cell B2.out 6
        have hv := (hV.out.below (w' := W0) bl).zip
        obtain ⟨bd, q, e1, e2, z0⟩ := atRB hv.2.2 j h1
        subst e1
        obtain ⟨⟨z1, zl⟩, hz, e⟩ := pair_at e2
        subst e
        have hzx := hv.2.1 j _ b hz hb1
        have hj1 : (j : Int) < s.fibers.length := by omega
        clear hv
        have hlen : q.frames.2.1 = b.frames.length := by have h3 := hzx.1.1; have h4 := hzx.2.1; simp only at h3 h4; omega
        have hne : ((b.frames.length : Int) == 0) = false := by rw [beq_eq_false_iff_ne]; omega
        rw [hlen] at z0
        clear e2 hz hzx hlen h2 hb1
        cases hq : nextQ p s j with
        | none =>
          have hE : Aside0 (blockedQ p s j = false) := ⟨blockedQ_out hq hlq⟩
          clear hlq
          go_upto_region 6 with ((go_at_call 51; go_must (refine (ref_Next _ _ _ _ _ _ _ _ _ _ _ _ p s rs ros rbs L (j : Int) (hP.out.below bl) (hV.out.below bl) hN hi1).mono ?_); go_must (intro e w1 hp); go_must (unfold NextPost at hp); go_must (rw [hq] at hp); go_must (obtain ⟨hc1, rfl⟩ := hp); go_must (replace hc1 := Aside0.mk hc1)))
          (try simp only [Act.put, List.setIfInBounds_toArray, List.set_cons_zero, List.set_cons_succ])
          generalize hW : World.alloc (World.alloc w1 _) _ = W2
          have B7 : Aside0 (W2.heap[w1.heap.size]? = some (.cells #[.int .i64 0, .int .i64 0] 92)) := ⟨by rw [← hW]; exact ((Chg.refl (fun _ => False) (w1.alloc _)).alloc _).blk (heap_alloc_new w1 _) (fun e => e)⟩
          have B8 : Aside0 (W2.heap[w1.heap.size + 1]? = some (.cells #[.int .i64 0, .int .i64 0, .slice none 0 0] 54)) := ⟨by rw [← hW]; exact heap_alloc2_new w1 _ _⟩
          have hz2 : Aside0 (Chg (fun _ => False) w1 W2) := ⟨by rw [← hW]; exact cg⟩
          clear hW
          replace B1 := Aside0.mk (hz2.out.blk (hc1.out.blk B1.out (fun h => h)) (fun h => h))
          replace B2 := Aside0.mk (hz2.out.blk (hc1.out.blk B2.out (fun h => h)) (fun h => h))
          clear p0 p1 s0 s1 s2 s3 s4 s5 s6 z0
          have i0 : W2.cell? ⟨w1.heap.size, 0, none⟩ = some (.int .i64 0) := blk_cell B7.out 0
          go_wp2
          go_ret
          exact ⟨by first | (rw [hF.out, hE.out]; done) | (rw [hF.out, hE.out]; simp), cg⟩
        | some xf =>
          obtain ⟨x, f⟩ := xf
          obtain ⟨hl, g, ha⟩ := nextQ_some hq
          obtain ⟨b9, hb9, hf9⟩ := lastQ_mem hl
          have hsl9 := Aside0.mk (hN.sl b9 hb9 f hf9)
          have hlA := Aside0.mk hl
          have haA := Aside0.mk ha
          clear hb9 hf9 hl ha hlq
          go_upto_region 6 with ((go_at_call 51; go_must (refine (ref_Next _ _ _ _ _ _ _ _ _ _ _ _ p s rs ros rbs L (j : Int) (hP.out.below bl) (hV.out.below bl) hN hi1).mono ?_); go_must (intro e w1 hp); go_must (unfold NextPost at hp); go_must (rw [hq] at hp); go_must (obtain ⟨hc1, ⟨xA, xN, xC⟩, rfl, hsl⟩ := hp); go_must (simp only [svl]); go_must (replace hc1 := Aside0.mk hc1); go_must (have hxn : xN = f.slots.length := hsl.1.symm); go_must (simp only at hsl); go_must (subst hxn); go_must (have hsC := Aside0.mk hsl); go_must (clear hsl)))
          (try simp only [Act.put, List.setIfInBounds_toArray, List.set_cons_zero, List.set_cons_succ])
          generalize hW : World.alloc (World.alloc w1 _) _ = W2
          have B7 : Aside0 (W2.heap[w1.heap.size]? = some (.cells #[.int .i64 x.op, .int .i64 x.a] 92)) := ⟨by rw [← hW]; exact ((Chg.refl (fun _ => False) (w1.alloc _)).alloc _).blk (heap_alloc_new w1 _) (fun e => e)⟩
          have B8 : Aside0 (W2.heap[w1.heap.size + 1]? = some (.cells #[.int .i64 f.fn, .int .i64 f.pc, .slice xA f.slots.length xC] 54)) := ⟨by rw [← hW]; exact heap_alloc2_new w1 _ _⟩
          have hz2 : Aside0 (Chg (fun _ => False) w1 W2) := ⟨by rw [← hW]; exact cg⟩
          clear hW
          replace B1 := Aside0.mk (hz2.out.blk (hc1.out.blk B1.out (fun h => h)) (fun h => h))
          replace B2 := Aside0.mk (hz2.out.blk (hc1.out.blk B2.out (fun h => h)) (fun h => h))
          clear p0 p1 s0 s1 s2 s3 s4 s5 s6 z0
          have i0 : W2.cell? ⟨w1.heap.size, 0, none⟩ = some (.int .i64 x.op) := blk_cell B7.out 0
          have f2 : W2.cell? ⟨w1.heap.size + 1, 2, none⟩ = some (.slice xA f.slots.length xC) := blk_cell B8.out 2
          clear hq
          by_cases ho : x.op = 63
          · have hE0 : Aside0 (blockedQ p s (j : Int) = waitQ s f 2) := ⟨by unfold blockedQ; simp only [hlA.out, haA.out]; rw [if_pos ho]⟩
            rw [ho] at i0
            clear ho
            by_cases hs : f.slots.length < 2
            · have hE : Aside0 (blockedQ p s (j : Int) = false) := ⟨by rw [hE0.out]; unfold waitQ; rw [if_pos hs]⟩
              go_wp2
              go_ret
              exact ⟨by first | (rw [hF.out, hE.out]; done) | (rw [hF.out, hE.out]; simp), cg⟩
            · obtain ⟨m, hm⟩ : ∃ m, f.slots.length = m + 2 := ⟨f.slots.length - 2, by omega⟩
              obtain ⟨ad, vk, vn, e1, e2, y0, y1⟩ := kQV_at (w := W2) (Kd.C_below hsC.out bl) m (by omega)
              subst e1
              have hmv := hsl9.out _ (List.mem_of_getElem? e2)
              simp only at hmv
              have hE1 : Aside0 (blockedQ p s (j : Int) = if vk ≠ 9 ∨ namesQ s.objs vk vn = false then false else match s.objs[vn.toNat]? with | none => false | some c => if c.shut = true then false else if 2 = 2 then decide (c.cap ≤ c.items.length) else c.items.length == 0) := ⟨by rw [hE0.out]; unfold waitQ; rw [if_neg hs]; have e3 : f.slots[f.slots.length - 2]? = some ⟨vk, vn⟩ := (by rw [show f.slots.length - 2 = m by omega]; exact e2); first | (rw [e3]; done) | (rw [e3]; rfl)⟩
              rw [hm] at f2
              have hmb : m ≤ 9223372036854775806 := by have := hsC.out.2.1; omega
              have hmc : (0 : Int) ≤ m := by omega
              clear e2 hs hm hE0
              go_upto_region 12 with (fail)
              (try simp only [Act.put, List.setIfInBounds_toArray, List.set_cons_zero, List.set_cons_succ])
              generalize hW : World.alloc W2 _ = W3
              have B10 : Aside0 (W3.heap[W2.heap.size]? = some (.cells #[.int .i64 vk, .int .i64 vn] 56)) := ⟨by rw [← hW]; exact heap_alloc_new W2 _⟩
              have hz3 : Aside0 (Chg (fun _ => False) W2 W3) := ⟨by rw [← hW]; exact cg⟩
              clear hW y0 y1 f2 i0
              replace B2 := Aside0.mk (hz3.out.blk B2.out (fun h => h))
              have s1 : W3.cell? ⟨w.heap.size + 1, 1, none⟩ = some (.slice oA s.objs.length oc) := blk_cell B2.out 1
              have v0 : W3.cell? ⟨W2.heap.size, 0, none⟩ = some (.int .i64 vk) := blk_cell B10.out 0
              have v1 : W3.cell? ⟨W2.heap.size, 1, none⟩ = some (.int .i64 vn) := blk_cell B10.out 1
              by_cases hk9 : vk = 9
              · subst hk9
                cases hnm : namesQ s.objs 9 vn with
                | false =>
                  have hE : Aside0 (blockedQ p s (j : Int) = false) := ⟨by rw [hE1.out, if_pos (.inr hnm)]⟩
                  go_wp2_with ((go_at_call 54; go_must (refine (ref_NamesObject _ oA oc s.objs ros 9 vn (hV.out.below bl).os hrl.out (hV.out.below bl).ro hmv).mono ?_); go_must (rintro e w3 ⟨rfl, hc3⟩); go_must (rw [hnm]); go_must (replace hc3 := Aside0.mk hc3)))
                  go_ret
                  exact ⟨by first | (rw [hF.out, hE.out]; done) | (rw [hF.out, hE.out]; simp), cg⟩
                | true =>
                  obtain ⟨n2, c, rfl, hcx⟩ := namesQ_at hnm
                  have hE2 : Aside0 (blockedQ p s (j : Int) = if c.shut = true then false else if 2 = 2 then decide (c.cap ≤ c.items.length) else c.items.length == 0) := ⟨by rw [hE1.out, if_neg (by rw [hnm]; simp), Int.toNat_natCast, hcx]⟩
                  have hcA := Aside0.mk hcx
                  have hn2 := (List.getElem?_eq_some_iff.1 hcx).1
                  have hn3 : (n2 : Int) < s.objs.length := by omega
                  clear hE1 hcx
                  cases hsh : c.shut with
                  | true =>
                    have hE : Aside0 (blockedQ p s (j : Int) = false) := ⟨by rw [hE2.out, if_pos hsh]⟩
                    have hshA := Aside0.mk hsh
                    clear hsh hE2
                    go_wp2_with ((go_at_call 54; go_must (refine (ref_NamesObject _ oA oc s.objs ros 9 (n2 : Int) (hV.out.below bl).os hrl.out (hV.out.below bl).ro hmv).mono ?_); go_must (rintro e w3 ⟨rfl, hc3⟩); go_must (rw [hnm]); go_must (replace hc3 := Aside0.mk hc3); go_must (have hv := hV.out.below (w' := w3) bl); go_must (obtain ⟨od, q, e1, e2, x0, x1, x2, x3, x4, x5⟩ := atRO hv.os n2 hn2); go_must (subst e1); go_must (have s1 : w3.cell? ⟨w.heap.size + 1, 1, none⟩ = some (.slice (some od) s.objs.length oc) := blk_cell (hc3.out.blk B2.out (fun h => h)) 1); go_must (have v1 : w3.cell? ⟨W2.heap.size, 1, none⟩ = some (.int .i64 (n2 : Int)) := blk_cell (hc3.out.blk B10.out (fun h => h)) 1); go_must (obtain ⟨k1, k2, k3, k4, k5, _⟩ := hv.ro n2 q c e2 hcA.out); go_must (have k6 : q.items.2.1 = c.items.length := k5.1.symm); go_must (rw [k1] at x0); go_must (rw [k6] at x1); go_must (rw [k2] at x3); go_must (rw [k3] at x4); go_must (rw [k4, hshA.out] at x5); go_must (clear k1 k2 k3 k4 k5 k6 e2 hv)))
                    go_ret
                    exact ⟨by first | (rw [hF.out, hE.out]; done) | (rw [hF.out, hE.out]; simp), cg⟩
                  | false =>
                    have hE : Aside0 (blockedQ p s (j : Int) = decide (c.cap ≤ c.items.length)) := ⟨by rw [hE2.out, if_neg (by rw [hsh]; simp)]; rfl⟩
                    have hshA := Aside0.mk hsh
                    clear hsh hE2
                    go_wp2_with ((go_at_call 54; go_must (refine (ref_NamesObject _ oA oc s.objs ros 9 (n2 : Int) (hV.out.below bl).os hrl.out (hV.out.below bl).ro hmv).mono ?_); go_must (rintro e w3 ⟨rfl, hc3⟩); go_must (rw [hnm]); go_must (replace hc3 := Aside0.mk hc3); go_must (have hv := hV.out.below (w' := w3) bl); go_must (obtain ⟨od, q, e1, e2, x0, x1, x2, x3, x4, x5⟩ := atRO hv.os n2 hn2); go_must (subst e1); go_must (have s1 : w3.cell? ⟨w.heap.size + 1, 1, none⟩ = some (.slice (some od) s.objs.length oc) := blk_cell (hc3.out.blk B2.out (fun h => h)) 1); go_must (have v1 : w3.cell? ⟨W2.heap.size, 1, none⟩ = some (.int .i64 (n2 : Int)) := blk_cell (hc3.out.blk B10.out (fun h => h)) 1); go_must (obtain ⟨k1, k2, k3, k4, k5, _⟩ := hv.ro n2 q c e2 hcA.out); go_must (have k6 : q.items.2.1 = c.items.length := k5.1.symm); go_must (rw [k1] at x0); go_must (rw [k6] at x1); go_must (rw [k2] at x3); go_must (rw [k3] at x4); go_must (rw [k4, hshA.out] at x5); go_must (clear k1 k2 k3 k4 k5 k6 e2 hv)))
                    go_ret
                    exact ⟨by first | (rw [hF.out, hE.out]; done) | (rw [hF.out, hE.out]; simp), cg⟩
              · have hE : Aside0 (blockedQ p s (j : Int) = false) := ⟨by rw [hE1.out, if_pos (.inl hk9)]⟩
                have h9 : (vk != 9) = true := by simpa using hk9
                go_wp2
                go_ret
                exact ⟨by first | (rw [hF.out, hE.out]; done) | (rw [hF.out, hE.out]; simp), cg⟩
          · by_cases ho2 : x.op = 64
            · have hE0 : Aside0 (blockedQ p s (j : Int) = waitQ s f 1) := ⟨by unfold blockedQ; simp only [hlA.out, haA.out]; rw [if_neg ho, if_pos ho2]⟩
              rw [ho2] at i0
              clear ho ho2
              by_cases hs : f.slots.length < 1
              · have hE : Aside0 (blockedQ p s (j : Int) = false) := ⟨by rw [hE0.out]; unfold waitQ; rw [if_pos hs]⟩
                go_wp2
                go_ret
                exact ⟨by first | (rw [hF.out, hE.out]; done) | (rw [hF.out, hE.out]; simp), cg⟩
              · obtain ⟨m, hm⟩ : ∃ m, f.slots.length = m + 1 := ⟨f.slots.length - 1, by omega⟩
                obtain ⟨ad, vk, vn, e1, e2, y0, y1⟩ := kQV_at (w := W2) (Kd.C_below hsC.out bl) m (by omega)
                subst e1
                have hmv := hsl9.out _ (List.mem_of_getElem? e2)
                simp only at hmv
                have hE1 : Aside0 (blockedQ p s (j : Int) = if vk ≠ 9 ∨ namesQ s.objs vk vn = false then false else match s.objs[vn.toNat]? with | none => false | some c => if c.shut = true then false else if 1 = 2 then decide (c.cap ≤ c.items.length) else c.items.length == 0) := ⟨by rw [hE0.out]; unfold waitQ; rw [if_neg hs]; have e3 : f.slots[f.slots.length - 1]? = some ⟨vk, vn⟩ := (by rw [show f.slots.length - 1 = m by omega]; exact e2); first | (rw [e3]; done) | (rw [e3]; rfl)⟩
                rw [hm] at f2
                have hmb : m ≤ 9223372036854775806 := by have := hsC.out.2.1; omega
                have hmc : (0 : Int) ≤ m := by omega
                clear e2 hs hm hE0
                go_upto_region 12 with (fail)
                (try simp only [Act.put, List.setIfInBounds_toArray, List.set_cons_zero, List.set_cons_succ])
                generalize hW : World.alloc W2 _ = W3
                have B10 : Aside0 (W3.heap[W2.heap.size]? = some (.cells #[.int .i64 vk, .int .i64 vn] 56)) := ⟨by rw [← hW]; exact heap_alloc_new W2 _⟩
                have hz3 : Aside0 (Chg (fun _ => False) W2 W3) := ⟨by rw [← hW]; exact cg⟩
                clear hW y0 y1 f2 i0
                replace B2 := Aside0.mk (hz3.out.blk B2.out (fun h => h))
                have s1 : W3.cell? ⟨w.heap.size + 1, 1, none⟩ = some (.slice oA s.objs.length oc) := blk_cell B2.out 1
                have v0 : W3.cell? ⟨W2.heap.size, 0, none⟩ = some (.int .i64 vk) := blk_cell B10.out 0
                have v1 : W3.cell? ⟨W2.heap.size, 1, none⟩ = some (.int .i64 vn) := blk_cell B10.out 1
                by_cases hk9 : vk = 9
                · subst hk9
                  cases hnm : namesQ s.objs 9 vn with
                  | false =>
                    have hE : Aside0 (blockedQ p s (j : Int) = false) := ⟨by rw [hE1.out, if_pos (.inr hnm)]⟩
                    go_wp2_with ((go_at_call 54; go_must (refine (ref_NamesObject _ oA oc s.objs ros 9 vn (hV.out.below bl).os hrl.out (hV.out.below bl).ro hmv).mono ?_); go_must (rintro e w3 ⟨rfl, hc3⟩); go_must (rw [hnm]); go_must (replace hc3 := Aside0.mk hc3)))
                    go_ret
                    exact ⟨by first | (rw [hF.out, hE.out]; done) | (rw [hF.out, hE.out]; simp), cg⟩
                  | true =>
                    obtain ⟨n2, c, rfl, hcx⟩ := namesQ_at hnm
                    have hE2 : Aside0 (blockedQ p s (j : Int) = if c.shut = true then false else if 1 = 2 then decide (c.cap ≤ c.items.length) else c.items.length == 0) := ⟨by rw [hE1.out, if_neg (by rw [hnm]; simp), Int.toNat_natCast, hcx]⟩
                    have hcA := Aside0.mk hcx
                    have hn2 := (List.getElem?_eq_some_iff.1 hcx).1
                    have hn3 : (n2 : Int) < s.objs.length := by omega
                    clear hE1 hcx
                    cases hsh : c.shut with
                    | true =>
                      have hE : Aside0 (blockedQ p s (j : Int) = false) := ⟨by rw [hE2.out, if_pos hsh]⟩
                      have hshA := Aside0.mk hsh
                      clear hsh hE2
                      go_wp2_with ((go_at_call 54; go_must (refine (ref_NamesObject _ oA oc s.objs ros 9 (n2 : Int) (hV.out.below bl).os hrl.out (hV.out.below bl).ro hmv).mono ?_); go_must (rintro e w3 ⟨rfl, hc3⟩); go_must (rw [hnm]); go_must (replace hc3 := Aside0.mk hc3); go_must (have hv := hV.out.below (w' := w3) bl); go_must (obtain ⟨od, q, e1, e2, x0, x1, x2, x3, x4, x5⟩ := atRO hv.os n2 hn2); go_must (subst e1); go_must (have s1 : w3.cell? ⟨w.heap.size + 1, 1, none⟩ = some (.slice (some od) s.objs.length oc) := blk_cell (hc3.out.blk B2.out (fun h => h)) 1); go_must (have v1 : w3.cell? ⟨W2.heap.size, 1, none⟩ = some (.int .i64 (n2 : Int)) := blk_cell (hc3.out.blk B10.out (fun h => h)) 1); go_must (obtain ⟨k1, k2, k3, k4, k5, _⟩ := hv.ro n2 q c e2 hcA.out); go_must (have k6 : q.items.2.1 = c.items.length := k5.1.symm); go_must (rw [k1] at x0); go_must (rw [k6] at x1); go_must (rw [k2] at x3); go_must (rw [k3] at x4); go_must (rw [k4, hshA.out] at x5); go_must (clear k1 k2 k3 k4 k5 k6 e2 hv)))
                      go_ret
                      exact ⟨by first | (rw [hF.out, hE.out]; done) | (rw [hF.out, hE.out]; simp), cg⟩
                    | false =>
                      have hE : Aside0 (blockedQ p s (j : Int) = (c.items.length == 0)) := ⟨by rw [hE2.out, if_neg (by rw [hsh]; simp)]; rfl⟩
                      have hshA := Aside0.mk hsh
                      clear hsh hE2
                      go_wp2_with ((go_at_call 54; go_must (refine (ref_NamesObject _ oA oc s.objs ros 9 (n2 : Int) (hV.out.below bl).os hrl.out (hV.out.below bl).ro hmv).mono ?_); go_must (rintro e w3 ⟨rfl, hc3⟩); go_must (rw [hnm]); go_must (replace hc3 := Aside0.mk hc3); go_must (have hv := hV.out.below (w' := w3) bl); go_must (obtain ⟨od, q, e1, e2, x0, x1, x2, x3, x4, x5⟩ := atRO hv.os n2 hn2); go_must (subst e1); go_must (have s1 : w3.cell? ⟨w.heap.size + 1, 1, none⟩ = some (.slice (some od) s.objs.length oc) := blk_cell (hc3.out.blk B2.out (fun h => h)) 1); go_must (have v1 : w3.cell? ⟨W2.heap.size, 1, none⟩ = some (.int .i64 (n2 : Int)) := blk_cell (hc3.out.blk B10.out (fun h => h)) 1); go_must (obtain ⟨k1, k2, k3, k4, k5, _⟩ := hv.ro n2 q c e2 hcA.out); go_must (have k6 : q.items.2.1 = c.items.length := k5.1.symm); go_must (rw [k1] at x0); go_must (rw [k6] at x1); go_must (rw [k2] at x3); go_must (rw [k3] at x4); go_must (rw [k4, hshA.out] at x5); go_must (clear k1 k2 k3 k4 k5 k6 e2 hv)))
                      go_ret
                      exact ⟨by rw [hF.out, hE.out]; simp; rw [Bool.eq_iff_iff, beq_iff_eq, beq_iff_eq]; omega, cg⟩
                · have hE : Aside0 (blockedQ p s (j : Int) = false) := ⟨by rw [hE1.out, if_pos (.inl hk9)]⟩
                  have h9 : (vk != 9) = true := by simpa using hk9
                  go_wp2
                  go_ret
                  exact ⟨by first | (rw [hF.out, hE.out]; done) | (rw [hF.out, hE.out]; simp), cg⟩
            · have hE : Aside0 (blockedQ p s (j : Int) = false) := ⟨by unfold blockedQ; simp only [hlA.out, haA.out]; rw [if_neg ho, if_neg ho2]⟩
              have h1 : (x.op == 63) = false := by simpa using ho
              have h2 : (x.op == 64) = false := by simpa using ho2
              have h3 : (x.op != 63) = true := by simpa using ho
              have h4 : (x.op != 64) = true := by simpa using ho2
              go_wp2
              go_ret
              exact ⟨by first | (rw [hF.out, hE.out]; done) | (rw [hF.out, hE.out]; simp), cg⟩
    · have d0 : decide (i < 0) = false := by simpa using h0
      have d1 : decide ((s.fibers.length : Int) ≤ i) = true := by simp; omega
      have hE : Aside0 (BlockedQ p s i = false) := ⟨by unfold BlockedQ; rw [decide_eq_false (by omega : ¬ i < s.fibers.length)]; simp⟩
      clear hij
      go_enter Try.func18, Try.ntmps18
      go_upto_region 1 with (fail)
      (try simp only [Act.put, List.setIfInBounds_toArray, List.set_cons_zero, List.set_cons_succ])
      generalize hW : World.alloc (World.alloc w _) _ = W0
      have B1 : Aside0 (W0.heap[w.heap.size]? = some (.cells #[.slice cA nc cc, .slice fA p.funcs.length fc] 25)) := ⟨by rw [← hW]; exact ((Chg.refl (fun _ => False) (w.alloc _)).alloc _).blk (heap_alloc_new w _) (fun e => e)⟩
      have B2 : Aside0 (W0.heap[w.heap.size + 1]? = some (.cells #[.slice tA s.texts.length tc, .slice oA s.objs.length oc, .slice bA s.fibers.length bc, .int .i64 s.cur, .int .i64 s.steps, .int .i64 s.spent, .int .i64 s.read] 40)) := ⟨by rw [← hW]; exact heap_alloc2_new w _ _⟩
      have hz0 : Aside0 (Chg (fun _ => False) w W0) := ⟨by rw [← hW]; exact cg⟩
      clear hW
      have p0 : W0.cell? ⟨w.heap.size, 0, none⟩ = some (.slice cA nc cc) := blk_cell B1.out 0
      have p1 : W0.cell? ⟨w.heap.size, 1, none⟩ = some (.slice fA p.funcs.length fc) := blk_cell B1.out 1
      have s0 : W0.cell? ⟨w.heap.size + 1, 0, none⟩ = some (.slice tA s.texts.length tc) := blk_cell B2.out 0
      have s1 : W0.cell? ⟨w.heap.size + 1, 1, none⟩ = some (.slice oA s.objs.length oc) := blk_cell B2.out 1
      have s2 : W0.cell? ⟨w.heap.size + 1, 2, none⟩ = some (.slice bA s.fibers.length bc) := blk_cell B2.out 2
      have s3 : W0.cell? ⟨w.heap.size + 1, 3, none⟩ = some (.int .i64 s.cur) := blk_cell B2.out 3
      have s4 : W0.cell? ⟨w.heap.size + 1, 4, none⟩ = some (.int .i64 s.steps) := blk_cell B2.out 4
      have s5 : W0.cell? ⟨w.heap.size + 1, 5, none⟩ = some (.int .i64 s.spent) := blk_cell B2.out 5
      have s6 : W0.cell? ⟨w.heap.size + 1, 6, none⟩ = some (.int .i64 s.read) := blk_cell B2.out 6
      go_wp2
      go_ret
      exact ⟨by first | (rw [hE.out]; done) | (rw [hE.out]; simp), cg⟩
end Go.Proofs.Ytdoghjmanogelaa.K
