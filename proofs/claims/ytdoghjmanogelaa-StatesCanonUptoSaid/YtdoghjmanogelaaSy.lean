import Derived.Test.YtdoghjmanogelaaSx
import Derived.IntWalk
import Derived.BigQuiet
import Derived.Deep.RegionHeld3
namespace Go.Proofs.Ytdoghjmanogelaa.K
open Go.RowKit Go.Proofs.YtdoghjmanogelaaW.PrintWords Go.Proofs.YtdoghjmanogelaaW.PrintLast Go.Proofs.YtdoghjmanogelaaW.PrintMore
set_option linter.unusedVariables false
set_option linter.unusedSimpArgs false
set_option maxRecDepth 100000

set_option maxHeartbeats 8000000
theorem same_State (w : World) (tA oA bA tA' oA' bA' : Option Addr) (tc oc bc tc' oc' bc' : Nat) (s s' : QS) (ros ros' : List RO) (rbs rbs' : List RB) (L L' : List (List RF)) (h : SView w tA oA bA s ros rbs L) (h' : SView w tA' oA' bA' s' ros' rbs' L') :
    Calls Try.prog 22 #[.agg #[.slice tA s.texts.length tc, .slice oA s.objs.length oc, .slice bA s.fibers.length bc, .int .i64 s.cur, .int .i64 s.steps, .int .i64 s.spent, .int .i64 s.read], .agg #[.slice tA' s'.texts.length tc', .slice oA' s'.objs.length oc', .slice bA' s'.fibers.length bc', .int .i64 s'.cur, .int .i64 s'.steps, .int .i64 s'.spent, .int .i64 s'.read]] w (Told (s = s') w) := by
  obtain ⟨ts, os, bs, c1, s1, p1, r1⟩ := s
  obtain ⟨ts', os', bs', c2, s2, p2, r2⟩ := s'
  have hV := Aside0.mk h
  have hV2 := Aside0.mk h'
  have hrol := Aside0.mk h.os.1
  have hrol' := Aside0.mk h'.os.1
  clear h h'
  simp only at hrol hrol' ⊢
  by_cases h_c1 : c1 = c2
  · subst h_c1
    by_cases h_s1 : s1 = s2
    · subst h_s1
      by_cases h_p1 : p1 = p2
      · subst h_p1
        by_cases h_r1 : r1 = r2
        · subst h_r1
          have B1 : Aside0 ((w.alloc (.cells #[.slice tA ts.length tc, .slice oA os.length oc, .slice bA bs.length bc, .int .i64 c1, .int .i64 s1, .int .i64 p1, .int .i64 r1] 40)).heap[w.heap.size]? = some (.cells #[.slice tA ts.length tc, .slice oA os.length oc, .slice bA bs.length bc, .int .i64 c1, .int .i64 s1, .int .i64 p1, .int .i64 r1] 40)) := ⟨heap_alloc_new w _⟩
          have B2 : Aside0 (((w.alloc (.cells #[.slice tA ts.length tc, .slice oA os.length oc, .slice bA bs.length bc, .int .i64 c1, .int .i64 s1, .int .i64 p1, .int .i64 r1] 40)).alloc (.cells #[.slice tA' ts'.length tc', .slice oA' os'.length oc', .slice bA' bs'.length bc', .int .i64 c1, .int .i64 s1, .int .i64 p1, .int .i64 r1] 40)).heap[w.heap.size + 1]? = some (.cells #[.slice tA' ts'.length tc', .slice oA' os'.length oc', .slice bA' bs'.length bc', .int .i64 c1, .int .i64 s1, .int .i64 p1, .int .i64 r1] 40)) := ⟨heap_alloc2_new w _ _⟩
          by_cases h_t : ts = ts'
          · replace h_t := Aside0.mk h_t
            by_cases h_o : os = os'
            · replace h_o := Aside0.mk h_o
              by_cases h_b : bs = bs'
              · replace h_b := Aside0.mk h_b
                go_enter Try.func22, Try.ntmps22
                go_wp2_with (first | (go_at_call 63; go_must (refine (told_yes (same_Texts _ tA tA' _ _ tc tc' ts ts' (hV.out.below bl).ts (hV2.out.below bl).ts) h_t.out).mono ?_); go_must (rintro e w1 ⟨rfl, hc1⟩); go_must (replace hc1 := Aside0.mk hc1); go_must (have p1_0 : w1.cell? ⟨w.heap.size, 1, none⟩ = some (.slice oA os.length oc) := blk_cell (cs := #[.slice tA ts.length tc, .slice oA os.length oc, .slice bA bs.length bc, .int .i64 c1, .int .i64 s1, .int .i64 p1, .int .i64 r1]) (t := 40) bk 1); go_must (have p1_1 : w1.cell? ⟨w.heap.size + 1, 1, none⟩ = some (.slice oA' os'.length oc') := blk_cell (cs := #[.slice tA' ts'.length tc', .slice oA' os'.length oc', .slice bA' bs'.length bc', .int .i64 c1, .int .i64 s1, .int .i64 p1, .int .i64 r1]) (t := 40) bk 1); go_must (have p1_2 : w1.cell? ⟨w.heap.size, 2, none⟩ = some (.slice bA bs.length bc) := blk_cell (cs := #[.slice tA ts.length tc, .slice oA os.length oc, .slice bA bs.length bc, .int .i64 c1, .int .i64 s1, .int .i64 p1, .int .i64 r1]) (t := 40) bk 2); go_must (have p1_3 : w1.cell? ⟨w.heap.size + 1, 2, none⟩ = some (.slice bA' bs'.length bc') := blk_cell (cs := #[.slice tA' ts'.length tc', .slice oA' os'.length oc', .slice bA' bs'.length bc', .int .i64 c1, .int .i64 s1, .int .i64 p1, .int .i64 r1]) (t := 40) bk 2)) | (go_at_call 64; go_must (refine (told_yes (same_Objects _ oA oA' _ _ oc oc' ros ros' os os' (hV.out.below bl).os (hV2.out.below bl).os hrol.out hrol'.out (hV.out.below bl).ro (hV2.out.below bl).ro) h_o.out).mono ?_); go_must (rintro e w2 ⟨rfl, hc2⟩); go_must (replace hc2 := Aside0.mk hc2); go_must (have p2_0 : w2.cell? ⟨w.heap.size, 2, none⟩ = some (.slice bA bs.length bc) := blk_cell (cs := #[.slice tA ts.length tc, .slice oA os.length oc, .slice bA bs.length bc, .int .i64 c1, .int .i64 s1, .int .i64 p1, .int .i64 r1]) (t := 40) bk 2); go_must (have p2_1 : w2.cell? ⟨w.heap.size + 1, 2, none⟩ = some (.slice bA' bs'.length bc') := blk_cell (cs := #[.slice tA' ts'.length tc', .slice oA' os'.length oc', .slice bA' bs'.length bc', .int .i64 c1, .int .i64 s1, .int .i64 p1, .int .i64 r1]) (t := 40) bk 2)) | (go_at_call 65; go_must (refine (told_yes (same_Fibers _ bA bA' _ _ bc bc' (rbs.zip L) (rbs'.zip L') bs bs' (hV.out.below bl).zip.2.2 (hV2.out.below bl).zip.2.2 (hV.out.below bl).zip.1 (hV2.out.below bl).zip.1 (hV.out.below bl).zip.2.1 (hV2.out.below bl).zip.2.1) h_b.out).mono ?_); go_must (rintro e w3 ⟨rfl, hc3⟩); go_must (replace hc3 := Aside0.mk hc3)))
                go_ret
                exact ⟨true, rfl, ⟨fun _ => (by rw [h_t.out, h_o.out, h_b.out]), fun _ => rfl⟩, cg⟩
              · replace h_b := Aside0.mk h_b
                go_enter Try.func22, Try.ntmps22
                go_wp2_with (first | (go_at_call 63; go_must (refine (told_yes (same_Texts _ tA tA' _ _ tc tc' ts ts' (hV.out.below bl).ts (hV2.out.below bl).ts) h_t.out).mono ?_); go_must (rintro e w1 ⟨rfl, hc1⟩); go_must (replace hc1 := Aside0.mk hc1); go_must (have p1_0 : w1.cell? ⟨w.heap.size, 1, none⟩ = some (.slice oA os.length oc) := blk_cell (cs := #[.slice tA ts.length tc, .slice oA os.length oc, .slice bA bs.length bc, .int .i64 c1, .int .i64 s1, .int .i64 p1, .int .i64 r1]) (t := 40) bk 1); go_must (have p1_1 : w1.cell? ⟨w.heap.size + 1, 1, none⟩ = some (.slice oA' os'.length oc') := blk_cell (cs := #[.slice tA' ts'.length tc', .slice oA' os'.length oc', .slice bA' bs'.length bc', .int .i64 c1, .int .i64 s1, .int .i64 p1, .int .i64 r1]) (t := 40) bk 1); go_must (have p1_2 : w1.cell? ⟨w.heap.size, 2, none⟩ = some (.slice bA bs.length bc) := blk_cell (cs := #[.slice tA ts.length tc, .slice oA os.length oc, .slice bA bs.length bc, .int .i64 c1, .int .i64 s1, .int .i64 p1, .int .i64 r1]) (t := 40) bk 2); go_must (have p1_3 : w1.cell? ⟨w.heap.size + 1, 2, none⟩ = some (.slice bA' bs'.length bc') := blk_cell (cs := #[.slice tA' ts'.length tc', .slice oA' os'.length oc', .slice bA' bs'.length bc', .int .i64 c1, .int .i64 s1, .int .i64 p1, .int .i64 r1]) (t := 40) bk 2)) | (go_at_call 64; go_must (refine (told_yes (same_Objects _ oA oA' _ _ oc oc' ros ros' os os' (hV.out.below bl).os (hV2.out.below bl).os hrol.out hrol'.out (hV.out.below bl).ro (hV2.out.below bl).ro) h_o.out).mono ?_); go_must (rintro e w2 ⟨rfl, hc2⟩); go_must (replace hc2 := Aside0.mk hc2); go_must (have p2_0 : w2.cell? ⟨w.heap.size, 2, none⟩ = some (.slice bA bs.length bc) := blk_cell (cs := #[.slice tA ts.length tc, .slice oA os.length oc, .slice bA bs.length bc, .int .i64 c1, .int .i64 s1, .int .i64 p1, .int .i64 r1]) (t := 40) bk 2); go_must (have p2_1 : w2.cell? ⟨w.heap.size + 1, 2, none⟩ = some (.slice bA' bs'.length bc') := blk_cell (cs := #[.slice tA' ts'.length tc', .slice oA' os'.length oc', .slice bA' bs'.length bc', .int .i64 c1, .int .i64 s1, .int .i64 p1, .int .i64 r1]) (t := 40) bk 2)) | (go_at_call 65; go_must (refine (told_no (same_Fibers _ bA bA' _ _ bc bc' (rbs.zip L) (rbs'.zip L') bs bs' (hV.out.below bl).zip.2.2 (hV2.out.below bl).zip.2.2 (hV.out.below bl).zip.1 (hV2.out.below bl).zip.1 (hV.out.below bl).zip.2.1 (hV2.out.below bl).zip.2.1) h_b.out).mono ?_); go_must (rintro e w3 ⟨rfl, hc3⟩); go_must (replace hc3 := Aside0.mk hc3)))
                go_ret
                exact ⟨false, rfl, ⟨fun h => (by cases h), fun h => (by injection h with _ _ h1; exact absurd h1 h_b.out)⟩, cg⟩
            · replace h_o := Aside0.mk h_o
              go_enter Try.func22, Try.ntmps22
              go_wp2_with (first | (go_at_call 63; go_must (refine (told_yes (same_Texts _ tA tA' _ _ tc tc' ts ts' (hV.out.below bl).ts (hV2.out.below bl).ts) h_t.out).mono ?_); go_must (rintro e w1 ⟨rfl, hc1⟩); go_must (replace hc1 := Aside0.mk hc1); go_must (have p1_0 : w1.cell? ⟨w.heap.size, 1, none⟩ = some (.slice oA os.length oc) := blk_cell (cs := #[.slice tA ts.length tc, .slice oA os.length oc, .slice bA bs.length bc, .int .i64 c1, .int .i64 s1, .int .i64 p1, .int .i64 r1]) (t := 40) bk 1); go_must (have p1_1 : w1.cell? ⟨w.heap.size + 1, 1, none⟩ = some (.slice oA' os'.length oc') := blk_cell (cs := #[.slice tA' ts'.length tc', .slice oA' os'.length oc', .slice bA' bs'.length bc', .int .i64 c1, .int .i64 s1, .int .i64 p1, .int .i64 r1]) (t := 40) bk 1); go_must (have p1_2 : w1.cell? ⟨w.heap.size, 2, none⟩ = some (.slice bA bs.length bc) := blk_cell (cs := #[.slice tA ts.length tc, .slice oA os.length oc, .slice bA bs.length bc, .int .i64 c1, .int .i64 s1, .int .i64 p1, .int .i64 r1]) (t := 40) bk 2); go_must (have p1_3 : w1.cell? ⟨w.heap.size + 1, 2, none⟩ = some (.slice bA' bs'.length bc') := blk_cell (cs := #[.slice tA' ts'.length tc', .slice oA' os'.length oc', .slice bA' bs'.length bc', .int .i64 c1, .int .i64 s1, .int .i64 p1, .int .i64 r1]) (t := 40) bk 2)) | (go_at_call 64; go_must (refine (told_no (same_Objects _ oA oA' _ _ oc oc' ros ros' os os' (hV.out.below bl).os (hV2.out.below bl).os hrol.out hrol'.out (hV.out.below bl).ro (hV2.out.below bl).ro) h_o.out).mono ?_); go_must (rintro e w2 ⟨rfl, hc2⟩); go_must (replace hc2 := Aside0.mk hc2); go_must (have p2_0 : w2.cell? ⟨w.heap.size, 2, none⟩ = some (.slice bA bs.length bc) := blk_cell (cs := #[.slice tA ts.length tc, .slice oA os.length oc, .slice bA bs.length bc, .int .i64 c1, .int .i64 s1, .int .i64 p1, .int .i64 r1]) (t := 40) bk 2); go_must (have p2_1 : w2.cell? ⟨w.heap.size + 1, 2, none⟩ = some (.slice bA' bs'.length bc') := blk_cell (cs := #[.slice tA' ts'.length tc', .slice oA' os'.length oc', .slice bA' bs'.length bc', .int .i64 c1, .int .i64 s1, .int .i64 p1, .int .i64 r1]) (t := 40) bk 2)))
              go_ret
              exact ⟨false, rfl, ⟨fun h => (by cases h), fun h => (by injection h with _ h1; exact absurd h1 h_o.out)⟩, cg⟩
          · replace h_t := Aside0.mk h_t
            go_enter Try.func22, Try.ntmps22
            go_wp2_with ((go_at_call 63; go_must (refine (told_no (same_Texts _ tA tA' _ _ tc tc' ts ts' (hV.out.below bl).ts (hV2.out.below bl).ts) h_t.out).mono ?_); go_must (rintro e w1 ⟨rfl, hc1⟩); go_must (replace hc1 := Aside0.mk hc1); go_must (have p1_0 : w1.cell? ⟨w.heap.size, 1, none⟩ = some (.slice oA os.length oc) := blk_cell (cs := #[.slice tA ts.length tc, .slice oA os.length oc, .slice bA bs.length bc, .int .i64 c1, .int .i64 s1, .int .i64 p1, .int .i64 r1]) (t := 40) bk 1); go_must (have p1_1 : w1.cell? ⟨w.heap.size + 1, 1, none⟩ = some (.slice oA' os'.length oc') := blk_cell (cs := #[.slice tA' ts'.length tc', .slice oA' os'.length oc', .slice bA' bs'.length bc', .int .i64 c1, .int .i64 s1, .int .i64 p1, .int .i64 r1]) (t := 40) bk 1); go_must (have p1_2 : w1.cell? ⟨w.heap.size, 2, none⟩ = some (.slice bA bs.length bc) := blk_cell (cs := #[.slice tA ts.length tc, .slice oA os.length oc, .slice bA bs.length bc, .int .i64 c1, .int .i64 s1, .int .i64 p1, .int .i64 r1]) (t := 40) bk 2); go_must (have p1_3 : w1.cell? ⟨w.heap.size + 1, 2, none⟩ = some (.slice bA' bs'.length bc') := blk_cell (cs := #[.slice tA' ts'.length tc', .slice oA' os'.length oc', .slice bA' bs'.length bc', .int .i64 c1, .int .i64 s1, .int .i64 p1, .int .i64 r1]) (t := 40) bk 2)))
            go_ret
            exact ⟨false, rfl, ⟨fun h => (by cases h), fun h => (by injection h with h1; exact absurd h1 h_t.out)⟩, cg⟩
        · have n_r1 : (r1 != r2) = true := by simpa using h_r1
          have m_r1 : (r1 == r2) = false := by simpa using h_r1
          go_enter Try.func22, Try.ntmps22
          go_wp2
          go_ret
          exact ⟨false, rfl, ⟨fun h => (by cases h), fun h => (by injection h; contradiction)⟩, cg⟩
      · have n_p1 : (p1 != p2) = true := by simpa using h_p1
        have m_p1 : (p1 == p2) = false := by simpa using h_p1
        go_enter Try.func22, Try.ntmps22
        go_wp2
        go_ret
        exact ⟨false, rfl, ⟨fun h => (by cases h), fun h => (by injection h; contradiction)⟩, cg⟩
    · have n_s1 : (s1 != s2) = true := by simpa using h_s1
      have m_s1 : (s1 == s2) = false := by simpa using h_s1
      go_enter Try.func22, Try.ntmps22
      go_wp2
      go_ret
      exact ⟨false, rfl, ⟨fun h => (by cases h), fun h => (by injection h; contradiction)⟩, cg⟩
  · have n_c1 : (c1 != c2) = true := by simpa using h_c1
    have m_c1 : (c1 == c2) = false := by simpa using h_c1
    go_enter Try.func22, Try.ntmps22
    go_wp2
    go_ret
    exact ⟨false, rfl, ⟨fun h => (by cases h), fun h => (by injection h; contradiction)⟩, cg⟩
end Go.Proofs.Ytdoghjmanogelaa.K
