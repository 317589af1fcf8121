import Derived.Test.YtdoghjmanogelaaSv
import Derived.Test.YtdoghjmanogelaaSe
import Derived.IntWalk
import Derived.BigQuiet
import Derived.Deep.RegionHeld3
namespace Go.Proofs.Ytdoghjmanogelaa.K
open Go.RowKit Go.Proofs.YtdoghjmanogelaaW.PrintWords Go.Proofs.YtdoghjmanogelaaW.PrintLast Go.Proofs.YtdoghjmanogelaaW.PrintMore
set_option linter.unusedVariables false
set_option linter.unusedSimpArgs false
set_option maxRecDepth 100000

set_option maxHeartbeats 4000000
theorem same_Object (w : World) (r q : RO) (x y : QO) (h1 : RawO w r x) (h2 : RawO w q y) :
    Calls Try.prog 88 #[.agg (cellsRO r).toArray, .agg (cellsRO q).toArray] w (Told (x = y) w) := by
  obtain ⟨k1, ⟨iA, iN, iC⟩, ⟨kA, kN, kC⟩, f1, c1, s1⟩ := r
  obtain ⟨k2, ⟨jA, jN, jC⟩, ⟨lA, lN, lC⟩, f2, c2, s2⟩ := q
  obtain ⟨xk, xi, xs, xf, xc, xh⟩ := x
  obtain ⟨yk, yi, ys, yf, yc, yh⟩ := y
  obtain ⟨a1, a2, a3, a4, a5, a6⟩ := h1
  obtain ⟨b1, b2, b3, b4, b5, b6⟩ := h2
  simp only at a1 a2 a3 a4 a5 a6 b1 b2 b3 b4 b5 b6
  subst a1 a2 a3 a4 b1 b2 b3 b4
  replace a5 := Aside0.mk a5
  replace a6 := Aside0.mk a6
  replace b5 := Aside0.mk b5
  replace b6 := Aside0.mk b6
  by_cases h_k1 : k1 = k2
  · subst h_k1
    by_cases h_f1 : f1 = f2
    · subst h_f1
      by_cases h_c1 : c1 = c2
      · subst h_c1
        by_cases h_s1 : s1 = s2
        · subst h_s1
          have B1 : Aside0 ((w.alloc (.cells #[.int .i64 k1, .slice iA iN iC, .slice kA kN kC, .int .i64 f1, .int .i64 c1, .bool s1] 59)).heap[w.heap.size]? = some (.cells #[.int .i64 k1, .slice iA iN iC, .slice kA kN kC, .int .i64 f1, .int .i64 c1, .bool s1] 59)) := ⟨heap_alloc_new w _⟩
          have B2 : Aside0 (((w.alloc (.cells #[.int .i64 k1, .slice iA iN iC, .slice kA kN kC, .int .i64 f1, .int .i64 c1, .bool s1] 59)).alloc (.cells #[.int .i64 k1, .slice jA jN jC, .slice lA lN lC, .int .i64 f1, .int .i64 c1, .bool s1] 59)).heap[w.heap.size + 1]? = some (.cells #[.int .i64 k1, .slice jA jN jC, .slice lA lN lC, .int .i64 f1, .int .i64 c1, .bool s1] 59)) := ⟨heap_alloc2_new w _ _⟩
          by_cases h_i : xi = yi
          · by_cases h_s : xs = ys
            · have hT : Aside0 (xi = yi ∧ xs = ys) := ⟨⟨h_i, h_s⟩⟩
              replace h_i := Aside0.mk h_i
              replace h_s := Aside0.mk h_s
              go_enter Try.func88, Try.ntmps88
              go_wp2_with (first | (go_at_call 100; go_must (refine (told_yes (same_Values _ iA jA iN jN iC jC xi yi cC cC) h_i.out).mono ?_); go_must (rintro e w1 ⟨rfl, hc1⟩); go_must (replace hc1 := Aside0.mk hc1); go_must (have p1_0 : w1.cell? ⟨w.heap.size, 2, none⟩ = some (.slice kA kN kC) := blk_cell (cs := #[.int .i64 k1, .slice iA iN iC, .slice kA kN kC, .int .i64 f1, .int .i64 c1, .bool s1]) (t := 59) bk 2); go_must (have p1_1 : w1.cell? ⟨w.heap.size + 1, 2, none⟩ = some (.slice lA lN lC) := blk_cell (cs := #[.int .i64 k1, .slice jA jN jC, .slice lA lN lC, .int .i64 f1, .int .i64 c1, .bool s1]) (t := 59) bk 2)) | (go_at_call 101; go_must (refine (told_yes (same_Longs _ kA lA kN lN kC lC xs ys cC cC) h_s.out).mono ?_); go_must (rintro e w2 ⟨rfl, hc2⟩); go_must (replace hc2 := Aside0.mk hc2)))
              go_ret
              exact ⟨true, rfl, ⟨fun _ => (by rw [hT.out.1, hT.out.2]), fun _ => rfl⟩, cg⟩
            · replace h_i := Aside0.mk h_i
              replace h_s := Aside0.mk h_s
              go_enter Try.func88, Try.ntmps88
              go_wp2_with (first | (go_at_call 100; go_must (refine (told_yes (same_Values _ iA jA iN jN iC jC xi yi cC cC) h_i.out).mono ?_); go_must (rintro e w1 ⟨rfl, hc1⟩); go_must (replace hc1 := Aside0.mk hc1); go_must (have p1_0 : w1.cell? ⟨w.heap.size, 2, none⟩ = some (.slice kA kN kC) := blk_cell (cs := #[.int .i64 k1, .slice iA iN iC, .slice kA kN kC, .int .i64 f1, .int .i64 c1, .bool s1]) (t := 59) bk 2); go_must (have p1_1 : w1.cell? ⟨w.heap.size + 1, 2, none⟩ = some (.slice lA lN lC) := blk_cell (cs := #[.int .i64 k1, .slice jA jN jC, .slice lA lN lC, .int .i64 f1, .int .i64 c1, .bool s1]) (t := 59) bk 2)) | (go_at_call 101; go_must (refine (told_no (same_Longs _ kA lA kN lN kC lC xs ys cC cC) h_s.out).mono ?_); go_must (rintro e w2 ⟨rfl, hc2⟩); go_must (replace hc2 := Aside0.mk hc2)))
              go_ret
              exact ⟨false, rfl, ⟨fun h => (by cases h), fun h => (by injection h with _ _ h1; exact absurd h1 h_s.out)⟩, cg⟩
          · replace h_i := Aside0.mk h_i
            go_enter Try.func88, Try.ntmps88
            go_wp2_with ((go_at_call 100; go_must (refine (told_no (same_Values _ iA jA iN jN iC jC xi yi cC cC) h_i.out).mono ?_); go_must (rintro e w1 ⟨rfl, hc1⟩); go_must (replace hc1 := Aside0.mk hc1); go_must (have p1_0 : w1.cell? ⟨w.heap.size, 2, none⟩ = some (.slice kA kN kC) := blk_cell (cs := #[.int .i64 k1, .slice iA iN iC, .slice kA kN kC, .int .i64 f1, .int .i64 c1, .bool s1]) (t := 59) bk 2); go_must (have p1_1 : w1.cell? ⟨w.heap.size + 1, 2, none⟩ = some (.slice lA lN lC) := blk_cell (cs := #[.int .i64 k1, .slice jA jN jC, .slice lA lN lC, .int .i64 f1, .int .i64 c1, .bool s1]) (t := 59) bk 2)))
            go_ret
            exact ⟨false, rfl, ⟨fun h => (by cases h), fun h => (by injection h with _ h1; exact absurd h1 h_i.out)⟩, cg⟩
        · have n_s1 : (s1 != s2) = true := by simpa using h_s1
          have m_s1 : (s1 == s2) = false := by simpa using h_s1
          go_enter Try.func88, Try.ntmps88
          go_wp2
          go_ret
          exact ⟨false, rfl, ⟨fun h => (by cases h), fun h => (by injection h; contradiction)⟩, cg⟩
      · have n_c1 : (c1 != c2) = true := by simpa using h_c1
        have m_c1 : (c1 == c2) = false := by simpa using h_c1
        go_enter Try.func88, Try.ntmps88
        go_wp2
        go_ret
        exact ⟨false, rfl, ⟨fun h => (by cases h), fun h => (by injection h; contradiction)⟩, cg⟩
    · have n_f1 : (f1 != f2) = true := by simpa using h_f1
      have m_f1 : (f1 == f2) = false := by simpa using h_f1
      go_enter Try.func88, Try.ntmps88
      go_wp2
      go_ret
      exact ⟨false, rfl, ⟨fun h => (by cases h), fun h => (by injection h; contradiction)⟩, cg⟩
  · have n_k1 : (k1 != k2) = true := by simpa using h_k1
    have m_k1 : (k1 == k2) = false := by simpa using h_k1
    go_enter Try.func88, Try.ntmps88
    go_wp2
    go_ret
    exact ⟨false, rfl, ⟨fun h => (by cases h), fun h => (by injection h; contradiction)⟩, cg⟩
theorem same_Frame (w : World) (r q : RF) (x y : QFr) (h1 : RawF w r x) (h2 : RawF w q y) :
    Calls Try.prog 102 #[.agg (cellsRF r).toArray, .agg (cellsRF q).toArray] w (Told (x = y) w) := by
  obtain ⟨k1, c1, ⟨iA, iN, iC⟩⟩ := r
  obtain ⟨k2, c2, ⟨jA, jN, jC⟩⟩ := q
  obtain ⟨xk, xc, xi⟩ := x
  obtain ⟨yk, yc, yi⟩ := y
  obtain ⟨a1, a2, a5⟩ := h1
  obtain ⟨b1, b2, b5⟩ := h2
  simp only at a1 a2 a5 b1 b2 b5
  subst a1 a2 b1 b2
  replace a5 := Aside0.mk a5
  replace b5 := Aside0.mk b5
  by_cases h_k1 : k1 = k2
  · subst h_k1
    by_cases h_c1 : c1 = c2
    · subst h_c1
      by_cases h_i : xi = yi
      · have hT : Aside0 (xi = yi) := ⟨h_i⟩
        replace h_i := Aside0.mk h_i
        go_enter Try.func102, Try.ntmps102
        go_wp2_with ((go_at_call 100; go_must (refine (told_yes (same_Values _ iA jA iN jN iC jC xi yi cC cC) h_i.out).mono ?_); go_must (rintro e w1 ⟨rfl, hc1⟩); go_must (replace hc1 := Aside0.mk hc1)))
        go_ret
        exact ⟨true, rfl, ⟨fun _ => (by rw [hT.out]), fun _ => rfl⟩, cg⟩
      · replace h_i := Aside0.mk h_i
        go_enter Try.func102, Try.ntmps102
        go_wp2_with ((go_at_call 100; go_must (refine (told_no (same_Values _ iA jA iN jN iC jC xi yi cC cC) h_i.out).mono ?_); go_must (rintro e w1 ⟨rfl, hc1⟩); go_must (replace hc1 := Aside0.mk hc1)))
        go_ret
        exact ⟨false, rfl, ⟨fun h => (by cases h), fun h => (by injection h with _ _ h1; exact absurd h1 h_i.out)⟩, cg⟩
    · have n_c1 : (c1 != c2) = true := by simpa using h_c1
      have m_c1 : (c1 == c2) = false := by simpa using h_c1
      go_enter Try.func102, Try.ntmps102
      go_wp2
      go_ret
      exact ⟨false, rfl, ⟨fun h => (by cases h), fun h => (by injection h; contradiction)⟩, cg⟩
  · have n_k1 : (k1 != k2) = true := by simpa using h_k1
    have m_k1 : (k1 == k2) = false := by simpa using h_k1
    go_enter Try.func102, Try.ntmps102
    go_wp2
    go_ret
    exact ⟨false, rfl, ⟨fun h => (by cases h), fun h => (by injection h; contradiction)⟩, cg⟩
end Go.Proofs.Ytdoghjmanogelaa.K
