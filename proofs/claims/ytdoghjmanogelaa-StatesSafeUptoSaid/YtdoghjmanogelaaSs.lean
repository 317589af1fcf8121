import Derived.Test.YtdoghjmanogelaaSr
import Derived.IntWalk
import Derived.BigQuiet
import Derived.Deep.RegionHeld3
namespace Go.Proofs.Ytdoghjmanogelaa.K
open Go.RowKit Go.Proofs.YtdoghjmanogelaaW.PrintWords Go.Proofs.YtdoghjmanogelaaW.PrintLast Go.Proofs.YtdoghjmanogelaaW.PrintMore
set_option linter.unusedVariables false
set_option linter.unusedSimpArgs false
set_option maxRecDepth 100000

set_option maxHeartbeats 8000000
theorem law_statesSafe (w : World) (cA fA tA oA bA : Option Addr) (nc cc fc tc oc bc : Nat) (p : QP) (s : QS) (rs : List QR) (ros : List RO) (rbs : List RB) (L : List (List RF)) (fib : Int) (hp : PV w cA fA p rs) (h : SView w tA oA bA s ros rbs L) (hN : SNum s) (hs : SSmall s) (hr : (rowsS s).length ≤ 1048576) (hcur : s.cur ≤ 9223372036854775807) (hfib : fib ≤ 9223372036854775807) :
    Calls Try.prog 4 #[.agg #[.slice cA nc cc, .slice fA p.funcs.length fc], .agg #[.slice tA s.texts.length tc, .slice oA s.objs.length oc, .slice bA s.fibers.length bc, .int .i64 s.cur, .int .i64 s.steps, .int .i64 s.spent, .int .i64 s.read], .int .i64 fib] w fun e w' => e = .returned (.bool true) ∧ Below w.heap.size w w' := by
  have hP := Aside0.mk hp
  have hV := Aside0.mk h
  have hS := Aside0.mk hs
  have hrl := Aside0.mk hr
  have hb2 := hs.b
  clear hp h hs hr
  go_enter Try.func4, Try.ntmps4
  go_upto_region 1 with (fail)
  (try simp only [Act.put, List.setIfInBounds_toArray, List.set_cons_zero, List.set_cons_succ])
  generalize hW : World.alloc (World.alloc w _) _ = W0
  have B1 : Aside0 (W0.heap[w.heap.size]? = some (.cells #[.slice cA nc cc, .slice fA p.funcs.length fc] 25)) := ⟨by rw [← hW]; exact ((Chg.refl (fun _ => False) (w.alloc _)).alloc _).blk (heap_alloc_new w _) (fun e => e)⟩
  have B2 : Aside0 (W0.heap[w.heap.size + 1]? = some (.cells #[.slice tA s.texts.length tc, .slice oA s.objs.length oc, .slice bA s.fibers.length bc, .int .i64 s.cur, .int .i64 s.steps, .int .i64 s.spent, .int .i64 s.read] 40)) := ⟨by rw [← hW]; exact heap_alloc2_new w _ _⟩
  have hz0 : Aside0 (Chg (fun _ => False) w W0) := ⟨by rw [← hW]; exact cg⟩
  clear hW
  have s0 : W0.cell? ⟨w.heap.size + 1, 0, none⟩ = some (.slice tA s.texts.length tc) := blk_cell B2.out 0
  have s1 : W0.cell? ⟨w.heap.size + 1, 1, none⟩ = some (.slice oA s.objs.length oc) := blk_cell B2.out 1
  have s2 : W0.cell? ⟨w.heap.size + 1, 2, none⟩ = some (.slice bA s.fibers.length bc) := blk_cell B2.out 2
  have s3 : W0.cell? ⟨w.heap.size + 1, 3, none⟩ = some (.int .i64 s.cur) := blk_cell B2.out 3
  have s4 : W0.cell? ⟨w.heap.size + 1, 4, none⟩ = some (.int .i64 s.steps) := blk_cell B2.out 4
  have s5 : W0.cell? ⟨w.heap.size + 1, 5, none⟩ = some (.int .i64 s.spent) := blk_cell B2.out 5
  have s6 : W0.cell? ⟨w.heap.size + 1, 6, none⟩ = some (.int .i64 s.read) := blk_cell B2.out 6
  go_upto_region 2 with ((go_at_call 14; go_must (refine (law_lent _ tA oA bA tc oc bc s ros rbs L (hV.out.below bl) hS.out hrl.out).mono ?_); go_must (rintro e w1 ⟨⟨A1, n1, c1⟩, ⟨A2, n2, c2⟩, ⟨A3, n3, c3⟩, ⟨rA, rN, rC⟩, ro1, Z1, ms, rfl, hO, hR, hM, hc1⟩); go_must (simp only [svl]); go_must (obtain rfl : n1 = s.texts.length := (hO.t.len).1); go_must (obtain rfl : n2 = s.objs.length := (hO.o.len).1.trans hO.oc.1); go_must (obtain rfl : n3 = s.fibers.length := (hO.b.len).1.trans (by rw [List.length_map]; exact hO.bc.1)); go_must (replace hO := Aside0.mk hO); go_must (replace hR := Aside0.mk hR); go_must (replace hM := Aside0.mk hM); go_must (replace hc1 := Aside0.mk hc1)))
  (try simp only [Act.put, List.setIfInBounds_toArray, List.set_cons_zero, List.set_cons_succ])
  generalize hW : World.alloc w1 _ = W1
  have B3 : Aside0 (W1.heap[w1.heap.size]? = some (.cells #[.slice A1 s.texts.length c1, .slice A2 s.objs.length c2, .slice A3 s.fibers.length c3, .int .i64 s.cur, .int .i64 s.steps, .int .i64 s.spent, .int .i64 s.read] 40)) := ⟨by rw [← hW]; exact heap_alloc_new w1 _⟩
  have hz1 : Aside0 (Chg (fun _ => False) w1 W1) := ⟨by rw [← hW]; exact cg⟩
  clear hW s0 s1 s2 s3 s4 s5 s6
  replace B1 := Aside0.mk (hz1.out.blk (hc1.out.blk B1.out (fun h => h)) (fun h => h))
  replace B2 := Aside0.mk (hz1.out.blk (hc1.out.blk B2.out (fun h => h)) (fun h => h))
  have hX := Aside0.mk hO.out.view
  simp only at hX
  have p0 : W1.cell? ⟨w.heap.size, 0, none⟩ = some (.slice cA nc cc) := blk_cell B1.out 0
  have p1 : W1.cell? ⟨w.heap.size, 1, none⟩ = some (.slice fA p.funcs.length fc) := blk_cell B1.out 1
  have q0 : W1.cell? ⟨w.heap.size + 1, 0, none⟩ = some (.slice tA s.texts.length tc) := blk_cell B2.out 0
  have q1 : W1.cell? ⟨w.heap.size + 1, 1, none⟩ = some (.slice oA s.objs.length oc) := blk_cell B2.out 1
  have q2 : W1.cell? ⟨w.heap.size + 1, 2, none⟩ = some (.slice bA s.fibers.length bc) := blk_cell B2.out 2
  have q3 : W1.cell? ⟨w.heap.size + 1, 3, none⟩ = some (.int .i64 s.cur) := blk_cell B2.out 3
  have q4 : W1.cell? ⟨w.heap.size + 1, 4, none⟩ = some (.int .i64 s.steps) := blk_cell B2.out 4
  have q5 : W1.cell? ⟨w.heap.size + 1, 5, none⟩ = some (.int .i64 s.spent) := blk_cell B2.out 5
  have q6 : W1.cell? ⟨w.heap.size + 1, 6, none⟩ = some (.int .i64 s.read) := blk_cell B2.out 6
  have x0 : W1.cell? ⟨w1.heap.size, 0, none⟩ = some (.slice A1 s.texts.length c1) := blk_cell B3.out 0
  have x1 : W1.cell? ⟨w1.heap.size, 1, none⟩ = some (.slice A2 s.objs.length c2) := blk_cell B3.out 1
  have x2 : W1.cell? ⟨w1.heap.size, 2, none⟩ = some (.slice A3 s.fibers.length c3) := blk_cell B3.out 2
  have x3 : W1.cell? ⟨w1.heap.size, 3, none⟩ = some (.int .i64 s.cur) := blk_cell B3.out 3
  have x4 : W1.cell? ⟨w1.heap.size, 4, none⟩ = some (.int .i64 s.steps) := blk_cell B3.out 4
  have x5 : W1.cell? ⟨w1.heap.size, 5, none⟩ = some (.int .i64 s.spent) := blk_cell B3.out 5
  have x6 : W1.cell? ⟨w1.heap.size, 6, none⟩ = some (.int .i64 s.read) := blk_cell B3.out 6
  go_region_held3 (fun w' => w'.cell? ⟨w.heap.size, 0, none⟩ = some (.slice cA nc cc) ∧ w'.cell? ⟨w.heap.size, 1, none⟩ = some (.slice fA p.funcs.length fc) ∧ w'.cell? ⟨w.heap.size + 1, 0, none⟩ = some (.slice tA s.texts.length tc) ∧ w'.cell? ⟨w.heap.size + 1, 1, none⟩ = some (.slice oA s.objs.length oc) ∧ w'.cell? ⟨w.heap.size + 1, 2, none⟩ = some (.slice bA s.fibers.length bc) ∧ w'.cell? ⟨w.heap.size + 1, 3, none⟩ = some (.int .i64 s.cur) ∧ w'.cell? ⟨w.heap.size + 1, 4, none⟩ = some (.int .i64 s.steps) ∧ w'.cell? ⟨w.heap.size + 1, 5, none⟩ = some (.int .i64 s.spent) ∧ w'.cell? ⟨w.heap.size + 1, 6, none⟩ = some (.int .i64 s.read) ∧ w'.cell? ⟨w1.heap.size, 0, none⟩ = some (.slice A1 s.texts.length c1) ∧ w'.cell? ⟨w1.heap.size, 1, none⟩ = some (.slice A2 s.objs.length c2) ∧ w'.cell? ⟨w1.heap.size, 2, none⟩ = some (.slice A3 s.fibers.length c3) ∧ w'.cell? ⟨w1.heap.size, 3, none⟩ = some (.int .i64 s.cur) ∧ w'.cell? ⟨w1.heap.size, 4, none⟩ = some (.int .i64 s.steps) ∧ w'.cell? ⟨w1.heap.size, 5, none⟩ = some (.int .i64 s.spent) ∧ w'.cell? ⟨w1.heap.size, 6, none⟩ = some (.int .i64 s.read)) (first | exact ⟨p0, p1, q0, q1, q2, q3, q4, q5, q6, x0, x1, x2, x3, x4, x5, x6⟩ | go_keep | exact ⟨kc, kc, kc, kc, kc, kc, kc, kc, kc, kc, kc, kc, kc, kc, kc, kc⟩) (first | ((go_at_call 15; (refine (st_Safe _ cA fA A1 A2 A3 nc cc fc c1 c2 c3 p s rs ro1 (Z1.map (·.1)) (Z1.map (·.2)) (hP.out.below bl) (hX.out.below bl) hN hcur).mono ?_); (rintro e w3 ⟨rfl, hc3⟩); (replace hc3 := Aside0.mk hc3))) | ((go_at_call 16; (refine (ref_stSafe _ cA fA tA oA bA nc cc fc tc oc bc p s rs ros rbs L (hP.out.below bl) (hV.out.below bl) hN hcur).mono ?_); (rintro e w4 ⟨rfl, hc4⟩); (replace hc4 := Aside0.mk hc4))) | ((go_at_call 17; (refine (st_Blocked _ cA fA A1 A2 A3 nc cc fc c1 c2 c3 p s rs ro1 (Z1.map (·.1)) (Z1.map (·.2)) fib (hP.out.below bl) (hX.out.below bl) hN hfib).mono ?_); (rintro e w5 ⟨rfl, hc5⟩); (replace hc5 := Aside0.mk hc5))) | ((go_at_call 18; (refine (ref_stBlocked _ cA fA tA oA bA nc cc fc tc oc bc p s rs ros rbs L fib (hP.out.below bl) (hV.out.below bl) hN hfib).mono ?_); (rintro e w6 ⟨rfl, hc6⟩); (replace hc6 := Aside0.mk hc6))))
  go_wp2
  clear p0 p1 q0 q1 q2 q3 q4 q5 q6 x0 x1 x2 x3 x4 x5 x6
  go_loopw [9] (fun i wr => ∃ k : Nat, i = .int .i64 ((k : Int) - 1) ∧ k ≤ s.fibers.length + 2 ∧ Aside0 (Chg (fun _ => False) W1 wr)) (fun i _ => (s.fibers.length + 1 - intOf i).toNat)
  case atStart => exact ⟨0, rfl, by omega, ⟨cg⟩⟩
  case round =>
    obtain ⟨k, rfl, hk, hCh⟩ := hrel
    have p0 : wr.cell? ⟨w.heap.size, 0, none⟩ = some (.slice cA nc cc) := blk_cell (hCh.out.blk B1.out (fun h => h)) 0
    have p1 : wr.cell? ⟨w.heap.size, 1, none⟩ = some (.slice fA p.funcs.length fc) := blk_cell (hCh.out.blk B1.out (fun h => h)) 1
    have q0 : wr.cell? ⟨w.heap.size + 1, 0, none⟩ = some (.slice tA s.texts.length tc) := blk_cell (hCh.out.blk B2.out (fun h => h)) 0
    have q1 : wr.cell? ⟨w.heap.size + 1, 1, none⟩ = some (.slice oA s.objs.length oc) := blk_cell (hCh.out.blk B2.out (fun h => h)) 1
    have q2 : wr.cell? ⟨w.heap.size + 1, 2, none⟩ = some (.slice bA s.fibers.length bc) := blk_cell (hCh.out.blk B2.out (fun h => h)) 2
    have q3 : wr.cell? ⟨w.heap.size + 1, 3, none⟩ = some (.int .i64 s.cur) := blk_cell (hCh.out.blk B2.out (fun h => h)) 3
    have q4 : wr.cell? ⟨w.heap.size + 1, 4, none⟩ = some (.int .i64 s.steps) := blk_cell (hCh.out.blk B2.out (fun h => h)) 4
    have q5 : wr.cell? ⟨w.heap.size + 1, 5, none⟩ = some (.int .i64 s.spent) := blk_cell (hCh.out.blk B2.out (fun h => h)) 5
    have q6 : wr.cell? ⟨w.heap.size + 1, 6, none⟩ = some (.int .i64 s.read) := blk_cell (hCh.out.blk B2.out (fun h => h)) 6
    have x0 : wr.cell? ⟨w1.heap.size, 0, none⟩ = some (.slice A1 s.texts.length c1) := blk_cell (hCh.out.blk B3.out (fun h => h)) 0
    have x1 : wr.cell? ⟨w1.heap.size, 1, none⟩ = some (.slice A2 s.objs.length c2) := blk_cell (hCh.out.blk B3.out (fun h => h)) 1
    have x2 : wr.cell? ⟨w1.heap.size, 2, none⟩ = some (.slice A3 s.fibers.length c3) := blk_cell (hCh.out.blk B3.out (fun h => h)) 2
    have x3 : wr.cell? ⟨w1.heap.size, 3, none⟩ = some (.int .i64 s.cur) := blk_cell (hCh.out.blk B3.out (fun h => h)) 3
    have x4 : wr.cell? ⟨w1.heap.size, 4, none⟩ = some (.int .i64 s.steps) := blk_cell (hCh.out.blk B3.out (fun h => h)) 4
    have x5 : wr.cell? ⟨w1.heap.size, 5, none⟩ = some (.int .i64 s.spent) := blk_cell (hCh.out.blk B3.out (fun h => h)) 5
    have x6 : wr.cell? ⟨w1.heap.size, 6, none⟩ = some (.int .i64 s.read) := blk_cell (hCh.out.blk B3.out (fun h => h)) 6
    by_cases hlt : k < s.fibers.length + 2
    · have hk1 : (k : Int) - 1 ≤ s.fibers.length := by omega
      have hi1 : (k : Int) - 1 ≤ 9223372036854775807 := by omega
      go_wp2
      go_region_held3 (fun w' => w'.cell? ⟨w.heap.size, 0, none⟩ = some (.slice cA nc cc) ∧ w'.cell? ⟨w.heap.size, 1, none⟩ = some (.slice fA p.funcs.length fc) ∧ w'.cell? ⟨w.heap.size + 1, 0, none⟩ = some (.slice tA s.texts.length tc) ∧ w'.cell? ⟨w.heap.size + 1, 1, none⟩ = some (.slice oA s.objs.length oc) ∧ w'.cell? ⟨w.heap.size + 1, 2, none⟩ = some (.slice bA s.fibers.length bc) ∧ w'.cell? ⟨w.heap.size + 1, 3, none⟩ = some (.int .i64 s.cur) ∧ w'.cell? ⟨w.heap.size + 1, 4, none⟩ = some (.int .i64 s.steps) ∧ w'.cell? ⟨w.heap.size + 1, 5, none⟩ = some (.int .i64 s.spent) ∧ w'.cell? ⟨w.heap.size + 1, 6, none⟩ = some (.int .i64 s.read) ∧ w'.cell? ⟨w1.heap.size, 0, none⟩ = some (.slice A1 s.texts.length c1) ∧ w'.cell? ⟨w1.heap.size, 1, none⟩ = some (.slice A2 s.objs.length c2) ∧ w'.cell? ⟨w1.heap.size, 2, none⟩ = some (.slice A3 s.fibers.length c3) ∧ w'.cell? ⟨w1.heap.size, 3, none⟩ = some (.int .i64 s.cur) ∧ w'.cell? ⟨w1.heap.size, 4, none⟩ = some (.int .i64 s.steps) ∧ w'.cell? ⟨w1.heap.size, 5, none⟩ = some (.int .i64 s.spent) ∧ w'.cell? ⟨w1.heap.size, 6, none⟩ = some (.int .i64 s.read)) (first | exact ⟨p0, p1, q0, q1, q2, q3, q4, q5, q6, x0, x1, x2, x3, x4, x5, x6⟩ | go_keep | exact ⟨kc, kc, kc, kc, kc, kc, kc, kc, kc, kc, kc, kc, kc, kc, kc, kc⟩) (first | ((go_at_call 17; (refine (st_Blocked _ cA fA A1 A2 A3 nc cc fc c1 c2 c3 p s rs ro1 (Z1.map (·.1)) (Z1.map (·.2)) ((k : Int) - 1) (hP.out.below bl) (hX.out.below bl) hN hi1).mono ?_); (rintro e w5 ⟨rfl, hc5⟩); (replace hc5 := Aside0.mk hc5))) | ((go_at_call 18; (refine (ref_stBlocked _ cA fA tA oA bA nc cc fc tc oc bc p s rs ros rbs L ((k : Int) - 1) (hP.out.below bl) (hV.out.below bl) hN hi1).mono ?_); (rintro e w6 ⟨rfl, hc6⟩); (replace hc6 := Aside0.mk hc6))))
      go_wp2
      go_roundw
      case measure => first | (simp [intOf]; done) | (simp [intOf]; omega)
      case rel => exact ⟨k + 1, by go_num, by omega, ⟨cg⟩⟩
    · have hk1 : ¬ (k : Int) - 1 ≤ s.fibers.length := by omega
      go_wp2_with ((go_at_call 19; go_must (refine (law_kept _ A1 A2 A3 tA oA bA rA c1 c2 c3 tc oc bc rN rC s ro1 ros (Z1.map (·.1)) rbs (Z1.map (·.2)) L ms (hX.out.below bl) (hV.out.below bl) (Kd.C_below hR.out.toC bl) hM.out.1 (hM.out.rooms.below bl) hS.out).mono ?_); go_must (rintro e w7 ⟨rfl, hc7⟩); go_must (replace hc7 := Aside0.mk hc7)))
      go_ret
      exact ⟨rfl, bl⟩
end Go.Proofs.Ytdoghjmanogelaa.K
