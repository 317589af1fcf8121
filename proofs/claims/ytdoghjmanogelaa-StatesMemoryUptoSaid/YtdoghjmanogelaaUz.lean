import Derived.Test.YtdoghjmanogelaaUb
import Derived.Test.YtdoghjmanogelaaSm
import Derived.IntWalk
import Derived.BigQuiet
import Derived.Deep.RegionHeld3
import Derived.Maps.OwnSet
namespace Go.Proofs.Ytdoghjmanogelaa.K
open Go.Maps Go.RowKit Go.Proofs.YtdoghjmanogelaaW.PrintWords Go.Proofs.YtdoghjmanogelaaW.PrintLast Go.Proofs.YtdoghjmanogelaaW.PrintMore
set_option linter.unusedVariables false
set_option linter.unusedSimpArgs false
set_option maxRecDepth 100000
def VlPost (w : World) (lo : Nat) (gs go gk mt ct mo co gw gf : Nat) (tA oA bA : Option Addr) (tc oc bc : Nat) (s : QS) (r : QV × Bk) (v2 v3 vw : SV) (e : Ending) (w' : World) : Prop := ∃ v1 vw' : SV, e = .returned (.agg #[.int .i64 r.1.kind, .int .i64 r.1.n]) ∧ PBk w' lo gs go gk mt ct mo co gw gf tA oA bA tc oc bc s r.2 v1 v2 v3 vw' ∧ Turn2 w w' lo go vw vw'
set_option maxHeartbeats 4000000
theorem value_text (w0 w : World) (gs go gk mt ct mo co gw gf : Nat) (tA oA bA : Option Addr) (tc oc bc : Nat) (s : QS) (b : Bk) (v1 v2 v3 vw : SV) (ros : List RO) (rbs : List RB) (L : List (List RF)) (kind : Int) (n : Int) (h : PBk w w0.heap.size gs go gk mt ct mo co gw gf tA oA bA tc oc bc s b v1 v2 v3 vw) (hok : BkOk s b) (hV : SView w0 tA oA bA s ros rbs L) (h0 : Chg (fun _ => False) w0 w) (hn : s.texts.length ≤ 1048576) (hno : s.objs.length ≤ 1048576) (hk : kind = 4) :
    Calls Try.prog 59 #[.agg #[.int .i64 kind, .int .i64 n], .pointer (some ⟨gf, 0, none⟩), .pointer (some ⟨gk, 0, none⟩), .pointer (some ⟨co, 0, none⟩), .pointer (some ⟨gw, 0, none⟩)] w (VlPost w w0.heap.size gs go gk mt ct mo co gw gf tA oA bA tc oc bc s (numV s b ⟨kind, n⟩) v2 v3 vw) := by
  have hB := Aside0.mk h
  have hVA := Aside0.mk hV
  have h0A := Aside0.mk h0
  have hE : Aside0 (numV s b ⟨kind, n⟩ = (⟨kind, (numT s b n).1⟩, (numT s b n).2)) := ⟨by unfold numV; rw [if_pos hk]⟩
  have hk4 : (kind == 4) = true := by simpa using hk
  clear h hk hV h0
  go_enter Try.func59, Try.ntmps59
  go_upto_region 1 with (fail)
  (try simp only [Act.put, List.setIfInBounds_toArray, List.set_cons_zero, List.set_cons_succ])
  generalize hW : World.alloc (World.alloc w _) _ = W0
  have B1 : Aside0 (W0.heap[w.heap.size]? = some (.cells #[.int .i64 kind, .int .i64 n] 56)) := ⟨by rw [← hW]; exact ((Chg.refl (fun _ => False) (w.alloc _)).alloc _).blk (heap_alloc_new w _) (fun e => e)⟩
  have B2 : Aside0 (W0.heap[w.heap.size + 1]? = some (.cells #[.int .i64 0, .int .i64 0] 56)) := ⟨by rw [← hW]; exact heap_alloc2_new w _ _⟩
  have hz0 : Aside0 (Chg (fun _ => False) w W0) := ⟨by rw [← hW]; exact cg⟩
  clear hW
  have hgt := blk_lt B2.out
  have hB0 := Aside0.mk (hB.out.new hz0.out)
  have h00 := Aside0.mk (h0A.out.trans hz0.out (fun _ _ h => h))
  have p0 : W0.cell? ⟨w.heap.size, 0, none⟩ = some (.int .i64 kind) := blk_cell B1.out 0
  have pf : W0.cell? ⟨gf, 0, none⟩ = some (.func (.func 58) #[] #[.pointer (some ⟨gs, 0, none⟩), .pointer (some ⟨ct, 0, none⟩), .pointer (some ⟨go, 0, none⟩)]) := blk_cell hB0.out.qf 0
  have p1 : W0.cell? ⟨w.heap.size, 1, none⟩ = some (.int .i64 n) := blk_cell B1.out 1
  go_upto_region 10 with ((go_at_call 58; go_must (refine (text_fn w0 W0 gs go gk mt ct mo co gw gf tA oA bA tc oc bc s b v1 v2 v3 vw ros rbs L n hB0.out hok hVA.out h00.out hn).mono ?_); go_must (rintro e w1 ⟨v1', rfl, hB1, hT1⟩); go_must (replace hB1 := Aside0.mk hB1); go_must (replace hT1 := Aside0.mk hT1); go_must (have hB11 := Aside0.mk (hB0.out.blk hT1.out B1.out (by decide))); go_must (have hB12 := Aside0.mk (hB0.out.blk hT1.out B2.out (by decide))); go_must (have cx := blk_cell hB11.out 1); go_must (have fx := blk_frozen hB11.out 1)))
  (try simp only [Act.put, List.setIfInBounds_toArray, List.set_cons_zero, List.set_cons_succ])
  have hb1 := Aside0.mk (blk_set hB11.out 1 (.int .i64 (numT s b n).1))
  have hb2 := Aside0.mk (blk_setne (g := w.heap.size) (i := 1) (u := .int .i64 (numT s b n).1) hB12.out (by omega))
  have hB2 := Aside0.mk (hB1.out.set (i := 1) (u := .int .i64 (numT s b n).1) hB11.out (by decide))
  have hT2 := Aside0.mk ((Turn2.new_then hz0.out hT1.out).set (g := w.heap.size) (i := 1) (u := .int .i64 (numT s b n).1) (Nat.le_refl _))
  generalize hW : World.setCell w1 _ _ = W2 at hb1 hb2 hB2 hT2 ⊢
  simp only [List.setIfInBounds_toArray, List.set_cons_zero, List.set_cons_succ] at hb1
  clear hW p0 p1 pf cx fx hB11 hB12 hB1 hT1 hB0
  have x0 : W2.cell? ⟨w.heap.size, 0, none⟩ = some (.int .i64 kind) := blk_cell hb1.out 0
  have x1 : W2.cell? ⟨w.heap.size, 1, none⟩ = some (.int .i64 (numT s b n).1) := blk_cell hb1.out 1
  have y0 : W2.cell? ⟨w.heap.size + 1, 0, none⟩ = some (.int .i64 0) := blk_cell hb2.out 0
  have y1 : W2.cell? ⟨w.heap.size + 1, 1, none⟩ = some (.int .i64 0) := blk_cell hb2.out 1
  have f0 : W2.frozen? ⟨w.heap.size + 1, 0, none⟩ = false := blk_frozen hb2.out 0
  have f1 : W2.frozen? ⟨w.heap.size + 1, 1, none⟩ = false := blk_frozen hb2.out 1
  have bf := (blk_set (blk_set hb2.out 0 (.int .i64 kind)) 1 (.int .i64 (numT s b n).1))
  have hBf := Aside0.mk ((hB2.out.set (i := 0) (u := .int .i64 kind) hb2.out (by decide)).set (i := 1) (u := .int .i64 (numT s b n).1) (blk_set hb2.out 0 (.int .i64 kind)) (by decide))
  have hTf := Aside0.mk ((hT2.out.set (g := w.heap.size + 1) (i := 0) (u := .int .i64 kind) (by omega)).set (g := w.heap.size + 1) (i := 1) (u := .int .i64 (numT s b n).1) (by omega))
  go_wp2
  refine bodyPost_ret (results_cell_row rfl _ _ _ _ _ _ _ rfl bf Try.underlying56 rfl (by kernel_rfl)) rfl ?_
  exact ⟨v1', vw, by first | (rw [hE.out]; done) | (rw [hE.out]; rfl), by rw [hE.out]; exact hBf.out, hTf.out⟩
theorem value_not (w0 w : World) (gs go gk mt ct mo co gw gf : Nat) (tA oA bA : Option Addr) (tc oc bc : Nat) (s : QS) (b : Bk) (v1 v2 v3 vw : SV) (ros : List RO) (rbs : List RB) (L : List (List RF)) (kind : Int) (n : Int) (h : PBk w w0.heap.size gs go gk mt ct mo co gw gf tA oA bA tc oc bc s b v1 v2 v3 vw) (hok : BkOk s b) (hV : SView w0 tA oA bA s ros rbs L) (h0 : Chg (fun _ => False) w0 w) (hn : s.texts.length ≤ 1048576) (hno : s.objs.length ≤ 1048576) (hnn0 : n ≤ 9223372036854775807) (hk : kind ≠ 4) (hin : namesQ s.objs kind n = false) :
    Calls Try.prog 59 #[.agg #[.int .i64 kind, .int .i64 n], .pointer (some ⟨gf, 0, none⟩), .pointer (some ⟨gk, 0, none⟩), .pointer (some ⟨co, 0, none⟩), .pointer (some ⟨gw, 0, none⟩)] w (VlPost w w0.heap.size gs go gk mt ct mo co gw gf tA oA bA tc oc bc s (numV s b ⟨kind, n⟩) v2 v3 vw) := by
  have hB := Aside0.mk h
  have hVA := Aside0.mk hV
  have h0A := Aside0.mk h0
  have hE : Aside0 (numV s b ⟨kind, n⟩ = (⟨kind, n⟩, b)) := ⟨by unfold numV; rw [if_neg hk, if_neg (by rw [hin]; decide)]⟩
  have hk4 : (kind == 4) = false := by simpa using hk
  have hnn := Aside0.mk hnn0
  clear h hk hV h0 hnn0
  go_enter Try.func59, Try.ntmps59
  go_upto_region 1 with (fail)
  (try simp only [Act.put, List.setIfInBounds_toArray, List.set_cons_zero, List.set_cons_succ])
  generalize hW : World.alloc (World.alloc w _) _ = W0
  have B1 : Aside0 (W0.heap[w.heap.size]? = some (.cells #[.int .i64 kind, .int .i64 n] 56)) := ⟨by rw [← hW]; exact ((Chg.refl (fun _ => False) (w.alloc _)).alloc _).blk (heap_alloc_new w _) (fun e => e)⟩
  have B2 : Aside0 (W0.heap[w.heap.size + 1]? = some (.cells #[.int .i64 0, .int .i64 0] 56)) := ⟨by rw [← hW]; exact heap_alloc2_new w _ _⟩
  have hz0 : Aside0 (Chg (fun _ => False) w W0) := ⟨by rw [← hW]; exact cg⟩
  clear hW
  have hgt := blk_lt B2.out
  have hB0 := Aside0.mk (hB.out.new hz0.out)
  have h00 := Aside0.mk (h0A.out.trans hz0.out (fun _ _ h => h))
  have p0 : W0.cell? ⟨w.heap.size, 0, none⟩ = some (.int .i64 kind) := blk_cell B1.out 0
  have p1 : W0.cell? ⟨w.heap.size, 1, none⟩ = some (.int .i64 n) := blk_cell B1.out 1
  have hV0 : Aside0 (SView W0 tA oA bA s ros rbs L) := ⟨hVA.out.below (h00.out.below (fun _ _ h => h))⟩
  have lk0 : W0.cell? ⟨gk, 0, none⟩ = some (.slice none 0 0) := blk_cell hB0.out.qk 0
  have lk1 : W0.cell? ⟨gk, 1, none⟩ = some (.slice none 0 0) := blk_cell hB0.out.qk 1
  have lk2 : W0.cell? ⟨gk, 2, none⟩ = some (.slice none 0 0) := blk_cell hB0.out.qk 2
  have lk3 : W0.cell? ⟨gk, 3, none⟩ = some (.slice none 0 0) := blk_cell hB0.out.qk 3
  have lk4 : W0.cell? ⟨gk, 4, none⟩ = some (.slice tA s.texts.length tc) := blk_cell hB0.out.qk 4
  have lk5 : W0.cell? ⟨gk, 5, none⟩ = some (.slice oA s.objs.length oc) := blk_cell hB0.out.qk 5
  have lk6 : W0.cell? ⟨gk, 6, none⟩ = some (.slice bA s.fibers.length bc) := blk_cell hB0.out.qk 6
  have lk7 : W0.cell? ⟨gk, 7, none⟩ = some (.int .i64 s.cur) := blk_cell hB0.out.qk 7
  have lk8 : W0.cell? ⟨gk, 8, none⟩ = some (.int .i64 s.steps) := blk_cell hB0.out.qk 8
  have lk9 : W0.cell? ⟨gk, 9, none⟩ = some (.int .i64 s.spent) := blk_cell hB0.out.qk 9
  have lk10 : W0.cell? ⟨gk, 10, none⟩ = some (.int .i64 s.read) := blk_cell hB0.out.qk 10
  go_upto_region 10 with ((go_at_call 60; go_must (refine (look_names W0 none none none none tA oA bA 0 0 0 0 0 0 0 tc oc bc ⟨[], []⟩ s s.objs ros kind n hV0.out.os hV0.out.os.1 hV0.out.ro hnn.out).mono ?_); go_must (rintro e w3 ⟨rfl, hc3⟩); go_must (replace hc3 := Aside0.mk hc3); go_must (have hz3 : Aside0 (Chg (fun _ => False) W0 w3) := ⟨hc3.out⟩); go_must (have hb1 := Aside0.mk (hz3.out.blk B1.out (fun h => h))); go_must (have hb2 := Aside0.mk (hz3.out.blk B2.out (fun h => h))); go_must (have hB3 := Aside0.mk (hB0.out.new hz3.out)); go_must (clear lk0 lk1 lk2 lk3 lk4 lk5 lk6 lk7 lk8 lk9 lk10)))
  (try simp only [Act.put, List.setIfInBounds_toArray, List.set_cons_zero, List.set_cons_succ])
  have hT3 : Aside0 (Turn2 w w3 w0.heap.size go vw vw) := ⟨Turn2.of_new (hz0.out.trans hz3.out (fun _ _ h => h))⟩
  clear p0 p1
  have x0 : w3.cell? ⟨w.heap.size, 0, none⟩ = some (.int .i64 kind) := blk_cell hb1.out 0
  have x1 : w3.cell? ⟨w.heap.size, 1, none⟩ = some (.int .i64 n) := blk_cell hb1.out 1
  have y0 : w3.cell? ⟨w.heap.size + 1, 0, none⟩ = some (.int .i64 0) := blk_cell hb2.out 0
  have y1 : w3.cell? ⟨w.heap.size + 1, 1, none⟩ = some (.int .i64 0) := blk_cell hb2.out 1
  have f0 : w3.frozen? ⟨w.heap.size + 1, 0, none⟩ = false := blk_frozen hb2.out 0
  have f1 : w3.frozen? ⟨w.heap.size + 1, 1, none⟩ = false := blk_frozen hb2.out 1
  have bf := (blk_set (blk_set hb2.out 0 (.int .i64 kind)) 1 (.int .i64 n))
  have hBf := Aside0.mk ((hB3.out.set (i := 0) (u := .int .i64 kind) hb2.out (by decide)).set (i := 1) (u := .int .i64 n) (blk_set hb2.out 0 (.int .i64 kind)) (by decide))
  have hTf := Aside0.mk ((hT3.out.set (g := w.heap.size + 1) (i := 0) (u := .int .i64 kind) (by omega)).set (g := w.heap.size + 1) (i := 1) (u := .int .i64 n) (by omega))
  go_wp2
  refine bodyPost_ret (results_cell_row rfl _ _ _ _ _ _ _ rfl bf Try.underlying56 rfl (by kernel_rfl)) rfl ?_
  exact ⟨v1, vw, by first | (rw [hE.out]; done) | (rw [hE.out]; rfl), by rw [hE.out]; exact hBf.out, hTf.out⟩
set_option maxHeartbeats 4000000 in
theorem value_old (w0 w : World) (gs go gk mt ct mo co gw gf : Nat) (tA oA bA : Option Addr) (tc oc bc : Nat) (s : QS) (b : Bk) (v1 v2 v3 vw : SV) (ros : List RO) (rbs : List RB) (L : List (List RF)) (kind : Int) (k : Nat) (h : PBk w w0.heap.size gs go gk mt ct mo co gw gf tA oA bA tc oc bc s b v1 v2 v3 vw) (hok : BkOk s b) (hV : SView w0 tA oA bA s ros rbs L) (h0 : Chg (fun _ => False) w0 w) (hn : s.texts.length ≤ 1048576) (hno : s.objs.length ≤ 1048576) (hk : kind ≠ 4) (hin : namesQ s.objs kind (k : Int) = true) (hkt : k < s.objs.length) (hmem : k ∈ b.os) :
    Calls Try.prog 59 #[.agg #[.int .i64 kind, .int .i64 (k : Int)], .pointer (some ⟨gf, 0, none⟩), .pointer (some ⟨gk, 0, none⟩), .pointer (some ⟨co, 0, none⟩), .pointer (some ⟨gw, 0, none⟩)] w (VlPost w w0.heap.size gs go gk mt ct mo co gw gf tA oA bA tc oc bc s (numV s b ⟨kind, k⟩) v2 v3 vw) := by
  have hB := Aside0.mk h
  have hVA := Aside0.mk hV
  have h0A := Aside0.mk h0
  have hE : Aside0 (numV s b ⟨kind, k⟩ = (⟨kind, (b.os.idxOf k : Int)⟩, b)) := ⟨by unfold numV metN; rw [if_neg hk, if_pos hin, Int.toNat_natCast, if_pos hmem]⟩
  have hk4 : (kind == 4) = false := by simpa using hk
  have hhas : Aside0 (Maps.has (mapD b.os) (.int .i64 (k : Int)) = true) := ⟨by rw [mapD_has, decide_eq_true hmem]⟩
  have hatA := Aside0.mk (mapD_at hok.no hmem (.lit (.int .i64 0)))
  have hnn : Aside0 ((k : Int) ≤ 9223372036854775807) := ⟨by omega⟩
  have hwf : Aside0 ((Lit.int .i64 (k : Int)).wf = true) := ⟨wf64 (by omega) (by omega)⟩
  clear h hk hV h0 hmem
  go_enter Try.func59, Try.ntmps59
  go_upto_region 1 with (fail)
  (try simp only [Act.put, List.setIfInBounds_toArray, List.set_cons_zero, List.set_cons_succ])
  generalize hW : World.alloc (World.alloc w _) _ = W0
  have B1 : Aside0 (W0.heap[w.heap.size]? = some (.cells #[.int .i64 kind, .int .i64 (k : Int)] 56)) := ⟨by rw [← hW]; exact ((Chg.refl (fun _ => False) (w.alloc _)).alloc _).blk (heap_alloc_new w _) (fun e => e)⟩
  have B2 : Aside0 (W0.heap[w.heap.size + 1]? = some (.cells #[.int .i64 0, .int .i64 0] 56)) := ⟨by rw [← hW]; exact heap_alloc2_new w _ _⟩
  have hz0 : Aside0 (Chg (fun _ => False) w W0) := ⟨by rw [← hW]; exact cg⟩
  clear hW
  have hgt := blk_lt B2.out
  have hB0 := Aside0.mk (hB.out.new hz0.out)
  have h00 := Aside0.mk (h0A.out.trans hz0.out (fun _ _ h => h))
  have p0 : W0.cell? ⟨w.heap.size, 0, none⟩ = some (.int .i64 kind) := blk_cell B1.out 0
  have p1 : W0.cell? ⟨w.heap.size, 1, none⟩ = some (.int .i64 (k : Int)) := blk_cell B1.out 1
  have hV0 : Aside0 (SView W0 tA oA bA s ros rbs L) := ⟨hVA.out.below (h00.out.below (fun _ _ h => h))⟩
  have lk0 : W0.cell? ⟨gk, 0, none⟩ = some (.slice none 0 0) := blk_cell hB0.out.qk 0
  have lk1 : W0.cell? ⟨gk, 1, none⟩ = some (.slice none 0 0) := blk_cell hB0.out.qk 1
  have lk2 : W0.cell? ⟨gk, 2, none⟩ = some (.slice none 0 0) := blk_cell hB0.out.qk 2
  have lk3 : W0.cell? ⟨gk, 3, none⟩ = some (.slice none 0 0) := blk_cell hB0.out.qk 3
  have lk4 : W0.cell? ⟨gk, 4, none⟩ = some (.slice tA s.texts.length tc) := blk_cell hB0.out.qk 4
  have lk5 : W0.cell? ⟨gk, 5, none⟩ = some (.slice oA s.objs.length oc) := blk_cell hB0.out.qk 5
  have lk6 : W0.cell? ⟨gk, 6, none⟩ = some (.slice bA s.fibers.length bc) := blk_cell hB0.out.qk 6
  have lk7 : W0.cell? ⟨gk, 7, none⟩ = some (.int .i64 s.cur) := blk_cell hB0.out.qk 7
  have lk8 : W0.cell? ⟨gk, 8, none⟩ = some (.int .i64 s.steps) := blk_cell hB0.out.qk 8
  have lk9 : W0.cell? ⟨gk, 9, none⟩ = some (.int .i64 s.spent) := blk_cell hB0.out.qk 9
  have lk10 : W0.cell? ⟨gk, 10, none⟩ = some (.int .i64 s.read) := blk_cell hB0.out.qk 10
  go_upto_region 4 with ((go_at_call 60; go_must (refine (look_names W0 none none none none tA oA bA 0 0 0 0 0 0 0 tc oc bc ⟨[], []⟩ s s.objs ros kind (k : Int) hV0.out.os hV0.out.os.1 hV0.out.ro hnn.out).mono ?_); go_must (rintro e w3 ⟨rfl, hc3⟩); go_must (replace hc3 := Aside0.mk hc3); go_must (have hz3 : Aside0 (Chg (fun _ => False) W0 w3) := ⟨hc3.out⟩); go_must (have hb1 := Aside0.mk (hz3.out.blk B1.out (fun h => h))); go_must (have hb2 := Aside0.mk (hz3.out.blk B2.out (fun h => h))); go_must (have hB3 := Aside0.mk (hB0.out.new hz3.out)); go_must (clear lk0 lk1 lk2 lk3 lk4 lk5 lk6 lk7 lk8 lk9 lk10)))
  (try simp only [Act.put, List.setIfInBounds_toArray, List.set_cons_zero, List.set_cons_succ])
  clear p0 p1
  have p1 : w3.cell? ⟨w.heap.size, 1, none⟩ = some (.int .i64 (k : Int)) := blk_cell hb1.out 1
  have pc : w3.cell? ⟨co, 0, none⟩ = some (.map (some mo)) := blk_cell hB3.out.qco 0
  have fx := blk_frozen hb1.out 1
  go_upto_region 10 with ((at_lookup; go_must (refine wpList_lookup_own_ok_int (H := Unit) _ rfl _ _ 115 rfl 2 2 .i64 (int_keyed Try.underlying2) Try.underlying115 Try.underlying2 (zero64 _) mo b.os.length (mapD b.os) rfl hB3.out.qmo _ (.int .i64 k) rfl (keyOf_int_mk Try.underlying2 hwf.out) ?_); go_must (intro c hat hwc); go_must (rw [hhas.out]); go_must (clear hwc); go_must ((obtain rfl : c = (b.os.idxOf k : Int) := by rw [hatA.out] at hat; injection hat with hat; injection hat with _ hat; exact hat.symm)); go_must (clear hat)))
  (try simp only [Act.put, List.setIfInBounds_toArray, List.set_cons_zero, List.set_cons_succ])
  have hT3 : Aside0 (Turn2 w w3 w0.heap.size go vw vw) := ⟨Turn2.of_new (hz0.out.trans hz3.out (fun _ _ h => h))⟩
  have hb3 := Aside0.mk (blk_set hb1.out 1 (.int .i64 (b.os.idxOf k : Int)))
  have hb4 := Aside0.mk (blk_setne (g := w.heap.size) (i := 1) (u := .int .i64 (b.os.idxOf k : Int)) hb2.out (by omega))
  have hB4 := Aside0.mk (hB3.out.set (i := 1) (u := .int .i64 (b.os.idxOf k : Int)) hb1.out (by decide))
  have hT4 := Aside0.mk (hT3.out.set (g := w.heap.size) (i := 1) (u := .int .i64 (b.os.idxOf k : Int)) (Nat.le_refl _))
  generalize hW : World.setCell w3 _ _ = W4 at hb3 hb4 hB4 hT4 ⊢
  simp only [List.setIfInBounds_toArray, List.set_cons_zero, List.set_cons_succ] at hb3
  clear hW p1 fx
  clear pc
  have x0 : W4.cell? ⟨w.heap.size, 0, none⟩ = some (.int .i64 kind) := blk_cell hb3.out 0
  have x1 : W4.cell? ⟨w.heap.size, 1, none⟩ = some (.int .i64 (b.os.idxOf k : Int)) := blk_cell hb3.out 1
  have y0 : W4.cell? ⟨w.heap.size + 1, 0, none⟩ = some (.int .i64 0) := blk_cell hb4.out 0
  have y1 : W4.cell? ⟨w.heap.size + 1, 1, none⟩ = some (.int .i64 0) := blk_cell hb4.out 1
  have f0 : W4.frozen? ⟨w.heap.size + 1, 0, none⟩ = false := blk_frozen hb4.out 0
  have f1 : W4.frozen? ⟨w.heap.size + 1, 1, none⟩ = false := blk_frozen hb4.out 1
  have bf := (blk_set (blk_set hb4.out 0 (.int .i64 kind)) 1 (.int .i64 (b.os.idxOf k : Int)))
  have hBf := Aside0.mk ((hB4.out.set (i := 0) (u := .int .i64 kind) hb4.out (by decide)).set (i := 1) (u := .int .i64 (b.os.idxOf k : Int)) (blk_set hb4.out 0 (.int .i64 kind)) (by decide))
  have hTf := Aside0.mk ((hT4.out.set (g := w.heap.size + 1) (i := 0) (u := .int .i64 kind) (by omega)).set (g := w.heap.size + 1) (i := 1) (u := .int .i64 (b.os.idxOf k : Int)) (by omega))
  go_wp2
  refine bodyPost_ret (results_cell_row rfl _ _ _ _ _ _ _ rfl bf Try.underlying56 rfl (by kernel_rfl)) rfl ?_
  exact ⟨v1, vw, by first | (rw [hE.out]; done) | (rw [hE.out]; rfl), by rw [hE.out]; exact hBf.out, hTf.out⟩
set_option maxHeartbeats 4000000 in
theorem value_new (w0 w : World) (gs go gk mt ct mo co gw gf : Nat) (tA oA bA : Option Addr) (tc oc bc : Nat) (s : QS) (b : Bk) (v1 v2 v3 vw : SV) (ros : List RO) (rbs : List RB) (L : List (List RF)) (kind : Int) (k : Nat) (h : PBk w w0.heap.size gs go gk mt ct mo co gw gf tA oA bA tc oc bc s b v1 v2 v3 vw) (hok : BkOk s b) (hV : SView w0 tA oA bA s ros rbs L) (h0 : Chg (fun _ => False) w0 w) (hn : s.texts.length ≤ 1048576) (hno : s.objs.length ≤ 1048576) (hk : kind ≠ 4) (hin : namesQ s.objs kind (k : Int) = true) (hkt : k < s.objs.length) (hmem : k ∉ b.os) :
    Calls Try.prog 59 #[.agg #[.int .i64 kind, .int .i64 (k : Int)], .pointer (some ⟨gf, 0, none⟩), .pointer (some ⟨gk, 0, none⟩), .pointer (some ⟨co, 0, none⟩), .pointer (some ⟨gw, 0, none⟩)] w (VlPost w w0.heap.size gs go gk mt ct mo co gw gf tA oA bA tc oc bc s (numV s b ⟨kind, k⟩) v2 v3 vw) := by
  have hB := Aside0.mk h
  have hVA := Aside0.mk hV
  have h0A := Aside0.mk h0
  have hE : Aside0 (numV s b ⟨kind, k⟩ = (⟨kind, (b.os.length : Int)⟩, ⟨b.ts, b.os ++ [k]⟩)) := ⟨by unfold numV metN; rw [if_neg hk, if_pos hin, Int.toNat_natCast, if_neg hmem]⟩
  have hk4 : (kind == 4) = false := by simpa using hk
  have hhas : Aside0 (Maps.has (mapD b.os) (.int .i64 (k : Int)) = false) := ⟨by rw [mapD_has, decide_eq_false hmem]⟩
  have hsz : Aside0 (Maps.size (mapD b.os) = b.os.length) := ⟨mapD_size hok.no⟩
  have htl : b.os.length ≤ 1048576 := Nat.le_trans (nodup_lt hok.no hok.lo) hno
  have hwv : Aside0 ((Lit.int .i64 (b.os.length : Int)).wf = true) := ⟨wf64 (by omega) (by omega)⟩
  have hmax : Aside0 (b.os.length < maxLen) := ⟨by unfold maxLen; omega⟩
  have hnn : Aside0 ((k : Int) ≤ 9223372036854775807) := ⟨by omega⟩
  have hwf : Aside0 ((Lit.int .i64 (k : Int)).wf = true) := ⟨wf64 (by omega) (by omega)⟩
  clear h hk hV h0 hmem
  go_enter Try.func59, Try.ntmps59
  go_upto_region 1 with (fail)
  (try simp only [Act.put, List.setIfInBounds_toArray, List.set_cons_zero, List.set_cons_succ])
  generalize hW : World.alloc (World.alloc w _) _ = W0
  have B1 : Aside0 (W0.heap[w.heap.size]? = some (.cells #[.int .i64 kind, .int .i64 (k : Int)] 56)) := ⟨by rw [← hW]; exact ((Chg.refl (fun _ => False) (w.alloc _)).alloc _).blk (heap_alloc_new w _) (fun e => e)⟩
  have B2 : Aside0 (W0.heap[w.heap.size + 1]? = some (.cells #[.int .i64 0, .int .i64 0] 56)) := ⟨by rw [← hW]; exact heap_alloc2_new w _ _⟩
  have hz0 : Aside0 (Chg (fun _ => False) w W0) := ⟨by rw [← hW]; exact cg⟩
  clear hW
  have hgt := blk_lt B2.out
  have hB0 := Aside0.mk (hB.out.new hz0.out)
  have h00 := Aside0.mk (h0A.out.trans hz0.out (fun _ _ h => h))
  have p0 : W0.cell? ⟨w.heap.size, 0, none⟩ = some (.int .i64 kind) := blk_cell B1.out 0
  have p1 : W0.cell? ⟨w.heap.size, 1, none⟩ = some (.int .i64 (k : Int)) := blk_cell B1.out 1
  have hV0 : Aside0 (SView W0 tA oA bA s ros rbs L) := ⟨hVA.out.below (h00.out.below (fun _ _ h => h))⟩
  have lk0 : W0.cell? ⟨gk, 0, none⟩ = some (.slice none 0 0) := blk_cell hB0.out.qk 0
  have lk1 : W0.cell? ⟨gk, 1, none⟩ = some (.slice none 0 0) := blk_cell hB0.out.qk 1
  have lk2 : W0.cell? ⟨gk, 2, none⟩ = some (.slice none 0 0) := blk_cell hB0.out.qk 2
  have lk3 : W0.cell? ⟨gk, 3, none⟩ = some (.slice none 0 0) := blk_cell hB0.out.qk 3
  have lk4 : W0.cell? ⟨gk, 4, none⟩ = some (.slice tA s.texts.length tc) := blk_cell hB0.out.qk 4
  have lk5 : W0.cell? ⟨gk, 5, none⟩ = some (.slice oA s.objs.length oc) := blk_cell hB0.out.qk 5
  have lk6 : W0.cell? ⟨gk, 6, none⟩ = some (.slice bA s.fibers.length bc) := blk_cell hB0.out.qk 6
  have lk7 : W0.cell? ⟨gk, 7, none⟩ = some (.int .i64 s.cur) := blk_cell hB0.out.qk 7
  have lk8 : W0.cell? ⟨gk, 8, none⟩ = some (.int .i64 s.steps) := blk_cell hB0.out.qk 8
  have lk9 : W0.cell? ⟨gk, 9, none⟩ = some (.int .i64 s.spent) := blk_cell hB0.out.qk 9
  have lk10 : W0.cell? ⟨gk, 10, none⟩ = some (.int .i64 s.read) := blk_cell hB0.out.qk 10
  go_upto_region 4 with ((go_at_call 60; go_must (refine (look_names W0 none none none none tA oA bA 0 0 0 0 0 0 0 tc oc bc ⟨[], []⟩ s s.objs ros kind (k : Int) hV0.out.os hV0.out.os.1 hV0.out.ro hnn.out).mono ?_); go_must (rintro e w3 ⟨rfl, hc3⟩); go_must (replace hc3 := Aside0.mk hc3); go_must (have hz3 : Aside0 (Chg (fun _ => False) W0 w3) := ⟨hc3.out⟩); go_must (have hb1 := Aside0.mk (hz3.out.blk B1.out (fun h => h))); go_must (have hb2 := Aside0.mk (hz3.out.blk B2.out (fun h => h))); go_must (have hB3 := Aside0.mk (hB0.out.new hz3.out)); go_must (clear lk0 lk1 lk2 lk3 lk4 lk5 lk6 lk7 lk8 lk9 lk10)))
  (try simp only [Act.put, List.setIfInBounds_toArray, List.set_cons_zero, List.set_cons_succ])
  clear p0 p1
  have p1 : w3.cell? ⟨w.heap.size, 1, none⟩ = some (.int .i64 (k : Int)) := blk_cell hb1.out 1
  have pc : w3.cell? ⟨co, 0, none⟩ = some (.map (some mo)) := blk_cell hB3.out.qco 0
  go_upto_region 8 with (first | (at_lookup; go_must (refine wpList_lookup_own_ok_int (H := Unit) _ rfl _ _ 115 rfl 2 2 .i64 (int_keyed Try.underlying2) Try.underlying115 Try.underlying2 (zero64 _) mo b.os.length (mapD b.os) rfl hB3.out.qmo _ (.int .i64 k) rfl (keyOf_int_mk Try.underlying2 hwf.out) ?_); go_must (intro c hat hwc); go_must (rw [hhas.out]); go_must (clear hwc); go_must (clear hat)) | (at_len; (refine wpList_len_own (H := Unit) _ rfl _ 115 rfl 2 2 Try.underlying115 (plainElem Try.prog 2) mo b.os.length (mapD b.os) rfl hB3.out.qmo ?_); go_must (rw [hsz.out])) | (at_mapUpdate; go_must (refine wpList_mapUpdate_own (H := Unit) _ rfl _ _ _ 115 rfl 2 2 (int_keyed Try.underlying2) Try.underlying115 (plainElem Try.prog 2) mo b.os.length (mapD b.os) rfl hB3.out.qmo hmax.out _ _ (.int .i64 k) rfl rfl (keyOf_int_mk Try.underlying2 hwf.out) (.lit (.int .i64 (b.os.length : Int))) [] (plainElem_int Try.underlying2 hwv.out) ?_); go_must (intro w1 hown1 hgrow1); ))
  (try simp only [Act.put, List.setIfInBounds_toArray, List.set_cons_zero, List.set_cons_succ])
  have hs1 : Chg (fun j => j = mo) w3 w1 := (Chg.refl (fun j => j = mo) w3).grown hgrow1 (fun j _ e => (Option.some.inj e).symm)
  have hk1 : ∀ {cs : Array Value} {t : TypeId} {g : Nat}, w3.heap[g]? = some (.cells cs t (0, 0)) → w1.heap[g]? = some (.cells cs t (0, 0)) := fun hb => hs1.blk hb (hB3.out.qmo.ne hb)
  have hbx1 := Aside0.mk (hk1 hb1.out)
  have hgw1 := Aside0.mk (hk1 hB3.out.qgw)
  have hown := fun {α : Type} {kd : Kd α} {e : TypeId} {v : SV} {xs : List α} (ho : Ow kd e w3 w0.heap.size v xs) => ho.chg hs1 (fun j h1 h2 => by
    obtain ⟨cu, ec⟩ := Kd.R_typed ho.1 j h1
    exact hB3.out.qmo.ne ec h2)
  have hrt1 := Aside0.mk (hown hB3.out.rt)
  have hrk1 := Aside0.mk (hown hB3.out.rk)
  have hC3 : Aside0 (Chg (fun _ => False) w0 w3) := ⟨h00.out.trans hz3.out (fun _ _ h => h)⟩
  have hC1 : Aside0 (Chg (fun _ => False) w0 w1) := ⟨hC3.out.trans hs1 (fun b hb h => by have := hB3.out.lg.2.2.1; omega)⟩
  obtain ⟨vA, vN, vC⟩ := vw
  clear p1 pc hown
  have p1 : w1.cell? ⟨w.heap.size, 1, none⟩ = some (.int .i64 (k : Int)) := blk_cell hbx1.out 1
  have pw : w1.cell? ⟨gw, 0, none⟩ = some (.slice vA vN vC) := blk_cell hgw1.out 0
  have hRd := own_new0 hrk1.out.1
  have hCd : Aside0 (Chg (fun j => (svl (vA, vN, vC)).ownBlock = some j) w1 w1) := ⟨Chg.refl _ _⟩
  have hl : Aside0 (((b.os.map (fun k : Nat => (k : Int))).length + 1) * 8 ≤ 140737488355328) := ⟨by rw [List.length_map]; omega⟩
  go_upto_region 9 with ((at_builtin; go_must (refine app1 (Kd.int .i64) rfl (.tmp 37) (.tmp 40) rfl Try.underlying57 infoI8 rfl (by decide) (by decide) (k : Int) rfl rfl rfl hRd hCd hl ?_); go_must (intro v9 w2 hr2 hc2); go_must (obtain ⟨zA, zN, zC, rfl⟩ := R_sl hr2.out); go_must (have hgw2 := Aside0.mk (hc2.out.blk hgw1.out (fun e => ow_blk_ne hrk1.out hgw1.out (by decide) e))); go_must (have cw2 := blk_cell hgw2.out 0); go_must (have fw2 := blk_frozen hgw2.out 0); go_must (have hbx2 := Aside0.mk (hc2.out.blk hbx1.out (fun e => ow_blk_ne hrk1.out hbx1.out (by decide) e)))))
  (try simp only [Act.put, List.setIfInBounds_toArray, List.set_cons_zero, List.set_cons_succ])
  have hkeep : ∀ {cs : Array Value} {t : TypeId} {g : Nat}, w3.heap[g]? = some (.cells cs t (0, 0)) → t ≠ 2 → g ≠ gw → (w2.setCell ⟨gw, 0, none⟩ (.slice zA zN zC)).heap[g]? = some (.cells cs t (0, 0)) := fun hb ht hg => blk_setne (hc2.out.blk (hk1 hb) (fun e => ow_blk_ne hrk1.out (hk1 hb) (fun e => ht e.symm) e)) hg
  have hgT : ∀ {cs : Array Value} {t : TypeId} {g : Nat}, w3.heap[g]? = some (.cells cs t (0, 0)) → t ≠ 57 → g ≠ gw := fun hb ht e => ht (cells_t hB3.out.qgw (e ▸ hb))
  have hmp : ∀ {m : Nat} {l : List Nat}, MapN w1 m l → MapN (w2.setCell ⟨gw, 0, none⟩ (.slice zA zN zC)) m l := fun hm => (hm.chg hc2.out (fun e => by
    obtain ⟨cu, ec⟩ := Kd.R_typed hrk1.out.1 _ e
    exact hm.ne ec rfl)).chg (chg_set w2 gw 0 _) (fun e => by subst e; exact hm.ne hgw1.out rfl)
  have hmo1 : MapN w1 mo (b.os ++ [k]) := by
    unfold MapN
    rw [mapD_snoc, hsz.out, List.length_append]
    exact hown1
  have hmm : (b.os.map (fun k : Nat => (k : Int))) ++ [(k : Int)] = ((b.os ++ [k]).map (fun k : Nat => (k : Int))) := by simp
  have hrk4 := ow_set (i := 0) (u := .slice zA zN zC) (Ow.app (v1 := (zA, zN, zC)) rfl hrk1.out hr2.out hC1.out.size) hgw2.out (by decide)
  rw [hmm] at hrk4
  have hrt4 := ow_set (i := 0) (u := .slice zA zN zC) (hrt1.out.chg hc2.out (fun j h1 h2 => Ow.ne hrt1.out hrk1.out (by decide) j h1 h2)) hgw2.out (by decide)
  have hBf : Aside0 (PBk _ w0.heap.size gs go gk mt ct mo co gw gf tA oA bA tc oc bc s ⟨b.ts, b.os ++ [k]⟩ v1 v2 v3 (zA, zN, zC)) := ⟨⟨hkeep hB3.out.qs (by decide) (hgT hB3.out.qs (by decide)), hkeep hB3.out.qo (by decide) (hgT hB3.out.qo (by decide)), hkeep hB3.out.qk (by decide) (hgT hB3.out.qk (by decide)), hkeep hB3.out.qct (by decide) (hgT hB3.out.qct (by decide)), hkeep hB3.out.qco (by decide) (hgT hB3.out.qco (by decide)), blk_set hgw2.out 0 (.slice zA zN zC), hkeep hB3.out.qf (by decide) (hgT hB3.out.qf (by decide)), hmp (hB3.out.qmt.chg hs1 hB3.out.mm), hmp hmo1, hrt4, hrk4, hB3.out.mm, hB3.out.so, hB3.out.lg⟩⟩
  have hTx : Turn2 w3 (w2.setCell ⟨gw, 0, none⟩ (.slice zA zN zC)) w0.heap.size go (vA, vN, vC) (zA, zN, zC) := ⟨fun j => (j = mo ∨ (svl (vA, vN, vC)).ownBlock = some j) ∨ j = gw, ((hs1.mono (fun _ _ h => Or.inl (Or.inl h))).trans hc2.out (fun _ _ h => Or.inl (Or.inr h))).trans (chg_set w2 gw 0 _) (fun _ _ h => Or.inr h), fun j hj => by
    rcases hj with (h1 | h1) | h1
    · rw [h1]; exact hB3.out.lg.2.2.1
    · exact hrk1.out.2 j h1
    · rw [h1]; exact hB3.out.lg.2.2.2, fun j cs t hj hc => by
    rcases hj with (h1 | h1) | h1
    · exact absurd h1 (hB3.out.qmo.ne hc)
    · exact Or.inr (Or.inr h1)
    · exact Or.inr (Or.inl (by subst h1; rw [cells_t hB3.out.qgw hc]; decide)), fun j hj => by
    rcases hr2.out.1 j hj with h1 | h1
    · exact Or.inl h1
    · exact Or.inr (by have := hs1.size; omega)⟩
  have hT5 : Aside0 (Turn2 w _ w0.heap.size go (vA, vN, vC) (zA, zN, zC)) := ⟨Turn2.new_then (hz0.out.trans hz3.out (fun _ _ h => h)) hTx⟩
  have hb51 := Aside0.mk (hB3.out.blk hTx hb1.out (by decide))
  have hb52 := Aside0.mk (hB3.out.blk hTx hb2.out (by decide))
  generalize hW : World.setCell w2 _ _ = W5 at hBf hT5 hb51 hb52 ⊢
  clear hW hkeep hgT hmp hmo1 hmm hrk4 hrt4 hTx hk1 hs1 p1 pw cw2 fw2
  have p1 : W5.cell? ⟨w.heap.size, 1, none⟩ = some (.int .i64 (k : Int)) := blk_cell hb51.out 1
  have fx := blk_frozen hb51.out 1
  go_upto_region 10 with (fail)
  (try simp only [Act.put, List.setIfInBounds_toArray, List.set_cons_zero, List.set_cons_succ])
  have hb3 := Aside0.mk (blk_set hb51.out 1 (.int .i64 (b.os.length : Int)))
  have hb4 := Aside0.mk (blk_setne (g := w.heap.size) (i := 1) (u := .int .i64 (b.os.length : Int)) hb52.out (by omega))
  have hB4 := Aside0.mk (hBf.out.set (i := 1) (u := .int .i64 (b.os.length : Int)) hb51.out (by decide))
  have hT4 := Aside0.mk (hT5.out.set (g := w.heap.size) (i := 1) (u := .int .i64 (b.os.length : Int)) (Nat.le_refl _))
  generalize hW : World.setCell W5 _ _ = W4 at hb3 hb4 hB4 hT4 ⊢
  simp only [List.setIfInBounds_toArray, List.set_cons_zero, List.set_cons_succ] at hb3
  clear hW p1 fx
  have x0 : W4.cell? ⟨w.heap.size, 0, none⟩ = some (.int .i64 kind) := blk_cell hb3.out 0
  have x1 : W4.cell? ⟨w.heap.size, 1, none⟩ = some (.int .i64 (b.os.length : Int)) := blk_cell hb3.out 1
  have y0 : W4.cell? ⟨w.heap.size + 1, 0, none⟩ = some (.int .i64 0) := blk_cell hb4.out 0
  have y1 : W4.cell? ⟨w.heap.size + 1, 1, none⟩ = some (.int .i64 0) := blk_cell hb4.out 1
  have f0 : W4.frozen? ⟨w.heap.size + 1, 0, none⟩ = false := blk_frozen hb4.out 0
  have f1 : W4.frozen? ⟨w.heap.size + 1, 1, none⟩ = false := blk_frozen hb4.out 1
  have bf := (blk_set (blk_set hb4.out 0 (.int .i64 kind)) 1 (.int .i64 (b.os.length : Int)))
  have hBg := Aside0.mk ((hB4.out.set (i := 0) (u := .int .i64 kind) hb4.out (by decide)).set (i := 1) (u := .int .i64 (b.os.length : Int)) (blk_set hb4.out 0 (.int .i64 kind)) (by decide))
  have hTf := Aside0.mk ((hT4.out.set (g := w.heap.size + 1) (i := 0) (u := .int .i64 kind) (by omega)).set (g := w.heap.size + 1) (i := 1) (u := .int .i64 (b.os.length : Int)) (by omega))
  go_wp2
  refine bodyPost_ret (results_cell_row rfl _ _ _ _ _ _ _ rfl bf Try.underlying56 rfl (by kernel_rfl)) rfl ?_
  exact ⟨v1, (zA, zN, zC), by first | (rw [hE.out]; done) | (rw [hE.out]; rfl), by rw [hE.out]; exact hBg.out, hTf.out⟩
theorem value_fn (w0 w : World) (gs go gk mt ct mo co gw gf : Nat) (tA oA bA : Option Addr) (tc oc bc : Nat) (s : QS) (b : Bk) (v1 v2 v3 vw : SV) (ros : List RO) (rbs : List RB) (L : List (List RF)) (v : QV) (h : PBk w w0.heap.size gs go gk mt ct mo co gw gf tA oA bA tc oc bc s b v1 v2 v3 vw) (hok : BkOk s b) (hV : SView w0 tA oA bA s ros rbs L) (h0 : Chg (fun _ => False) w0 w) (hn : s.texts.length ≤ 1048576) (hno : s.objs.length ≤ 1048576) (hnn : v.n ≤ 9223372036854775807) :
    Calls Try.prog 59 #[.agg #[.int .i64 v.kind, .int .i64 v.n], .pointer (some ⟨gf, 0, none⟩), .pointer (some ⟨gk, 0, none⟩), .pointer (some ⟨co, 0, none⟩), .pointer (some ⟨gw, 0, none⟩)] w (VlPost w w0.heap.size gs go gk mt ct mo co gw gf tA oA bA tc oc bc s (numV s b v) v2 v3 vw) := by
  obtain ⟨kind, n⟩ := v
  by_cases hk : kind = 4
  · exact value_text w0 w gs go gk mt ct mo co gw gf tA oA bA tc oc bc s b v1 v2 v3 vw ros rbs L kind n h hok hV h0 hn hno hk
  · cases hin : namesQ s.objs kind n with
    | false => exact value_not w0 w gs go gk mt ct mo co gw gf tA oA bA tc oc bc s b v1 v2 v3 vw ros rbs L kind n h hok hV h0 hn hno hnn hk hin
    | true =>
      obtain ⟨k, x, e, hx⟩ := namesQ_at' hin
      subst e
      have hkt := (List.getElem?_eq_some_iff.1 hx).1
      by_cases hmem : k ∈ b.os
      · exact value_old w0 w gs go gk mt ct mo co gw gf tA oA bA tc oc bc s b v1 v2 v3 vw ros rbs L kind k h hok hV h0 hn hno hk hin hkt hmem
      · exact value_new w0 w gs go gk mt ct mo co gw gf tA oA bA tc oc bc s b v1 v2 v3 vw ros rbs L kind k h hok hV h0 hn hno hk hin hkt hmem
end Go.Proofs.Ytdoghjmanogelaa.K

namespace Go.Proofs.Ytdoghjmanogelaa.K
open Go.Maps Go.RowKit Go.Proofs.YtdoghjmanogelaaW.PrintWords Go.Proofs.YtdoghjmanogelaaW.PrintLast Go.Proofs.YtdoghjmanogelaaW.PrintMore
set_option linter.unusedVariables false
set_option linter.unusedSimpArgs false
set_option maxRecDepth 100000
def EachPost (w : World) (lo : Nat) (gs go gk mt ct mo co gw gf : Nat) (tA oA bA : Option Addr) (tc oc bc : Nat) (s : QS) (r : List QV × Bk) (v2 v3 vw : SV) (e : Ending) (w' : World) : Prop := ∃ v1 vw' v : SV, e = .returned (svl v) ∧ PBk w' lo gs go gk mt ct mo co gw gf tA oA bA tc oc bc s r.2 v1 v2 v3 vw' ∧ Turn2 w w' lo go vw vw' ∧ Ow kQV 56 w' w.heap.size v r.1
def EachRel (w : World) (lo lo2 Bo : Nat) (gs go gk mt ct mo co gw gf : Nat) (tA oA bA : Option Addr) (tc oc bc : Nat) (s : QS) (b : Bk) (v2 v3 vw : SV) (l : List QV) (i : Value) (wr : World) : Prop := ∃ (k : Nat) (v1 vw2 : SV), i = .int .i64 k ∧ k ≤ l.length ∧ Aside0 (Ow kQV 56 wr lo2 (some ⟨Bo, 0, none⟩, l.length, l.length) ((mapS (numV s) b (l.take k)).1 ++ List.replicate (l.length - k) ⟨0, 0⟩)) ∧ Aside0 (PBk wr lo gs go gk mt ct mo co gw gf tA oA bA tc oc bc s (mapS (numV s) b (l.take k)).2 v1 v2 v3 vw2) ∧ Aside0 (Turn2 w wr lo go vw vw2)
theorem ow_made {w : World} {lo n : Nat} {v : SV} (h : w.ownsRow 0 56 2 (svl v) n (madeCells (Value.agg #[.int .i64 0, .int .i64 0]).cells (n * 2)).toList) (hl : ∀ b, (svl v).ownBlock = some b → lo ≤ b) : Ow kQV 56 w lo v (List.replicate n ⟨0, 0⟩) :=
  ⟨⟨fun k hk => hk.symm, _, by rw [List.length_replicate]; exact h, Kd.reps_made (z := .agg #[.int .i64 0, .int .i64 0]) rfl (by decide) (kQV_M _ _ _ _) n⟩, hl⟩
theorem set_fill {xs : List QV} {m : Nat} {r : QV} (h : 0 < m) : ((xs ++ List.replicate m (⟨0, 0⟩ : QV)).set xs.length r) = (xs ++ [r]) ++ List.replicate (m - 1) (⟨0, 0⟩ : QV) := by
  obtain ⟨n, rfl⟩ : ∃ n, m = n + 1 := ⟨m - 1, by omega⟩
  rw [List.set_append_right _ _ (Nat.le_refl _), Nat.sub_self, List.replicate_succ, List.set_cons_zero, List.append_assoc]
  rfl
set_option maxHeartbeats 4000000
theorem each_fn (w0 w : World) (gs go gk mt ct mo co gw gf : Nat) (tA oA bA : Option Addr) (tc oc bc : Nat) (s : QS) (b : Bk) (v1 v2 v3 vw : SV) (ros : List RO) (rbs : List RB) (L : List (List RF)) (A : Option Addr) (n cap : Nat) (l : List QV) (h : PBk w w0.heap.size gs go gk mt ct mo co gw gf tA oA bA tc oc bc s b v1 v2 v3 vw) (hok : BkOk s b) (hV : SView w0 tA oA bA s ros rbs L) (h0 : Chg (fun _ => False) w0 w) (hn : s.texts.length ≤ 1048576) (hno : s.objs.length ≤ 1048576) (hC : Kd.C kQV w0 A n l) (hnn : ∀ v ∈ l, v.n ≤ 9223372036854775807) (hln : l.length ≤ 1048576) :
    Calls Try.prog 61 #[.slice A n cap, .func (.func 59) #[] #[.pointer (some ⟨gf, 0, none⟩), .pointer (some ⟨gk, 0, none⟩), .pointer (some ⟨co, 0, none⟩), .pointer (some ⟨gw, 0, none⟩)]] w (EachPost w w0.heap.size gs go gk mt ct mo co gw gf tA oA bA tc oc bc s (mapS (numV s) b l) v2 v3 vw) := by
  have e0 := hC.1
  subst e0
  have hCA := Aside0.mk hC
  have hVA := Aside0.mk hV
  have hBA := Aside0.mk h
  have h0A := Aside0.mk h0
  have hnA := Aside0.mk hnn
  have hoA := Aside0.mk hok
  obtain ⟨i0, hi0, hz0, hz1, hz2⟩ := info_parts infoQV
  have hmb : Aside0 (i0.bytes * l.length ≤ 281474976710656) := ⟨by rw [hz2]; omega⟩
  have hmx : Aside0 (l.length ≤ maxLen) := ⟨by unfold maxLen; omega⟩
  clear hC hV h h0 hnn hok hz2
  go_enter Try.func61, Try.ntmps61
  go_wp2_with ((at_make; go_must (refine wpList_make_full _ rfl _ _ 52 rfl 0 56 i0 (.agg #[.int .i64 0, .int .i64 0]) 2 Try.underlying52 hi0 hz0 hz1 .i64 .i64 _ _ l.length rfl rfl rfl rfl hmb.out hmx.out (Nat.zero_le _) ?_); go_must (intro w1 hown1 hgrow1)))
  obtain ⟨Bo, hBk⟩ : ∃ Bo, Bo = w.heap.size := ⟨_, rfl⟩
  rw [← hBk] at hown1 ⊢
  have hw1 : Aside0 (Chg (fun _ => False) w w1) := ⟨(Chg.refl (fun _ => False) w).grown hgrow1 (fun j _ e => by cases e)⟩
  have hO0 := Aside0.mk (ow_made (v := (some ⟨Bo, 0, none⟩, l.length, l.length)) (lo := w.heap.size) hown1 (fun j hj => by have h7 := Option.some.inj (show some Bo = some j from hj); omega))
  clear hown1 hgrow1 hBk hi0 hz0 hz1 hmb hmx
  go_loopw [12] (fun i wr => EachRel w w0.heap.size w.heap.size Bo gs go gk mt ct mo co gw gf tA oA bA tc oc bc s b v2 v3 vw l i wr) (fun i _ => l.length - (intOf i).toNat)
  case atStart => exact ⟨0, v1, vw, rfl, by omega, hO0, ⟨hBA.out.new hw1.out⟩, ⟨Turn2.of_new hw1.out⟩⟩
  case round =>
    clear hO0 hw1
    obtain ⟨k, v1, vw2, rfl, hk, hO, hB, hT⟩ := hrel
    by_cases hlt : k < l.length
    · have hC0 : Aside0 (Chg (fun _ => False) w0 wr) := ⟨Turn2.chg h0A.out hT.out⟩
      obtain ⟨ad, vk, vn, e1, e2, x0, x1⟩ := kQV_at (C_chg hCA.out (hC0.out.below (fun _ _ h => h))) k hlt
      subst e1
      have hk0 : (0 : Int) ≤ k := by omega
      have hk1 : (k : Int) < l.length := by omega
      have ht := Aside0.mk (mapS_take (f := numV s) (b := b) e2)
      have hBok : Aside0 (BkOk s (mapS (numV s) b (l.take k)).2) := ⟨mapS_inv (P := BkOk s) (fun b v h => numV_ok h) _ b hoA.out⟩
      have hvn : Aside0 ((⟨vk, vn⟩ : QV).n ≤ 9223372036854775807) := ⟨hnA.out _ (List.mem_of_getElem? e2)⟩
      have hml : Aside0 ((mapS (numV s) b (l.take k)).1.length = k) := ⟨by rw [mapS_len, List.length_take]; omega⟩
      have hlen : Aside0 (k < l.length) := ⟨hlt⟩
      clear e2
      generalize (mapS (numV s) b (l.take k)).2 = B at hB hBok ht
      generalize (mapS (numV s) b (l.take k)).1 = xs at hO ht hml
      go_wp2_with ((go_at_call 59; go_must (refine (value_fn w0 wr gs go gk mt ct mo co gw gf tA oA bA tc oc bc s B v1 v2 v3 vw2 ros rbs L ⟨vk, vn⟩ hB.out hBok.out hVA.out hC0.out hn hno hvn.out).mono ?_); go_must (rintro e w2 ⟨v1', vw', rfl, hB1, hT1⟩); go_must (replace hB1 := Aside0.mk hB1); go_must (replace hT1 := Aside0.mk hT1); go_must (have hO1 := Aside0.mk (ow_turn2 hO.out hT1.out (fun j h1 h2 => ow_blk_ne hO.out (h2 ▸ hB.out.qo) (by decide) h1) (by decide) (apart_typ hB.out.rk hO.out (by decide)))); go_must (obtain ⟨cu, hcu⟩ := Kd.R_typed hO1.out.1 Bo rfl); go_must (have f0 := blk_frozen hcu (k * 2)); go_must (have f1 := blk_frozen hcu (k * 2 + 1)); go_must (obtain ⟨bd, zk, zn, e3, e4, y0, y1⟩ := kQV_at hO1.out.toC k hlen.out); go_must (injection e3 with e3); go_must (subst e3); go_must (rw [add_plain] at y0 y1); go_must (simp only at y0 y1); go_must (have hzz := Aside0.mk e4); go_must (clear e4 hcu)))
      go_roundw
      case measure => first | (simp [intOf]; done) | (simp [intOf]; omega)
      case rel =>
        obtain ⟨cu, hcu⟩ := Kd.R_typed hO1.out.1 Bo rfl
        have hlo := hO1.out.2 Bo rfl
        have hp1 := Ow.put (j := 0) (m := 2) (u := .int .i64 (numV s B ⟨vk, vn⟩).1.kind) (r' := ⟨(numV s B ⟨vk, vn⟩).1.kind, zn⟩) kQV_K kQV_M rfl hO1.out hzz.out rfl (by decide)
        have hp2 := Ow.put (j := 1) (m := 2) (u := .int .i64 (numV s B ⟨vk, vn⟩).1.n) (r' := (numV s B ⟨vk, vn⟩).1) kQV_K kQV_M rfl hp1 (List.getElem?_set_self (List.getElem?_eq_some_iff.1 hzz.out).1) rfl (by decide)
        rw [List.set_set] at hp2
        have hfl := set_fill (xs := xs) (m := l.length - k) (r := (numV s B ⟨vk, vn⟩).1) (by omega)
        rw [hml.out] at hfl
        rw [hfl, show l.length - k - 1 = l.length - (k + 1) by omega] at hp2
        refine ⟨k + 1, v1', vw', by go_num, by omega, ⟨by rw [ht.out]; exact hp2⟩, ⟨by rw [ht.out]; exact (hB1.out.set (i := k * 2) (u := .int .i64 (numV s B ⟨vk, vn⟩).1.kind) hcu (by decide)).set (i := k * 2 + 1) (u := .int .i64 (numV s B ⟨vk, vn⟩).1.n) (blk_set hcu (k * 2) (.int .i64 (numV s B ⟨vk, vn⟩).1.kind)) (by decide)⟩, ⟨((hT.out.trans hT1.out).set (g := Bo) (i := k * 2) (u := .int .i64 (numV s B ⟨vk, vn⟩).1.kind) hlo).set (g := Bo) (i := k * 2 + 1) (u := .int .i64 (numV s B ⟨vk, vn⟩).1.n) hlo⟩⟩
    · obtain rfl : k = l.length := by omega
      go_wp2
      go_ret
      have h1 := hB.out
      have h2 := hO.out
      rw [List.take_length] at h1 h2
      rw [Nat.sub_self, List.replicate_zero, List.append_nil] at h2
      exact ⟨v1, vw2, (some ⟨Bo, 0, none⟩, l.length, l.length), rfl, h1, hT.out, h2⟩
end Go.Proofs.Ytdoghjmanogelaa.K

namespace Go.Proofs.Ytdoghjmanogelaa.K
open Go.Maps Go.RowKit Go.Proofs.YtdoghjmanogelaaW.PrintWords Go.Proofs.YtdoghjmanogelaaW.PrintLast Go.Proofs.YtdoghjmanogelaaW.PrintMore
set_option linter.unusedVariables false
set_option linter.unusedSimpArgs false
set_option maxRecDepth 100000
def ClPost (w : World) (ks : List Int) (e : Ending) (w' : World) : Prop := ∃ v : SV, e = .returned (svl v) ∧ Ow (Kd.int .i64) 2 w' w.heap.size v ks ∧ Chg (fun _ => False) w w'
set_option maxHeartbeats 1000000
theorem clone64 (w : World) (A : Option Addr) (n cap : Nat) (ks : List Int) (hC : Kd.C (Kd.int .i64) w A n ks) (hn : ks.length ≤ 1048576) :
    Calls Try.prog 87 #[.slice A n cap] w (ClPost w ks) := by
  cases A with
  | none =>
    obtain ⟨rfl, rfl⟩ := C_nil_eq hC
    clear hC
    have hnil : ∀ (w : World), (binOp .eql 57 (.slice none 0 cap) (.slice none 0 0)).run Try.prog w = .ok (.bool true) w := fun w => Lib.run_eql_slice_nil w _ _ _ _ _ _ _ Try.underlying57
    go_enter Try.func87, Try.ntmps87
    go_wp2
    go_ret
    exact ⟨(none, 0, 0), rfl, Ow.nil _ _ _ _, Chg.refl _ _⟩
  | some ad =>
    have e0 := hC.1
    subst e0
    have hR : Aside0 (Kd.C (Kd.int .i64) (w.alloc (.cells #[] 2)) (some ad) ks.length ks) := ⟨C_chg hC (((Chg.refl (fun _ => False) w).alloc _).below (fun _ _ h => h))⟩
    have hO : Aside0 ((Kd.int .i64).R 2 (w.alloc (.cells #[] 2)) 0 (New (fun _ => False) w (w.alloc (.cells #[] 2))) (.slice (some ⟨w.heap.size, 0, none⟩) 0 0) []) := ⟨made0 _ w _⟩
    have hC0 : Aside0 (Chg (fun _ => False) w (w.alloc (.cells #[] 2))) := ⟨(Chg.refl _ _).alloc _⟩
    have hl : Aside0 ((([] : List Int).length + ks.length) * 8 ≤ 140737488355328) := ⟨by simp only [List.length_nil]; omega⟩
    clear hC
    have hnil : ∀ (w : World), (binOp .eql 57 (.slice (some ad) ks.length cap) (.slice none 0 0)).run Try.prog w = .ok (.bool false) w := fun w => Lib.run_eql_slice_nil w _ _ _ _ _ _ _ Try.underlying57
    go_enter Try.func87, Try.ntmps87
    go_wp2_with ((at_builtin; go_must (refine appN (Kd.int .i64) rfl (.tmp 5) (.tmp 6) rfl Try.underlying57 infoI8 rfl (by decide) (by decide) rfl rfl hO hR (fun _ _ h => h) hC0 hl ?_); go_must (intro v1 w1 hr1 hc1); go_must (obtain ⟨zA, zN, zC, rfl⟩ := R_sl hr1.out)))
    go_ret
    exact ⟨(zA, zN, zC), rfl, Ow.of_new (v := (zA, zN, zC)) rfl hr1.out (Nat.le_refl _), hc1.out⟩
def RnPost (w : World) (lo : Nat) (gs go gk mt ct mo co gw gf : Nat) (tA oA bA : Option Addr) (tc oc bc : Nat) (s : QS) (r : QO × Bk) (v2 v3 vw : SV) (e : Ending) (w' : World) : Prop := ∃ v1 vw' vi vk : SV, e = .returned (.agg #[.int .i64 r.1.kind, svl vi, svl vk, .int .i64 r.1.fn, .int .i64 r.1.cap, .bool r.1.shut]) ∧ PBk w' lo gs go gk mt ct mo co gw gf tA oA bA tc oc bc s r.2 v1 v2 v3 vw' ∧ Turn2 w w' lo go vw vw' ∧ Ow kQV 56 w' w.heap.size vi r.1.items ∧ Ow (Kd.int .i64) 2 w' w.heap.size vk r.1.keys ∧ apart vw' vk
theorem PBk.row64 {w w' : World} {lo gs go gk mt ct mo co gw gf : Nat} {tA oA bA : Option Addr} {tc oc bc : Nat} {s : QS} {b : Bk} {v1 v2 v3 vw v : SV} {lo' : Nat} {xs : List Int} (h : PBk w lo gs go gk mt ct mo co gw gf tA oA bA tc oc bc s b v1 v2 v3 vw) (ho : Ow (Kd.int .i64) 2 w lo' v xs) (ha : apart vw v) (hc : Chg (fun j => (svl v).ownBlock = some j) w w') : PBk w' lo gs go gk mt ct mo co gw gf tA oA bA tc oc bc s b v1 v2 v3 vw :=
  h.hit hc (fun j hj hp => by
    obtain ⟨cu, ec⟩ := Kd.R_typed ho.1 j hj
    rcases hp with e | e | e | e | e | e | e | e | e | e | e
    · subst e; exact absurd (cells_t h.qs ec) (by decide)
    · subst e; exact absurd (cells_t h.qo ec) (by decide)
    · subst e; exact absurd (cells_t h.qk ec) (by decide)
    · subst e; exact absurd (cells_t h.qct ec) (by decide)
    · subst e; exact absurd (cells_t h.qco ec) (by decide)
    · subst e; exact absurd (cells_t h.qgw ec) (by decide)
    · subst e; exact absurd (cells_t h.qf ec) (by decide)
    · exact h.qmt.ne ec e
    · exact h.qmo.ne ec e
    · exact Ow.ne h.rt ho (by decide) j e hj
    · exact ha j e hj)
set_option maxHeartbeats 4000000
theorem renumbered_not (w0 w : World) (gs go gk mt ct mo co gw gf : Nat) (tA oA bA : Option Addr) (tc oc bc : Nat) (s : QS) (b : Bk) (v1 v2 v3 vw : SV) (ros : List RO) (rbs : List RB) (L : List (List RF)) (iA kA : Option Addr) (iN iC kN kC : Nat) (xk xf xc : Int) (xh : Bool) (its : List QV) (ks : List Int) (h : PBk w w0.heap.size gs go gk mt ct mo co gw gf tA oA bA tc oc bc s b v1 v2 v3 vw) (hok : BkOk s b) (hV : SView w0 tA oA bA s ros rbs L) (h0 : Chg (fun _ => False) w0 w) (hn : s.texts.length ≤ 1048576) (hno : s.objs.length ≤ 1048576) (hi : Kd.C kQV w0 iA iN its) (hkk : Kd.C (Kd.int .i64) w0 kA kN ks) (hnn : ∀ v ∈ its, v.n ≤ 9223372036854775807) (hln : its.length ≤ 1048576) (hlk : ks.length ≤ 1048576) (hk : xk ≠ 7) :
    Calls Try.prog 62 #[.agg #[.int .i64 xk, .slice iA iN iC, .slice kA kN kC, .int .i64 xf, .int .i64 xc, .bool xh], .func (.func 58) #[] #[.pointer (some ⟨gs, 0, none⟩), .pointer (some ⟨ct, 0, none⟩), .pointer (some ⟨go, 0, none⟩)], .func (.func 59) #[] #[.pointer (some ⟨gf, 0, none⟩), .pointer (some ⟨gk, 0, none⟩), .pointer (some ⟨co, 0, none⟩), .pointer (some ⟨gw, 0, none⟩)]] w (RnPost w w0.heap.size gs go gk mt ct mo co gw gf tA oA bA tc oc bc s (numO s b ⟨xk, its, ks, xf, xc, xh⟩) v2 v3 vw) := by
  have hE : Aside0 (numO s b ⟨xk, its, ks, xf, xc, xh⟩ = (⟨xk, (mapS (numV s) b its).1, ks, xf, xc, xh⟩, (mapS (numV s) b its).2)) := ⟨by unfold numO; rw [if_pos hk]⟩
  have hk7 : (xk == 7) = false := by simpa using hk
  clear hk
  have hiA := Aside0.mk hi
  have hkA := Aside0.mk hkk
  have hVA := Aside0.mk hV
  have hBA := Aside0.mk h
  have h0A := Aside0.mk h0
  have hnA := Aside0.mk hnn
  have hoA := Aside0.mk hok
  have hliA := Aside0.mk hln
  have hlkA := Aside0.mk hlk
  clear hi hkk hV h h0 hnn hok
  go_enter Try.func62, Try.ntmps62
  go_upto_region 1 with (fail)
  (try simp only [Act.put, List.setIfInBounds_toArray, List.set_cons_zero, List.set_cons_succ])
  generalize hW : World.alloc (World.alloc w _) _ = W0
  have B1 : Aside0 (W0.heap[w.heap.size]? = some (.cells #[.int .i64 xk, .slice iA iN iC, .slice kA kN kC, .int .i64 xf, .int .i64 xc, .bool xh] 59)) := ⟨by rw [← hW]; exact ((Chg.refl (fun _ => False) (w.alloc _)).alloc _).blk (heap_alloc_new w _) (fun e => e)⟩
  have B2 : Aside0 (W0.heap[w.heap.size + 1]? = some (.cells #[.int .i64 0, .slice none 0 0, .slice none 0 0, .int .i64 0, .int .i64 0, .bool false] 59)) := ⟨by rw [← hW]; exact heap_alloc2_new w _ _⟩
  have hz0 : Aside0 (Chg (fun _ => False) w W0) := ⟨by rw [← hW]; exact cg⟩
  clear hW
  have hgt := blk_lt B2.out
  have hB0 := Aside0.mk (hBA.out.new hz0.out)
  have h00 : Aside0 (Chg (fun _ => False) w0 W0) := ⟨h0A.out.trans hz0.out (fun _ _ h => h)⟩
  have p0 : W0.cell? ⟨w.heap.size, 0, none⟩ = some (.int .i64 xk) := blk_cell B1.out 0
  have p1 : W0.cell? ⟨w.heap.size, 1, none⟩ = some (.slice iA iN iC) := blk_cell B1.out 1
  have p2 : W0.cell? ⟨w.heap.size, 2, none⟩ = some (.slice kA kN kC) := blk_cell B1.out 2
  have hzd : Aside0 (Chg (fun _ => False) W0 W0.drew) := ⟨(Chg.refl (fun _ => False) W0).drew⟩
  go_upto_region 2 with (fail)
  (try simp only [Act.put, List.setIfInBounds_toArray, List.set_cons_zero, List.set_cons_succ])
  refine start_ (n := 11) (S := fun w' => w'.cell? ⟨w.heap.size, 1, none⟩ = some (.slice iA iN iC) ∧ w'.cell? ⟨w.heap.size, 2, none⟩ = some (.slice kA kN kC)) (ds := [8, 10]) #[false, false, false, false, false, false, false, false, false, false, false] (by kernel_rfl) rfl rfl ⟨p1, p2⟩ (fun hHeld => ?_)
  refine pure_ (i := 0) (N := some 13) (v := ?_) (a' := ?_) #[true, false, false, false, false, false, false, false, false, false, false] rfl rfl (by kernel_rfl) (fun _ _ _ h => h) (Or.inl ⟨by rfl, ?_⟩) ?_ ?_
  rotate_left
  · intro w'
    go_simp
    with_reducible rfl
  rotate_left
  · simp only [Act.put, List.setIfInBounds_toArray, List.set_cons_zero, List.set_cons_succ, i64_w, i32_w]
    rfl
  refine pure_ (i := 2) (N := some 15) (v := ?_) (a' := ?_) #[true, false, true, false, false, false, false, false, false, false, false] rfl rfl (by kernel_rfl) (fun _ _ _ h => h) (Or.inl ⟨by rfl, ?_⟩) ?_ ?_
  rotate_left
  · intro w'
    go_simp
    with_reducible rfl
  rotate_left
  · simp only [Act.put, List.setIfInBounds_toArray, List.set_cons_zero, List.set_cons_succ, i64_w, i32_w]
    rfl
  refine pure_ (i := 4) (N := some 17) (v := ?_) (a' := ?_) #[true, false, true, false, true, false, false, false, false, false, false] rfl rfl (by kernel_rfl) (fun _ _ _ h => h) (Or.inl ⟨by rfl, ?_⟩) ?_ ?_
  rotate_left
  · intro w'
    go_simp
    with_reducible rfl
  rotate_left
  · simp only [Act.put, List.setIfInBounds_toArray, List.set_cons_zero, List.set_cons_succ, i64_w, i32_w]
    rfl
  refine take_ (i := 1) (N := some 14) (v := ?_) (a' := ?_) #[true, true, true, false, true, false, false, false, false, false, false] rfl rfl (by kernel_rfl) (fun _ _ _ h => h) (Or.inl ⟨by rfl, ?_⟩) hHeld ?_ ?_
  rotate_left
  · rintro w' ⟨s0, s1⟩
    go_simp
    with_reducible rfl
  rotate_left
  · simp only [Act.put, List.setIfInBounds_toArray, List.set_cons_zero, List.set_cons_succ, i64_w, i32_w]
    rfl
  refine take_ (i := 5) (N := some 18) (v := ?_) (a' := ?_) #[true, true, true, false, true, true, false, false, false, false, false] rfl rfl (by kernel_rfl) (fun _ _ _ h => h) (Or.inl ⟨by rfl, ?_⟩) hHeld ?_ ?_
  rotate_left
  · rintro w' ⟨s0, s1⟩
    go_simp
    with_reducible rfl
  rotate_left
  · simp only [Act.put, List.setIfInBounds_toArray, List.set_cons_zero, List.set_cons_succ, i64_w, i32_w]
    rfl
  refine one_ (i := 3) (N := some 16) #[true, true, true, true, true, true, false, false, false, false, false] rfl rfl (by kernel_rfl) (by decide) (fun K hK => ?_)
  refine goes_ Try.func61 (by kernel_rfl) rfl #[.slice iA iN iC, .func (.func 59) #[] #[.pointer (some ⟨gf, 0, none⟩), .pointer (some ⟨gk, 0, none⟩), .pointer (some ⟨co, 0, none⟩), .pointer (some ⟨gw, 0, none⟩)]] (by rfl) rfl rfl (by simp only [List.map_toArray, List.map_cons, List.map_nil]; rfl) ?_
  with_reducible refine (each_fn w0 W0.drew gs go gk mt ct mo co gw gf tA oA bA tc oc bc s b v1 v2 v3 vw ros rbs L iA iN iC its (hB0.out.new hzd.out) hoA.out hVA.out (h00.out.trans hzd.out (fun _ _ h => h)) hn hno hiA.out hnA.out hliA.out).mono ?_
  rintro e w1 ⟨v1', vw', ⟨vA, vN, vC⟩, rfl, hB1, hT1, hO1⟩
  refine ⟨.slice vA vN vC, rfl, ?_⟩
  have hT10 := Turn2.new_then hzd.out hT1
  have hb11 := Aside0.mk (hB0.out.blk hT10 B1.out (by decide))
  have hb12 := Aside0.mk (hB0.out.blk hT10 B2.out (by decide))
  have hT11 := Aside0.mk (Turn2.new_then hz0.out hT10)
  replace hB1 := Aside0.mk hB1
  replace hO1 := Aside0.mk (hO1.mono (lo' := w.heap.size) (by have := hz0.out.size; have := hzd.out.size; omega))
  clear hT1 hT10
  have h01 : Aside0 (Chg (fun _ => False) w0 w1) := ⟨Turn2.chg h0A.out hT11.out⟩
  refine hK.out _ _ ⟨(blk_cell hb11.out 1), (blk_cell hb11.out 2)⟩ (fun hHeld => ?_)
  clear hK K
  refine norm_ (a' := ?_) ?_ ?_
  rotate_left
  · show Act.put _ (some 16) _ = _
    simp only [Act.put, List.setIfInBounds_toArray, List.set_cons_zero, List.set_cons_succ, i64_w, i32_w]
    rfl
  refine pure_ (i := 7) (N := some 20) (v := ?_) (a' := ?_) #[true, true, true, true, true, true, false, true, false, false, false] rfl rfl (by kernel_rfl) (fun _ _ _ h => h) (Or.inl ⟨by rfl, ?_⟩) ?_ ?_
  rotate_left
  · intro w'
    go_simp
    with_reducible rfl
  rotate_left
  · simp only [Act.put, List.setIfInBounds_toArray, List.set_cons_zero, List.set_cons_succ, i64_w, i32_w]
    rfl
  refine one_ (i := 6) (N := some 19) #[true, true, true, true, true, true, true, true, false, false, false] rfl rfl (by kernel_rfl) (by decide) (fun K hK => ?_)
  refine goes_ Try.func87 (by kernel_rfl) rfl #[.slice kA kN kC] (by rfl) rfl rfl (by simp only [List.map_toArray, List.map_cons, List.map_nil]; rfl) ?_
  with_reducible refine (clone64 w1 kA kN kC ks (C_chg hkA.out (h01.out.below (fun _ _ h => h))) hlkA.out).mono ?_
  rintro e w2 ⟨⟨qA, qN, qC⟩, rfl, hK2, hc2⟩
  refine ⟨.slice qA qN qC, rfl, ?_⟩
  have hb21 := Aside0.mk (hc2.blk hb11.out (fun h => h))
  have hb22 := Aside0.mk (hc2.blk hb12.out (fun h => h))
  replace hK2 := Aside0.mk hK2
  replace hc2 := Aside0.mk hc2
  have f1 := blk_frozen hb21.out 1
  have f2 := blk_frozen hb21.out 2
  have y1 := blk_cell hb21.out 1
  have y2 := blk_cell hb21.out 2
  refine hK.out _ _ ⟨(blk_cell hb21.out 1), (blk_cell hb21.out 2)⟩ (fun hHeld => ?_)
  clear hK K
  refine norm_ (a' := ?_) ?_ ?_
  rotate_left
  · show Act.put _ (some 19) _ = _
    simp only [Act.put, List.setIfInBounds_toArray, List.set_cons_zero, List.set_cons_succ, i64_w, i32_w]
    rfl
  refine last_ (i := 8) (N := none) #[true, true, true, true, true, true, true, true, true, false, false] rfl rfl (by kernel_rfl) (by decide) (fun K hK => ?_)
  refine skip_ (w1 := ?_) (by rfl) rfl ?_ ?_
  rotate_left
  · go_simp
    rfl
  refine hK.out _ _ ?_
  clear hK K
  refine pure_ (i := 9) (N := some 21) (v := ?_) (a' := ?_) #[true, true, true, true, true, true, true, true, true, true, false] rfl rfl (by kernel_rfl) (fun _ _ _ h => h) (Or.inl ⟨by rfl, ?_⟩) ?_ ?_
  rotate_left
  · intro w'
    go_simp
    with_reducible rfl
  rotate_left
  · simp only [Act.put, List.setIfInBounds_toArray, List.set_cons_zero, List.set_cons_succ, i64_w, i32_w]
    rfl
  refine last_ (i := 10) (N := none) #[true, true, true, true, true, true, true, true, true, true, true] rfl rfl (by kernel_rfl) (by decide) (fun K hK => ?_)
  refine skip_ (w1 := ?_) (by rfl) rfl ?_ ?_
  rotate_left
  · go_simp
    rfl
  refine hK.out _ _ ?_
  clear hK K
  refine done_ (by kernel_rfl) ?_
  have hb31 := Aside0.mk (blk_set (blk_set hb21.out 1 (.slice vA vN vC)) 2 (.slice qA qN qC))
  have hb32 := Aside0.mk (blk_setne (g := w.heap.size) (i := 2) (u := .slice qA qN qC) (blk_setne (g := w.heap.size) (i := 1) (u := .slice vA vN vC) hb22.out (by omega)) (by omega))
  have hB2 := hB1.out.new hc2.out
  have hB3 := Aside0.mk ((hB2.set (i := 1) (u := .slice vA vN vC) hb21.out (by decide)).set (i := 2) (u := .slice qA qN qC) (blk_set hb21.out 1 (.slice vA vN vC)) (by decide))
  have hT3 := Aside0.mk (((hT11.out.then_new hc2.out).set (g := w.heap.size) (i := 1) (u := .slice vA vN vC) (Nat.le_refl _)).set (g := w.heap.size) (i := 2) (u := .slice qA qN qC) (Nat.le_refl _))
  have hO2 := hO1.out.chg hc2.out (fun _ _ h => h)
  have hO3 := Aside0.mk (ow_set (i := 2) (u := .slice qA qN qC) (ow_set (i := 1) (u := .slice vA vN vC) hO2 hb21.out (by decide)) (blk_set hb21.out 1 (.slice vA vN vC)) (by decide))
  have hK3 := Aside0.mk (ow_set (i := 2) (u := .slice qA qN qC) (ow_set (i := 1) (u := .slice vA vN vC) hK2.out hb21.out (by decide)) (blk_set hb21.out 1 (.slice vA vN vC)) (by decide))
  have hap : Aside0 (apart vw' (qA, qN, qC)) := ⟨fun j h1 h2 => by
    have h3 := hB1.out.rk.lt j h1
    have h4 := hK2.out.2 j h2
    omega⟩
  have hlw := hT11.out.size
  generalize hW : World.setCell (World.setCell w2 _ _) _ _ = W3 at hb31 hb32 hB3 hT3 hO3 hK3 ⊢
  simp only [List.setIfInBounds_toArray, List.set_cons_zero, List.set_cons_succ] at hb31
  replace hK3 := Aside0.mk (hK3.out.mono hlw)
  clear hW hB2 hO2 p0 p1 p2 f1 f2 y1 y2 hb21 hb22 hb11 hb12
  go_upto_region 3 with (fail)
  (try simp only [Act.put, List.setIfInBounds_toArray, List.set_cons_zero, List.set_cons_succ])
  have x0 : W3.cell? ⟨w.heap.size, 0, none⟩ = some (.int .i64 xk) := blk_cell hb31.out 0
  have x1 : W3.cell? ⟨w.heap.size, 1, none⟩ = some (.slice vA vN vC) := blk_cell hb31.out 1
  have x2 : W3.cell? ⟨w.heap.size, 2, none⟩ = some (.slice qA qN qC) := blk_cell hb31.out 2
  have x3 : W3.cell? ⟨w.heap.size, 3, none⟩ = some (.int .i64 xf) := blk_cell hb31.out 3
  have x4 : W3.cell? ⟨w.heap.size, 4, none⟩ = some (.int .i64 xc) := blk_cell hb31.out 4
  have x5 : W3.cell? ⟨w.heap.size, 5, none⟩ = some (.bool xh) := blk_cell hb31.out 5
  have y0 : W3.cell? ⟨w.heap.size + 1, 0, none⟩ = some (.int .i64 0) := blk_cell hb32.out 0
  have y1 : W3.cell? ⟨w.heap.size + 1, 1, none⟩ = some (.slice none 0 0) := blk_cell hb32.out 1
  have y2 : W3.cell? ⟨w.heap.size + 1, 2, none⟩ = some (.slice none 0 0) := blk_cell hb32.out 2
  have y3 : W3.cell? ⟨w.heap.size + 1, 3, none⟩ = some (.int .i64 0) := blk_cell hb32.out 3
  have y4 : W3.cell? ⟨w.heap.size + 1, 4, none⟩ = some (.int .i64 0) := blk_cell hb32.out 4
  have y5 : W3.cell? ⟨w.heap.size + 1, 5, none⟩ = some (.bool false) := blk_cell hb32.out 5
  have f0 : W3.frozen? ⟨w.heap.size + 1, 0, none⟩ = false := blk_frozen hb32.out 0
  have f1 : W3.frozen? ⟨w.heap.size + 1, 1, none⟩ = false := blk_frozen hb32.out 1
  have f2 : W3.frozen? ⟨w.heap.size + 1, 2, none⟩ = false := blk_frozen hb32.out 2
  have f3 : W3.frozen? ⟨w.heap.size + 1, 3, none⟩ = false := blk_frozen hb32.out 3
  have f4 : W3.frozen? ⟨w.heap.size + 1, 4, none⟩ = false := blk_frozen hb32.out 4
  have f5 : W3.frozen? ⟨w.heap.size + 1, 5, none⟩ = false := blk_frozen hb32.out 5
  have bf := (blk_set (blk_set (blk_set (blk_set (blk_set (blk_set hb32.out 0 (.int .i64 xk)) 1 (.slice vA vN vC)) 2 (.slice qA qN qC)) 3 (.int .i64 xf)) 4 (.int .i64 xc)) 5 (.bool xh))
  have hBf := Aside0.mk ((((((hB3.out.set (i := 0) (u := .int .i64 xk) hb32.out (by decide)).set (i := 1) (u := .slice vA vN vC) (blk_set hb32.out 0 (.int .i64 xk)) (by decide)).set (i := 2) (u := .slice qA qN qC) (blk_set (blk_set hb32.out 0 (.int .i64 xk)) 1 (.slice vA vN vC)) (by decide)).set (i := 3) (u := .int .i64 xf) (blk_set (blk_set (blk_set hb32.out 0 (.int .i64 xk)) 1 (.slice vA vN vC)) 2 (.slice qA qN qC)) (by decide)).set (i := 4) (u := .int .i64 xc) (blk_set (blk_set (blk_set (blk_set hb32.out 0 (.int .i64 xk)) 1 (.slice vA vN vC)) 2 (.slice qA qN qC)) 3 (.int .i64 xf)) (by decide)).set (i := 5) (u := .bool xh) (blk_set (blk_set (blk_set (blk_set (blk_set hb32.out 0 (.int .i64 xk)) 1 (.slice vA vN vC)) 2 (.slice qA qN qC)) 3 (.int .i64 xf)) 4 (.int .i64 xc)) (by decide))
  have hTf := Aside0.mk ((((((hT3.out.set (g := w.heap.size + 1) (i := 0) (u := .int .i64 xk) (by omega)).set (g := w.heap.size + 1) (i := 1) (u := .slice vA vN vC) (by omega)).set (g := w.heap.size + 1) (i := 2) (u := .slice qA qN qC) (by omega)).set (g := w.heap.size + 1) (i := 3) (u := .int .i64 xf) (by omega)).set (g := w.heap.size + 1) (i := 4) (u := .int .i64 xc) (by omega)).set (g := w.heap.size + 1) (i := 5) (u := .bool xh) (by omega))
  have hif := Aside0.mk (ow_set (i := 5) (u := .bool xh) (ow_set (i := 4) (u := .int .i64 xc) (ow_set (i := 3) (u := .int .i64 xf) (ow_set (i := 2) (u := .slice qA qN qC) (ow_set (i := 1) (u := .slice vA vN vC) (ow_set (i := 0) (u := .int .i64 xk) hO3.out hb32.out (by decide)) (blk_set hb32.out 0 (.int .i64 xk)) (by decide)) (blk_set (blk_set hb32.out 0 (.int .i64 xk)) 1 (.slice vA vN vC)) (by decide)) (blk_set (blk_set (blk_set hb32.out 0 (.int .i64 xk)) 1 (.slice vA vN vC)) 2 (.slice qA qN qC)) (by decide)) (blk_set (blk_set (blk_set (blk_set hb32.out 0 (.int .i64 xk)) 1 (.slice vA vN vC)) 2 (.slice qA qN qC)) 3 (.int .i64 xf)) (by decide)) (blk_set (blk_set (blk_set (blk_set (blk_set hb32.out 0 (.int .i64 xk)) 1 (.slice vA vN vC)) 2 (.slice qA qN qC)) 3 (.int .i64 xf)) 4 (.int .i64 xc)) (by decide))
  have hkf := Aside0.mk (ow_set (i := 5) (u := .bool xh) (ow_set (i := 4) (u := .int .i64 xc) (ow_set (i := 3) (u := .int .i64 xf) (ow_set (i := 2) (u := .slice qA qN qC) (ow_set (i := 1) (u := .slice vA vN vC) (ow_set (i := 0) (u := .int .i64 xk) hK3.out hb32.out (by decide)) (blk_set hb32.out 0 (.int .i64 xk)) (by decide)) (blk_set (blk_set hb32.out 0 (.int .i64 xk)) 1 (.slice vA vN vC)) (by decide)) (blk_set (blk_set (blk_set hb32.out 0 (.int .i64 xk)) 1 (.slice vA vN vC)) 2 (.slice qA qN qC)) (by decide)) (blk_set (blk_set (blk_set (blk_set hb32.out 0 (.int .i64 xk)) 1 (.slice vA vN vC)) 2 (.slice qA qN qC)) 3 (.int .i64 xf)) (by decide)) (blk_set (blk_set (blk_set (blk_set (blk_set hb32.out 0 (.int .i64 xk)) 1 (.slice vA vN vC)) 2 (.slice qA qN qC)) 3 (.int .i64 xf)) 4 (.int .i64 xc)) (by decide))
  go_wp2
  refine bodyPost_ret (results_cell_row rfl _ _ _ _ _ _ _ rfl bf Try.underlying59 rfl (by kernel_rfl)) rfl ?_
  refine ⟨v1', vw', (vA, vN, vC), (qA, qN, qC), ?_, ?_, hTf.out, ?_, ?_, hap.out⟩
  · first | (rw [hE.out]; done) | (rw [hE.out]; rfl) | (rw [hE.out]; simp)
  · rw [hE.out]; exact hBf.out
  · rw [hE.out]; exact hif.out
  · rw [hE.out]; exact hkf.out
end Go.Proofs.Ytdoghjmanogelaa.K
